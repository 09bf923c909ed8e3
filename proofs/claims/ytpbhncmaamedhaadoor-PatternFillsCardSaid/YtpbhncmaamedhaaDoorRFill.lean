import Derived.Test.YtpbhncmaamedhaaDoorEscW
namespace Go.Proofs.YtpbhncmaamedhaaDoor
open Go.RowKit Go.Proofs.Lexi

/-! The reference's Fill: spans (39), decimal (59), capture (41), Fill (21), against the same models. -/
theorem capOk_ref (len x y : Int) : capOkM len (x, y) = (decide (0 ≤ x) && decide (x ≤ len) && (y == -1 || (decide (x ≤ y) && decide (y ≤ len)))) := by
  unfold capOkM withinM
  rw [Bool.eq_iff_iff]
  simp
  omega
theorem right_ref (len : Int) (m : AM) : rightM len m = (withinM len m.f m.t && m.caps.all (capOkM len)) := by unfold rightM; rw [Bool.and_comm]
set_option maxRecDepth 100000 in
set_option maxHeartbeats 4000000 in
theorem spans_c (s : ByteArray) (_hs : s.size ≤ 100000000) (m : AM) (u : Value) (w : World) (hu : CapsR w u m.caps) (hl : m.caps.length ≤ 100000000) :
    Calls Tryd.prog 39 #[.string s, .agg #[.int .i64 m.f, .int .i64 m.t, u]] w (RightPost w (rightM s.size m)) := by
  rw [right_ref]
  obtain ⟨f, t, caps⟩ := m
  obtain ⟨ao, cap, rfl, hc⟩ := hu
  simp only [] at *
  have hbox : Below w.heap.size w (w.alloc (.cells #[.int .i64 f, .int .i64 t, .slice ao caps.length cap] 29)) := (Below.refl _ _).alloc (Nat.le_refl _) _
  have HBOX := Lib.hid hbox
  have HNEW := Lib.hid (heap_new w (.cells #[.int .i64 f, .int .i64 t, .slice ao caps.length cap] 29))
  have HC := Lib.hid hc
  clear hbox hc
  by_cases hwi : 0 ≤ f ∧ f ≤ t ∧ t ≤ (s.size : Int)
  · obtain ⟨k1, k2, k3⟩ := hwi
    obtain ⟨A, hA⟩ : ∃ A, A = caps.all (capOkM s.size) := ⟨_, rfl⟩
    have hR : (withinM s.size f t && caps.all (capOkM s.size)) = A := by rw [hA]; unfold withinM; simp [k1, k2, k3]
    rw [hR]
    have x1 : ¬ f < 0 := by omega
    have x2 : ¬ t < f := by omega
    have x3 : ¬ (s.size : Int) < t := by omega
    have HA := Lib.hid hA
    clear hR hA
    go_enter Tryd.func39, Tryd.ntmps39
    go_wp2
    go_loopg [5] caps.length (fun gg v wr => ∃ k : Nat, gg = caps.length - k ∧ v = .int .i64 (k : Int) ∧ k ≤ caps.length ∧ Below (w.alloc (.cells #[.int .i64 f, .int .i64 t, .slice ao caps.length cap] 29)).heap.size (w.alloc (.cells #[.int .i64 f, .int .i64 t, .slice ao caps.length cap] 29)) wr ∧ Hid ((caps.drop k).all (capOkM s.size) = A))
    case atStart => exact ⟨0, rfl, rfl, Nat.zero_le _, Below.refl _ _, by rw [HA.out]; rfl⟩
    case round =>
      obtain ⟨k, rfl, rfl, hk, hb, hall⟩ := hrel
      have hsz := hb.size
      simp only [World.size_alloc] at hsz
      have hcell : wr.heap[w.heap.size]? = some (.cells #[.int .i64 f, .int .i64 t, .slice ao caps.length cap] 29) := (hb.block _ (by simp)).trans HNEW.out
      have b2 : wr.cell? ⟨w.heap.size, 2, none⟩ = some (.slice ao caps.length cap) := by rw [cell_of_heap hcell]; rfl
      have HB := Lib.hid hb
      have HBW := Lib.hid (HBOX.out.trans (hb.mono (by simp)))
      clear hcell hb
      by_cases hlt : k < caps.length
      · obtain ⟨g, o, rfl, hg, hcc⟩ := HC.out (by omega)
        obtain ⟨x, y, hxy⟩ : ∃ x y, caps.getD k (0, 0) = (x, y) := ⟨_, _, rfl⟩
        have hck := hcc k hlt
        have hsp := all_split caps (capOkM s.size) k hlt
        rw [hxy] at hck hsp
        rw [capOk_ref] at hsp
        have c0 : wr.cell? ⟨g, o + k * 2, none⟩ = some (.int .i64 x) := by rw [HBW.out.cell (p := ⟨g, o + k * 2, none⟩) hg]; exact hck.1
        have c1 : wr.cell? ⟨g, o + k * 2 + 1, none⟩ = some (.int .i64 y) := by rw [HBW.out.cell (p := ⟨g, o + k * 2 + 1, none⟩) hg]; exact hck.2
        have HALL := Lib.hid (hsp.symm.trans hall.out)
        clear hcc hck hsp hall hxy
        have next : (decide (0 ≤ x) && decide (x ≤ (s.size : Int)) && (y == -1 || (decide (x ≤ y) && decide (y ≤ (s.size : Int))))) = true → Hid (∃ k' : Nat, caps.length - (k + 1) = caps.length - k' ∧ Value.int .i64 ((k : Int) + 1) = .int .i64 (k' : Int) ∧ k' ≤ caps.length ∧ Below (w.alloc (.cells #[.int .i64 f, .int .i64 t, .slice (some ⟨g, o, none⟩) caps.length cap] 29)).heap.size (w.alloc (.cells #[.int .i64 f, .int .i64 t, .slice (some ⟨g, o, none⟩) caps.length cap] 29)) (wr.alloc (.cells #[.int .i64 x, .int .i64 y] 43)) ∧ Hid ((caps.drop k').all (capOkM s.size) = A)) := fun h1 =>
          ⟨k + 1, rfl, rfl, by omega, HB.out.alloc (by simp; omega) _, Lib.hid (by have := HALL.out; rw [h1] at this; simpa using this)⟩
        have bad : (decide (0 ≤ x) && decide (x ≤ (s.size : Int)) && (y == -1 || (decide (x ≤ y) && decide (y ≤ (s.size : Int))))) = false → Hid (A = false) := fun h1 => by have := HALL.out; rw [h1] at this; exact this.symm
        have NEXT := Lib.hid next
        have BAD := Lib.hid bad
        clear next bad HALL
        by_cases q1 : 0 ≤ x
        · by_cases q2 : x ≤ (s.size : Int)
          · by_cases q3 : y = -1
            · have HN := NEXT.out (by simp [q1, q2, q3])
              have ty : (y != -1) = false := by rw [q3]; rfl
              have p1 : ¬ x < 0 := by omega
              have p2 : ¬ (s.size : Int) < x := by omega
              clear q3
              go_wp2
              go_roundg (caps.length - (k + 1))
              case measure => omega
              case rel => exact HN.out
            · have ty : (y != -1) = true := by rw [bne_iff_ne]; exact q3
              have p1 : ¬ x < 0 := by omega
              have p2 : ¬ (s.size : Int) < x := by omega
              by_cases q4 : x ≤ y
              · have p3 : ¬ y < x := by omega
                by_cases q5 : y ≤ (s.size : Int)
                · have HN := NEXT.out (by simp [q1, q2, q4, q5])
                  have p4 : ¬ (s.size : Int) < y := by omega
                  go_wp2
                  go_roundg (caps.length - (k + 1))
                  case measure => omega
                  case rel => exact HN.out
                · have HF := BAD.out (by simp [q1, q2, q3, q4, q5])
                  have p4 : (s.size : Int) < y := by omega
                  go_wp2
                  go_ret
                  exact ⟨by rw [HF.out]; rfl, HBW.out.alloc (by omega) _⟩
              · have HF := BAD.out (by simp [q1, q2, q3, q4])
                have p3 : y < x := by omega
                go_wp2
                go_ret
                exact ⟨by rw [HF.out]; rfl, HBW.out.alloc (by omega) _⟩
          · have HF := BAD.out (by simp [q2])
            have p1 : ¬ x < 0 := by omega
            have p2 : (s.size : Int) < x := by omega
            go_wp2
            go_ret
            exact ⟨by rw [HF.out]; rfl, HBW.out.alloc (by omega) _⟩
        · have HF := BAD.out (by simp [q1])
          have p1 : x < 0 := by omega
          go_wp2
          go_ret
          exact ⟨by rw [HF.out]; rfl, HBW.out.alloc (by omega) _⟩
      · have HTT := Lib.hid (show A = true from by rw [← hall.out, List.drop_eq_nil_of_le (by omega)]; rfl)
        have hge : ¬ ((k : Int) < (caps.length : Int)) := by omega
        clear hall
        go_wp2
        go_ret
        exact ⟨by rw [HTT.out]; rfl, HBW.out⟩
  · have hR : (withinM s.size f t && caps.all (capOkM s.size)) = false := by
      have : withinM s.size f t = false := by
        cases h : withinM s.size f t with
        | false => rfl
        | true => exact absurd (within_elim h) hwi
      rw [this]; rfl
    rw [hR]
    have hcase : f < 0 ∨ (0 ≤ f ∧ t < f) ∨ (0 ≤ f ∧ f ≤ t ∧ (s.size : Int) < t) := by omega
    clear hR hwi
    rcases hcase with k1 | ⟨k1, k2⟩ | ⟨k1, k2, k3⟩
    all_goals
      go_enter Tryd.func39, Tryd.ntmps39
      go_wp2
      go_ret
      exact ⟨rfl, HBOX.out⟩
end Go.Proofs.YtpbhncmaamedhaaDoor
