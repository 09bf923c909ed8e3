import Derived.Test.YtpbhncmaamedhaaDoorFlM
namespace Go.Proofs.YtpbhncmaamedhaaDoor
open Go.RowKit Go.Proofs.Lexi

theorem all_split (l : List (Int × Int)) (P : Int × Int → Bool) (k : Nat) (hk : k < l.length) : (l.drop k).all P = (P (l.getD k (0, 0)) && (l.drop (k + 1)).all P) := by
  rw [List.drop_eq_getElem_cons hk, List.all_cons]
  simp [List.getD_eq_getElem?_getD, hk]
def RightRel (w : World) (len : Int) (caps : List (Int × Int)) (R : Bool) (gg : Nat) (v : Value) (wr : World) : Prop := ∃ k : Nat, gg = caps.length - k ∧ v = .int .i64 (k : Int) ∧ k ≤ caps.length ∧ Below w.heap.size w wr ∧
  wr.heap[w.heap.size]? = w.heap[w.heap.size]? ∧ (caps.drop k).all (capOkM len) = R
def RightPost (w : World) (R : Bool) (e : Ending) (w' : World) : Prop := e = .returned (.bool R) ∧ Below w.heap.size w w'
set_option maxRecDepth 100000 in
set_option maxHeartbeats 2000000 in
theorem right_c (s : ByteArray) (_hs : s.size ≤ 100000000) (m : AM) (u : Value) (w : World) (hu : CapsR w u m.caps) (hl : m.caps.length ≤ 100000000) :
    Calls Tryd.prog 34 #[.string s, .agg #[.int .i64 m.f, .int .i64 m.t, u]] w (RightPost w (rightM s.size m)) := by
  obtain ⟨ao, cap, rfl, hc⟩ := hu
  obtain ⟨caps, hcaps⟩ : ∃ caps, caps = m.caps := ⟨_, rfl⟩
  obtain ⟨f, hf⟩ : ∃ f, f = m.f := ⟨_, rfl⟩
  obtain ⟨t, ht⟩ : ∃ t, t = m.t := ⟨_, rfl⟩
  have hR : rightM s.size m = (caps.all (capOkM s.size) && withinM s.size f t) := by rw [hcaps, hf, ht]; rfl
  rw [hR, ← hf, ← ht, ← hcaps]
  rw [← hcaps] at hc hl
  clear hR hf ht hcaps
  obtain ⟨A, hA⟩ : ∃ A, A = caps.all (capOkM s.size) := ⟨_, rfl⟩
  rw [← hA]
  have hbox : Below w.heap.size w (w.alloc (.cells #[.int .i64 f, .int .i64 t, .slice ao caps.length cap] 29)) := (Below.refl _ _).alloc (Nat.le_refl _) _
  have HBOX := Lib.hid hbox
  have HNEW := Lib.hid (heap_new w (.cells #[.int .i64 f, .int .i64 t, .slice ao caps.length cap] 29))
  have HC := Lib.hid hc
  have HA := Lib.hid hA
  clear hc hA hbox
  go_enter Tryd.func34, Tryd.ntmps34
  go_wp2
  go_loopg [10] caps.length (fun gg v wr => ∃ k : Nat, gg = caps.length - k ∧ v = .int .i64 (k : Int) ∧ k ≤ caps.length ∧ Below (w.alloc (.cells #[.int .i64 f, .int .i64 t, .slice ao caps.length cap] 29)).heap.size (w.alloc (.cells #[.int .i64 f, .int .i64 t, .slice ao caps.length cap] 29)) wr ∧ Hid ((caps.drop k).all (capOkM s.size) = A))
  case atStart => exact ⟨0, rfl, rfl, Nat.zero_le _, Below.refl _ _, by rw [HA.out]; rfl⟩
  case round =>
    obtain ⟨k, rfl, rfl, hk, hb, hall⟩ := hrel
    have hsz := hb.size
    simp only [World.size_alloc] at hsz
    have hcell : wr.heap[w.heap.size]? = some (.cells #[.int .i64 f, .int .i64 t, .slice ao caps.length cap] 29) := (hb.block _ (by simp)).trans HNEW.out
    have b0 : wr.cell? ⟨w.heap.size, 0, none⟩ = some (.int .i64 f) := by rw [cell_of_heap hcell]; rfl
    have b1 : wr.cell? ⟨w.heap.size, 1, none⟩ = some (.int .i64 t) := by rw [cell_of_heap hcell]; rfl
    have HB := Lib.hid hb
    have HBW := Lib.hid (HBOX.out.trans (hb.mono (by simp)))
    clear hcell hb
    by_cases hlt : k < caps.length
    · obtain ⟨g, o, rfl, hg, hcc⟩ := HC.out (by omega)
      obtain ⟨x, hx⟩ : ∃ x, x = (caps.getD k (0, 0)).1 := ⟨_, rfl⟩
      obtain ⟨y, hy⟩ : ∃ y, y = (caps.getD k (0, 0)).2 := ⟨_, rfl⟩
      have c0 : wr.cell? ⟨g, o + k * 2, none⟩ = some (.int .i64 x) := by rw [HBW.out.cell (p := ⟨g, o + k * 2, none⟩) hg, hx]; exact (hcc k hlt).1
      have c1 : wr.cell? ⟨g, o + k * 2 + 1, none⟩ = some (.int .i64 y) := by rw [HBW.out.cell (p := ⟨g, o + k * 2 + 1, none⟩) hg, hy]; exact (hcc k hlt).2
      have hsp := all_split caps (capOkM s.size) k hlt
      have hok : capOkM s.size (caps.getD k (0, 0)) = (withinM s.size x y || (y == -1 && withinM s.size x s.size)) := by rw [hx, hy]; rfl
      rw [hok] at hsp
      have HX := Lib.hid hx
      clear hcc hx hy hok
      have HALL := Lib.hid (hsp.symm.trans hall.out)
      clear hsp hall
      have next : ∀ w', Below wr.heap.size wr w' → (caps.drop (k + 1)).all (capOkM s.size) = A → ∃ k' : Nat, caps.length - (k + 1) = caps.length - k' ∧ Value.int .i64 ((k : Int) + 1) = .int .i64 (k' : Int) ∧ k' ≤ caps.length ∧ Below (w.alloc (.cells #[.int .i64 f, .int .i64 t, .slice (some ⟨g, o, none⟩) caps.length cap] 29)).heap.size (w.alloc (.cells #[.int .i64 f, .int .i64 t, .slice (some ⟨g, o, none⟩) caps.length cap] 29)) w' ∧ Hid ((caps.drop k').all (capOkM s.size) = A) := fun w' h1 h2 =>
        ⟨k + 1, rfl, rfl, by omega, HB.out.trans (h1.mono (by simp; omega)), h2⟩
      have NEXT := Lib.hid next
      clear next
      cases h1 : withinM s.size x y with
      | true =>
        have HN := Lib.hid (NEXT.out (wr.alloc (.cells #[.int .i64 x, .int .i64 y] 43)) ((Below.refl _ _).alloc (Nat.le_refl _) _) (by have := HALL.out; rw [h1] at this; simpa using this))
        have H1 := Lib.hid h1
        clear h1
        go_wp2_with (go_at_call 56; refine (within_c _ _ _ _).mono ?_; rintro e w' ⟨rfl, rfl⟩; rw [H1.out])
        go_roundg (caps.length - (k + 1))
        case measure => omega
        case rel => exact HN.out
      | false =>
        have H1 := Lib.hid h1
        by_cases hy : y = -1
        · have ty : (y != -1) = false := by rw [hy]; rfl
          cases h2 : withinM s.size x s.size with
          | true =>
            have HN := Lib.hid (NEXT.out (wr.alloc (.cells #[.int .i64 x, .int .i64 y] 43)) ((Below.refl _ _).alloc (Nat.le_refl _) _) (by have := HALL.out; rw [h1, h2, hy] at this; simpa using this))
            have H2 := Lib.hid h2
            clear h1 h2 hy
            go_wp2_with fail
            refine (within_c _ _ _ _).mono ?_
            rintro e w' ⟨rfl, rfl⟩
            rw [H1.out]
            go_wp2_with fail
            refine (within_c _ _ _ _).mono ?_
            rintro e w' ⟨rfl, rfl⟩
            rw [H2.out]
            go_wp2
            go_roundg (caps.length - (k + 1))
            case measure => omega
            case rel => exact HN.out
          | false =>
            have HF := Lib.hid (show A = false from by rw [← HALL.out, h1, h2, hy]; rfl)
            have H2 := Lib.hid h2
            clear h1 h2 hy
            go_wp2_with fail
            refine (within_c _ _ _ _).mono ?_
            rintro e w' ⟨rfl, rfl⟩
            rw [H1.out]
            go_wp2_with fail
            refine (within_c _ _ _ _).mono ?_
            rintro e w' ⟨rfl, rfl⟩
            rw [H2.out]
            go_wp2
            go_ret
            exact ⟨by rw [HF.out]; rfl, HBW.out.alloc (by omega) _⟩
        · have ty : (y != -1) = true := by rw [bne_iff_ne]; exact hy
          have HF := Lib.hid (show A = false from by rw [← HALL.out, h1, show (y == -1) = false from beq_eq_false_iff_ne.2 hy]; rfl)
          clear h1 hy
          go_wp2_with fail
          refine (within_c _ _ _ _).mono ?_
          rintro e w' ⟨rfl, rfl⟩
          rw [H1.out]
          go_wp2
          go_ret
          exact ⟨by rw [HF.out]; rfl, HBW.out.alloc (by omega) _⟩
    · have HT := Lib.hid (show A = true from by rw [← hall.out, List.drop_eq_nil_of_le (by omega)]; rfl)
      clear hall
      go_wp2_with fail
      refine (within_c _ _ _ _).mono ?_
      rintro e w' ⟨rfl, rfl⟩
      go_wp2
      go_ret
      exact ⟨by rw [HT.out]; rfl, HBW.out⟩
end Go.Proofs.YtpbhncmaamedhaaDoor
