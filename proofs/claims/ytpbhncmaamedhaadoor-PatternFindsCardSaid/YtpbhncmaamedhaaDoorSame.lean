import Derived.Test.YtpbhncmaamedhaaDoorReplW
import Derived.Deep.QuietTactic
import Derived.BigQuiet
namespace Go.Proofs.YtpbhncmaamedhaaDoor
open Go.RowKit Go.Proofs.Lexi

def sameM (a b : AM) : Bool := a.f == b.f && a.t == b.t && a.caps == b.caps
def SamePost (w : World) (R : Bool) (e : Ending) (w' : World) : Prop := e = .returned (.bool R) ∧ Below w.heap.size w w'
theorem caps_step {a b : List (Int × Int)} (hl : a.length = b.length) {k : Nat} (hk : k < a.length) : (a.drop k == b.drop k) = ((a.getD k (0, 0) == b.getD k (0, 0)) && (a.drop (k + 1) == b.drop (k + 1))) := by
  have e1 : a.getD k (0, 0) = a[k] := by simp [List.getD_eq_getElem?_getD, hk]
  have e2 : b.getD k (0, 0) = b[k]'(by omega) := by simp [List.getD_eq_getElem?_getD, (by omega : k < b.length)]
  rw [e1, e2, List.drop_eq_getElem_cons hk, List.drop_eq_getElem_cons (by omega : k < b.length)]
  rfl
theorem same_head (a b : AM) : sameM a b = (a.f == b.f && a.t == b.t && (a.caps.length == b.caps.length && a.caps == b.caps)) := by
  unfold sameM
  by_cases h : a.caps.length = b.caps.length
  · simp [h]
  · have : (a.caps == b.caps) = false := by rw [beq_eq_false_iff_ne]; exact fun e => h (by rw [e])
    simp [this]
theorem heap2_a' (w : World) (o1 o2 : Obj) : ((w.alloc o1).alloc o2).heap[w.heap.size]? = some o1 := by
  rw [Below.heap_alloc _ _ _ (by simp)]; exact heap_new _ _
theorem heap2_b' (w : World) (o1 o2 : Obj) : ((w.alloc o1).alloc o2).heap[w.heap.size + 1]? = some o2 := heap2_b w o1 o2
theorem below_drewN {B : Nat} {a w : World} (h : Below B a w) (n : Nat) : Below B a (w.drewN n) := ⟨h.os, h.tape, h.output, h.size, h.block⟩
abbrev box29 (f t : Int) (u : Value) : Obj := .cells #[.int .i64 f, .int .i64 t, u] 29
set_option maxRecDepth 100000 in
set_option maxHeartbeats 4000000 in
theorem Same_c (a b : AM) (ua ub : Value) (w : World) (ha : CapsR w ua a.caps) (hb : CapsR w ub b.caps) (hla : a.caps.length ≤ 100000000) (hlb : b.caps.length ≤ 100000000) :
    Calls Tryd.prog 17 #[.agg #[.int .i64 a.f, .int .i64 a.t, ua], .agg #[.int .i64 b.f, .int .i64 b.t, ub]] w (SamePost w (sameM a b)) := by
  rw [same_head]
  obtain ⟨f1, t1, c1⟩ := a
  obtain ⟨f2, t2, c2⟩ := b
  obtain ⟨ao, cap, rfl, hca⟩ := ha
  obtain ⟨bo, cbp, rfl, hcb⟩ := hb
  simp only [] at *
  have hbx : Below w.heap.size w ((w.alloc (box29 f1 t1 (.slice ao c1.length cap))).alloc (box29 f2 t2 (.slice bo c2.length cbp))) := ((Below.refl _ _).alloc (Nat.le_refl _) _).alloc (by simp) _
  have HBX := Lib.hid hbx
  have HCA := Lib.hid hca
  have HCB := Lib.hid hcb
  clear hbx hca hcb
  by_cases hf : f1 = f2
  · by_cases ht : t1 = t2
    · by_cases hn : c1.length = c2.length
      · have tf : (f1 != f2) = false := by rw [hf]; simp
        have tt : (t1 != t2) = false := by rw [ht]; simp
        have tn : ((c1.length : Int) != (c2.length : Int)) = false := by rw [hn]; simp
        have tn' : (c1.length != c2.length) = false := by rw [hn]; simp
        have hall : ∀ k, Hid ((c1.drop k == c2.drop k) = (c1 == c2)) → k ≤ c1.length → True := fun _ _ _ => trivial
        obtain ⟨A, hA⟩ : ∃ A, A = (c1 == c2) := ⟨_, rfl⟩
        have hR : (f1 == f2 && t1 == t2 && (c1.length == c2.length && c1 == c2)) = A := by rw [hA, hf, ht, hn]; simp
        rw [hR]
        have HA := Lib.hid hA
        have HN := Lib.hid hn
        have hnl : c2.length ≤ c1.length := by omega
        have hnl2 : c1.length ≤ c2.length := by omega
        clear hf ht hn hR hall hA
        go_enter Tryd.func17, Tryd.ntmps17
        go_wp2
        go_loopg [5] c1.length (fun gg v wr => ∃ k : Nat, gg = c1.length - k ∧ v = .int .i64 (k : Int) ∧ k ≤ c1.length ∧ Below ((w.alloc (box29 f1 t1 (.slice ao c1.length cap))).alloc (box29 f2 t2 (.slice bo c2.length cbp))).heap.size ((w.alloc (box29 f1 t1 (.slice ao c1.length cap))).alloc (box29 f2 t2 (.slice bo c2.length cbp))) wr ∧ Hid ((c1.drop k == c2.drop k) = A))
        case atStart => exact ⟨0, rfl, rfl, Nat.zero_le _, Below.refl _ _, by rw [HA.out]; rfl⟩
        case round =>
          obtain ⟨k, rfl, rfl, hk, hb, hall⟩ := hrel
          have hsz := hb.size
          simp only [World.size_alloc] at hsz
          have g1 : wr.heap[w.heap.size]? = some (box29 f1 t1 (.slice ao c1.length cap)) := (hb.block _ (by simp only [World.size_alloc]; omega)).trans (heap2_a' w _ _)
          have g2 : wr.heap[w.heap.size + 1]? = some (box29 f2 t2 (.slice bo c2.length cbp)) := (hb.block _ (by simp only [World.size_alloc]; omega)).trans (heap2_b' w _ _)
          have p2 : wr.cell? ⟨w.heap.size, 2, none⟩ = some (.slice ao c1.length cap) := by rw [cell_of_heap g1]; rfl
          have q2 : wr.cell? ⟨w.heap.size + 1, 2, none⟩ = some (.slice bo c2.length cbp) := by rw [cell_of_heap g2]; rfl
          have HB := Lib.hid hb
          have HBW := Lib.hid (HBX.out.trans (hb.mono (by simp; omega)))
          clear g1 g2 hb
          by_cases hlt : k < c1.length
          · obtain ⟨ga, oa, rfl, hga, hxa⟩ := HCA.out (by omega)
            obtain ⟨gb, ob, rfl, hgb, hxb⟩ := HCB.out (by omega)
            have hst := caps_step HN.out hlt
            rw [hall.out] at hst
            obtain ⟨x1, y1, h1⟩ : ∃ x y, c1.getD k (0, 0) = (x, y) := ⟨_, _, rfl⟩
            obtain ⟨x2, y2, h2⟩ : ∃ x y, c2.getD k (0, 0) = (x, y) := ⟨_, _, rfl⟩
            have ca := hxa k hlt
            have cb := hxb k (by omega)
            rw [h1] at ca hst
            rw [h2] at cb hst
            have a0 : wr.cell? ⟨ga, oa + k * 2, none⟩ = some (.int .i64 x1) := by rw [HBW.out.cell (p := ⟨ga, oa + k * 2, none⟩) hga]; exact ca.1
            have a1 : wr.cell? ⟨ga, oa + k * 2 + 1, none⟩ = some (.int .i64 y1) := by rw [HBW.out.cell (p := ⟨ga, oa + k * 2 + 1, none⟩) hga]; exact ca.2
            have b0 : wr.cell? ⟨gb, ob + k * 2, none⟩ = some (.int .i64 x2) := by rw [HBW.out.cell (p := ⟨gb, ob + k * 2, none⟩) hgb]; exact cb.1
            have b1 : wr.cell? ⟨gb, ob + k * 2 + 1, none⟩ = some (.int .i64 y2) := by rw [HBW.out.cell (p := ⟨gb, ob + k * 2 + 1, none⟩) hgb]; exact cb.2
            have HST := Lib.hid hst
            have hlt2 : k < c2.length := by omega
            clear ca cb hxa hxb h1 h2 hst hall
            by_cases hx : x1 = x2
            · subst hx
              by_cases hy : y1 = y2
              · subst hy
                have HN2 := Lib.hid (show ∀ nn, ∃ k' : Nat, c1.length - (k + 1) = c1.length - k' ∧ Value.int .i64 ((k : Int) + 1) = .int .i64 (k' : Int) ∧ k' ≤ c1.length ∧ Below ((w.alloc (box29 f1 t1 (.slice (some ⟨ga, oa, none⟩) c1.length cap))).alloc (box29 f2 t2 (.slice (some ⟨gb, ob, none⟩) c2.length cbp))).heap.size ((w.alloc (box29 f1 t1 (.slice (some ⟨ga, oa, none⟩) c1.length cap))).alloc (box29 f2 t2 (.slice (some ⟨gb, ob, none⟩) c2.length cbp))) (wr.drewN nn) ∧ Hid ((c1.drop k' == c2.drop k') = A) from
                  fun nn => ⟨k + 1, rfl, rfl, by omega, below_drewN HB.out nn, (show (c1.drop (k + 1) == c2.drop (k + 1)) = A from by have := HST.out; simpa using this.symm)⟩)
                go_wp2
                go_quiet (fail)
                go_wp2
                go_roundg (c1.length - (k + 1))
                case measure => omega
                case rel => exact HN2.out _
              · have HF := Lib.hid (show A = false from by have := HST.out; rw [this, show ((x1, y1) == (x1, y2)) = false from by rw [beq_eq_false_iff_ne]; intro e; injection e with _ e; exact hy e]; rfl)
                go_wp2
                go_quiet (fail)
                go_wp2
                go_ret
                exact ⟨by rw [HF.out]; rfl, below_drewN HBW.out _⟩
            · have HF := Lib.hid (show A = false from by have := HST.out; rw [this, show ((x1, y1) == (x2, y2)) = false from by rw [beq_eq_false_iff_ne]; intro e; injection e with e; exact hx e]; rfl)
              go_wp2
              go_quiet (fail)
              go_wp2
              go_ret
              exact ⟨by rw [HF.out]; rfl, below_drewN HBW.out _⟩
          · have HT := Lib.hid (show A = true from by rw [← hall.out, List.drop_eq_nil_of_le (by omega), List.drop_eq_nil_of_le (by omega)]; rfl)
            have hge : ¬ ((k : Int) < (c1.length : Int)) := by omega
            clear hall
            go_wp2
            go_ret
            exact ⟨by rw [HT.out]; rfl, HBW.out⟩
      · have tf : (f1 != f2) = false := by rw [hf]; simp
        have tt : (t1 != t2) = false := by rw [ht]; simp
        have tn : ((c1.length : Int) != (c2.length : Int)) = true := by rw [bne_iff_ne]; omega
        have tn' : (c1.length != c2.length) = true := by rw [bne_iff_ne]; omega
        have hR : (f1 == f2 && t1 == t2 && (c1.length == c2.length && c1 == c2)) = false := by simp [hn]
        rw [hR]
        clear hf ht hn hR
        go_enter Tryd.func17, Tryd.ntmps17
        go_wp2
        go_ret
        exact ⟨rfl, HBX.out⟩
    · have tf : (f1 != f2) = false := by rw [hf]; simp
      have tt : (t1 != t2) = true := by rw [bne_iff_ne]; exact ht
      have hR : (f1 == f2 && t1 == t2 && (c1.length == c2.length && c1 == c2)) = false := by simp [ht]
      rw [hR]
      clear hf ht hR
      go_enter Tryd.func17, Tryd.ntmps17
      go_wp2
      go_ret
      exact ⟨rfl, HBX.out⟩
  · have tf : (f1 != f2) = true := by rw [bne_iff_ne]; exact hf
    have hR : (f1 == f2 && t1 == t2 && (c1.length == c2.length && c1 == c2)) = false := by simp [hf]
    rw [hR]
    clear hf hR
    go_enter Tryd.func17, Tryd.ntmps17
    go_wp2
    go_ret
    exact ⟨rfl, HBX.out⟩
end Go.Proofs.YtpbhncmaamedhaaDoor
