import Derived.Test.YtpbhncmaamedhaaDoorAtA
namespace Go.Proofs.YtpbhncmaamedhaaDoor
open Go.RowKit Go.Proofs.Lexi

theorem make_caps (K : Nat) (hK : K ≤ 16) (w : World) : (Instr.makeSlice 27 (.int .i64 (K : Int)) (.int .i64 (K : Int))).run Tryd.prog w = .ok (.slice (some ⟨w.heap.size, 0, none⟩) K K) (w.alloc (.cells (capCells (List.replicate K zeroCap)) 43)) := by
  obtain ⟨i0, hi, hz0, hz1, hz2⟩ := info_parts Tryd.info43
  have := run_make (P := Tryd.prog) w 27 43 i0 _ Tryd.underlying27 hi hz0 .i64 .i64 (K : Int) (K : Int) (by omega) (by omega) (by rw [hz2]; omega) (by omega)
  rw [this]
  simp only [Int.toNat_natCast, hz1]
  rw [show madeCells (Value.agg #[.int .i64 0, .int .i64 0]).cells (K * 2) = capCells (List.replicate K zeroCap) from zeros_caps K]
theorem heap4 (w : World) (a b c d : Obj) : ((((w.alloc a).alloc b).alloc c).alloc d).drew.heap[w.heap.size + 1]? = some b ∧ ((((w.alloc a).alloc b).alloc c).alloc d).drew.heap[w.heap.size + 2]? = some c ∧ ((((w.alloc a).alloc b).alloc c).alloc d).drew.heap[w.heap.size + 3]? = some d := by
  refine ⟨?_, ?_, ?_⟩
  · show ((((w.heap.push a).push b).push c).push d)[w.heap.size + 1]? = _
    simp only [Array.getElem?_push, Array.size_push]
    repeat (first | rw [if_pos trivial] | rw [if_pos (by omega)] | rw [if_neg (by omega)])
  · show ((((w.heap.push a).push b).push c).push d)[w.heap.size + 2]? = _
    simp only [Array.getElem?_push, Array.size_push]
    repeat (first | rw [if_pos trivial] | rw [if_pos (by omega)] | rw [if_neg (by omega)])
  · show ((((w.heap.push a).push b).push c).push d)[w.heap.size + 3]? = _
    simp only [Array.getElem?_push, Array.size_push]
    repeat (first | rw [if_pos trivial] | rw [if_pos (by omega)] | rw [if_neg (by omega)])
theorem below4 (w : World) (a b c d : Obj) : Below w.heap.size w ((((w.alloc a).alloc b).alloc c).alloc d).drew :=
  (((((Below.refl _ _).alloc (Nat.le_refl _) _).alloc (by simp) _).alloc (by simp; omega) _).alloc (by simp; omega) _).drew
/-- The matcher that (29) makes. -/
def envOf (w : World) (s : ByteArray) (vi : Value) (vs : List Value) (items : List Item) (K : Nat) (anc fin : Bool) : MEnv := ⟨w, w.heap.size + 3, w.heap.size + 1, w.heap.size + 2, vi, vs, items, K, anc, fin, s⟩
def NewPost (w : World) (s : ByteArray) (vi : Value) (vs : List Value) (items : List Item) (K : Nat) (anc fin : Bool) (e : Ending) (w' : World) : Prop :=
  e = .returned (.pointer (some ⟨w.heap.size + 3, 0, none⟩)) ∧ Below w.heap.size w w' ∧ MSt (envOf w s vi vs items K anc fin) w' 0 (List.replicate K zeroCap)
theorem vi_slice {w : World} {A : Nat} {vi : Value} {items : List Item} {vs : List Value} (ho : w.ownsRow A 106 6 vi items.length (rowOf items vs)) : ∃ p cap, vi = .slice p items.length cap := by
  rcases ho.2 with ⟨h1, h2⟩ | ⟨g, cap, cur, hv, _⟩
  · exact ⟨none, 0, by rw [h1, h2]⟩
  · exact ⟨_, _, hv⟩
set_option maxRecDepth 100000 in
set_option maxHeartbeats 2000000 in
theorem new_c (w : World) (s : ByteArray) (vi : Value) (vs : List Value) (items : List Item) (K : Nat) (anc fin : Bool) (hK : K ≤ 16) (hv : ∃ p cap, vi = .slice p items.length cap) :
    Calls Tryd.prog 29 #[.string s, .agg #[vi, .int .i64 K, .bool anc, .bool fin]] w (NewPost w s vi vs items K anc fin) := by
  have hmk := make_caps K hK
  obtain ⟨p, cap, rfl⟩ := hv
  go_enter Tryd.func29, Tryd.ntmps29
  go_wp2
  refine wp_region_lex mixed (by kernel_rfl) ?_
  go_wp2_with (simp only [hmk])
  refine ⟨by kernel_rfl, ?_⟩
  go_wp2
  go_ret
  exact ⟨rfl, below4 _ _ _ _ _, below4 _ _ _ _ _, (heap4 _ _ _ _ _).2.2, (heap4 _ _ _ _ _).1, (heap4 _ _ _ _ _).2.1, by simp [envOf]⟩
end Go.Proofs.YtpbhncmaamedhaaDoor
