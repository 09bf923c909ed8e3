import Derived.Test.YtpbhncmaamedhaaDoorMaA
import Derived.Test.YtpbhncmaamedhaaDoorPaI
import Derived.Lib.SliceRun
import Derived.BigFrame
import Derived.Laws.MakeOwn
namespace Go.Proofs.YtpbhncmaamedhaaDoor
open Go.RowKit Go.Proofs.Lexi

theorem heap_setCells_other {b k : Nat} (hk : k ≠ b) : ∀ (vs : List Value) (o : Nat) (w : World), (w.setCells b o vs).heap[k]? = w.heap[k]?
  | [], _, _ => rfl
  | v :: vs, o, w => by rw [World.setCells, heap_setCells_other hk vs]; exact Below.heap_setCell _ _ _ _ hk
theorem size_setCells' {b : Nat} : ∀ (vs : List Value) (o : Nat) (w : World), (w.setCells b o vs).heap.size = w.heap.size
  | [], _, _ => rfl
  | v :: vs, o, w => by rw [World.setCells, size_setCells' vs]; simp
theorem below_setCells' {B b : Nat} {a : World} (hb : B ≤ b) : ∀ (vs : List Value) (o : Nat) (w : World), Below B a w → Below B a (w.setCells b o vs)
  | [], _, _, h => h
  | v :: vs, o, w, h => by rw [World.setCells]; exact below_setCells' hb vs _ _ (h.setCell hb _)
theorem heap_setCells_all {b : Nat} {t : TypeId} {fz : Nat × Nat} : ∀ (vs pre old : List Value) (w : World), w.heap[b]? = some (.cells (pre ++ old).toArray t fz) → old.length = vs.length →
    (w.setCells b pre.length vs).heap[b]? = some (.cells (pre ++ vs).toArray t fz)
  | [], pre, old, w, h, hl => by
    obtain rfl : old = [] := List.eq_nil_of_length_eq_zero hl
    exact h
  | v :: vs, pre, [], w, h, hl => by simp at hl
  | v :: vs, pre, o :: old, w, h, hl => by
    rw [World.setCells]
    have h1 := heap_setCell_same h pre.length v
    have e : (pre ++ o :: old).toArray.setIfInBounds pre.length v = ((pre ++ [v]) ++ old).toArray := by simp
    rw [e] at h1
    have := heap_setCells_all vs (pre ++ [v]) old _ h1 (by simpa using hl)
    simpa using this

theorem Tryd.info43 : (Tryd.prog.info? 43).map (fun i => (i.zero, i.size, i.bytes)) = some (some (.agg #[.int .i64 0, .int .i64 0]), 2, 16) := by kernel_rfl
theorem zero43 (w : World) : (zeroValue 43).run Tryd.prog w = .ok (.agg #[.int .i64 0, .int .i64 0]) w := by kernel_rfl
theorem zeros_caps (K : Nat) : (Array.range (K * 2)).map (fun i => (#[Value.int .i64 0, Value.int .i64 0] : Array Value)[i % 2]!) = capCells (List.replicate K zeroCap) := by
  unfold capCells
  apply Array.ext'
  have e : ∀ K, (List.replicate K zeroCap).flatMap capP = List.replicate (K * 2) (Value.int .i64 0) := by
    intro K
    induction K with
    | zero => rfl
    | succ K ih => rw [List.replicate_succ, List.flatMap_cons, ih, show (K + 1) * 2 = K * 2 + 1 + 1 by omega, List.replicate_succ, List.replicate_succ]; rfl
  rw [e]
  simp only [Array.toList_map]
  apply List.ext_getElem
  · simp
  · intro i h1 h2
    simp only [List.getElem_map, List.getElem_replicate]
    have : i % 2 = 0 ∨ i % 2 = 1 := by omega
    simp only [Array.getElem_toList, Array.getElem_range]
    rcases this with h | h <;> rw [h] <;> rfl
theorem clear_caps {E : MEnv} (ok : MOK E) {w : World} {n : Nat} {cs : List ACap} (h : MSt E w n cs) :
    ∃ w', (∀ ty, (Builtin.clear_ #[27] ty #[.slice (some ⟨E.cb, 0, none⟩) E.K E.K]).run Tryd.prog w = .ok (.tuple #[]) w') ∧ MSt E w' n (List.replicate E.K zeroCap) ∧ Fr E w w' ∧ w'.heap.size = w.heap.size := by
  by_cases hK : E.K = 0
  · refine ⟨w, fun ty => ?_, ?_, Fr.refl _ _, rfl⟩
    · rw [hK]; simp [Builtin.clear_, run_underlying Tryd.underlying27]
    · have : cs = [] := List.eq_nil_of_length_eq_zero (by rw [h.cl, hK])
      rw [hK]
      rw [this] at h
      exact h
  · have hcl := h.cl
    have hlen : (capCells cs).toList.length = E.K * 2 := by
      rw [← hcl]; unfold capCells
      clear h hK hcl
      induction cs with
      | nil => rfl
      | cons c cs ih => simp only [List.flatMap_cons, List.length_append, List.length_cons] at ih ⊢; rw [ih]; simp [capP]; omega
    have hzl : (capCells (List.replicate E.K zeroCap)).toList.length = E.K * 2 := by rw [← zeros_caps]; simp
    have hzc : (Builtin.zeroCells (Value.agg #[.int .i64 0, .int .i64 0]).cells E.K).toList = (capCells (List.replicate E.K zeroCap)).toList := by rw [← zeros_caps]; rfl
    have hst := run_storeCells_cells (P := Tryd.prog) E.cb 0 (capCells (List.replicate E.K zeroCap)).toList 0 w (fun j hj => by
        rw [hzl] at hj
        rw [cell_of_heap h.hc]
        simp only [Nat.zero_add]
        rw [Array.getElem?_eq_getElem (by rw [← Array.length_toList, hlen]; exact hj)]; rfl)
      (fun j _ => by simpa using (h.fz (0 + 0 + j)).1) (by
        intro v hv
        rw [← zeros_caps] at hv
        simp only [Array.toList_map, List.mem_map] at hv
        obtain ⟨i, _, rfl⟩ := hv
        have : i % 2 = 0 ∨ i % 2 = 1 := by omega
        rcases this with h | h <;> rw [h] <;> rfl)
    simp only [Nat.add_zero] at hst
    refine ⟨w.setCells E.cb 0 (capCells (List.replicate E.K zeroCap)).toList, fun ty => ?_, ⟨?_, ?_, ?_, ?_, by simp⟩, ⟨?_, ?_⟩, ?_⟩
    · obtain ⟨m, hm⟩ : ∃ m, E.K = m + 1 := ⟨E.K - 1, by omega⟩
      rw [hm] at hzc hst ⊢
      simp [Builtin.clear_, run_underlying Tryd.underlying27, hzc, hst]
    · exact below_setCells' ok.cb0 _ _ _ h.below
    · rw [heap_setCells_other ok.d2]; exact h.hm
    · rw [heap_setCells_other ok.d3]; exact h.hn
    · have := heap_setCells_all (b := E.cb) (t := 43) (fz := (0, 0)) (capCells (List.replicate E.K zeroCap)).toList [] (capCells cs).toList w (by simpa using h.hc) (by rw [hlen, hzl])
      simpa using this
    · rw [size_setCells']; exact Nat.le_refl _
    · intro b _ _ hb; rw [heap_setCells_other hb]
    · rw [size_setCells']

/-- The captures of a match as a slice of its own. -/
def CapsIn (w : World) (base : Nat) (v : Value) (cs : List ACap) : Prop := w.ownsRow base 43 2 v cs.length (cs.flatMap capP)
def zeroMatch : Value := .agg #[.int .i64 0, .int .i64 0, .slice none 0 0]
/-- What (30) 'at' leaves. -/
def AtPost (E : MEnv) (w : World) (i : Nat) (R : MR) (e : Ending) (w' : World) : Prop := Fr E w w' ∧
  match R with
  | none => ∃ (n : Nat) (cs : List ACap), e = .returned (.tuple #[zeroMatch, .bool false, .int .i64 3]) ∧ maxSteps < n ∧ n ≤ maxSteps + 1 ∧ MSt E w' n cs
  | some (some k, (n, cs)) => ∃ v, e = .returned (.tuple #[.agg #[.int .i64 (i : Int), .int .i64 (k : Int), v], .bool true, .int .i64 0]) ∧ n ≤ maxSteps ∧ k ≤ E.s.size ∧ CapsIn w' w.heap.size v cs ∧ MSt E w' n cs
  | some (none, (n, cs)) => e = .returned (.tuple #[zeroMatch, .bool false, .int .i64 0]) ∧ n ≤ maxSteps ∧ MSt E w' n cs
def runM (E : MEnv) (i n : Nat) : MR := matchM (bytesOf E.s) E.fin E.items i (n, List.replicate E.K zeroCap)
end Go.Proofs.YtpbhncmaamedhaaDoor
