import Derived.Test.YtpbhncmaamedhaaDoorParse
namespace Go.Proofs.YtpbhncmaamedhaaDoor
open Go.RowKit Go.Proofs.Lexi

/-! The plain model of matching: steps are counted; none: more than 100000 would be needed. -/
/-- A capture: its beginning, its end, whether it is open. -/
structure ACap where
  f : Int
  t : Int
  o : Bool
abbrev MS := Nat × List ACap
abbrev MR := Option (Option Nat × MS)
def maxSteps : Nat := 100000
def zeroCap : ACap := ⟨0, 0, false⟩
/-- One step more. -/
def spendM (st : MS) (k : MS → MR) : MR := if st.1 + 1 ≤ maxSteps then k (st.1 + 1, st.2) else none
def keepM (k : Nat) (c : ACap) (f : MS → MR) (st : MS) : MR :=
  match f (st.1, st.2.set k c) with
  | none => none
  | some (some e, st') => some (some e, st')
  | some (none, st') => some (none, (st'.1, st'.2.set k (st.2.getD k zeroCap)))
/-- %bxy behind its first byte: r is what is left, k its index. -/
def balM (x y : Nat) (f : Nat → MS → MR) : List Nat → Nat → Nat → MS → MR
  | [], _, _, st => some (none, st)
  | c :: r, k, count, st => spendM st fun st' =>
    if c = y then (if count = 1 then f (k + 1) st' else balM x y f r (k + 1) (count - 1) st')
    else if c = x then balM x y f r (k + 1) (count + 1) st'
    else balM x y f r (k + 1) count st'
/-- How many bytes belong, each a step. -/
def countM (S : Nat → Bool) : List Nat → Nat → MS → Option (Nat × MS)
  | [], n, st => some (n, st)
  | c :: r, n, st => if S c then (if st.1 + 1 ≤ maxSteps then countM S r (n + 1) (st.1 + 1, st.2) else none) else some (n, st)
/-- The next items at i + m, at i + m - 1, down to i + least. -/
def downM (f : Nat → MS → MR) (i least : Nat) : Nat → MS → MR
  | m, st => if m < least then some (none, st) else
    match f (i + m) st with
    | none => none
    | some (some e, st') => some (some e, st')
    | some (none, st') => match m with
      | 0 => some (none, st')
      | m' + 1 => downM f i least m' st'
def fewM (S : Nat → Bool) (f : Nat → MS → MR) : List Nat → Nat → MS → MR
  | [], i, st => f i st
  | c :: r, i, st =>
    match f i st with
    | none => none
    | some (some e, st') => some (some e, st')
    | some (none, st') => if S c then (spendM st' fun st'' => fewM S f r (i + 1) st'') else some (none, st')
def belongsM (l : List Nat) (S : Nat → Bool) (i : Nat) : Bool := match l.drop i with | c :: _ => S c | [] => false
def optM (l : List Nat) (S : Nat → Bool) (f : Nat → MS → MR) (i : Nat) (st : MS) : MR :=
  if belongsM l S i then
    match f (i + 1) st with
    | none => none
    | some (some e, st') => some (some e, st')
    | some (none, st') => f i st'
  else f i st
def manyM (l : List Nat) (S : Nat → Bool) (f : Nat → MS → MR) (i least : Nat) (st : MS) : MR :=
  match countM S (l.drop i) 0 st with
  | none => none
  | some (m, st') => downM f i least m st'
def singleRun (l : List Nat) (S : Nat → Bool) (how : Nat) (f : Nat → MS → MR) (i : Nat) (st : MS) : MR :=
  if how = 42 then manyM l S f i 0 st
  else if how = 43 then manyM l S f i 1 st
  else if how = 45 then fewM S f (l.drop i) i st
  else if how = 63 then optM l S f i st
  else if belongsM l S i then f (i + 1) st else some (none, st)
def frontM (l : List Nat) (S : Nat → Bool) (i : Nat) : Bool :=
  !S (if i = 0 then 0 else l.getD (i - 1) 0) && S (l.getD i 0)
def backM (l : List Nat) (c : ACap) : List Nat := (l.drop c.f.toNat).take (c.t - c.f).toNat
def itemRun (l : List Nat) (it : Item) (f : Nat → MS → MR) (i : Nat) (st : MS) : MR :=
  if it.kind = 1 then keepM it.n ⟨i, 0, true⟩ (f i) st
  else if it.kind = 2 then keepM it.n ⟨(st.2.getD it.n zeroCap).f, i, false⟩ (f i) st
  else if it.kind = 3 then keepM it.n ⟨i, -1, false⟩ (f i) st
  else if it.kind = 4 then
    match l.drop i with
    | c :: r => if c = it.x then balM it.x it.y f r (i + 1) 1 st else some (none, st)
    | [] => some (none, st)
  else if it.kind = 5 then (if frontM l it.one i then f i st else some (none, st))
  else if it.kind = 6 then
    (if (backM l (st.2.getD it.n zeroCap)).isPrefixOf (l.drop i) then f (i + (backM l (st.2.getD it.n zeroCap)).length) st else some (none, st))
  else singleRun l it.one it.how f i st
def matchM (l : List Nat) (fin : Bool) : List Item → Nat → MS → MR
  | [], i, st => spendM st fun st' => some (if !fin || i == l.length then some i else none, st')
  | it :: rest, i, st => spendM st fun st' => itemRun l it (matchM l fin rest) i st'

/-! The matcher in memory. -/
def capP (c : ACap) : List Value := [.int .i64 c.f, .int .i64 (if c.o then 0 else c.t)]
def capCells (cs : List ACap) : Array Value := (cs.flatMap capP).toArray
structure MEnv where
  w0 : World
  mb : Nat
  nb : Nat
  cb : Nat
  vi : Value
  vs : List Value
  items : List Item
  K : Nat
  anc : Bool
  fin : Bool
  s : ByteArray
structure MSt (E : MEnv) (w : World) (n : Nat) (cs : List ACap) : Prop where
  below : Below E.w0.heap.size E.w0 w
  hm : w.heap[E.mb]? = some (.cells #[E.vi, .int .i64 E.K, .bool E.anc, .bool E.fin, .string E.s, .slice (some ⟨E.cb, 0, none⟩) E.K E.K,
    .func (.func 52) #[] #[.pointer (some ⟨E.nb, 0, none⟩)], .func (.func 53) #[] #[.pointer (some ⟨E.nb, 0, none⟩)]] 99 (0, 0))
  hn : w.heap[E.nb]? = some (.cells #[.int .i64 n] 3 (0, 0))
  hc : w.heap[E.cb]? = some (.cells (capCells cs) 43 (0, 0))
  cl : cs.length = E.K
structure MOK (E : MEnv) : Prop where
  mb0 : E.w0.heap.size ≤ E.mb
  nb0 : E.w0.heap.size ≤ E.nb
  cb0 : E.w0.heap.size ≤ E.cb
  d1 : E.mb ≠ E.nb
  d2 : E.mb ≠ E.cb
  d3 : E.nb ≠ E.cb
  il : E.vs.length = E.items.length
  A : ∃ A, E.w0.ownsRow A 106 6 E.vi E.items.length (rowOf E.items E.vs) ∧ ItemsOK E.w0 A (fun _ => False) E.items E.vs
  len : E.items.length ≤ 5000
  sl : E.s.size ≤ 100000000
  kk : E.K ≤ 16
theorem MSt.grow {E : MEnv} {w w' : World} {n : Nat} {cs : List ACap} (h : MSt E w n cs) (hb : Below w.heap.size w w') : MSt E w' n cs := by
  have hx := below_ext hb (Nat.le_refl _)
  exact ⟨h.below.trans (hb.mono h.below.size), hx.get h.hm, hx.get h.hn, hx.get h.hc, h.cl⟩
theorem MSt.drew {E : MEnv} {w : World} {n : Nat} {cs : List ACap} (h : MSt E w n cs) : MSt E w.drew n cs := h.grow (Below.refl _ _).drew
theorem MSt.setn {E : MEnv} (ok : MOK E) {w : World} {n : Nat} {cs : List ACap} (h : MSt E w n cs) (m : Nat) : MSt E (w.setCell ⟨E.nb, 0, none⟩ (.int .i64 m)) m cs :=
  ⟨h.below.setCell ok.nb0 _, by rw [Below.heap_setCell _ _ _ _ ok.d1]; exact h.hm, by rw [heap_setCell_same h.hn]; rfl, by rw [Below.heap_setCell _ _ _ _ (Ne.symm ok.d3)]; exact h.hc, h.cl⟩
theorem flat_get : ∀ (cs : List ACap) (k : Nat), k < cs.length → (cs.flatMap capP)[k * 2]? = some (.int .i64 (cs.getD k zeroCap).f) ∧ (cs.flatMap capP)[k * 2 + 1]? = some (.int .i64 (if (cs.getD k zeroCap).o then 0 else (cs.getD k zeroCap).t))
  | [], k, h => by cases h
  | c :: cs, 0, _ => by simp [capP]
  | c :: cs, k + 1, h => by
    have := flat_get cs k (by simpa using h)
    simp only [List.flatMap_cons, capP, List.cons_append, List.nil_append]
    have e1 : (k + 1) * 2 = k * 2 + 1 + 1 := by omega
    rw [e1]
    simpa using this
theorem flat_set : ∀ (cs : List ACap) (k : Nat) (c : ACap), k < cs.length → ((cs.flatMap capP).set (k * 2) (.int .i64 c.f)).set (k * 2 + 1) (.int .i64 (if c.o then 0 else c.t)) = (cs.set k c).flatMap capP
  | [], k, c, h => by cases h
  | d :: cs, 0, c, _ => by simp [capP]
  | d :: cs, k + 1, c, h => by
    have := flat_set cs k c (by simpa using h)
    simp only [List.flatMap_cons, capP, List.cons_append, List.nil_append, List.set_cons_succ]
    have e1 : (k + 1) * 2 = k * 2 + 1 + 1 := by omega
    rw [e1]
    simp only [List.set_cons_succ]
    rw [this]
theorem MSt.capf {E : MEnv} {w : World} {n : Nat} {cs : List ACap} (h : MSt E w n cs) (k : Nat) (hk : k < E.K) : w.cell? ⟨E.cb, k * 2, none⟩ = some (.int .i64 (cs.getD k zeroCap).f) ∧ w.cell? ⟨E.cb, k * 2 + 1, none⟩ = some (.int .i64 (if (cs.getD k zeroCap).o then 0 else (cs.getD k zeroCap).t)) := by
  have := flat_get cs k (by rw [h.cl]; exact hk)
  rw [cell_of_heap h.hc, cell_of_heap h.hc]
  simpa [capCells] using this
theorem MSt.setc {E : MEnv} (ok : MOK E) {w : World} {n : Nat} {cs : List ACap} (h : MSt E w n cs) (k : Nat) (hk : k < E.K) (c : ACap) : MSt E ((w.setCell ⟨E.cb, k * 2, none⟩ (.int .i64 c.f)).setCell ⟨E.cb, k * 2 + 1, none⟩ (.int .i64 (if c.o then 0 else c.t))) n (cs.set k c) := by
  refine ⟨(h.below.setCell ok.cb0 _).setCell ok.cb0 _, ?_, ?_, ?_, by simpa using h.cl⟩
  · rw [Below.heap_setCell _ _ _ _ ok.d2, Below.heap_setCell _ _ _ _ ok.d2]; exact h.hm
  · rw [Below.heap_setCell _ _ _ _ ok.d3, Below.heap_setCell _ _ _ _ ok.d3]; exact h.hn
  · rw [heap_setCell_same (heap_setCell_same h.hc _ _)]
    have := flat_set cs k c (by rw [h.cl]; exact hk)
    unfold capCells
    rw [← this]
    simp
theorem MSt.fz {E : MEnv} {w : World} {n : Nat} {cs : List ACap} (h : MSt E w n cs) (k : Nat) : w.frozen? ⟨E.cb, k, none⟩ = false ∧ w.frozen? ⟨E.nb, k, none⟩ = false := by
  simp [World.frozen?, h.hc, h.hn]
end Go.Proofs.YtpbhncmaamedhaaDoor
