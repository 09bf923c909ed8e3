import Derived.Test.YtpbhncmaamedhaaDoorPair
import Derived.Maps.AppendAt
import Derived.RegionTactic
import Derived.BigRegion
namespace Go.Proofs.YtpbhncmaamedhaaDoor
open Go.RowKit Go.Proofs.Lexi

/-! The plain model of a set. -/
def bytesOf (p : ByteArray) : List Nat := p.data.toList.map UInt8.toNat
theorem bytesOf_length (p : ByteArray) : (bytesOf p).length = p.size := by unfold bytesOf; rw [List.length_map]; rfl
theorem bytesOf_drop (p : ByteArray) (k : Nat) (h : k < p.size) : (bytesOf p).drop k = p[k].toNat :: (bytesOf p).drop (k + 1) := by
  rw [List.drop_eq_getElem_cons (by rw [bytesOf_length]; exact h)]
  congr 1
  simp [bytesOf]; rfl
theorem bytesOf_end (p : ByteArray) (k : Nat) (h : p.size ≤ k) : (bytesOf p).drop k = [] := List.drop_eq_nil_of_le (by rw [bytesOf_length]; exact h)

def eqS (c : Nat) : Nat → Bool := fun b => b == c
def rangeS (x y : Nat) : Nat → Bool := fun b => x ≤ b && b ≤ y
def setGo : Bool → List Nat → List (Nat → Bool) → Option (List (Nat → Bool) × List Nat)
  | _, [], _ => none
  | first, c :: r, acc =>
    if c = 93 ∧ first = false then some (acc, r)
    else if c = 37 then
      match r with
      | [] => none
      | d :: r2 => match pairS d with
        | none => none
        | some S => setGo false r2 (acc ++ [S])
    else match r with
      | d :: y :: r3 => if d = 45 ∧ y ≠ 93 then setGo false r3 (acc ++ [rangeS c y]) else setGo false (d :: y :: r3) (acc ++ [eqS c])
      | [d] => setGo false [d] (acc ++ [eqS c])
      | [] => setGo false [] (acc ++ [eqS c])
/-- The set behind its bracket: its bytes, and what follows it. -/
def setM (r : List Nat) : Option ((Nat → Bool) × List Nat) :=
  match r with
  | [] => none
  | c :: r1 => if c = 94 then (setGo true r1 []).map (fun q => (setRes q.1 true, q.2)) else (setGo true (c :: r1) []).map (fun q => (setRes q.1 false, q.2))

theorem setGo_cons (first : Bool) (c : Nat) (r : List Nat) (acc : List (Nat → Bool)) : setGo first (c :: r) acc =
    if c = 93 ∧ first = false then some (acc, r)
    else if c = 37 then
      match r with
      | [] => none
      | d :: r2 => match pairS d with
        | none => none
        | some S => setGo false r2 (acc ++ [S])
    else match r with
      | d :: y :: r3 => if d = 45 ∧ y ≠ 93 then setGo false r3 (acc ++ [rangeS c y]) else setGo false (d :: y :: r3) (acc ++ [eqS c])
      | [d] => setGo false [d] (acc ++ [eqS c])
      | [] => setGo false [] (acc ++ [eqS c]) := by
  match r with
  | [] => rfl
  | [d] => rfl
  | d :: y :: r3 => rfl
theorem setGo_end (r : List Nat) (acc : List (Nat → Bool)) : setGo false (93 :: r) acc = some (acc, r) := by rw [setGo_cons]; simp
theorem setGo_pct (f : Bool) (d : Nat) (r : List Nat) (acc : List (Nat → Bool)) : setGo f (37 :: d :: r) acc = match pairS d with | none => none | some S => setGo false r (acc ++ [S]) := by
  rw [setGo_cons]; simp
theorem setGo_pct0 (f : Bool) (acc : List (Nat → Bool)) : setGo f [37] acc = none := by rw [setGo_cons]; simp
theorem setGo_range (f : Bool) (c y : Nat) (r : List Nat) (acc : List (Nat → Bool)) (h1 : ¬ (c = 93 ∧ f = false)) (h2 : c ≠ 37) (h3 : y ≠ 93) : setGo f (c :: 45 :: y :: r) acc = setGo false r (acc ++ [rangeS c y]) := by
  rw [setGo_cons, if_neg h1, if_neg h2]; simp [h3]
theorem setGo_one (f : Bool) (c : Nat) (r : List Nat) (acc : List (Nat → Bool)) (h1 : ¬ (c = 93 ∧ f = false)) (h2 : c ≠ 37) (h3 : ∀ y r', r = 45 :: y :: r' → y = 93) : setGo f (c :: r) acc = setGo false r (acc ++ [eqS c]) := by
  rw [setGo_cons, if_neg h1, if_neg h2]
  match r with
  | [] => rfl
  | [d] => rfl
  | d :: y :: r3 =>
    simp only []
    rw [if_neg]
    rintro ⟨rfl, hy⟩
    exact hy (h3 y r3 rfl)

theorem getD_left {α : Type} (l k : List α) (d : α) (j : Nat) (h : j < l.length) : (l ++ k).getD j d = l.getD j d := by
  simp [List.getD_eq_getElem?_getD, List.getElem?_append_left h]
theorem getD_last {α : Type} (l : List α) (x d : α) : (l ++ [x]).getD l.length d = x := by
  simp [List.getD_eq_getElem?_getD]
/-! Closures in memory. -/
def Sets (w : World) (A : Nat) (M : Nat → Prop) (vals : List Value) (Ss : List (Nat → Bool)) : Prop :=
  ∀ j, j < vals.length → ∃ lo hi, A ≤ lo ∧ hi ≤ w.heap.size ∧ (∀ b, lo ≤ b → b < hi → ¬ M b) ∧ IsSet w lo hi (vals.getD j undef) (Ss.getD j (fun _ => false))
theorem Sets.step {w w' : World} {A : Nat} {M M' : Nat → Prop} {vals : List Value} {Ss : List (Nat → Bool)} (h : Sets w A M vals Ss) (hs : w.heap.size ≤ w'.heap.size)
    (hw : ∀ b, A ≤ b → b < w.heap.size → ¬ M b → w'.heap[b]? = w.heap[b]?) (hM : ∀ b, M' b → M b ∨ w.heap.size ≤ b) : Sets w' A M' vals Ss := fun j hj => by
  obtain ⟨lo, hi, h1, h2, h3, h4⟩ := h j hj
  refine ⟨lo, hi, h1, by omega, fun b hb hb' hm => ?_, h4.mono (Nat.le_refl _) (Nat.le_refl _) fun b hb hb' => hw b (by omega) (by omega) (h3 b hb hb')⟩
  rcases hM b hm with h | h
  · exact h3 b hb hb' h
  · omega
theorem Sets.push {w : World} {A : Nat} {M : Nat → Prop} {vals : List Value} {Ss : List (Nat → Bool)} (h : Sets w A M vals Ss) (hl : vals.length = Ss.length) {v : Value} {S : Nat → Bool} {lo hi : Nat} (h1 : A ≤ lo) (h2 : hi ≤ w.heap.size)
    (h3 : ∀ b, lo ≤ b → b < hi → ¬ M b) (h4 : IsSet w lo hi v S) : Sets w A M (vals ++ [v]) (Ss ++ [S]) := fun j hj => by
  by_cases hlt : j < vals.length
  · obtain ⟨lo, hi, k1, k2, k3, k4⟩ := h j hlt
    refine ⟨lo, hi, k1, k2, k3, ?_⟩
    rw [getD_left _ _ _ _ hlt, getD_left _ _ _ _ (by omega)]
    exact k4
  · have hj' : j = vals.length := by simp at hj; omega
    subst hj'
    refine ⟨lo, hi, h1, h2, h3, ?_⟩
    rw [getD_last, hl, getD_last]
    exact h4

structure SetSt (w wr : World) (nt : Bool) (vs : Value) (vals : List Value) (acc : List (Nat → Bool)) : Prop where
  below : Below w.heap.size w wr
  hn : wr.heap[w.heap.size]? = some (.cells #[.bool nt] 4 (0, 0))
  hv : wr.heap[w.heap.size + 1]? = some (.cells #[vs] 123 (0, 0))
  own : wr.ownsRow (w.heap.size + 2) 84 1 vs vals.length vals
  len : vals.length = acc.length
  sets : Sets wr (w.heap.size + 2) (fun b => vs.ownBlock = some b) vals acc
  size : w.heap.size + 2 ≤ wr.heap.size
theorem below_ext {B : Nat} {w w' : World} (h : Below B w w') (hB : w.heap.size ≤ B) : Ext w w' := ⟨h.size, fun k hk => h.block k (by omega)⟩
theorem ownsRow_ext {w W : World} (h : Ext w W) {base : Nat} {e : TypeId} {size : Nat} {v : Value} {n : Nat} {xs : List Value} (ho : w.ownsRow base e size v n xs) : W.ownsRow base e size v n xs := by
  obtain ⟨h1, h2⟩ := ho
  refine ⟨h1, ?_⟩
  rcases h2 with h2 | ⟨g, cap, cur, hv, hg, hh, r⟩
  · exact .inl h2
  · exact .inr ⟨g, cap, cur, hv, hg, h.get hh, r⟩
theorem ownBlock_lt {w : World} {base : Nat} {e : TypeId} {size : Nat} {v : Value} {n : Nat} {xs : List Value} (ho : w.ownsRow base e size v n xs) {g : Nat} (hg : v.ownBlock = some g) : base ≤ g ∧ g < w.heap.size := by
  rcases ho.2 with ⟨rfl, _⟩ | ⟨g', cap, cur, rfl, h1, h2, _⟩
  · cases hg
  · injection hg with hg; subst hg
    exact ⟨h1, (Array.getElem?_eq_some_iff.1 h2).1⟩
theorem heap_setCell_same {w : World} {b : Nat} {cs : Array Value} {t : TypeId} {fz : Nat × Nat} (h : w.heap[b]? = some (.cells cs t fz)) (o : Nat) (v : Value) : (w.setCell ⟨b, o, none⟩ v).heap[b]? = some (.cells (cs.setIfInBounds o v) t fz) := by
  simp [World.setCell, Array.getElem?_modify, h]
/-- What the parts' variable and its row are, behind one more closure. -/
theorem SetSt.push {w wr W1 w2 : World} {nt : Bool} {vs : Value} {vals : List Value} {acc : List (Nat → Bool)} (h : SetSt w wr nt vs vals acc) (hx : Below wr.heap.size wr W1) {f : Value} {S : Nat → Bool}
    (hf : IsSet W1 wr.heap.size W1.heap.size f S) {v' : Value} (hown : w2.ownsRow (w.heap.size + 2) 84 1 v' (vals.length + 1) (vals ++ [f])) (hg : (W1.alloc (.cells #[f] 84)).grownBy w2 vs.ownBlock)
    (hat : v'.ownBlock = vs.ownBlock ∨ v'.ownBlock = some (W1.heap.size + 1)) : SetSt w (w2.setCell ⟨w.heap.size + 1, 0, none⟩ v') nt v' (vals ++ [f]) (acc ++ [S]) := by
  have hs1 := hx.size
  have hs2 := hg.size
  simp only [World.size_alloc] at hs2
  have hsz := h.size
  have notown : ∀ b, b < w.heap.size + 2 → some b ≠ vs.ownBlock := fun b hb e => by have := (ownBlock_lt h.own e.symm).1; omega
  have old : ∀ b, b < wr.heap.size → some b ≠ vs.ownBlock → w2.heap[b]? = wr.heap[b]? := fun b hb hne => by
    rw [hg.block b (by simp; omega) hne, Below.heap_alloc _ _ _ (by omega), hx.block b hb]
  have hvv : w2.heap[w.heap.size + 1]? = some (.cells #[vs] 123 (0, 0)) := by rw [old _ (by omega) (notown _ (by omega))]; exact h.hv
  have set : ∀ b, b ≠ w.heap.size + 1 → (w2.setCell ⟨w.heap.size + 1, 0, none⟩ v').heap[b]? = w2.heap[b]? := fun b hb => Below.heap_setCell _ _ _ _ hb
  refine ⟨?_, ?_, ?_, ?_, by simp [h.len], ?_, by simp; omega⟩
  · refine h.below.trans ⟨?_, ?_, ?_, by simp; omega, fun k hk => ?_⟩
    · show w2.os = _; rw [hg.os]; exact hx.os
    · show w2.tape = _; rw [hg.tape]; exact hx.tape
    · show w2.output = _; rw [hg.output]; exact hx.output
    · rw [set k (by omega), old k (by omega) (notown k (by omega))]
  · rw [set _ (by omega), old _ (by omega) (notown _ (by omega))]; exact h.hn
  · rw [heap_setCell_same hvv]; rfl
  · have := ownsRow_setCell_below hown (a := ⟨w.heap.size + 1, 0, none⟩) (by simp) v'
    simpa using this
  · have s1 : Sets W1 (w.heap.size + 2) (fun b => vs.ownBlock = some b) (vals ++ [f]) (acc ++ [S]) := by
      refine Sets.push (h.sets.step hs1 (fun b _ hb _ => hx.block b hb) fun b hb => .inl hb) h.len hsz (Nat.le_refl _) (fun b hb _ e => ?_) hf
      have := (ownBlock_lt h.own e).2
      omega
    refine s1.step (by simp; omega) (fun b hb hlt hne => ?_) (fun b hb => ?_)
    · rw [set b (by omega), hg.block b (by simp; omega) (fun e => hne e.symm), Below.heap_alloc _ _ _ hlt]
    · rcases hat with e | e
      · exact .inl (by rw [← e]; exact hb)
      · rw [hb] at e; injection e with e; right; omega
theorem SetSt.cellv {w wr W1 w2 : World} {nt : Bool} {vs : Value} {vals : List Value} {acc : List (Nat → Bool)} (h : SetSt w wr nt vs vals acc) (hx : Below wr.heap.size wr W1) {f : Value}
    (hg : (W1.alloc (.cells #[f] 84)).grownBy w2 vs.ownBlock) : w2.cell? ⟨w.heap.size + 1, 0, none⟩ = some vs ∧ w2.frozen? ⟨w.heap.size + 1, 0, none⟩ = false := by
  have hs1 := hx.size
  have hsz := h.size
  have : w2.heap[w.heap.size + 1]? = some (.cells #[vs] 123 (0, 0)) := by
    rw [hg.block _ (by simp; omega) (fun e => by have := (ownBlock_lt h.own e.symm).1; omega), Below.heap_alloc _ _ _ (by omega), hx.block _ (by omega)]
    exact h.hv
  exact ⟨by rw [cell_of_heap this]; rfl, by simp [World.frozen?, this]⟩
theorem SetSt.owned {w wr W1 : World} {nt : Bool} {vs : Value} {vals : List Value} {acc : List (Nat → Bool)} (h : SetSt w wr nt vs vals acc) (hx : Below wr.heap.size wr W1) (o : Obj) :
    (W1.alloc o).ownsRow (w.heap.size + 2) 84 1 vs vals.length vals :=
  ownsRow_ext ((below_ext hx (Nat.le_refl _)).trans ⟨by simp, fun k hk => Below.heap_alloc _ _ _ hk⟩) h.own
theorem slice_shape {w : World} {base : Nat} {e : TypeId} {size : Nat} {v : Value} {n : Nat} {xs : List Value} (ho : w.ownsRow base e size v n xs) (hn : 0 < n) : ∃ g cap, v = .slice (some ⟨g, 0, none⟩) n cap := by
  rcases ho.2 with ⟨_, h⟩ | ⟨g, cap, _, h, _⟩
  · omega
  · exact ⟨g, cap, h⟩

def SetEnd (w : World) (n : Nat) (nt : Bool) (R : Option (List (Nat → Bool) × List Nat)) (e : Ending) (w' : World) : Prop :=
  Below w.heap.size w w' ∧ match R with
    | none => e = .returned (.tuple #[.nilFunc, .int .i64 0, .bool false])
    | some (Ss, rest) => ∃ v, e = .returned (.tuple #[v, .int .i64 ((n - rest.length : Nat) : Int), .bool true]) ∧ IsSet w' w.heap.size w'.heap.size v (setRes Ss nt)
theorem SetEnd.no {w w' : World} {n : Nat} {nt : Bool} {R : Option (List (Nat → Bool) × List Nat)} {vs : Value} {vals : List Value} {acc : List (Nat → Bool)} (h : SetSt w w' nt vs vals acc) (hR : R = none) : SetEnd w n nt R (.returned (.tuple #[.nilFunc, .int .i64 0, .bool false])) w' := by
  subst hR; exact ⟨h.below, rfl⟩
theorem SetEnd.no' {w wr w' : World} {n : Nat} {nt : Bool} {R : Option (List (Nat → Bool) × List Nat)} {vs : Value} {vals : List Value} {acc : List (Nat → Bool)} (h : SetSt w wr nt vs vals acc) (hb : Below wr.heap.size wr w') (hR : R = none) : SetEnd w n nt R (.returned (.tuple #[.nilFunc, .int .i64 0, .bool false])) w' := by
  subst hR; exact ⟨h.below.trans (hb.mono (by have := h.size; omega)), rfl⟩
theorem SetEnd.yes {w wr : World} {p : ByteArray} {k : Nat} {nt : Bool} {R : Option (List (Nat → Bool) × List Nat)} {vs : Value} {vals : List Value} {acc : List (Nat → Bool)} (h : SetSt w wr nt vs vals acc) (hk : k < p.size) (hm : vals.length ≤ 5000) (h0 : 0 < vals.length)
    (hR : R = some (acc, (bytesOf p).drop (k + 1))) : SetEnd w p.size nt R (.returned (.tuple #[.func (.func 83) #[] #[.pointer (some ⟨w.heap.size + 1, 0, none⟩), .pointer (some ⟨w.heap.size, 0, none⟩)], .int .i64 ((k : Int) + 1), .bool true])) wr := by
  subst hR
  refine ⟨h.below, .func (.func 83) #[] #[.pointer (some ⟨w.heap.size + 1, 0, none⟩), .pointer (some ⟨w.heap.size, 0, none⟩)], ?_, fun W hW => ?_⟩
  · have : p.size - ((bytesOf p).drop (k + 1)).length = k + 1 := by rw [List.length_drop, bytesOf_length]; omega
    rw [this]; rfl
  · refine ⟨83, _, rfl, fun _ _ => by kernel_rfl, fun c hc => ?_⟩
    have hsz := h.size
    obtain ⟨g, cap, rfl⟩ := slice_shape h.own h0
    have c1 : W.heap[w.heap.size + 1]? = _ := (hW _ (by omega) (by omega)).trans h.hv
    have c2 : W.heap[w.heap.size]? = _ := (hW _ (by omega) (by omega)).trans h.hn
    have hg := ownBlock_lt h.own (g := g) rfl
    refine set1_c (w.heap.size + 1) w.heap.size g vals.length cap c hc nt vals acc W rfl h.len.symm hm (by rw [cell_of_heap c1]; rfl) (by rw [cell_of_heap c2]; rfl) (fun j hj => ?_) (fun j hj => ?_)
    · rcases h.own.2 with ⟨e, _⟩ | ⟨g', cap', cur, e, h1, h2, h3, h4, h5, h6⟩
      · cases e
      · injection e with e1 e2 e3
        injection e1 with e1
        injection e1 with e1
        subst e1
        have c3 : W.heap[g]? = _ := (hW g (by omega) (by omega)).trans h2
        rw [cell_of_heap c3]
        have : cur.toList[j]? = some (vals.getD j undef) := by
          have e6 : (cur.toList.take (vals.length * 1))[j]? = cur.toList[j]? := by rw [List.getElem?_take]; simp [hj]
          rw [← e6, h6]
          simp [List.getD_eq_getElem?_getD, hj]
        simpa using this
    · obtain ⟨lo, hi, k1, k2, _, k4⟩ := h.sets j hj
      exact k4 W fun b hb hb' => hW b (by omega) (by omega)

def SetRel (p : ByteArray) (w : World) (nt : Bool) (k0 : Nat) (R : Option (List (Nat → Bool) × List Nat)) (kk : Value) (wr : World) : Prop :=
  ∃ (k : Nat) (vs : Value) (vals : List Value) (acc : List (Nat → Bool)), kk = .int .i64 (k : Int) ∧ k0 ≤ k ∧ k ≤ p.size ∧ vals.length ≤ k ∧ (k0 < k → 0 < vals.length) ∧ SetSt w wr nt vs vals acc ∧ setGo (decide (k = k0)) ((bytesOf p).drop k) acc = R
theorem SetRel.next {p : ByteArray} {w wr W1 w2 : World} {nt : Bool} {k0 k j : Nat} {R : Option (List (Nat → Bool) × List Nat)} {vs : Value} {vals : List Value} {acc : List (Nat → Bool)} (hk0 : k0 ≤ k) (hkj : k < j) (hj : j ≤ p.size) (hl : vals.length ≤ k)
    (h : SetSt w wr nt vs vals acc) (hx : Below wr.heap.size wr W1) {f : Value} {S : Nat → Bool} (hR : setGo false ((bytesOf p).drop j) (acc ++ [S]) = R)
    (hf : IsSet W1 wr.heap.size W1.heap.size f S) {v' : Value} (hown : w2.ownsRow (w.heap.size + 2) 84 1 v' (vals.length + 1) (vals ++ [f])) (hg : (W1.alloc (.cells #[f] 84)).grownBy w2 vs.ownBlock)
    (hat : v'.ownBlock = vs.ownBlock ∨ v'.ownBlock = some (W1.heap.size + 1)) {kk : Value} (hkk : kk = .int .i64 (j : Int)) : SetRel p w nt k0 R kk (w2.setCell ⟨w.heap.size + 1, 0, none⟩ v') := by
  refine ⟨j, v', vals ++ [f], acc ++ [S], hkk, by omega, hj, by simp; omega, by simp, h.push hx hf hown hg hat, ?_⟩
  rw [show decide (j = k0) = false from by simp; omega]
  exact hR
theorem isSet_eq (wr : World) (c : Nat) : IsSet (wr.alloc (.cells #[.int .u8 c] 5)) wr.heap.size (wr.alloc (.cells #[.int .u8 c] 5)).heap.size (.func (.func 85) #[] #[.pointer (some ⟨wr.heap.size, 0, none⟩)]) (eqS c) := fun W hW => by
  refine ⟨85, _, rfl, fun _ _ => by kernel_rfl, fun b _ => set3_c wr.heap.size b c W ?_⟩
  have := (hW wr.heap.size (Nat.le_refl _) (by simp)).trans (heap_new _ _)
  rw [cell_of_heap this]; rfl
theorem isSet_range (W1 : World) (lo b1 b2 x y : Nat) (h1 : W1.heap[b1]? = some (.cells #[.int .u8 x] 5 (0, 0))) (h2 : W1.heap[b2]? = some (.cells #[.int .u8 y] 5 (0, 0))) (l1 : lo ≤ b1) (l2 : lo ≤ b2) : IsSet W1 lo W1.heap.size (.func (.func 84) #[] #[.pointer (some ⟨b1, 0, none⟩), .pointer (some ⟨b2, 0, none⟩)]) (rangeS x y) := fun W hW => by
  refine ⟨84, _, rfl, fun _ _ => by kernel_rfl, fun b _ => set2_c b1 b2 b x y W ?_ ?_⟩
  · rw [cell_of_heap ((hW b1 l1 (Array.getElem?_eq_some_iff.1 h1).1).trans h1)]; rfl
  · rw [cell_of_heap ((hW b2 l2 (Array.getElem?_eq_some_iff.1 h2).1).trans h2)]; rfl
end Go.Proofs.YtpbhncmaamedhaaDoor
