import Derived.Test.YtpbhncmaamedhaaDoorSet
import Derived.WalkSmall
namespace Go.Proofs.YtpbhncmaamedhaaDoor
open Go.RowKit Go.Proofs.Lexi

/-- An item of a pattern. -/
structure Item where
  kind : Nat
  n : Nat
  x : Nat
  y : Nat
  one : Nat → Bool
  how : Nat
/-- What a reader has read: items, captures, those that are open, those that have ended. -/
structure St where
  items : List Item
  caps : Nat
  opened : List Nat
  ended : List Bool
def Item.sets (it : Item) : Bool := it.kind == 5 || it.kind == 7
def noSet : Nat → Bool := fun _ => false

def itemCells (it : Item) (v : Value) : List Value := [.int .i64 it.kind, .int .i64 it.n, .int .u8 it.x, .int .u8 it.y, v, .int .u8 it.how]
def rowOf : List Item → List Value → List Value
  | [], _ => []
  | it :: l, vs => itemCells it (vs.headD .nilFunc) ++ rowOf l vs.tail
theorem rowOf_length : ∀ (l : List Item) (vs : List Value), (rowOf l vs).length = l.length * 6
  | [], _ => rfl
  | it :: l, vs => by simp [rowOf, rowOf_length l, itemCells]; omega
theorem rowOf_snoc : ∀ (l : List Item) (vs : List Value) (it : Item) (v : Value), vs.length = l.length → rowOf (l ++ [it]) (vs ++ [v]) = rowOf l vs ++ itemCells it v
  | [], [], it, v, _ => by simp [rowOf]
  | [], _ :: _, _, _, h => by cases h
  | _ :: _, [], _, _, h => by cases h
  | a :: l, b :: vs, it, v, h => by
    simp only [List.cons_append, rowOf, List.headD_cons, List.tail_cons, List.append_assoc]
    rw [rowOf_snoc l vs it v (by simpa using h)]

/-- The function value of an item: it answers for the item's set as long as its blocks lo .. hi - 1 stay. -/
def ItemOK (w : World) (A : Nat) (M : Nat → Prop) (it : Item) (v : Value) : Prop :=
  if it.sets then ∃ lo hi, A ≤ lo ∧ hi ≤ w.heap.size ∧ (∀ b, lo ≤ b → b < hi → ¬ M b) ∧ IsSet w lo hi v it.one else v = .nilFunc
theorem ItemOK.step {w w' : World} {A : Nat} {M M' : Nat → Prop} {it : Item} {v : Value} (h : ItemOK w A M it v) (hs : w.heap.size ≤ w'.heap.size)
    (hw : ∀ b, A ≤ b → b < w.heap.size → ¬ M b → w'.heap[b]? = w.heap[b]?) (hM : ∀ b, M' b → M b ∨ w.heap.size ≤ b) : ItemOK w' A M' it v := by
  unfold ItemOK at *
  split
  · rename_i hi
    rw [if_pos hi] at h
    obtain ⟨lo, hi, h1, h2, h3, h4⟩ := h
    refine ⟨lo, hi, h1, by omega, fun b hb hb' hm => ?_, h4.mono (Nat.le_refl _) (Nat.le_refl _) fun b hb hb' => hw b (by omega) (by omega) (h3 b hb hb')⟩
    rcases hM b hm with h | h
    · exact h3 b hb hb' h
    · omega
  · rename_i hi; rw [if_neg hi] at h; exact h
def ItemsOK (w : World) (A : Nat) (M : Nat → Prop) (l : List Item) (vs : List Value) : Prop := ∀ j, (h : j < l.length) → ItemOK w A M l[j] (vs.getD j .nilFunc)
theorem ItemsOK.step {w w' : World} {A : Nat} {M M' : Nat → Prop} {l : List Item} {vs : List Value} (h : ItemsOK w A M l vs) (hs : w.heap.size ≤ w'.heap.size)
    (hw : ∀ b, A ≤ b → b < w.heap.size → ¬ M b → w'.heap[b]? = w.heap[b]?) (hM : ∀ b, M' b → M b ∨ w.heap.size ≤ b) : ItemsOK w' A M' l vs := fun j hj => (h j hj).step hs hw hM
theorem ItemsOK.push {w : World} {A : Nat} {M : Nat → Prop} {l : List Item} {vs : List Value} (h : ItemsOK w A M l vs) (hl : vs.length = l.length) {it : Item} {v : Value} (hi : ItemOK w A M it v) : ItemsOK w A M (l ++ [it]) (vs ++ [v]) := fun j hj => by
  by_cases hlt : j < l.length
  · rw [List.getElem_append_left hlt, getD_left _ _ _ _ (by omega)]
    exact h j hlt
  · have hj' : j = l.length := by simp at hj; omega
    subst hj'
    have e1 : (l ++ [it])[l.length] = it := by simp
    have e2 : (vs ++ [v]).getD l.length .nilFunc = v := by rw [← hl]; exact getD_last _ _ _
    rw [e1, e2]; exact hi

def intV (n : Nat) : Value := .int .i64 n
/-- The reader in memory: its block rb, its three rows, the function values of its items; nothing below B has changed since w0. -/
structure RSt (w0 : World) (rb : Nat) (w : World) (p : ByteArray) (at_ : Nat) (anc fin : Bool) (s : St) (vo ve vi : Value) (vs : List Value) : Prop where
  below : Below w0.heap.size w0 w
  hr : w.heap[rb]? = some (.cells #[.string p, .int .i64 at_, vo, ve, vi, .int .i64 s.caps, .bool anc, .bool fin] 89 (0, 0))
  rb0 : w0.heap.size ≤ rb
  rb1 : rb < w.heap.size
  oo : w.ownsRow w0.heap.size 3 1 vo s.opened.length (s.opened.map intV)
  oe : w.ownsRow w0.heap.size 4 1 ve s.ended.length (s.ended.map .bool)
  oi : w.ownsRow w0.heap.size 106 6 vi s.items.length (rowOf s.items vs)
  il : vs.length = s.items.length
  its : ItemsOK w w0.heap.size (fun b => b = rb ∨ vo.ownBlock = some b ∨ ve.ownBlock = some b ∨ vi.ownBlock = some b) s.items vs
  d1 : vo.ownBlock ≠ some rb
  d2 : ve.ownBlock ≠ some rb
  d3 : vi.ownBlock ≠ some rb
  d4 : ∀ g, vo.ownBlock = some g → ve.ownBlock ≠ some g
  d5 : ∀ g, vo.ownBlock = some g → vi.ownBlock ≠ some g
  d6 : ∀ g, ve.ownBlock = some g → vi.ownBlock ≠ some g
abbrev Mut (rb : Nat) (vo ve vi : Value) : Nat → Prop := fun b => b = rb ∨ vo.ownBlock = some b ∨ ve.ownBlock = some b ∨ vi.ownBlock = some b

/-- A world that has only grown. -/
theorem RSt.grow {w0 w w' : World} {rb : Nat} {p : ByteArray} {at_ : Nat} {anc fin : Bool} {s : St} {vo ve vi : Value} {vs : List Value} (h : RSt w0 rb w p at_ anc fin s vo ve vi vs) (hb : Below w.heap.size w w') : RSt w0 rb w' p at_ anc fin s vo ve vi vs := by
  have hx := below_ext hb (Nat.le_refl _)
  have hs := h.below.size
  exact ⟨h.below.trans (hb.mono hs), hx.get h.hr, h.rb0, by have := h.rb1; have := hb.size; omega, ownsRow_ext hx h.oo, ownsRow_ext hx h.oe, ownsRow_ext hx h.oi, h.il,
    h.its.step hb.size (fun b _ hb' _ => hb.block b hb') (fun b hb => .inl hb), h.d1, h.d2, h.d3, h.d4, h.d5, h.d6⟩
theorem RSt.frozen {w0 w : World} {rb : Nat} {p : ByteArray} {at_ : Nat} {anc fin : Bool} {s : St} {vo ve vi : Value} {vs : List Value} (h : RSt w0 rb w p at_ anc fin s vo ve vi vs) (k : Nat) : w.frozen? ⟨rb, k, none⟩ = false := by
  simp [World.frozen?, h.hr]
theorem ownsRow_set {w : World} {base : Nat} {e : TypeId} {size : Nat} {v : Value} {n : Nat} {xs : List Value} (ho : w.ownsRow base e size v n xs) {a : Addr} (ha : v.ownBlock ≠ some a.block) (u : Value) : (w.setCell a u).ownsRow base e size v n xs := by
  obtain ⟨h1, h2⟩ := ho
  refine ⟨h1, ?_⟩
  rcases h2 with h2 | ⟨g, cap, cur, hv, hg, hh, r⟩
  · exact .inl h2
  · exact .inr ⟨g, cap, cur, hv, hg, by rw [Below.heap_setCell _ _ _ _ (fun e => ha (by rw [hv, ← e]; rfl))]; exact hh, r⟩
/-- A store into a field of the reader that holds no row. -/
theorem RSt.setr {w0 w : World} {rb : Nat} {p : ByteArray} {at_ : Nat} {anc fin : Bool} {s : St} {vo ve vi : Value} {vs : List Value} (h : RSt w0 rb w p at_ anc fin s vo ve vi vs) {k : Nat} {u : Value} {at' : Nat} {anc' fin' : Bool} {caps' : Nat}
    (hk : #[.string p, .int .i64 at', vo, ve, vi, .int .i64 caps', .bool anc', .bool fin'] = (#[.string p, .int .i64 at_, vo, ve, vi, .int .i64 s.caps, .bool anc, .bool fin] : Array Value).setIfInBounds k u) :
    RSt w0 rb (w.setCell ⟨rb, k, none⟩ u) p at' anc' fin' { s with caps := caps' } vo ve vi vs := by
  have set : ∀ b, b ≠ rb → (w.setCell ⟨rb, k, none⟩ u).heap[b]? = w.heap[b]? := fun b hb => Below.heap_setCell _ _ _ _ hb
  refine ⟨h.below.setCell h.rb0 _, ?_, h.rb0, by simpa using h.rb1, ownsRow_set h.oo h.d1 _, ownsRow_set h.oe h.d2 _, ownsRow_set h.oi h.d3 _, h.il,
    h.its.step (by simp) (fun b _ _ hm => set b (fun e => hm (.inl e))) (fun b hb => .inl hb), h.d1, h.d2, h.d3, h.d4, h.d5, h.d6⟩
  rw [heap_setCell_same h.hr, hk]

theorem ownsRow_keep {w w3 : World} {base : Nat} {e : TypeId} {size : Nat} {v : Value} {n : Nat} {xs : List Value} (ho : w.ownsRow base e size v n xs) (hk : ∀ g, v.ownBlock = some g → w3.heap[g]? = w.heap[g]?) : w3.ownsRow base e size v n xs := by
  obtain ⟨h1, h2⟩ := ho
  refine ⟨h1, ?_⟩
  rcases h2 with h2 | ⟨g, cap, cur, hv, hg, hh, r⟩
  · exact .inl h2
  · exact .inr ⟨g, cap, cur, hv, hg, by rw [hk g (by rw [hv]; rfl)]; exact hh, r⟩
/-- What an append to one of the reader's rows, and the store of its result, leave. -/
structure Pushed (w W w3 : World) (rb k : Nat) (v v' : Value) : Prop where
  grow : Below w.heap.size w W
  size : W.heap.size ≤ w3.heap.size
  os : w3.os = w.os
  tape : w3.tape = w.tape
  output : w3.output = w.output
  old : ∀ b, b < W.heap.size → b ≠ rb → some b ≠ v.ownBlock → w3.heap[b]? = W.heap[b]?
  at_ : v'.ownBlock = v.ownBlock ∨ v'.ownBlock = some W.heap.size
theorem pushed_of {w W w2 : World} {rb k : Nat} {v v' : Value} (hb : Below w.heap.size w W) (hg : W.grownBy w2 v.ownBlock) (hat : v'.ownBlock = v.ownBlock ∨ v'.ownBlock = some W.heap.size) :
    Pushed w W (w2.setCell ⟨rb, k, none⟩ v') rb k v v' :=
  ⟨hb, by simpa using hg.size, (show w2.os = _ by rw [hg.os]; exact hb.os), (show w2.tape = _ by rw [hg.tape]; exact hb.tape), (show w2.output = _ by rw [hg.output]; exact hb.output),
    fun b hlt hne hrow => by rw [Below.heap_setCell _ _ _ _ hne]; exact hg.block b hlt hrow, hat⟩
theorem pushed_own {w2 : World} {base rb k : Nat} {e : TypeId} {size : Nat} {v' : Value} {n : Nat} {xs : List Value} (ho : w2.ownsRow base e size v' n xs) (hne : v'.ownBlock ≠ some rb) : (w2.setCell ⟨rb, k, none⟩ v').ownsRow base e size v' n xs := ownsRow_set ho hne _
theorem Pushed.rbk {w W w2 : World} {rb : Nat} {v : Value} {cs : Array Value} {t : TypeId} (hb : Below w.heap.size w W) (hg : W.grownBy w2 v.ownBlock) (hr : w.heap[rb]? = some (.cells cs t (0, 0))) (hne : v.ownBlock ≠ some rb) :
    w2.heap[rb]? = some (.cells cs t (0, 0)) := by
  have hlt := (Array.getElem?_eq_some_iff.1 hr).1
  rw [hg.block rb (by have := hb.size; omega) (fun e => hne e.symm), hb.block rb hlt]
  exact hr
theorem RSt.below3 {w0 w W w3 : World} {rb : Nat} {p : ByteArray} {at_ : Nat} {anc fin : Bool} {s : St} {vo ve vi : Value} {vs : List Value} (h : RSt w0 rb w p at_ anc fin s vo ve vi vs) {k : Nat} {v v' : Value} (hp : Pushed w W w3 rb k v v')
    (hv : ∀ g, v.ownBlock = some g → w0.heap.size ≤ g) : Below w0.heap.size w0 w3 := by
  have h0 := h.below.size
  have h1 := hp.grow.size
  refine h.below.trans ⟨hp.os, hp.tape, hp.output, by have := hp.size; omega, fun b hb => ?_⟩
  rw [hp.old b (by omega) (by have := h.rb0; omega) (fun e => by have := hv b e.symm; omega), hp.grow.block b (by omega)]
theorem RSt.pushItem {w0 w W w2 : World} {rb : Nat} {p : ByteArray} {at_ : Nat} {anc fin : Bool} {s : St} {vo ve vi : Value} {vs : List Value} (h : RSt w0 rb w p at_ anc fin s vo ve vi vs) (hb : Below w.heap.size w W) {it : Item} {v v' : Value}
    (hit : ItemOK w w0.heap.size (Mut rb vo ve vi) it v) (hown : w2.ownsRow w0.heap.size 106 6 v' (s.items.length + 1) (rowOf s.items vs ++ itemCells it v)) (hg : W.grownBy w2 vi.ownBlock) (hat : v'.ownBlock = vi.ownBlock ∨ v'.ownBlock = some W.heap.size) :
    RSt w0 rb (w2.setCell ⟨rb, 4, none⟩ v') p at_ anc fin { s with items := s.items ++ [it] } vo ve v' (vs ++ [v]) := by
  have hp : Pushed w W (w2.setCell ⟨rb, 4, none⟩ v') rb 4 vi v' := pushed_of hb hg hat
  have hsz := hb.size
  have hrb := h.rb1
  have fresh : ∀ g, v'.ownBlock = some g → vi.ownBlock = some g ∨ w.heap.size ≤ g := fun g e => by
    rcases hat with h | h
    · exact .inl (by rw [← h]; exact e)
    · rw [e] at h; injection h with h; right; omega
  have n3 : v'.ownBlock ≠ some rb := fun e => by rcases fresh rb e with h' | h'; exact h.d3 h'; omega
  have keep : ∀ (u : Value) (g : Nat), u.ownBlock = some g → g < w.heap.size → u.ownBlock ≠ some rb → (∀ g, u.ownBlock = some g → vi.ownBlock ≠ some g) → (w2.setCell ⟨rb, 4, none⟩ v').heap[g]? = w.heap[g]? := fun u g e hlt hne hd => by
    rw [hp.old g (by omega) (fun e' => hne (by rw [e, e'])) (fun e' => hd g e e'.symm), hb.block g hlt]
  refine ⟨h.below3 hp (fun g e => (ownBlock_lt h.oi e).1), ?_, h.rb0, by have := hp.size; omega, ownsRow_keep h.oo fun g e => keep vo g e (ownBlock_lt h.oo e).2 h.d1 h.d5, ownsRow_keep h.oe fun g e => keep ve g e (ownBlock_lt h.oe e).2 h.d2 h.d6, ?_, by simp [h.il], ?_, h.d1, h.d2, n3, h.d4, ?_, ?_⟩
  · rw [heap_setCell_same (Pushed.rbk hb hg h.hr h.d3)]; rfl
  · have := pushed_own (k := 4) hown n3
    rw [show (s.items ++ [it]).length = s.items.length + 1 from by simp, rowOf_snoc _ _ _ _ h.il]
    exact this
  · refine ItemsOK.push ((h.its.step (by have := hp.size; omega) (fun b hb0 hlt hm => ?_) fun b hm => ?_)) h.il (hit.step (by have := hp.size; omega) (fun b hb0 hlt hm => ?_) fun b hm => ?_)
    · rw [hp.old b (by omega) (fun e => hm (.inl e)) (fun e => hm (.inr (.inr (.inr e.symm)))), hb.block b hlt]
    · rcases hm with e | e | e | e
      · exact .inl (.inl e)
      · exact .inl (.inr (.inl e))
      · exact .inl (.inr (.inr (.inl e)))
      · rcases fresh b e with h' | h'
        · exact .inl (.inr (.inr (.inr h')))
        · exact .inr h'
    · rw [hp.old b (by omega) (fun e => hm (.inl e)) (fun e => hm (.inr (.inr (.inr e.symm)))), hb.block b hlt]
    · rcases hm with e | e | e | e
      · exact .inl (.inl e)
      · exact .inl (.inr (.inl e))
      · exact .inl (.inr (.inr (.inl e)))
      · rcases fresh b e with h' | h'
        · exact .inl (.inr (.inr (.inr h')))
        · exact .inr h'
  · intro g e e'
    rcases fresh g e' with h' | h'
    · exact h.d5 g e h'
    · have := (ownBlock_lt h.oo e).2; omega
  · intro g e e'
    rcases fresh g e' with h' | h'
    · exact h.d6 g e h'
    · have := (ownBlock_lt h.oe e).2; omega
theorem RSt.pushOpened {w0 w W w2 : World} {rb : Nat} {p : ByteArray} {at_ : Nat} {anc fin : Bool} {s : St} {vo ve vi : Value} {vs : List Value} (h : RSt w0 rb w p at_ anc fin s vo ve vi vs) (hb : Below w.heap.size w W) {x : Nat} {v' : Value}
    (hown : w2.ownsRow w0.heap.size 3 1 v' (s.opened.length + 1) (s.opened.map intV ++ [intV x])) (hg : W.grownBy w2 vo.ownBlock) (hat : v'.ownBlock = vo.ownBlock ∨ v'.ownBlock = some W.heap.size) :
    RSt w0 rb (w2.setCell ⟨rb, 2, none⟩ v') p at_ anc fin { s with opened := s.opened ++ [x] } v' ve vi vs := by
  have hp : Pushed w W (w2.setCell ⟨rb, 2, none⟩ v') rb 2 vo v' := pushed_of hb hg hat
  have hsz := hb.size
  have hrb := h.rb1
  have fresh : ∀ g, v'.ownBlock = some g → vo.ownBlock = some g ∨ w.heap.size ≤ g := fun g e => by
    rcases hat with h | h
    · exact .inl (by rw [← h]; exact e)
    · rw [e] at h; injection h with h; right; omega
  have n3 : v'.ownBlock ≠ some rb := fun e => by rcases fresh rb e with h' | h'; exact h.d1 h'; omega
  have keep : ∀ (u : Value) (g : Nat), u.ownBlock = some g → g < w.heap.size → u.ownBlock ≠ some rb → (∀ g, u.ownBlock = some g → vo.ownBlock ≠ some g) → (w2.setCell ⟨rb, 2, none⟩ v').heap[g]? = w.heap[g]? := fun u g e hlt hne hd => by
    rw [hp.old g (by omega) (fun e' => hne (by rw [e, e'])) (fun e' => hd g e e'.symm), hb.block g hlt]
  refine ⟨h.below3 hp (fun g e => (ownBlock_lt h.oo e).1), ?_, h.rb0, by have := hp.size; omega, ?_, ownsRow_keep h.oe fun g e => keep ve g e (ownBlock_lt h.oe e).2 h.d2 (fun g e e' => h.d4 g e' e), ownsRow_keep h.oi fun g e => keep vi g e (ownBlock_lt h.oi e).2 h.d3 (fun g e e' => h.d5 g e' e), h.il, ?_, n3, h.d2, h.d3, ?_, ?_, h.d6⟩
  · rw [heap_setCell_same (Pushed.rbk hb hg h.hr h.d1)]; rfl
  · have := pushed_own (k := 2) hown n3
    rw [show (s.opened ++ [x]).length = s.opened.length + 1 from by simp, List.map_append]
    exact this
  · refine h.its.step (by have := hp.size; omega) (fun b hb0 hlt hm => ?_) fun b hm => ?_
    · rw [hp.old b (by omega) (fun e => hm (.inl e)) (fun e => hm (.inr (.inl e.symm))), hb.block b hlt]
    · rcases hm with e | e | e | e
      · exact .inl (.inl e)
      · rcases fresh b e with h' | h'
        · exact .inl (.inr (.inl h'))
        · exact .inr h'
      · exact .inl (.inr (.inr (.inl e)))
      · exact .inl (.inr (.inr (.inr e)))
  · intro g e e'
    rcases fresh g e with h' | h'
    · exact h.d4 g h' e'
    · have := (ownBlock_lt h.oe e').2; omega
  · intro g e e'
    rcases fresh g e with h' | h'
    · exact h.d5 g h' e'
    · have := (ownBlock_lt h.oi e').2; omega
theorem RSt.pushEnded {w0 w W w2 : World} {rb : Nat} {p : ByteArray} {at_ : Nat} {anc fin : Bool} {s : St} {vo ve vi : Value} {vs : List Value} (h : RSt w0 rb w p at_ anc fin s vo ve vi vs) (hb : Below w.heap.size w W) {x : Bool} {v' : Value}
    (hown : w2.ownsRow w0.heap.size 4 1 v' (s.ended.length + 1) (s.ended.map .bool ++ [.bool x])) (hg : W.grownBy w2 ve.ownBlock) (hat : v'.ownBlock = ve.ownBlock ∨ v'.ownBlock = some W.heap.size) :
    RSt w0 rb (w2.setCell ⟨rb, 3, none⟩ v') p at_ anc fin { s with ended := s.ended ++ [x] } vo v' vi vs := by
  have hp : Pushed w W (w2.setCell ⟨rb, 3, none⟩ v') rb 3 ve v' := pushed_of hb hg hat
  have hsz := hb.size
  have hrb := h.rb1
  have fresh : ∀ g, v'.ownBlock = some g → ve.ownBlock = some g ∨ w.heap.size ≤ g := fun g e => by
    rcases hat with h | h
    · exact .inl (by rw [← h]; exact e)
    · rw [e] at h; injection h with h; right; omega
  have n3 : v'.ownBlock ≠ some rb := fun e => by rcases fresh rb e with h' | h'; exact h.d2 h'; omega
  have keep : ∀ (u : Value) (g : Nat), u.ownBlock = some g → g < w.heap.size → u.ownBlock ≠ some rb → (∀ g, u.ownBlock = some g → ve.ownBlock ≠ some g) → (w2.setCell ⟨rb, 3, none⟩ v').heap[g]? = w.heap[g]? := fun u g e hlt hne hd => by
    rw [hp.old g (by omega) (fun e' => hne (by rw [e, e'])) (fun e' => hd g e e'.symm), hb.block g hlt]
  refine ⟨h.below3 hp (fun g e => (ownBlock_lt h.oe e).1), ?_, h.rb0, by have := hp.size; omega, ownsRow_keep h.oo fun g e => keep vo g e (ownBlock_lt h.oo e).2 h.d1 h.d4, ?_, ownsRow_keep h.oi fun g e => keep vi g e (ownBlock_lt h.oi e).2 h.d3 (fun g e e' => h.d6 g e' e), h.il, ?_, h.d1, n3, h.d3, ?_, h.d5, ?_⟩
  · rw [heap_setCell_same (Pushed.rbk hb hg h.hr h.d2)]; rfl
  · have := pushed_own (k := 3) hown n3
    rw [show (s.ended ++ [x]).length = s.ended.length + 1 from by simp, List.map_append]
    exact this
  · refine h.its.step (by have := hp.size; omega) (fun b hb0 hlt hm => ?_) fun b hm => ?_
    · rw [hp.old b (by omega) (fun e => hm (.inl e)) (fun e => hm (.inr (.inr (.inl e.symm)))), hb.block b hlt]
    · rcases hm with e | e | e | e
      · exact .inl (.inl e)
      · exact .inl (.inr (.inl e))
      · rcases fresh b e with h' | h'
        · exact .inl (.inr (.inr (.inl h')))
        · exact .inr h'
      · exact .inl (.inr (.inr (.inr e)))
  · intro g e e'
    rcases fresh g e' with h' | h'
    · exact h.d4 g e h'
    · have := (ownBlock_lt h.oo e).2; omega
  · intro g e e'
    rcases fresh g e with h' | h'
    · exact h.d6 g h' e'
    · have := (ownBlock_lt h.oi e').2; omega
/-- A capture has ended. -/
theorem RSt.setEnded {w0 w : World} {rb : Nat} {p : ByteArray} {at_ : Nat} {anc fin : Bool} {s : St} {vo vi : Value} {vs : List Value} {g cap : Nat} (h : RSt w0 rb w p at_ anc fin s vo (.slice (some ⟨g, 0, none⟩) s.ended.length cap) vi vs) (n : Nat) (_hn : n < s.ended.length) :
    RSt w0 rb (w.setCell ⟨g, n, none⟩ (.bool true)) p at_ anc fin { s with ended := s.ended.set n true } vo (.slice (some ⟨g, 0, none⟩) s.ended.length cap) vi vs := by
  have set : ∀ b, b ≠ g → (w.setCell ⟨g, n, none⟩ (.bool true)).heap[b]? = w.heap[b]? := fun b hb => Below.heap_setCell _ _ _ _ hb
  have hg := ownBlock_lt h.oe (g := g) rfl
  have e : (s.ended.map Value.bool).set n (.bool true) = (s.ended.set n true).map Value.bool := by rw [List.map_set]
  have oe := h.oe.stored n (.bool true)
  refine ⟨h.below.setCell hg.1 _, ?_, h.rb0, by simpa using h.rb1, ownsRow_set h.oo (fun e => h.d4 g e rfl) _, ?_, ownsRow_set h.oi (fun e => h.d6 g rfl e) _, h.il, ?_, h.d1, h.d2, h.d3, h.d4, h.d5, h.d6⟩
  · rw [set rb (fun e => h.d2 (by rw [e]; rfl))]; exact h.hr
  · show (w.setCell ⟨g, n, none⟩ (.bool true)).ownsRow _ _ _ _ (s.ended.set n true).length ((s.ended.set n true).map Value.bool)
    rw [← e, List.length_set]
    exact oe.1
  · exact h.its.step (by simp) (fun b _ _ hm => set b (fun e => hm (.inr (.inr (.inl (by rw [e]; rfl)))))) (fun b hb => .inl hb)
/-- The last capture that is open is taken off. -/
theorem RSt.pop {w0 w : World} {rb : Nat} {p : ByteArray} {at_ : Nat} {anc fin : Bool} {s : St} {ve vi : Value} {vs : List Value} {g cap m : Nat} {l : List Nat} {x : Nat} (hl : s.opened = l ++ [x]) (hm : m = l.length) (h : RSt w0 rb w p at_ anc fin s (.slice (some ⟨g, 0, none⟩) (m + 1) cap) ve vi vs) :
    RSt w0 rb (w.setCell ⟨rb, 2, none⟩ (.slice (some ⟨g, 0, none⟩) m cap)) p at_ anc fin { s with opened := l } (.slice (some ⟨g, 0, none⟩) m cap) ve vi vs := by
  subst hm
  have set : ∀ b, b ≠ rb → (w.setCell ⟨rb, 2, none⟩ (.slice (some ⟨g, 0, none⟩) l.length cap)).heap[b]? = w.heap[b]? := fun b hb => Below.heap_setCell _ _ _ _ hb
  refine ⟨h.below.setCell h.rb0 _, ?_, h.rb0, by simpa using h.rb1, ?_, ownsRow_set h.oe h.d2 _, ownsRow_set h.oi h.d3 _, h.il,
    h.its.step (by simp) (fun b _ _ hm => set b (fun e => hm (.inl e))) (fun b hb => .inl hb), h.d1, h.d2, h.d3, h.d4, h.d5, h.d6⟩
  · rw [heap_setCell_same h.hr]; rfl
  · have oo := h.oo
    rw [hl, List.map_append] at oo
    have o2 : w.ownsRow w0.heap.size 3 1 (.slice (some ⟨g, 0, none⟩) l.length cap) l.length (l.map intV) := ownsRow_pop (last := [intV x]) (by simp) (by simpa using oo)
    exact ownsRow_set (a := ⟨rb, 2, none⟩) o2 h.d1 _
end Go.Proofs.YtpbhncmaamedhaaDoor
