import Derived.Test.YtpbhncmaamedhaaDoorPaM
import Derived.Test.YtpbhncmaamedhaaDoorRSetB
namespace Go.Proofs.YtpbhncmaamedhaaDoor
open Go.RowKit Go.Proofs.Lexi

/-! The reference's pattern in memory: its block, its four rows, the marks of its sets. -/
def refKind (k : Nat) : Nat := if k = 7 then 1 else k + 1
def cellsR (it : Item) (v : Value) : List Value := [.int .i64 (refKind it.kind), v, .int .u8 it.how, .int .u8 it.x, .int .u8 it.y, .int .i64 it.n]
def rowR : List Item → List Value → List Value
  | [], _ => []
  | it :: l, vs => cellsR it (vs.headD (.slice none 0 0)) ++ rowR l vs.tail
theorem rowR_length : ∀ (l : List Item) (vs : List Value), (rowR l vs).length = l.length * 6
  | [], _ => rfl
  | it :: l, vs => by simp [rowR, rowR_length l, cellsR]; omega
theorem rowR_snoc : ∀ (l : List Item) (vs : List Value) (it : Item) (v : Value), vs.length = l.length → rowR (l ++ [it]) (vs ++ [v]) = rowR l vs ++ cellsR it v
  | [], [], it, v, _ => by simp [rowR]
  | [], _ :: _, _, _, h => by cases h
  | _ :: _, [], _, _, h => by cases h
  | a :: l, b :: vs, it, v, h => by
    simp only [List.cons_append, rowR, List.headD_cons, List.tail_cons, List.append_assoc]
    rw [rowR_snoc l vs it v (by simpa using h)]
/-- The marks of an item. -/
def ItemR (w : World) (A : Nat) (M : Nat → Prop) (it : Item) (v : Value) : Prop :=
  if it.sets then ∃ b, v = .slice (some ⟨b, 0, none⟩) 256 256 ∧ A ≤ b ∧ ¬ M b ∧ RSet w b it.one else v = .slice none 0 0
theorem ItemR.step {w w' : World} {A : Nat} {M M' : Nat → Prop} {it : Item} {v : Value} (h : ItemR w A M it v) (hw : ∀ b, A ≤ b → b < w.heap.size → ¬ M b → w'.heap[b]? = w.heap[b]?) (hM : ∀ b, M' b → M b ∨ w.heap.size ≤ b) : ItemR w' A M' it v := by
  unfold ItemR at *
  split
  · rename_i hi
    rw [if_pos hi] at h
    obtain ⟨b, h1, h2, h3, h4⟩ := h
    refine ⟨b, h1, h2, fun hm => ?_, h4.ext (hw b h2 h4.lt h3)⟩
    rcases hM b hm with h | h
    · exact h3 h
    · have := h4.lt; omega
  · rename_i hi; rw [if_neg hi] at h; exact h
theorem ItemR.slice {w : World} {A : Nat} {M : Nat → Prop} {it : Item} {v : Value} (h : ItemR w A M it v) : ∃ a n, v = .slice a n n := by
  unfold ItemR at h
  split at h
  · obtain ⟨b, h1, _⟩ := h; exact ⟨_, _, h1⟩
  · exact ⟨_, _, h⟩
def ItemsR (w : World) (A : Nat) (M : Nat → Prop) (l : List Item) (vs : List Value) : Prop := ∀ j, (h : j < l.length) → ItemR w A M l[j] (vs.getD j (.slice none 0 0))
theorem ItemsR.step {w w' : World} {A : Nat} {M M' : Nat → Prop} {l : List Item} {vs : List Value} (h : ItemsR w A M l vs) (hw : ∀ b, A ≤ b → b < w.heap.size → ¬ M b → w'.heap[b]? = w.heap[b]?) (hM : ∀ b, M' b → M b ∨ w.heap.size ≤ b) : ItemsR w' A M' l vs := fun j hj => (h j hj).step hw hM
theorem ItemsR.push {w : World} {A : Nat} {M : Nat → Prop} {l : List Item} {vs : List Value} (h : ItemsR w A M l vs) (hl : vs.length = l.length) {it : Item} {v : Value} (hi : ItemR w A M it v) : ItemsR w A M (l ++ [it]) (vs ++ [v]) := fun j hj => by
  by_cases hlt : j < l.length
  · rw [List.getElem_append_left hlt, getD_left _ _ _ _ (by omega)]
    exact h j hlt
  · have hj' : j = l.length := by simp at hj; omega
    subst hj'
    have e1 : (l ++ [it])[l.length] = it := by simp
    have e2 : (vs ++ [v]).getD l.length (.slice none 0 0) = v := by rw [← hl]; exact getD_last _ _ _
    rw [e1, e2]; exact hi
/-- Two slices lie in blocks of their own. -/
def Apart (a b : Value) : Prop := ∀ g, a.ownBlock = some g → b.ownBlock ≠ some g
theorem Apart.symm {a b : Value} (h : Apart a b) : Apart b a := fun g e e' => h g e' e
/-- Five slices lie in blocks of their own (the first one stands for the pattern's own block). -/
structure Five (o a b c d : Value) : Prop where
  oa : Apart o a
  ob : Apart o b
  oc : Apart o c
  od : Apart o d
  ab : Apart a b
  ac : Apart a c
  ad : Apart a d
  bc : Apart b c
  bd : Apart b d
  cd : Apart c d
abbrev obV (ob : Nat) : Value := .slice (some ⟨ob, 0, none⟩) 0 0
abbrev MutR (ob : Nat) (vi vo vc vp : Value) : Nat → Prop := fun b => b = ob ∨ vi.ownBlock = some b ∨ vo.ownBlock = some b ∨ vc.ownBlock = some b ∨ vp.ownBlock = some b
/-- The pattern in memory: nothing below w0's end has changed since w0. -/
structure PSt (w0 : World) (ob : Nat) (w : World) (anc fin : Bool) (s : St) (ps : List Bool) (vi vo vc vp : Value) (vs : List Value) : Prop where
  below : Below w0.heap.size w0 w
  hr : w.heap[ob]? = some (.cells #[vi, .bool anc, .bool fin, .int .i64 s.caps, vo, vc, vp] 68 (0, 0))
  ob0 : w0.heap.size ≤ ob
  oi : w.ownsRow w0.heap.size 114 6 vi s.items.length (rowR s.items vs)
  oo : w.ownsRow w0.heap.size 3 1 vo s.opened.length (s.opened.map intV)
  oc : w.ownsRow w0.heap.size 4 1 vc s.ended.length (s.ended.map .bool)
  op : w.ownsRow w0.heap.size 4 1 vp ps.length (ps.map .bool)
  il : vs.length = s.items.length
  its : ItemsR w w0.heap.size (MutR ob vi vo vc vp) s.items vs
  five : Five (obV ob) vi vo vc vp
variable {w0 w W w2 w3 : World} {ob : Nat} {anc fin : Bool} {s : St} {ps : List Bool} {vi vo vc vp : Value} {vs : List Value}
theorem PSt.lt (h : PSt w0 ob w anc fin s ps vi vo vc vp vs) : ob < w.heap.size := (Array.getElem?_eq_some_iff.1 h.hr).1
theorem PSt.frozen (h : PSt w0 ob w anc fin s ps vi vo vc vp vs) (k : Nat) : w.frozen? ⟨ob, k, none⟩ = false := by simp [World.frozen?, h.hr]
theorem PSt.grow (h : PSt w0 ob w anc fin s ps vi vo vc vp vs) (hb : Below w.heap.size w w3) : PSt w0 ob w3 anc fin s ps vi vo vc vp vs := by
  have hx := below_ext hb (Nat.le_refl _)
  exact ⟨h.below.trans (hb.mono h.below.size), hx.get h.hr, h.ob0, ownsRow_ext hx h.oi, ownsRow_ext hx h.oo, ownsRow_ext hx h.oc, ownsRow_ext hx h.op, h.il, h.its.step (fun b _ hb' _ => hb.block b hb') (fun b hb => .inl hb), h.five⟩
theorem PSt.drew (h : PSt w0 ob w anc fin s ps vi vo vc vp vs) : PSt w0 ob w.drew anc fin s ps vi vo vc vp vs := h.grow (Below.refl _ _).drew
/-- A change of the pattern's block and of the row of one slice, which may have moved to a new block. -/
structure Chg (w w3 : World) (ob : Nat) (v v' : Value) : Prop where
  size : w.heap.size ≤ w3.heap.size
  os : w3.os = w.os
  tape : w3.tape = w.tape
  output : w3.output = w.output
  old : ∀ b, b < w.heap.size → b ≠ ob → v.ownBlock ≠ some b → w3.heap[b]? = w.heap[b]?
  fresh : ∀ g, v'.ownBlock = some g → v.ownBlock = some g ∨ w.heap.size ≤ g
theorem Chg.below {v v' : Value} (c : Chg w w3 ob v v') (h : Below w0.heap.size w0 w) (h0 : w0.heap.size ≤ ob) (hv : ∀ g, v.ownBlock = some g → w0.heap.size ≤ g) : Below w0.heap.size w0 w3 :=
  h.trans ⟨c.os, c.tape, c.output, c.size, fun b hb => c.old b (by have := h.size; omega) (by omega) (fun e => by have := hv b e; omega)⟩
theorem Chg.row {v v' u : Value} (c : Chg w w3 ob v v') {base : Nat} {e : TypeId} {size n : Nat} {xs : List Value} (ho : w.ownsRow base e size u n xs) (h1 : Apart (obV ob) u) (h2 : Apart v u) : w3.ownsRow base e size u n xs :=
  ownsRow_keep ho fun g eg => c.old g (ownBlock_lt ho eg).2 (fun e => h1 ob rfl (by rw [← e]; exact eg)) (fun e => h2 g e eg)
theorem Chg.apart {v v' u : Value} (c : Chg w w3 ob v v') (hu : ∀ g, u.ownBlock = some g → g < w.heap.size) (h : Apart u v) : Apart u v' := fun g e e' => by
  rcases c.fresh g e' with h1 | h1
  · exact h g e h1
  · have := hu g e; omega
theorem chg_of {v v' : Value} (hb : Below w.heap.size w W) (hg : W.grownBy w2 v.ownBlock) (hat : v'.ownBlock = v.ownBlock ∨ v'.ownBlock = some W.heap.size) (k : Nat) (u : Value) : Chg w (w2.setCell ⟨ob, k, none⟩ u) ob v v' :=
  ⟨by have := hb.size; have := hg.size; simp; omega, (show w2.os = _ by rw [hg.os]; exact hb.os), (show w2.tape = _ by rw [hg.tape]; exact hb.tape), (show w2.output = _ by rw [hg.output]; exact hb.output),
    fun b hlt hne hrow => by rw [Below.heap_setCell _ _ _ _ hne, hg.block b (by have := hb.size; omega) (fun e => hrow e.symm), hb.block b hlt],
    fun g e => by
      rcases hat with h | h
      · exact .inl (by rw [← h]; exact e)
      · rw [e] at h; injection h with h; right; have := hb.size; omega⟩
theorem chg_store (k : Nat) (u v : Value) : Chg w (w.setCell ⟨ob, k, none⟩ u) ob v v :=
  ⟨by simp, rfl, rfl, rfl, fun b _ hne _ => Below.heap_setCell _ _ _ _ hne, fun g e => .inl e⟩
theorem hr_push {cs : Array Value} {t : TypeId} {v : Value} (hb : Below w.heap.size w W) (hg : W.grownBy w2 v.ownBlock) (hr : w.heap[ob]? = some (.cells cs t (0, 0))) (hne : Apart (obV ob) v) : w2.heap[ob]? = some (.cells cs t (0, 0)) := by
  have hlt := (Array.getElem?_eq_some_iff.1 hr).1
  rw [hg.block ob (by have := hb.size; omega) (fun e => hne ob rfl e.symm), hb.block ob hlt]
  exact hr
theorem obV_lt (h : PSt w0 ob w anc fin s ps vi vo vc vp vs) : ∀ g, (obV ob).ownBlock = some g → g < w.heap.size := fun g e => by
  have : ob = g := by injection e
  rw [← this]; exact h.lt
theorem own_set {base : Nat} {e : TypeId} {size : Nat} {v' u : Value} {n k : Nat} {xs : List Value} (ho : w2.ownsRow base e size v' n xs) (hne : Apart (obV ob) v') : (w2.setCell ⟨ob, k, none⟩ u).ownsRow base e size v' n xs := ownsRow_set ho (fun e => hne ob rfl e) _
theorem PSt.pushItem (h : PSt w0 ob w anc fin s ps vi vo vc vp vs) (hb : Below w.heap.size w W) {it : Item} {v v' : Value} (hit : ItemR w w0.heap.size (MutR ob vi vo vc vp) it v)
    (hown : w2.ownsRow w0.heap.size 114 6 v' (s.items.length + 1) (rowR s.items vs ++ cellsR it v)) (hg : W.grownBy w2 vi.ownBlock) (hat : v'.ownBlock = vi.ownBlock ∨ v'.ownBlock = some W.heap.size) :
    PSt w0 ob (w2.setCell ⟨ob, 0, none⟩ v') anc fin { s with items := s.items ++ [it] } ps v' vo vc vp (vs ++ [v]) := by
  have c : Chg w (w2.setCell ⟨ob, 0, none⟩ v') ob vi v' := chg_of hb hg hat 0 v'
  have f := h.five
  have oa' := c.apart (obV_lt h) f.oa
  have st : ∀ b, w0.heap.size ≤ b → b < w.heap.size → ¬ MutR ob vi vo vc vp b → (w2.setCell ⟨ob, 0, none⟩ v').heap[b]? = w.heap[b]? := fun b _ hlt hm => c.old b hlt (fun e => hm (.inl e)) (fun e => hm (.inr (.inl e)))
  have mt : ∀ b, MutR ob v' vo vc vp b → MutR ob vi vo vc vp b ∨ w.heap.size ≤ b := fun b hm => by
    rcases hm with e | e | e
    · exact .inl (.inl e)
    · rcases c.fresh b e with h' | h'
      · exact .inl (.inr (.inl h'))
      · exact .inr h'
    · exact .inl (.inr (.inr e))
  refine ⟨c.below h.below h.ob0 (fun g e => (ownBlock_lt h.oi e).1), ?_, h.ob0, ?_, c.row h.oo f.ob f.ab, c.row h.oc f.oc f.ac, c.row h.op f.od f.ad, by simp [h.il], ?_,
    ⟨oa', f.ob, f.oc, f.od, (c.apart (fun g e => (ownBlock_lt h.oo e).2) f.ab.symm).symm, (c.apart (fun g e => (ownBlock_lt h.oc e).2) f.ac.symm).symm, (c.apart (fun g e => (ownBlock_lt h.op e).2) f.ad.symm).symm, f.bc, f.bd, f.cd⟩⟩
  · rw [heap_setCell_same (hr_push hb hg h.hr f.oa)]; rfl
  · have := own_set (k := 0) (u := v') hown oa'
    rw [show (s.items ++ [it]).length = s.items.length + 1 from by simp, rowR_snoc _ _ _ _ h.il]
    exact this
  · exact ItemsR.push (h.its.step st mt) h.il (hit.step st mt)
theorem PSt.pushOpen (h : PSt w0 ob w anc fin s ps vi vo vc vp vs) (hb : Below w.heap.size w W) {x : Nat} {v' : Value}
    (hown : w2.ownsRow w0.heap.size 3 1 v' (s.opened.length + 1) (s.opened.map intV ++ [intV x])) (hg : W.grownBy w2 vo.ownBlock) (hat : v'.ownBlock = vo.ownBlock ∨ v'.ownBlock = some W.heap.size) :
    PSt w0 ob (w2.setCell ⟨ob, 4, none⟩ v') anc fin { s with opened := s.opened ++ [x] } ps vi v' vc vp vs := by
  have c : Chg w (w2.setCell ⟨ob, 4, none⟩ v') ob vo v' := chg_of hb hg hat 4 v'
  have f := h.five
  have oa' := c.apart (obV_lt h) f.ob
  refine ⟨c.below h.below h.ob0 (fun g e => (ownBlock_lt h.oo e).1), ?_, h.ob0, c.row h.oi f.oa f.ab.symm, ?_, c.row h.oc f.oc f.bc, c.row h.op f.od f.bd, h.il, h.its.step (fun b _ hlt hm => c.old b hlt (fun e => hm (.inl e)) (fun e => hm (.inr (.inr (.inl e))))) (fun b hm => ?_),
    ⟨f.oa, oa', f.oc, f.od, c.apart (fun g e => (ownBlock_lt h.oi e).2) f.ab, f.ac, f.ad, (c.apart (fun g e => (ownBlock_lt h.oc e).2) f.bc.symm).symm, (c.apart (fun g e => (ownBlock_lt h.op e).2) f.bd.symm).symm, f.cd⟩⟩
  · rw [heap_setCell_same (hr_push hb hg h.hr f.ob)]; rfl
  · have := own_set (k := 4) (u := v') hown oa'
    rw [show (s.opened ++ [x]).length = s.opened.length + 1 from by simp, List.map_append]
    exact this
  · rcases hm with e | e | e | e
    · exact .inl (.inl e)
    · exact .inl (.inr (.inl e))
    · rcases c.fresh b e with h' | h'
      · exact .inl (.inr (.inr (.inl h')))
      · exact .inr h'
    · exact .inl (.inr (.inr (.inr e)))
theorem PSt.pushClosed (h : PSt w0 ob w anc fin s ps vi vo vc vp vs) (hb : Below w.heap.size w W) {x : Bool} {v' : Value}
    (hown : w2.ownsRow w0.heap.size 4 1 v' (s.ended.length + 1) (s.ended.map .bool ++ [.bool x])) (hg : W.grownBy w2 vc.ownBlock) (hat : v'.ownBlock = vc.ownBlock ∨ v'.ownBlock = some W.heap.size) :
    PSt w0 ob (w2.setCell ⟨ob, 5, none⟩ v') anc fin { s with ended := s.ended ++ [x] } ps vi vo v' vp vs := by
  have c : Chg w (w2.setCell ⟨ob, 5, none⟩ v') ob vc v' := chg_of hb hg hat 5 v'
  have f := h.five
  have oa' := c.apart (obV_lt h) f.oc
  refine ⟨c.below h.below h.ob0 (fun g e => (ownBlock_lt h.oc e).1), ?_, h.ob0, c.row h.oi f.oa f.ac.symm, c.row h.oo f.ob f.bc.symm, ?_, c.row h.op f.od f.cd, h.il, h.its.step (fun b _ hlt hm => c.old b hlt (fun e => hm (.inl e)) (fun e => hm (.inr (.inr (.inr (.inl e)))))) (fun b hm => ?_),
    ⟨f.oa, f.ob, oa', f.od, f.ab, c.apart (fun g e => (ownBlock_lt h.oi e).2) f.ac, f.ad, c.apart (fun g e => (ownBlock_lt h.oo e).2) f.bc, f.bd, (c.apart (fun g e => (ownBlock_lt h.op e).2) f.cd.symm).symm⟩⟩
  · rw [heap_setCell_same (hr_push hb hg h.hr f.oc)]; rfl
  · have := own_set (k := 5) (u := v') hown oa'
    rw [show (s.ended ++ [x]).length = s.ended.length + 1 from by simp, List.map_append]
    exact this
  · rcases hm with e | e | e | e | e
    · exact .inl (.inl e)
    · exact .inl (.inr (.inl e))
    · exact .inl (.inr (.inr (.inl e)))
    · rcases c.fresh b e with h' | h'
      · exact .inl (.inr (.inr (.inr (.inl h'))))
      · exact .inr h'
    · exact .inl (.inr (.inr (.inr (.inr e))))
theorem PSt.pushPos (h : PSt w0 ob w anc fin s ps vi vo vc vp vs) (hb : Below w.heap.size w W) {x : Bool} {v' : Value}
    (hown : w2.ownsRow w0.heap.size 4 1 v' (ps.length + 1) (ps.map .bool ++ [.bool x])) (hg : W.grownBy w2 vp.ownBlock) (hat : v'.ownBlock = vp.ownBlock ∨ v'.ownBlock = some W.heap.size) :
    PSt w0 ob (w2.setCell ⟨ob, 6, none⟩ v') anc fin s (ps ++ [x]) vi vo vc v' vs := by
  have c : Chg w (w2.setCell ⟨ob, 6, none⟩ v') ob vp v' := chg_of hb hg hat 6 v'
  have f := h.five
  have oa' := c.apart (obV_lt h) f.od
  refine ⟨c.below h.below h.ob0 (fun g e => (ownBlock_lt h.op e).1), ?_, h.ob0, c.row h.oi f.oa f.ad.symm, c.row h.oo f.ob f.bd.symm, c.row h.oc f.oc f.cd.symm, ?_, h.il, h.its.step (fun b _ hlt hm => c.old b hlt (fun e => hm (.inl e)) (fun e => hm (.inr (.inr (.inr (.inr e)))))) (fun b hm => ?_),
    ⟨f.oa, f.ob, f.oc, oa', f.ab, f.ac, c.apart (fun g e => (ownBlock_lt h.oi e).2) f.ad, f.bc, c.apart (fun g e => (ownBlock_lt h.oo e).2) f.bd, c.apart (fun g e => (ownBlock_lt h.oc e).2) f.cd⟩⟩
  · rw [heap_setCell_same (hr_push hb hg h.hr f.od)]; rfl
  · have := own_set (k := 6) (u := v') hown oa'
    rw [show (ps ++ [x]).length = ps.length + 1 from by simp, List.map_append]
    exact this
  · rcases hm with e | e | e | e | e
    · exact .inl (.inl e)
    · exact .inl (.inr (.inl e))
    · exact .inl (.inr (.inr (.inl e)))
    · exact .inl (.inr (.inr (.inr (.inl e))))
    · rcases c.fresh b e with h' | h'
      · exact .inl (.inr (.inr (.inr (.inr h'))))
      · exact .inr h'
/-- A store into a field of the pattern that holds no row. -/
theorem PSt.setr (h : PSt w0 ob w anc fin s ps vi vo vc vp vs) {k : Nat} {u : Value} {anc' fin' : Bool} {caps' : Nat}
    (hk : #[vi, .bool anc', .bool fin', .int .i64 caps', vo, vc, vp] = (#[vi, .bool anc, .bool fin, .int .i64 s.caps, vo, vc, vp] : Array Value).setIfInBounds k u) :
    PSt w0 ob (w.setCell ⟨ob, k, none⟩ u) anc' fin' { s with caps := caps' } ps vi vo vc vp vs := by
  have set : ∀ b, b ≠ ob → (w.setCell ⟨ob, k, none⟩ u).heap[b]? = w.heap[b]? := fun b hb => Below.heap_setCell _ _ _ _ hb
  have f := h.five
  refine ⟨h.below.setCell h.ob0 _, ?_, h.ob0, own_set h.oi f.oa, own_set h.oo f.ob, own_set h.oc f.oc, own_set h.op f.od, h.il, h.its.step (fun b _ _ hm => set b (fun e => hm (.inl e))) (fun b hb => .inl hb), f⟩
  rw [heap_setCell_same h.hr, hk]
/-- A capture has ended. -/
theorem PSt.setClosed {g cap : Nat} (h : PSt w0 ob w anc fin s ps vi vo (.slice (some ⟨g, 0, none⟩) s.ended.length cap) vp vs) (n : Nat) :
    PSt w0 ob (w.setCell ⟨g, n, none⟩ (.bool true)) anc fin { s with ended := s.ended.set n true } ps vi vo (.slice (some ⟨g, 0, none⟩) s.ended.length cap) vp vs := by
  have f := h.five
  have set : ∀ b, b ≠ g → (w.setCell ⟨g, n, none⟩ (.bool true)).heap[b]? = w.heap[b]? := fun b hb => Below.heap_setCell _ _ _ _ hb
  have hg := ownBlock_lt h.oc (g := g) rfl
  have e : (s.ended.map Value.bool).set n (.bool true) = (s.ended.set n true).map Value.bool := by rw [List.map_set]
  have oe := h.oc.stored n (.bool true)
  refine ⟨h.below.setCell hg.1 _, ?_, h.ob0, ownsRow_set h.oi (fun e => f.ac g e rfl) _, ownsRow_set h.oo (fun e => f.bc g e rfl) _, ?_, ownsRow_set h.op (fun e => f.cd g rfl e) _, h.il, h.its.step (fun b _ _ hm => set b (fun e => hm (.inr (.inr (.inr (.inl (by rw [e]; rfl))))))) (fun b hb => .inl hb), f⟩
  · rw [set ob (fun e => f.oc ob rfl (by rw [e]; rfl))]; exact h.hr
  · show (w.setCell ⟨g, n, none⟩ (.bool true)).ownsRow _ _ _ _ (s.ended.set n true).length ((s.ended.set n true).map Value.bool)
    rw [← e, List.length_set]
    exact oe.1
/-- The last capture that is open is taken off. -/
theorem PSt.pop {g cap m : Nat} {l : List Nat} {x : Nat} (hl : s.opened = l ++ [x]) (hm : m = l.length) (h : PSt w0 ob w anc fin s ps vi (.slice (some ⟨g, 0, none⟩) (m + 1) cap) vc vp vs) :
    PSt w0 ob (w.setCell ⟨ob, 4, none⟩ (.slice (some ⟨g, 0, none⟩) m cap)) anc fin { s with opened := l } ps vi (.slice (some ⟨g, 0, none⟩) m cap) vc vp vs := by
  subst hm
  have f := h.five
  have set : ∀ b, b ≠ ob → (w.setCell ⟨ob, 4, none⟩ (.slice (some ⟨g, 0, none⟩) l.length cap)).heap[b]? = w.heap[b]? := fun b hb => Below.heap_setCell _ _ _ _ hb
  refine ⟨h.below.setCell h.ob0 _, ?_, h.ob0, own_set h.oi f.oa, ?_, own_set h.oc f.oc, own_set h.op f.od, h.il, h.its.step (fun b _ _ hm => set b (fun e => hm (.inl e))) (fun b hb => .inl hb), ⟨f.oa, f.ob, f.oc, f.od, f.ab, f.ac, f.ad, f.bc, f.bd, f.cd⟩⟩
  · rw [heap_setCell_same h.hr]; rfl
  · have oo := h.oo
    rw [hl, List.map_append] at oo
    have o2 : w.ownsRow w0.heap.size 3 1 (.slice (some ⟨g, 0, none⟩) l.length cap) l.length (l.map intV) := ownsRow_pop (last := [intV x]) (by simp) (by simpa using oo)
    exact own_set o2 f.ob
/-- A position is never closed. -/
structure RInv (s : St) (ps : List Bool) : Prop where
  len : ps.length = s.caps
  pos : ∀ n, ps.getD n false = true → s.ended.getD n false = false ∧ n ∉ s.opened
def PPost (w0 : World) (ob : Nat) (anc fin : Bool) (s : St) (w' : World) : Prop := ∃ ps vi vo vc vp vs, PSt w0 ob w' anc fin s ps vi vo vc vp vs ∧ RInv s ps
theorem itemR_plain (w : World) (A : Nat) (M : Nat → Prop) (k n x y : Nat) (hk : (k == 5 || k == 7) = false) : ItemR w A M ⟨k, n, x, y, noSet, 0⟩ (.slice none 0 0) := by
  unfold ItemR; rw [if_neg]; simp only [Item.sets, hk]; decide
theorem Tryd.info114 : (Tryd.prog.info? 114).map (fun i => (i.zero, i.size, i.bytes)) = some (some (.agg #[.int .i64 0, .slice none 0 0, .int .u8 0, .int .u8 0, .int .u8 0, .int .i64 0]), 6, 48) := by kernel_rfl
end Go.Proofs.YtpbhncmaamedhaaDoor
