import Derived.Test.YtpbhncmaamedhaaDoorPaM
import Derived.Test.YtpbhncmaamedhaaDoorRSetB
namespace Go.Proofs.YtpbhncmaamedhaaDoor
open Go.RowKit Go.Proofs.Lexi

/-! The reference's pattern in memory: its block, its four rows, the marks of its sets. -/
def refKind (k : Nat) : Nat := if k = 7 then 1 else k + 1
def cellsR (it : Item) (v : Value) : List Value := [.int .i64 (refKind it.kind), v, .int .u8 it.how, .int .u8 it.x, .int .u8 it.y, .int .i64 it.n]
def rowR : List Item → List Value → List Value
  | [], _ => []
  | it :: l, vs => cellsR it (vs.headD (.slice none 0 0)) ++ rowR l vs.tail
theorem rowR_length : ∀ (l : List Item) (vs : List Value), (rowR l vs).length = l.length * 6
  | [], _ => rfl
  | it :: l, vs => by simp [rowR, rowR_length l, cellsR]; omega
theorem rowR_snoc : ∀ (l : List Item) (vs : List Value) (it : Item) (v : Value), vs.length = l.length → rowR (l ++ [it]) (vs ++ [v]) = rowR l vs ++ cellsR it v
  | [], [], it, v, _ => by simp [rowR]
  | [], _ :: _, _, _, h => by cases h
  | _ :: _, [], _, _, h => by cases h
  | a :: l, b :: vs, it, v, h => by
    simp only [List.cons_append, rowR, List.headD_cons, List.tail_cons, List.append_assoc]
    rw [rowR_snoc l vs it v (by simpa using h)]
/-- The marks of an item. -/
def ItemR (w : World) (A : Nat) (M : Nat → Prop) (it : Item) (v : Value) : Prop :=
  if it.sets then ∃ b, v = .slice (some ⟨b, 0, none⟩) 256 256 ∧ A ≤ b ∧ ¬ M b ∧ RSet w b it.one else v = .slice none 0 0
theorem ItemR.step {w w' : World} {A : Nat} {M M' : Nat → Prop} {it : Item} {v : Value} (h : ItemR w A M it v) (hw : ∀ b, A ≤ b → b < w.heap.size → ¬ M b → w'.heap[b]? = w.heap[b]?) (hM : ∀ b, M' b → M b ∨ w.heap.size ≤ b) : ItemR w' A M' it v := by
  unfold ItemR at *
  split
  · rename_i hi
    rw [if_pos hi] at h
    obtain ⟨b, h1, h2, h3, h4⟩ := h
    refine ⟨b, h1, h2, fun hm => ?_, h4.ext (hw b h2 h4.lt h3)⟩
    rcases hM b hm with h | h
    · exact h3 h
    · have := h4.lt; omega
  · rename_i hi; rw [if_neg hi] at h; exact h
theorem ItemR.slice {w : World} {A : Nat} {M : Nat → Prop} {it : Item} {v : Value} (h : ItemR w A M it v) : ∃ a n, v = .slice a n n := by
  unfold ItemR at h
  split at h
  · obtain ⟨b, h1, _⟩ := h; exact ⟨_, _, h1⟩
  · exact ⟨_, _, h⟩
def ItemsR (w : World) (A : Nat) (M : Nat → Prop) (l : List Item) (vs : List Value) : Prop := ∀ j, (h : j < l.length) → ItemR w A M l[j] (vs.getD j (.slice none 0 0))
theorem ItemsR.step {w w' : World} {A : Nat} {M M' : Nat → Prop} {l : List Item} {vs : List Value} (h : ItemsR w A M l vs) (hw : ∀ b, A ≤ b → b < w.heap.size → ¬ M b → w'.heap[b]? = w.heap[b]?) (hM : ∀ b, M' b → M b ∨ w.heap.size ≤ b) : ItemsR w' A M' l vs := fun j hj => (h j hj).step hw hM
theorem ItemsR.push {w : World} {A : Nat} {M : Nat → Prop} {l : List Item} {vs : List Value} (h : ItemsR w A M l vs) (hl : vs.length = l.length) {it : Item} {v : Value} (hi : ItemR w A M it v) : ItemsR w A M (l ++ [it]) (vs ++ [v]) := fun j hj => by
  by_cases hlt : j < l.length
  · rw [List.getElem_append_left hlt, getD_left _ _ _ _ (by omega)]
    exact h j hlt
  · have hj' : j = l.length := by simp at hj; omega
    subst hj'
    have e1 : (l ++ [it])[l.length] = it := by simp
    have e2 : (vs ++ [v]).getD l.length (.slice none 0 0) = v := by rw [← hl]; exact getD_last _ _ _
    rw [e1, e2]; exact hi
/-- Two slices lie in blocks of their own. -/
def Apart (a b : Value) : Prop := ∀ g, a.ownBlock = some g → b.ownBlock ≠ some g
theorem Apart.symm {a b : Value} (h : Apart a b) : Apart b a := fun g e e' => h g e' e
/-- Five slices lie in blocks of their own (the first one stands for the pattern's own block). -/
structure Five (o a b c d : Value) : Prop where
  oa : Apart o a
  ob : Apart o b
  oc : Apart o c
  od : Apart o d
  ab : Apart a b
  ac : Apart a c
  ad : Apart a d
  bc : Apart b c
  bd : Apart b d
  cd : Apart c d
abbrev obV (ob : Nat) : Value := .slice (some ⟨ob, 0, none⟩) 0 0
abbrev MutR (ob : Nat) (vi vo vc vp : Value) : Nat → Prop := fun b => b = ob ∨ vi.ownBlock = some b ∨ vo.ownBlock = some b ∨ vc.ownBlock = some b ∨ vp.ownBlock = some b
/-- The pattern in memory: nothing below w0's end has changed since w0. -/
structure PSt (w0 : World) (ob : Nat) (w : World) (anc fin : Bool) (s : St) (ps : List Bool) (vi vo vc vp : Value) (vs : List Value) : Prop where
  below : Below w0.heap.size w0 w
  hr : w.heap[ob]? = some (.cells #[vi, .bool anc, .bool fin, .int .i64 s.caps, vo, vc, vp] 68 (0, 0))
  ob0 : w0.heap.size ≤ ob
  oi : w.ownsRow w0.heap.size 114 6 vi s.items.length (rowR s.items vs)
  oo : w.ownsRow w0.heap.size 3 1 vo s.opened.length (s.opened.map intV)
  oc : w.ownsRow w0.heap.size 4 1 vc s.ended.length (s.ended.map .bool)
  op : w.ownsRow w0.heap.size 4 1 vp ps.length (ps.map .bool)
  il : vs.length = s.items.length
  its : ItemsR w w0.heap.size (MutR ob vi vo vc vp) s.items vs
  five : Five (obV ob) vi vo vc vp
variable {w0 w W w2 w3 : World} {ob : Nat} {anc fin : Bool} {s : St} {ps : List Bool} {vi vo vc vp : Value} {vs : List Value}
theorem PSt.lt (h : PSt w0 ob w anc fin s ps vi vo vc vp vs) : ob < w.heap.size := (Array.getElem?_eq_some_iff.1 h.hr).1
theorem PSt.frozen (h : PSt w0 ob w anc fin s ps vi vo vc vp vs) (k : Nat) : w.frozen? ⟨ob, k, none⟩ = false := by simp [World.frozen?, h.hr]
theorem PSt.grow (h : PSt w0 ob w anc fin s ps vi vo vc vp vs) (hb : Below w.heap.size w w3) : PSt w0 ob w3 anc fin s ps vi vo vc vp vs := by
  have hx := below_ext hb (Nat.le_refl _)
  exact ⟨h.below.trans (hb.mono h.below.size), hx.get h.hr, h.ob0, ownsRow_ext hx h.oi, ownsRow_ext hx h.oo, ownsRow_ext hx h.oc, ownsRow_ext hx h.op, h.il, h.its.step (fun b _ hb' _ => hb.block b hb') (fun b hb => .inl hb), h.five⟩
theorem PSt.drew (h : PSt w0 ob w anc fin s ps vi vo vc vp vs) : PSt w0 ob w.drew anc fin s ps vi vo vc vp vs := h.grow (Below.refl _ _).drew
/-- A change of the pattern's block and of the row of one slice, which may have moved to a new block. -/
structure Chg (w w3 : World) (ob : Nat) (v v' : Value) : Prop where
  size : w.heap.size ≤ w3.heap.size
  os : w3.os = w.os
  tape : w3.tape = w.tape
  output : w3.output = w.output
  old : ∀ b, b < w.heap.size → b ≠ ob → v.ownBlock ≠ some b → w3.heap[b]? = w.heap[b]?
  fresh : ∀ g, v'.ownBlock = some g → v.ownBlock = some g ∨ w.heap.size ≤ g
theorem Chg.below {v v' : Value} (c : Chg w w3 ob v v') (h : Below w0.heap.size w0 w) (h0 : w0.heap.size ≤ ob) (hv : ∀ g, v.ownBlock = some g → w0.heap.size ≤ g) : Below w0.heap.size w0 w3 :=
  h.trans ⟨c.os, c.tape, c.output, c.size, fun b hb => c.old b (by have := h.size; omega) (by omega) (fun e => by have := hv b e; omega)⟩
theorem Chg.row {v v' u : Value} (c : Chg w w3 ob v v') {base : Nat} {e : TypeId} {size n : Nat} {xs : List Value} (ho : w.ownsRow base e size u n xs) (h1 : Apart (obV ob) u) (h2 : Apart v u) : w3.ownsRow base e size u n xs :=
  ownsRow_keep ho fun g eg => c.old g (ownBlock_lt ho eg).2 (fun e => h1 ob rfl (by rw [← e]; exact eg)) (fun e => h2 g e eg)
theorem Chg.apart {v v' u : Value} (c : Chg w w3 ob v v') (hu : ∀ g, u.ownBlock = some g → g < w.heap.size) (h : Apart u v) : Apart u v' := fun g e e' => by
  rcases c.fresh g e' with h1 | h1
  · exact h g e h1
  · have := hu g e; omega
theorem chg_of {v v' : Value} (hb : Below w.heap.size w W) (hg : W.grownBy w2 v.ownBlock) (hat : v'.ownBlock = v.ownBlock ∨ v'.ownBlock = some W.heap.size) (k : Nat) (u : Value) : Chg w (w2.setCell ⟨ob, k, none⟩ u) ob v v' :=
  ⟨by have := hb.size; have := hg.size; simp; omega, (show w2.os = _ by rw [hg.os]; exact hb.os), (show w2.tape = _ by rw [hg.tape]; exact hb.tape), (show w2.output = _ by rw [hg.output]; exact hb.output),
    fun b hlt hne hrow => by rw [Below.heap_setCell _ _ _ _ hne, hg.block b (by have := hb.size; omega) (fun e => hrow e.symm), hb.block b hlt],
    fun g e => by
      rcases hat with h | h
      · exact .inl (by rw [← h]; exact e)
      · rw [e] at h; injection h with h; right; have := hb.size; omega⟩
theorem chg_store (k : Nat) (u v : Value) : Chg w (w.setCell ⟨ob, k, none⟩ u) ob v v :=
  ⟨by simp, rfl, rfl, rfl, fun b _ hne _ => Below.heap_setCell _ _ _ _ hne, fun g e => .inl e⟩
theorem hr_push {cs : Array Value} {t : TypeId} {v : Value} (hb : Below w.heap.size w W) (hg : W.grownBy w2 v.ownBlock) (hr : w.heap[ob]? = some (.cells cs t (0, 0))) (hne : Apart (obV ob) v) : w2.heap[ob]? = some (.cells cs t (0, 0)) := by
  have hlt := (Array.getElem?_eq_some_iff.1 hr).1
  rw [hg.block ob (by have := hb.size; omega) (fun e => hne ob rfl e.symm), hb.block ob hlt]
  exact hr
theorem obV_lt (h : PSt w0 ob w anc fin s ps vi vo vc vp vs) : ∀ g, (obV ob).ownBlock = some g → g < w.heap.size := fun g e => by
  have : ob = g := by injection e
  rw [← this]; exact h.lt
theorem own_set {base : Nat} {e : TypeId} {size : Nat} {v' u : Value} {n k : Nat} {xs : List Value} (ho : w2.ownsRow base e size v' n xs) (hne : Apart (obV ob) v') : (w2.setCell ⟨ob, k, none⟩ u).ownsRow base e size v' n xs := ownsRow_set ho (fun e => hne ob rfl e) _
theorem PSt.pushItem (h : PSt w0 ob w anc fin s ps vi vo vc vp vs) (hb : Below w.heap.size w W) {it : Item} {v v' : Value} (hit : ItemR w w0.heap.size (MutR ob vi vo vc vp) it v)
    (hown : w2.ownsRow w0.heap.size 114 6 v' (s.items.length + 1) (rowR s.items vs ++ cellsR it v)) (hg : W.grownBy w2 vi.ownBlock) (hat : v'.ownBlock = vi.ownBlock ∨ v'.ownBlock = some W.heap.size) :
    PSt w0 ob (w2.setCell ⟨ob, 0, none⟩ v') anc fin { s with items := s.items ++ [it] } ps v' vo vc vp (vs ++ [v]) := by
  have c : Chg w (w2.setCell ⟨ob, 0, none⟩ v') ob vi v' := chg_of hb hg hat 0 v'
  have f := h.five
  have oa' := c.apart (obV_lt h) f.oa
  have st : ∀ b, w0.heap.size ≤ b → b < w.heap.size → ¬ MutR ob vi vo vc vp b → (w2.setCell ⟨ob, 0, none⟩ v').heap[b]? = w.heap[b]? := fun b _ hlt hm => c.old b hlt (fun e => hm (.inl e)) (fun e => hm (.inr (.inl e)))
  have mt : ∀ b, MutR ob v' vo vc vp b → MutR ob vi vo vc vp b ∨ w.heap.size ≤ b := fun b hm => by
    rcases hm with e | e | e
    · exact .inl (.inl e)
    · rcases c.fresh b e with h' | h'
      · exact .inl (.inr (.inl h'))
      · exact .inr h'
    · exact .inl (.inr (.inr e))
  refine ⟨c.below h.below h.ob0 (fun g e => (ownBlock_lt h.oi e).1), ?_, h.ob0, ?_, c.row h.oo f.ob f.ab, c.row h.oc f.oc f.ac, c.row h.op f.od f.ad, by simp [h.il], ?_,
    ⟨oa', f.ob, f.oc, f.od, (c.apart (fun g e => (ownBlock_lt h.oo e).2) f.ab.symm).symm, (c.apart (fun g e => (ownBlock_lt h.oc e).2) f.ac.symm).symm, (c.apart (fun g e => (ownBlock_lt h.op e).2) f.ad.symm).symm, f.bc, f.bd, f.cd⟩⟩
  · rw [heap_setCell_same (hr_push hb hg h.hr f.oa)]; rfl
  · have := own_set (k := 0) (u := v') hown oa'
    rw [show (s.items ++ [it]).length = s.items.length + 1 from by simp, rowR_snoc _ _ _ _ h.il]
    exact this
  · exact ItemsR.push (h.its.step st mt) h.il (hit.step st mt)
theorem PSt.pushOpen (h : PSt w0 ob w anc fin s ps vi vo vc vp vs) (hb : Below w.heap.size w W) {x : Nat} {v' : Value}
    (hown : w2.ownsRow w0.heap.size 3 1 v' (s.opened.length + 1) (s.opened.map intV ++ [intV x])) (hg : W.grownBy w2 vo.ownBlock) (hat : v'.ownBlock = vo.ownBlock ∨ v'.ownBlock = some W.heap.size) :
    PSt w0 ob (w2.setCell ⟨ob, 4, none⟩ v') anc fin { s with opened := s.opened ++ [x] } ps vi v' vc vp vs := by
  have c : Chg w (w2.setCell ⟨ob, 4, none⟩ v') ob vo v' := chg_of hb hg hat 4 v'
  have f := h.five
  have oa' := c.apart (obV_lt h) f.ob
  refine ⟨c.below h.below h.ob0 (fun g e => (ownBlock_lt h.oo e).1), ?_, h.ob0, c.row h.oi f.oa f.ab.symm, ?_, c.row h.oc f.oc f.bc, c.row h.op f.od f.bd, h.il, h.its.step (fun b _ hlt hm => c.old b hlt (fun e => hm (.inl e)) (fun e => hm (.inr (.inr (.inl e))))) (fun b hm => ?_),
    ⟨f.oa, oa', f.oc, f.od, c.apart (fun g e => (ownBlock_lt h.oi e).2) f.ab, f.ac, f.ad, (c.apart (fun g e => (ownBlock_lt h.oc e).2) f.bc.symm).symm, (c.apart (fun g e => (ownBlock_lt h.op e).2) f.bd.symm).symm, f.cd⟩⟩
  · rw [heap_setCell_same (hr_push hb hg h.hr f.ob)]; rfl
  · have := own_set (k := 4) (u := v') hown oa'
    rw [show (s.opened ++ [x]).length = s.opened.length + 1 from by simp, List.map_append]
    exact this
  · rcases hm with e | e | e | e
    · exact .inl (.inl e)
    · exact .inl (.inr (.inl e))
    · rcases c.fresh b e with h' | h'
      · exact .inl (.inr (.inr (.inl h')))
      · exact .inr h'
    · exact .inl (.inr (.inr (.inr e)))
theorem PSt.pushClosed (h : PSt w0 ob w anc fin s ps vi vo vc vp vs) (hb : Below w.heap.size w W) {x : Bool} {v' : Value}
    (hown : w2.ownsRow w0.heap.size 4 1 v' (s.ended.length + 1) (s.ended.map .bool ++ [.bool x])) (hg : W.grownBy w2 vc.ownBlock) (hat : v'.ownBlock = vc.ownBlock ∨ v'.ownBlock = some W.heap.size) :
    PSt w0 ob (w2.setCell ⟨ob, 5, none⟩ v') anc fin { s with ended := s.ended ++ [x] } ps vi vo v' vp vs := by
  have c : Chg w (w2.setCell ⟨ob, 5, none⟩ v') ob vc v' := chg_of hb hg hat 5 v'
  have f := h.five
  have oa' := c.apart (obV_lt h) f.oc
  refine ⟨c.below h.below h.ob0 (fun g e => (ownBlock_lt h.oc e).1), ?_, h.ob0, c.row h.oi f.oa f.ac.symm, c.row h.oo f.ob f.bc.symm, ?_, c.row h.op f.od f.cd, h.il, h.its.step (fun b _ hlt hm => c.old b hlt (fun e => hm (.inl e)) (fun e => hm (.inr (.inr (.inr (.inl e)))))) (fun b hm => ?_),
    ⟨f.oa, f.ob, oa', f.od, f.ab, c.apart (fun g e => (ownBlock_lt h.oi e).2) f.ac, f.ad, c.apart (fun g e => (ownBlock_lt h.oo e).2) f.bc, f.bd, (c.apart (fun g e => (ownBlock_lt h.op e).2) f.cd.symm).symm⟩⟩
  · rw [heap_setCell_same (hr_push hb hg h.hr f.oc)]; rfl
  · have := own_set (k := 5) (u := v') hown oa'
    rw [show (s.ended ++ [x]).length = s.ended.length + 1 from by simp, List.map_append]
    exact this
  · rcases hm with e | e | e | e | e
    · exact .inl (.inl e)
    · exact .inl (.inr (.inl e))
    · exact .inl (.inr (.inr (.inl e)))
    · rcases c.fresh b e with h' | h'
      · exact .inl (.inr (.inr (.inr (.inl h'))))
      · exact .inr h'
    · exact .inl (.inr (.inr (.inr (.inr e))))
theorem PSt.pushPos (h : PSt w0 ob w anc fin s ps vi vo vc vp vs) (hb : Below w.heap.size w W) {x : Bool} {v' : Value}
    (hown : w2.ownsRow w0.heap.size 4 1 v' (ps.length + 1) (ps.map .bool ++ [.bool x])) (hg : W.grownBy w2 vp.ownBlock) (hat : v'.ownBlock = vp.ownBlock ∨ v'.ownBlock = some W.heap.size) :
    PSt w0 ob (w2.setCell ⟨ob, 6, none⟩ v') anc fin s (ps ++ [x]) vi vo vc v' vs := by
  have c : Chg w (w2.setCell ⟨ob, 6, none⟩ v') ob vp v' := chg_of hb hg hat 6 v'
  have f := h.five
  have oa' := c.apart (obV_lt h) f.od
  refine ⟨c.below h.below h.ob0 (fun g e => (ownBlock_lt h.op e).1), ?_, h.ob0, c.row h.oi f.oa f.ad.symm, c.row h.oo f.ob f.bd.symm, c.row h.oc f.oc f.cd.symm, ?_, h.il, h.its.step (fun b _ hlt hm => c.old b hlt (fun e => hm (.inl e)) (fun e => hm (.inr (.inr (.inr (.inr e)))))) (fun b hm => ?_),
    ⟨f.oa, f.ob, f.oc, oa', f.ab, f.ac, c.apart (fun g e => (ownBlock_lt h.oi e).2) f.ad, f.bc, c.apart (fun g e => (ownBlock_lt h.oo e).2) f.bd, c.apart (fun g e => (ownBlock_lt h.oc e).2) f.cd⟩⟩
  · rw [heap_setCell_same (hr_push hb hg h.hr f.od)]; rfl
  · have := own_set (k := 6) (u := v') hown oa'
    rw [show (ps ++ [x]).length = ps.length + 1 from by simp, List.map_append]
    exact this
  · rcases hm with e | e | e | e | e
    · exact .inl (.inl e)
    · exact .inl (.inr (.inl e))
    · exact .inl (.inr (.inr (.inl e)))
    · exact .inl (.inr (.inr (.inr (.inl e))))
    · rcases c.fresh b e with h' | h'
      · exact .inl (.inr (.inr (.inr (.inr h'))))
      · exact .inr h'
/-- A store into a field of the pattern that holds no row. -/
theorem PSt.setr (h : PSt w0 ob w anc fin s ps vi vo vc vp vs) {k : Nat} {u : Value} {anc' fin' : Bool} {caps' : Nat}
    (hk : #[vi, .bool anc', .bool fin', .int .i64 caps', vo, vc, vp] = (#[vi, .bool anc, .bool fin, .int .i64 s.caps, vo, vc, vp] : Array Value).setIfInBounds k u) :
    PSt w0 ob (w.setCell ⟨ob, k, none⟩ u) anc' fin' { s with caps := caps' } ps vi vo vc vp vs := by
  have set : ∀ b, b ≠ ob → (w.setCell ⟨ob, k, none⟩ u).heap[b]? = w.heap[b]? := fun b hb => Below.heap_setCell _ _ _ _ hb
  have f := h.five
  refine ⟨h.below.setCell h.ob0 _, ?_, h.ob0, own_set h.oi f.oa, own_set h.oo f.ob, own_set h.oc f.oc, own_set h.op f.od, h.il, h.its.step (fun b _ _ hm => set b (fun e => hm (.inl e))) (fun b hb => .inl hb), f⟩
  rw [heap_setCell_same h.hr, hk]
/-- A capture has ended. -/
theorem PSt.setClosed {g cap : Nat} (h : PSt w0 ob w anc fin s ps vi vo (.slice (some ⟨g, 0, none⟩) s.ended.length cap) vp vs) (n : Nat) :
    PSt w0 ob (w.setCell ⟨g, n, none⟩ (.bool true)) anc fin { s with ended := s.ended.set n true } ps vi vo (.slice (some ⟨g, 0, none⟩) s.ended.length cap) vp vs := by
  have f := h.five
  have set : ∀ b, b ≠ g → (w.setCell ⟨g, n, none⟩ (.bool true)).heap[b]? = w.heap[b]? := fun b hb => Below.heap_setCell _ _ _ _ hb
  have hg := ownBlock_lt h.oc (g := g) rfl
  have e : (s.ended.map Value.bool).set n (.bool true) = (s.ended.set n true).map Value.bool := by rw [List.map_set]
  have oe := h.oc.stored n (.bool true)
  refine ⟨h.below.setCell hg.1 _, ?_, h.ob0, ownsRow_set h.oi (fun e => f.ac g e rfl) _, ownsRow_set h.oo (fun e => f.bc g e rfl) _, ?_, ownsRow_set h.op (fun e => f.cd g rfl e) _, h.il, h.its.step (fun b _ _ hm => set b (fun e => hm (.inr (.inr (.inr (.inl (by rw [e]; rfl))))))) (fun b hb => .inl hb), f⟩
  · rw [set ob (fun e => f.oc ob rfl (by rw [e]; rfl))]; exact h.hr
  · show (w.setCell ⟨g, n, none⟩ (.bool true)).ownsRow _ _ _ _ (s.ended.set n true).length ((s.ended.set n true).map Value.bool)
    rw [← e, List.length_set]
    exact oe.1
/-- The last capture that is open is taken off. -/
theorem PSt.pop {g cap m : Nat} {l : List Nat} {x : Nat} (hl : s.opened = l ++ [x]) (hm : m = l.length) (h : PSt w0 ob w anc fin s ps vi (.slice (some ⟨g, 0, none⟩) (m + 1) cap) vc vp vs) :
    PSt w0 ob (w.setCell ⟨ob, 4, none⟩ (.slice (some ⟨g, 0, none⟩) m cap)) anc fin { s with opened := l } ps vi (.slice (some ⟨g, 0, none⟩) m cap) vc vp vs := by
  subst hm
  have f := h.five
  have set : ∀ b, b ≠ ob → (w.setCell ⟨ob, 4, none⟩ (.slice (some ⟨g, 0, none⟩) l.length cap)).heap[b]? = w.heap[b]? := fun b hb => Below.heap_setCell _ _ _ _ hb
  refine ⟨h.below.setCell h.ob0 _, ?_, h.ob0, own_set h.oi f.oa, ?_, own_set h.oc f.oc, own_set h.op f.od, h.il, h.its.step (fun b _ _ hm => set b (fun e => hm (.inl e))) (fun b hb => .inl hb), ⟨f.oa, f.ob, f.oc, f.od, f.ab, f.ac, f.ad, f.bc, f.bd, f.cd⟩⟩
  · rw [heap_setCell_same h.hr]; rfl
  · have oo := h.oo
    rw [hl, List.map_append] at oo
    have o2 : w.ownsRow w0.heap.size 3 1 (.slice (some ⟨g, 0, none⟩) l.length cap) l.length (l.map intV) := ownsRow_pop (last := [intV x]) (by simp) (by simpa using oo)
    exact own_set o2 f.ob
/-- A position is never closed. -/
structure RInv (s : St) (ps : List Bool) : Prop where
  len : ps.length = s.caps
  pos : ∀ n, ps.getD n false = true → s.ended.getD n false = false ∧ n ∉ s.opened
def PPost (w0 : World) (ob : Nat) (anc fin : Bool) (s : St) (w' : World) : Prop := ∃ ps vi vo vc vp vs, PSt w0 ob w' anc fin s ps vi vo vc vp vs ∧ RInv s ps
theorem itemR_plain (w : World) (A : Nat) (M : Nat → Prop) (k n x y : Nat) (hk : (k == 5 || k == 7) = false) : ItemR w A M ⟨k, n, x, y, noSet, 0⟩ (.slice none 0 0) := by
  unfold ItemR; rw [if_neg]; simp only [Item.sets, hk]; decide
theorem Tryd.info114 : (Tryd.prog.info? 114).map (fun i => (i.zero, i.size, i.bytes)) = some (some (.agg #[.int .i64 0, .slice none 0 0, .int .u8 0, .int .u8 0, .int .u8 0, .int .i64 0]), 6, 48) := by kernel_rfl
end Go.Proofs.YtpbhncmaamedhaaDoor

namespace Go.Proofs.YtpbhncmaamedhaaDoor
open Go.RowKit Go.Proofs.Lexi

/-! The reference's begins (66): a capture or a position is noted. -/
def BgPost (w0 : World) (ob : Nat) (anc fin : Bool) (R : Except Nat St) (e : Ending) (w' : World) : Prop :=
  match R with
  | .error c => e = .returned (.int .i64 c) ∧ Below w0.heap.size w0 w'
  | .ok s' => e = .returned (.int .i64 0) ∧ PPost w0 ob anc fin s' w'
def openS (s : St) : St := { s with items := s.items ++ [mkItem 1 s.caps], caps := s.caps + 1, opened := s.opened ++ [s.caps], ended := s.ended ++ [false] }
def placeS (s : St) : St := { s with items := s.items ++ [mkItem 3 s.caps], caps := s.caps + 1, ended := s.ended ++ [false] }
theorem cells_sixR (w : World) (x0 x1 x2 x3 x4 x5 : Value) (t : TypeId) (B : Nat) (hB : B = w.heap.size) : ∀ j u, [x0, x1, x2, x3, x4, x5][j]? = some u → (w.alloc (.cells #[x0, x1, x2, x3, x4, x5] t)).cell? ((⟨B, 0, none⟩ : Addr).add j) = some u := cells_six w x0 x1 x2 x3 x4 x5 t B hB
theorem pinv_open {s : St} {ps : List Bool} (h : RInv s ps) (hw : Wf s) : RInv (openS s) (ps ++ [false]) := by
  refine ⟨by simp [openS, h.len], fun n hn => ?_⟩
  by_cases hlt : n < ps.length
  · rw [getD_left _ _ _ _ hlt] at hn
    obtain ⟨h1, h2⟩ := h.pos n hn
    refine ⟨?_, ?_⟩
    · show (s.ended ++ [false]).getD n false = false
      rw [getD_left _ _ _ _ (by rw [hw.el, ← h.len]; exact hlt)]; exact h1
    · show n ∉ s.opened ++ [s.caps]
      simp only [List.mem_append, List.mem_singleton, not_or]
      exact ⟨h2, by rw [← h.len]; omega⟩
  · exfalso
    by_cases he : n = ps.length
    · subst he; rw [getD_last] at hn; cases hn
    · rw [List.getD_eq_getElem?_getD, List.getElem?_eq_none (by simp; omega)] at hn; cases hn
theorem pinv_place {s : St} {ps : List Bool} (h : RInv s ps) (hw : Wf s) : RInv (placeS s) (ps ++ [true]) := by
  refine ⟨by simp [placeS, h.len], fun n hn => ?_⟩
  by_cases hlt : n < ps.length
  · rw [getD_left _ _ _ _ hlt] at hn
    obtain ⟨h1, h2⟩ := h.pos n hn
    refine ⟨?_, h2⟩
    show (s.ended ++ [false]).getD n false = false
    rw [getD_left _ _ _ _ (by rw [hw.el, ← h.len]; exact hlt)]; exact h1
  · by_cases he : n = ps.length
    · subst he
      refine ⟨?_, fun hm => ?_⟩
      · show (s.ended ++ [false]).getD ps.length false = false
        rw [h.len, ← hw.el, getD_last]
      · have := hw.op _ hm
        rw [← h.len] at this; omega
    · rw [List.getD_eq_getElem?_getD, List.getElem?_eq_none (by simp; omega)] at hn; cases hn
set_option maxRecDepth 100000 in
set_option maxHeartbeats 1000000 in
theorem begins_lim {w0 w : World} {ob : Nat} {anc fin : Bool} {s : St} {ps : List Bool} {vi vo vc vp : Value} {vs : List Value} (h : PSt w0 ob w anc fin s ps vi vo vc vp vs) (hc : s.caps = 16) (k : Int) :
    Calls Tryd.prog 66 #[.pointer (some ⟨ob, 0, none⟩), .int .i64 k] w (BgPost w0 ob anc fin (.error 3)) := by
  have h3 : w.cell? ⟨ob, 3, none⟩ = some (.int .i64 16) := by rw [cell_of_heap h.hr, hc]; rfl
  have HB := Lib.hid h.below
  clear h hc
  go_enter Tryd.func66, Tryd.ntmps66
  go_wp2
  go_ret
  exact ⟨rfl, HB.out⟩
set_option maxRecDepth 100000 in
set_option maxHeartbeats 4000000 in
theorem begins_place {w0 w : World} {ob : Nat} {anc fin : Bool} {s : St} {ps : List Bool} {vi vo vc vp : Value} {vs : List Value} (h : PSt w0 ob w anc fin s ps vi vo vc vp vs) (hv : RInv s ps) (hw : Wf s) (hc : s.caps < 16) (hi : s.items.length ≤ 20000) :
    Calls Tryd.prog 66 #[.pointer (some ⟨ob, 0, none⟩), .int .i64 4] w (BgPost w0 ob anc fin (.ok (placeS s))) := by
  obtain ⟨i14, hi14, hi14a, hi14b, hi14c⟩ := info_parts Tryd.info114
  obtain ⟨i3, hi3, hi3a, hi3b, hi3c⟩ := info_parts Tryd.info3
  obtain ⟨i4, hi4, hi4a, hi4b, hi4c⟩ := info_parts Tryd.info4
  have h0 : w.cell? ⟨ob, 0, none⟩ = some vi := by rw [cell_of_heap h.hr]; rfl
  have h3 : w.cell? ⟨ob, 3, none⟩ = some (.int .i64 s.caps) := by rw [cell_of_heap h.hr]; rfl
  have t16 : ((s.caps : Int) == 16) = false := by rw [beq_eq_false_iff_ne]; omega
  have ol := hw.ol
  have el : s.ended.length ≤ 16 := by rw [hw.el]; omega
  have pl : ps.length ≤ 16 := by rw [hv.len]; omega
  have hlt := h.lt
  have H := Lib.hid h
  have HV := Lib.hid (pinv_place hv hw)
  clear h hv hw
  go_enter Tryd.func66, Tryd.ntmps66
  go_wp2
  refine wp_region_lex mixed (by kernel_rfl) ?_
  go_wp2_with (at_builtin; refine wpList_append_own_at _ rfl (.tmp 14) (.tmp 21) 64 rfl w0.heap.size 114 i14 _ 6 48 Tryd.underlying64 hi14 hi14a hi14b hi14c rfl (by decide) vi s.items.length (rowR s.items vs) rfl ?_ ⟨_, 0, none⟩ 1 1 [_, _, _, _, _, _] rfl rfl (cells_sixR _ _ _ _ _ _ _ _ _ (by simp)) ?_ ?_ ?_ ?_ ?_)
  · exact ownsRow_ext (below_ext (((Below.refl _ _).alloc (Nat.le_refl _) _).drew) (Nat.le_refl _)) H.out.oi
  · intro u hu
    simp only [List.mem_cons, List.not_mem_nil, or_false] at hu
    rcases hu with rfl | rfl | rfl | rfl | rfl | rfl <;> rfl
  · unfold maxLen; omega
  · omega
  · have := H.out.below.size; simp at this ⊢; omega
  · intro v1 w1 hown hgrow _ hat
    obtain ⟨g1, cap1, rfl⟩ := slice_shape hown (by omega)
    have hr1 := hr_push (((Below.refl _ _).alloc (Nat.le_refl _) _).drew) hgrow H.out.hr H.out.five.oa
    have c10 : w1.cell? ⟨ob, 0, none⟩ = some (vi) := by rw [cell_of_heap hr1]; rfl
    have c13 : w1.cell? ⟨ob, 3, none⟩ = some (.int .i64 s.caps) := by rw [cell_of_heap hr1]; rfl
    have c14 : w1.cell? ⟨ob, 4, none⟩ = some (vo) := by rw [cell_of_heap hr1]; rfl
    have c15 : w1.cell? ⟨ob, 5, none⟩ = some (vc) := by rw [cell_of_heap hr1]; rfl
    have c16 : w1.cell? ⟨ob, 6, none⟩ = some (vp) := by rw [cell_of_heap hr1]; rfl
    have f1 : w1.frozen? ⟨ob, 0, none⟩ = false := by simp [World.frozen?, hr1]
    have f1b : w1.frozen? ⟨ob, 3, none⟩ = false := by simp [World.frozen?, hr1]
    have H1 := Lib.hid (H.out.pushItem (((Below.refl _ _).alloc (Nat.le_refl _) _).drew) (itemR_plain _ _ _ 3 s.caps 0 0 rfl) hown hgrow (by simpa using hat))
    clear hown hgrow hat hr1
    go_wp2
    refine ⟨by kernel_rfl, ?_⟩
    go_wp2_with (at_builtin; refine wpList_append_own_at _ rfl (.tmp 44) (.tmp 45) 66 rfl w0.heap.size 4 i4 _ 1 1 Tryd.underlying66 hi4 hi4a hi4b hi4c rfl (by decide) vc s.ended.length (s.ended.map .bool) rfl ?_ ⟨_, 0, none⟩ 1 1 [_] rfl rfl (cell_one_at _ _ _ _ (by simp)) ?_ ?_ ?_ ?_ ?_)
    · exact ownsRow_ext (below_ext (((Below.refl _ _).alloc (Nat.le_refl _) _)) (Nat.le_refl _)) H1.out.oc
    · first | rfl | (intro u hu; simp only [List.mem_singleton] at hu; subst hu; rfl)
    · unfold maxLen; omega
    · omega
    · have := H1.out.below.size; simp at this ⊢; omega
    · intro v2 w2 hown hgrow _ hat
      obtain ⟨g2, cap2, rfl⟩ := slice_shape hown (by omega)
      have hr2 := hr_push (((Below.refl _ _).alloc (Nat.le_refl _) _)) hgrow H1.out.hr H1.out.five.oc
      have c23 : w2.cell? ⟨ob, 3, none⟩ = some (.int .i64 s.caps) := by rw [cell_of_heap hr2]; rfl
      have c25 : w2.cell? ⟨ob, 5, none⟩ = some (vc) := by rw [cell_of_heap hr2]; rfl
      have c26 : w2.cell? ⟨ob, 6, none⟩ = some (vp) := by rw [cell_of_heap hr2]; rfl
      have f2 : w2.frozen? ⟨ob, 5, none⟩ = false := by simp [World.frozen?, hr2]
      have f2b : w2.frozen? ⟨ob, 3, none⟩ = false := by simp [World.frozen?, hr2]
      have H3 := Lib.hid (H1.out.pushClosed (((Below.refl _ _).alloc (Nat.le_refl _) _)) (x := false) hown hgrow (by simpa using hat))
      clear hown hgrow hat hr2
      go_wp2_with (at_builtin; refine wpList_append_own_at _ rfl (.tmp 53) (.tmp 56) 66 rfl w0.heap.size 4 i4 _ 1 1 Tryd.underlying66 hi4 hi4a hi4b hi4c rfl (by decide) vp ps.length (ps.map .bool) rfl ?_ ⟨_, 0, none⟩ 1 1 [_] rfl rfl (cell_one_at _ _ _ _ (by simp)) ?_ ?_ ?_ ?_ ?_)
      · exact ownsRow_ext (below_ext (((Below.refl _ _).alloc (Nat.le_refl _) _)) (Nat.le_refl _)) H3.out.op
      · first | rfl | (intro u hu; simp only [List.mem_singleton] at hu; subst hu; rfl)
      · unfold maxLen; omega
      · omega
      · have := H3.out.below.size; simp at this ⊢; omega
      · intro v3 w3 hown hgrow _ hat
        obtain ⟨g3, cap3, rfl⟩ := slice_shape hown (by omega)
        have hr3 := hr_push (((Below.refl _ _).alloc (Nat.le_refl _) _)) hgrow H3.out.hr H3.out.five.od
        have c33 : w3.cell? ⟨ob, 3, none⟩ = some (.int .i64 s.caps) := by rw [cell_of_heap hr3]; rfl
        have c36 : w3.cell? ⟨ob, 6, none⟩ = some (vp) := by rw [cell_of_heap hr3]; rfl
        have f3 : w3.frozen? ⟨ob, 6, none⟩ = false := by simp [World.frozen?, hr3]
        have f3b : w3.frozen? ⟨ob, 3, none⟩ = false := by simp [World.frozen?, hr3]
        have H4 := Lib.hid (H3.out.pushPos (((Below.refl _ _).alloc (Nat.le_refl _) _)) (x := true) hown hgrow (by simpa using hat))
        clear hown hgrow hat hr3
        go_wp2
        go_ret
        exact ⟨rfl, _, _, _, _, _, _, H4.out.setr (k := 3) (caps' := s.caps + 1) rfl, HV.out⟩
set_option maxRecDepth 100000 in
set_option maxHeartbeats 4000000 in
theorem begins_open {w0 w : World} {ob : Nat} {anc fin : Bool} {s : St} {ps : List Bool} {vi vo vc vp : Value} {vs : List Value} (h : PSt w0 ob w anc fin s ps vi vo vc vp vs) (hv : RInv s ps) (hw : Wf s) (hc : s.caps < 16) (hi : s.items.length ≤ 20000) :
    Calls Tryd.prog 66 #[.pointer (some ⟨ob, 0, none⟩), .int .i64 2] w (BgPost w0 ob anc fin (.ok (openS s))) := by
  obtain ⟨i14, hi14, hi14a, hi14b, hi14c⟩ := info_parts Tryd.info114
  obtain ⟨i3, hi3, hi3a, hi3b, hi3c⟩ := info_parts Tryd.info3
  obtain ⟨i4, hi4, hi4a, hi4b, hi4c⟩ := info_parts Tryd.info4
  have h0 : w.cell? ⟨ob, 0, none⟩ = some vi := by rw [cell_of_heap h.hr]; rfl
  have h3 : w.cell? ⟨ob, 3, none⟩ = some (.int .i64 s.caps) := by rw [cell_of_heap h.hr]; rfl
  have t16 : ((s.caps : Int) == 16) = false := by rw [beq_eq_false_iff_ne]; omega
  have ol := hw.ol
  have el : s.ended.length ≤ 16 := by rw [hw.el]; omega
  have pl : ps.length ≤ 16 := by rw [hv.len]; omega
  have hlt := h.lt
  have H := Lib.hid h
  have HV := Lib.hid (pinv_open hv hw)
  clear h hv hw
  go_enter Tryd.func66, Tryd.ntmps66
  go_wp2
  refine wp_region_lex mixed (by kernel_rfl) ?_
  go_wp2_with (at_builtin; refine wpList_append_own_at _ rfl (.tmp 14) (.tmp 21) 64 rfl w0.heap.size 114 i14 _ 6 48 Tryd.underlying64 hi14 hi14a hi14b hi14c rfl (by decide) vi s.items.length (rowR s.items vs) rfl ?_ ⟨_, 0, none⟩ 1 1 [_, _, _, _, _, _] rfl rfl (cells_sixR _ _ _ _ _ _ _ _ _ (by simp)) ?_ ?_ ?_ ?_ ?_)
  · exact ownsRow_ext (below_ext (((Below.refl _ _).alloc (Nat.le_refl _) _).drew) (Nat.le_refl _)) H.out.oi
  · intro u hu
    simp only [List.mem_cons, List.not_mem_nil, or_false] at hu
    rcases hu with rfl | rfl | rfl | rfl | rfl | rfl <;> rfl
  · unfold maxLen; omega
  · omega
  · have := H.out.below.size; simp at this ⊢; omega
  · intro v1 w1 hown hgrow _ hat
    obtain ⟨g1, cap1, rfl⟩ := slice_shape hown (by omega)
    have hr1 := hr_push (((Below.refl _ _).alloc (Nat.le_refl _) _).drew) hgrow H.out.hr H.out.five.oa
    have c10 : w1.cell? ⟨ob, 0, none⟩ = some (vi) := by rw [cell_of_heap hr1]; rfl
    have c13 : w1.cell? ⟨ob, 3, none⟩ = some (.int .i64 s.caps) := by rw [cell_of_heap hr1]; rfl
    have c14 : w1.cell? ⟨ob, 4, none⟩ = some (vo) := by rw [cell_of_heap hr1]; rfl
    have c15 : w1.cell? ⟨ob, 5, none⟩ = some (vc) := by rw [cell_of_heap hr1]; rfl
    have c16 : w1.cell? ⟨ob, 6, none⟩ = some (vp) := by rw [cell_of_heap hr1]; rfl
    have f1 : w1.frozen? ⟨ob, 0, none⟩ = false := by simp [World.frozen?, hr1]
    have f1b : w1.frozen? ⟨ob, 3, none⟩ = false := by simp [World.frozen?, hr1]
    have H1 := Lib.hid (H.out.pushItem (((Below.refl _ _).alloc (Nat.le_refl _) _).drew) (itemR_plain _ _ _ 1 s.caps 0 0 rfl) hown hgrow (by simpa using hat))
    clear hown hgrow hat hr1
    go_wp2
    refine ⟨by kernel_rfl, ?_⟩
    go_wp2
    refine wp_region_lex mixed (by kernel_rfl) ?_
    go_wp2_with (at_builtin; refine wpList_append_own_at _ rfl (.tmp 31) (.tmp 36) 65 rfl w0.heap.size 3 i3 _ 1 8 Tryd.underlying65 hi3 hi3a hi3b hi3c rfl (by decide) vo s.opened.length (s.opened.map intV) rfl ?_ ⟨_, 0, none⟩ 1 1 [_] rfl rfl (cell_one_at _ _ _ _ (by simp)) ?_ ?_ ?_ ?_ ?_)
    · exact ownsRow_ext (below_ext (((Below.refl _ _).alloc (Nat.le_refl _) _).drew) (Nat.le_refl _)) H1.out.oo
    · first | rfl | (intro u hu; simp only [List.mem_singleton] at hu; subst hu; rfl)
    · unfold maxLen; omega
    · omega
    · have := H1.out.below.size; simp at this ⊢; omega
    · intro v2 w2 hown hgrow _ hat
      obtain ⟨g2, cap2, rfl⟩ := slice_shape hown (by omega)
      have hr2 := hr_push (((Below.refl _ _).alloc (Nat.le_refl _) _).drew) hgrow H1.out.hr H1.out.five.ob
      have c23 : w2.cell? ⟨ob, 3, none⟩ = some (.int .i64 s.caps) := by rw [cell_of_heap hr2]; rfl
      have c24 : w2.cell? ⟨ob, 4, none⟩ = some (vo) := by rw [cell_of_heap hr2]; rfl
      have c25 : w2.cell? ⟨ob, 5, none⟩ = some (vc) := by rw [cell_of_heap hr2]; rfl
      have c26 : w2.cell? ⟨ob, 6, none⟩ = some (vp) := by rw [cell_of_heap hr2]; rfl
      have f2 : w2.frozen? ⟨ob, 4, none⟩ = false := by simp [World.frozen?, hr2]
      have f2b : w2.frozen? ⟨ob, 3, none⟩ = false := by simp [World.frozen?, hr2]
      have H2 := Lib.hid (H1.out.pushOpen (((Below.refl _ _).alloc (Nat.le_refl _) _).drew) (x := s.caps) hown hgrow (by simpa using hat))
      clear hown hgrow hat hr2
      go_wp2
      refine ⟨by kernel_rfl, ?_⟩
      go_wp2_with (at_builtin; refine wpList_append_own_at _ rfl (.tmp 44) (.tmp 45) 66 rfl w0.heap.size 4 i4 _ 1 1 Tryd.underlying66 hi4 hi4a hi4b hi4c rfl (by decide) vc s.ended.length (s.ended.map .bool) rfl ?_ ⟨_, 0, none⟩ 1 1 [_] rfl rfl (cell_one_at _ _ _ _ (by simp)) ?_ ?_ ?_ ?_ ?_)
      · exact ownsRow_ext (below_ext (((Below.refl _ _).alloc (Nat.le_refl _) _)) (Nat.le_refl _)) H2.out.oc
      · first | rfl | (intro u hu; simp only [List.mem_singleton] at hu; subst hu; rfl)
      · unfold maxLen; omega
      · omega
      · have := H2.out.below.size; simp at this ⊢; omega
      · intro v3 w3 hown hgrow _ hat
        obtain ⟨g3, cap3, rfl⟩ := slice_shape hown (by omega)
        have hr3 := hr_push (((Below.refl _ _).alloc (Nat.le_refl _) _)) hgrow H2.out.hr H2.out.five.oc
        have c33 : w3.cell? ⟨ob, 3, none⟩ = some (.int .i64 s.caps) := by rw [cell_of_heap hr3]; rfl
        have c35 : w3.cell? ⟨ob, 5, none⟩ = some (vc) := by rw [cell_of_heap hr3]; rfl
        have c36 : w3.cell? ⟨ob, 6, none⟩ = some (vp) := by rw [cell_of_heap hr3]; rfl
        have f3 : w3.frozen? ⟨ob, 5, none⟩ = false := by simp [World.frozen?, hr3]
        have f3b : w3.frozen? ⟨ob, 3, none⟩ = false := by simp [World.frozen?, hr3]
        have H3 := Lib.hid (H2.out.pushClosed (((Below.refl _ _).alloc (Nat.le_refl _) _)) (x := false) hown hgrow (by simpa using hat))
        clear hown hgrow hat hr3
        go_wp2_with (at_builtin; refine wpList_append_own_at _ rfl (.tmp 53) (.tmp 56) 66 rfl w0.heap.size 4 i4 _ 1 1 Tryd.underlying66 hi4 hi4a hi4b hi4c rfl (by decide) vp ps.length (ps.map .bool) rfl ?_ ⟨_, 0, none⟩ 1 1 [_] rfl rfl (cell_one_at _ _ _ _ (by simp)) ?_ ?_ ?_ ?_ ?_)
        · exact ownsRow_ext (below_ext (((Below.refl _ _).alloc (Nat.le_refl _) _)) (Nat.le_refl _)) H3.out.op
        · first | rfl | (intro u hu; simp only [List.mem_singleton] at hu; subst hu; rfl)
        · unfold maxLen; omega
        · omega
        · have := H3.out.below.size; simp at this ⊢; omega
        · intro v4 w4 hown hgrow _ hat
          obtain ⟨g4, cap4, rfl⟩ := slice_shape hown (by omega)
          have hr4 := hr_push (((Below.refl _ _).alloc (Nat.le_refl _) _)) hgrow H3.out.hr H3.out.five.od
          have c43 : w4.cell? ⟨ob, 3, none⟩ = some (.int .i64 s.caps) := by rw [cell_of_heap hr4]; rfl
          have c46 : w4.cell? ⟨ob, 6, none⟩ = some (vp) := by rw [cell_of_heap hr4]; rfl
          have f4 : w4.frozen? ⟨ob, 6, none⟩ = false := by simp [World.frozen?, hr4]
          have f4b : w4.frozen? ⟨ob, 3, none⟩ = false := by simp [World.frozen?, hr4]
          have H4 := Lib.hid (H3.out.pushPos (((Below.refl _ _).alloc (Nat.le_refl _) _)) (x := false) hown hgrow (by simpa using hat))
          clear hown hgrow hat hr4
          go_wp2
          go_ret
          exact ⟨rfl, _, _, _, _, _, _, H4.out.setr (k := 3) (caps' := s.caps + 1) rfl, HV.out⟩
end Go.Proofs.YtpbhncmaamedhaaDoor

namespace Go.Proofs.YtpbhncmaamedhaaDoor
open Go.RowKit Go.Proofs.Lexi

/-! The reference's special (50): an item other than a single. -/
def specialM (c : Nat) (r : List Nat) (s : St) : Option (Except Nat (St × Nat)) :=
  if c = 40 ∨ c = 41 then some (bracketM c r s)
  else if c = 37 then
    match r with
    | [] => none
    | d :: _ => if d = 98 ∨ d = 102 ∨ (49 ≤ d ∧ d ≤ 57) then percentM r s else none
  else none
theorem special_step (c : Nat) (r : List Nat) (s : St) : match specialM c r s with | some R => stepM c r s = R | none => stepM c r s = singleM c r s := by
  unfold specialM stepM
  by_cases h1 : c = 40 ∨ c = 41
  · rw [if_pos h1, if_pos h1]
  · rw [if_neg h1, if_neg h1]
    by_cases h2 : c = 37
    · rw [if_pos h2, if_pos h2]
      subst h2
      match r with
      | [] => rfl
      | d :: r1 =>
        simp only []
        by_cases h3 : d = 98 ∨ d = 102 ∨ (49 ≤ d ∧ d ≤ 57)
        · rw [if_pos h3]
          cases hq : percentM (d :: r1) s with
          | some R => rfl
          | none =>
            exfalso
            unfold percentM at hq
            simp only [] at hq
            split at hq
            · split at hq <;> cases hq
            · split at hq
              · split at hq
                · split at hq
                  · split at hq <;> cases hq
                  · cases hq
                · cases hq
              · split at hq
                · split at hq <;> cases hq
                · rename_i h5 h6 h7
                  rcases h3 with h3 | h3 | h3
                  · exact h5 h3
                  · exact h6 h3
                  · exact h7 (by simp [isDigit]; omega)
        · rw [if_neg h3]
          simp only [not_or] at h3
          simp only [percentM, if_neg h3.1, if_neg h3.2.1]
          by_cases h4 : isDigit d = true
          · have h48 : d = 48 := by have : 48 ≤ d ∧ d ≤ 57 := by simpa [isDigit] using h4
                                    omega
            rw [if_pos h4, if_pos (.inl h48)]
            subst h48
            unfold singleM baseM
            simp [pairS_digit 48 rfl]
          · rw [if_neg h4]
    · rw [if_neg h2, if_neg h2]
def SpPost (w0 : World) (ob : Nat) (anc fin : Bool) (s : St) (R : Option (Except Nat (St × Nat))) (e : Ending) (w' : World) : Prop :=
  match R with
  | none => e = .returned (.tuple #[.int .i64 0, .int .i64 0]) ∧ PPost w0 ob anc fin s w'
  | some (.error c) => (∃ n : Int, e = .returned (.tuple #[.int .i64 n, .int .i64 c])) ∧ Below w0.heap.size w0 w'
  | some (.ok (s', m)) => e = .returned (.tuple #[.int .i64 m, .int .i64 0]) ∧ PPost w0 ob anc fin s' w'
section
variable {w0 w' : World} {ob : Nat} {anc fin : Bool} {s s' : St} {R : Option (Except Nat (St × Nat))}
theorem sp_none (hR : R = none) (h : PPost w0 ob anc fin s w') : SpPost w0 ob anc fin s R (.returned (.tuple #[.int .i64 0, .int .i64 0])) w' := by subst hR; exact ⟨rfl, h⟩
theorem sp_err {c : Nat} {n d : Int} (hR : R = some (.error c)) (hd : d = c) (h : Below w0.heap.size w0 w') : SpPost w0 ob anc fin s R (.returned (.tuple #[.int .i64 n, .int .i64 d])) w' := by subst hR hd; exact ⟨⟨_, rfl⟩, h⟩
theorem sp_ok {m : Nat} {n : Int} (hR : R = some (.ok (s', m))) (hn : n = m) (h : PPost w0 ob anc fin s' w') : SpPost w0 ob anc fin s R (.returned (.tuple #[.int .i64 n, .int .i64 0])) w' := by subst hR hn; exact ⟨rfl, h⟩
end
theorem pinv_items {s : St} {ps : List Bool} (h : RInv s ps) (l : List Item) : RInv { s with items := l } ps := ⟨h.len, h.pos⟩
theorem pinv_shut {s : St} {ps : List Bool} {l : List Nat} {x : Nat} (h : RInv s ps) (ho : s.opened = l ++ [x]) (it : List Item) : RInv { s with items := it, opened := l, ended := s.ended.set x true } ps := by
  refine ⟨h.len, fun n hn => ?_⟩
  obtain ⟨h1, h2⟩ := h.pos n hn
  rw [ho] at h2
  simp only [List.mem_append, List.mem_singleton, not_or] at h2
  refine ⟨?_, h2.1⟩
  show (s.ended.set x true).getD n false = false
  rw [List.getD_eq_getElem?_getD, List.getElem?_set_ne (fun e => h2.2 e.symm), ← List.getD_eq_getElem?_getD]
  exact h1
set_option maxRecDepth 100000 in
set_option maxHeartbeats 4000000 in
theorem special_open {w0 w : World} {ob : Nat} {anc fin : Bool} {s : St} {ps : List Bool} {vi vo vc vp : Value} {vs : List Value} (h : PSt w0 ob w anc fin s ps vi vo vc vp vs) (hv : RInv s ps) (hw : Wf s) (p : ByteArray) (k : Nat) (hk : k < p.size) (hp : p.size ≤ 5000) (hi : s.items.length ≤ k) (hc : p[k].toNat = 40) :
    Calls Tryd.prog 50 #[.pointer (some ⟨ob, 0, none⟩), .string p, .int .i64 k] w (SpPost w0 ob anc fin s (specialM p[k].toNat ((bytesOf p).drop (k + 1)) s)) := by
  have hR : specialM p[k].toNat ((bytesOf p).drop (k + 1)) s = some (bracketM p[k].toNat ((bytesOf p).drop (k + 1)) s) := by unfold specialM; rw [if_pos (.inl hc)]
  rw [hR]
  have h41 : ¬ p[k].toNat = 41 := by omega
  have t40 : ((p[k].toNat : Int) == 40) = true := by rw [hc]; rfl
  have hpl : (((bytesOf p).drop (k + 1)).head? = some 41 ∧ ∃ h : k + 1 < p.size, ((p[k + 1].toNat : Int) == 41) = true) ∨ (¬ ((bytesOf p).drop (k + 1)).head? = some 41 ∧ ((∃ h : k + 1 < p.size, ((p[k + 1].toNat : Int) == 41) = false) ∨ p.size ≤ k + 1)) := by
    by_cases h1 : k + 1 < p.size
    · rw [bytesOf_drop p (k + 1) h1]
      by_cases h2 : p[k + 1].toNat = 41
      · exact .inl ⟨by rw [h2]; rfl, h1, by rw [h2]; rfl⟩
      · exact .inr ⟨by simp; omega, .inl ⟨h1, by rw [beq_eq_false_iff_ne]; omega⟩⟩
    · exact .inr ⟨by rw [bytesOf_end p (k + 1) (by omega)]; simp, .inr (by omega)⟩
  have c16 := hw.c16
  by_cases hl : 16 ≤ s.caps
  · have hE : bracketM p[k].toNat ((bytesOf p).drop (k + 1)) s = .error 3 := by simp [bracketM, h41, hl]
    rw [hE]
    have HB := Lib.hid (fun (q : Int) => begins_lim h (by omega) q)
    clear hE hR hc h hv hw h41
    rcases hpl with ⟨_, h1, t1⟩ | ⟨_, ⟨h1, t1⟩ | h1⟩
    all_goals
      go_enter Tryd.func50, Tryd.ntmps50
      go_wp2_with fail
      refine (HB.out _).mono ?_
      rintro e w' ⟨rfl, hb⟩
      have HBB := Lib.hid hb
      clear hb
      go_wp2
      go_ret2
      exact sp_err rfl rfl HBB.out
  · rcases hpl with ⟨hh, h1, t1⟩ | ⟨hh, hh2⟩
    · have hE : bracketM p[k].toNat ((bytesOf p).drop (k + 1)) s = .ok (placeS s, 2) := by simp only [bracketM, h41, hl, hh, if_true, if_false]; rfl
      rw [hE]
      have HB := Lib.hid (begins_place h hv hw (by omega) (by omega))
      clear hE hR hc h hv hw h41 hh
      go_enter Tryd.func50, Tryd.ntmps50
      go_wp2_with fail
      refine HB.out.mono ?_
      rintro e w' ⟨rfl, hb⟩
      have HBB := Lib.hid hb
      clear hb
      go_wp2
      go_ret2
      exact sp_ok rfl rfl HBB.out
    · have hE : bracketM p[k].toNat ((bytesOf p).drop (k + 1)) s = .ok (openS s, 1) := by simp only [bracketM, h41, hl, hh, if_false]; rfl
      rw [hE]
      have HB := Lib.hid (begins_open h hv hw (by omega) (by omega))
      clear hE hR hc h hv hw h41 hh
      rcases hh2 with ⟨h1, t1⟩ | h1
      all_goals
        go_enter Tryd.func50, Tryd.ntmps50
        go_wp2_with fail
        refine HB.out.mono ?_
        rintro e w' ⟨rfl, hb⟩
        have HBB := Lib.hid hb
        clear hb
        go_wp2
        go_ret2
        exact sp_ok rfl rfl HBB.out
set_option maxRecDepth 100000 in
set_option maxHeartbeats 4000000 in
theorem special_shut {w0 w : World} {ob : Nat} {anc fin : Bool} {s : St} {ps : List Bool} {vi vo vc vp : Value} {vs : List Value} (h : PSt w0 ob w anc fin s ps vi vo vc vp vs) (hv : RInv s ps) (hw : Wf s) (p : ByteArray) (k : Nat) (hk : k < p.size) (hp : p.size ≤ 5000) (hi : s.items.length ≤ k) (hc : p[k].toNat = 41) :
    Calls Tryd.prog 50 #[.pointer (some ⟨ob, 0, none⟩), .string p, .int .i64 k] w (SpPost w0 ob anc fin s (specialM p[k].toNat ((bytesOf p).drop (k + 1)) s)) := by
  have hR : specialM p[k].toNat ((bytesOf p).drop (k + 1)) s = some (bracketM p[k].toNat ((bytesOf p).drop (k + 1)) s) := by unfold specialM; rw [if_pos (.inr hc)]
  rw [hR]
  clear hR
  have t40 : ((p[k].toNat : Int) == 40) = false := by rw [beq_eq_false_iff_ne]; omega
  have t41 : ((p[k].toNat : Int) == 41) = true := by rw [hc]; rfl
  obtain ⟨i14, hi14, hi14a, hi14b, hi14c⟩ := info_parts Tryd.info114
  have h0 : w.cell? ⟨ob, 0, none⟩ = some vi := by rw [cell_of_heap h.hr]; rfl
  have h4 : w.cell? ⟨ob, 4, none⟩ = some vo := by rw [cell_of_heap h.hr]; rfl
  have h5 : w.cell? ⟨ob, 5, none⟩ = some vc := by rw [cell_of_heap h.hr]; rfl
  have f4 := h.frozen 4
  have ol := hw.ol
  have c16 := hw.c16
  have hlt := h.lt
  rcases List.eq_nil_or_concat s.opened with ho | ⟨l, x, ho⟩
  · have E := Lib.hid (show bracketM p[k].toNat ((bytesOf p).drop (k + 1)) s = .error 4 by simp [bracketM, hc, ho])
    have hnil : ∃ ao cap, vo = .slice ao 0 cap := by
      rcases h.oo.2 with ⟨e, _⟩ | ⟨g, cap, cur, e, _⟩
      · exact ⟨_, _, e⟩
      · exact ⟨_, _, by rw [e, ho]; rfl⟩
    obtain ⟨ao, cap, rfl⟩ := hnil
    have HB := Lib.hid h.below
    clear h hc ho hw hv
    go_enter Tryd.func50, Tryd.ntmps50
    go_wp2
    go_ret2
    rw [E.out]
    exact sp_err rfl rfl HB.out
  · rw [List.concat_eq_append] at ho
    have hx : x < s.caps := hw.op x (by rw [ho]; simp)
    have hx' : x < s.ended.length := by rw [hw.el]; exact hx
    have E := Lib.hid (show bracketM p[k].toNat ((bytesOf p).drop (k + 1)) s = .ok ({ s with items := s.items ++ [mkItem 2 x], opened := l, ended := s.ended.set x true }, 1) by simp [bracketM, hc, ho])
    obtain ⟨g, cap, rfl⟩ := slice_shape h.oo (by rw [ho]; simp)
    obtain ⟨ge, ce, rfl⟩ := slice_shape h.oc (by omega)
    have HL := Lib.hid (show s.opened.length = l.length + 1 by rw [ho]; simp)
    have k1 : w.cell? ⟨g, l.length, none⟩ = some (.int .i64 x) := by rw [h.oo.cellAt l.length (by rw [ho]; simp), ho]; simp [intV]
    obtain ⟨b, k2⟩ : ∃ b, w.cell? ⟨ge, x, none⟩ = some (.bool b) := by rw [h.oc.cellAt x (by omega)]; simp [hx']
    have k3 := h.oc.frozenAt x
    have d1 : ge ≠ ob := fun e => h.five.oc ob rfl (by rw [e]; rfl)
    have d2 : g ≠ ob := fun e => h.five.ob ob rfl (by rw [e]; rfl)
    have hcap : l.length ≤ cap := by
      rcases h.oo.2 with ⟨e, _⟩ | ⟨_, _, _, e, _, _, h, _⟩
      · cases e
      · injection e with _ _ e3; subst e3; have := HL.out; (try simp only at h); omega
    have hl : l.length ≤ 16 := by have := HL.out; omega
    have hee : s.ended.length ≤ 16 := by rw [hw.el]; exact c16
    rw [HL.out] at h4
    have HP := Lib.hid (show PSt w0 ob w anc fin s ps vi (.slice (some ⟨g, 0, none⟩) (l.length + 1) cap) (.slice (some ⟨ge, 0, none⟩) s.ended.length ce) vp vs from by rw [← HL.out]; exact h)
    have HQ := Lib.hid ((PSt.pop ho rfl HP.out).setClosed x)
    have HV := Lib.hid (pinv_shut hv ho (s.items ++ [mkItem 2 x]))
    clear h hc ho hw ol hv
    go_enter Tryd.func50, Tryd.ntmps50
    go_wp2
    refine wp_region_lex mixed (by kernel_rfl) ?_
    go_wp2
    refine ⟨by kernel_rfl, ?_⟩
    go_wp2
    refine wp_region_lex mixed (by kernel_rfl) ?_
    go_wp2
    refine ⟨by kernel_rfl, ?_⟩
    go_wp2_with (at_builtin; refine wpList_append_own_at _ rfl (.tmp 80) (.tmp 83) 64 rfl w0.heap.size 114 i14 _ 6 48 Tryd.underlying64 hi14 hi14a hi14b hi14c rfl (by decide) vi s.items.length (rowR s.items vs) rfl ?_ ⟨_, 0, none⟩ 1 1 [_, _, _, _, _, _] rfl rfl (cells_sixR _ _ _ _ _ _ _ _ _ (by simp)) ?_ ?_ ?_ ?_ ?_)
    · exact ownsRow_ext (below_ext (((Below.refl _ _).alloc (Nat.le_refl _) _).drew).drew (Nat.le_refl _)) HQ.out.oi
    · intro u hu
      simp only [List.mem_cons, List.not_mem_nil, or_false] at hu
      rcases hu with rfl | rfl | rfl | rfl | rfl | rfl <;> rfl
    · unfold maxLen; omega
    · omega
    · first | (have := HQ.out.below.size; simp at this ⊢; omega) | (have := HQ.out.below.size; simp; omega)
    · intro v1 w1 hown hgrow _ hat
      obtain ⟨g1, cap1, rfl⟩ := slice_shape hown (by omega)
      have hr1 := hr_push (((Below.refl _ _).alloc (Nat.le_refl _) _).drew).drew hgrow HQ.out.hr HQ.out.five.oa
      have c10 : w1.cell? ⟨ob, 0, none⟩ = some vi := by rw [cell_of_heap hr1]; rfl
      have f10 : w1.frozen? ⟨ob, 0, none⟩ = false := by simp [World.frozen?, hr1]
      have H1 := Lib.hid (HQ.out.pushItem (((Below.refl _ _).alloc (Nat.le_refl _) _).drew).drew (itemR_plain _ _ _ 2 x 0 0 rfl) hown hgrow (by simpa using hat))
      clear hown hgrow hat hr1
      go_wp2
      go_ret2
      rw [E.out]
      exact sp_ok rfl rfl ⟨_, _, _, _, _, _, H1.out, HV.out⟩
set_option maxRecDepth 100000 in
set_option maxHeartbeats 4000000 in
theorem special_other {w0 w : World} {ob : Nat} {anc fin : Bool} {s : St} {ps : List Bool} {vi vo vc vp : Value} {vs : List Value} (h : PSt w0 ob w anc fin s ps vi vo vc vp vs) (hv : RInv s ps) (_hw : Wf s) (p : ByteArray) (k : Nat) (hk : k < p.size) (_hp : p.size ≤ 5000) (_hi : s.items.length ≤ k) (h1 : ¬ p[k].toNat = 40) (h2 : ¬ p[k].toNat = 41) (hc : ¬ p[k].toNat = 37) :
    Calls Tryd.prog 50 #[.pointer (some ⟨ob, 0, none⟩), .string p, .int .i64 k] w (SpPost w0 ob anc fin s (specialM p[k].toNat ((bytesOf p).drop (k + 1)) s)) := by
  have hR : specialM p[k].toNat ((bytesOf p).drop (k + 1)) s = none := by unfold specialM; rw [if_neg (by omega), if_neg hc]
  rw [hR]
  have t40 : ((p[k].toNat : Int) == 40) = false := by rw [beq_eq_false_iff_ne]; omega
  have t41 : ((p[k].toNat : Int) == 41) = false := by rw [beq_eq_false_iff_ne]; omega
  have t37 : ((p[k].toNat : Int) != 37) = true := by rw [bne_iff_ne]; omega
  have HH := Lib.hid (show PPost w0 ob anc fin s w from ⟨_, _, _, _, _, _, h, hv⟩)
  clear hR h hv _hw h1 h2 hc
  go_enter Tryd.func50, Tryd.ntmps50
  go_wp2
  go_ret2
  exact sp_none rfl HH.out
set_option maxRecDepth 100000 in
set_option maxHeartbeats 4000000 in
theorem special_last {w0 w : World} {ob : Nat} {anc fin : Bool} {s : St} {ps : List Bool} {vi vo vc vp : Value} {vs : List Value} (h : PSt w0 ob w anc fin s ps vi vo vc vp vs) (hv : RInv s ps) (_hw : Wf s) (p : ByteArray) (k : Nat) (hk : k < p.size) (hp : p.size ≤ 5000) (_hi : s.items.length ≤ k) (hc : p[k].toNat = 37) (hn : ¬ k + 1 < p.size) :
    Calls Tryd.prog 50 #[.pointer (some ⟨ob, 0, none⟩), .string p, .int .i64 k] w (SpPost w0 ob anc fin s (specialM p[k].toNat ((bytesOf p).drop (k + 1)) s)) := by
  have hR : specialM p[k].toNat ((bytesOf p).drop (k + 1)) s = none := by rw [bytesOf_end p (k + 1) (by omega)]; unfold specialM; rw [if_neg (by omega), if_pos hc]
  rw [hR]
  have t40 : ((p[k].toNat : Int) == 40) = false := by rw [beq_eq_false_iff_ne]; omega
  have t41 : ((p[k].toNat : Int) == 41) = false := by rw [beq_eq_false_iff_ne]; omega
  have t37 : ((p[k].toNat : Int) != 37) = false := by rw [hc]; rfl
  have HH := Lib.hid (show PPost w0 ob anc fin s w from ⟨_, _, _, _, _, _, h, hv⟩)
  clear hR h hv _hw hc
  go_enter Tryd.func50, Tryd.ntmps50
  go_wp2
  go_ret2
  exact sp_none rfl HH.out
set_option maxRecDepth 100000 in
set_option maxHeartbeats 4000000 in
theorem special_none {w0 w : World} {ob : Nat} {anc fin : Bool} {s : St} {ps : List Bool} {vi vo vc vp : Value} {vs : List Value} (h : PSt w0 ob w anc fin s ps vi vo vc vp vs) (hv : RInv s ps) (_hw : Wf s) (p : ByteArray) (k : Nat) (hk : k < p.size) (hp : p.size ≤ 5000) (_hi : s.items.length ≤ k) (hc : p[k].toNat = 37) (hn : k + 1 < p.size) (h1 : ¬ p[k + 1].toNat = 98) (h2 : ¬ p[k + 1].toNat = 102) (h3 : ¬ (49 ≤ p[k + 1].toNat ∧ p[k + 1].toNat ≤ 57)) :
    Calls Tryd.prog 50 #[.pointer (some ⟨ob, 0, none⟩), .string p, .int .i64 k] w (SpPost w0 ob anc fin s (specialM p[k].toNat ((bytesOf p).drop (k + 1)) s)) := by
  have hR : specialM p[k].toNat ((bytesOf p).drop (k + 1)) s = none := by rw [bytesOf_drop p (k + 1) hn]; unfold specialM; rw [if_neg (by omega), if_pos hc]; simp only []; rw [if_neg (by omega)]
  rw [hR]
  have t40 : ((p[k].toNat : Int) == 40) = false := by rw [beq_eq_false_iff_ne]; omega
  have t41 : ((p[k].toNat : Int) == 41) = false := by rw [beq_eq_false_iff_ne]; omega
  have t37 : ((p[k].toNat : Int) != 37) = false := by rw [hc]; rfl
  have t98 : ((p[k + 1].toNat : Int) == 98) = false := by rw [beq_eq_false_iff_ne]; omega
  have t102 : ((p[k + 1].toNat : Int) == 102) = false := by rw [beq_eq_false_iff_ne]; omega
  have HH := Lib.hid (show PPost w0 ob anc fin s w from ⟨_, _, _, _, _, _, h, hv⟩)
  have hb := UInt8.toNat_lt p[k + 1]
  have h4 : p[k + 1].toNat < 49 ∨ (49 ≤ p[k + 1].toNat ∧ 57 < p[k + 1].toNat) := by omega
  clear hR h hv _hw hc h1 h2 h3
  rcases h4 with h4 | ⟨h4, h5⟩
  all_goals
    go_enter Tryd.func50, Tryd.ntmps50
    go_wp2
    go_ret2
    exact sp_none rfl HH.out
set_option maxRecDepth 100000 in
set_option maxHeartbeats 4000000 in
theorem special_bal {w0 w : World} {ob : Nat} {anc fin : Bool} {s : St} {ps : List Bool} {vi vo vc vp : Value} {vs : List Value} (h : PSt w0 ob w anc fin s ps vi vo vc vp vs) (hv : RInv s ps) (_hw : Wf s) (p : ByteArray) (k : Nat) (hk : k < p.size) (hp : p.size ≤ 5000) (hi : s.items.length ≤ k) (hc : p[k].toNat = 37) (hn : k + 1 < p.size) (hd : p[k + 1].toNat = 98) :
    Calls Tryd.prog 50 #[.pointer (some ⟨ob, 0, none⟩), .string p, .int .i64 k] w (SpPost w0 ob anc fin s (specialM p[k].toNat ((bytesOf p).drop (k + 1)) s)) := by
  have hR : specialM p[k].toNat ((bytesOf p).drop (k + 1)) s = percentM ((bytesOf p).drop (k + 1)) s := by rw [bytesOf_drop p (k + 1) hn]; unfold specialM; rw [if_neg (by omega), if_pos hc]; simp only []; rw [if_pos (.inl hd)]
  rw [hR]
  have t40 : ((p[k].toNat : Int) == 40) = false := by rw [beq_eq_false_iff_ne]; omega
  have t41 : ((p[k].toNat : Int) == 41) = false := by rw [beq_eq_false_iff_ne]; omega
  have t37 : ((p[k].toNat : Int) != 37) = false := by rw [hc]; rfl
  have t98 : ((p[k + 1].toNat : Int) == 98) = true := by rw [hd]; rfl
  obtain ⟨i14, hi14, hi14a, hi14b, hi14c⟩ := info_parts Tryd.info114
  have h0 : w.cell? ⟨ob, 0, none⟩ = some vi := by rw [cell_of_heap h.hr]; rfl
  have hlt := h.lt
  by_cases h3 : k + 3 < p.size
  · have E := Lib.hid (show percentM ((bytesOf p).drop (k + 1)) s = some (.ok ({ s with items := s.items ++ [⟨4, 0, p[k + 2].toNat, p[k + 3].toNat, noSet, 0⟩] }, 4)) by rw [bytesOf_drop p (k + 1) hn, bytesOf_drop p (k + 1 + 1) (by omega), bytesOf_drop p (k + 1 + 1 + 1) h3]; simp only [percentM, hd, if_true])
    have H := Lib.hid h
    have HV := Lib.hid hv
    clear hR h hv _hw hc hd
    go_enter Tryd.func50, Tryd.ntmps50
    go_wp2
    refine wp_region_lex mixed (by kernel_rfl) ?_
    go_wp2_with (at_builtin; refine wpList_append_own_at _ rfl (.tmp 114) (.tmp 124) 64 rfl w0.heap.size 114 i14 _ 6 48 Tryd.underlying64 hi14 hi14a hi14b hi14c rfl (by decide) vi s.items.length (rowR s.items vs) rfl ?_ ⟨_, 0, none⟩ 1 1 [_, _, _, _, _, _] rfl rfl (cells_sixR _ _ _ _ _ _ _ _ _ (by simp)) ?_ ?_ ?_ ?_ ?_)
    · exact ownsRow_ext (below_ext ((Below.refl _ _).alloc (Nat.le_refl _) _).drew (Nat.le_refl _)) H.out.oi
    · intro u hu
      simp only [List.mem_cons, List.not_mem_nil, or_false] at hu
      rcases hu with rfl | rfl | rfl | rfl | rfl | rfl <;> rfl
    · unfold maxLen; omega
    · omega
    · first | (have := H.out.below.size; simp at this ⊢; omega) | (have := H.out.below.size; simp; omega)
    · intro v1 w1 hown hgrow _ hat
      obtain ⟨g1, cap1, rfl⟩ := slice_shape hown (by omega)
      have hr1 := hr_push ((Below.refl _ _).alloc (Nat.le_refl _) _).drew hgrow H.out.hr H.out.five.oa
      have c10 : w1.cell? ⟨ob, 0, none⟩ = some vi := by rw [cell_of_heap hr1]; rfl
      have f10 : w1.frozen? ⟨ob, 0, none⟩ = false := by simp [World.frozen?, hr1]
      have H1 := Lib.hid (H.out.pushItem ((Below.refl _ _).alloc (Nat.le_refl _) _).drew (itemR_plain _ _ _ 4 0 _ _ rfl) hown hgrow (by simpa using hat))
      clear hown hgrow hat hr1
      go_wp2
      refine ⟨by kernel_rfl, ?_⟩
      go_wp2
      go_ret2
      rw [E.out]
      exact sp_ok rfl rfl ⟨_, _, _, _, _, _, H1.out, pinv_items HV.out _⟩
  · have E := Lib.hid (show percentM ((bytesOf p).drop (k + 1)) s = some (.error 4) by
      rw [bytesOf_drop p (k + 1) hn]
      simp only [percentM, hd, if_true]
      by_cases h2 : k + 2 < p.size
      · rw [bytesOf_drop p (k + 1 + 1) h2, bytesOf_end p (k + 1 + 1 + 1) (by omega)]
      · rw [bytesOf_end p (k + 1 + 1) (by omega)])
    have HB := Lib.hid h.below
    clear hR h hv _hw hc hd
    go_enter Tryd.func50, Tryd.ntmps50
    go_wp2
    go_ret2
    rw [E.out]
    exact sp_err rfl rfl HB.out
set_option maxRecDepth 100000 in
set_option maxHeartbeats 4000000 in
theorem special_front {w0 w : World} {ob : Nat} {anc fin : Bool} {s : St} {ps : List Bool} {vi vo vc vp : Value} {vs : List Value} (h : PSt w0 ob w anc fin s ps vi vo vc vp vs) (hv : RInv s ps) (_hw : Wf s) (p : ByteArray) (k : Nat) (hk : k < p.size) (hp : p.size ≤ 5000) (hi : s.items.length ≤ k) (hc : p[k].toNat = 37) (hn : k + 1 < p.size) (hd : p[k + 1].toNat = 102) :
    Calls Tryd.prog 50 #[.pointer (some ⟨ob, 0, none⟩), .string p, .int .i64 k] w (SpPost w0 ob anc fin s (specialM p[k].toNat ((bytesOf p).drop (k + 1)) s)) := by
  have hR : specialM p[k].toNat ((bytesOf p).drop (k + 1)) s = percentM ((bytesOf p).drop (k + 1)) s := by rw [bytesOf_drop p (k + 1) hn]; unfold specialM; rw [if_neg (by omega), if_pos hc]; simp only []; rw [if_pos (.inr (.inl hd))]
  rw [hR]
  have t40 : ((p[k].toNat : Int) == 40) = false := by rw [beq_eq_false_iff_ne]; omega
  have t41 : ((p[k].toNat : Int) == 41) = false := by rw [beq_eq_false_iff_ne]; omega
  have t37 : ((p[k].toNat : Int) != 37) = false := by rw [hc]; rfl
  have t98 : ((p[k + 1].toNat : Int) == 98) = false := by rw [hd]; rfl
  have t102 : ((p[k + 1].toNat : Int) == 102) = true := by rw [hd]; rfl
  obtain ⟨i14, hi14, hi14a, hi14b, hi14c⟩ := info_parts Tryd.info114
  have h0 : w.cell? ⟨ob, 0, none⟩ = some vi := by rw [cell_of_heap h.hr]; rfl
  have hlt := h.lt
  by_cases h3 : ∃ h2 : k + 2 < p.size, p[k + 2].toNat = 91
  · obtain ⟨h2, h91⟩ := h3
    have t91 : ((p[k + 2].toNat : Int) != 91) = false := by rw [h91]; rfl
    have hpm : percentM ((bytesOf p).drop (k + 1)) s = match setM ((bytesOf p).drop (k + 3)) with | none => some (.error 4) | some q => some (.ok ({ s with items := s.items ++ [⟨5, 0, 0, 0, q.1, 0⟩] }, ((bytesOf p).drop (k + 1)).length + 1 - q.2.length)) := by
      conv => lhs; rw [bytesOf_drop p (k + 1) hn, bytesOf_drop p (k + 1 + 1) h2]
      conv => rhs; rw [bytesOf_drop p (k + 1) hn, bytesOf_drop p (k + 1 + 1) h2]
      simp only [percentM, hd, h91, if_true]
      rw [if_neg (by decide)]
      rfl
    obtain ⟨R, hRR⟩ : ∃ R, R = percentM ((bytesOf p).drop (k + 1)) s := ⟨_, rfl⟩
    rw [← hRR]
    have HR := Lib.hid (hRR.trans hpm)
    have H := Lib.hid h
    have HV := Lib.hid hv
    have RS := Lib.hid (readSet_c p ((k : Int) + 2) (k + 2) (by omega) h2 hp w)
    clear hR h hv _hw hc hd h91 hpm hRR
    go_enter Tryd.func50, Tryd.ntmps50
    go_wp2_with fail
    refine RS.out.mono ?_
    rintro e w2 ⟨hb, hq⟩
    have hl := @setM_len p k
    cases hs : setM ((bytesOf p).drop (k + 3)) with
    | none =>
      have hs' : setM ((bytesOf p).drop (k + 2 + 1)) = none := hs
      rw [hs'] at hq
      obtain rfl := hq
      have HB := Lib.hid (H.out.below.trans (hb.mono H.out.below.size))
      have HE := Lib.hid (show R = some (.error 4) by rw [HR.out, hs])
      clear hb hs hs' hl
      go_wp2
      go_ret2
      exact sp_err HE.out rfl HB.out
    | some q =>
      obtain ⟨S, rest⟩ := q
      have hs' : setM ((bytesOf p).drop (k + 2 + 1)) = some (S, rest) := hs
      rw [hs'] at hq
      obtain ⟨rfl, hset⟩ := hq
      have hlen := hl hs h2
      simp only at hlen
      have H2 := Lib.hid (H.out.grow hb)
      have HM := Lib.hid (show ((p.size - rest.length : Nat) : Int) - (k : Int) = ((((bytesOf p).drop (k + 1)).length + 1 - rest.length : Nat) : Int) by rw [List.length_drop, bytesOf_length]; omega)
      have HIT := Lib.hid (show ItemR w2 w0.heap.size (MutR ob vi vo vc vp) ⟨5, 0, 0, 0, S, 0⟩ (.slice (some ⟨w.heap.size, 0, none⟩) 256 256) from by
        unfold ItemR
        rw [if_pos (show Item.sets _ = true from rfl)]
        refine ⟨_, rfl, H.out.below.size, fun hm => ?_, hset⟩
        rcases hm with e | e | e | e | e
        · have := H.out.lt; omega
        · have := (ownBlock_lt H.out.oi e).2; omega
        · have := (ownBlock_lt H.out.oo e).2; omega
        · have := (ownBlock_lt H.out.oc e).2; omega
        · have := (ownBlock_lt H.out.op e).2; omega)
      have hc2 : w2.cell? ⟨ob, 0, none⟩ = some vi := by rw [cell_of_heap H2.out.hr]; rfl
      have hlt2 := H2.out.lt
      obtain ⟨N, hN⟩ : ∃ N : Nat, N = p.size - rest.length := ⟨_, rfl⟩
      have hN1 : N ≤ p.size := by omega
      have hN2 : k + 3 ≤ N := by omega
      rw [← hN] at HM ⊢
      have HE := Lib.hid (show R = some (.ok ({ s with items := s.items ++ [⟨5, 0, 0, 0, S, 0⟩] }, ((bytesOf p).drop (k + 1)).length + 1 - rest.length)) by rw [HR.out, hs])
      clear hb hset hs hs' hl hlen hN
      go_wp2_with (at_builtin; refine wpList_append_own_at _ rfl (.tmp 157) (.tmp 160) 64 rfl w0.heap.size 114 i14 _ 6 48 Tryd.underlying64 hi14 hi14a hi14b hi14c rfl (by decide) vi s.items.length (rowR s.items vs) rfl ?_ ⟨_, 0, none⟩ 1 1 [_, _, _, _, _, _] rfl rfl (cells_sixR _ _ _ _ _ _ _ _ _ (by simp)) ?_ ?_ ?_ ?_ ?_)
      · exact ownsRow_ext (below_ext ((Below.refl _ _).alloc (Nat.le_refl _) _) (Nat.le_refl _)) H2.out.oi
      · intro u hu
        simp only [List.mem_cons, List.not_mem_nil, or_false] at hu
        rcases hu with rfl | rfl | rfl | rfl | rfl | rfl <;> rfl
      · unfold maxLen; omega
      · omega
      · first | (have := H2.out.below.size; simp at this ⊢; omega) | (have := H2.out.below.size; simp; omega)
      · intro v1 w1 hown hgrow _ hat
        obtain ⟨g1, cap1, rfl⟩ := slice_shape hown (by omega)
        have hr1 := hr_push ((Below.refl _ _).alloc (Nat.le_refl _) _) hgrow H2.out.hr H2.out.five.oa
        have c10 : w1.cell? ⟨ob, 0, none⟩ = some vi := by rw [cell_of_heap hr1]; rfl
        have f10 : w1.frozen? ⟨ob, 0, none⟩ = false := by simp [World.frozen?, hr1]
        have H1 := Lib.hid (H2.out.pushItem ((Below.refl _ _).alloc (Nat.le_refl _) _) HIT.out hown hgrow (by simpa using hat))
        clear hown hgrow hat hr1
        go_wp2
        go_ret2
        exact sp_ok HE.out HM.out ⟨_, _, _, _, _, _, H1.out, pinv_items HV.out _⟩
  · have E := Lib.hid (show percentM ((bytesOf p).drop (k + 1)) s = some (.error 4) by
      rw [bytesOf_drop p (k + 1) hn]
      by_cases h2 : k + 2 < p.size
      · rw [bytesOf_drop p (k + 1 + 1) h2]
        simp only [percentM, hd, if_true]
        rw [if_neg (by decide), if_neg (fun e => h3 ⟨h2, e⟩)]
      · rw [bytesOf_end p (k + 1 + 1) (by omega)]
        simp only [percentM, hd, if_true]
        rw [if_neg (by decide)])
    have hways : p.size ≤ k + 2 ∨ (∃ h2 : k + 2 < p.size, ((p[k + 2].toNat : Int) != 91) = true) := by
      by_cases h2 : k + 2 < p.size
      · exact .inr ⟨h2, by rw [bne_iff_ne]; intro e; exact h3 ⟨h2, by omega⟩⟩
      · exact .inl (by omega)
    have HB := Lib.hid h.below
    clear hR h hv _hw hc hd h3
    rcases hways with h2 | ⟨h2, t91⟩
    all_goals
      go_enter Tryd.func50, Tryd.ntmps50
      go_wp2
      go_ret2
      rw [E.out]
      exact sp_err rfl rfl HB.out
set_option maxRecDepth 100000 in
set_option maxHeartbeats 4000000 in
theorem special_back {w0 w : World} {ob : Nat} {anc fin : Bool} {s : St} {ps : List Bool} {vi vo vc vp : Value} {vs : List Value} (h : PSt w0 ob w anc fin s ps vi vo vc vp vs) (hv : RInv s ps) (hw : Wf s) (p : ByteArray) (k : Nat) (hk : k < p.size) (hp : p.size ≤ 5000) (hi : s.items.length ≤ k) (hc : p[k].toNat = 37) (hn : k + 1 < p.size) (hd1 : 49 ≤ p[k + 1].toNat) (hd2 : p[k + 1].toNat ≤ 57) :
    Calls Tryd.prog 50 #[.pointer (some ⟨ob, 0, none⟩), .string p, .int .i64 k] w (SpPost w0 ob anc fin s (specialM p[k].toNat ((bytesOf p).drop (k + 1)) s)) := by
  have hR : specialM p[k].toNat ((bytesOf p).drop (k + 1)) s = percentM ((bytesOf p).drop (k + 1)) s := by rw [bytesOf_drop p (k + 1) hn]; unfold specialM; rw [if_neg (by omega), if_pos hc]; simp only []; rw [if_pos (.inr (.inr ⟨hd1, hd2⟩))]
  rw [hR]
  have t40 : ((p[k].toNat : Int) == 40) = false := by rw [beq_eq_false_iff_ne]; omega
  have t41 : ((p[k].toNat : Int) == 41) = false := by rw [beq_eq_false_iff_ne]; omega
  have t37 : ((p[k].toNat : Int) != 37) = false := by rw [hc]; rfl
  have t98 : ((p[k + 1].toNat : Int) == 98) = false := by rw [beq_eq_false_iff_ne]; omega
  have t102 : ((p[k + 1].toNat : Int) == 102) = false := by rw [beq_eq_false_iff_ne]; omega
  obtain ⟨i14, hi14, hi14a, hi14b, hi14c⟩ := info_parts Tryd.info114
  have h0 : w.cell? ⟨ob, 0, none⟩ = some vi := by rw [cell_of_heap h.hr]; rfl
  have h3 : w.cell? ⟨ob, 3, none⟩ = some (.int .i64 s.caps) := by rw [cell_of_heap h.hr]; rfl
  have h5 : w.cell? ⟨ob, 5, none⟩ = some vc := by rw [cell_of_heap h.hr]; rfl
  have h6 : w.cell? ⟨ob, 6, none⟩ = some vp := by rw [cell_of_heap h.hr]; rfl
  have hlt := h.lt
  have c16 := hw.c16
  have hpm : percentM ((bytesOf p).drop (k + 1)) s = if s.ended.getD (p[k + 1].toNat - 49) false = false then some (.error 4) else some (.ok ({ s with items := s.items ++ [mkItem 6 (p[k + 1].toNat - 49)] }, 2)) := by
    rw [bytesOf_drop p (k + 1) hn]
    simp only [percentM]
    rw [if_neg (by omega), if_neg (by omega), if_pos (by simp [isDigit]; omega)]
    by_cases e : s.ended.getD (p[k + 1].toNat - 49) false = false
    · rw [if_pos (.inr e), if_pos e]
    · rw [if_neg (by rintro (h | h); omega; exact e h), if_neg e]
  rw [hpm]
  obtain ⟨d, hd⟩ : ∃ d, p[k + 1].toNat = d + 49 := ⟨p[k + 1].toNat - 49, by omega⟩
  rw [show p[k + 1].toNat - 49 = d by omega]
  have hel := hw.el
  have hpl := hv.len
  by_cases hin : d < s.caps
  · obtain ⟨ge, ce, rfl⟩ := slice_shape h.oc (by omega)
    obtain ⟨gp, cp, rfl⟩ := slice_shape h.op (by omega)
    have k1 : w.cell? ⟨ge, d, none⟩ = some (.bool (s.ended.getD d false)) := by rw [h.oc.cellAt d (by omega)]; simp [List.getD_eq_getElem?_getD, show d < s.ended.length by omega]
    have k2 : w.cell? ⟨gp, d, none⟩ = some (.bool (ps.getD d false)) := by rw [h.op.cellAt d (by omega)]; simp [List.getD_eq_getElem?_getD, show d < ps.length by omega]
    have hel2 : s.caps ≤ s.ended.length := by omega
    have hel3 : s.ended.length ≤ 16 := by omega
    have hpl2 : s.caps ≤ ps.length := by omega
    have hpl3 : ps.length ≤ 16 := by omega
    have hb := UInt8.toNat_lt p[k + 1]
    have hdd : ((p[k + 1].toNat : Int) - 49) = (d : Int) := by omega
    have HDD := Lib.hid hdd
    have hdl : d ≤ 8 := by omega
    obtain ⟨x, hx⟩ : ∃ x : Nat, x = p[k + 1].toNat := ⟨_, rfl⟩
    cases he : s.ended.getD d false with
    | false =>
      rw [he] at k1
      rw [if_pos rfl]
      have HB := Lib.hid h.below
      clear hR h hv hw hc hpm he hel hpl hdd hx
      have hle : ¬ (s.caps : Int) ≤ (p[k + 1].toNat : Int) - 49 := by omega
      have k1' : w.cell? ⟨ge, p[k + 1].toNat - 49, none⟩ = some (.bool false) := by rw [hd]; exact k1
      clear hd k1
      go_enter Tryd.func50, Tryd.ntmps50
      go_wp2
      go_ret2
      exact sp_err rfl rfl HB.out
    | true =>
      rw [he] at k1
      rw [if_neg (by decide)]
      have hps : ps.getD d false = false := by
        cases hq : ps.getD d false with
        | false => rfl
        | true => rw [(hv.pos d hq).1] at he; cases he
      rw [hps] at k2
      have H := Lib.hid h
      have HV := Lib.hid hv
      clear hR h hv hw hc hpm he hel hpl hdd hx hps
      have hle : ¬ (s.caps : Int) ≤ (p[k + 1].toNat : Int) - 49 := by omega
      have k1' : w.cell? ⟨ge, p[k + 1].toNat - 49, none⟩ = some (.bool true) := by rw [hd]; exact k1
      have k2' : w.cell? ⟨gp, p[k + 1].toNat - 49, none⟩ = some (.bool false) := by rw [hd]; exact k2
      have HD := Lib.hid hd
      clear hd k1 k2
      go_enter Tryd.func50, Tryd.ntmps50
      go_wp2_with (at_builtin; refine wpList_append_own_at _ rfl (.tmp 206) (.tmp 209) 64 rfl w0.heap.size 114 i14 _ 6 48 Tryd.underlying64 hi14 hi14a hi14b hi14c rfl (by decide) vi s.items.length (rowR s.items vs) rfl ?_ ⟨_, 0, none⟩ 1 1 [_, _, _, _, _, _] rfl rfl (cells_sixR _ _ _ _ _ _ _ _ _ (by simp)) ?_ ?_ ?_ ?_ ?_)
      · exact ownsRow_ext (below_ext ((Below.refl _ _).alloc (Nat.le_refl _) _) (Nat.le_refl _)) H.out.oi
      · intro u hu
        simp only [List.mem_cons, List.not_mem_nil, or_false] at hu
        rcases hu with rfl | rfl | rfl | rfl | rfl | rfl <;> rfl
      · unfold maxLen; omega
      · omega
      · first | (have := H.out.below.size; simp at this ⊢; omega) | (have := H.out.below.size; simp; omega)
      · intro v1 w1 hown hgrow _ hat
        obtain ⟨g1, cap1, rfl⟩ := slice_shape hown (by omega)
        have hr1 := hr_push ((Below.refl _ _).alloc (Nat.le_refl _) _) hgrow H.out.hr H.out.five.oa
        have c10 : w1.cell? ⟨ob, 0, none⟩ = some vi := by rw [cell_of_heap hr1]; rfl
        have f10 : w1.frozen? ⟨ob, 0, none⟩ = false := by simp [World.frozen?, hr1]
        rw [HDD.out] at hown
        have H1 := Lib.hid (H.out.pushItem ((Below.refl _ _).alloc (Nat.le_refl _) _) (itemR_plain _ _ _ 6 d 0 0 rfl) hown hgrow (by simpa using hat))
        clear hown hgrow hat hr1
        go_wp2
        go_ret2
        exact sp_ok rfl rfl ⟨_, _, _, _, _, _, H1.out, pinv_items HV.out _⟩
  · have he : s.ended.getD d false = false := by rw [List.getD_eq_getElem?_getD, List.getElem?_eq_none (by omega)]; rfl
    rw [if_pos he]
    have HB := Lib.hid h.below
    have hle : (s.caps : Int) ≤ (p[k + 1].toNat : Int) - 49 := by omega
    have hb := UInt8.toNat_lt p[k + 1]
    clear hR h hv hw hc hpm he hel hpl hd
    go_enter Tryd.func50, Tryd.ntmps50
    go_wp2
    go_ret2
    exact sp_err rfl rfl HB.out
theorem special_c {w0 w : World} {ob : Nat} {anc fin : Bool} {s : St} {ps : List Bool} {vi vo vc vp : Value} {vs : List Value} (h : PSt w0 ob w anc fin s ps vi vo vc vp vs) (hv : RInv s ps) (hw : Wf s) (p : ByteArray) (k : Nat) (hk : k < p.size) (hp : p.size ≤ 5000) (hi : s.items.length ≤ k) : Calls Tryd.prog 50 #[.pointer (some ⟨ob, 0, none⟩), .string p, .int .i64 k] w (SpPost w0 ob anc fin s (specialM p[k].toNat ((bytesOf p).drop (k + 1)) s)) := by
  by_cases h1 : p[k].toNat = 40
  · exact special_open h hv hw p k hk hp hi h1
  · by_cases h2 : p[k].toNat = 41
    · exact special_shut h hv hw p k hk hp hi h2
    · by_cases h3 : p[k].toNat = 37
      · by_cases h4 : k + 1 < p.size
        · by_cases h5 : p[k + 1].toNat = 98
          · exact special_bal h hv hw p k hk hp hi h3 h4 h5
          · by_cases h6 : p[k + 1].toNat = 102
            · exact special_front h hv hw p k hk hp hi h3 h4 h6
            · by_cases h7 : 49 ≤ p[k + 1].toNat ∧ p[k + 1].toNat ≤ 57
              · exact special_back h hv hw p k hk hp hi h3 h4 h7.1 h7.2
              · exact special_none h hv hw p k hk hp hi h3 h4 h5 h6 h7
        · exact special_last h hv hw p k hk hp hi h3 h4
      · exact special_other h hv hw p k hk hp hi h1 h2 h3
end Go.Proofs.YtpbhncmaamedhaaDoor
