import Derived.Test.YtalfoihffnlelaaGreatDoorLexB
import Derived.Laws.AppendOwnNone
import Derived.Deep.DeepCutAuto
set_option linter.unusedVariables false
set_option linter.unusedSimpArgs false
set_option maxRecDepth 100000
set_option maxHeartbeats 2000000
namespace Go.Proofs.YtalfoihffnlelaaGreatDoor
open Go.RowKit Go.Proofs.Lexi
def slCells (s : Sl) : List Value := [.int .i64 s.k.k, .int .i64 s.k.p, .int .i64 s.k.q, .string s.k.s, .int .i64 s.k.r, .int .i64 s.v.k, .int .i64 s.v.p, .int .i64 s.v.q, .string s.v.s, .int .i64 s.v.r, .bool s.g]
def rowSl (L : List Sl) : List Value := L.flatMap slCells
/-- The entries of a map are the graph of an index. -/
def Graph (E : List (Value × Value)) (f : V → Option Nat) : Prop := ∀ p, p ∈ E ↔ ∃ v n, p = (v.v, .int .i64 (n : Nat)) ∧ f v = some n
structure OMap (w : World) (m g : Nat) (sv : Value) (L : List Sl) : Prop where
  hm : w.heap[m]? = some (.cells #[sv, .map (some g), .int .i64 (liveN L : Nat)] 180)
  row : w.ownsRow 0 182 11 sv L.length (rowSl L)
  wf : ∀ s ∈ L, WfV s.k ∧ WfV s.v
  map : ∃ E f, MapAt Tryz.prog 30 w g E ∧ Graph E f ∧ Idx L f
theorem OMap.keep {w w' : World} {m g : Nat} {sv : Value} {L : List Sl} (h : OMap w m g sv L) (h1 : w'.heap[m]? = w.heap[m]?) (h2 : w'.heap[g]? = w.heap[g]?) (h3 : ∀ b, sv.ownBlock = some b → w'.heap[b]? = w.heap[b]?) : OMap w' m g sv L := by
  obtain ⟨a, b, wf, E, f, c, d, e⟩ := h
  exact ⟨h1.trans a, ownsRow_keep b h3, wf, E, f, c.keep h2, d, e⟩
theorem mods_setCell {F : Nat → Prop} {a w : World} (h : Mods F a w) {b o : Nat} (hb : F b ∨ a.heap.size ≤ b) (u : Value) : Mods F a (w.setCell ⟨b, o, none⟩ u) :=
  ⟨h.os, h.tape, h.output, by simpa using h.size, fun k hk hF => by
    rw [Below.heap_setCell _ _ _ _ (show k ≠ b from fun e => by subst e; rcases hb with hb | hb; exact hF hb; omega)]
    exact h.block k hk hF⟩
/-- What a call changes, by the blocks' types. -/
def TMods (S : Obj → Prop) (w w' : World) : Prop := Mods (fun b => ∃ o, w.heap[b]? = some o ∧ S o) w w'
theorem TMods.of_below {S : Obj → Prop} {w w' : World} (h : Below w.heap.size w w') : TMods S w w' := Mods.of_below h
theorem TMods.trans {S : Obj → Prop} {a b c : World} (h : TMods S a b) (k : TMods S b c) : TMods S a c := by
  refine ⟨k.os.trans h.os, k.tape.trans h.tape, k.output.trans h.output, Nat.le_trans h.size k.size, fun i hi hF => ?_⟩
  have h1 := h.block i hi hF
  exact (k.block i (Nat.lt_of_lt_of_le hi h.size) (fun ⟨o, h2, h3⟩ => hF ⟨o, h1 ▸ h2, h3⟩)).trans h1
theorem TMods.drew {S : Obj → Prop} {a b : World} (h : TMods S a b) : TMods S a b.drew := h.trans (TMods.of_below (Below.refl _ _).drew)
theorem TMods.drewN {S : Obj → Prop} {a b : World} (h : TMods S a b) (n : Nat) : TMods S a (b.drewN n) := h.trans (TMods.of_below (bdn (Below.refl _ _) n))
theorem TMods.alloc {S : Obj → Prop} {a b : World} (h : TMods S a b) (o : Obj) : TMods S a (b.alloc o) := h.trans (TMods.of_below ((Below.refl _ _).alloc (Nat.le_refl _) o))
/-- A block that has another type stays. -/
theorem TMods.keep {S : Obj → Prop} {w w' : World} (h : TMods S w w') {b : Nat} {o : Obj} (hb : w.heap[b]? = some o) (hS : ¬ S o) : w'.heap[b]? = some o :=
  (h.block b (Array.getElem?_eq_some_iff.1 hb).1 (fun ⟨o2, h1, h2⟩ => hS (by rw [hb] at h1; injection h1 with h1; rw [h1]; exact h2))).trans hb
theorem TMods.setCell {S : Obj → Prop} {a b : World} (h : TMods S a b) {k o : Nat} (hk : a.heap.size ≤ k ∨ ∃ x, a.heap[k]? = some x ∧ S x) (u : Value) : TMods S a (b.setCell ⟨k, o, none⟩ u) := mods_setCell h hk.symm u
theorem row_block {w : World} {base e size n : Nat} {sv : Value} {xs : List Value} (h : w.ownsRow base e size sv n xs) {b : Nat} (hb : sv.ownBlock = some b) : ∃ cs, w.heap[b]? = some (.cells cs e (0, 0)) := by
  rcases h.2 with ⟨h2, _⟩ | ⟨g', cap', cur, h2, h3, h4, _⟩
  · rw [h2] at hb; cases hb
  · rw [h2] at hb
    injection hb with hb
    subst hb
    exact ⟨_, h4⟩
structure TabAt (w : World) (t m g : Nat) (sv : Value) (L : List Sl) : Prop where
  ht : w.heap[t]? = some (.cells #[.slice none 0 0, .pointer (some ⟨m, 0, none⟩)] 148)
  om : OMap w m g sv L
theorem TabAt.keep {w w' : World} {t m g : Nat} {sv : Value} {L : List Sl} (h : TabAt w t m g sv L) (h0 : w'.heap[t]? = w.heap[t]?) (h1 : w'.heap[m]? = w.heap[m]?) (h2 : w'.heap[g]? = w.heap[g]?) (h3 : ∀ b, sv.ownBlock = some b → w'.heap[b]? = w.heap[b]?) : TabAt w' t m g sv L :=
  ⟨h0.trans h.ht, h.om.keep h1 h2 h3⟩
structure LO where
  kind : Int
  mt : V
  L : List Sl
/-- An object of the program's heap: where it lies, and what it is. -/
structure PO where
  kind : Int
  tag : Int
  name : ByteArray
  mt : V
  vals : Value
  o : Nat
  t : Nat
  m : Nat
  g : Nat
  sv : Value
  L : List Sl
def PO.lo (x : PO) : LO := ⟨x.kind, x.mt, if x.kind = 4 then x.L else []⟩
def PO.tabv (x : PO) : Value := if x.kind = 4 then .pointer (some ⟨x.t, 0, none⟩) else .pointer none
abbrev PO.cells (x : PO) : Array Value := #[.int .i64 x.kind, .int .i64 x.tag, .string x.name, x.tabv, .int .i64 x.mt.k, .int .i64 x.mt.p, .int .i64 x.mt.q, .string x.mt.s, .int .i64 x.mt.r, x.vals]
structure PObj (w : World) (x : PO) : Prop where
  ho : w.heap[x.o]? = some (.cells x.cells 144)
  kd : x.kind = 4 ∨ x.kind = 5 ∨ x.kind = 8
  wm : WfV x.mt
  fm : x.kind = 5 → x.mt = V.nil ∧ x.vals = .slice none 0 0
  tb : x.kind = 4 → TabAt w x.t x.m x.g x.sv x.L
def PSep (x y : PO) : Prop := x.o ≠ y.o ∧ (x.kind = 4 → y.kind = 4 → x.m ≠ y.m ∧ x.g ≠ y.g ∧ ∀ b, x.sv.ownBlock = some b → y.sv.ownBlock ≠ some b)
def objE (H : List PO) : List (Value × Value) := H.mapIdx fun i x => (.int .i64 ((i + 1 : Nat) : Int), .pointer (some ⟨x.o, 0, none⟩))
structure HpAt (w : World) (h bo bt : Nat) (H : List PO) : Prop where
  hh : w.heap[h]? = some (.cells #[.map (some bo), .int .i64 (H.length : Nat), .map (some bt)] 152)
  objs : MapAt Tryz.prog 3 w bo (objE H)
  touched : ∃ E, MapAt Tryz.prog 3 w bt E
  one : ∀ x ∈ H, PObj w x
  sep : H.Pairwise PSep
  ot : bo ≠ bt
  gs : ∀ x ∈ H, x.kind = 4 → x.g ≠ bo ∧ x.g ≠ bt
theorem heap1 (w : World) (o : Obj) : (w.alloc o).heap[w.heap.size]? = some o := heap_new w o
theorem heap1_old {w : World} {b : Nat} {x : Obj} (h : w.heap[b]? = some x) (o : Obj) : (w.alloc o).heap[b]? = some x := hkeep ((Below.refl _ _).alloc (Nat.le_refl _) o) h
theorem below1 (w : World) (o : Obj) : Below w.heap.size w (w.alloc o) := (Below.refl _ _).alloc (Nat.le_refl _) o
def ArgsAt (w : World) (base : Nat) (av : Value) (l : List V) : Prop :=
  (l = [] ∧ av = .slice none 0 0) ∨ ∃ (g : Nat) (a b : V), l = [a, b] ∧ av = .slice (some ⟨g, 0, none⟩) 2 2 ∧ base ≤ g ∧ w.heap[g]? = some (.cells #[.int .i64 a.k, .int .i64 a.p, .int .i64 a.q, .string a.s, .int .i64 a.r, .int .i64 b.k, .int .i64 b.p, .int .i64 b.q, .string b.s, .int .i64 b.r] 30)
theorem ArgsAt.base {w : World} {base base' : Nat} {av : Value} {l : List V} (h : ArgsAt w base av l) (hb : base' ≤ base) : ArgsAt w base' av l := by
  rcases h with h | ⟨g, a, b, h1, h2, h3, h4⟩
  · exact .inl h
  · exact .inr ⟨g, a, b, h1, h2, Nat.le_trans hb h3, h4⟩
theorem PSep.symm {x y : PO} (h : PSep x y) : PSep y x := by
  obtain ⟨h1, h2⟩ := h
  refine ⟨fun e => h1 e.symm, fun a b => ?_⟩
  obtain ⟨h3, h4, h5⟩ := h2 b a
  exact ⟨fun e => h3 e.symm, fun e => h4 e.symm, fun c hc hd => h5 c hd hc⟩
theorem ne_of_types {w : World} {a b : Nat} {ca cb : Array Value} {ta tb : TypeId} {fa fb : Nat × Nat} (ha : w.heap[a]? = some (.cells ca ta fa)) (hb : w.heap[b]? = some (.cells cb tb fb)) (hne : ta ≠ tb) : a ≠ b := by
  rintro rfl
  rw [ha] at hb
  injection hb with hb
  injection hb with _ h2
  exact hne h2
theorem ne_map {w : World} {a b : Nat} {ca : Array Value} {ta : TypeId} {fa : Nat × Nat} {es : Array MapEntry} {c : Nat} (ha : w.heap[a]? = some (.cells ca ta fa)) (hb : w.heap[b]? = some (.map es c)) : a ≠ b := by
  rintro rfl
  rw [ha] at hb
  cases hb
theorem MapAt.obj {P : Program} {k : TypeId} {w : World} {b : Nat} {E : List (Value × Value)} (h : MapAt P k w b E) : ∃ es c, w.heap[b]? = some (.map es c) := by
  obtain ⟨es, c, hb, _⟩ := h
  exact ⟨es, c, hb⟩
theorem PObj.keep {w w' : World} {x : PO} (h : PObj w x) (h1 : w'.heap[x.o]? = w.heap[x.o]?) (h2 : x.kind = 4 → ∀ b, (b = x.t ∨ OmF x.m x.g x.sv b) → w'.heap[b]? = w.heap[b]?) : PObj w' x :=
  ⟨h1.trans h.ho, h.kd, h.wm, h.fm, fun h4 => (h.tb h4).keep (h2 h4 _ (.inl rfl)) (h2 h4 _ (.inr (.inl rfl))) (h2 h4 _ (.inr (.inr (.inl rfl)))) (fun b hb => h2 h4 _ (.inr (.inr (.inr hb))))⟩
/-- An object is added. -/
theorem HpAt.add {w w' : World} {h bo bt : Nat} {H : List PO} {x : PO} (hH : HpAt w h bo bt H) (hM : Mods (fun b => b = h ∨ b = bo ∨ b = bt) w w')
    (hh : w'.heap[h]? = some (.cells #[.map (some bo), .int .i64 ((H.length + 1 : Nat) : Int), .map (some bt)] 152)) (hbo : MapAt Tryz.prog 3 w' bo (objE H ++ [(.int .i64 ((H.length + 1 : Nat) : Int), .pointer (some ⟨x.o, 0, none⟩))])) (hbt : ∃ E, MapAt Tryz.prog 3 w' bt E)
    (hx : PObj w x) (hsep : ∀ y ∈ H, PSep y x) (hg : x.kind = 4 → x.g ≠ bo ∧ x.g ≠ bt) : HpAt w' h bo bt (H ++ [x]) := by
  obtain ⟨E0, hE0⟩ := hH.touched
  obtain ⟨es, c, hbt0⟩ := hE0.obj
  obtain ⟨es2, c2, hbo0⟩ := hH.objs.obj
  have kc : ∀ {b : Nat} {cs : Array Value} {t : TypeId} {fz : Nat × Nat}, w.heap[b]? = some (.cells cs t fz) → t ≠ 152 → w'.heap[b]? = w.heap[b]? := fun hb h1 => hM.block _ (Array.getElem?_eq_some_iff.1 hb).1 (fun e => by
    rcases e with e | e | e
    · exact ne_of_types hb hH.hh h1 e
    · exact ne_map hb hbo0 e
    · exact ne_map hb hbt0 e)
  have keep : ∀ y : PO, PObj w y → (y.kind = 4 → y.g ≠ bo ∧ y.g ≠ bt) → PObj w' y := fun y hyo hgy => by
    refine hyo.keep (kc hyo.ho (by decide)) (fun hy4 b hb => ?_)
    have hT := hyo.tb hy4
    rcases hb with rfl | rfl | rfl | hb
    · exact kc hT.ht (by decide)
    · exact kc hT.om.hm (by decide)
    · obtain ⟨E3, f3, hE3, _⟩ := hT.om.map
      obtain ⟨es3, c3, h3⟩ := hE3.obj
      refine hM.block _ hE3.lt (fun e => ?_)
      rcases e with e | e | e
      · exact ne_map hH.hh h3 e.symm
      · exact (hgy hy4).1 e
      · exact (hgy hy4).2 e
    · obtain ⟨c3, h3⟩ := row_block hT.om.row hb
      exact kc h3 (by decide)
  refine ⟨?_, ?_, hbt, fun y hy => ?_, ?_, hH.ot, fun y hy hy4 => ?_⟩
  · rw [List.length_append]; exact hh
  · have : objE (H ++ [x]) = objE H ++ [(.int .i64 ((H.length + 1 : Nat) : Int), .pointer (some ⟨x.o, 0, none⟩))] := by
      unfold objE
      rw [List.mapIdx_append]
      simp
    rw [this]; exact hbo
  · rcases List.mem_append.1 hy with hy | hy
    · exact keep y (hH.one y hy) (hH.gs y hy)
    · rw [List.mem_singleton] at hy
      subst hy
      exact keep y hx hg
  · rw [List.pairwise_append]
    refine ⟨hH.sep, List.pairwise_singleton _ _, fun y hy z hz => ?_⟩
    rw [List.mem_singleton] at hz
    subst hz
    exact hsep y hy
  · rcases List.mem_append.1 hy with hy | hy
    · exact hH.gs y hy hy4
    · rw [List.mem_singleton] at hy
      subst hy
      exact hg hy4
def BM (base : Nat) (S : Obj → Prop) (w w' : World) : Prop := Mods (fun b => base ≤ b ∧ ∃ o, w.heap[b]? = some o ∧ S o) w w'
theorem BM.trans {base : Nat} {S : Obj → Prop} {a b c : World} (h : BM base S a b) (k : BM base S b c) : BM base S a c := by
  refine ⟨k.os.trans h.os, k.tape.trans h.tape, k.output.trans h.output, Nat.le_trans h.size k.size, fun i hi hF => ?_⟩
  have h1 := h.block i hi hF
  exact (k.block i (Nat.lt_of_lt_of_le hi h.size) (fun ⟨hb, o, h2, h3⟩ => hF ⟨hb, o, h1 ▸ h2, h3⟩)).trans h1
theorem BM.mono {base : Nat} {S S' : Obj → Prop} {w w' : World} (h : BM base S w w') (hS : ∀ o, S o → S' o) : BM base S' w w' := Mods.mono h (fun k _ ⟨h1, o, h2, h3⟩ => ⟨h1, o, h2, hS o h3⟩)
structure RO where
  kind : Int
  tag : Int
  name : ByteArray
  mt : V
  user : Value
  refs : Value
  t : Nat
  m : Nat
  sv : Value
  L : List Sl
def RO.lo (x : RO) : LO := ⟨x.kind, x.mt, if x.kind = 4 then x.L else []⟩
def RO.tv (x : RO) : Value := if x.kind = 4 then .pointer (some ⟨x.t, 0, none⟩) else .pointer none
abbrev RO.cells (x : RO) : List Value := [.int .i64 x.kind, .int .i64 x.tag, .string x.name, x.tv, .int .i64 x.mt.k, .int .i64 x.mt.p, .int .i64 x.mt.q, .string x.mt.s, .int .i64 x.mt.r, x.user, x.refs]
def RSep (x y : RO) : Prop := x.kind = 4 → y.kind = 4 → x.m ≠ y.m ∧ ∀ b, x.sv.ownBlock = some b → y.sv.ownBlock ≠ some b
theorem heap_newD (w : World) (o : Obj) : (w.drew.alloc o).heap[w.heap.size]? = some o := heap_new w.drew o
def ListPost (w : World) (A : List V) (e : Ending) (w' : World) : Prop :=
  ∃ so cap, e = .returned (.slice so A.length cap) ∧ w'.ownsRow w.heap.size 30 5 (.slice so A.length cap) A.length (rowV A) ∧ Below w.heap.size w w'
theorem row_shape {w : World} {base : Nat} {e : TypeId} {size n : Nat} {v : Value} {xs : List Value} (h : w.ownsRow base e size v n xs) : ∃ so cap, v = .slice so n cap := by
  rcases h.2 with ⟨rfl, rfl⟩ | ⟨g, cap, cur, rfl, _⟩
  · exact ⟨_, _, rfl⟩
  · exact ⟨_, _, rfl⟩
theorem grown_below {w w' : World} (h : w.grownBy w' none) : Below w.heap.size w w' := ⟨h.os, h.tape, h.output, h.size, fun k hk => h.block k hk (by simp)⟩
/-- An action in parts. -/
abbrev acV (kind op : Int) (f : V) (vs : Value) (s : ByteArray) (level next : Int) (ks : Value) : Value :=
  .agg #[.int .i64 kind, .int .i64 op, .int .i64 f.k, .int .i64 f.p, .int .i64 f.q, .string f.s, .int .i64 f.r, vs, .string s, .int .i64 level, .int .i64 next, ks]
abbrev oAc : Obj := .cells #[.int .i64 0, .int .i64 0, .int .i64 0, .int .i64 0, .int .i64 0, .string ⟨#[]⟩, .int .i64 0, .slice none 0 0, .string ⟨#[]⟩, .int .i64 0, .int .i64 0, .slice none 0 0] 42
theorem cells12 {w : World} {b : Nat} {c0 c1 c2 c3 c4 c5 c6 c7 c8 c9 c10 c11 : Value} {t : TypeId} {fz : Nat × Nat} (h : w.heap[b]? = some (.cells #[c0, c1, c2, c3, c4, c5, c6, c7, c8, c9, c10, c11] t fz)) :
    w.cell? ⟨b, 0, none⟩ = some c0 ∧ w.cell? ⟨b, 1, none⟩ = some c1 ∧ w.cell? ⟨b, 2, none⟩ = some c2 ∧ w.cell? ⟨b, 3, none⟩ = some c3 ∧ w.cell? ⟨b, 4, none⟩ = some c4 ∧ w.cell? ⟨b, 5, none⟩ = some c5 ∧ w.cell? ⟨b, 6, none⟩ = some c6 ∧ w.cell? ⟨b, 7, none⟩ = some c7 ∧ w.cell? ⟨b, 8, none⟩ = some c8 ∧ w.cell? ⟨b, 9, none⟩ = some c9 ∧ w.cell? ⟨b, 10, none⟩ = some c10 ∧ w.cell? ⟨b, 11, none⟩ = some c11 := by
  refine ⟨?_, ?_, ?_, ?_, ?_, ?_, ?_, ?_, ?_, ?_, ?_, ?_⟩ <;> (rw [cell_of_heap h]; rfl)
theorem froz12 {w : World} {b : Nat} {cs : Array Value} {t : TypeId} (h : w.heap[b]? = some (.cells cs t (0, 0))) :
    w.frozen? ⟨b, 0, none⟩ = false ∧ w.frozen? ⟨b, 1, none⟩ = false ∧ w.frozen? ⟨b, 2, none⟩ = false ∧ w.frozen? ⟨b, 3, none⟩ = false ∧ w.frozen? ⟨b, 4, none⟩ = false ∧ w.frozen? ⟨b, 5, none⟩ = false ∧ w.frozen? ⟨b, 6, none⟩ = false ∧ w.frozen? ⟨b, 7, none⟩ = false ∧ w.frozen? ⟨b, 8, none⟩ = false ∧ w.frozen? ⟨b, 9, none⟩ = false ∧ w.frozen? ⟨b, 10, none⟩ = false ∧ w.frozen? ⟨b, 11, none⟩ = false := by
  refine ⟨?_, ?_, ?_, ?_, ?_, ?_, ?_, ?_, ?_, ?_, ?_, ?_⟩ <;> exact frozen_of_heap h _
theorem below_twelve {B : Nat} {a w : World} (h : Below B a w) {b : Nat} (hb : B ≤ b) (c0 c1 c2 c3 c4 c5 c6 c7 c8 c9 c10 c11 : Value) :
    Below B a ((((((((((((w.setCell ⟨b, 0, none⟩ c0).setCell ⟨b, 1, none⟩ c1).setCell ⟨b, 2, none⟩ c2).setCell ⟨b, 3, none⟩ c3).setCell ⟨b, 4, none⟩ c4).setCell ⟨b, 5, none⟩ c5).setCell ⟨b, 6, none⟩ c6).setCell ⟨b, 7, none⟩ c7).setCell ⟨b, 8, none⟩ c8).setCell ⟨b, 9, none⟩ c9).setCell ⟨b, 10, none⟩ c10).setCell ⟨b, 11, none⟩ c11) :=
  (((((((((((h.setCell (p := ⟨b, 0, none⟩) hb c0).setCell (p := ⟨b, 1, none⟩) hb c1).setCell (p := ⟨b, 2, none⟩) hb c2).setCell (p := ⟨b, 3, none⟩) hb c3).setCell (p := ⟨b, 4, none⟩) hb c4).setCell (p := ⟨b, 5, none⟩) hb c5).setCell (p := ⟨b, 6, none⟩) hb c6).setCell (p := ⟨b, 7, none⟩) hb c7).setCell (p := ⟨b, 8, none⟩) hb c8).setCell (p := ⟨b, 9, none⟩) hb c9).setCell (p := ⟨b, 10, none⟩) hb c10).setCell (p := ⟨b, 11, none⟩) hb c11
theorem row_twelve {w : World} {base : Nat} {e : TypeId} {size n : Nat} {v : Value} {xs : List Value} (ho : w.ownsRow base e size v n xs) {b : Nat} (hb : v.ownBlock ≠ some b) (c0 c1 c2 c3 c4 c5 c6 c7 c8 c9 c10 c11 : Value) :
    ((((((((((((w.setCell ⟨b, 0, none⟩ c0).setCell ⟨b, 1, none⟩ c1).setCell ⟨b, 2, none⟩ c2).setCell ⟨b, 3, none⟩ c3).setCell ⟨b, 4, none⟩ c4).setCell ⟨b, 5, none⟩ c5).setCell ⟨b, 6, none⟩ c6).setCell ⟨b, 7, none⟩ c7).setCell ⟨b, 8, none⟩ c8).setCell ⟨b, 9, none⟩ c9).setCell ⟨b, 10, none⟩ c10).setCell ⟨b, 11, none⟩ c11).ownsRow base e size v n xs := by
  have h : ∀ j, v.ownBlock ≠ some (⟨b, j, none⟩ : Addr).block := fun _ => hb
  exact (ownsRow_set (ownsRow_set (ownsRow_set (ownsRow_set (ownsRow_set (ownsRow_set (ownsRow_set (ownsRow_set (ownsRow_set (ownsRow_set (ownsRow_set (ownsRow_set ho (h _) c0) (h _) c1) (h _) c2) (h _) c3) (h _) c4) (h _) c5) (h _) c6) (h _) c7) (h _) c8) (h _) c9) (h _) c10) (h _) c11)
def RetPost (w : World) (A : List V) (e : Ending) (w' : World) : Prop :=
  ∃ so cap, e = .returned (acV 1 0 V.nil (.slice so A.length cap) ⟨#[]⟩ 0 0 (.slice none 0 0)) ∧ w'.ownsRow w.heap.size 30 5 (.slice so A.length cap) A.length (rowV A) ∧ Below w.heap.size w w'
abbrev oCl (nm : ByteArray) (av : Value) : Obj := .cells #[.pointer none, .string nm, av, .bool false, .int .i64 0, .int .i64 0, .int .i64 0, .int .i64 0, .int .i64 0, .string ⟨#[]⟩, .int .i64 0, .slice none 0 0, .string ⟨#[]⟩, .int .i64 0, .int .i64 0, .slice none 0 0] 51
theorem cells5 {w : World} {b : Nat} {c0 c1 c2 c3 c4 : Value} {t : TypeId} {fz : Nat × Nat} (h : w.heap[b]? = some (.cells #[c0, c1, c2, c3, c4] t fz)) :
    w.cell? ⟨b, 0, none⟩ = some c0 ∧ w.cell? ⟨b, 1, none⟩ = some c1 ∧ w.cell? ⟨b, 2, none⟩ = some c2 ∧ w.cell? ⟨b, 3, none⟩ = some c3 ∧ w.cell? ⟨b, 4, none⟩ = some c4 := by
  refine ⟨?_, ?_, ?_, ?_, ?_⟩ <;> (rw [cell_of_heap h]; rfl)
theorem froz5 {w : World} {b : Nat} {cs : Array Value} {t : TypeId} (h : w.heap[b]? = some (.cells cs t (0, 0))) :
    w.frozen? ⟨b, 0, none⟩ = false ∧ w.frozen? ⟨b, 1, none⟩ = false ∧ w.frozen? ⟨b, 2, none⟩ = false ∧ w.frozen? ⟨b, 3, none⟩ = false ∧ w.frozen? ⟨b, 4, none⟩ = false := by
  refine ⟨?_, ?_, ?_, ?_, ?_⟩ <;> exact frozen_of_heap h _
def SliceVals (w : World) (A : List V) (e : Ending) (w' : World) : Prop := ∃ g o cap, e = .returned (.slice (some ⟨g, o, none⟩) A.length cap) ∧ Vals w' (.slice (some ⟨g, o, none⟩) A.length cap) A ∧ Below w.heap.size w w'
theorem validN_int {p : Int} (h1 : -2147483647 ≤ p) (h2 : p ≤ 2147483647) : validN (p, 1) = true := validN_iff.2 ⟨by simp, by simp, h1, h2, by simp⟩
theorem RSep.symm {x y : RO} (h : RSep x y) : RSep y x := fun a b => by
  obtain ⟨h3, h5⟩ := h b a
  exact ⟨fun e => h3 e.symm, fun c hc hd => h5 c hd hc⟩
theorem vals_one (w : World) (v : V) : Vals (w.alloc (.cells #[.int .i64 v.k, .int .i64 v.p, .int .i64 v.q, .string v.s, .int .i64 v.r] 30)) (.slice (some ⟨w.heap.size, 0, none⟩) 1 1) [v] := by
  refine ⟨some ⟨w.heap.size, 0, none⟩, 1, rfl, Nat.le_refl _, (fun h => by cases h), .inr ⟨w.heap.size, 0, rfl, by simp, fun j u hj => ?_⟩⟩
  rw [cell_of_heap (heap_new w _), Nat.zero_add]
  have h5 : j < 5 := by
    have := (List.getElem?_eq_some_iff.1 hj).1
    rw [rowV_len] at this
    simpa using this
  rw [← hj]
  match j, h5 with
  | 0, _ => rfl
  | 1, _ => rfl
  | 2, _ => rfl
  | 3, _ => rfl
  | 4, _ => rfl
def FailPost (w : World) (v : V) (level : Int) (e : Ending) (w' : World) : Prop :=
  ∃ so cap, e = .returned (acV 2 0 V.nil (.slice so 1 cap) ⟨#[]⟩ level 0 (.slice none 0 0)) ∧ w'.ownsRow w.heap.size 30 5 (.slice so 1 cap) 1 (rowV [v]) ∧ Below w.heap.size w w'
def nbL : List UInt8 := [97, 115, 115, 101, 114, 116, 32, 99, 111, 108, 108, 101, 99, 116, 32, 99, 111, 114, 111, 117, 116, 105, 110, 101, 46, 99, 108, 111, 115, 101, 32, 99, 111, 114, 111, 117, 116, 105, 110, 101, 46, 99, 114, 101, 97, 116, 101, 32, 99, 111, 114, 111, 117, 116, 105, 110, 101, 46, 105, 115, 121, 105, 101, 108, 100, 97, 98, 108, 101, 32, 99, 111, 114, 111, 117, 116, 105, 110, 101, 46, 114, 101, 115, 117, 109, 101, 32, 99, 111, 114, 111, 117, 116, 105, 110, 101, 46, 114, 117, 110, 110, 105, 110, 103, 32, 99, 111, 114, 111, 117, 116, 105, 110, 101, 46, 115, 116, 97, 116, 117, 115, 32, 99, 111, 114, 111, 117, 116, 105, 110, 101, 46, 121, 105, 101, 108, 100, 32, 100, 101, 98, 117, 103, 46, 116, 114, 97, 99, 101, 98, 97, 99, 107, 32, 101, 114, 114, 111, 114, 32, 103, 101, 116, 109, 101, 116, 97, 116, 97, 98, 108, 101, 32, 105, 112, 97, 105, 114, 115, 32, 105, 112, 97, 105, 114, 115, 110, 101, 120, 116, 32, 108, 111, 97, 100, 32, 110, 101, 120, 116, 32, 112, 97, 105, 114, 115, 32, 112, 99, 97, 108, 108, 32, 112, 114, 105, 110, 116, 32, 114, 97, 119, 101, 113, 117, 97, 108, 32, 114, 97, 119, 103, 101, 116, 32, 114, 97, 119, 108, 101, 110, 32, 114, 97, 119, 115, 101, 116, 32, 115, 101, 108, 101, 99, 116, 32, 115, 101, 116, 109, 101, 116, 97, 116, 97, 98, 108, 101, 32, 116, 111, 110, 117, 109, 98, 101, 114, 32, 116, 111, 115, 116, 114, 105, 110, 103, 32, 116, 121, 112, 101, 32, 120, 112, 99, 97, 108, 108]
def namesL : List ByteArray := (Lib.fields nbL).map fun l => ⟨l.toArray⟩
def Spaces (w : World) : Prop := Lib.TabIs Tryz.prog w "strings.asciiSpace" .u8 Lib.asciiSpaceTab
def NamesPost (w : World) (e : Ending) (w' : World) : Prop := e = .returned (.slice (some ⟨w.heap.size, 0, none⟩) 29 29) ∧ w' = w.alloc (.cells (namesL.map Value.string).toArray 9)
theorem nb_len : (Lib.fields nbL).length = 29 := by kernel_rfl
theorem names_len : namesL.length = 29 := by kernel_rfl
theorem at_select : Lib.idxOfS namesL ⟨#[115, 101, 108, 101, 99, 116]⟩ = 23 := by kernel_rfl
theorem at_pcall : Lib.idxOfS namesL ⟨#[112, 99, 97, 108, 108]⟩ = 17 := by kernel_rfl
theorem at_tonumber : Lib.idxOfS namesL ⟨#[116, 111, 110, 117, 109, 98, 101, 114]⟩ = 25 := by kernel_rfl
theorem spaces_glob : (Tryz.prog.globalNamed "strings.asciiSpace").isSome = true := by kernel_rfl
theorem Spaces.stays {w w' : World} (h : Spaces w) (hb : Below w.heap.size w w') : Spaces w' := by
  obtain ⟨g, hg⟩ := Option.isSome_iff_exists.1 spaces_glob
  exact Joins.tab_stays hg h hb (Nat.le_refl _)
theorem Vals.some_of {w : World} {so : Option Addr} {n cap : Nat} {A : List V} (h : Vals w (.slice so n cap) A) (hne : A ≠ []) : ∃ g o, so = some ⟨g, o, none⟩ := by
  obtain ⟨s, c, e, _, _, h⟩ := h
  injection e with e _ _
  rcases h with h | ⟨g, o, h, _⟩
  · exact absurd h hne
  · exact ⟨g, o, e.trans h⟩
def ActPost (F : Nat → Prop) (w : World) (kind op : Int) (f : V) (A : List V) (s : ByteArray) (level next : Int) (K : List V) (e : Ending) (w' : World) : Prop :=
  ∃ so cap sk ck, e = .returned (acV kind op f (.slice so A.length cap) s level next (.slice sk K.length ck)) ∧ w'.ownsRow w.heap.size 30 5 (.slice so A.length cap) A.length (rowV A) ∧ w'.ownsRow w.heap.size 30 5 (.slice sk K.length ck) K.length (rowV K) ∧ Mods F w w'
def NoF (_ : Nat) : Prop := False
theorem mods_below {w w' : World} (h : Mods NoF w w') : Below w.heap.size w w' := Mods.below h (Nat.le_refl _) (fun _ _ h => h)
theorem mods_next {F : Nat → Prop} {a b c : World} (h : Mods F a b) (k : Below b.heap.size b c) : Mods F a c := Mods.trans h (Mods.of_below k)
theorem mods_alloc {F : Nat → Prop} {a b : World} (h : Mods F a b) (o : Obj) : Mods F a (b.alloc o) := mods_next h (below1 b o)
theorem mkeep {F : Nat → Prop} {w w' : World} (hm : Mods F w w') {b : Nat} {o : Obj} (h : w.heap[b]? = some o) (hF : ¬ F b) : w'.heap[b]? = some o := (hm.block b (Array.getElem?_eq_some_iff.1 h).1 hF).trans h
theorem act_of_ret {F : Nat → Prop} {w w' : World} {A : List V} {e : Ending} (h : RetPost w A e w') : ActPost F w 1 0 V.nil A ⟨#[]⟩ 0 0 [] e w' := by
  obtain ⟨so, cap, rfl, h1, h2⟩ := h
  exact ⟨so, cap, none, 0, rfl, h1, World.ownsRow_nil _ _ _ _, Mods.of_below h2⟩
theorem mods_twelve {F : Nat → Prop} {a w : World} (h : Mods F a w) {b : Nat} (hb : F b ∨ a.heap.size ≤ b) (o0 o1 o2 o3 o4 o5 o6 o7 o8 o9 o10 o11 : Nat) (c0 c1 c2 c3 c4 c5 c6 c7 c8 c9 c10 c11 : Value) :
    Mods F a ((((((((((((w.setCell ⟨b, o0, none⟩ c0).setCell ⟨b, o1, none⟩ c1).setCell ⟨b, o2, none⟩ c2).setCell ⟨b, o3, none⟩ c3).setCell ⟨b, o4, none⟩ c4).setCell ⟨b, o5, none⟩ c5).setCell ⟨b, o6, none⟩ c6).setCell ⟨b, o7, none⟩ c7).setCell ⟨b, o8, none⟩ c8).setCell ⟨b, o9, none⟩ c9).setCell ⟨b, o10, none⟩ c10).setCell ⟨b, o11, none⟩ c11) := by
  exact mods_setCell (mods_setCell (mods_setCell (mods_setCell (mods_setCell (mods_setCell (mods_setCell (mods_setCell (mods_setCell (mods_setCell (mods_setCell (mods_setCell h hb c0) hb c1) hb c2) hb c3) hb c4) hb c5) hb c6) hb c7) hb c8) hb c9) hb c10) hb c11
theorem row_away {w : World} {B e size n : Nat} {v : Value} {xs : List Value} (ho : w.ownsRow B e size v n xs) {b : Nat} (hb : b < B) : v.ownBlock ≠ some b := fun h => by
  have := (ownBlock_lt ho h).1
  omega
theorem act_end {F : Nat → Prop} {w W : World} {b B : Nat} {A K : List V} {so sk : Option Addr} {cap ck : Nat} {kind op level next : Int} {f : V} {s : ByteArray}
    (ho : W.ownsRow B 30 5 (.slice so A.length cap) A.length (rowV A)) (hk : W.ownsRow B 30 5 (.slice sk K.length ck) K.length (rowV K)) (hm : Mods F w W) (hw : w.heap.size ≤ b) (hb : b < B) (c0 c1 c2 c3 c4 c5 c6 c7 c8 c9 c10 c11 : Value) :
    ActPost F w kind op f A s level next K (.returned (acV kind op f (.slice so A.length cap) s level next (.slice sk K.length ck))) ((((((((((((W.setCell ⟨b, 0, none⟩ c0).setCell ⟨b, 1, none⟩ c1).setCell ⟨b, 2, none⟩ c2).setCell ⟨b, 3, none⟩ c3).setCell ⟨b, 4, none⟩ c4).setCell ⟨b, 5, none⟩ c5).setCell ⟨b, 6, none⟩ c6).setCell ⟨b, 7, none⟩ c7).setCell ⟨b, 8, none⟩ c8).setCell ⟨b, 9, none⟩ c9).setCell ⟨b, 10, none⟩ c10).setCell ⟨b, 11, none⟩ c11) :=
  ⟨so, cap, sk, ck, rfl, ownsRow_base (row_twelve ho (row_away ho hb) _ _ _ _ _ _ _ _ _ _ _ _) (by omega), ownsRow_base (row_twelve hk (row_away hk hb) _ _ _ _ _ _ _ _ _ _ _ _) (by omega), mods_twelve hm (.inr hw) 0 1 2 3 4 5 6 7 8 9 10 11 _ _ _ _ _ _ _ _ _ _ _ _⟩
theorem at5m {F : Nat → Prop} {w w' : World} {b : Nat} {c0 c1 c2 c3 c4 : Value} {t : TypeId} {fz : Nat × Nat} (h : w'.heap[b]? = some (.cells #[c0, c1, c2, c3, c4] t fz)) (hm : Mods F w w') :
    w'.cell? ⟨b, 0, none⟩ = some c0 ∧ w'.cell? ⟨b, 1, none⟩ = some c1 ∧ w'.cell? ⟨b, 2, none⟩ = some c2 ∧ w'.cell? ⟨b, 3, none⟩ = some c3 ∧ w'.cell? ⟨b, 4, none⟩ = some c4 ∧ Hid (Mods F w w') := ⟨(cells5 h).1, (cells5 h).2.1, (cells5 h).2.2.1, (cells5 h).2.2.2.1, (cells5 h).2.2.2.2, Lib.hid hm⟩
theorem prj5a {c0 c1 c2 c3 c4 p : Prop} (h : c0 ∧ c1 ∧ c2 ∧ c3 ∧ c4 ∧ Hid p) : p := h.2.2.2.2.2.out
abbrev oCb (nm : ByteArray) (av : Value) (f : V) (b : Bool) (k op : Int) (vs : Value) (s : ByteArray) (l n : Int) (ks : Value) : Obj := .cells #[.pointer none, .string nm, av, .bool b, .int .i64 k, .int .i64 op, .int .i64 f.k, .int .i64 f.p, .int .i64 f.q, .string f.s, .int .i64 f.r, vs, .string s, .int .i64 l, .int .i64 n, ks] 51
theorem cells16 {w : World} {b : Nat} {c0 c1 c2 c3 c4 c5 c6 c7 c8 c9 c10 c11 c12 c13 c14 c15 : Value} {t : TypeId} {fz : Nat × Nat} (h : w.heap[b]? = some (.cells #[c0, c1, c2, c3, c4, c5, c6, c7, c8, c9, c10, c11, c12, c13, c14, c15] t fz)) :
    w.cell? ⟨b, 0, none⟩ = some c0 ∧ w.cell? ⟨b, 1, none⟩ = some c1 ∧ w.cell? ⟨b, 2, none⟩ = some c2 ∧ w.cell? ⟨b, 3, none⟩ = some c3 ∧ w.cell? ⟨b, 4, none⟩ = some c4 ∧ w.cell? ⟨b, 5, none⟩ = some c5 ∧ w.cell? ⟨b, 6, none⟩ = some c6 ∧ w.cell? ⟨b, 7, none⟩ = some c7 ∧ w.cell? ⟨b, 8, none⟩ = some c8 ∧ w.cell? ⟨b, 9, none⟩ = some c9 ∧ w.cell? ⟨b, 10, none⟩ = some c10 ∧ w.cell? ⟨b, 11, none⟩ = some c11 ∧ w.cell? ⟨b, 12, none⟩ = some c12 ∧ w.cell? ⟨b, 13, none⟩ = some c13 ∧ w.cell? ⟨b, 14, none⟩ = some c14 ∧ w.cell? ⟨b, 15, none⟩ = some c15 := by
  refine ⟨?_, ?_, ?_, ?_, ?_, ?_, ?_, ?_, ?_, ?_, ?_, ?_, ?_, ?_, ?_, ?_⟩ <;> (rw [cell_of_heap h]; rfl)
theorem froz16 {w : World} {b : Nat} {cs : Array Value} {t : TypeId} (h : w.heap[b]? = some (.cells cs t (0, 0))) :
    w.frozen? ⟨b, 0, none⟩ = false ∧ w.frozen? ⟨b, 1, none⟩ = false ∧ w.frozen? ⟨b, 2, none⟩ = false ∧ w.frozen? ⟨b, 3, none⟩ = false ∧ w.frozen? ⟨b, 4, none⟩ = false ∧ w.frozen? ⟨b, 5, none⟩ = false ∧ w.frozen? ⟨b, 6, none⟩ = false ∧ w.frozen? ⟨b, 7, none⟩ = false ∧ w.frozen? ⟨b, 8, none⟩ = false ∧ w.frozen? ⟨b, 9, none⟩ = false ∧ w.frozen? ⟨b, 10, none⟩ = false ∧ w.frozen? ⟨b, 11, none⟩ = false ∧ w.frozen? ⟨b, 12, none⟩ = false ∧ w.frozen? ⟨b, 13, none⟩ = false ∧ w.frozen? ⟨b, 14, none⟩ = false ∧ w.frozen? ⟨b, 15, none⟩ = false := by
  refine ⟨?_, ?_, ?_, ?_, ?_, ?_, ?_, ?_, ?_, ?_, ?_, ?_, ?_, ?_, ?_, ?_⟩ <;> exact frozen_of_heap h _
theorem twelve_at {w : World} {b : Nat} {c0 c1 c2 c3 c4 c5 c6 c7 c8 c9 c10 c11 c12 c13 c14 c15 : Value} {t : TypeId} {fz : Nat × Nat} (h : w.heap[b]? = some (.cells #[c0, c1, c2, c3, c4, c5, c6, c7, c8, c9, c10, c11, c12, c13, c14, c15] t fz)) (d4 d5 d6 d7 d8 d9 d10 d11 d12 d13 d14 d15 : Value) :
    ((((((((((((w.setCell ⟨b, 4, none⟩ d4).setCell ⟨b, 5, none⟩ d5).setCell ⟨b, 6, none⟩ d6).setCell ⟨b, 7, none⟩ d7).setCell ⟨b, 8, none⟩ d8).setCell ⟨b, 9, none⟩ d9).setCell ⟨b, 10, none⟩ d10).setCell ⟨b, 11, none⟩ d11).setCell ⟨b, 12, none⟩ d12).setCell ⟨b, 13, none⟩ d13).setCell ⟨b, 14, none⟩ d14).setCell ⟨b, 15, none⟩ d15).heap[b]? = some (.cells #[c0, c1, c2, c3, d4, d5, d6, d7, d8, d9, d10, d11, d12, d13, d14, d15] t fz) := by
  replace h := heap_setCell_same h 4 d4
  change _ = some (Obj.cells #[c0, c1, c2, c3, d4, c5, c6, c7, c8, c9, c10, c11, c12, c13, c14, c15] t fz) at h
  replace h := heap_setCell_same h 5 d5
  change _ = some (Obj.cells #[c0, c1, c2, c3, d4, d5, c6, c7, c8, c9, c10, c11, c12, c13, c14, c15] t fz) at h
  replace h := heap_setCell_same h 6 d6
  change _ = some (Obj.cells #[c0, c1, c2, c3, d4, d5, d6, c7, c8, c9, c10, c11, c12, c13, c14, c15] t fz) at h
  replace h := heap_setCell_same h 7 d7
  change _ = some (Obj.cells #[c0, c1, c2, c3, d4, d5, d6, d7, c8, c9, c10, c11, c12, c13, c14, c15] t fz) at h
  replace h := heap_setCell_same h 8 d8
  change _ = some (Obj.cells #[c0, c1, c2, c3, d4, d5, d6, d7, d8, c9, c10, c11, c12, c13, c14, c15] t fz) at h
  replace h := heap_setCell_same h 9 d9
  change _ = some (Obj.cells #[c0, c1, c2, c3, d4, d5, d6, d7, d8, d9, c10, c11, c12, c13, c14, c15] t fz) at h
  replace h := heap_setCell_same h 10 d10
  change _ = some (Obj.cells #[c0, c1, c2, c3, d4, d5, d6, d7, d8, d9, d10, c11, c12, c13, c14, c15] t fz) at h
  replace h := heap_setCell_same h 11 d11
  change _ = some (Obj.cells #[c0, c1, c2, c3, d4, d5, d6, d7, d8, d9, d10, d11, c12, c13, c14, c15] t fz) at h
  replace h := heap_setCell_same h 12 d12
  change _ = some (Obj.cells #[c0, c1, c2, c3, d4, d5, d6, d7, d8, d9, d10, d11, d12, c13, c14, c15] t fz) at h
  replace h := heap_setCell_same h 13 d13
  change _ = some (Obj.cells #[c0, c1, c2, c3, d4, d5, d6, d7, d8, d9, d10, d11, d12, d13, c14, c15] t fz) at h
  replace h := heap_setCell_same h 14 d14
  change _ = some (Obj.cells #[c0, c1, c2, c3, d4, d5, d6, d7, d8, d9, d10, d11, d12, d13, d14, c15] t fz) at h
  replace h := heap_setCell_same h 15 d15
  change _ = some (Obj.cells #[c0, c1, c2, c3, d4, d5, d6, d7, d8, d9, d10, d11, d12, d13, d14, d15] t fz) at h
  exact h
theorem prj1a {c0 p : Prop} (h : c0 ∧ Hid p) : p := h.2.out
theorem row_twelve_at {w : World} {base : Nat} {e : TypeId} {size n : Nat} {v : Value} {xs : List Value} (ho : w.ownsRow base e size v n xs) {b : Nat} (hb : v.ownBlock ≠ some b) (c0 c1 c2 c3 c4 c5 c6 c7 c8 c9 c10 c11 : Value) :
    ((((((((((((w.setCell ⟨b, 4, none⟩ c0).setCell ⟨b, 5, none⟩ c1).setCell ⟨b, 6, none⟩ c2).setCell ⟨b, 7, none⟩ c3).setCell ⟨b, 8, none⟩ c4).setCell ⟨b, 9, none⟩ c5).setCell ⟨b, 10, none⟩ c6).setCell ⟨b, 11, none⟩ c7).setCell ⟨b, 12, none⟩ c8).setCell ⟨b, 13, none⟩ c9).setCell ⟨b, 14, none⟩ c10).setCell ⟨b, 15, none⟩ c11).ownsRow base e size v n xs := by
  have h : ∀ j, v.ownBlock ≠ some (⟨b, j, none⟩ : Addr).block := fun _ => hb
  exact (ownsRow_set (ownsRow_set (ownsRow_set (ownsRow_set (ownsRow_set (ownsRow_set (ownsRow_set (ownsRow_set (ownsRow_set (ownsRow_set (ownsRow_set (ownsRow_set ho (h _) c0) (h _) c1) (h _) c2) (h _) c3) (h _) c4) (h _) c5) (h _) c6) (h _) c7) (h _) c8) (h _) c9) (h _) c10) (h _) c11)
theorem heap12_old {w : World} {c : Nat} {o : Obj} (h : w.heap[c]? = some o) {b : Nat} (hb : ¬ c = b) (c0 c1 c2 c3 c4 c5 c6 c7 c8 c9 c10 c11 : Value) :
    ((((((((((((w.setCell ⟨b, 0, none⟩ c0).setCell ⟨b, 1, none⟩ c1).setCell ⟨b, 2, none⟩ c2).setCell ⟨b, 3, none⟩ c3).setCell ⟨b, 4, none⟩ c4).setCell ⟨b, 5, none⟩ c5).setCell ⟨b, 6, none⟩ c6).setCell ⟨b, 7, none⟩ c7).setCell ⟨b, 8, none⟩ c8).setCell ⟨b, 9, none⟩ c9).setCell ⟨b, 10, none⟩ c10).setCell ⟨b, 11, none⟩ c11).heap[c]? = some o :=
  ((mods_twelve (F := fun k => k = b) (Mods.refl _ w) (.inl rfl) 0 1 2 3 4 5 6 7 8 9 10 11 c0 c1 c2 c3 c4 c5 c6 c7 c8 c9 c10 c11).block c (Array.getElem?_eq_some_iff.1 h).1 hb).trans h
/-- What a bad argument leaves: the action, and the call that bears it. -/
def WrongPost (w : World) (c : Nat) (nm : ByteArray) (av : Value) (t : ByteArray) (e : Ending) (w' : World) : Prop :=
  ∃ so cap, e = .returned (acV 2 0 V.nil (.slice so 1 cap) ⟨#[]⟩ 1 0 (.slice none 0 0)) ∧ w'.ownsRow w.heap.size 30 5 (.slice so 1 cap) 1 (rowV [strV t]) ∧ w'.heap[c]? = some (oCb nm av V.nil true 2 0 (.slice so 1 cap) ⟨#[]⟩ 1 0 (.slice none 0 0)) ∧ Mods (fun k => k = c) w w'
abbrev badT (D nm r : ByteArray) : ByteArray := (((((⟨#[98, 97, 100, 32, 97, 114, 103, 117, 109, 101, 110, 116, 32, 35]⟩ ++ D) ++ ⟨#[32, 116, 111, 32, 39]⟩) ++ nm) ++ ⟨#[39, 32, 40]⟩) ++ r) ++ ⟨#[41]⟩
theorem act_mono {F G : Nat → Prop} {w : World} {kind op : Int} {f : V} {A : List V} {s : ByteArray} {level next : Int} {K : List V} {e : Ending} {w' : World} (h : ActPost F w kind op f A s level next K e w') (hFG : ∀ k, k < w.heap.size → F k → G k) : ActPost G w kind op f A s level next K e w' := by
  obtain ⟨so, cap, sk, ck, h1, h2, h3, h4⟩ := h
  exact ⟨so, cap, sk, ck, h1, h2, h3, Mods.mono h4 hFG⟩
abbrev outT : ByteArray := ⟨#[105, 110, 100, 101, 120, 32, 111, 117, 116, 32, 111, 102, 32, 114, 97, 110, 103, 101]⟩
theorem vals_two (w : World) (a b : V) : Vals (w.alloc (.cells #[.int .i64 a.k, .int .i64 a.p, .int .i64 a.q, .string a.s, .int .i64 a.r, .int .i64 b.k, .int .i64 b.p, .int .i64 b.q, .string b.s, .int .i64 b.r] 30)) (.slice (some ⟨w.heap.size, 0, none⟩) 2 2) [a, b] := by
  refine ⟨some ⟨w.heap.size, 0, none⟩, 2, rfl, Nat.le_refl _, (fun h => by cases h), .inr ⟨w.heap.size, 0, rfl, by simp, fun j u hj => ?_⟩⟩
  rw [cell_of_heap (heap_new w _), Nat.zero_add]
  have h5 : j < 10 := by
    have := (List.getElem?_eq_some_iff.1 hj).1
    rw [rowV_len] at this
    simpa using this
  rw [← hj]
  match j, h5 with
  | 0, _ => rfl
  | 1, _ => rfl
  | 2, _ => rfl
  | 3, _ => rfl
  | 4, _ => rfl
  | 5, _ => rfl
  | 6, _ => rfl
  | 7, _ => rfl
  | 8, _ => rfl
  | 9, _ => rfl
theorem btrim_c (w : World) (s : ByteArray) (hs : s.size ≤ 2000000000) : Calls Tryz.prog 108 #[.string s, .string ⟨#[32, 9, 10, 13]⟩] w (TrimPost w (trimG (bytesOf s))) := by
  have hcon := Any.strings_Trim_laid Tryz.lays160 (by kernel_rfl) s ⟨#[32, 9, 10, 13]⟩ w (by omega) (by decide) ascii4
  change Calls Tryz.prog 108 _ _ (fun e w' => e = .returned (.string ⟨(Lib.trimS s.data.toList [32, 9, 10, 13]).toArray⟩) ∧ Below w.heap.size w w') at hcon
  refine hcon.mono ?_
  rintro e w1 ⟨rfl, hb⟩
  exact ⟨⟨_, rfl, trim_bytes s⟩, hb⟩
def ResB (w : World) (A : List V) (b : Bool) (e : Ending) (w' : World) : Prop :=
  ∃ so cap, e = .returned (.tuple #[.slice so A.length cap, .bool b]) ∧ w'.ownsRow w.heap.size 30 5 (.slice so A.length cap) A.length (rowV A) ∧ Below w.heap.size w w'
abbrev selN : ByteArray := ⟨#[115, 101, 108, 101, 99, 116]⟩
abbrev tonN : ByteArray := ⟨#[116, 111, 110, 117, 109, 98, 101, 114]⟩
abbrev pcaN : ByteArray := ⟨#[112, 99, 97, 108, 108]⟩
theorem selN_last : Lib.lastIndexByte selN 46 = -1 := by kernel_rfl
theorem tonN_last : Lib.lastIndexByte tonN 46 = -1 := by kernel_rfl
theorem pcaN_last : Lib.lastIndexByte pcaN 46 = -1 := by kernel_rfl
theorem vals_lit (w : World) (A : List V) : Vals (w.alloc (.cells (rowV A).toArray 30)) (.slice (some ⟨w.heap.size, 0, none⟩) A.length A.length) A := by
  refine ⟨some ⟨w.heap.size, 0, none⟩, A.length, rfl, Nat.le_refl _, (fun h => by cases h), .inr ⟨w.heap.size, 0, rfl, by simp, fun j u hj => ?_⟩⟩
  rw [cell_of_heap (heap_new w _), Nat.zero_add, List.getElem?_toArray]
  exact hj
theorem twelve_new {w : World} {b : Nat} {c0 c1 c2 c3 c4 c5 c6 c7 c8 c9 c10 c11 : Value} {t : TypeId} {fz : Nat × Nat} (h : w.heap[b]? = some (.cells #[c0, c1, c2, c3, c4, c5, c6, c7, c8, c9, c10, c11] t fz)) (d0 d1 d2 d3 d4 d5 d6 d7 d8 d9 d10 d11 : Value) :
    ((((((((((((w.setCell ⟨b, 0, none⟩ d0).setCell ⟨b, 1, none⟩ d1).setCell ⟨b, 2, none⟩ d2).setCell ⟨b, 3, none⟩ d3).setCell ⟨b, 4, none⟩ d4).setCell ⟨b, 5, none⟩ d5).setCell ⟨b, 6, none⟩ d6).setCell ⟨b, 7, none⟩ d7).setCell ⟨b, 8, none⟩ d8).setCell ⟨b, 9, none⟩ d9).setCell ⟨b, 10, none⟩ d10).setCell ⟨b, 11, none⟩ d11).heap[b]? = some (.cells #[d0, d1, d2, d3, d4, d5, d6, d7, d8, d9, d10, d11] t fz) := by
  replace h := heap_setCell_same h 0 d0
  change _ = some (Obj.cells #[d0, c1, c2, c3, c4, c5, c6, c7, c8, c9, c10, c11] t fz) at h
  replace h := heap_setCell_same h 1 d1
  change _ = some (Obj.cells #[d0, d1, c2, c3, c4, c5, c6, c7, c8, c9, c10, c11] t fz) at h
  replace h := heap_setCell_same h 2 d2
  change _ = some (Obj.cells #[d0, d1, d2, c3, c4, c5, c6, c7, c8, c9, c10, c11] t fz) at h
  replace h := heap_setCell_same h 3 d3
  change _ = some (Obj.cells #[d0, d1, d2, d3, c4, c5, c6, c7, c8, c9, c10, c11] t fz) at h
  replace h := heap_setCell_same h 4 d4
  change _ = some (Obj.cells #[d0, d1, d2, d3, d4, c5, c6, c7, c8, c9, c10, c11] t fz) at h
  replace h := heap_setCell_same h 5 d5
  change _ = some (Obj.cells #[d0, d1, d2, d3, d4, d5, c6, c7, c8, c9, c10, c11] t fz) at h
  replace h := heap_setCell_same h 6 d6
  change _ = some (Obj.cells #[d0, d1, d2, d3, d4, d5, d6, c7, c8, c9, c10, c11] t fz) at h
  replace h := heap_setCell_same h 7 d7
  change _ = some (Obj.cells #[d0, d1, d2, d3, d4, d5, d6, d7, c8, c9, c10, c11] t fz) at h
  replace h := heap_setCell_same h 8 d8
  change _ = some (Obj.cells #[d0, d1, d2, d3, d4, d5, d6, d7, d8, c9, c10, c11] t fz) at h
  replace h := heap_setCell_same h 9 d9
  change _ = some (Obj.cells #[d0, d1, d2, d3, d4, d5, d6, d7, d8, d9, c10, c11] t fz) at h
  replace h := heap_setCell_same h 10 d10
  change _ = some (Obj.cells #[d0, d1, d2, d3, d4, d5, d6, d7, d8, d9, d10, c11] t fz) at h
  replace h := heap_setCell_same h 11 d11
  change _ = some (Obj.cells #[d0, d1, d2, d3, d4, d5, d6, d7, d8, d9, d10, d11] t fz) at h
  exact h
abbrev prV : V := ⟨6, 0, 0, ⟨#[112, 114, 105, 110, 116]⟩, 0⟩
abbrev nV (n : Int) : V := ⟨2, n, 1, ⟨#[]⟩, 0⟩
theorem ff_trim (W : World) : Calls Tryz.prog 108 #[.string ⟨#[102, 102]⟩, .string ⟨#[32, 9, 10, 13]⟩] W (fun e w' => e = .returned (.string ⟨#[102, 102]⟩) ∧ Below W.heap.size W w') := by
  refine (btrim_c W ⟨#[102, 102]⟩ (by decide)).mono ?_
  rintro e w1 ⟨⟨r, rfl, hr⟩, hb⟩
  have : r = ⟨#[102, 102]⟩ := bytesOf_inj (hr.trans (by kernel_rfl))
  subst this
  exact ⟨rfl, hb⟩
theorem ff_dig : dgOut ⟨#[102, 102]⟩ (dgM 16 (bytesOf ⟨#[102, 102]⟩) 0) = (((255 : Nat) : Int), true) := by kernel_rfl
theorem prj5b {c0 c1 c2 c3 c4 p : Prop} (h : c0 ∧ c1 ∧ c2 ∧ c3 ∧ c4 ∧ Hid p) : p := h.2.2.2.2.2.out
theorem prj15c {c0 c1 c2 c3 c4 c5 c6 c7 c8 c9 c10 c11 c12 c13 c14 p : Prop} (h : c0 ∧ c1 ∧ c2 ∧ c3 ∧ c4 ∧ c5 ∧ c6 ∧ c7 ∧ c8 ∧ c9 ∧ c10 ∧ c11 ∧ c12 ∧ c13 ∧ c14 ∧ Hid p) : p := h.2.2.2.2.2.2.2.2.2.2.2.2.2.2.2.out
theorem grown_refl (w : World) (r : Option Nat) : w.grownBy w r := ⟨rfl, rfl, rfl, Nat.le_refl _, fun _ _ _ => rfl⟩
theorem below_grown {B : Nat} {a W w' : World} {r : Option Nat} (h : Below B a W) (k : W.grownBy w' r) (hB : B ≤ W.heap.size) (hr : ∀ g, r = some g → B ≤ g) : Below B a w' :=
  ⟨k.os.trans h.os, k.tape.trans h.tape, k.output.trans h.output, Nat.le_trans h.size k.size, fun i hi => (k.block i (by omega) (fun e => by have := hr i e.symm; omega)).trans (h.block i hi)⟩
set_option maxRecDepth 100000 in
set_option maxHeartbeats 2000000 in
theorem row_lit (w : World) (A : List V) (hl : A.length ≤ 1000000) : (w.alloc (.cells (rowV A).toArray 30)).ownsRow w.heap.size 30 5 (.slice (some ⟨w.heap.size, 0, none⟩) A.length A.length) A.length (rowV A) := by
  refine ⟨rowV_len A, .inr ⟨w.heap.size, A.length, (rowV A).toArray, rfl, Nat.le_refl _, heap_new w _, Nat.le_refl _, by unfold maxLen; omega, by rw [List.size_toArray, rowV_len], ?_⟩⟩
  show (rowV A).take (A.length * 5) = rowV A
  rw [← rowV_len, List.take_length]
theorem row_cons {w : World} {base : Nat} {so : Option Addr} {cap : Nat} {x : V} {A : List V} (h : w.ownsRow base 30 5 (.slice so (1 + A.length) cap) (1 + A.length) (rowV [x] ++ rowV A)) : Vals w (.slice so (1 + A.length) cap) (x :: A) := by
  have e : 1 + A.length = (x :: A).length := by rw [List.length_cons]; omega
  rw [e] at h ⊢
  rw [← rowV_append] at h
  exact Vals.of_row h
theorem vals_len {w : World} {so : Option Addr} {n m cap : Nat} {A : List V} (h : Vals w (.slice so n cap) A) (e : n = m) : Vals w (.slice so m cap) A := e ▸ h
theorem vals_gone (w : World) {A : List V} {lo : Nat} (h : A.length ≤ lo) (ad : Addr) (cap : Nat) : Vals w (.slice (some ad) (A.length - lo) cap) (A.drop lo) := by
  rw [List.drop_eq_nil_of_le h, show A.length - lo = 0 by omega]
  exact Vals.empty _ _ _
theorem vals_gone0 (w : World) {A : List V} {lo : Nat} (h : A.length ≤ lo) : Vals w (.slice none (A.length - lo) 0) (A.drop lo) := by
  rw [List.drop_eq_nil_of_le h, show A.length - lo = 0 by omega]
  exact Vals.nilslice _
theorem Vals.case {w : World} {so : Option Addr} {n cap : Nat} {A : List V} (h : Vals w (.slice so n cap) A) : (A = [] ∧ so = none ∧ cap = 0) ∨ (A = [] ∧ ∃ ad, so = some ad) ∨ (A ≠ [] ∧ ∃ g o, so = some ⟨g, o, none⟩) := by
  obtain ⟨s, c, e, h1, h2, h3⟩ := h
  injection e with e1 e2 e3
  subst e1 e3
  rcases h3 with h3 | ⟨g, o, h4, _⟩
  · rcases so with _ | ad
    · exact .inl ⟨h3, rfl, h2 rfl⟩
    · exact .inr (.inl ⟨h3, ad, rfl⟩)
  · by_cases hA : A = []
    · exact .inr (.inl ⟨hA, _, h4⟩)
    · exact .inr (.inr ⟨hA, g, o, h4⟩)
theorem vals_zero {w : World} {so : Option Addr} {cap : Nat} {A : List V} (h : Vals w (.slice so (A.drop A.length).length cap) (A.drop A.length)) : Vals w (.slice so 0 cap) [] := by
  rw [List.drop_length] at h
  exact h
end Go.Proofs.YtalfoihffnlelaaGreatDoor
namespace Go.Proofs.YtalfoihffnlelaaGreatDoor
open Go.ChangeShapes Go.WideShapes Go.ChangeAt Go.WideMaps Go.WideElems Go.RowKit
abbrev laidS : List (String × DataW Unit) := [("math/bits.deBruijn32tab", Rows.laid_math_bits_deBruijn32tab), ("math/bits.deBruijn64tab", Rows.laid_math_bits_deBruijn64tab), ("internal/strconv.uint64pow10", Rows.laid_internal_strconv_uint64pow10), ("unicode/utf8.acceptRanges", Rows.laid_unicode_utf8_acceptRanges), ("unicode.White_Space", Rows.laid_unicode_White_Space), ("strings.asciiSpace", Rows.laid_strings_asciiSpace), ("unicode/utf8.first", Rows.laid_unicode_utf8_first)]
theorem Tryz.tSpc : ∃ g, Tryz.prog.globalNamed "strings.asciiSpace" = some g ∧ (Tryz.prog.globals[g]?).map (·.type) = some 137 := by
  refine ⟨(Tryz.prog.globalNamed "strings.asciiSpace").getD 0, ?_, ?_⟩ <;> kernel_rfl
theorem Tryz.cSpc : Tryz.prog.cellsOf 137 = 256 := by kernel_rfl
theorem Tryz.c8 : Tryz.prog.cellsOf 5 = 1 := by kernel_rfl
set_option maxRecDepth 100000 in
theorem tabs_of_laid {W : World} (h : laidMetH Tryz.prog laidS W) : Pow10 W ∧ Spaces W := by
  rw [MakeChecks.laidMetH_plain _ _ _ (by kernel_rfl)] at h
  obtain ⟨ps, ⟨g0, t0, cs0, f0, p0, q0, _, _, _, _, ⟨g1, t1, cs1, f1, p1, q1, _, _, _, _, ⟨g2, t2, cs2, f2, p2, q2, hg2, ht2, hv2, hd2, ⟨g3, t3, cs3, f3, p3, q3, _, _, _, _, ⟨g4, t4, cs4, f4, p4, q4, _, _, _, _, ⟨g5, t5, cs5, f5, p5, q5, hg5, ht5, hv5, hd5, _, _⟩, _⟩, _⟩, _⟩, _⟩, _⟩, _, _⟩ := h
  constructor
  · obtain ⟨g, hg, ht⟩ := Tryz.tPow
    obtain rfl := Option.some.inj (hg.symm.trans hg2)
    obtain rfl := Option.some.inj (ht.symm.trans ht2)
    unfold Pow10 Lib.TabIs
    rw [hv2, ← Lib.cells_of_tab (k := .u64) (zs := Lib.pow10Tab) Tryz.underlying131 Tryz.underlying97 Tryz.c64 Tryz.cPow hd2]
  · obtain ⟨g, hg, ht⟩ := Tryz.tSpc
    obtain rfl := Option.some.inj (hg.symm.trans hg5)
    obtain rfl := Option.some.inj (ht.symm.trans ht5)
    unfold Spaces Lib.TabIs
    rw [hv5, ← Lib.cells_of_tab (k := .u8) (zs := Lib.asciiSpaceTab) Tryz.underlying137 Tryz.underlying5 Tryz.c8 Tryz.cSpc hd5]
set_option maxRecDepth 100000 in
theorem door_metS (os : Os) (args : Array Value) : laidMetH Tryz.prog laidS ((World.laidAll Tryz.prog os laidS).forCall (fun _ _ => 0) ⟨#[], args, []⟩).memory := by
  rw [MakeChecks.laidMetH_plain _ _ _ (by kernel_rfl)]
  exact laidMet_laidAll _ (by kernel_rfl) (by kernel_rfl)
set_option maxRecDepth 100000 in
/-- From the walk of a law, in any memory that is shaped and holds the tables, to the lifted statement. -/
theorem liftS (os : Os) (started : os.Started) (H : Type) (enc : TypeId × Value → H) {f : FuncId} {fn : Func} {s : ChangeSpec} (noInit : Tryz.prog.inits.idxOf? f = none) (hfn : Tryz.prog.funcs[f]? = some fn)
    (witness : ∃ (w : World) (tape : Tape) (i : Input), w.os = os ∧ (w.forCall tape i).Shaped Tryz.prog ∧ i.vars = [] ∧ Input.okWide Tryz.prog (w.forCall tape i) .any w.heap.size f i ∧
      ((s.pre enc Tryz.prog fn [] false (w.forCall tape i).memory i.args ∧ laidMetH Tryz.prog laidS (w.forCall tape i).memory) ∧ sizedMet enc Tryz.prog fn (OpenSpec.ofChange s) false (w.forCall tape i).memory i.args) ∧ ({} : Assume).holds Tryz.prog (lone (Frame.enter Tryz.prog f i.args .normal) [] (w.forCall tape i)))
    (law : ∀ (W : World) (base : Nat) (args : Array Value) (ds gs : List (DataW H)) (before : List MemPlace), Glob W ∧ Spaces W → (∀ (j : Nat) t v, fn.params[j]? = some t → args[j]? = some v → Value.okWide Tryz.prog W .any base t v) →
      DataW.Whole enc Tryz.prog fn.params.toList s.vars false W args.toList ds gs before → Calls Tryz.prog f args W fun e W' => ∃ v, e = .returned v ∧ s.post enc Tryz.prog fn false true false false W args v W') :
    ReturnsInHanded {} Tryz.checked os f .any (fun w args => (s.pre enc Tryz.prog fn [] false w args ∧ laidMetH Tryz.prog laidS w) ∧ sizedMet enc Tryz.prog fn (OpenSpec.ofChange s) false w args) (s.post enc Tryz.prog fn false true false false) := by
  refine returnsInHanded_of_calls (C := Tryz.checked) Tryz.own started noInit witness ?_
  intro w tape i _ hs _ hok hpre _
  obtain ⟨_, _, _, fn', hfn', _, _, _, _, hval⟩ := hok
  obtain rfl : fn' = fn := Option.some.inj (hfn'.symm.trans hfn)
  obtain ⟨⟨⟨ds, gs, before, hw, _⟩, hx⟩, _⟩ := hpre
  have hw2 := DataW.Whole.of_heap (w' := w.forCall tape i) (by rfl) hw
  have hx2 : laidMetH Tryz.prog laidS (w.forCall tape i) := hx.of_heap (by rfl)
  refine (law (w.forCall tape i) w.heap.size i.args ds gs before ⟨⟨glob_zero hs, (tabs_of_laid hx2).1⟩, (tabs_of_laid hx2).2⟩ hval hw2).mono fun e W' ⟨v, he, hp⟩ => ?_
  subst he
  exact ChangeSpec.post_blind hp
end Go.Proofs.YtalfoihffnlelaaGreatDoor
namespace Go.Proofs.Lexi
open Go
section
variable {P : Program} {ops : Array Oper} {Q : Exit → Act → World → Prop}
/-- A REGION THAT DRAWS, WALKED IN THE ORDER OF ITS TEXT. -/
theorem wp_region_lex {id : Nat} {l : List Oper} {a : Act} {w : World} (hm : P.follows .mixedOrders = true) (hB : lexCheck P l.toArray (Region.before l.toArray) = true)
    (h : wpList P l.toArray (Behind l.toArray Q) l a w.drew) : (Code.region id l.toArray true).wp P Q a w := by
  have hQ : OnlyN (Behind l.toArray Q) := fun e a w h => by cases e <;> first | rfl | exact h.elim
  refine Code.wp_mono (Q := Behind l.toArray Q) (fun e a w h => by cases e <;> first | exact h.2 | exact h.elim) ?_
  refine wp_region_any hm ?_
  refine any_of_lex (lexed_of hB) hQ (fun a w h => h.1) l.toArray.size 0 _ a _ (by simp) (by simp) (fun x hx => by
    simp only [Array.getD_eq_getD_getElem?, Array.getElem?_replicate, Nat.not_lt_zero, decide_false]
    split <;> rfl) ?_
  have := wpOps_eq_wpList (P := P) (ops := l.toArray) (Q := Behind l.toArray Q) l 0 (by simp)
  simp only [List.size_toArray]
  rw [this]
  exact h
end
end Go.Proofs.Lexi
namespace Go.Proofs.YtalfoihffnlelaaGreatDoor
open Go.RowKit Go.Proofs.Lexi
set_option maxHeartbeats 400000 in
theorem gcd_c (w : World) (x y : Int) (a b : Nat) (hx : x = a) (hy : y = b) (ha : a ≤ 9223372036854775807) (hb : b ≤ 9223372036854775807) :
    Calls Tryz.prog 123 #[.int .i64 x, .int .i64 y] w (PureP w (.int .i64 (Nat.gcd a b : Nat))) := by
  subst hx hy
  obtain ⟨G, hG⟩ : ∃ G, G = Nat.gcd a b := ⟨_, rfl⟩
  rw [← hG]
  have HG := Lib.hid hG.symm
  clear hG
  go_enter Tryz.func123, Tryz.ntmps123
  go_wp2
  go_loopg [0, 1] b (fun gg u v wr => ∃ x y n : Nat, wr = w.drewN n ∧ y = gg ∧ u = .int .i64 (x : Int) ∧ v = .int .i64 (y : Int) ∧ x ≤ 9223372036854775807 ∧ y ≤ 9223372036854775807 ∧ Hid (Nat.gcd x y = G))
  case atStart => exact ⟨a, b, 0, rfl, rfl, rfl, rfl, ha, hb, HG⟩
  case round =>
    obtain ⟨x, y, n, rfl, rfl, rfl, rfl, h1, h2, h3⟩ := hrel
    by_cases h0 : y = 0
    · subst h0
      have HX := Lib.hid (show (x : Int) = G from by have := h3.out; rw [Nat.gcd_zero_right] at this; omega)
      go_wp2
      go_ret
      exact ⟨ret_int HX.out, n, rfl⟩
    · have t0 : ((y : Int) != 0) = true := by rw [bne_iff_ne]; omega
      have hy0 : 0 < y := by omega
      have hm := Nat.mod_lt x hy0
      have HN := Lib.hid (show Nat.gcd y (x % y) = G from by rw [← h3.out, Nat.gcd_comm x y]; exact (Nat.gcd_rec y x).symm ▸ (Nat.gcd_comm _ _))
      clear h0
      go_wp2
      refine wp_region_lex mixed (by kernel_rfl) ?_
      go_wp2
      refine ⟨by kernel_rfl, ?_⟩
      go_wp2
      go_roundg (x % y)
      case measure => omega
      case rel => exact ⟨y, x % y, _, rfl, rfl, rfl, (by first | rfl | simp), h2, by omega, HN⟩
set_option maxRecDepth 100000 in
set_option maxHeartbeats 1000000 in
theorem rvalid_c (w : World) (p q : Int) : Calls Tryz.prog 87 #[.agg #[.int .i64 p, .int .i64 q]] w (BoolPost w (validN (p, q))) := by
  have HB := Lib.hid (below_num0 w (.cells #[.int .i64 p, .int .i64 q] 28))
  by_cases h : 1 ≤ q ∧ q ≤ 2147483647 ∧ -2147483647 ≤ p ∧ p ≤ 2147483647
  · obtain ⟨h1, h2, h3, h4⟩ := h
    have HGC := Lib.hid (fun W x y hx hy => gcd_c W x y p.natAbs q.natAbs hx hy (by omega) (by omega))
    obtain ⟨D, hD⟩ : ∃ D, D = Nat.gcd p.natAbs q.natAbs := ⟨_, rfl⟩
    have HV := Lib.hid (validN_good h1 h2 h3 h4 hD.symm)
    have HDD := Lib.hid hD.symm
    clear hD
    go_enter Tryz.func87, Tryz.ntmps87
    go_wp2_with fail
    all_goals
      refine (HGC.out _ _ _ (by omega) (by omega)).mono ?_
      rw [HDD.out]
      rintro e w1 ⟨rfl, n, rfl⟩
      go_wp2
      go_ret
      exact bool_done HV.out.symm (bdn HB.out n)
  · have HV := Lib.hid (validN_bad (p := p) (q := q) (by omega))
    have hc : q < 1 ∨ (1 ≤ q ∧ 2147483647 < q) ∨ (1 ≤ q ∧ q ≤ 2147483647 ∧ p < -2147483647) ∨ (1 ≤ q ∧ q ≤ 2147483647 ∧ -2147483647 ≤ p ∧ 2147483647 < p) := by omega
    clear h
    rcases hc with k1 | ⟨k1, k2⟩ | ⟨k1, k2, k3⟩ | ⟨k1, k2, k3, k4⟩
    all_goals
      go_enter Tryz.func87, Tryz.ntmps87
      go_wp2
      go_ret
      exact bool_done HV.out.symm HB.out
set_option maxHeartbeats 400000 in
theorem sgcd_c (w : World) (x y : Int) (a b : Nat) (hx : x = a) (hy : y = b) (ha : a ≤ 9223372036854775807) (hb : b ≤ 9223372036854775807) :
    Calls Tryz.prog 33 #[.int .i64 x, .int .i64 y] w (PureP w (.int .i64 (Nat.gcd a b : Nat))) := by
  subst hx hy
  obtain ⟨G, hG⟩ : ∃ G, G = Nat.gcd a b := ⟨_, rfl⟩
  rw [← hG]
  have HG := Lib.hid hG.symm
  clear hG
  go_enter Tryz.func33, Tryz.ntmps33
  go_wp2
  go_loopg [0, 1] b (fun gg u v wr => ∃ x y n : Nat, wr = w.drewN n ∧ y = gg ∧ u = .int .i64 (x : Int) ∧ v = .int .i64 (y : Int) ∧ x ≤ 9223372036854775807 ∧ y ≤ 9223372036854775807 ∧ Hid (Nat.gcd x y = G))
  case atStart => exact ⟨a, b, 0, rfl, rfl, rfl, rfl, ha, hb, HG⟩
  case round =>
    obtain ⟨x, y, n, rfl, rfl, rfl, rfl, h1, h2, h3⟩ := hrel
    by_cases h0 : y = 0
    · subst h0
      have HX := Lib.hid (show (x : Int) = G from by have := h3.out; rw [Nat.gcd_zero_right] at this; omega)
      go_wp2
      go_ret
      exact ⟨ret_int HX.out, n, rfl⟩
    · have t0 : ((y : Int) != 0) = true := by rw [bne_iff_ne]; omega
      have hy0 : 0 < y := by omega
      have hm := Nat.mod_lt x hy0
      have HN := Lib.hid (show Nat.gcd y (x % y) = G from by rw [← h3.out, Nat.gcd_comm x y]; exact (Nat.gcd_rec y x).symm ▸ (Nat.gcd_comm _ _))
      clear h0
      go_wp2
      refine wp_region_lex mixed (by kernel_rfl) ?_
      go_wp2
      refine ⟨by kernel_rfl, ?_⟩
      go_wp2
      go_roundg (x % y)
      case measure => omega
      case rel => exact ⟨y, x % y, _, rfl, rfl, rfl, (by first | rfl | simp), h2, by omega, HN⟩
set_option maxHeartbeats 400000 in
theorem sabs_c (w : World) (x : Int) (h1 : -9223372036854775807 ≤ x) (h2 : x ≤ 9223372036854775807) : Calls Tryz.prog 34 #[.int .i64 x] w fun e w' => e = .returned (.int .i64 (x.natAbs : Int)) ∧ w' = w := by
  by_cases h : x < 0
  all_goals
    go_enter Tryz.func34, Tryz.ntmps34
    go_wp2
    go_ret
    exact ⟨ret_int (by omega), rfl⟩
set_option maxRecDepth 100000 in
set_option maxHeartbeats 2000000 in
theorem pNumber_two (w : World) (p q : Int) (s : ByteArray) (r : Int) : Calls Tryz.prog 84 #[.agg #[.int .i64 2, .int .i64 p, .int .i64 q, .string s, .int .i64 r]] w (NumPost w (if validN (p, q) then .ok (p, q) else .error 8)) := by
  cases hv : validN (p, q)
  all_goals
    have HV := Lib.hid (fun W => (hv ▸ rvalid_c W p q : Calls Tryz.prog 87 #[.agg #[.int .i64 p, .int .i64 q]] W (BoolPost W _)))
    clear hv
    go_enter Tryz.func84, Tryz.ntmps84
    go_wp2_with fail
    refine (HV.out _).mono ?_
    rintro e w1 ⟨rfl, hb⟩
    obtain ⟨hc, hf⟩ := bcell hb
    have HB1 := Lib.hid (below_next (below2w _ _ _) hb)
    go_wp2
    refine bodyPost_ret (by simp [results, Tryz.results84, go_sem, hc]; first | done | rfl) rfl ?_
    first
    | exact num_err rfl (by first | exact HB1.out | exact below_two HB1.out (by simp <;> omega) _ _)
    | exact num_ok rfl (by first | exact HB1.out | exact below_two HB1.out (by simp <;> omega) _ _)
end Go.Proofs.YtalfoihffnlelaaGreatDoor
