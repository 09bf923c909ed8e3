import Derived.Test.YtpbcmlnjiocmoaaGreatDoorRRng
set_option linter.unusedVariables false
set_option linter.unusedSimpArgs false
set_option maxRecDepth 100000
set_option maxHeartbeats 2000000
namespace Go.Proofs.YtpbcmlnjiocmoaaGreatDoorR
open Go.RowKit Go.Proofs.Lexi
def remM (A : List V) (x : Nat) : List V := A.take x ++ A.drop (x + 1)
def TRemPost (w : World) (t m g : Nat) (sv : Value) (L : List Sl) (av : Value) (A : List V) (v : V) (e : Ending) (w' : World) : Prop :=
  e = .returned (.tuple #[.agg #[.int .i64 v.k, .int .i64 v.p, .int .i64 v.q, .string v.s, .int .i64 v.r], .int .i64 0]) ∧ ∃ av', TabW w' t m g sv L av' A ∧ (∀ b, av'.ownBlock = some b → av.ownBlock = some b ∨ w.heap.size ≤ b) ∧ Mods (TbF t av) w w'
theorem shrink_all : ∀ (A : List V), (∀ v ∈ A, v.k ≠ 0) → shrinkM A = A := fun A h => by
  by_cases hA : A = []
  · subst hA; rfl
  · obtain ⟨B, u, rfl⟩ : ∃ B u, A = B ++ [u] := ⟨_, _, (List.dropLast_concat_getLast hA).symm⟩
    exact shrink_stop (h u (by simp))
theorem rem_eq {A A1 : List V} {x P : Nat} {D : List V} (hP : A.length = P + 1) (hx : x ≤ P) (hA0 : ∀ v ∈ A, v.k ≠ 0) (hA1 : A1 = remM A x ++ D) (hD : D.length = 1) : shrinkM (A1.set P V.nil) = remM A x := by
  obtain ⟨d, rfl⟩ : ∃ d, D = [d] := by
    cases D with
    | nil => simp at hD
    | cons d D => cases D with
      | nil => exact ⟨d, rfl⟩
      | cons _ _ => simp at hD
  have hl : (remM A x).length = P := by
    unfold remM
    simp only [List.length_append, List.length_take, List.length_drop]
    omega
  rw [hA1, List.set_append_right _ _ (by omega), hl, Nat.sub_self]
  show shrinkM (remM A x ++ [V.nil]) = _
  rw [shrink_nil rfl]
  refine shrink_all _ (fun v hv => hA0 v ?_)
  unfold remM at hv
  rcases List.mem_append.1 hv with h | h
  · exact List.mem_of_mem_take h
  · exact List.mem_of_mem_drop h
theorem tb_lt {w : World} {t m g : Nat} {sv av : Value} {L : List Sl} {A : List V} (h : TabW w t m g sv L av A) {b : Nat} (hb : TwF t m g sv av b) : b < w.heap.size := by
  rcases hb with rfl | hb | hb
  · exact (Array.getElem?_eq_some_iff.1 h.ht).1
  · rcases hb with rfl | rfl | hb
    · exact (Array.getElem?_eq_some_iff.1 h.om.hm).1
    · obtain ⟨E, f, ⟨es, c, hE, _⟩, _⟩ := h.om.map
      exact (Array.getElem?_eq_some_iff.1 hE).1
    · exact (ownBlock_lt h.om.row hb).2
  · exact listW_lt h.lw hb
def ListPost (w : World) (A : List V) (e : Ending) (w' : World) : Prop :=
  ∃ so cap, e = .returned (.slice so A.length cap) ∧ w'.ownsRow w.heap.size 30 5 (.slice so A.length cap) A.length (rowV A) ∧ Below w.heap.size w w'
theorem row_shape {w : World} {base : Nat} {e : TypeId} {size n : Nat} {v : Value} {xs : List Value} (h : w.ownsRow base e size v n xs) : ∃ so cap, v = .slice so n cap := by
  rcases h.2 with ⟨rfl, rfl⟩ | ⟨g, cap, cur, rfl, _⟩
  · exact ⟨_, _, rfl⟩
  · exact ⟨_, _, rfl⟩
theorem grown_below {w w' : World} (h : w.grownBy w' none) : Below w.heap.size w w' := ⟨h.os, h.tape, h.output, h.size, fun k hk => h.block k hk (by simp)⟩
/-- An action in parts. -/
abbrev acV (kind op : Int) (f : V) (vs : Value) (s : ByteArray) (level next : Int) (ks : Value) : Value :=
  .agg #[.int .i64 kind, .int .i64 op, .int .i64 f.k, .int .i64 f.p, .int .i64 f.q, .string f.s, .int .i64 f.r, vs, .string s, .int .i64 level, .int .i64 next, ks]
abbrev oAc : Obj := .cells #[.int .i64 0, .int .i64 0, .int .i64 0, .int .i64 0, .int .i64 0, .string ⟨#[]⟩, .int .i64 0, .slice none 0 0, .string ⟨#[]⟩, .int .i64 0, .int .i64 0, .slice none 0 0] 35
theorem cells12 {w : World} {b : Nat} {c0 c1 c2 c3 c4 c5 c6 c7 c8 c9 c10 c11 : Value} {t : TypeId} {fz : Nat × Nat} (h : w.heap[b]? = some (.cells #[c0, c1, c2, c3, c4, c5, c6, c7, c8, c9, c10, c11] t fz)) :
    w.cell? ⟨b, 0, none⟩ = some c0 ∧ w.cell? ⟨b, 1, none⟩ = some c1 ∧ w.cell? ⟨b, 2, none⟩ = some c2 ∧ w.cell? ⟨b, 3, none⟩ = some c3 ∧ w.cell? ⟨b, 4, none⟩ = some c4 ∧ w.cell? ⟨b, 5, none⟩ = some c5 ∧ w.cell? ⟨b, 6, none⟩ = some c6 ∧ w.cell? ⟨b, 7, none⟩ = some c7 ∧ w.cell? ⟨b, 8, none⟩ = some c8 ∧ w.cell? ⟨b, 9, none⟩ = some c9 ∧ w.cell? ⟨b, 10, none⟩ = some c10 ∧ w.cell? ⟨b, 11, none⟩ = some c11 := by
  refine ⟨?_, ?_, ?_, ?_, ?_, ?_, ?_, ?_, ?_, ?_, ?_, ?_⟩ <;> (rw [cell_of_heap h]; rfl)
theorem froz12 {w : World} {b : Nat} {cs : Array Value} {t : TypeId} (h : w.heap[b]? = some (.cells cs t (0, 0))) :
    w.frozen? ⟨b, 0, none⟩ = false ∧ w.frozen? ⟨b, 1, none⟩ = false ∧ w.frozen? ⟨b, 2, none⟩ = false ∧ w.frozen? ⟨b, 3, none⟩ = false ∧ w.frozen? ⟨b, 4, none⟩ = false ∧ w.frozen? ⟨b, 5, none⟩ = false ∧ w.frozen? ⟨b, 6, none⟩ = false ∧ w.frozen? ⟨b, 7, none⟩ = false ∧ w.frozen? ⟨b, 8, none⟩ = false ∧ w.frozen? ⟨b, 9, none⟩ = false ∧ w.frozen? ⟨b, 10, none⟩ = false ∧ w.frozen? ⟨b, 11, none⟩ = false := by
  refine ⟨?_, ?_, ?_, ?_, ?_, ?_, ?_, ?_, ?_, ?_, ?_, ?_⟩ <;> exact frozen_of_heap h _
theorem below_twelve {B : Nat} {a w : World} (h : Below B a w) {b : Nat} (hb : B ≤ b) (c0 c1 c2 c3 c4 c5 c6 c7 c8 c9 c10 c11 : Value) :
    Below B a ((((((((((((w.setCell ⟨b, 0, none⟩ c0).setCell ⟨b, 1, none⟩ c1).setCell ⟨b, 2, none⟩ c2).setCell ⟨b, 3, none⟩ c3).setCell ⟨b, 4, none⟩ c4).setCell ⟨b, 5, none⟩ c5).setCell ⟨b, 6, none⟩ c6).setCell ⟨b, 7, none⟩ c7).setCell ⟨b, 8, none⟩ c8).setCell ⟨b, 9, none⟩ c9).setCell ⟨b, 10, none⟩ c10).setCell ⟨b, 11, none⟩ c11) :=
  (((((((((((h.setCell (p := ⟨b, 0, none⟩) hb c0).setCell (p := ⟨b, 1, none⟩) hb c1).setCell (p := ⟨b, 2, none⟩) hb c2).setCell (p := ⟨b, 3, none⟩) hb c3).setCell (p := ⟨b, 4, none⟩) hb c4).setCell (p := ⟨b, 5, none⟩) hb c5).setCell (p := ⟨b, 6, none⟩) hb c6).setCell (p := ⟨b, 7, none⟩) hb c7).setCell (p := ⟨b, 8, none⟩) hb c8).setCell (p := ⟨b, 9, none⟩) hb c9).setCell (p := ⟨b, 10, none⟩) hb c10).setCell (p := ⟨b, 11, none⟩) hb c11
theorem row_twelve {w : World} {base : Nat} {e : TypeId} {size n : Nat} {v : Value} {xs : List Value} (ho : w.ownsRow base e size v n xs) {b : Nat} (hb : v.ownBlock ≠ some b) (c0 c1 c2 c3 c4 c5 c6 c7 c8 c9 c10 c11 : Value) :
    ((((((((((((w.setCell ⟨b, 0, none⟩ c0).setCell ⟨b, 1, none⟩ c1).setCell ⟨b, 2, none⟩ c2).setCell ⟨b, 3, none⟩ c3).setCell ⟨b, 4, none⟩ c4).setCell ⟨b, 5, none⟩ c5).setCell ⟨b, 6, none⟩ c6).setCell ⟨b, 7, none⟩ c7).setCell ⟨b, 8, none⟩ c8).setCell ⟨b, 9, none⟩ c9).setCell ⟨b, 10, none⟩ c10).setCell ⟨b, 11, none⟩ c11).ownsRow base e size v n xs := by
  have h : ∀ j, v.ownBlock ≠ some (⟨b, j, none⟩ : Addr).block := fun _ => hb
  exact (ownsRow_set (ownsRow_set (ownsRow_set (ownsRow_set (ownsRow_set (ownsRow_set (ownsRow_set (ownsRow_set (ownsRow_set (ownsRow_set (ownsRow_set (ownsRow_set ho (h _) c0) (h _) c1) (h _) c2) (h _) c3) (h _) c4) (h _) c5) (h _) c6) (h _) c7) (h _) c8) (h _) c9) (h _) c10) (h _) c11)
def RetPost (w : World) (A : List V) (e : Ending) (w' : World) : Prop :=
  ∃ so cap, e = .returned (acV 1 0 V.nil (.slice so A.length cap) ⟨#[]⟩ 0 0 (.slice none 0 0)) ∧ w'.ownsRow w.heap.size 30 5 (.slice so A.length cap) A.length (rowV A) ∧ Below w.heap.size w w'
theorem vals_one (w : World) (v : V) : Vals (w.alloc (.cells #[.int .i64 v.k, .int .i64 v.p, .int .i64 v.q, .string v.s, .int .i64 v.r] 30)) (.slice (some ⟨w.heap.size, 0, none⟩) 1 1) [v] := by
  refine ⟨some ⟨w.heap.size, 0, none⟩, 1, rfl, Nat.le_refl _, (fun h => by cases h), .inr ⟨w.heap.size, 0, rfl, by simp, fun j u hj => ?_⟩⟩
  rw [cell_of_heap (heap_new w _), Nat.zero_add]
  have h5 : j < 5 := by
    have := (List.getElem?_eq_some_iff.1 hj).1
    rw [rowV_len] at this
    simpa using this
  rw [← hj]
  match j, h5 with
  | 0, _ => rfl
  | 1, _ => rfl
  | 2, _ => rfl
  | 3, _ => rfl
  | 4, _ => rfl
def FailPost (w : World) (v : V) (level : Int) (e : Ending) (w' : World) : Prop :=
  ∃ so cap, e = .returned (acV 2 0 V.nil (.slice so 1 cap) ⟨#[]⟩ level 0 (.slice none 0 0)) ∧ w'.ownsRow w.heap.size 30 5 (.slice so 1 cap) 1 (rowV [v]) ∧ Below w.heap.size w w'
theorem Vals.some_of {w : World} {so : Option Addr} {n cap : Nat} {A : List V} (h : Vals w (.slice so n cap) A) (hne : A ≠ []) : ∃ g o, so = some ⟨g, o, none⟩ := by
  obtain ⟨s, c, e, _, _, h⟩ := h
  injection e with e _ _
  rcases h with h | ⟨g, o, h, _⟩
  · exact absurd h hne
  · exact ⟨g, o, e.trans h⟩
def ActPost (F : Nat → Prop) (w : World) (kind op : Int) (f : V) (A : List V) (s : ByteArray) (level next : Int) (K : List V) (e : Ending) (w' : World) : Prop :=
  ∃ so cap sk ck, e = .returned (acV kind op f (.slice so A.length cap) s level next (.slice sk K.length ck)) ∧ w'.ownsRow w.heap.size 30 5 (.slice so A.length cap) A.length (rowV A) ∧ w'.ownsRow w.heap.size 30 5 (.slice sk K.length ck) K.length (rowV K) ∧ Mods F w w'
def NoF (_ : Nat) : Prop := False
theorem mods_below {w w' : World} (h : Mods NoF w w') : Below w.heap.size w w' := Mods.below h (Nat.le_refl _) (fun _ _ h => h)
theorem mods_alloc {F : Nat → Prop} {a b : World} (h : Mods F a b) (o : Obj) : Mods F a (b.alloc o) := mods_next h (below1 b o)
theorem mods_twelve {F : Nat → Prop} {a w : World} (h : Mods F a w) {b : Nat} (hb : F b ∨ a.heap.size ≤ b) (o0 o1 o2 o3 o4 o5 o6 o7 o8 o9 o10 o11 : Nat) (c0 c1 c2 c3 c4 c5 c6 c7 c8 c9 c10 c11 : Value) :
    Mods F a ((((((((((((w.setCell ⟨b, o0, none⟩ c0).setCell ⟨b, o1, none⟩ c1).setCell ⟨b, o2, none⟩ c2).setCell ⟨b, o3, none⟩ c3).setCell ⟨b, o4, none⟩ c4).setCell ⟨b, o5, none⟩ c5).setCell ⟨b, o6, none⟩ c6).setCell ⟨b, o7, none⟩ c7).setCell ⟨b, o8, none⟩ c8).setCell ⟨b, o9, none⟩ c9).setCell ⟨b, o10, none⟩ c10).setCell ⟨b, o11, none⟩ c11) := by
  exact mods_setCell (mods_setCell (mods_setCell (mods_setCell (mods_setCell (mods_setCell (mods_setCell (mods_setCell (mods_setCell (mods_setCell (mods_setCell (mods_setCell h hb c0) hb c1) hb c2) hb c3) hb c4) hb c5) hb c6) hb c7) hb c8) hb c9) hb c10) hb c11
theorem row_away {w : World} {B e size n : Nat} {v : Value} {xs : List Value} (ho : w.ownsRow B e size v n xs) {b : Nat} (hb : b < B) : v.ownBlock ≠ some b := fun h => by
  have := (ownBlock_lt ho h).1
  omega
theorem act_end {F : Nat → Prop} {w W : World} {b B : Nat} {A K : List V} {so sk : Option Addr} {cap ck : Nat} {kind op level next : Int} {f : V} {s : ByteArray}
    (ho : W.ownsRow B 30 5 (.slice so A.length cap) A.length (rowV A)) (hk : W.ownsRow B 30 5 (.slice sk K.length ck) K.length (rowV K)) (hm : Mods F w W) (hw : w.heap.size ≤ b) (hb : b < B) (c0 c1 c2 c3 c4 c5 c6 c7 c8 c9 c10 c11 : Value) :
    ActPost F w kind op f A s level next K (.returned (acV kind op f (.slice so A.length cap) s level next (.slice sk K.length ck))) ((((((((((((W.setCell ⟨b, 0, none⟩ c0).setCell ⟨b, 1, none⟩ c1).setCell ⟨b, 2, none⟩ c2).setCell ⟨b, 3, none⟩ c3).setCell ⟨b, 4, none⟩ c4).setCell ⟨b, 5, none⟩ c5).setCell ⟨b, 6, none⟩ c6).setCell ⟨b, 7, none⟩ c7).setCell ⟨b, 8, none⟩ c8).setCell ⟨b, 9, none⟩ c9).setCell ⟨b, 10, none⟩ c10).setCell ⟨b, 11, none⟩ c11) :=
  ⟨so, cap, sk, ck, rfl, ownsRow_base (row_twelve ho (row_away ho hb) _ _ _ _ _ _ _ _ _ _ _ _) (by omega), ownsRow_base (row_twelve hk (row_away hk hb) _ _ _ _ _ _ _ _ _ _ _ _) (by omega), mods_twelve hm (.inr hw) 0 1 2 3 4 5 6 7 8 9 10 11 _ _ _ _ _ _ _ _ _ _ _ _⟩
theorem cells16 {w : World} {b : Nat} {c0 c1 c2 c3 c4 c5 c6 c7 c8 c9 c10 c11 c12 c13 c14 c15 : Value} {t : TypeId} {fz : Nat × Nat} (h : w.heap[b]? = some (.cells #[c0, c1, c2, c3, c4, c5, c6, c7, c8, c9, c10, c11, c12, c13, c14, c15] t fz)) :
    w.cell? ⟨b, 0, none⟩ = some c0 ∧ w.cell? ⟨b, 1, none⟩ = some c1 ∧ w.cell? ⟨b, 2, none⟩ = some c2 ∧ w.cell? ⟨b, 3, none⟩ = some c3 ∧ w.cell? ⟨b, 4, none⟩ = some c4 ∧ w.cell? ⟨b, 5, none⟩ = some c5 ∧ w.cell? ⟨b, 6, none⟩ = some c6 ∧ w.cell? ⟨b, 7, none⟩ = some c7 ∧ w.cell? ⟨b, 8, none⟩ = some c8 ∧ w.cell? ⟨b, 9, none⟩ = some c9 ∧ w.cell? ⟨b, 10, none⟩ = some c10 ∧ w.cell? ⟨b, 11, none⟩ = some c11 ∧ w.cell? ⟨b, 12, none⟩ = some c12 ∧ w.cell? ⟨b, 13, none⟩ = some c13 ∧ w.cell? ⟨b, 14, none⟩ = some c14 ∧ w.cell? ⟨b, 15, none⟩ = some c15 := by
  refine ⟨?_, ?_, ?_, ?_, ?_, ?_, ?_, ?_, ?_, ?_, ?_, ?_, ?_, ?_, ?_, ?_⟩ <;> (rw [cell_of_heap h]; rfl)
theorem froz16 {w : World} {b : Nat} {cs : Array Value} {t : TypeId} (h : w.heap[b]? = some (.cells cs t (0, 0))) :
    w.frozen? ⟨b, 0, none⟩ = false ∧ w.frozen? ⟨b, 1, none⟩ = false ∧ w.frozen? ⟨b, 2, none⟩ = false ∧ w.frozen? ⟨b, 3, none⟩ = false ∧ w.frozen? ⟨b, 4, none⟩ = false ∧ w.frozen? ⟨b, 5, none⟩ = false ∧ w.frozen? ⟨b, 6, none⟩ = false ∧ w.frozen? ⟨b, 7, none⟩ = false ∧ w.frozen? ⟨b, 8, none⟩ = false ∧ w.frozen? ⟨b, 9, none⟩ = false ∧ w.frozen? ⟨b, 10, none⟩ = false ∧ w.frozen? ⟨b, 11, none⟩ = false ∧ w.frozen? ⟨b, 12, none⟩ = false ∧ w.frozen? ⟨b, 13, none⟩ = false ∧ w.frozen? ⟨b, 14, none⟩ = false ∧ w.frozen? ⟨b, 15, none⟩ = false := by
  refine ⟨?_, ?_, ?_, ?_, ?_, ?_, ?_, ?_, ?_, ?_, ?_, ?_, ?_, ?_, ?_, ?_⟩ <;> exact frozen_of_heap h _
theorem heap12_old {w : World} {c : Nat} {o : Obj} (h : w.heap[c]? = some o) {b : Nat} (hb : ¬ c = b) (c0 c1 c2 c3 c4 c5 c6 c7 c8 c9 c10 c11 : Value) :
    ((((((((((((w.setCell ⟨b, 0, none⟩ c0).setCell ⟨b, 1, none⟩ c1).setCell ⟨b, 2, none⟩ c2).setCell ⟨b, 3, none⟩ c3).setCell ⟨b, 4, none⟩ c4).setCell ⟨b, 5, none⟩ c5).setCell ⟨b, 6, none⟩ c6).setCell ⟨b, 7, none⟩ c7).setCell ⟨b, 8, none⟩ c8).setCell ⟨b, 9, none⟩ c9).setCell ⟨b, 10, none⟩ c10).setCell ⟨b, 11, none⟩ c11).heap[c]? = some o :=
  ((mods_twelve (F := fun k => k = b) (Mods.refl _ w) (.inl rfl) 0 1 2 3 4 5 6 7 8 9 10 11 c0 c1 c2 c3 c4 c5 c6 c7 c8 c9 c10 c11).block c (Array.getElem?_eq_some_iff.1 h).1 hb).trans h
def tooLong : ByteArray := ⟨#[115, 116, 114, 105, 110, 103, 32, 116, 111, 111, 32, 108, 111, 110, 103]⟩
/-- An action in memory, of blocks from a world on. -/
def ActR (w : World) (kind : Int) (f : V) (A : List V) (s : ByteArray) (level next : Int) (K : List V) (e : Ending) (w' : World) : Prop :=
  ∃ so cap sk ck, e = .returned (acV kind 0 f (.slice so A.length cap) s level next (.slice sk K.length ck)) ∧ w'.ownsRow w.heap.size 30 5 (.slice so A.length cap) A.length (rowV A) ∧ w'.ownsRow w.heap.size 30 5 (.slice sk K.length ck) K.length (rowV K)
theorem ActPost.r {F : Nat → Prop} {w : World} {kind : Int} {f : V} {A : List V} {s : ByteArray} {level next : Int} {K : List V} {e : Ending} {w' : World} (h : ActPost F w kind 0 f A s level next K e w') : ActR w kind f A s level next K e w' ∧ Mods F w w' := by
  obtain ⟨so, cap, sk, ck, h1, h2, h3, h4⟩ := h
  exact ⟨⟨so, cap, sk, ck, h1, h2, h3⟩, h4⟩
theorem grown_refl (w : World) (r : Option Nat) : w.grownBy w r := ⟨rfl, rfl, rfl, Nat.le_refl _, fun _ _ _ => rfl⟩
theorem below_grown {B : Nat} {a W w' : World} {r : Option Nat} (h : Below B a W) (k : W.grownBy w' r) (hB : B ≤ W.heap.size) (hr : ∀ g, r = some g → B ≤ g) : Below B a w' :=
  ⟨k.os.trans h.os, k.tape.trans h.tape, k.output.trans h.output, Nat.le_trans h.size k.size, fun i hi => (k.block i (by omega) (fun e => by have := hr i e.symm; omega)).trans (h.block i hi)⟩
set_option maxRecDepth 100000 in
set_option maxHeartbeats 2000000 in
theorem row_lit (w : World) (A : List V) (hl : A.length ≤ 1000000) : (w.alloc (.cells (rowV A).toArray 30)).ownsRow w.heap.size 30 5 (.slice (some ⟨w.heap.size, 0, none⟩) A.length A.length) A.length (rowV A) := by
  refine ⟨rowV_len A, .inr ⟨w.heap.size, A.length, (rowV A).toArray, rfl, Nat.le_refl _, heap_new w _, Nat.le_refl _, by unfold maxLen; omega, by rw [List.size_toArray, rowV_len], ?_⟩⟩
  show (rowV A).take (A.length * 5) = rowV A
  rw [← rowV_len, List.take_length]
theorem size_data (s : ByteArray) : s.data.toList.length = s.size := by simp
/-- A block that the heap's calls leave. -/
def Held (w : World) (O : Nat → Prop) (b : Nat) (o : Obj) : Prop := w.heap[b]? = some o ∧ ¬ O b
theorem Held.qs {base : Nat} {O O' : Nat → Prop} {w w' : World} {b : Nat} {o : Obj} (h : Held w O b o) (q : QS base O w O' w') (hS : ¬ PB o) : Held w' O' b o := q.keep h.1 hS h.2
theorem npb {cs : Array Value} {t : TypeId} {fz : Nat × Nat} (h : t ≠ 144 ∧ t ≠ 146 ∧ t ≠ 126 ∧ t ≠ 94 ∧ t ≠ 63) : ¬ PB (.cells cs t fz) := fun e => by
  obtain ⟨h1, h2, h3, h4, h5⟩ := h
  rcases e with e | e | e | e | e
  · exact h1 e
  · exact h2 e
  · exact h3 e
  · exact h4 e
  · exact h5 e
theorem Held.below {O : Nat → Prop} {w w' : World} {b : Nat} {o : Obj} (h : Held w O b o) (hb : Below w.heap.size w w') : Held w' O b o := ⟨hkeep hb h.1, h.2⟩
/-- An action, and the heap after it. -/
def PrP (base n : Nat) (O : Nat → Prop) (h : Nat) (M : LH) (AA : List (List V)) (kind : Int) (f : V) (A : List V) (s : ByteArray) (level next : Int) (K : List V) (w : World) (e : Ending) (w' : World) : Prop :=
  ∃ so cap sk ck O', e = .returned (acV kind 0 f (.slice so A.length cap) s level next (.slice sk K.length ck)) ∧ w'.ownsRow w.heap.size 30 5 (.slice so A.length cap) A.length (rowV A) ∧ w'.ownsRow w.heap.size 30 5 (.slice sk K.length ck) K.length (rowV K) ∧ PHp base n w' h M AA O' ∧ QS base O w O' w' ∧ ∀ b, (Value.slice sk K.length ck).ownBlock = some b → ¬ O' b
theorem qs_twelve {base : Nat} {O O' : Nat → Prop} {a w : World} (h : QS base O a O' w) {b : Nat} (hb : a.heap.size ≤ b) (c0 c1 c2 c3 c4 c5 c6 c7 c8 c9 c10 c11 : Value) :
    QS base O a O' ((((((((((((w.setCell ⟨b, 0, none⟩ c0).setCell ⟨b, 1, none⟩ c1).setCell ⟨b, 2, none⟩ c2).setCell ⟨b, 3, none⟩ c3).setCell ⟨b, 4, none⟩ c4).setCell ⟨b, 5, none⟩ c5).setCell ⟨b, 6, none⟩ c6).setCell ⟨b, 7, none⟩ c7).setCell ⟨b, 8, none⟩ c8).setCell ⟨b, 9, none⟩ c9).setCell ⟨b, 10, none⟩ c10).setCell ⟨b, 11, none⟩ c11) :=
  ⟨mods_twelve h.1 (.inr hb) 0 1 2 3 4 5 6 7 8 9 10 11 c0 c1 c2 c3 c4 c5 c6 c7 c8 c9 c10 c11, h.2⟩
theorem PHp.mods {base n : Nat} {w w' : World} {h : Nat} {M : LH} {AA : List (List V)} {O : Nat → Prop} (hP : PHp base n w h M AA O) {b : Nat} {cs : Array Value} (hb : w.heap[b]? = some (.cells cs 35)) (hm : Mods (fun k => k = b) w w') : PHp base n w' h M AA O := by
  obtain ⟨⟨bo, bt, H, h1, h2, h2a, h3, h4, h5⟩, h6⟩ := hP
  refine ⟨⟨bo, bt, H, h1.keepF (fun k hk => hm.block k (hp_lt h1 hk) (fun e => ?_)), h2, h2a, h3, h4, h5⟩, fun k hk => Nat.lt_of_lt_of_le (h6 k hk) hm.size⟩
  subst e
  rcases hp_pb h1 hk with ⟨o, h7, h8⟩ | ⟨_, _, _, _, cur, h7⟩
  · rw [hb] at h7
    injection h7 with h7
    subst h7
    rcases h8 with h8 | h8 | h8 | h8 | h8 <;> exact absurd h8 (by decide)
  · rw [hb] at h7
    injection h7 with h7
    injection h7 with _ h7
    exact absurd h7 (by decide)
/-- The end of a function that hands an action on. -/
theorem prP_end {base n : Nat} {O O' : Nat → Prop} {h : Nat} {M : LH} {AA : List (List V)} {kind : Int} {f : V} {A : List V} {s : ByteArray} {level next : Int} {K : List V} {w W : World} {so sk : Option Addr} {cap ck B b : Nat}
    (ho : W.ownsRow B 30 5 (.slice so A.length cap) A.length (rowV A)) (hk : W.ownsRow B 30 5 (.slice sk K.length ck) K.length (rowV K)) (hP : PHp base n W h M AA O') (hq : QS base O w O' W) {cs : Array Value} (hbx : W.heap[b]? = some (.cells cs 35)) (hw : w.heap.size ≤ b) (hb : b < B) (hwB : w.heap.size ≤ B) (hno : ∀ b, (Value.slice sk K.length ck).ownBlock = some b → ¬ O' b) (c0 c1 c2 c3 c4 c5 c6 c7 c8 c9 c10 c11 : Value) :
    PrP base n O h M AA kind f A s level next K w (.returned (acV kind 0 f (.slice so A.length cap) s level next (.slice sk K.length ck))) ((((((((((((W.setCell ⟨b, 0, none⟩ c0).setCell ⟨b, 1, none⟩ c1).setCell ⟨b, 2, none⟩ c2).setCell ⟨b, 3, none⟩ c3).setCell ⟨b, 4, none⟩ c4).setCell ⟨b, 5, none⟩ c5).setCell ⟨b, 6, none⟩ c6).setCell ⟨b, 7, none⟩ c7).setCell ⟨b, 8, none⟩ c8).setCell ⟨b, 9, none⟩ c9).setCell ⟨b, 10, none⟩ c10).setCell ⟨b, 11, none⟩ c11) :=
  ⟨so, cap, sk, ck, O', rfl, ownsRow_base (row_twelve ho (row_away ho hb) _ _ _ _ _ _ _ _ _ _ _ _) hwB, ownsRow_base (row_twelve hk (row_away hk hb) _ _ _ _ _ _ _ _ _ _ _ _) hwB, hP.mods hbx (mods_twelve (F := fun k => k = b) (Mods.refl _ _) (.inl rfl) 0 1 2 3 4 5 6 7 8 9 10 11 _ _ _ _ _ _ _ _ _ _ _ _), qs_twelve hq hw _ _ _ _ _ _ _ _ _ _ _ _, hno⟩
theorem vals_block {w : World} {b : Nat} {A : List V} {fz : Nat × Nat} (h : w.heap[b]? = some (.cells (rowV A).toArray 30 fz)) : Vals w (.slice (some ⟨b, 0, none⟩) A.length A.length) A :=
  ⟨_, _, rfl, Nat.le_refl _, (fun h => by cases h), .inr ⟨b, 0, rfl, (Array.getElem?_eq_some_iff.1 h).1, fun j u hj => by
    rw [cell_of_heap h, Nat.zero_add, List.getElem?_toArray]
    exact hj⟩⟩
theorem vals_held {w w' : World} {g o n cap : Nat} {A : List V} (h : Vals w (.slice (some ⟨g, o, none⟩) n cap) A) (hg : w'.heap[g]? = w.heap[g]?) (hl : g < w'.heap.size) : Vals w' (.slice (some ⟨g, o, none⟩) n cap) A := by
  obtain ⟨so, c, h1, h2, hn, h3⟩ := h
  refine ⟨so, c, h1, h2, hn, ?_⟩
  rcases h3 with h3 | ⟨g2, o2, h4, h5, h6⟩
  · exact .inl h3
  · injection h1 with h1 _ _
    rw [h4] at h1
    injection h1 with h1
    injection h1 with h1 h7
    subst h1 h7
    exact .inr ⟨g, o, h4, hl, fun j u hj => by rw [← h6 j u hj]; unfold World.cell?; rw [hg]⟩
theorem set_last {α : Type} {l : List α} {n : Nat} (h : l.length = n) (x y : α) : (l ++ [x]).set n y = l ++ [y] := by
  subst h
  simp
/-- Strings, booleans that are handed in. -/
def Strs (w : World) (so : Option Addr) (l : List ByteArray) : Prop := l = [] ∨ ∃ g o, so = some ⟨g, o, none⟩ ∧ ∀ (i : Nat) s, l[i]? = some s → w.cell? ⟨g, o + i, none⟩ = some (.string s)
def Bools (w : World) (so : Option Addr) (l : List Bool) : Prop := l = [] ∨ ∃ g o, so = some ⟨g, o, none⟩ ∧ ∀ (i : Nat) b, l[i]? = some b → w.cell? ⟨g, o + i, none⟩ = some (.bool b)
theorem Strs.below {w w' : World} {so : Option Addr} {l : List ByteArray} (h : Strs w so l) (hb : Below w.heap.size w w') : Strs w' so l := by
  rcases h with h | ⟨g, o, h1, h2⟩
  · exact .inl h
  · exact .inr ⟨g, o, h1, fun i s hs => keepCell hb (h2 i s hs)⟩
theorem Bools.below {w w' : World} {so : Option Addr} {l : List Bool} (h : Bools w so l) (hb : Below w.heap.size w w') : Bools w' so l := by
  rcases h with h | ⟨g, o, h1, h2⟩
  · exact .inl h
  · exact .inr ⟨g, o, h1, fun i s hs => keepCell hb (h2 i s hs)⟩
/-- A row of values that the heap's calls leave. -/
def HeldRow (w : World) (O : Nat → Prop) (base : Nat) (sv : Value) (A : List V) : Prop := w.ownsRow base 30 5 sv A.length (rowV A) ∧ ∀ b, sv.ownBlock = some b → ¬ O b
theorem HeldRow.below {w w' : World} {O : Nat → Prop} {base : Nat} {sv : Value} {A : List V} (h : HeldRow w O base sv A) (hb : Below w.heap.size w w') : HeldRow w' O base sv A := ⟨ownsRow_ext (below_ext hb (Nat.le_refl _)) h.1, h.2⟩
theorem HeldRow.qs {bs base : Nat} {O O' : Nat → Prop} {w w' : World} {sv : Value} {A : List V} (h : HeldRow w O base sv A) (q : QS bs O w O' w') : HeldRow w' O' base sv A := by
  have hk : ∀ b, sv.ownBlock = some b → w'.heap[b]? = w.heap[b]? ∧ ¬ O' b := fun b hb => by
    obtain ⟨cs, hc⟩ := row_block h.1 hb
    have := q.keep hc (npb (by decide)) (h.2 b hb)
    exact ⟨this.1.trans hc.symm, this.2⟩
  exact ⟨ownsRow_keep h.1 (fun b hb => (hk b hb).1), fun b hb => (hk b hb).2⟩
theorem Strs.at_ {w : World} {g o : Nat} {l : List ByteArray} (h : Strs w (some ⟨g, o, none⟩) l) {i : Nat} {s : ByteArray} (hs : l[i]? = some s) : w.cell? ⟨g, o + i, none⟩ = some (.string s) := by
  rcases h with h | ⟨g2, o2, h1, h2⟩
  · rw [h] at hs; cases hs
  · injection h1 with h1
    injection h1 with h1 h3
    subst h1 h3
    exact h2 i s hs
theorem PHp.modsV {base n : Nat} {w w' : World} {h : Nat} {M : LH} {AA : List (List V)} {O : Nat → Prop} (hP : PHp base n w h M AA O) {b : Nat} {cs : Array Value} (hb : w.heap[b]? = some (.cells cs 30)) (hO : ¬ O b) (hm : Mods (fun k => k = b) w w') : PHp base n w' h M AA O := by
  obtain ⟨⟨bo, bt, H, h1, h2, h2a, h3, h4, h5⟩, h6⟩ := hP
  refine ⟨⟨bo, bt, H, h1.keepF (fun k hk => hm.block k (hp_lt h1 hk) (fun e => ?_)), h2, h2a, h3, h4, h5⟩, fun k hk => Nat.lt_of_lt_of_le (h6 k hk) hm.size⟩
  subst e
  rcases hp_pb h1 hk with ⟨o, h7, h8⟩ | ⟨y, hy, hy4, h7, _⟩
  · rw [hb] at h7
    injection h7 with h7
    subst h7
    exact npb (by decide) h8
  · exact hO (h5 y hy hy4 k h7)
theorem heap12_at {w : World} {b : Nat} {x0 x1 x2 x3 x4 x5 x6 x7 x8 x9 x10 x11 : Value} {t : TypeId} {fz : Nat × Nat} (h : w.heap[b]? = some (.cells #[x0, x1, x2, x3, x4, x5, x6, x7, x8, x9, x10, x11] t fz)) (c0 c1 c2 c3 c4 c5 c6 c7 c8 c9 c10 c11 : Value) :
    ((((((((((((w.setCell ⟨b, 0, none⟩ c0).setCell ⟨b, 1, none⟩ c1).setCell ⟨b, 2, none⟩ c2).setCell ⟨b, 3, none⟩ c3).setCell ⟨b, 4, none⟩ c4).setCell ⟨b, 5, none⟩ c5).setCell ⟨b, 6, none⟩ c6).setCell ⟨b, 7, none⟩ c7).setCell ⟨b, 8, none⟩ c8).setCell ⟨b, 9, none⟩ c9).setCell ⟨b, 10, none⟩ c10).setCell ⟨b, 11, none⟩ c11).heap[b]? = some (.cells #[c0, c1, c2, c3, c4, c5, c6, c7, c8, c9, c10, c11] t fz) := by
  have h0 := h
  have h1 : (w.setCell ⟨b, 0, none⟩ c0).heap[b]? = some (.cells #[c0, x1, x2, x3, x4, x5, x6, x7, x8, x9, x10, x11] t fz) := heap_setCell_same h0 0 c0
  have h2 : ((w.setCell ⟨b, 0, none⟩ c0).setCell ⟨b, 1, none⟩ c1).heap[b]? = some (.cells #[c0, c1, x2, x3, x4, x5, x6, x7, x8, x9, x10, x11] t fz) := heap_setCell_same h1 1 c1
  have h3 : (((w.setCell ⟨b, 0, none⟩ c0).setCell ⟨b, 1, none⟩ c1).setCell ⟨b, 2, none⟩ c2).heap[b]? = some (.cells #[c0, c1, c2, x3, x4, x5, x6, x7, x8, x9, x10, x11] t fz) := heap_setCell_same h2 2 c2
  have h4 : ((((w.setCell ⟨b, 0, none⟩ c0).setCell ⟨b, 1, none⟩ c1).setCell ⟨b, 2, none⟩ c2).setCell ⟨b, 3, none⟩ c3).heap[b]? = some (.cells #[c0, c1, c2, c3, x4, x5, x6, x7, x8, x9, x10, x11] t fz) := heap_setCell_same h3 3 c3
  have h5 : (((((w.setCell ⟨b, 0, none⟩ c0).setCell ⟨b, 1, none⟩ c1).setCell ⟨b, 2, none⟩ c2).setCell ⟨b, 3, none⟩ c3).setCell ⟨b, 4, none⟩ c4).heap[b]? = some (.cells #[c0, c1, c2, c3, c4, x5, x6, x7, x8, x9, x10, x11] t fz) := heap_setCell_same h4 4 c4
  have h6 : ((((((w.setCell ⟨b, 0, none⟩ c0).setCell ⟨b, 1, none⟩ c1).setCell ⟨b, 2, none⟩ c2).setCell ⟨b, 3, none⟩ c3).setCell ⟨b, 4, none⟩ c4).setCell ⟨b, 5, none⟩ c5).heap[b]? = some (.cells #[c0, c1, c2, c3, c4, c5, x6, x7, x8, x9, x10, x11] t fz) := heap_setCell_same h5 5 c5
  have h7 : (((((((w.setCell ⟨b, 0, none⟩ c0).setCell ⟨b, 1, none⟩ c1).setCell ⟨b, 2, none⟩ c2).setCell ⟨b, 3, none⟩ c3).setCell ⟨b, 4, none⟩ c4).setCell ⟨b, 5, none⟩ c5).setCell ⟨b, 6, none⟩ c6).heap[b]? = some (.cells #[c0, c1, c2, c3, c4, c5, c6, x7, x8, x9, x10, x11] t fz) := heap_setCell_same h6 6 c6
  have h8 : ((((((((w.setCell ⟨b, 0, none⟩ c0).setCell ⟨b, 1, none⟩ c1).setCell ⟨b, 2, none⟩ c2).setCell ⟨b, 3, none⟩ c3).setCell ⟨b, 4, none⟩ c4).setCell ⟨b, 5, none⟩ c5).setCell ⟨b, 6, none⟩ c6).setCell ⟨b, 7, none⟩ c7).heap[b]? = some (.cells #[c0, c1, c2, c3, c4, c5, c6, c7, x8, x9, x10, x11] t fz) := heap_setCell_same h7 7 c7
  have h9 : (((((((((w.setCell ⟨b, 0, none⟩ c0).setCell ⟨b, 1, none⟩ c1).setCell ⟨b, 2, none⟩ c2).setCell ⟨b, 3, none⟩ c3).setCell ⟨b, 4, none⟩ c4).setCell ⟨b, 5, none⟩ c5).setCell ⟨b, 6, none⟩ c6).setCell ⟨b, 7, none⟩ c7).setCell ⟨b, 8, none⟩ c8).heap[b]? = some (.cells #[c0, c1, c2, c3, c4, c5, c6, c7, c8, x9, x10, x11] t fz) := heap_setCell_same h8 8 c8
  have h10 : ((((((((((w.setCell ⟨b, 0, none⟩ c0).setCell ⟨b, 1, none⟩ c1).setCell ⟨b, 2, none⟩ c2).setCell ⟨b, 3, none⟩ c3).setCell ⟨b, 4, none⟩ c4).setCell ⟨b, 5, none⟩ c5).setCell ⟨b, 6, none⟩ c6).setCell ⟨b, 7, none⟩ c7).setCell ⟨b, 8, none⟩ c8).setCell ⟨b, 9, none⟩ c9).heap[b]? = some (.cells #[c0, c1, c2, c3, c4, c5, c6, c7, c8, c9, x10, x11] t fz) := heap_setCell_same h9 9 c9
  have h11 : (((((((((((w.setCell ⟨b, 0, none⟩ c0).setCell ⟨b, 1, none⟩ c1).setCell ⟨b, 2, none⟩ c2).setCell ⟨b, 3, none⟩ c3).setCell ⟨b, 4, none⟩ c4).setCell ⟨b, 5, none⟩ c5).setCell ⟨b, 6, none⟩ c6).setCell ⟨b, 7, none⟩ c7).setCell ⟨b, 8, none⟩ c8).setCell ⟨b, 9, none⟩ c9).setCell ⟨b, 10, none⟩ c10).heap[b]? = some (.cells #[c0, c1, c2, c3, c4, c5, c6, c7, c8, c9, c10, x11] t fz) := heap_setCell_same h10 10 c10
  have h12 : ((((((((((((w.setCell ⟨b, 0, none⟩ c0).setCell ⟨b, 1, none⟩ c1).setCell ⟨b, 2, none⟩ c2).setCell ⟨b, 3, none⟩ c3).setCell ⟨b, 4, none⟩ c4).setCell ⟨b, 5, none⟩ c5).setCell ⟨b, 6, none⟩ c6).setCell ⟨b, 7, none⟩ c7).setCell ⟨b, 8, none⟩ c8).setCell ⟨b, 9, none⟩ c9).setCell ⟨b, 10, none⟩ c10).setCell ⟨b, 11, none⟩ c11).heap[b]? = some (.cells #[c0, c1, c2, c3, c4, c5, c6, c7, c8, c9, c10, c11] t fz) := heap_setCell_same h11 11 c11
  exact h12
theorem tbF_tw {t m g : Nat} {sv av : Value} {b : Nat} (h : TbF t av b) : TwF t m g sv av b := h.elim .inl (fun h => .inr (.inr h))
def HRemPost (w : World) (h bo bt : Nat) (H : List PO) (i : Nat) (x : PO) (A' : List V) (v : V) (e : Ending) (w' : World) : Prop :=
  e = .returned (.tuple #[.agg #[.int .i64 v.k, .int .i64 v.p, .int .i64 v.q, .string v.s, .int .i64 v.r], .int .i64 0]) ∧ ∃ av', HpAt w' h bo bt (H.set i { x with av := av', A := A' }) ∧ Mods (HpF h bo bt H) w w' ∧ ∀ b, av'.ownBlock = some b → x.av.ownBlock = some b ∨ w.heap.size ≤ b
theorem hp_box {w w' : World} {h bo bt : Nat} {H : List PO} (hH : HpAt w h bo bt H) {r : Nat} {cs : Array Value} (hr : w.heap[r]? = some (.cells cs 30)) (hO : ∀ y ∈ H, y.kind = 4 → y.av.ownBlock ≠ some r) (hM : Mods (fun b => b = r) w w') : HpAt w' h bo bt H :=
  hH.keepF (fun k hk => hM.block k (hp_lt hH hk) (fun e => by
    subst e
    rcases hp_pb hH hk with ⟨o, h7, h8⟩ | ⟨y, hy, hy4, h7, _⟩
    · rw [hr] at h7
      injection h7 with h7
      subst h7
      exact npb (by decide) h8
    · exact hO y hy hy4 h7))
abbrev oCt (h : Nat) (nm : ByteArray) (av : Value) : Obj := .cells #[.pointer (some ⟨h, 0, none⟩), .string nm, av, .int .i64 0, .int .i64 0, .int .i64 0, .int .i64 0, .int .i64 0, .string ⟨#[]⟩, .int .i64 0, .slice none 0 0, .string ⟨#[]⟩, .int .i64 0, .int .i64 0, .slice none 0 0, .bool false] 69
abbrev tabA (ti : Nat) : Value := .agg #[.int .i64 4, .int .i64 0, .int .i64 0, .string ⟨#[]⟩, .int .i64 ((ti : Int) + 1)]
abbrev oCtB (h : Nat) (nm : ByteArray) (av : Value) (so1 : Option Addr) (cap1 : Nat) : Obj := .cells #[.pointer (some ⟨h, 0, none⟩), .string nm, av, .int .i64 2, .int .i64 0, .int .i64 0, .int .i64 0, .int .i64 0, .string ⟨#[]⟩, .int .i64 0, .slice so1 1 cap1, .string ⟨#[]⟩, .int .i64 1, .int .i64 0, .slice none 0 0, .bool true] 69
theorem heap16_bad {w : World} {b : Nat} {x0 x1 x2 x3 x4 x5 x6 x7 x8 x9 x10 x11 x12 x13 x14 x15 : Value} {t : TypeId} {fz : Nat × Nat} (h : w.heap[b]? = some (.cells #[x0, x1, x2, x3, x4, x5, x6, x7, x8, x9, x10, x11, x12, x13, x14, x15] t fz)) (c3 c4 c5 c6 c7 c8 c9 c10 c11 c12 c13 c14 c15 : Value) : (((((((((((((w.setCell ⟨b, 3, none⟩ c3).setCell ⟨b, 4, none⟩ c4).setCell ⟨b, 5, none⟩ c5).setCell ⟨b, 6, none⟩ c6).setCell ⟨b, 7, none⟩ c7).setCell ⟨b, 8, none⟩ c8).setCell ⟨b, 9, none⟩ c9).setCell ⟨b, 10, none⟩ c10).setCell ⟨b, 11, none⟩ c11).setCell ⟨b, 12, none⟩ c12).setCell ⟨b, 13, none⟩ c13).setCell ⟨b, 14, none⟩ c14).setCell ⟨b, 15, none⟩ c15).heap[b]? = some (.cells #[x0, x1, x2, c3, c4, c5, c6, c7, c8, c9, c10, c11, c12, c13, c14, c15] t fz) := by
  have h3 : (w.setCell ⟨b, 3, none⟩ c3).heap[b]? = some (.cells #[x0, x1, x2, c3, x4, x5, x6, x7, x8, x9, x10, x11, x12, x13, x14, x15] t fz) := heap_setCell_same h 3 c3
  have h4 : ((w.setCell ⟨b, 3, none⟩ c3).setCell ⟨b, 4, none⟩ c4).heap[b]? = some (.cells #[x0, x1, x2, c3, c4, x5, x6, x7, x8, x9, x10, x11, x12, x13, x14, x15] t fz) := heap_setCell_same h3 4 c4
  have h5 : (((w.setCell ⟨b, 3, none⟩ c3).setCell ⟨b, 4, none⟩ c4).setCell ⟨b, 5, none⟩ c5).heap[b]? = some (.cells #[x0, x1, x2, c3, c4, c5, x6, x7, x8, x9, x10, x11, x12, x13, x14, x15] t fz) := heap_setCell_same h4 5 c5
  have h6 : ((((w.setCell ⟨b, 3, none⟩ c3).setCell ⟨b, 4, none⟩ c4).setCell ⟨b, 5, none⟩ c5).setCell ⟨b, 6, none⟩ c6).heap[b]? = some (.cells #[x0, x1, x2, c3, c4, c5, c6, x7, x8, x9, x10, x11, x12, x13, x14, x15] t fz) := heap_setCell_same h5 6 c6
  have h7 : (((((w.setCell ⟨b, 3, none⟩ c3).setCell ⟨b, 4, none⟩ c4).setCell ⟨b, 5, none⟩ c5).setCell ⟨b, 6, none⟩ c6).setCell ⟨b, 7, none⟩ c7).heap[b]? = some (.cells #[x0, x1, x2, c3, c4, c5, c6, c7, x8, x9, x10, x11, x12, x13, x14, x15] t fz) := heap_setCell_same h6 7 c7
  have h8 : ((((((w.setCell ⟨b, 3, none⟩ c3).setCell ⟨b, 4, none⟩ c4).setCell ⟨b, 5, none⟩ c5).setCell ⟨b, 6, none⟩ c6).setCell ⟨b, 7, none⟩ c7).setCell ⟨b, 8, none⟩ c8).heap[b]? = some (.cells #[x0, x1, x2, c3, c4, c5, c6, c7, c8, x9, x10, x11, x12, x13, x14, x15] t fz) := heap_setCell_same h7 8 c8
  have h9 : (((((((w.setCell ⟨b, 3, none⟩ c3).setCell ⟨b, 4, none⟩ c4).setCell ⟨b, 5, none⟩ c5).setCell ⟨b, 6, none⟩ c6).setCell ⟨b, 7, none⟩ c7).setCell ⟨b, 8, none⟩ c8).setCell ⟨b, 9, none⟩ c9).heap[b]? = some (.cells #[x0, x1, x2, c3, c4, c5, c6, c7, c8, c9, x10, x11, x12, x13, x14, x15] t fz) := heap_setCell_same h8 9 c9
  have h10 : ((((((((w.setCell ⟨b, 3, none⟩ c3).setCell ⟨b, 4, none⟩ c4).setCell ⟨b, 5, none⟩ c5).setCell ⟨b, 6, none⟩ c6).setCell ⟨b, 7, none⟩ c7).setCell ⟨b, 8, none⟩ c8).setCell ⟨b, 9, none⟩ c9).setCell ⟨b, 10, none⟩ c10).heap[b]? = some (.cells #[x0, x1, x2, c3, c4, c5, c6, c7, c8, c9, c10, x11, x12, x13, x14, x15] t fz) := heap_setCell_same h9 10 c10
  have h11 : (((((((((w.setCell ⟨b, 3, none⟩ c3).setCell ⟨b, 4, none⟩ c4).setCell ⟨b, 5, none⟩ c5).setCell ⟨b, 6, none⟩ c6).setCell ⟨b, 7, none⟩ c7).setCell ⟨b, 8, none⟩ c8).setCell ⟨b, 9, none⟩ c9).setCell ⟨b, 10, none⟩ c10).setCell ⟨b, 11, none⟩ c11).heap[b]? = some (.cells #[x0, x1, x2, c3, c4, c5, c6, c7, c8, c9, c10, c11, x12, x13, x14, x15] t fz) := heap_setCell_same h10 11 c11
  have h12 : ((((((((((w.setCell ⟨b, 3, none⟩ c3).setCell ⟨b, 4, none⟩ c4).setCell ⟨b, 5, none⟩ c5).setCell ⟨b, 6, none⟩ c6).setCell ⟨b, 7, none⟩ c7).setCell ⟨b, 8, none⟩ c8).setCell ⟨b, 9, none⟩ c9).setCell ⟨b, 10, none⟩ c10).setCell ⟨b, 11, none⟩ c11).setCell ⟨b, 12, none⟩ c12).heap[b]? = some (.cells #[x0, x1, x2, c3, c4, c5, c6, c7, c8, c9, c10, c11, c12, x13, x14, x15] t fz) := heap_setCell_same h11 12 c12
  have h13 : (((((((((((w.setCell ⟨b, 3, none⟩ c3).setCell ⟨b, 4, none⟩ c4).setCell ⟨b, 5, none⟩ c5).setCell ⟨b, 6, none⟩ c6).setCell ⟨b, 7, none⟩ c7).setCell ⟨b, 8, none⟩ c8).setCell ⟨b, 9, none⟩ c9).setCell ⟨b, 10, none⟩ c10).setCell ⟨b, 11, none⟩ c11).setCell ⟨b, 12, none⟩ c12).setCell ⟨b, 13, none⟩ c13).heap[b]? = some (.cells #[x0, x1, x2, c3, c4, c5, c6, c7, c8, c9, c10, c11, c12, c13, x14, x15] t fz) := heap_setCell_same h12 13 c13
  have h14 : ((((((((((((w.setCell ⟨b, 3, none⟩ c3).setCell ⟨b, 4, none⟩ c4).setCell ⟨b, 5, none⟩ c5).setCell ⟨b, 6, none⟩ c6).setCell ⟨b, 7, none⟩ c7).setCell ⟨b, 8, none⟩ c8).setCell ⟨b, 9, none⟩ c9).setCell ⟨b, 10, none⟩ c10).setCell ⟨b, 11, none⟩ c11).setCell ⟨b, 12, none⟩ c12).setCell ⟨b, 13, none⟩ c13).setCell ⟨b, 14, none⟩ c14).heap[b]? = some (.cells #[x0, x1, x2, c3, c4, c5, c6, c7, c8, c9, c10, c11, c12, c13, c14, x15] t fz) := heap_setCell_same h13 14 c14
  have h15 : (((((((((((((w.setCell ⟨b, 3, none⟩ c3).setCell ⟨b, 4, none⟩ c4).setCell ⟨b, 5, none⟩ c5).setCell ⟨b, 6, none⟩ c6).setCell ⟨b, 7, none⟩ c7).setCell ⟨b, 8, none⟩ c8).setCell ⟨b, 9, none⟩ c9).setCell ⟨b, 10, none⟩ c10).setCell ⟨b, 11, none⟩ c11).setCell ⟨b, 12, none⟩ c12).setCell ⟨b, 13, none⟩ c13).setCell ⟨b, 14, none⟩ c14).setCell ⟨b, 15, none⟩ c15).heap[b]? = some (.cells #[x0, x1, x2, c3, c4, c5, c6, c7, c8, c9, c10, c11, c12, c13, c14, c15] t fz) := heap_setCell_same h14 15 c15
  exact h15
theorem mods_13 {F : Nat → Prop} {a w : World} (h : Mods F a w) {b : Nat} (hb : F b ∨ a.heap.size ≤ b) (c3 c4 c5 c6 c7 c8 c9 c10 c11 c12 c13 c14 c15 : Value) : Mods F a (((((((((((((w.setCell ⟨b, 3, none⟩ c3).setCell ⟨b, 4, none⟩ c4).setCell ⟨b, 5, none⟩ c5).setCell ⟨b, 6, none⟩ c6).setCell ⟨b, 7, none⟩ c7).setCell ⟨b, 8, none⟩ c8).setCell ⟨b, 9, none⟩ c9).setCell ⟨b, 10, none⟩ c10).setCell ⟨b, 11, none⟩ c11).setCell ⟨b, 12, none⟩ c12).setCell ⟨b, 13, none⟩ c13).setCell ⟨b, 14, none⟩ c14).setCell ⟨b, 15, none⟩ c15) := by
  exact mods_setCell (mods_setCell (mods_setCell (mods_setCell (mods_setCell (mods_setCell (mods_setCell (mods_setCell (mods_setCell (mods_setCell (mods_setCell (mods_setCell (mods_setCell (h) hb c3) hb c4) hb c5) hb c6) hb c7) hb c8) hb c9) hb c10) hb c11) hb c12) hb c13) hb c14) hb c15
theorem row_13 {w : World} {base : Nat} {e : TypeId} {size n : Nat} {v : Value} {xs : List Value} (ho : w.ownsRow base e size v n xs) {b : Nat} (hb : v.ownBlock ≠ some b) (c3 c4 c5 c6 c7 c8 c9 c10 c11 c12 c13 c14 c15 : Value) : (((((((((((((w.setCell ⟨b, 3, none⟩ c3).setCell ⟨b, 4, none⟩ c4).setCell ⟨b, 5, none⟩ c5).setCell ⟨b, 6, none⟩ c6).setCell ⟨b, 7, none⟩ c7).setCell ⟨b, 8, none⟩ c8).setCell ⟨b, 9, none⟩ c9).setCell ⟨b, 10, none⟩ c10).setCell ⟨b, 11, none⟩ c11).setCell ⟨b, 12, none⟩ c12).setCell ⟨b, 13, none⟩ c13).setCell ⟨b, 14, none⟩ c14).setCell ⟨b, 15, none⟩ c15).ownsRow base e size v n xs := by
  have h : ∀ j, v.ownBlock ≠ some (⟨b, j, none⟩ : Addr).block := fun _ => hb
  exact ownsRow_set (ownsRow_set (ownsRow_set (ownsRow_set (ownsRow_set (ownsRow_set (ownsRow_set (ownsRow_set (ownsRow_set (ownsRow_set (ownsRow_set (ownsRow_set (ownsRow_set (ho) (h _) c3) (h _) c4) (h _) c5) (h _) c6) (h _) c7) (h _) c8) (h _) c9) (h _) c10) (h _) c11) (h _) c12) (h _) c13) (h _) c14) (h _) c15
theorem bld_keep {T e : TypeId} {B b : Nat} {bs : List Value} {w w' : World} (h : Lib.IsBuilder T e B b bs w) (hk : ∀ g, B ≤ g → g < w.heap.size → w'.heap[g]? = w.heap[g]?) : Lib.IsBuilder T e B b bs w' := by
  rcases h with ⟨hB, v, hb, ho, hne⟩ | ⟨hB, v, hb, ho, hne⟩
  · exact .inl ⟨hB, v, (hk b hB (Array.getElem?_eq_some_iff.1 hb).1).trans hb, ownsRow_keep ho (fun g hg => hk g (ownBlock_lt ho hg).1 (ownBlock_lt ho hg).2), hne⟩
  · exact .inr ⟨hB, v, (hk b hB (Array.getElem?_eq_some_iff.1 hb).1).trans hb, ownsRow_keep ho (fun g hg => hk g (ownBlock_lt ho hg).1 (ownBlock_lt ho hg).2), hne⟩
theorem bld_below {T e : TypeId} {B b : Nat} {bs : List Value} {w w' : World} (h : Lib.IsBuilder T e B b bs w) (hb : Below w.heap.size w w') : Lib.IsBuilder T e B b bs w' := bld_keep h (fun g _ hg => hb.block g hg)
theorem mods_bel {F : Nat → Prop} {B : Nat} {w W W' : World} (hm : Mods F w W) (hb : Below B W W') (hB : w.heap.size ≤ B) : Mods F w W' := ⟨hb.os.trans hm.os, hb.tape.trans hm.tape, hb.output.trans hm.output, Nat.le_trans hm.size hb.size, fun k hk hF => (hb.block k (Nat.lt_of_lt_of_le hk hB)).trans (hm.block k hk hF)⟩
theorem below_bel {B : Nat} {w W W' : World} (hm : Below w.heap.size w W) (hb : Below B W W') (hB : w.heap.size ≤ B) : Below w.heap.size w W' := ⟨hb.os.trans hm.os, hb.tape.trans hm.tape, hb.output.trans hm.output, Nat.le_trans hm.size hb.size, fun k hk => (hb.block k (Nat.lt_of_lt_of_le hk hB)).trans (hm.block k hk)⟩
theorem bkeep {B : Nat} {W W' : World} (hb : Below B W W') {b : Nat} {o : Obj} (h : W.heap[b]? = some o) (hB : b < B) : W'.heap[b]? = some o := (hb.block b hB).trans h
def FailedC (w : World) (c h : Nat) (nm : ByteArray) (av : Value) (t : ByteArray) (e : Ending) (w' : World) : Prop := e = .returned (.tuple #[]) ∧ ∃ so cap, w'.heap[c]? = some (oCtB h nm av so cap) ∧ w'.ownsRow w.heap.size 30 5 (.slice so 1 cap) 1 (rowV [strV t]) ∧ Mods (fun k => k = c) w w'
/-- The text of a value. -/
def txt (v : V) : ByteArray := sS (strOf v)
def conP (A : List V) (sep : ByteArray) (i : Nat) : List UInt8 := Lib.join ((A.take i).map (fun v => (txt v).data.toList)) sep.data.toList
theorem joinK_snoc (l : List (List UInt8)) (x sep : List UInt8) : Lib.join (l ++ [x]) sep = if l = [] then x else Lib.join l sep ++ sep ++ x := by
  cases l with
  | nil => simp [Lib.join_cons, Lib.joinTail]
  | cons y l => simp [Lib.join_cons, Lib.joinTail]
theorem conP_zero (A : List V) (sep : ByteArray) : conP A sep 0 = [] := rfl
theorem conP_succ {A : List V} {sep : ByteArray} {i : Nat} {v : V} (hv : A[i]? = some v) : conP A sep (i + 1) = if i = 0 then (txt v).data.toList else conP A sep i ++ sep.data.toList ++ (txt v).data.toList := by
  unfold conP
  rw [List.take_add_one, hv]
  simp only [Option.toList_some, List.map_append, List.map_cons, List.map_nil]
  rw [joinK_snoc]
  have hl : i < A.length := (List.getElem?_eq_some_iff.1 hv).1
  by_cases h : i = 0
  · subst h
    simp
  · rw [if_neg h, if_neg]
    intro e
    have := congrArg List.length e
    rw [List.length_map, List.length_take, List.length_nil] at this
    omega
theorem conP_len_le {A : List V} {sep : ByteArray} (i : Nat) : ∀ d, i + d ≤ A.length → (conP A sep i).length ≤ (conP A sep (i + d)).length
  | 0, _ => Nat.le_refl _
  | d + 1, h => by
    refine Nat.le_trans (conP_len_le i d (by omega)) ?_
    show _ ≤ (conP A sep (i + d + 1)).length
    rw [conP_succ (List.getElem?_eq_getElem (show i + d < A.length by omega))]
    split
    · rename_i h0
      have e : (conP A sep (i + d)).length = 0 := by rw [h0]; rfl
      omega
    · simp only [List.length_append]; omega
theorem bStr_k (B b : Nat) (l : List UInt8) (w : World) (h : Lib.IsBuilder 74 5 B b (Lib.byteCells l) w) (h0 : l ≠ []) : Calls Tryz.prog 35 #[.pointer (some ⟨b, 0, none⟩)] w (fun e w' => e = .returned (.string ⟨l.toArray⟩) ∧ Below B w w' ∧ Lib.OthersKept 5 (some b) w w') :=
  (Go.Proofs.Any.Builder_String_k Tryz.lays169 Tryz.Builder_Extra_169 B b l w (Lib.IsBuilderF.of h) h0).mono fun _ _ h => ⟨h.1, h.2.2.1, h.2.2.2⟩
theorem row_others {w w' : World} {B B2 b n : Nat} {v : Value} {xs bs : List Value} (ho : w.ownsRow B 30 5 v n xs) (hk : Lib.OthersKept 5 (some b) w w') (hB : Lib.IsBuilder 74 5 B2 b bs w) : w'.ownsRow B 30 5 v n xs := by
  obtain ⟨cs, hb⟩ : ∃ cs, w.heap[b]? = some (.cells cs 74 (0, 0)) := by
    rcases hB with ⟨_, v, hb, _⟩ | ⟨_, v, hb, _⟩
    · exact ⟨_, hb⟩
    · exact ⟨_, hb⟩
  refine ownsRow_keep ho (fun g hg => ?_)
  obtain ⟨cs', hc⟩ := row_block ho hg
  rw [hc]
  refine hk g _ hc (fun e => ?_) (fun c fz e => ?_)
  · injection e with e
    subst e
    rw [hb] at hc
    injection hc with hc
    injection hc with _ hc
    exact absurd hc (by decide)
  · injection e with _ e
    exact absurd e (by decide)
/-- What concat gives. -/
def conK (S : List UInt8) : Int := if S.length ≤ 4096 then 1 else 2
def conA (S : List UInt8) : List V := if S.length ≤ 4096 then [strV ⟨S.toArray⟩] else [strV tooLong]
def conL (S : List UInt8) : Int := if S.length ≤ 4096 then 0 else 1
/-- Where concat's loop is. -/
def ConR (w : World) (c h : Nat) (nm : ByteArray) (av : Value) (ti b3 b9 : Nat) (P : List UInt8) (wr : World) : Prop :=
  wr.heap[w.heap.size]? = some oAc ∧ wr.heap[b3]? = some (oV 4 0 0 ⟨#[]⟩ ((ti : Int) + 1)) ∧ Lib.IsBuilder 74 5 b9 b9 (Lib.byteCells P) wr ∧ b9 ≤ wr.heap.size ∧
  ((Below w.heap.size w wr ∧ P.length ≤ 4096) ∨ (∃ so cap, wr.heap[c]? = some (oCtB h nm av so cap) ∧ wr.ownsRow (w.heap.size + 1) 30 5 (.slice so 1 cap) 1 (rowV [strV tooLong]) ∧ Mods (fun k => k = c) w wr ∧ 4096 < P.length))
theorem qs_mods {base : Nat} {O O' : Nat → Prop} {a w w' : World} (h : QS base O a O' w) {b : Nat} (hb : a.heap.size ≤ b) (hm : Mods (fun k => k = b) w w') : QS base O a O' w' :=
  ⟨⟨hm.os.trans h.1.os, hm.tape.trans h.1.tape, hm.output.trans h.1.output, Nat.le_trans h.1.size hm.size, fun i hi hF => (hm.block i (Nat.lt_of_lt_of_le hi h.1.size) (fun e => by omega)).trans (h.1.block i hi hF)⟩, h.2⟩
/-- Where list's loop is. -/
def LstR (base n : Nat) (h : Nat) (M : LH) (AA : List (List V)) (A : List V) (O : Nat → Prop) (w : World) (g b6 : Nat) (cs : Array Value) (i : Nat) (wr : World) : Prop :=
  ∃ O', PHp base (n + i) wr h (M ++ [⟨4, V.nil, []⟩]) (AA ++ [A.take i]) O' ∧ QS base O w O' wr ∧ Held wr O' w.heap.size (oV 0 0 0 ⟨#[]⟩ 0) ∧ Held wr O' b6 (oV 4 0 0 ⟨#[]⟩ ((M.length : Int) + 1)) ∧ (A = [] ∨ Held wr O' g (.cells cs 30))
theorem qs_five {base : Nat} {O O' : Nat → Prop} {a w : World} (h : QS base O a O' w) {b : Nat} (hb : a.heap.size ≤ b) (x y z u v : Value) : QS base O a O' (((((w.setCell ⟨b, 0, none⟩ x).setCell ⟨b, 1, none⟩ y).setCell ⟨b, 2, none⟩ z).setCell ⟨b, 3, none⟩ u).setCell ⟨b, 4, none⟩ v) :=
  ⟨mods_five h.1 (.inr hb) x y z u v, h.2⟩
theorem leaf_alloc {base n : Nat} {O O2 : Nat → Prop} {a W : World} {h : Nat} {M : LH} {AA : List (List V)} (hP : PHp base n W h M AA O2) (hq : QS base O a O2 W) (v : Obj) : (W.alloc v).heap[W.heap.size]? = some v ∧ PHp base n (W.alloc v) h M AA O2 ∧ QS base O a O2 (W.alloc v) :=
  ⟨heap_new _ _, hP.below (below1 _ _), hq.trans (QS.of_below (below1 _ _))⟩
theorem leaf_five {base n : Nat} {O O2 : Nat → Prop} {a W : World} {h b : Nat} {M : LH} {AA : List (List V)} (hP : PHp base n W h M AA O2) (hq : QS base O a O2 W) {x0 y0 z0 u0 v0 : Value} (hz : W.heap[b]? = some (.cells #[x0, y0, z0, u0, v0] 30) ∧ ¬ O2 b) (hb : a.heap.size ≤ b) (x y z u v : Value) : (((((W.setCell ⟨b, 0, none⟩ x).setCell ⟨b, 1, none⟩ y).setCell ⟨b, 2, none⟩ z).setCell ⟨b, 3, none⟩ u).setCell ⟨b, 4, none⟩ v).heap[b]? = some (.cells #[x, y, z, u, v] 30) ∧ PHp base n (((((W.setCell ⟨b, 0, none⟩ x).setCell ⟨b, 1, none⟩ y).setCell ⟨b, 2, none⟩ z).setCell ⟨b, 3, none⟩ u).setCell ⟨b, 4, none⟩ v) h M AA O2 ∧ QS base O a O2 (((((W.setCell ⟨b, 0, none⟩ x).setCell ⟨b, 1, none⟩ y).setCell ⟨b, 2, none⟩ z).setCell ⟨b, 3, none⟩ u).setCell ⟨b, 4, none⟩ v) :=
  ⟨heap_five_at hz.1 _ _ _ _ _, hP.modsV hz.1 hz.2 (mods_five (F := fun k => k = b) (Mods.refl _ _) (.inl rfl) _ _ _ _ _), qs_five hq hb _ _ _ _ _⟩
theorem two_vals {W : World} {m : Nat} {a b : V} (h : W.heap[m]? = some (.cells #[.int .i64 a.k, .int .i64 a.p, .int .i64 a.q, .string a.s, .int .i64 a.r, .int .i64 b.k, .int .i64 b.p, .int .i64 b.q, .string b.s, .int .i64 b.r] 30)) : Vals W (.slice (some ⟨m, 0, none⟩) 2 2) [a, b] := by
  have hr : W.ownsRow 0 30 5 (.slice (some ⟨m, 0, none⟩) [a, b].length 2) [a, b].length (rowV [a, b]) := ⟨rfl, .inr ⟨m, 2, _, rfl, Nat.zero_le _, h, Nat.le_refl _, by unfold maxLen; omega, rfl, rfl⟩⟩
  exact Vals.of_row hr
theorem row_one {w : World} {B cap : Nat} {so : Option Addr} {v : V} (h : w.ownsRow B 30 5 (.slice so 1 cap) 1 (rowV [v])) : ∃ g, so = some ⟨g, 0, none⟩ ∧ g < w.heap.size ∧ 1 ≤ cap ∧ ∀ W, Below w.heap.size w W → W.cell? ⟨g, 0, none⟩ = some (.int .i64 v.k) ∧ W.cell? ⟨g, 1, none⟩ = some (.int .i64 v.p) ∧ W.cell? ⟨g, 2, none⟩ = some (.int .i64 v.q) ∧ W.cell? ⟨g, 3, none⟩ = some (.string v.s) ∧ W.cell? ⟨g, 4, none⟩ = some (.int .i64 v.r) := by
  have hv : Vals w (.slice so 1 cap) [v] := Vals.of_row (A := [v]) h
  rcases h.2 with ⟨e, e2⟩ | ⟨g, cap', cur, e, _, hg, hc, _⟩
  · exact absurd e2 (by decide)
  · injection e with e1 _ e2
    subst e1 e2
    refine ⟨g, rfl, (Array.getElem?_eq_some_iff.1 hg).1, hc, fun W hb => ?_⟩
    have := Vals.at_ (Vals.below hv hb) (i := 0) (v := v) rfl
    simpa using this.2
def oneL : List V := [⟨2, 1, 1, ⟨#[]⟩, 0⟩, ⟨2, 2, 1, ⟨#[]⟩, 0⟩, ⟨2, 3, 1, ⟨#[]⟩, 0⟩]
theorem oneL_ok : ∀ v ∈ oneL, v.k ≠ 0 ∧ validV v = true ∧ WfV v := by
  intro v hv
  simp only [oneL, List.mem_cons, List.not_mem_nil, or_false] at hv
  rcases hv with rfl | rfl | rfl <;> exact ⟨by decide, by kernel_rfl, ⟨by decide, by decide⟩, ⟨by decide, by decide⟩, ⟨by decide, by decide⟩, by decide, ⟨by decide, by decide⟩⟩
theorem oneL_txt : ∀ v ∈ oneL, sE (strOf v) = 0 ∧ (txt v).size ≤ 4096 := by
  intro v hv
  simp only [oneL, List.mem_cons, List.not_mem_nil, or_false] at hv
  rcases hv with rfl | rfl | rfl <;> exact ⟨by kernel_rfl, of_decide_eq_true (by kernel_rfl)⟩
theorem oneL_con : [49, 45, 50, 45, 51] = conP oneL ⟨#[45]⟩ oneL.length := by kernel_rfl
theorem prjK5 {c0 c1 c2 c3 c4 p : Prop} (h : c0 ∧ c1 ∧ c2 ∧ c3 ∧ c4 ∧ Hid p) : p := (h.2.2.2.2.2).out
theorem prjK7 {c0 c1 c2 c3 c4 c5 c6 p : Prop} (h : c0 ∧ c1 ∧ c2 ∧ c3 ∧ c4 ∧ c5 ∧ c6 ∧ Hid p) : p := (h.2.2.2.2.2.2.2).out
theorem rem_ins (A : List V) (x : Nat) (v : V) (hx : x ≤ A.length) : remM (insM A x v) x = A := by
  unfold remM insM
  have h1 : (A.take x).length = x := by simp; omega
  rw [List.take_append_of_le_length (by omega), List.take_of_length_le (by omega), show x + 1 = (A.take x).length + 1 by omega, List.drop_append]
  simp
  rw [List.drop_eq_nil_of_le (by simp), List.nil_append, List.take_append_drop]
theorem ins_at_x (A : List V) (x : Nat) (v : V) (hx : x ≤ A.length) : (insM A x v)[x]? = some v := by
  unfold insM
  have h1 : (A.take x).length = x := by simp; omega
  rw [List.getElem?_append_right (by omega), h1]
  simp
theorem ins_before (A : List V) (x : Nat) (v : V) (hx : x ≤ A.length) (i : Nat) (hi : i < x) : (insM A x v)[i]? = A[i]? := by
  unfold insM
  rw [List.getElem?_append_left (by simp; omega), List.getElem?_take_of_lt hi]
theorem ins_after (A : List V) (x : Nat) (v : V) (hx : x ≤ A.length) (i : Nat) (hi : x < i) : (insM A x v)[i]? = A[i - 1]? := by
  unfold insM
  have h1 : (A.take x).length = x := by simp; omega
  rw [List.getElem?_append_right (by omega), h1]
  obtain ⟨j, rfl⟩ : ∃ j, i = x + 1 + j := ⟨i - x - 1, by omega⟩
  rw [show x + 1 + j - x = j + 1 by omega, List.getElem?_cons_succ, List.getElem?_drop, show x + 1 + j - 1 = x + j by omega]
def numU (x : Nat) : V := ⟨2, (x : Int), 1, ⟨#[]⟩, 0⟩
theorem numU_ok {l : List Nat} (h : ∀ x ∈ l, x ≤ 255) : ∀ v ∈ l.map numU, v.k ≠ 0 ∧ validV v = true ∧ WfV v := by
  intro v hv
  obtain ⟨x, hx, rfl⟩ := List.mem_map.1 hv
  have := h x hx
  exact ⟨(by decide : (2 : Int) ≠ 0), valid_num (by omega) (by omega), wf_num (by omega) (by omega)⟩
def Oct (w : World) (so : Option Addr) (l : List Nat) : Prop := l = [] ∨ ∃ g o, so = some ⟨g, o, none⟩ ∧ ∀ (i : Nat) x, l[i]? = some x → w.cell? ⟨g, o + i, none⟩ = some (.int .u8 (x : Int))
/-- Where the law's first loop is. -/
def LiR (w1 : World) (l : List Nat) (i : Nat) (sv : Value) (wr : World) : Prop :=
  wr.ownsRow w1.heap.size 30 5 sv i (rowV ((l.map numU).take i)) ∧ Below w1.heap.size w1 wr
theorem vals_shape {w : World} {so : Option Addr} {n cap i : Nat} {A : List V} {v : V} (h : Vals w (.slice so n cap) A) (hv : A[i]? = some v) : ∃ g o, so = some ⟨g, o, none⟩ := by
  obtain ⟨so', c, h1, h2, hn, h3⟩ := h
  injection h1 with h1 _ _
  subst h1
  rcases h3 with e | ⟨g, o, e, _⟩
  · rw [e] at hv
    simp at hv
  · exact ⟨g, o, e⟩
theorem leaf_twelve {base n : Nat} {O O2 : Nat → Prop} {a W : World} {h b : Nat} {M : LH} {AA : List (List V)} (hP : PHp base n W h M AA O2) (hq : QS base O a O2 W) {x0 x1 x2 x3 x4 x5 x6 x7 x8 x9 x10 x11 : Value} (hz : W.heap[b]? = some (.cells #[x0, x1, x2, x3, x4, x5, x6, x7, x8, x9, x10, x11] 35)) (hb : a.heap.size ≤ b) (c0 c1 c2 c3 c4 c5 c6 c7 c8 c9 c10 c11 : Value) :
    ((((((((((((W.setCell ⟨b, 0, none⟩ c0).setCell ⟨b, 1, none⟩ c1).setCell ⟨b, 2, none⟩ c2).setCell ⟨b, 3, none⟩ c3).setCell ⟨b, 4, none⟩ c4).setCell ⟨b, 5, none⟩ c5).setCell ⟨b, 6, none⟩ c6).setCell ⟨b, 7, none⟩ c7).setCell ⟨b, 8, none⟩ c8).setCell ⟨b, 9, none⟩ c9).setCell ⟨b, 10, none⟩ c10).setCell ⟨b, 11, none⟩ c11).heap[b]? = some (.cells #[c0, c1, c2, c3, c4, c5, c6, c7, c8, c9, c10, c11] 35) ∧ PHp base n ((((((((((((W.setCell ⟨b, 0, none⟩ c0).setCell ⟨b, 1, none⟩ c1).setCell ⟨b, 2, none⟩ c2).setCell ⟨b, 3, none⟩ c3).setCell ⟨b, 4, none⟩ c4).setCell ⟨b, 5, none⟩ c5).setCell ⟨b, 6, none⟩ c6).setCell ⟨b, 7, none⟩ c7).setCell ⟨b, 8, none⟩ c8).setCell ⟨b, 9, none⟩ c9).setCell ⟨b, 10, none⟩ c10).setCell ⟨b, 11, none⟩ c11) h M AA O2 ∧ QS base O a O2 ((((((((((((W.setCell ⟨b, 0, none⟩ c0).setCell ⟨b, 1, none⟩ c1).setCell ⟨b, 2, none⟩ c2).setCell ⟨b, 3, none⟩ c3).setCell ⟨b, 4, none⟩ c4).setCell ⟨b, 5, none⟩ c5).setCell ⟨b, 6, none⟩ c6).setCell ⟨b, 7, none⟩ c7).setCell ⟨b, 8, none⟩ c8).setCell ⟨b, 9, none⟩ c9).setCell ⟨b, 10, none⟩ c10).setCell ⟨b, 11, none⟩ c11) :=
  ⟨heap12_at hz _ _ _ _ _ _ _ _ _ _ _ _, hP.mods hz (mods_twelve (F := fun k => k = b) (Mods.refl _ _) (.inl rfl) 0 1 2 3 4 5 6 7 8 9 10 11 _ _ _ _ _ _ _ _ _ _ _ _), qs_twelve hq hb _ _ _ _ _ _ _ _ _ _ _ _⟩
theorem leaf_alloc1 {base n k B : Nat} {O O2 : Nat → Prop} {a W : World} {h : Nat} {M : LH} {AA : List (List V)} {sv : Value} {xs : List Value} (hP : PHp base n W h M AA O2) (hq : QS base O a O2 W) (hr : W.ownsRow B 30 5 sv k xs) (v : Obj) : (W.alloc v).heap[W.heap.size]? = some v ∧ PHp base n (W.alloc v) h M AA O2 ∧ QS base O a O2 (W.alloc v) ∧ (W.alloc v).ownsRow B 30 5 sv k xs :=
  let ⟨h1, h2, h3⟩ := leaf_alloc hP hq v
  ⟨h1, h2, h3, ownsRow_ext (below_ext (below1 _ _) (Nat.le_refl _)) hr⟩
theorem leaf_twelve1 {base n k B : Nat} {O O2 : Nat → Prop} {a W : World} {h b : Nat} {M : LH} {AA : List (List V)} {sv : Value} {xs : List Value} (hP : PHp base n W h M AA O2) (hq : QS base O a O2 W) {x0 x1 x2 x3 x4 x5 x6 x7 x8 x9 x10 x11 : Value} (hz : W.heap[b]? = some (.cells #[x0, x1, x2, x3, x4, x5, x6, x7, x8, x9, x10, x11] 35)) (hb : a.heap.size ≤ b) (hr : W.ownsRow B 30 5 sv k xs) (ha : sv.ownBlock ≠ some b) (c0 c1 c2 c3 c4 c5 c6 c7 c8 c9 c10 c11 : Value) :
    ((((((((((((W.setCell ⟨b, 0, none⟩ c0).setCell ⟨b, 1, none⟩ c1).setCell ⟨b, 2, none⟩ c2).setCell ⟨b, 3, none⟩ c3).setCell ⟨b, 4, none⟩ c4).setCell ⟨b, 5, none⟩ c5).setCell ⟨b, 6, none⟩ c6).setCell ⟨b, 7, none⟩ c7).setCell ⟨b, 8, none⟩ c8).setCell ⟨b, 9, none⟩ c9).setCell ⟨b, 10, none⟩ c10).setCell ⟨b, 11, none⟩ c11).heap[b]? = some (.cells #[c0, c1, c2, c3, c4, c5, c6, c7, c8, c9, c10, c11] 35) ∧ PHp base n ((((((((((((W.setCell ⟨b, 0, none⟩ c0).setCell ⟨b, 1, none⟩ c1).setCell ⟨b, 2, none⟩ c2).setCell ⟨b, 3, none⟩ c3).setCell ⟨b, 4, none⟩ c4).setCell ⟨b, 5, none⟩ c5).setCell ⟨b, 6, none⟩ c6).setCell ⟨b, 7, none⟩ c7).setCell ⟨b, 8, none⟩ c8).setCell ⟨b, 9, none⟩ c9).setCell ⟨b, 10, none⟩ c10).setCell ⟨b, 11, none⟩ c11) h M AA O2 ∧ QS base O a O2 ((((((((((((W.setCell ⟨b, 0, none⟩ c0).setCell ⟨b, 1, none⟩ c1).setCell ⟨b, 2, none⟩ c2).setCell ⟨b, 3, none⟩ c3).setCell ⟨b, 4, none⟩ c4).setCell ⟨b, 5, none⟩ c5).setCell ⟨b, 6, none⟩ c6).setCell ⟨b, 7, none⟩ c7).setCell ⟨b, 8, none⟩ c8).setCell ⟨b, 9, none⟩ c9).setCell ⟨b, 10, none⟩ c10).setCell ⟨b, 11, none⟩ c11) ∧ ((((((((((((W.setCell ⟨b, 0, none⟩ c0).setCell ⟨b, 1, none⟩ c1).setCell ⟨b, 2, none⟩ c2).setCell ⟨b, 3, none⟩ c3).setCell ⟨b, 4, none⟩ c4).setCell ⟨b, 5, none⟩ c5).setCell ⟨b, 6, none⟩ c6).setCell ⟨b, 7, none⟩ c7).setCell ⟨b, 8, none⟩ c8).setCell ⟨b, 9, none⟩ c9).setCell ⟨b, 10, none⟩ c10).setCell ⟨b, 11, none⟩ c11).ownsRow B 30 5 sv k xs :=
  let ⟨h1, h2, h3⟩ := leaf_twelve hP hq hz hb c0 c1 c2 c3 c4 c5 c6 c7 c8 c9 c10 c11
  ⟨h1, h2, h3, row_twelve hr ha c0 c1 c2 c3 c4 c5 c6 c7 c8 c9 c10 c11⟩
theorem numU_ins {l : List Nat} (h : ∀ x ∈ l, x ≤ 255) (p x : Nat) : ∀ v ∈ insM (l.map numU) p (numU x), v.k ≠ 0 := by
  intro v hv
  unfold insM at hv
  rcases List.mem_append.1 hv with h1 | h1
  · exact (numU_ok h v (List.mem_of_mem_take h1)).1
  · rcases List.mem_cons.1 h1 with rfl | h1
    · exact (by decide : (2 : Int) ≠ 0)
    · exact (numU_ok h v (List.mem_of_mem_drop h1)).1
theorem prjJ12 {c0 c1 c2 c3 c4 c5 c6 c7 c8 c9 c10 c11 p : Prop} (h : c0 ∧ c1 ∧ c2 ∧ c3 ∧ c4 ∧ c5 ∧ c6 ∧ c7 ∧ c8 ∧ c9 ∧ c10 ∧ c11 ∧ Hid p) : p := (h.2.2.2.2.2.2.2.2.2.2.2.2).out
end Go.Proofs.YtpbcmlnjiocmoaaGreatDoorR
