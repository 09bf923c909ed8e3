import Derived.Test.YtpbcmlnjiocmoaaGreatDoorRSrt
set_option linter.unusedVariables false
set_option linter.unusedSimpArgs false
namespace Go.Proofs.YtpbcmlnjiocmoaaGreatDoorR
open Go.RowKit Go.Proofs.Lexi
def ListPost (w : World) (A : List V) (e : Ending) (w' : World) : Prop :=
  ∃ so cap, e = .returned (.slice so A.length cap) ∧ w'.ownsRow w.heap.size 30 5 (.slice so A.length cap) A.length (rowV A) ∧ Below w.heap.size w w'
theorem row_shape {w : World} {base : Nat} {e : TypeId} {size n : Nat} {v : Value} {xs : List Value} (h : w.ownsRow base e size v n xs) : ∃ so cap, v = .slice so n cap := by
  rcases h.2 with ⟨rfl, rfl⟩ | ⟨g, cap, cur, rfl, _⟩
  · exact ⟨_, _, rfl⟩
  · exact ⟨_, _, rfl⟩
theorem grown_below {w w' : World} (h : w.grownBy w' none) : Below w.heap.size w w' := ⟨h.os, h.tape, h.output, h.size, fun k hk => h.block k hk (by simp)⟩
/-- An action in parts. -/
abbrev acV (kind op : Int) (f : V) (vs : Value) (s : ByteArray) (level next : Int) (ks : Value) : Value :=
  .agg #[.int .i64 kind, .int .i64 op, .int .i64 f.k, .int .i64 f.p, .int .i64 f.q, .string f.s, .int .i64 f.r, vs, .string s, .int .i64 level, .int .i64 next, ks]
abbrev oAc : Obj := .cells #[.int .i64 0, .int .i64 0, .int .i64 0, .int .i64 0, .int .i64 0, .string ⟨#[]⟩, .int .i64 0, .slice none 0 0, .string ⟨#[]⟩, .int .i64 0, .int .i64 0, .slice none 0 0] 35
theorem cells12 {w : World} {b : Nat} {c0 c1 c2 c3 c4 c5 c6 c7 c8 c9 c10 c11 : Value} {t : TypeId} {fz : Nat × Nat} (h : w.heap[b]? = some (.cells #[c0, c1, c2, c3, c4, c5, c6, c7, c8, c9, c10, c11] t fz)) :
    w.cell? ⟨b, 0, none⟩ = some c0 ∧ w.cell? ⟨b, 1, none⟩ = some c1 ∧ w.cell? ⟨b, 2, none⟩ = some c2 ∧ w.cell? ⟨b, 3, none⟩ = some c3 ∧ w.cell? ⟨b, 4, none⟩ = some c4 ∧ w.cell? ⟨b, 5, none⟩ = some c5 ∧ w.cell? ⟨b, 6, none⟩ = some c6 ∧ w.cell? ⟨b, 7, none⟩ = some c7 ∧ w.cell? ⟨b, 8, none⟩ = some c8 ∧ w.cell? ⟨b, 9, none⟩ = some c9 ∧ w.cell? ⟨b, 10, none⟩ = some c10 ∧ w.cell? ⟨b, 11, none⟩ = some c11 := by
  refine ⟨?_, ?_, ?_, ?_, ?_, ?_, ?_, ?_, ?_, ?_, ?_, ?_⟩ <;> (rw [cell_of_heap h]; rfl)
theorem froz12 {w : World} {b : Nat} {cs : Array Value} {t : TypeId} (h : w.heap[b]? = some (.cells cs t (0, 0))) :
    w.frozen? ⟨b, 0, none⟩ = false ∧ w.frozen? ⟨b, 1, none⟩ = false ∧ w.frozen? ⟨b, 2, none⟩ = false ∧ w.frozen? ⟨b, 3, none⟩ = false ∧ w.frozen? ⟨b, 4, none⟩ = false ∧ w.frozen? ⟨b, 5, none⟩ = false ∧ w.frozen? ⟨b, 6, none⟩ = false ∧ w.frozen? ⟨b, 7, none⟩ = false ∧ w.frozen? ⟨b, 8, none⟩ = false ∧ w.frozen? ⟨b, 9, none⟩ = false ∧ w.frozen? ⟨b, 10, none⟩ = false ∧ w.frozen? ⟨b, 11, none⟩ = false := by
  refine ⟨?_, ?_, ?_, ?_, ?_, ?_, ?_, ?_, ?_, ?_, ?_, ?_⟩ <;> exact frozen_of_heap h _
theorem below_twelve {B : Nat} {a w : World} (h : Below B a w) {b : Nat} (hb : B ≤ b) (c0 c1 c2 c3 c4 c5 c6 c7 c8 c9 c10 c11 : Value) :
    Below B a ((((((((((((w.setCell ⟨b, 0, none⟩ c0).setCell ⟨b, 1, none⟩ c1).setCell ⟨b, 2, none⟩ c2).setCell ⟨b, 3, none⟩ c3).setCell ⟨b, 4, none⟩ c4).setCell ⟨b, 5, none⟩ c5).setCell ⟨b, 6, none⟩ c6).setCell ⟨b, 7, none⟩ c7).setCell ⟨b, 8, none⟩ c8).setCell ⟨b, 9, none⟩ c9).setCell ⟨b, 10, none⟩ c10).setCell ⟨b, 11, none⟩ c11) :=
  (((((((((((h.setCell (p := ⟨b, 0, none⟩) hb c0).setCell (p := ⟨b, 1, none⟩) hb c1).setCell (p := ⟨b, 2, none⟩) hb c2).setCell (p := ⟨b, 3, none⟩) hb c3).setCell (p := ⟨b, 4, none⟩) hb c4).setCell (p := ⟨b, 5, none⟩) hb c5).setCell (p := ⟨b, 6, none⟩) hb c6).setCell (p := ⟨b, 7, none⟩) hb c7).setCell (p := ⟨b, 8, none⟩) hb c8).setCell (p := ⟨b, 9, none⟩) hb c9).setCell (p := ⟨b, 10, none⟩) hb c10).setCell (p := ⟨b, 11, none⟩) hb c11
theorem row_twelve {w : World} {base : Nat} {e : TypeId} {size n : Nat} {v : Value} {xs : List Value} (ho : w.ownsRow base e size v n xs) {b : Nat} (hb : v.ownBlock ≠ some b) (c0 c1 c2 c3 c4 c5 c6 c7 c8 c9 c10 c11 : Value) :
    ((((((((((((w.setCell ⟨b, 0, none⟩ c0).setCell ⟨b, 1, none⟩ c1).setCell ⟨b, 2, none⟩ c2).setCell ⟨b, 3, none⟩ c3).setCell ⟨b, 4, none⟩ c4).setCell ⟨b, 5, none⟩ c5).setCell ⟨b, 6, none⟩ c6).setCell ⟨b, 7, none⟩ c7).setCell ⟨b, 8, none⟩ c8).setCell ⟨b, 9, none⟩ c9).setCell ⟨b, 10, none⟩ c10).setCell ⟨b, 11, none⟩ c11).ownsRow base e size v n xs := by
  have h : ∀ j, v.ownBlock ≠ some (⟨b, j, none⟩ : Addr).block := fun _ => hb
  exact (ownsRow_set (ownsRow_set (ownsRow_set (ownsRow_set (ownsRow_set (ownsRow_set (ownsRow_set (ownsRow_set (ownsRow_set (ownsRow_set (ownsRow_set (ownsRow_set ho (h _) c0) (h _) c1) (h _) c2) (h _) c3) (h _) c4) (h _) c5) (h _) c6) (h _) c7) (h _) c8) (h _) c9) (h _) c10) (h _) c11)
def RetPost (w : World) (A : List V) (e : Ending) (w' : World) : Prop :=
  ∃ so cap, e = .returned (acV 1 0 V.nil (.slice so A.length cap) ⟨#[]⟩ 0 0 (.slice none 0 0)) ∧ w'.ownsRow w.heap.size 30 5 (.slice so A.length cap) A.length (rowV A) ∧ Below w.heap.size w w'
def FailPost (w : World) (v : V) (level : Int) (e : Ending) (w' : World) : Prop :=
  ∃ so cap, e = .returned (acV 2 0 V.nil (.slice so 1 cap) ⟨#[]⟩ level 0 (.slice none 0 0)) ∧ w'.ownsRow w.heap.size 30 5 (.slice so 1 cap) 1 (rowV [v]) ∧ Below w.heap.size w w'
def ActPost (F : Nat → Prop) (w : World) (kind op : Int) (f : V) (A : List V) (s : ByteArray) (level next : Int) (K : List V) (e : Ending) (w' : World) : Prop :=
  ∃ so cap sk ck, e = .returned (acV kind op f (.slice so A.length cap) s level next (.slice sk K.length ck)) ∧ w'.ownsRow w.heap.size 30 5 (.slice so A.length cap) A.length (rowV A) ∧ w'.ownsRow w.heap.size 30 5 (.slice sk K.length ck) K.length (rowV K) ∧ Mods F w w'
def NoF (_ : Nat) : Prop := False
theorem mods_below {w w' : World} (h : Mods NoF w w') : Below w.heap.size w w' := Mods.below h (Nat.le_refl _) (fun _ _ h => h)
theorem mods_alloc {F : Nat → Prop} {a b : World} (h : Mods F a b) (o : Obj) : Mods F a (b.alloc o) := mods_next h (below1 b o)
theorem mods_twelve {F : Nat → Prop} {a w : World} (h : Mods F a w) {b : Nat} (hb : F b ∨ a.heap.size ≤ b) (o0 o1 o2 o3 o4 o5 o6 o7 o8 o9 o10 o11 : Nat) (c0 c1 c2 c3 c4 c5 c6 c7 c8 c9 c10 c11 : Value) :
    Mods F a ((((((((((((w.setCell ⟨b, o0, none⟩ c0).setCell ⟨b, o1, none⟩ c1).setCell ⟨b, o2, none⟩ c2).setCell ⟨b, o3, none⟩ c3).setCell ⟨b, o4, none⟩ c4).setCell ⟨b, o5, none⟩ c5).setCell ⟨b, o6, none⟩ c6).setCell ⟨b, o7, none⟩ c7).setCell ⟨b, o8, none⟩ c8).setCell ⟨b, o9, none⟩ c9).setCell ⟨b, o10, none⟩ c10).setCell ⟨b, o11, none⟩ c11) := by
  exact mods_setCell (mods_setCell (mods_setCell (mods_setCell (mods_setCell (mods_setCell (mods_setCell (mods_setCell (mods_setCell (mods_setCell (mods_setCell (mods_setCell h hb c0) hb c1) hb c2) hb c3) hb c4) hb c5) hb c6) hb c7) hb c8) hb c9) hb c10) hb c11
theorem row_away {w : World} {B e size n : Nat} {v : Value} {xs : List Value} (ho : w.ownsRow B e size v n xs) {b : Nat} (hb : b < B) : v.ownBlock ≠ some b := fun h => by
  have := (ownBlock_lt ho h).1
  omega
theorem act_end {F : Nat → Prop} {w W : World} {b B : Nat} {A K : List V} {so sk : Option Addr} {cap ck : Nat} {kind op level next : Int} {f : V} {s : ByteArray}
    (ho : W.ownsRow B 30 5 (.slice so A.length cap) A.length (rowV A)) (hk : W.ownsRow B 30 5 (.slice sk K.length ck) K.length (rowV K)) (hm : Mods F w W) (hw : w.heap.size ≤ b) (hb : b < B) (c0 c1 c2 c3 c4 c5 c6 c7 c8 c9 c10 c11 : Value) :
    ActPost F w kind op f A s level next K (.returned (acV kind op f (.slice so A.length cap) s level next (.slice sk K.length ck))) ((((((((((((W.setCell ⟨b, 0, none⟩ c0).setCell ⟨b, 1, none⟩ c1).setCell ⟨b, 2, none⟩ c2).setCell ⟨b, 3, none⟩ c3).setCell ⟨b, 4, none⟩ c4).setCell ⟨b, 5, none⟩ c5).setCell ⟨b, 6, none⟩ c6).setCell ⟨b, 7, none⟩ c7).setCell ⟨b, 8, none⟩ c8).setCell ⟨b, 9, none⟩ c9).setCell ⟨b, 10, none⟩ c10).setCell ⟨b, 11, none⟩ c11) :=
  ⟨so, cap, sk, ck, rfl, ownsRow_base (row_twelve ho (row_away ho hb) _ _ _ _ _ _ _ _ _ _ _ _) (by omega), ownsRow_base (row_twelve hk (row_away hk hb) _ _ _ _ _ _ _ _ _ _ _ _) (by omega), mods_twelve hm (.inr hw) 0 1 2 3 4 5 6 7 8 9 10 11 _ _ _ _ _ _ _ _ _ _ _ _⟩
theorem cells16 {w : World} {b : Nat} {c0 c1 c2 c3 c4 c5 c6 c7 c8 c9 c10 c11 c12 c13 c14 c15 : Value} {t : TypeId} {fz : Nat × Nat} (h : w.heap[b]? = some (.cells #[c0, c1, c2, c3, c4, c5, c6, c7, c8, c9, c10, c11, c12, c13, c14, c15] t fz)) :
    w.cell? ⟨b, 0, none⟩ = some c0 ∧ w.cell? ⟨b, 1, none⟩ = some c1 ∧ w.cell? ⟨b, 2, none⟩ = some c2 ∧ w.cell? ⟨b, 3, none⟩ = some c3 ∧ w.cell? ⟨b, 4, none⟩ = some c4 ∧ w.cell? ⟨b, 5, none⟩ = some c5 ∧ w.cell? ⟨b, 6, none⟩ = some c6 ∧ w.cell? ⟨b, 7, none⟩ = some c7 ∧ w.cell? ⟨b, 8, none⟩ = some c8 ∧ w.cell? ⟨b, 9, none⟩ = some c9 ∧ w.cell? ⟨b, 10, none⟩ = some c10 ∧ w.cell? ⟨b, 11, none⟩ = some c11 ∧ w.cell? ⟨b, 12, none⟩ = some c12 ∧ w.cell? ⟨b, 13, none⟩ = some c13 ∧ w.cell? ⟨b, 14, none⟩ = some c14 ∧ w.cell? ⟨b, 15, none⟩ = some c15 := by
  refine ⟨?_, ?_, ?_, ?_, ?_, ?_, ?_, ?_, ?_, ?_, ?_, ?_, ?_, ?_, ?_, ?_⟩ <;> (rw [cell_of_heap h]; rfl)
theorem froz16 {w : World} {b : Nat} {cs : Array Value} {t : TypeId} (h : w.heap[b]? = some (.cells cs t (0, 0))) :
    w.frozen? ⟨b, 0, none⟩ = false ∧ w.frozen? ⟨b, 1, none⟩ = false ∧ w.frozen? ⟨b, 2, none⟩ = false ∧ w.frozen? ⟨b, 3, none⟩ = false ∧ w.frozen? ⟨b, 4, none⟩ = false ∧ w.frozen? ⟨b, 5, none⟩ = false ∧ w.frozen? ⟨b, 6, none⟩ = false ∧ w.frozen? ⟨b, 7, none⟩ = false ∧ w.frozen? ⟨b, 8, none⟩ = false ∧ w.frozen? ⟨b, 9, none⟩ = false ∧ w.frozen? ⟨b, 10, none⟩ = false ∧ w.frozen? ⟨b, 11, none⟩ = false ∧ w.frozen? ⟨b, 12, none⟩ = false ∧ w.frozen? ⟨b, 13, none⟩ = false ∧ w.frozen? ⟨b, 14, none⟩ = false ∧ w.frozen? ⟨b, 15, none⟩ = false := by
  refine ⟨?_, ?_, ?_, ?_, ?_, ?_, ?_, ?_, ?_, ?_, ?_, ?_, ?_, ?_, ?_, ?_⟩ <;> exact frozen_of_heap h _
theorem cells14 {w : World} {b : Nat} {c0 c1 c2 c3 c4 c5 c6 c7 c8 c9 c10 c11 c12 c13 : Value} {t : TypeId} {fz : Nat × Nat} (h : w.heap[b]? = some (.cells #[c0, c1, c2, c3, c4, c5, c6, c7, c8, c9, c10, c11, c12, c13] t fz)) :
    w.cell? ⟨b, 0, none⟩ = some c0 ∧ w.cell? ⟨b, 1, none⟩ = some c1 ∧ w.cell? ⟨b, 2, none⟩ = some c2 ∧ w.cell? ⟨b, 3, none⟩ = some c3 ∧ w.cell? ⟨b, 4, none⟩ = some c4 ∧ w.cell? ⟨b, 5, none⟩ = some c5 ∧ w.cell? ⟨b, 6, none⟩ = some c6 ∧ w.cell? ⟨b, 7, none⟩ = some c7 ∧ w.cell? ⟨b, 8, none⟩ = some c8 ∧ w.cell? ⟨b, 9, none⟩ = some c9 ∧ w.cell? ⟨b, 10, none⟩ = some c10 ∧ w.cell? ⟨b, 11, none⟩ = some c11 ∧ w.cell? ⟨b, 12, none⟩ = some c12 ∧ w.cell? ⟨b, 13, none⟩ = some c13 := by
  refine ⟨?_, ?_, ?_, ?_, ?_, ?_, ?_, ?_, ?_, ?_, ?_, ?_, ?_, ?_⟩ <;> (rw [cell_of_heap h]; rfl)
theorem froz14 {w : World} {b : Nat} {cs : Array Value} {t : TypeId} (h : w.heap[b]? = some (.cells cs t (0, 0))) :
    w.frozen? ⟨b, 0, none⟩ = false ∧ w.frozen? ⟨b, 1, none⟩ = false ∧ w.frozen? ⟨b, 2, none⟩ = false ∧ w.frozen? ⟨b, 3, none⟩ = false ∧ w.frozen? ⟨b, 4, none⟩ = false ∧ w.frozen? ⟨b, 5, none⟩ = false ∧ w.frozen? ⟨b, 6, none⟩ = false ∧ w.frozen? ⟨b, 7, none⟩ = false ∧ w.frozen? ⟨b, 8, none⟩ = false ∧ w.frozen? ⟨b, 9, none⟩ = false ∧ w.frozen? ⟨b, 10, none⟩ = false ∧ w.frozen? ⟨b, 11, none⟩ = false ∧ w.frozen? ⟨b, 12, none⟩ = false ∧ w.frozen? ⟨b, 13, none⟩ = false := by
  refine ⟨?_, ?_, ?_, ?_, ?_, ?_, ?_, ?_, ?_, ?_, ?_, ?_, ?_, ?_⟩ <;> exact frozen_of_heap h _
end Go.Proofs.YtpbcmlnjiocmoaaGreatDoorR
namespace Go.Proofs.YtpbcmlnjiocmoaaGreatDoorR
open Go.RowKit Go.Proofs.Lexi Go.ChangeMaps Go.MapKept
open Go.Maps (Keyed)
variable {P : Program}
/-- Block r is an iterator over the map in block b; D: the entries that it has not handed out. -/
def RangeAt (w : World) (b r : Nat) (E D : List (Value × Value)) : Prop :=
  ∃ es clock seen, w.heap[b]? = some (.map es clock) ∧ w.heap[r]? = some (.mapIter (some b) clock seen clock) ∧ es.toList.map (fun e => (e.key, e.val)) = E ∧ Born es clock ∧ (leftOf es seen).toList.map (fun e => (e.key, e.val)) = D
theorem RangeAt.keep {w w' : World} {b r : Nat} {E D : List (Value × Value)} (h : RangeAt w b r E D) (hb : w'.heap[b]? = w.heap[b]?) (hr : w'.heap[r]? = w.heap[r]?) : RangeAt w' b r E D := by
  obtain ⟨es, c, seen, h1, h2, h3⟩ := h
  exact ⟨es, c, seen, hb.trans h1, hr.trans h2, h3⟩
theorem RangeAt.lt {w : World} {b r : Nat} {E D : List (Value × Value)} (h : RangeAt w b r E D) : b < w.heap.size ∧ r < w.heap.size := by
  obtain ⟨es, c, seen, h1, h2, h3⟩ := h
  exact ⟨(Array.getElem?_eq_some_iff.1 h1).1, (Array.getElem?_eq_some_iff.1 h2).1⟩
theorem filter_one {e : MapEntry} : ∀ {l : List MapEntry}, (l.map (·.born)).Nodup → e ∈ l → ∃ A B, l = A ++ e :: B ∧ l.filter (fun x => !(x.born == e.born)) = A ++ B := by
  intro l hn he
  obtain ⟨A, B, rfl⟩ := List.append_of_mem he
  refine ⟨A, B, rfl, ?_⟩
  rw [List.map_append, List.map_cons, List.nodup_append] at hn
  obtain ⟨h1, h2, h3⟩ := hn
  rw [List.nodup_cons] at h2
  rw [List.filter_append, List.filter_cons, beq_self_eq_true]
  have ha : A.filter (fun x => !(x.born == e.born)) = A := List.filter_eq_self.2 fun x hx => by
    have := h3 x.born (List.mem_map.2 ⟨x, hx, rfl⟩) e.born (by simp)
    simpa using this
  have hb : B.filter (fun x => !(x.born == e.born)) = B := List.filter_eq_self.2 fun x hx => by
    have : x.born ≠ e.born := fun hc => h2.1 (hc ▸ List.mem_map.2 ⟨x, hx, rfl⟩)
    simpa using this
  rw [ha, hb]
  rfl
section
variable {k e t : TypeId} {w : World} {b r : Nat} {E D : List (Value × Value)}
theorem RangeAt.next (h : RangeAt w b r E D) (hne : b ≠ r) (ty : TypeId) :
    (D = [] ∧ (Instr.next (.pointer (some ⟨r, 0, none⟩)) false ty).run P w = .ok (.tuple #[.bool false]) w) ∨
    ∃ key v w' A B, (key, v) ∈ E ∧ D = A ++ (key, v) :: B ∧ (Instr.next (.pointer (some ⟨r, 0, none⟩)) false ty).run P w = .ok (.tuple #[.bool true, key, v]) w' ∧ RangeAt w' b r E (A ++ B) ∧ Mods (· = r) w w' ∧ w'.heap.size = w.heap.size ∧
      (Instr.entry (.pointer (some ⟨r, 0, none⟩))).run P w' = .ok (.tuple #[key, v]) w' := by
  obtain ⟨es, c, seen, hb, hr, hE, hn, hD⟩ := h
  have hold : ∀ x ∈ es.toList, x.born < c := fun x hx => hn.2 _ (List.mem_map.2 ⟨x, hx, rfl⟩)
  rcases run_next_at (P := P) w ty r b c c seen es c hr hb hold (Nat.le_refl _) with ⟨h0, hrun⟩ | ⟨x, hx, w1, hal, hrun⟩
  · refine .inl ⟨?_, hrun⟩
    rw [← hD, Array.eq_empty_of_size_eq_zero h0]
    rfl
  · have hxe : x ∈ es.toList := by
      unfold leftOf at hx
      simp at hx ⊢
      exact hx.1
    have hl : (leftOf es seen).toList = es.toList.filter (fun y => !seen.contains y.born) := by
      unfold leftOf
      exact Array.toList_filter
    have hnl : ((leftOf es seen).toList.map (·.born)).Nodup := by
      rw [hl]
      exact hn.1.sublist (List.filter_sublist.map _)
    obtain ⟨A, B, h1, h2⟩ := filter_one hnl hx
    have hl2 : (leftOf es (seen.push x.born)).toList = A ++ B := by
      rw [← h2, hl, List.filter_filter]
      have : (leftOf es (seen.push x.born)).toList = es.toList.filter (fun y => !(seen.push x.born).contains y.born) := by
        unfold leftOf
        exact Array.toList_filter
      rw [this]
      apply List.filter_congr
      intro y _
      rw [Array.contains_push]
      cases (y.born == x.born) <;> cases seen.contains y.born <;> rfl
    have hr1 : w1.heap[r]? = some (.mapIter (some b) c seen c) := by rcases hal with rfl | rfl <;> exact hr
    have hb1 : w1.heap[b]? = some (.map es c) := by rcases hal with rfl | rfl <;> exact hb
    have hset := heap_set (o' := .mapIter (some b) c (seen.push x.born) c) hr1
    have hb' : (setBlock w1 r (.mapIter (some b) c (seen.push x.born) c)).heap[b]? = some (.map es c) := (hset.2 b hne).trans hb1
    refine .inr ⟨x.key, x.val, _, A.map (fun e => (e.key, e.val)), B.map (fun e => (e.key, e.val)), ?_, ?_, hrun, ⟨es, c, seen.push x.born, hb', hset.1, hE, hn, ?_⟩, ?_, ?_, run_entry_at _ r b c seen es c x hset.1 hb' hxe hn.1⟩
    · rw [← hE]; exact List.mem_map.2 ⟨x, hxe, rfl⟩
    · rw [← hD, h1, List.map_append, List.map_cons]
    · rw [hl2, List.map_append]
    · rcases hal with rfl | rfl <;> exact ⟨rfl, rfl, rfl, by simp [setBlock], fun i _ hi => hset.2 i hi⟩
    · rcases hal with rfl | rfl <;> simp [setBlock]
end
end Go.Proofs.YtpbcmlnjiocmoaaGreatDoorR
namespace Go.Proofs.YtpbcmlnjiocmoaaGreatDoorR
open Go.RowKit Go.Proofs.Lexi
def tooLong : ByteArray := ⟨#[115, 116, 114, 105, 110, 103, 32, 116, 111, 111, 32, 108, 111, 110, 103]⟩
/-- An action in memory, of blocks from a world on. -/
def ActR (w : World) (kind : Int) (f : V) (A : List V) (s : ByteArray) (level next : Int) (K : List V) (e : Ending) (w' : World) : Prop :=
  ∃ so cap sk ck, e = .returned (acV kind 0 f (.slice so A.length cap) s level next (.slice sk K.length ck)) ∧ w'.ownsRow w.heap.size 30 5 (.slice so A.length cap) A.length (rowV A) ∧ w'.ownsRow w.heap.size 30 5 (.slice sk K.length ck) K.length (rowV K)
theorem ActPost.r {F : Nat → Prop} {w : World} {kind : Int} {f : V} {A : List V} {s : ByteArray} {level next : Int} {K : List V} {e : Ending} {w' : World} (h : ActPost F w kind 0 f A s level next K e w') : ActR w kind f A s level next K e w' ∧ Mods F w w' := by
  obtain ⟨so, cap, sk, ck, h1, h2, h3, h4⟩ := h
  exact ⟨⟨so, cap, sk, ck, h1, h2, h3⟩, h4⟩
theorem valid_num {x : Int} (h1 : -2147483647 ≤ x) (h2 : x ≤ 2147483647) : validV ⟨2, x, 1, ⟨#[]⟩, 0⟩ = true := by
  have h : validN (x, 1) = true := validN_iff.2 ⟨by simp, by simp, h1, h2, by simp⟩
  unfold validV
  have e : (⟨#[]⟩ : ByteArray) = ByteArray.empty := rfl
  simp [V.num, h, noStr, e]
theorem shrink_last {A : List V} {i : Nat} {v : V} (hl : i + 1 = A.length) (h : A[i]? = some v) (hv : v.k ≠ 0) : shrinkM A = A := by
  obtain ⟨B, u, rfl⟩ : ∃ B u, A = B ++ [u] := by
    have hne : A ≠ [] := fun e => by rw [e] at hl; simp at hl
    exact ⟨_, _, (List.dropLast_concat_getLast hne).symm⟩
  rw [List.length_append, List.length_singleton] at hl
  have hi : i = B.length := by omega
  subst hi
  rw [List.getElem?_append_right (Nat.le_refl _), Nat.sub_self] at h
  injection h with h
  subst h
  exact shrink_stop hv
theorem setIn_val {A : List V} {i : Nat} {v : V} (hi : i < A.length) (hv : v.k ≠ 0) : setInM A i v = A.set i v := by
  unfold setInM
  split
  · rename_i h2
    exact shrink_last (by rw [List.length_set]; exact h2) (List.getElem?_set_self hi) hv
  · rfl
theorem get_absent {L : List Sl} {k : V} (h : ∀ y ∈ L, y.k ≠ k) : getM L k = V.nil := by
  unfold getM
  rw [List.find?_eq_none.2 (fun y hy hh => h y hy (eqV_iff.1 (by unfold Sl.hit at hh; exact (Bool.and_eq_true_iff.1 hh).2)))]
theorem tget_in {A : List V} {L : List Sl} {x : Nat} {v : V} (hx : x < A.length) (hl : A.length ≤ 100000) (hv : A[x]? = some v) : tgetM A L ⟨2, (x : Int) + 1, 1, ⟨#[]⟩, 0⟩ = v := by
  unfold tgetM inA
  have h1 : intB ⟨2, (x : Int) + 1, 1, ⟨#[]⟩, 0⟩ = true := intB_iff.2 ⟨rfl, rfl, valid_num (by omega) (by omega)⟩
  rw [h1, Bool.true_and, if_pos (decide_eq_true (show (1 : Int) ≤ (x : Int) + 1 ∧ (x : Int) + 1 ≤ A.length by omega))]
  show A.getD (((x : Int) + 1).toNat - 1) V.nil = v
  rw [show ((x : Int) + 1).toNat - 1 = x by omega, List.getD_eq_getElem?_getD, hv]
  rfl
/-- A block that the heap's calls leave. -/
def Held (w : World) (O : Nat → Prop) (b : Nat) (o : Obj) : Prop := w.heap[b]? = some o ∧ ¬ O b
theorem Held.qs {base : Nat} {O O' : Nat → Prop} {w w' : World} {b : Nat} {o : Obj} (h : Held w O b o) (q : QS base O w O' w') (hS : ¬ PB o) : Held w' O' b o := q.keep h.1 hS h.2
theorem npb {cs : Array Value} {t : TypeId} {fz : Nat × Nat} (h : t ≠ 144 ∧ t ≠ 146 ∧ t ≠ 126 ∧ t ≠ 94 ∧ t ≠ 63) : ¬ PB (.cells cs t fz) := fun e => by
  obtain ⟨h1, h2, h3, h4, h5⟩ := h
  rcases e with e | e | e | e | e
  · exact h1 e
  · exact h2 e
  · exact h3 e
  · exact h4 e
  · exact h5 e
theorem Held.below {O : Nat → Prop} {w w' : World} {b : Nat} {o : Obj} (h : Held w O b o) (hb : Below w.heap.size w w') : Held w' O b o := ⟨hkeep hb h.1, h.2⟩
theorem PHp.mods {base n : Nat} {w w' : World} {h : Nat} {M : LH} {AA : List (List V)} {O : Nat → Prop} (hP : PHp base n w h M AA O) {b : Nat} {cs : Array Value} (hb : w.heap[b]? = some (.cells cs 35)) (hm : Mods (fun k => k = b) w w') : PHp base n w' h M AA O := by
  obtain ⟨⟨bo, bt, H, h1, h2, h2a, h3, h4, h5⟩, h6⟩ := hP
  refine ⟨⟨bo, bt, H, h1.keepF (fun k hk => hm.block k (hp_lt h1 hk) (fun e => ?_)), h2, h2a, h3, h4, h5⟩, fun k hk => Nat.lt_of_lt_of_le (h6 k hk) hm.size⟩
  subst e
  rcases hp_pb h1 hk with ⟨o, h7, h8⟩ | ⟨_, _, _, _, cur, h7⟩
  · rw [hb] at h7
    injection h7 with h7
    subst h7
    rcases h8 with h8 | h8 | h8 | h8 | h8 <;> exact absurd h8 (by decide)
  · rw [hb] at h7
    injection h7 with h7
    injection h7 with _ h7
    exact absurd h7 (by decide)
theorem vals_held {w w' : World} {g o n cap : Nat} {A : List V} (h : Vals w (.slice (some ⟨g, o, none⟩) n cap) A) (hg : w'.heap[g]? = w.heap[g]?) (hl : g < w'.heap.size) : Vals w' (.slice (some ⟨g, o, none⟩) n cap) A := by
  obtain ⟨so, c, h1, h2, hn, h3⟩ := h
  refine ⟨so, c, h1, h2, hn, ?_⟩
  rcases h3 with h3 | ⟨g2, o2, h4, h5, h6⟩
  · exact .inl h3
  · injection h1 with h1 _ _
    rw [h4] at h1
    injection h1 with h1
    injection h1 with h1 h7
    subst h1 h7
    exact .inr ⟨g, o, h4, hl, fun j u hj => by rw [← h6 j u hj]; unfold World.cell?; rw [hg]⟩
theorem set_last {α : Type} {l : List α} {n : Nat} (h : l.length = n) (x y : α) : (l ++ [x]).set n y = l ++ [y] := by
  subst h
  simp
/-- Strings, booleans that are handed in. -/
def Strs (w : World) (so : Option Addr) (l : List ByteArray) : Prop := l = [] ∨ ∃ g o, so = some ⟨g, o, none⟩ ∧ ∀ (i : Nat) s, l[i]? = some s → w.cell? ⟨g, o + i, none⟩ = some (.string s)
def Bools (w : World) (so : Option Addr) (l : List Bool) : Prop := l = [] ∨ ∃ g o, so = some ⟨g, o, none⟩ ∧ ∀ (i : Nat) b, l[i]? = some b → w.cell? ⟨g, o + i, none⟩ = some (.bool b)
theorem Strs.below {w w' : World} {so : Option Addr} {l : List ByteArray} (h : Strs w so l) (hb : Below w.heap.size w w') : Strs w' so l := by
  rcases h with h | ⟨g, o, h1, h2⟩
  · exact .inl h
  · exact .inr ⟨g, o, h1, fun i s hs => keepCell hb (h2 i s hs)⟩
theorem Bools.below {w w' : World} {so : Option Addr} {l : List Bool} (h : Bools w so l) (hb : Below w.heap.size w w') : Bools w' so l := by
  rcases h with h | ⟨g, o, h1, h2⟩
  · exact .inl h
  · exact .inr ⟨g, o, h1, fun i s hs => keepCell hb (h2 i s hs)⟩
/-- A row of values that the heap's calls leave. -/
def HeldRow (w : World) (O : Nat → Prop) (base : Nat) (sv : Value) (A : List V) : Prop := w.ownsRow base 30 5 sv A.length (rowV A) ∧ ∀ b, sv.ownBlock = some b → ¬ O b
theorem HeldRow.below {w w' : World} {O : Nat → Prop} {base : Nat} {sv : Value} {A : List V} (h : HeldRow w O base sv A) (hb : Below w.heap.size w w') : HeldRow w' O base sv A := ⟨ownsRow_ext (below_ext hb (Nat.le_refl _)) h.1, h.2⟩
theorem HeldRow.qs {bs base : Nat} {O O' : Nat → Prop} {w w' : World} {sv : Value} {A : List V} (h : HeldRow w O base sv A) (q : QS bs O w O' w') : HeldRow w' O' base sv A := by
  have hk : ∀ b, sv.ownBlock = some b → w'.heap[b]? = w.heap[b]? ∧ ¬ O' b := fun b hb => by
    obtain ⟨cs, hc⟩ := row_block h.1 hb
    have := q.keep hc (npb (by decide)) (h.2 b hb)
    exact ⟨this.1.trans hc.symm, this.2⟩
  exact ⟨ownsRow_keep h.1 (fun b hb => (hk b hb).1), fun b hb => (hk b hb).2⟩
theorem PHp.modsV {base n : Nat} {w w' : World} {h : Nat} {M : LH} {AA : List (List V)} {O : Nat → Prop} (hP : PHp base n w h M AA O) {b : Nat} {cs : Array Value} (hb : w.heap[b]? = some (.cells cs 30)) (hO : ¬ O b) (hm : Mods (fun k => k = b) w w') : PHp base n w' h M AA O := by
  obtain ⟨⟨bo, bt, H, h1, h2, h2a, h3, h4, h5⟩, h6⟩ := hP
  refine ⟨⟨bo, bt, H, h1.keepF (fun k hk => hm.block k (hp_lt h1 hk) (fun e => ?_)), h2, h2a, h3, h4, h5⟩, fun k hk => Nat.lt_of_lt_of_le (h6 k hk) hm.size⟩
  subst e
  rcases hp_pb h1 hk with ⟨o, h7, h8⟩ | ⟨y, hy, hy4, h7, _⟩
  · rw [hb] at h7
    injection h7 with h7
    subst h7
    exact npb (by decide) h8
  · exact hO (h5 y hy hy4 k h7)
theorem heap12_at {w : World} {b : Nat} {x0 x1 x2 x3 x4 x5 x6 x7 x8 x9 x10 x11 : Value} {t : TypeId} {fz : Nat × Nat} (h : w.heap[b]? = some (.cells #[x0, x1, x2, x3, x4, x5, x6, x7, x8, x9, x10, x11] t fz)) (c0 c1 c2 c3 c4 c5 c6 c7 c8 c9 c10 c11 : Value) :
    ((((((((((((w.setCell ⟨b, 0, none⟩ c0).setCell ⟨b, 1, none⟩ c1).setCell ⟨b, 2, none⟩ c2).setCell ⟨b, 3, none⟩ c3).setCell ⟨b, 4, none⟩ c4).setCell ⟨b, 5, none⟩ c5).setCell ⟨b, 6, none⟩ c6).setCell ⟨b, 7, none⟩ c7).setCell ⟨b, 8, none⟩ c8).setCell ⟨b, 9, none⟩ c9).setCell ⟨b, 10, none⟩ c10).setCell ⟨b, 11, none⟩ c11).heap[b]? = some (.cells #[c0, c1, c2, c3, c4, c5, c6, c7, c8, c9, c10, c11] t fz) := by
  have h0 := h
  have h1 : (w.setCell ⟨b, 0, none⟩ c0).heap[b]? = some (.cells #[c0, x1, x2, x3, x4, x5, x6, x7, x8, x9, x10, x11] t fz) := heap_setCell_same h0 0 c0
  have h2 : ((w.setCell ⟨b, 0, none⟩ c0).setCell ⟨b, 1, none⟩ c1).heap[b]? = some (.cells #[c0, c1, x2, x3, x4, x5, x6, x7, x8, x9, x10, x11] t fz) := heap_setCell_same h1 1 c1
  have h3 : (((w.setCell ⟨b, 0, none⟩ c0).setCell ⟨b, 1, none⟩ c1).setCell ⟨b, 2, none⟩ c2).heap[b]? = some (.cells #[c0, c1, c2, x3, x4, x5, x6, x7, x8, x9, x10, x11] t fz) := heap_setCell_same h2 2 c2
  have h4 : ((((w.setCell ⟨b, 0, none⟩ c0).setCell ⟨b, 1, none⟩ c1).setCell ⟨b, 2, none⟩ c2).setCell ⟨b, 3, none⟩ c3).heap[b]? = some (.cells #[c0, c1, c2, c3, x4, x5, x6, x7, x8, x9, x10, x11] t fz) := heap_setCell_same h3 3 c3
  have h5 : (((((w.setCell ⟨b, 0, none⟩ c0).setCell ⟨b, 1, none⟩ c1).setCell ⟨b, 2, none⟩ c2).setCell ⟨b, 3, none⟩ c3).setCell ⟨b, 4, none⟩ c4).heap[b]? = some (.cells #[c0, c1, c2, c3, c4, x5, x6, x7, x8, x9, x10, x11] t fz) := heap_setCell_same h4 4 c4
  have h6 : ((((((w.setCell ⟨b, 0, none⟩ c0).setCell ⟨b, 1, none⟩ c1).setCell ⟨b, 2, none⟩ c2).setCell ⟨b, 3, none⟩ c3).setCell ⟨b, 4, none⟩ c4).setCell ⟨b, 5, none⟩ c5).heap[b]? = some (.cells #[c0, c1, c2, c3, c4, c5, x6, x7, x8, x9, x10, x11] t fz) := heap_setCell_same h5 5 c5
  have h7 : (((((((w.setCell ⟨b, 0, none⟩ c0).setCell ⟨b, 1, none⟩ c1).setCell ⟨b, 2, none⟩ c2).setCell ⟨b, 3, none⟩ c3).setCell ⟨b, 4, none⟩ c4).setCell ⟨b, 5, none⟩ c5).setCell ⟨b, 6, none⟩ c6).heap[b]? = some (.cells #[c0, c1, c2, c3, c4, c5, c6, x7, x8, x9, x10, x11] t fz) := heap_setCell_same h6 6 c6
  have h8 : ((((((((w.setCell ⟨b, 0, none⟩ c0).setCell ⟨b, 1, none⟩ c1).setCell ⟨b, 2, none⟩ c2).setCell ⟨b, 3, none⟩ c3).setCell ⟨b, 4, none⟩ c4).setCell ⟨b, 5, none⟩ c5).setCell ⟨b, 6, none⟩ c6).setCell ⟨b, 7, none⟩ c7).heap[b]? = some (.cells #[c0, c1, c2, c3, c4, c5, c6, c7, x8, x9, x10, x11] t fz) := heap_setCell_same h7 7 c7
  have h9 : (((((((((w.setCell ⟨b, 0, none⟩ c0).setCell ⟨b, 1, none⟩ c1).setCell ⟨b, 2, none⟩ c2).setCell ⟨b, 3, none⟩ c3).setCell ⟨b, 4, none⟩ c4).setCell ⟨b, 5, none⟩ c5).setCell ⟨b, 6, none⟩ c6).setCell ⟨b, 7, none⟩ c7).setCell ⟨b, 8, none⟩ c8).heap[b]? = some (.cells #[c0, c1, c2, c3, c4, c5, c6, c7, c8, x9, x10, x11] t fz) := heap_setCell_same h8 8 c8
  have h10 : ((((((((((w.setCell ⟨b, 0, none⟩ c0).setCell ⟨b, 1, none⟩ c1).setCell ⟨b, 2, none⟩ c2).setCell ⟨b, 3, none⟩ c3).setCell ⟨b, 4, none⟩ c4).setCell ⟨b, 5, none⟩ c5).setCell ⟨b, 6, none⟩ c6).setCell ⟨b, 7, none⟩ c7).setCell ⟨b, 8, none⟩ c8).setCell ⟨b, 9, none⟩ c9).heap[b]? = some (.cells #[c0, c1, c2, c3, c4, c5, c6, c7, c8, c9, x10, x11] t fz) := heap_setCell_same h9 9 c9
  have h11 : (((((((((((w.setCell ⟨b, 0, none⟩ c0).setCell ⟨b, 1, none⟩ c1).setCell ⟨b, 2, none⟩ c2).setCell ⟨b, 3, none⟩ c3).setCell ⟨b, 4, none⟩ c4).setCell ⟨b, 5, none⟩ c5).setCell ⟨b, 6, none⟩ c6).setCell ⟨b, 7, none⟩ c7).setCell ⟨b, 8, none⟩ c8).setCell ⟨b, 9, none⟩ c9).setCell ⟨b, 10, none⟩ c10).heap[b]? = some (.cells #[c0, c1, c2, c3, c4, c5, c6, c7, c8, c9, c10, x11] t fz) := heap_setCell_same h10 10 c10
  have h12 : ((((((((((((w.setCell ⟨b, 0, none⟩ c0).setCell ⟨b, 1, none⟩ c1).setCell ⟨b, 2, none⟩ c2).setCell ⟨b, 3, none⟩ c3).setCell ⟨b, 4, none⟩ c4).setCell ⟨b, 5, none⟩ c5).setCell ⟨b, 6, none⟩ c6).setCell ⟨b, 7, none⟩ c7).setCell ⟨b, 8, none⟩ c8).setCell ⟨b, 9, none⟩ c9).setCell ⟨b, 10, none⟩ c10).setCell ⟨b, 11, none⟩ c11).heap[b]? = some (.cells #[c0, c1, c2, c3, c4, c5, c6, c7, c8, c9, c10, c11] t fz) := heap_setCell_same h11 11 c11
  exact h12
theorem infoB : (Tryz.prog.info? 74).map (·.size) = some 2 := by kernel_rfl
theorem infoByte : (Tryz.prog.info? 5).map (fun i => (i.zero, i.size, i.bytes)) = some (some (.int .u8 0), 1, 1) := by kernel_rfl
theorem liesB : liesAt Tryz.prog Tryz.prog.depth 74 (2 / Tryz.prog.cellsOf 74) 0 74 1 = true := by kernel_rfl
/-- Blocks that hold neither a Builder nor bytes are as they were. -/
def Keeps (w w' : World) : Prop := ∀ (k : Nat) (cs : Array Value) (t : TypeId) (fz : Nat × Nat), w.heap[k]? = some (Obj.cells cs t fz) → t ≠ 74 → t ≠ 5 → w'.heap[k]? = some (Obj.cells cs t fz)
theorem Keeps.setB {w w' : World} (h : Keeps w w') {b : Nat} {cs : Array Value} {fz : Nat × Nat} (hb : w'.heap[b]? = some (.cells cs 74 fz)) (o : Nat) (v : Value) : Keeps w (w'.setCell ⟨b, o, none⟩ v) := fun k cs' t fz' hk h75 h5 => by
  have h1 := h k cs' t fz' hk h75 h5
  by_cases hkb : k = b
  · subst hkb
    rw [hb] at h1
    injection h1 with h1
    injection h1 with _ h1
    exact absurd h1.symm h75
  · rw [Below.heap_setCell _ _ _ _ hkb]; exact h1
/-- What a write to a Builder leaves. -/
def WrPost (B b : Nat) (bs : List Value) (w : World) (r : Value) (e : Ending) (w' : World) : Prop := e = .returned r ∧ Lib.IsBuilder 74 5 B b bs w' ∧ Below B w w'
def WrPostK (B b : Nat) (bs : List Value) (w : World) (r : Value) (e : Ending) (w' : World) : Prop := WrPost B b bs w r e w' ∧ Keeps w w'
abbrev oCt (h : Nat) (nm : ByteArray) (av : Value) : Obj := .cells #[.pointer (some ⟨h, 0, none⟩), .string nm, av, .int .i64 0, .int .i64 0, .int .i64 0, .int .i64 0, .int .i64 0, .string ⟨#[]⟩, .int .i64 0, .slice none 0 0, .string ⟨#[]⟩, .int .i64 0, .int .i64 0, .slice none 0 0, .bool false] 69
abbrev tabA (ti : Nat) : Value := .agg #[.int .i64 4, .int .i64 0, .int .i64 0, .string ⟨#[]⟩, .int .i64 ((ti : Int) + 1)]
abbrev oCtB (h : Nat) (nm : ByteArray) (av : Value) (so1 : Option Addr) (cap1 : Nat) : Obj := .cells #[.pointer (some ⟨h, 0, none⟩), .string nm, av, .int .i64 2, .int .i64 0, .int .i64 0, .int .i64 0, .int .i64 0, .string ⟨#[]⟩, .int .i64 0, .slice so1 1 cap1, .string ⟨#[]⟩, .int .i64 1, .int .i64 0, .slice none 0 0, .bool true] 69
theorem heap16_bad {w : World} {b : Nat} {x0 x1 x2 x3 x4 x5 x6 x7 x8 x9 x10 x11 x12 x13 x14 x15 : Value} {t : TypeId} {fz : Nat × Nat} (h : w.heap[b]? = some (.cells #[x0, x1, x2, x3, x4, x5, x6, x7, x8, x9, x10, x11, x12, x13, x14, x15] t fz)) (c3 c4 c5 c6 c7 c8 c9 c10 c11 c12 c13 c14 c15 : Value) : (((((((((((((w.setCell ⟨b, 3, none⟩ c3).setCell ⟨b, 4, none⟩ c4).setCell ⟨b, 5, none⟩ c5).setCell ⟨b, 6, none⟩ c6).setCell ⟨b, 7, none⟩ c7).setCell ⟨b, 8, none⟩ c8).setCell ⟨b, 9, none⟩ c9).setCell ⟨b, 10, none⟩ c10).setCell ⟨b, 11, none⟩ c11).setCell ⟨b, 12, none⟩ c12).setCell ⟨b, 13, none⟩ c13).setCell ⟨b, 14, none⟩ c14).setCell ⟨b, 15, none⟩ c15).heap[b]? = some (.cells #[x0, x1, x2, c3, c4, c5, c6, c7, c8, c9, c10, c11, c12, c13, c14, c15] t fz) := by
  have h3 : (w.setCell ⟨b, 3, none⟩ c3).heap[b]? = some (.cells #[x0, x1, x2, c3, x4, x5, x6, x7, x8, x9, x10, x11, x12, x13, x14, x15] t fz) := heap_setCell_same h 3 c3
  have h4 : ((w.setCell ⟨b, 3, none⟩ c3).setCell ⟨b, 4, none⟩ c4).heap[b]? = some (.cells #[x0, x1, x2, c3, c4, x5, x6, x7, x8, x9, x10, x11, x12, x13, x14, x15] t fz) := heap_setCell_same h3 4 c4
  have h5 : (((w.setCell ⟨b, 3, none⟩ c3).setCell ⟨b, 4, none⟩ c4).setCell ⟨b, 5, none⟩ c5).heap[b]? = some (.cells #[x0, x1, x2, c3, c4, c5, x6, x7, x8, x9, x10, x11, x12, x13, x14, x15] t fz) := heap_setCell_same h4 5 c5
  have h6 : ((((w.setCell ⟨b, 3, none⟩ c3).setCell ⟨b, 4, none⟩ c4).setCell ⟨b, 5, none⟩ c5).setCell ⟨b, 6, none⟩ c6).heap[b]? = some (.cells #[x0, x1, x2, c3, c4, c5, c6, x7, x8, x9, x10, x11, x12, x13, x14, x15] t fz) := heap_setCell_same h5 6 c6
  have h7 : (((((w.setCell ⟨b, 3, none⟩ c3).setCell ⟨b, 4, none⟩ c4).setCell ⟨b, 5, none⟩ c5).setCell ⟨b, 6, none⟩ c6).setCell ⟨b, 7, none⟩ c7).heap[b]? = some (.cells #[x0, x1, x2, c3, c4, c5, c6, c7, x8, x9, x10, x11, x12, x13, x14, x15] t fz) := heap_setCell_same h6 7 c7
  have h8 : ((((((w.setCell ⟨b, 3, none⟩ c3).setCell ⟨b, 4, none⟩ c4).setCell ⟨b, 5, none⟩ c5).setCell ⟨b, 6, none⟩ c6).setCell ⟨b, 7, none⟩ c7).setCell ⟨b, 8, none⟩ c8).heap[b]? = some (.cells #[x0, x1, x2, c3, c4, c5, c6, c7, c8, x9, x10, x11, x12, x13, x14, x15] t fz) := heap_setCell_same h7 8 c8
  have h9 : (((((((w.setCell ⟨b, 3, none⟩ c3).setCell ⟨b, 4, none⟩ c4).setCell ⟨b, 5, none⟩ c5).setCell ⟨b, 6, none⟩ c6).setCell ⟨b, 7, none⟩ c7).setCell ⟨b, 8, none⟩ c8).setCell ⟨b, 9, none⟩ c9).heap[b]? = some (.cells #[x0, x1, x2, c3, c4, c5, c6, c7, c8, c9, x10, x11, x12, x13, x14, x15] t fz) := heap_setCell_same h8 9 c9
  have h10 : ((((((((w.setCell ⟨b, 3, none⟩ c3).setCell ⟨b, 4, none⟩ c4).setCell ⟨b, 5, none⟩ c5).setCell ⟨b, 6, none⟩ c6).setCell ⟨b, 7, none⟩ c7).setCell ⟨b, 8, none⟩ c8).setCell ⟨b, 9, none⟩ c9).setCell ⟨b, 10, none⟩ c10).heap[b]? = some (.cells #[x0, x1, x2, c3, c4, c5, c6, c7, c8, c9, c10, x11, x12, x13, x14, x15] t fz) := heap_setCell_same h9 10 c10
  have h11 : (((((((((w.setCell ⟨b, 3, none⟩ c3).setCell ⟨b, 4, none⟩ c4).setCell ⟨b, 5, none⟩ c5).setCell ⟨b, 6, none⟩ c6).setCell ⟨b, 7, none⟩ c7).setCell ⟨b, 8, none⟩ c8).setCell ⟨b, 9, none⟩ c9).setCell ⟨b, 10, none⟩ c10).setCell ⟨b, 11, none⟩ c11).heap[b]? = some (.cells #[x0, x1, x2, c3, c4, c5, c6, c7, c8, c9, c10, c11, x12, x13, x14, x15] t fz) := heap_setCell_same h10 11 c11
  have h12 : ((((((((((w.setCell ⟨b, 3, none⟩ c3).setCell ⟨b, 4, none⟩ c4).setCell ⟨b, 5, none⟩ c5).setCell ⟨b, 6, none⟩ c6).setCell ⟨b, 7, none⟩ c7).setCell ⟨b, 8, none⟩ c8).setCell ⟨b, 9, none⟩ c9).setCell ⟨b, 10, none⟩ c10).setCell ⟨b, 11, none⟩ c11).setCell ⟨b, 12, none⟩ c12).heap[b]? = some (.cells #[x0, x1, x2, c3, c4, c5, c6, c7, c8, c9, c10, c11, c12, x13, x14, x15] t fz) := heap_setCell_same h11 12 c12
  have h13 : (((((((((((w.setCell ⟨b, 3, none⟩ c3).setCell ⟨b, 4, none⟩ c4).setCell ⟨b, 5, none⟩ c5).setCell ⟨b, 6, none⟩ c6).setCell ⟨b, 7, none⟩ c7).setCell ⟨b, 8, none⟩ c8).setCell ⟨b, 9, none⟩ c9).setCell ⟨b, 10, none⟩ c10).setCell ⟨b, 11, none⟩ c11).setCell ⟨b, 12, none⟩ c12).setCell ⟨b, 13, none⟩ c13).heap[b]? = some (.cells #[x0, x1, x2, c3, c4, c5, c6, c7, c8, c9, c10, c11, c12, c13, x14, x15] t fz) := heap_setCell_same h12 13 c13
  have h14 : ((((((((((((w.setCell ⟨b, 3, none⟩ c3).setCell ⟨b, 4, none⟩ c4).setCell ⟨b, 5, none⟩ c5).setCell ⟨b, 6, none⟩ c6).setCell ⟨b, 7, none⟩ c7).setCell ⟨b, 8, none⟩ c8).setCell ⟨b, 9, none⟩ c9).setCell ⟨b, 10, none⟩ c10).setCell ⟨b, 11, none⟩ c11).setCell ⟨b, 12, none⟩ c12).setCell ⟨b, 13, none⟩ c13).setCell ⟨b, 14, none⟩ c14).heap[b]? = some (.cells #[x0, x1, x2, c3, c4, c5, c6, c7, c8, c9, c10, c11, c12, c13, c14, x15] t fz) := heap_setCell_same h13 14 c14
  have h15 : (((((((((((((w.setCell ⟨b, 3, none⟩ c3).setCell ⟨b, 4, none⟩ c4).setCell ⟨b, 5, none⟩ c5).setCell ⟨b, 6, none⟩ c6).setCell ⟨b, 7, none⟩ c7).setCell ⟨b, 8, none⟩ c8).setCell ⟨b, 9, none⟩ c9).setCell ⟨b, 10, none⟩ c10).setCell ⟨b, 11, none⟩ c11).setCell ⟨b, 12, none⟩ c12).setCell ⟨b, 13, none⟩ c13).setCell ⟨b, 14, none⟩ c14).setCell ⟨b, 15, none⟩ c15).heap[b]? = some (.cells #[x0, x1, x2, c3, c4, c5, c6, c7, c8, c9, c10, c11, c12, c13, c14, c15] t fz) := heap_setCell_same h14 15 c15
  exact h15
theorem mods_13 {F : Nat → Prop} {a w : World} (h : Mods F a w) {b : Nat} (hb : F b ∨ a.heap.size ≤ b) (c3 c4 c5 c6 c7 c8 c9 c10 c11 c12 c13 c14 c15 : Value) : Mods F a (((((((((((((w.setCell ⟨b, 3, none⟩ c3).setCell ⟨b, 4, none⟩ c4).setCell ⟨b, 5, none⟩ c5).setCell ⟨b, 6, none⟩ c6).setCell ⟨b, 7, none⟩ c7).setCell ⟨b, 8, none⟩ c8).setCell ⟨b, 9, none⟩ c9).setCell ⟨b, 10, none⟩ c10).setCell ⟨b, 11, none⟩ c11).setCell ⟨b, 12, none⟩ c12).setCell ⟨b, 13, none⟩ c13).setCell ⟨b, 14, none⟩ c14).setCell ⟨b, 15, none⟩ c15) := by
  exact mods_setCell (mods_setCell (mods_setCell (mods_setCell (mods_setCell (mods_setCell (mods_setCell (mods_setCell (mods_setCell (mods_setCell (mods_setCell (mods_setCell (mods_setCell (h) hb c3) hb c4) hb c5) hb c6) hb c7) hb c8) hb c9) hb c10) hb c11) hb c12) hb c13) hb c14) hb c15
theorem row_13 {w : World} {base : Nat} {e : TypeId} {size n : Nat} {v : Value} {xs : List Value} (ho : w.ownsRow base e size v n xs) {b : Nat} (hb : v.ownBlock ≠ some b) (c3 c4 c5 c6 c7 c8 c9 c10 c11 c12 c13 c14 c15 : Value) : (((((((((((((w.setCell ⟨b, 3, none⟩ c3).setCell ⟨b, 4, none⟩ c4).setCell ⟨b, 5, none⟩ c5).setCell ⟨b, 6, none⟩ c6).setCell ⟨b, 7, none⟩ c7).setCell ⟨b, 8, none⟩ c8).setCell ⟨b, 9, none⟩ c9).setCell ⟨b, 10, none⟩ c10).setCell ⟨b, 11, none⟩ c11).setCell ⟨b, 12, none⟩ c12).setCell ⟨b, 13, none⟩ c13).setCell ⟨b, 14, none⟩ c14).setCell ⟨b, 15, none⟩ c15).ownsRow base e size v n xs := by
  have h : ∀ j, v.ownBlock ≠ some (⟨b, j, none⟩ : Addr).block := fun _ => hb
  exact ownsRow_set (ownsRow_set (ownsRow_set (ownsRow_set (ownsRow_set (ownsRow_set (ownsRow_set (ownsRow_set (ownsRow_set (ownsRow_set (ownsRow_set (ownsRow_set (ownsRow_set (ho) (h _) c3) (h _) c4) (h _) c5) (h _) c6) (h _) c7) (h _) c8) (h _) c9) (h _) c10) (h _) c11) (h _) c12) (h _) c13) (h _) c14) (h _) c15
theorem bld_keep {T e : TypeId} {B b : Nat} {bs : List Value} {w w' : World} (h : Lib.IsBuilder T e B b bs w) (hk : ∀ g, B ≤ g → g < w.heap.size → w'.heap[g]? = w.heap[g]?) : Lib.IsBuilder T e B b bs w' := by
  rcases h with ⟨hB, v, hb, ho, hne⟩ | ⟨hB, v, hb, ho, hne⟩
  · exact .inl ⟨hB, v, (hk b hB (Array.getElem?_eq_some_iff.1 hb).1).trans hb, ownsRow_keep ho (fun g hg => hk g (ownBlock_lt ho hg).1 (ownBlock_lt ho hg).2), hne⟩
  · exact .inr ⟨hB, v, (hk b hB (Array.getElem?_eq_some_iff.1 hb).1).trans hb, ownsRow_keep ho (fun g hg => hk g (ownBlock_lt ho hg).1 (ownBlock_lt ho hg).2), hne⟩
theorem bld_below {T e : TypeId} {B b : Nat} {bs : List Value} {w w' : World} (h : Lib.IsBuilder T e B b bs w) (hb : Below w.heap.size w w') : Lib.IsBuilder T e B b bs w' := bld_keep h (fun g _ hg => hb.block g hg)
theorem mods_bel {F : Nat → Prop} {B : Nat} {w W W' : World} (hm : Mods F w W) (hb : Below B W W') (hB : w.heap.size ≤ B) : Mods F w W' := ⟨hb.os.trans hm.os, hb.tape.trans hm.tape, hb.output.trans hm.output, Nat.le_trans hm.size hb.size, fun k hk hF => (hb.block k (Nat.lt_of_lt_of_le hk hB)).trans (hm.block k hk hF)⟩
theorem below_bel {B : Nat} {w W W' : World} (hm : Below w.heap.size w W) (hb : Below B W W') (hB : w.heap.size ≤ B) : Below w.heap.size w W' := ⟨hb.os.trans hm.os, hb.tape.trans hm.tape, hb.output.trans hm.output, Nat.le_trans hm.size hb.size, fun k hk => (hb.block k (Nat.lt_of_lt_of_le hk hB)).trans (hm.block k hk)⟩
theorem bkeep {B : Nat} {W W' : World} (hb : Below B W W') {b : Nat} {o : Obj} (h : W.heap[b]? = some o) (hB : b < B) : W'.heap[b]? = some o := (hb.block b hB).trans h
def FailedC (w : World) (c h : Nat) (nm : ByteArray) (av : Value) (t : ByteArray) (e : Ending) (w' : World) : Prop := e = .returned (.tuple #[]) ∧ ∃ so cap, w'.heap[c]? = some (oCtB h nm av so cap) ∧ w'.ownsRow w.heap.size 30 5 (.slice so 1 cap) 1 (rowV [strV t]) ∧ Mods (fun k => k = c) w w'
/-- The text of a value. -/
def txt (v : V) : ByteArray := sS (strOf v)
def conP (A : List V) (sep : ByteArray) (i : Nat) : List UInt8 := Lib.join ((A.take i).map (fun v => (txt v).data.toList)) sep.data.toList
theorem joinK_snoc (l : List (List UInt8)) (x sep : List UInt8) : Lib.join (l ++ [x]) sep = if l = [] then x else Lib.join l sep ++ sep ++ x := by
  cases l with
  | nil => simp [Lib.join_cons, Lib.joinTail]
  | cons y l => simp [Lib.join_cons, Lib.joinTail]
theorem conP_zero (A : List V) (sep : ByteArray) : conP A sep 0 = [] := rfl
theorem conP_succ {A : List V} {sep : ByteArray} {i : Nat} {v : V} (hv : A[i]? = some v) : conP A sep (i + 1) = if i = 0 then (txt v).data.toList else conP A sep i ++ sep.data.toList ++ (txt v).data.toList := by
  unfold conP
  rw [List.take_add_one, hv]
  simp only [Option.toList_some, List.map_append, List.map_cons, List.map_nil]
  rw [joinK_snoc]
  have hl : i < A.length := (List.getElem?_eq_some_iff.1 hv).1
  by_cases h : i = 0
  · subst h
    simp
  · rw [if_neg h, if_neg]
    intro e
    have := congrArg List.length e
    rw [List.length_map, List.length_take, List.length_nil] at this
    omega
theorem conP_len_le {A : List V} {sep : ByteArray} (i : Nat) : ∀ d, i + d ≤ A.length → (conP A sep i).length ≤ (conP A sep (i + d)).length
  | 0, _ => Nat.le_refl _
  | d + 1, h => by
    refine Nat.le_trans (conP_len_le i d (by omega)) ?_
    show _ ≤ (conP A sep (i + d + 1)).length
    rw [conP_succ (List.getElem?_eq_getElem (show i + d < A.length by omega))]
    split
    · rename_i h0
      have e : (conP A sep (i + d)).length = 0 := by rw [h0]; rfl
      omega
    · simp only [List.length_append]; omega
theorem bStr_k (B b : Nat) (l : List UInt8) (w : World) (h : Lib.IsBuilder 74 5 B b (Lib.byteCells l) w) (h0 : l ≠ []) : Calls Tryz.prog 35 #[.pointer (some ⟨b, 0, none⟩)] w (fun e w' => e = .returned (.string ⟨l.toArray⟩) ∧ Below B w w' ∧ Lib.OthersKept 5 (some b) w w') :=
  (Go.Proofs.Any.Builder_String_k Tryz.lays169 Tryz.Builder_Extra_169 B b l w (Lib.IsBuilderF.of h) h0).mono fun _ _ h => ⟨h.1, h.2.2.1, h.2.2.2⟩
theorem row_others {w w' : World} {B B2 b n : Nat} {v : Value} {xs bs : List Value} (ho : w.ownsRow B 30 5 v n xs) (hk : Lib.OthersKept 5 (some b) w w') (hB : Lib.IsBuilder 74 5 B2 b bs w) : w'.ownsRow B 30 5 v n xs := by
  obtain ⟨cs, hb⟩ : ∃ cs, w.heap[b]? = some (.cells cs 74 (0, 0)) := by
    rcases hB with ⟨_, v, hb, _⟩ | ⟨_, v, hb, _⟩
    · exact ⟨_, hb⟩
    · exact ⟨_, hb⟩
  refine ownsRow_keep ho (fun g hg => ?_)
  obtain ⟨cs', hc⟩ := row_block ho hg
  rw [hc]
  refine hk g _ hc (fun e => ?_) (fun c fz e => ?_)
  · injection e with e
    subst e
    rw [hb] at hc
    injection hc with hc
    injection hc with _ hc
    exact absurd hc (by decide)
  · injection e with _ e
    exact absurd e (by decide)
/-- What concat gives. -/
def conK (S : List UInt8) : Int := if S.length ≤ 4096 then 1 else 2
def conA (S : List UInt8) : List V := if S.length ≤ 4096 then [strV ⟨S.toArray⟩] else [strV tooLong]
def conL (S : List UInt8) : Int := if S.length ≤ 4096 then 0 else 1
/-- Where concat's loop is. -/
def ConR (w : World) (c h : Nat) (nm : ByteArray) (av : Value) (ti b3 b9 : Nat) (P : List UInt8) (wr : World) : Prop :=
  wr.heap[w.heap.size]? = some oAc ∧ wr.heap[b3]? = some (oV 4 0 0 ⟨#[]⟩ ((ti : Int) + 1)) ∧ Lib.IsBuilder 74 5 b9 b9 (Lib.byteCells P) wr ∧ b9 ≤ wr.heap.size ∧
  ((Below w.heap.size w wr ∧ P.length ≤ 4096) ∨ (∃ so cap, wr.heap[c]? = some (oCtB h nm av so cap) ∧ wr.ownsRow (w.heap.size + 1) 30 5 (.slice so 1 cap) 1 (rowV [strV tooLong]) ∧ Mods (fun k => k = c) w wr ∧ 4096 < P.length))
theorem qs_mods {base : Nat} {O O' : Nat → Prop} {a w w' : World} (h : QS base O a O' w) {b : Nat} (hb : a.heap.size ≤ b) (hm : Mods (fun k => k = b) w w') : QS base O a O' w' :=
  ⟨⟨hm.os.trans h.1.os, hm.tape.trans h.1.tape, hm.output.trans h.1.output, Nat.le_trans h.1.size hm.size, fun i hi hF => (hm.block i (Nat.lt_of_lt_of_le hi h.1.size) (fun e => by omega)).trans (h.1.block i hi hF)⟩, h.2⟩
/-- Where list's loop is. -/
def LstR (base n : Nat) (h : Nat) (M : LH) (AA : List (List V)) (A : List V) (O : Nat → Prop) (w : World) (g b6 : Nat) (cs : Array Value) (i : Nat) (wr : World) : Prop :=
  ∃ O', PHp base (n + i) wr h (M ++ [⟨4, V.nil, []⟩]) (AA ++ [A.take i]) O' ∧ QS base O w O' wr ∧ Held wr O' w.heap.size (oV 0 0 0 ⟨#[]⟩ 0) ∧ Held wr O' b6 (oV 4 0 0 ⟨#[]⟩ ((M.length : Int) + 1)) ∧ (A = [] ∨ Held wr O' g (.cells cs 30))
/-- Where the law's fields are gathered. -/
def FldR (w : World) (ti : Nat) (b1 : Nat) (A : List V) (i : Nat) (sv : Value) (wr : World) : Prop :=
  wr.ownsRow (w.heap.size + 1) 30 5 sv i (rowV (A.take i)) ∧ Below w.heap.size w wr ∧ wr.heap[b1]? = some (oV 4 0 0 ⟨#[]⟩ ((ti : Int) + 1))
theorem prjF5 {c0 c1 c2 c3 c4 p : Prop} (h : c0 ∧ c1 ∧ c2 ∧ c3 ∧ c4 ∧ Hid p) : p := (h.2.2.2.2.2).out
def NdB (w : World) (base : Nat) (n : Nd) (e : Ending) (w' : World) : Prop := ∃ av, e = .returned (ndV n av) ∧ ArgsAt w' base av n.args ∧ Below w.heap.size w w'
theorem args_nil {w : World} {base : Nat} {av : Value} (h : ArgsAt w base av []) (W : World) (base' : Nat) : ArgsAt W base' av [] := by
  rcases h with h | ⟨g, a, b, h, _⟩
  · exact .inl h
  · cases h
theorem ndb_nil {w w2 W : World} {n : Nd} {av : Value} {b base r : Nat} (hn : n.args = []) (hb : Below w.heap.size w w2) (hA : ArgsAt w2 b av n.args) (h2 : w.heap.size ≤ r) (hW : Mods (· = r) w2 W) : NdB w base n (.returned (ndV n av)) W := by
  rw [hn] at hA
  exact ⟨av, rfl, hn ▸ args_nil hA W base, ⟨hW.os.trans hb.os, hW.tape.trans hb.tape, hW.output.trans hb.output, Nat.le_trans hb.size hW.size, fun k hk => (hW.block k (Nat.lt_of_lt_of_le hk hb.size) (by omega)).trans (hb.block k hk)⟩⟩
abbrev oSo (c ti : Nat) (f : V) (n w lo i j : Int) : Obj := .cells #[.pointer (some ⟨c, 0, none⟩), .int .i64 4, .int .i64 0, .int .i64 0, .string ⟨#[]⟩, .int .i64 ((ti : Int) + 1), .int .i64 f.k, .int .i64 f.p, .int .i64 f.q, .string f.s, .int .i64 f.r, .int .i64 n, .int .i64 w, .int .i64 lo, .int .i64 i, .int .i64 j] 116
theorem cmp_int (a b : Int) (ha : -2147483647 ≤ a ∧ a ≤ 2147483647) (hb : -2147483647 ≤ b ∧ b ≤ 2147483647) : compareV 16 ⟨2, a, 1, ⟨#[]⟩, 0⟩ ⟨2, b, 1, ⟨#[]⟩, 0⟩ = .ok (boolV (decide (a < b))) := by
  have h1 : validN (a, 1) = true := validN_int ha.1 ha.2
  have h2 : validN (b, 1) = true := validN_int hb.1 hb.2
  unfold compareV lessOf V.num
  simp only [h1, h2]
  unfold cmpFin cmpN
  by_cases h : a < b
  · simp [h, h1, h2, orderN]
  · simp only [h1, h2, orderN, h]
    by_cases h3 : a = b
    · simp [h3]
    · have h4 : b < a := by omega
      simp [h3, h, h4]
theorem mods_drew {F : Nat → Prop} {a w : World} (h : Mods F a w) : Mods F a w.drew := ⟨h.os, h.tape, h.output, h.size, h.block⟩
abbrev nI (x : Int) : V := ⟨2, x, 1, ⟨#[]⟩, 0⟩
theorem cell_ints {W : World} {m : Nat} {KI : List Int} {t : TypeId} {fz : Nat × Nat} (h : W.heap[m]? = some (.cells (KI.map fun x => Value.int .i64 x).toArray t fz)) {k : Nat} (hk : k < KI.length) : W.cell? ⟨m, k, none⟩ = some (.int .i64 (gI KI k)) := by
  rw [cell_of_heap h, ← Array.getElem?_toList]
  show (KI.map fun x => Value.int .i64 x)[k]? = _
  rw [List.getElem?_map, gI_some hk]
  rfl
def keepL (ti : Nat) (f : V) (KI : List Int) : List V := [⟨4, 0, 0, ⟨#[]⟩, (ti : Int) + 1⟩, f] ++ KI.map nI
theorem keepL_snoc {ti : Nat} {f : V} {KI : List Int} {k : Nat} (hk : k < KI.length) : (keepL ti f KI).take (2 + (k + 1)) = (keepL ti f KI).take (2 + k) ++ [nI (gI KI k)] := by
  rw [show 2 + (k + 1) = (2 + k) + 1 by omega, List.take_add_one]
  congr 1
  unfold keepL
  rw [List.getElem?_append_right (by simp), List.getElem?_map]
  show (Option.map nI KI[2 + k - 2]?).toList = _
  rw [Nat.add_sub_cancel_left, gI_some hk]
  rfl
theorem only_fourteen {W : World} {n : Nat} {x0 x1 x2 x3 x4 x5 x6 x7 x8 x9 x10 x11 x12 x13 : Value} {t : TypeId} {fz : Nat × Nat} (h : W.heap[n]? = some (.cells #[x0, x1, x2, x3, x4, x5, x6, x7, x8, x9, x10, x11, x12, x13] t fz)) (c0 c1 c2 c3 c4 c5 c6 c7 c8 c9 c10 c11 c12 c13 : Value) :
    Only n W ((((((((((((((W.setCell ⟨n, 0, none⟩ c0).setCell ⟨n, 1, none⟩ c1).setCell ⟨n, 2, none⟩ c2).setCell ⟨n, 3, none⟩ c3).setCell ⟨n, 4, none⟩ c4).setCell ⟨n, 5, none⟩ c5).setCell ⟨n, 6, none⟩ c6).setCell ⟨n, 7, none⟩ c7).setCell ⟨n, 8, none⟩ c8).setCell ⟨n, 9, none⟩ c9).setCell ⟨n, 10, none⟩ c10).setCell ⟨n, 11, none⟩ c11).setCell ⟨n, 12, none⟩ c12).setCell ⟨n, 13, none⟩ c13) ∧ ((((((((((((((W.setCell ⟨n, 0, none⟩ c0).setCell ⟨n, 1, none⟩ c1).setCell ⟨n, 2, none⟩ c2).setCell ⟨n, 3, none⟩ c3).setCell ⟨n, 4, none⟩ c4).setCell ⟨n, 5, none⟩ c5).setCell ⟨n, 6, none⟩ c6).setCell ⟨n, 7, none⟩ c7).setCell ⟨n, 8, none⟩ c8).setCell ⟨n, 9, none⟩ c9).setCell ⟨n, 10, none⟩ c10).setCell ⟨n, 11, none⟩ c11).setCell ⟨n, 12, none⟩ c12).setCell ⟨n, 13, none⟩ c13).heap[n]? = some (.cells #[c0, c1, c2, c3, c4, c5, c6, c7, c8, c9, c10, c11, c12, c13] t fz) := by
  refine ⟨Only.of_mods (mods_fourteen (F := fun k => k = n) (Mods.refl _ _) (.inl rfl) _ _ _ _ _ _ _ _ _ _ _ _ _ _), ?_⟩
  replace h := heap_setCell_same h 0 c0
  change _ = some (Obj.cells #[c0, x1, x2, x3, x4, x5, x6, x7, x8, x9, x10, x11, x12, x13] t fz) at h
  replace h := heap_setCell_same h 1 c1
  change _ = some (Obj.cells #[c0, c1, x2, x3, x4, x5, x6, x7, x8, x9, x10, x11, x12, x13] t fz) at h
  replace h := heap_setCell_same h 2 c2
  change _ = some (Obj.cells #[c0, c1, c2, x3, x4, x5, x6, x7, x8, x9, x10, x11, x12, x13] t fz) at h
  replace h := heap_setCell_same h 3 c3
  change _ = some (Obj.cells #[c0, c1, c2, c3, x4, x5, x6, x7, x8, x9, x10, x11, x12, x13] t fz) at h
  replace h := heap_setCell_same h 4 c4
  change _ = some (Obj.cells #[c0, c1, c2, c3, c4, x5, x6, x7, x8, x9, x10, x11, x12, x13] t fz) at h
  replace h := heap_setCell_same h 5 c5
  change _ = some (Obj.cells #[c0, c1, c2, c3, c4, c5, x6, x7, x8, x9, x10, x11, x12, x13] t fz) at h
  replace h := heap_setCell_same h 6 c6
  change _ = some (Obj.cells #[c0, c1, c2, c3, c4, c5, c6, x7, x8, x9, x10, x11, x12, x13] t fz) at h
  replace h := heap_setCell_same h 7 c7
  change _ = some (Obj.cells #[c0, c1, c2, c3, c4, c5, c6, c7, x8, x9, x10, x11, x12, x13] t fz) at h
  replace h := heap_setCell_same h 8 c8
  change _ = some (Obj.cells #[c0, c1, c2, c3, c4, c5, c6, c7, c8, x9, x10, x11, x12, x13] t fz) at h
  replace h := heap_setCell_same h 9 c9
  change _ = some (Obj.cells #[c0, c1, c2, c3, c4, c5, c6, c7, c8, c9, x10, x11, x12, x13] t fz) at h
  replace h := heap_setCell_same h 10 c10
  change _ = some (Obj.cells #[c0, c1, c2, c3, c4, c5, c6, c7, c8, c9, c10, x11, x12, x13] t fz) at h
  replace h := heap_setCell_same h 11 c11
  change _ = some (Obj.cells #[c0, c1, c2, c3, c4, c5, c6, c7, c8, c9, c10, c11, x12, x13] t fz) at h
  replace h := heap_setCell_same h 12 c12
  change _ = some (Obj.cells #[c0, c1, c2, c3, c4, c5, c6, c7, c8, c9, c10, c11, c12, x13] t fz) at h
  replace h := heap_setCell_same h 13 c13
  change _ = some (Obj.cells #[c0, c1, c2, c3, c4, c5, c6, c7, c8, c9, c10, c11, c12, c13] t fz) at h
  exact h
/-- A row that lies whole in its block. -/
theorem row_whole {w : World} {g base k : Nat} {A : List V} (hg : w.heap[g]? = some (.cells (rowV A).toArray 30)) (hb : base ≤ g) (hk : A.length = k) (hl : k ≤ 1000) : w.ownsRow base 30 5 (.slice (some ⟨g, 0, none⟩) k k) k (rowV A) := by
  subst hk
  refine ⟨by rw [rowV_len], .inr ⟨g, A.length, (rowV A).toArray, rfl, hb, hg, Nat.le_refl _, by unfold maxLen; omega, by simp [rowV_len], ?_⟩⟩
  rw [← rowV_len, List.toList_toArray, List.take_length]
def AskR2 (W : World) (ti : Nat) (f : V) (KI : List Int) (i : Nat) (sv : Value) (wr : World) : Prop :=
  wr.ownsRow W.heap.size 30 5 sv (2 + i) (rowV ((keepL ti f KI).take (2 + i))) ∧ Below W.heap.size W wr ∧ wr.heap[W.heap.size + 1]? = some (.cells (KI.map fun x => Value.int .i64 x).toArray 3)
theorem true_ite (c : Prop) [Decidable c] : trueV ⟨1, 0, 0, ⟨#[]⟩, if c then 1 else 0⟩ = decide c := by
  unfold trueV
  by_cases h : c <;> simp [h]
theorem PHp.modsS {base n : Nat} {w w' : World} {h : Nat} {M : LH} {AA : List (List V)} {O : Nat → Prop} (hP : PHp base n w h M AA O) {b : Nat} {c : Obj} (hb : w.heap[b]? = some c) (hS : ¬ PB c) (hO : ¬ O b) (hm : Mods (fun k => k = b) w w') : PHp base n w' h M AA O := by
  obtain ⟨⟨bo, bt, H, h1, h2, h2a, h3, h4, h5⟩, h6⟩ := hP
  refine ⟨⟨bo, bt, H, h1.keepF (fun k hk => hm.block k (hp_lt h1 hk) (fun e => ?_)), h2, h2a, h3, h4, h5⟩, fun k hk => Nat.lt_of_lt_of_le (h6 k hk) hm.size⟩
  subst e
  rcases hp_pb h1 hk with ⟨o, h7, h8⟩ | ⟨y, hy, hy4, h7, _⟩
  · rw [hb] at h7
    injection h7 with h7
    subst h7
    exact hS h8
  · exact hO (h5 y hy hy4 k h7)
theorem QS.only {base : Nat} {O O' : Nat → Prop} {a W W' : World} {n : Nat} (h : QS base O a O' W) (hn : a.heap.size ≤ n) (ho : Only n W W') : QS base O a O' W' :=
  ⟨⟨ho.os.trans h.1.os, ho.tape.trans h.1.tape, ho.output.trans h.1.output, Nat.le_trans h.1.size ho.size, fun i hi hF => (ho.block i (by omega) (Nat.lt_of_lt_of_le hi h.1.size)).trans (h.1.block i hi hF)⟩, h.2⟩
/-- The world in a region with one call that changes the heap: before it, behind it. -/
def IHp {X : Type} (base n : Nat) (O : Nat → Prop) (w : World) (hh : Nat) (M : LH) (AA : List (List V)) (Ex : X → World → Prop) : Option ((Nat → Prop) × X) → World → Prop
  | none, W => Below w.heap.size w W
  | some e, W => PHp base n W hh M AA e.1 ∧ QS base O w e.1 W ∧ Ex e.2 W
theorem ihp_none {X : Type} {base n : Nat} {O : Nat → Prop} {w : World} {hh : Nat} {M : LH} {AA : List (List V)} {Ex : X → World → Prop} {W : World} (h : IHp base n O w hh M AA Ex none W) : Below w.heap.size w W := h
def FHp {X : Type} (w : World) (Bl : X → Nat → Prop) : Option ((Nat → Prop) × X) → Nat → Prop
  | none, n => w.heap.size ≤ n
  | some e, n => w.heap.size ≤ n ∧ ¬ e.1 n ∧ ¬ Bl e.2 n
theorem hev_done {X : Type} {base n : Nat} {O : Nat → Prop} {w W w1 : World} {hh : Nat} {M : LH} {AA : List (List V)} {Ex : X → World → Prop} {Bl : X → Nat → Prop} {O3 : Nat → Prop} (hI : Below w.heap.size w W) (hO : ∀ b, O b → b < w.heap.size) (hP : PHp base n w1 hh M AA O3) (hq : QS base O W O3 w1) (x : X) (hx : Ex x w1) (hbl : ∀ n, Bl x n → W.heap.size ≤ n) :
    IHp base n O w hh M AA Ex (some (O3, x)) w1 ∧ W.heap.size ≤ w1.heap.size ∧ ∀ n ob, w.heap.size ≤ n → W.heap[n]? = some ob → ¬ PB ob → FHp w Bl none n → w1.heap[n]? = some ob ∧ FHp w Bl (some (O3, x)) n := by
  refine ⟨⟨hP, (QS.of_below hI).trans hq, hx⟩, hq.size, fun n ob hn ho hs _ => ?_⟩
  obtain ⟨h1, h2⟩ := hq.keep ho hs (fun e => by have := hO n e; omega)
  have hl := (Array.getElem?_eq_some_iff.1 ho).1
  exact ⟨h1, hn, h2, fun e => by have := hbl n e; omega⟩
theorem wp_region_heap {P : Program} {Q : Exit → Act → World → Prop} {id : Nat} {l : List Oper} {a0 : Act} {w : World} {X : Type} {base n : Nat} {O : Nat → Prop} {hh : Nat} {M : LH} {AA : List (List V)} (Ex : X → World → Prop) (Bl : X → Nat → Prop) (h : Nat) (x0 : X) {ks : List (Kd ((Nat → Prop) × X))}
    (hm : P.follows .mixedOrders = true) (hB : freeCheck l.toArray (Region.before l.toArray) a0.tmps.size = true) (hh2 : decide (h < l.length) = true)
    (x1 : ∀ x W W', Ex x W → Below W.heap.size W W' → Ex x W') (x2 : ∀ x W W' n, Ex x W → ¬ Bl x n → Only n W W' → Ex x W') (x3 : ∀ x W n, Ex x W → Bl x n → n < W.heap.size)
    (hw : WalkG P l.toArray (IHp base n O w hh M AA Ex) (FHp w Bl) (fun o => ¬ PB o) w.heap.size (Region.before l.toArray) h some Q l [] (fun _ _ => a0) ks)
    (hK : kindsCheck ks (Region.before l.toArray) h l.length = true) : (Code.region id l.toArray true).wp P Q a0 w := by
  refine wp_region_free (E := (Nat → Prop) × X) (IHp base n O w hh M AA Ex) (FHp w Bl) (fun o => ¬ PB o) w.heap.size h some (fun _ => 0) ((fun _ => False), x0) hm hB (Below.refl _ _).drew (fun _ => by rw [if_pos (of_decide_eq_true hh2)]) ?_ ?_ ?_ ?_ hw hK (by rw [hh2]; rfl)
  · intro oo W W' hI hb
    cases oo with
    | none => exact below_next hI hb
    | some e => exact ⟨hI.1.below hb, hI.2.1.trans (QS.of_below hb), x1 _ _ _ hI.2.2 hb⟩
  · intro oo W W' n hI hn hF hc _ ho
    obtain ⟨c, hc, hs⟩ := hc
    cases oo with
    | none => exact Below.trans hI (Only.below ho hn hI.size)
    | some e => exact ⟨hI.1.modsS hc hs hF.2.1 (Only.mods ho), hI.2.1.only hn ho, x2 _ _ _ _ hI.2.2 hF.2.2 ho⟩
  · intro oo W n hI hn
    cases oo with
    | none => exact Nat.le_trans (Below.size hI) hn
    | some e => exact ⟨Nat.le_trans hI.2.1.size hn, fun he => by have := hI.1.lt n he; omega, fun hb => by have := x3 _ _ _ hI.2.2 hb; omega⟩
  · intro oo W hI
    cases oo with
    | none => exact Below.size hI
    | some e => exact hI.2.1.size
end Go.Proofs.YtpbcmlnjiocmoaaGreatDoorR
