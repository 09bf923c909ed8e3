import Derived.Test.YtpbcmlnjiocmoaaGreatDoorRHpW
import Derived.Test.YtpbcmlnjiocmoaaGreatDoorRRgfv2
import Derived.Laws.CopyRow
import Derived.Laws.IdiomCopy
set_option linter.unusedVariables false
set_option linter.unusedSimpArgs false
set_option maxRecDepth 100000
set_option maxHeartbeats 8000000
namespace Go.Proofs.YtpbcmlnjiocmoaaGreatDoorR
open Go.RowKit Go.Proofs.Lexi
/-- A block that the heap's calls leave. -/
def Held (w : World) (O : Nat → Prop) (b : Nat) (o : Obj) : Prop := w.heap[b]? = some o ∧ ¬ O b
theorem Held.qs {base : Nat} {O O' : Nat → Prop} {w w' : World} {b : Nat} {o : Obj} (h : Held w O b o) (q : QS base O w O' w') (hS : ¬ PB o) : Held w' O' b o := q.keep h.1 hS h.2
theorem npb {cs : Array Value} {t : TypeId} {fz : Nat × Nat} (h : t ≠ 144 ∧ t ≠ 146 ∧ t ≠ 126 ∧ t ≠ 94 ∧ t ≠ 63) : ¬ PB (.cells cs t fz) := fun e => by
  obtain ⟨h1, h2, h3, h4, h5⟩ := h
  rcases e with e | e | e | e | e
  · exact h1 e
  · exact h2 e
  · exact h3 e
  · exact h4 e
  · exact h5 e
theorem Held.below {O : Nat → Prop} {w w' : World} {b : Nat} {o : Obj} (h : Held w O b o) (hb : Below w.heap.size w w') : Held w' O b o := ⟨hkeep hb h.1, h.2⟩
/-- An action, and the heap after it. -/
def PrP (base n : Nat) (O : Nat → Prop) (h : Nat) (M : LH) (AA : List (List V)) (kind : Int) (f : V) (A : List V) (s : ByteArray) (level next : Int) (K : List V) (w : World) (e : Ending) (w' : World) : Prop :=
  ∃ so cap sk ck O', e = .returned (acV kind 0 f (.slice so A.length cap) s level next (.slice sk K.length ck)) ∧ w'.ownsRow w.heap.size 30 5 (.slice so A.length cap) A.length (rowV A) ∧ w'.ownsRow w.heap.size 30 5 (.slice sk K.length ck) K.length (rowV K) ∧ PHp base n w' h M AA O' ∧ QS base O w O' w' ∧ ∀ b, (Value.slice sk K.length ck).ownBlock = some b → ¬ O' b
theorem qs_twelve {base : Nat} {O O' : Nat → Prop} {a w : World} (h : QS base O a O' w) {b : Nat} (hb : a.heap.size ≤ b) (c0 c1 c2 c3 c4 c5 c6 c7 c8 c9 c10 c11 : Value) :
    QS base O a O' ((((((((((((w.setCell ⟨b, 0, none⟩ c0).setCell ⟨b, 1, none⟩ c1).setCell ⟨b, 2, none⟩ c2).setCell ⟨b, 3, none⟩ c3).setCell ⟨b, 4, none⟩ c4).setCell ⟨b, 5, none⟩ c5).setCell ⟨b, 6, none⟩ c6).setCell ⟨b, 7, none⟩ c7).setCell ⟨b, 8, none⟩ c8).setCell ⟨b, 9, none⟩ c9).setCell ⟨b, 10, none⟩ c10).setCell ⟨b, 11, none⟩ c11) :=
  ⟨mods_twelve h.1 (.inr hb) 0 1 2 3 4 5 6 7 8 9 10 11 c0 c1 c2 c3 c4 c5 c6 c7 c8 c9 c10 c11, h.2⟩
theorem PHp.mods {base n : Nat} {w w' : World} {h : Nat} {M : LH} {AA : List (List V)} {O : Nat → Prop} (hP : PHp base n w h M AA O) {b : Nat} {cs : Array Value} (hb : w.heap[b]? = some (.cells cs 35)) (hm : Mods (fun k => k = b) w w') : PHp base n w' h M AA O := by
  obtain ⟨⟨bo, bt, H, h1, h2, h2a, h3, h4, h5⟩, h6⟩ := hP
  refine ⟨⟨bo, bt, H, h1.keepF (fun k hk => hm.block k (hp_lt h1 hk) (fun e => ?_)), h2, h2a, h3, h4, h5⟩, fun k hk => Nat.lt_of_lt_of_le (h6 k hk) hm.size⟩
  subst e
  rcases hp_pb h1 hk with ⟨o, h7, h8⟩ | ⟨_, _, _, _, cur, h7⟩
  · rw [hb] at h7
    injection h7 with h7
    subst h7
    rcases h8 with h8 | h8 | h8 | h8 | h8 <;> exact absurd h8 (by decide)
  · rw [hb] at h7
    injection h7 with h7
    injection h7 with _ h7
    exact absurd h7 (by decide)
/-- The end of a function that hands an action on. -/
theorem prP_end {base n : Nat} {O O' : Nat → Prop} {h : Nat} {M : LH} {AA : List (List V)} {kind : Int} {f : V} {A : List V} {s : ByteArray} {level next : Int} {K : List V} {w W : World} {so sk : Option Addr} {cap ck B b : Nat}
    (ho : W.ownsRow B 30 5 (.slice so A.length cap) A.length (rowV A)) (hk : W.ownsRow B 30 5 (.slice sk K.length ck) K.length (rowV K)) (hP : PHp base n W h M AA O') (hq : QS base O w O' W) {cs : Array Value} (hbx : W.heap[b]? = some (.cells cs 35)) (hw : w.heap.size ≤ b) (hb : b < B) (hwB : w.heap.size ≤ B) (hno : ∀ b, (Value.slice sk K.length ck).ownBlock = some b → ¬ O' b) (c0 c1 c2 c3 c4 c5 c6 c7 c8 c9 c10 c11 : Value) :
    PrP base n O h M AA kind f A s level next K w (.returned (acV kind 0 f (.slice so A.length cap) s level next (.slice sk K.length ck))) ((((((((((((W.setCell ⟨b, 0, none⟩ c0).setCell ⟨b, 1, none⟩ c1).setCell ⟨b, 2, none⟩ c2).setCell ⟨b, 3, none⟩ c3).setCell ⟨b, 4, none⟩ c4).setCell ⟨b, 5, none⟩ c5).setCell ⟨b, 6, none⟩ c6).setCell ⟨b, 7, none⟩ c7).setCell ⟨b, 8, none⟩ c8).setCell ⟨b, 9, none⟩ c9).setCell ⟨b, 10, none⟩ c10).setCell ⟨b, 11, none⟩ c11) :=
  ⟨so, cap, sk, ck, O', rfl, ownsRow_base (row_twelve ho (row_away ho hb) _ _ _ _ _ _ _ _ _ _ _ _) hwB, ownsRow_base (row_twelve hk (row_away hk hb) _ _ _ _ _ _ _ _ _ _ _ _) hwB, hP.mods hbx (mods_twelve (F := fun k => k = b) (Mods.refl _ _) (.inl rfl) 0 1 2 3 4 5 6 7 8 9 10 11 _ _ _ _ _ _ _ _ _ _ _ _), qs_twelve hq hw _ _ _ _ _ _ _ _ _ _ _ _, hno⟩
theorem vals_block {w : World} {b : Nat} {A : List V} {fz : Nat × Nat} (h : w.heap[b]? = some (.cells (rowV A).toArray 30 fz)) : Vals w (.slice (some ⟨b, 0, none⟩) A.length A.length) A :=
  ⟨_, _, rfl, Nat.le_refl _, (fun h => by cases h), .inr ⟨b, 0, rfl, (Array.getElem?_eq_some_iff.1 h).1, fun j u hj => by
    rw [cell_of_heap h, Nat.zero_add, List.getElem?_toArray]
    exact hj⟩⟩
theorem vals_held {w w' : World} {g o n cap : Nat} {A : List V} (h : Vals w (.slice (some ⟨g, o, none⟩) n cap) A) (hg : w'.heap[g]? = w.heap[g]?) (hl : g < w'.heap.size) : Vals w' (.slice (some ⟨g, o, none⟩) n cap) A := by
  obtain ⟨so, c, h1, h2, hn, h3⟩ := h
  refine ⟨so, c, h1, h2, hn, ?_⟩
  rcases h3 with h3 | ⟨g2, o2, h4, h5, h6⟩
  · exact .inl h3
  · injection h1 with h1 _ _
    rw [h4] at h1
    injection h1 with h1
    injection h1 with h1 h7
    subst h1 h7
    exact .inr ⟨g, o, h4, hl, fun j u hj => by rw [← h6 j u hj]; unfold World.cell?; rw [hg]⟩
theorem set_last {α : Type} {l : List α} {n : Nat} (h : l.length = n) (x y : α) : (l ++ [x]).set n y = l ++ [y] := by
  subst h
  simp
/-- Strings, booleans that are handed in. -/
def Strs (w : World) (so : Option Addr) (l : List ByteArray) : Prop := l = [] ∨ ∃ g o, so = some ⟨g, o, none⟩ ∧ ∀ (i : Nat) s, l[i]? = some s → w.cell? ⟨g, o + i, none⟩ = some (.string s)
def Bools (w : World) (so : Option Addr) (l : List Bool) : Prop := l = [] ∨ ∃ g o, so = some ⟨g, o, none⟩ ∧ ∀ (i : Nat) b, l[i]? = some b → w.cell? ⟨g, o + i, none⟩ = some (.bool b)
theorem Strs.below {w w' : World} {so : Option Addr} {l : List ByteArray} (h : Strs w so l) (hb : Below w.heap.size w w') : Strs w' so l := by
  rcases h with h | ⟨g, o, h1, h2⟩
  · exact .inl h
  · exact .inr ⟨g, o, h1, fun i s hs => keepCell hb (h2 i s hs)⟩
theorem Bools.below {w w' : World} {so : Option Addr} {l : List Bool} (h : Bools w so l) (hb : Below w.heap.size w w') : Bools w' so l := by
  rcases h with h | ⟨g, o, h1, h2⟩
  · exact .inl h
  · exact .inr ⟨g, o, h1, fun i s hs => keepCell hb (h2 i s hs)⟩
/-- A row of values that the heap's calls leave. -/
def HeldRow (w : World) (O : Nat → Prop) (base : Nat) (sv : Value) (A : List V) : Prop := w.ownsRow base 30 5 sv A.length (rowV A) ∧ ∀ b, sv.ownBlock = some b → ¬ O b
theorem HeldRow.below {w w' : World} {O : Nat → Prop} {base : Nat} {sv : Value} {A : List V} (h : HeldRow w O base sv A) (hb : Below w.heap.size w w') : HeldRow w' O base sv A := ⟨ownsRow_ext (below_ext hb (Nat.le_refl _)) h.1, h.2⟩
theorem HeldRow.qs {bs base : Nat} {O O' : Nat → Prop} {w w' : World} {sv : Value} {A : List V} (h : HeldRow w O base sv A) (q : QS bs O w O' w') : HeldRow w' O' base sv A := by
  have hk : ∀ b, sv.ownBlock = some b → w'.heap[b]? = w.heap[b]? ∧ ¬ O' b := fun b hb => by
    obtain ⟨cs, hc⟩ := row_block h.1 hb
    have := q.keep hc (npb (by decide)) (h.2 b hb)
    exact ⟨this.1.trans hc.symm, this.2⟩
  exact ⟨ownsRow_keep h.1 (fun b hb => (hk b hb).1), fun b hb => (hk b hb).2⟩
theorem PHp.modsV {base n : Nat} {w w' : World} {h : Nat} {M : LH} {AA : List (List V)} {O : Nat → Prop} (hP : PHp base n w h M AA O) {b : Nat} {cs : Array Value} (hb : w.heap[b]? = some (.cells cs 30)) (hO : ¬ O b) (hm : Mods (fun k => k = b) w w') : PHp base n w' h M AA O := by
  obtain ⟨⟨bo, bt, H, h1, h2, h2a, h3, h4, h5⟩, h6⟩ := hP
  refine ⟨⟨bo, bt, H, h1.keepF (fun k hk => hm.block k (hp_lt h1 hk) (fun e => ?_)), h2, h2a, h3, h4, h5⟩, fun k hk => Nat.lt_of_lt_of_le (h6 k hk) hm.size⟩
  subst e
  rcases hp_pb h1 hk with ⟨o, h7, h8⟩ | ⟨y, hy, hy4, h7, _⟩
  · rw [hb] at h7
    injection h7 with h7
    subst h7
    exact npb (by decide) h8
  · exact hO (h5 y hy hy4 k h7)
theorem heap12_at {w : World} {b : Nat} {x0 x1 x2 x3 x4 x5 x6 x7 x8 x9 x10 x11 : Value} {t : TypeId} {fz : Nat × Nat} (h : w.heap[b]? = some (.cells #[x0, x1, x2, x3, x4, x5, x6, x7, x8, x9, x10, x11] t fz)) (c0 c1 c2 c3 c4 c5 c6 c7 c8 c9 c10 c11 : Value) :
    ((((((((((((w.setCell ⟨b, 0, none⟩ c0).setCell ⟨b, 1, none⟩ c1).setCell ⟨b, 2, none⟩ c2).setCell ⟨b, 3, none⟩ c3).setCell ⟨b, 4, none⟩ c4).setCell ⟨b, 5, none⟩ c5).setCell ⟨b, 6, none⟩ c6).setCell ⟨b, 7, none⟩ c7).setCell ⟨b, 8, none⟩ c8).setCell ⟨b, 9, none⟩ c9).setCell ⟨b, 10, none⟩ c10).setCell ⟨b, 11, none⟩ c11).heap[b]? = some (.cells #[c0, c1, c2, c3, c4, c5, c6, c7, c8, c9, c10, c11] t fz) := by
  have h0 := h
  have h1 : (w.setCell ⟨b, 0, none⟩ c0).heap[b]? = some (.cells #[c0, x1, x2, x3, x4, x5, x6, x7, x8, x9, x10, x11] t fz) := heap_setCell_same h0 0 c0
  have h2 : ((w.setCell ⟨b, 0, none⟩ c0).setCell ⟨b, 1, none⟩ c1).heap[b]? = some (.cells #[c0, c1, x2, x3, x4, x5, x6, x7, x8, x9, x10, x11] t fz) := heap_setCell_same h1 1 c1
  have h3 : (((w.setCell ⟨b, 0, none⟩ c0).setCell ⟨b, 1, none⟩ c1).setCell ⟨b, 2, none⟩ c2).heap[b]? = some (.cells #[c0, c1, c2, x3, x4, x5, x6, x7, x8, x9, x10, x11] t fz) := heap_setCell_same h2 2 c2
  have h4 : ((((w.setCell ⟨b, 0, none⟩ c0).setCell ⟨b, 1, none⟩ c1).setCell ⟨b, 2, none⟩ c2).setCell ⟨b, 3, none⟩ c3).heap[b]? = some (.cells #[c0, c1, c2, c3, x4, x5, x6, x7, x8, x9, x10, x11] t fz) := heap_setCell_same h3 3 c3
  have h5 : (((((w.setCell ⟨b, 0, none⟩ c0).setCell ⟨b, 1, none⟩ c1).setCell ⟨b, 2, none⟩ c2).setCell ⟨b, 3, none⟩ c3).setCell ⟨b, 4, none⟩ c4).heap[b]? = some (.cells #[c0, c1, c2, c3, c4, x5, x6, x7, x8, x9, x10, x11] t fz) := heap_setCell_same h4 4 c4
  have h6 : ((((((w.setCell ⟨b, 0, none⟩ c0).setCell ⟨b, 1, none⟩ c1).setCell ⟨b, 2, none⟩ c2).setCell ⟨b, 3, none⟩ c3).setCell ⟨b, 4, none⟩ c4).setCell ⟨b, 5, none⟩ c5).heap[b]? = some (.cells #[c0, c1, c2, c3, c4, c5, x6, x7, x8, x9, x10, x11] t fz) := heap_setCell_same h5 5 c5
  have h7 : (((((((w.setCell ⟨b, 0, none⟩ c0).setCell ⟨b, 1, none⟩ c1).setCell ⟨b, 2, none⟩ c2).setCell ⟨b, 3, none⟩ c3).setCell ⟨b, 4, none⟩ c4).setCell ⟨b, 5, none⟩ c5).setCell ⟨b, 6, none⟩ c6).heap[b]? = some (.cells #[c0, c1, c2, c3, c4, c5, c6, x7, x8, x9, x10, x11] t fz) := heap_setCell_same h6 6 c6
  have h8 : ((((((((w.setCell ⟨b, 0, none⟩ c0).setCell ⟨b, 1, none⟩ c1).setCell ⟨b, 2, none⟩ c2).setCell ⟨b, 3, none⟩ c3).setCell ⟨b, 4, none⟩ c4).setCell ⟨b, 5, none⟩ c5).setCell ⟨b, 6, none⟩ c6).setCell ⟨b, 7, none⟩ c7).heap[b]? = some (.cells #[c0, c1, c2, c3, c4, c5, c6, c7, x8, x9, x10, x11] t fz) := heap_setCell_same h7 7 c7
  have h9 : (((((((((w.setCell ⟨b, 0, none⟩ c0).setCell ⟨b, 1, none⟩ c1).setCell ⟨b, 2, none⟩ c2).setCell ⟨b, 3, none⟩ c3).setCell ⟨b, 4, none⟩ c4).setCell ⟨b, 5, none⟩ c5).setCell ⟨b, 6, none⟩ c6).setCell ⟨b, 7, none⟩ c7).setCell ⟨b, 8, none⟩ c8).heap[b]? = some (.cells #[c0, c1, c2, c3, c4, c5, c6, c7, c8, x9, x10, x11] t fz) := heap_setCell_same h8 8 c8
  have h10 : ((((((((((w.setCell ⟨b, 0, none⟩ c0).setCell ⟨b, 1, none⟩ c1).setCell ⟨b, 2, none⟩ c2).setCell ⟨b, 3, none⟩ c3).setCell ⟨b, 4, none⟩ c4).setCell ⟨b, 5, none⟩ c5).setCell ⟨b, 6, none⟩ c6).setCell ⟨b, 7, none⟩ c7).setCell ⟨b, 8, none⟩ c8).setCell ⟨b, 9, none⟩ c9).heap[b]? = some (.cells #[c0, c1, c2, c3, c4, c5, c6, c7, c8, c9, x10, x11] t fz) := heap_setCell_same h9 9 c9
  have h11 : (((((((((((w.setCell ⟨b, 0, none⟩ c0).setCell ⟨b, 1, none⟩ c1).setCell ⟨b, 2, none⟩ c2).setCell ⟨b, 3, none⟩ c3).setCell ⟨b, 4, none⟩ c4).setCell ⟨b, 5, none⟩ c5).setCell ⟨b, 6, none⟩ c6).setCell ⟨b, 7, none⟩ c7).setCell ⟨b, 8, none⟩ c8).setCell ⟨b, 9, none⟩ c9).setCell ⟨b, 10, none⟩ c10).heap[b]? = some (.cells #[c0, c1, c2, c3, c4, c5, c6, c7, c8, c9, c10, x11] t fz) := heap_setCell_same h10 10 c10
  have h12 : ((((((((((((w.setCell ⟨b, 0, none⟩ c0).setCell ⟨b, 1, none⟩ c1).setCell ⟨b, 2, none⟩ c2).setCell ⟨b, 3, none⟩ c3).setCell ⟨b, 4, none⟩ c4).setCell ⟨b, 5, none⟩ c5).setCell ⟨b, 6, none⟩ c6).setCell ⟨b, 7, none⟩ c7).setCell ⟨b, 8, none⟩ c8).setCell ⟨b, 9, none⟩ c9).setCell ⟨b, 10, none⟩ c10).setCell ⟨b, 11, none⟩ c11).heap[b]? = some (.cells #[c0, c1, c2, c3, c4, c5, c6, c7, c8, c9, c10, c11] t fz) := heap_setCell_same h11 11 c11
  exact h12
abbrev oCtB (h : Nat) (nm : ByteArray) (av : Value) (so1 : Option Addr) (cap1 : Nat) : Obj := .cells #[.pointer (some ⟨h, 0, none⟩), .string nm, av, .int .i64 2, .int .i64 0, .int .i64 0, .int .i64 0, .int .i64 0, .string ⟨#[]⟩, .int .i64 0, .slice so1 1 cap1, .string ⟨#[]⟩, .int .i64 1, .int .i64 0, .slice none 0 0, .bool true] 69
theorem heap16_bad {w : World} {b : Nat} {x0 x1 x2 x3 x4 x5 x6 x7 x8 x9 x10 x11 x12 x13 x14 x15 : Value} {t : TypeId} {fz : Nat × Nat} (h : w.heap[b]? = some (.cells #[x0, x1, x2, x3, x4, x5, x6, x7, x8, x9, x10, x11, x12, x13, x14, x15] t fz)) (c3 c4 c5 c6 c7 c8 c9 c10 c11 c12 c13 c14 c15 : Value) : (((((((((((((w.setCell ⟨b, 3, none⟩ c3).setCell ⟨b, 4, none⟩ c4).setCell ⟨b, 5, none⟩ c5).setCell ⟨b, 6, none⟩ c6).setCell ⟨b, 7, none⟩ c7).setCell ⟨b, 8, none⟩ c8).setCell ⟨b, 9, none⟩ c9).setCell ⟨b, 10, none⟩ c10).setCell ⟨b, 11, none⟩ c11).setCell ⟨b, 12, none⟩ c12).setCell ⟨b, 13, none⟩ c13).setCell ⟨b, 14, none⟩ c14).setCell ⟨b, 15, none⟩ c15).heap[b]? = some (.cells #[x0, x1, x2, c3, c4, c5, c6, c7, c8, c9, c10, c11, c12, c13, c14, c15] t fz) := by
  have h3 : (w.setCell ⟨b, 3, none⟩ c3).heap[b]? = some (.cells #[x0, x1, x2, c3, x4, x5, x6, x7, x8, x9, x10, x11, x12, x13, x14, x15] t fz) := heap_setCell_same h 3 c3
  have h4 : ((w.setCell ⟨b, 3, none⟩ c3).setCell ⟨b, 4, none⟩ c4).heap[b]? = some (.cells #[x0, x1, x2, c3, c4, x5, x6, x7, x8, x9, x10, x11, x12, x13, x14, x15] t fz) := heap_setCell_same h3 4 c4
  have h5 : (((w.setCell ⟨b, 3, none⟩ c3).setCell ⟨b, 4, none⟩ c4).setCell ⟨b, 5, none⟩ c5).heap[b]? = some (.cells #[x0, x1, x2, c3, c4, c5, x6, x7, x8, x9, x10, x11, x12, x13, x14, x15] t fz) := heap_setCell_same h4 5 c5
  have h6 : ((((w.setCell ⟨b, 3, none⟩ c3).setCell ⟨b, 4, none⟩ c4).setCell ⟨b, 5, none⟩ c5).setCell ⟨b, 6, none⟩ c6).heap[b]? = some (.cells #[x0, x1, x2, c3, c4, c5, c6, x7, x8, x9, x10, x11, x12, x13, x14, x15] t fz) := heap_setCell_same h5 6 c6
  have h7 : (((((w.setCell ⟨b, 3, none⟩ c3).setCell ⟨b, 4, none⟩ c4).setCell ⟨b, 5, none⟩ c5).setCell ⟨b, 6, none⟩ c6).setCell ⟨b, 7, none⟩ c7).heap[b]? = some (.cells #[x0, x1, x2, c3, c4, c5, c6, c7, x8, x9, x10, x11, x12, x13, x14, x15] t fz) := heap_setCell_same h6 7 c7
  have h8 : ((((((w.setCell ⟨b, 3, none⟩ c3).setCell ⟨b, 4, none⟩ c4).setCell ⟨b, 5, none⟩ c5).setCell ⟨b, 6, none⟩ c6).setCell ⟨b, 7, none⟩ c7).setCell ⟨b, 8, none⟩ c8).heap[b]? = some (.cells #[x0, x1, x2, c3, c4, c5, c6, c7, c8, x9, x10, x11, x12, x13, x14, x15] t fz) := heap_setCell_same h7 8 c8
  have h9 : (((((((w.setCell ⟨b, 3, none⟩ c3).setCell ⟨b, 4, none⟩ c4).setCell ⟨b, 5, none⟩ c5).setCell ⟨b, 6, none⟩ c6).setCell ⟨b, 7, none⟩ c7).setCell ⟨b, 8, none⟩ c8).setCell ⟨b, 9, none⟩ c9).heap[b]? = some (.cells #[x0, x1, x2, c3, c4, c5, c6, c7, c8, c9, x10, x11, x12, x13, x14, x15] t fz) := heap_setCell_same h8 9 c9
  have h10 : ((((((((w.setCell ⟨b, 3, none⟩ c3).setCell ⟨b, 4, none⟩ c4).setCell ⟨b, 5, none⟩ c5).setCell ⟨b, 6, none⟩ c6).setCell ⟨b, 7, none⟩ c7).setCell ⟨b, 8, none⟩ c8).setCell ⟨b, 9, none⟩ c9).setCell ⟨b, 10, none⟩ c10).heap[b]? = some (.cells #[x0, x1, x2, c3, c4, c5, c6, c7, c8, c9, c10, x11, x12, x13, x14, x15] t fz) := heap_setCell_same h9 10 c10
  have h11 : (((((((((w.setCell ⟨b, 3, none⟩ c3).setCell ⟨b, 4, none⟩ c4).setCell ⟨b, 5, none⟩ c5).setCell ⟨b, 6, none⟩ c6).setCell ⟨b, 7, none⟩ c7).setCell ⟨b, 8, none⟩ c8).setCell ⟨b, 9, none⟩ c9).setCell ⟨b, 10, none⟩ c10).setCell ⟨b, 11, none⟩ c11).heap[b]? = some (.cells #[x0, x1, x2, c3, c4, c5, c6, c7, c8, c9, c10, c11, x12, x13, x14, x15] t fz) := heap_setCell_same h10 11 c11
  have h12 : ((((((((((w.setCell ⟨b, 3, none⟩ c3).setCell ⟨b, 4, none⟩ c4).setCell ⟨b, 5, none⟩ c5).setCell ⟨b, 6, none⟩ c6).setCell ⟨b, 7, none⟩ c7).setCell ⟨b, 8, none⟩ c8).setCell ⟨b, 9, none⟩ c9).setCell ⟨b, 10, none⟩ c10).setCell ⟨b, 11, none⟩ c11).setCell ⟨b, 12, none⟩ c12).heap[b]? = some (.cells #[x0, x1, x2, c3, c4, c5, c6, c7, c8, c9, c10, c11, c12, x13, x14, x15] t fz) := heap_setCell_same h11 12 c12
  have h13 : (((((((((((w.setCell ⟨b, 3, none⟩ c3).setCell ⟨b, 4, none⟩ c4).setCell ⟨b, 5, none⟩ c5).setCell ⟨b, 6, none⟩ c6).setCell ⟨b, 7, none⟩ c7).setCell ⟨b, 8, none⟩ c8).setCell ⟨b, 9, none⟩ c9).setCell ⟨b, 10, none⟩ c10).setCell ⟨b, 11, none⟩ c11).setCell ⟨b, 12, none⟩ c12).setCell ⟨b, 13, none⟩ c13).heap[b]? = some (.cells #[x0, x1, x2, c3, c4, c5, c6, c7, c8, c9, c10, c11, c12, c13, x14, x15] t fz) := heap_setCell_same h12 13 c13
  have h14 : ((((((((((((w.setCell ⟨b, 3, none⟩ c3).setCell ⟨b, 4, none⟩ c4).setCell ⟨b, 5, none⟩ c5).setCell ⟨b, 6, none⟩ c6).setCell ⟨b, 7, none⟩ c7).setCell ⟨b, 8, none⟩ c8).setCell ⟨b, 9, none⟩ c9).setCell ⟨b, 10, none⟩ c10).setCell ⟨b, 11, none⟩ c11).setCell ⟨b, 12, none⟩ c12).setCell ⟨b, 13, none⟩ c13).setCell ⟨b, 14, none⟩ c14).heap[b]? = some (.cells #[x0, x1, x2, c3, c4, c5, c6, c7, c8, c9, c10, c11, c12, c13, c14, x15] t fz) := heap_setCell_same h13 14 c14
  have h15 : (((((((((((((w.setCell ⟨b, 3, none⟩ c3).setCell ⟨b, 4, none⟩ c4).setCell ⟨b, 5, none⟩ c5).setCell ⟨b, 6, none⟩ c6).setCell ⟨b, 7, none⟩ c7).setCell ⟨b, 8, none⟩ c8).setCell ⟨b, 9, none⟩ c9).setCell ⟨b, 10, none⟩ c10).setCell ⟨b, 11, none⟩ c11).setCell ⟨b, 12, none⟩ c12).setCell ⟨b, 13, none⟩ c13).setCell ⟨b, 14, none⟩ c14).setCell ⟨b, 15, none⟩ c15).heap[b]? = some (.cells #[x0, x1, x2, c3, c4, c5, c6, c7, c8, c9, c10, c11, c12, c13, c14, c15] t fz) := heap_setCell_same h14 15 c15
  exact h15
theorem mods_13 {F : Nat → Prop} {a w : World} (h : Mods F a w) {b : Nat} (hb : F b ∨ a.heap.size ≤ b) (c3 c4 c5 c6 c7 c8 c9 c10 c11 c12 c13 c14 c15 : Value) : Mods F a (((((((((((((w.setCell ⟨b, 3, none⟩ c3).setCell ⟨b, 4, none⟩ c4).setCell ⟨b, 5, none⟩ c5).setCell ⟨b, 6, none⟩ c6).setCell ⟨b, 7, none⟩ c7).setCell ⟨b, 8, none⟩ c8).setCell ⟨b, 9, none⟩ c9).setCell ⟨b, 10, none⟩ c10).setCell ⟨b, 11, none⟩ c11).setCell ⟨b, 12, none⟩ c12).setCell ⟨b, 13, none⟩ c13).setCell ⟨b, 14, none⟩ c14).setCell ⟨b, 15, none⟩ c15) := by
  exact mods_setCell (mods_setCell (mods_setCell (mods_setCell (mods_setCell (mods_setCell (mods_setCell (mods_setCell (mods_setCell (mods_setCell (mods_setCell (mods_setCell (mods_setCell (h) hb c3) hb c4) hb c5) hb c6) hb c7) hb c8) hb c9) hb c10) hb c11) hb c12) hb c13) hb c14) hb c15
theorem row_13 {w : World} {base : Nat} {e : TypeId} {size n : Nat} {v : Value} {xs : List Value} (ho : w.ownsRow base e size v n xs) {b : Nat} (hb : v.ownBlock ≠ some b) (c3 c4 c5 c6 c7 c8 c9 c10 c11 c12 c13 c14 c15 : Value) : (((((((((((((w.setCell ⟨b, 3, none⟩ c3).setCell ⟨b, 4, none⟩ c4).setCell ⟨b, 5, none⟩ c5).setCell ⟨b, 6, none⟩ c6).setCell ⟨b, 7, none⟩ c7).setCell ⟨b, 8, none⟩ c8).setCell ⟨b, 9, none⟩ c9).setCell ⟨b, 10, none⟩ c10).setCell ⟨b, 11, none⟩ c11).setCell ⟨b, 12, none⟩ c12).setCell ⟨b, 13, none⟩ c13).setCell ⟨b, 14, none⟩ c14).setCell ⟨b, 15, none⟩ c15).ownsRow base e size v n xs := by
  have h : ∀ j, v.ownBlock ≠ some (⟨b, j, none⟩ : Addr).block := fun _ => hb
  exact ownsRow_set (ownsRow_set (ownsRow_set (ownsRow_set (ownsRow_set (ownsRow_set (ownsRow_set (ownsRow_set (ownsRow_set (ownsRow_set (ownsRow_set (ownsRow_set (ownsRow_set (ho) (h _) c3) (h _) c4) (h _) c5) (h _) c6) (h _) c7) (h _) c8) (h _) c9) (h _) c10) (h _) c11) (h _) c12) (h _) c13) (h _) c14) (h _) c15
theorem bld_keep {T e : TypeId} {B b : Nat} {bs : List Value} {w w' : World} (h : Lib.IsBuilder T e B b bs w) (hk : ∀ g, B ≤ g → g < w.heap.size → w'.heap[g]? = w.heap[g]?) : Lib.IsBuilder T e B b bs w' := by
  rcases h with ⟨hB, v, hb, ho, hne⟩ | ⟨hB, v, hb, ho, hne⟩
  · exact .inl ⟨hB, v, (hk b hB (Array.getElem?_eq_some_iff.1 hb).1).trans hb, ownsRow_keep ho (fun g hg => hk g (ownBlock_lt ho hg).1 (ownBlock_lt ho hg).2), hne⟩
  · exact .inr ⟨hB, v, (hk b hB (Array.getElem?_eq_some_iff.1 hb).1).trans hb, ownsRow_keep ho (fun g hg => hk g (ownBlock_lt ho hg).1 (ownBlock_lt ho hg).2), hne⟩
theorem bld_below {T e : TypeId} {B b : Nat} {bs : List Value} {w w' : World} (h : Lib.IsBuilder T e B b bs w) (hb : Below w.heap.size w w') : Lib.IsBuilder T e B b bs w' := bld_keep h (fun g _ hg => hb.block g hg)
theorem mods_bel {F : Nat → Prop} {B : Nat} {w W W' : World} (hm : Mods F w W) (hb : Below B W W') (hB : w.heap.size ≤ B) : Mods F w W' := ⟨hb.os.trans hm.os, hb.tape.trans hm.tape, hb.output.trans hm.output, Nat.le_trans hm.size hb.size, fun k hk hF => (hb.block k (Nat.lt_of_lt_of_le hk hB)).trans (hm.block k hk hF)⟩
theorem below_bel {B : Nat} {w W W' : World} (hm : Below w.heap.size w W) (hb : Below B W W') (hB : w.heap.size ≤ B) : Below w.heap.size w W' := ⟨hb.os.trans hm.os, hb.tape.trans hm.tape, hb.output.trans hm.output, Nat.le_trans hm.size hb.size, fun k hk => (hb.block k (Nat.lt_of_lt_of_le hk hB)).trans (hm.block k hk)⟩
theorem bkeep {B : Nat} {W W' : World} (hb : Below B W W') {b : Nat} {o : Obj} (h : W.heap[b]? = some o) (hB : b < B) : W'.heap[b]? = some o := (hb.block b hB).trans h
def FailedC (w : World) (c h : Nat) (nm : ByteArray) (av : Value) (t : ByteArray) (e : Ending) (w' : World) : Prop := e = .returned (.tuple #[]) ∧ ∃ so cap, w'.heap[c]? = some (oCtB h nm av so cap) ∧ w'.ownsRow w.heap.size 30 5 (.slice so 1 cap) 1 (rowV [strV t]) ∧ Mods (fun k => k = c) w w'
/-- The text of a value. -/
def txt (v : V) : ByteArray := sS (strOf v)
def conP (A : List V) (sep : ByteArray) (i : Nat) : List UInt8 := Lib.join ((A.take i).map (fun v => (txt v).data.toList)) sep.data.toList
theorem joinK_snoc (l : List (List UInt8)) (x sep : List UInt8) : Lib.join (l ++ [x]) sep = if l = [] then x else Lib.join l sep ++ sep ++ x := by
  cases l with
  | nil => simp [Lib.join_cons, Lib.joinTail]
  | cons y l => simp [Lib.join_cons, Lib.joinTail]
theorem conP_zero (A : List V) (sep : ByteArray) : conP A sep 0 = [] := rfl
theorem conP_succ {A : List V} {sep : ByteArray} {i : Nat} {v : V} (hv : A[i]? = some v) : conP A sep (i + 1) = if i = 0 then (txt v).data.toList else conP A sep i ++ sep.data.toList ++ (txt v).data.toList := by
  unfold conP
  rw [List.take_add_one, hv]
  simp only [Option.toList_some, List.map_append, List.map_cons, List.map_nil]
  rw [joinK_snoc]
  have hl : i < A.length := (List.getElem?_eq_some_iff.1 hv).1
  by_cases h : i = 0
  · subst h
    simp
  · rw [if_neg h, if_neg]
    intro e
    have := congrArg List.length e
    rw [List.length_map, List.length_take, List.length_nil] at this
    omega
theorem conP_len_le {A : List V} {sep : ByteArray} (i : Nat) : ∀ d, i + d ≤ A.length → (conP A sep i).length ≤ (conP A sep (i + d)).length
  | 0, _ => Nat.le_refl _
  | d + 1, h => by
    refine Nat.le_trans (conP_len_le i d (by omega)) ?_
    show _ ≤ (conP A sep (i + d + 1)).length
    rw [conP_succ (List.getElem?_eq_getElem (show i + d < A.length by omega))]
    split
    · rename_i h0
      have e : (conP A sep (i + d)).length = 0 := by rw [h0]; rfl
      omega
    · simp only [List.length_append]; omega
theorem bStr_k (B b : Nat) (l : List UInt8) (w : World) (h : Lib.IsBuilder 74 5 B b (Lib.byteCells l) w) (h0 : l ≠ []) : Calls Tryz.prog 35 #[.pointer (some ⟨b, 0, none⟩)] w (fun e w' => e = .returned (.string ⟨l.toArray⟩) ∧ Below B w w' ∧ Lib.OthersKept 5 (some b) w w') :=
  (Go.Proofs.Any.Builder_String_k Tryz.lays169 Tryz.Builder_Extra_169 B b l w (Lib.IsBuilderF.of h) h0).mono fun _ _ h => ⟨h.1, h.2.2.1, h.2.2.2⟩
theorem row_others {w w' : World} {B B2 b n : Nat} {v : Value} {xs bs : List Value} (ho : w.ownsRow B 30 5 v n xs) (hk : Lib.OthersKept 5 (some b) w w') (hB : Lib.IsBuilder 74 5 B2 b bs w) : w'.ownsRow B 30 5 v n xs := by
  obtain ⟨cs, hb⟩ : ∃ cs, w.heap[b]? = some (.cells cs 74 (0, 0)) := by
    rcases hB with ⟨_, v, hb, _⟩ | ⟨_, v, hb, _⟩
    · exact ⟨_, hb⟩
    · exact ⟨_, hb⟩
  refine ownsRow_keep ho (fun g hg => ?_)
  obtain ⟨cs', hc⟩ := row_block ho hg
  rw [hc]
  refine hk g _ hc (fun e => ?_) (fun c fz e => ?_)
  · injection e with e
    subst e
    rw [hb] at hc
    injection hc with hc
    injection hc with _ hc
    exact absurd hc (by decide)
  · injection e with _ e
    exact absurd e (by decide)
/-- What concat gives. -/
def conK (S : List UInt8) : Int := if S.length ≤ 4096 then 1 else 2
def conA (S : List UInt8) : List V := if S.length ≤ 4096 then [strV ⟨S.toArray⟩] else [strV tooLong]
def conL (S : List UInt8) : Int := if S.length ≤ 4096 then 0 else 1
/-- Where concat's loop is. -/
def ConR (w : World) (c h : Nat) (nm : ByteArray) (av : Value) (ti b3 b9 : Nat) (P : List UInt8) (wr : World) : Prop :=
  wr.heap[w.heap.size]? = some oAc ∧ wr.heap[b3]? = some (oV 4 0 0 ⟨#[]⟩ ((ti : Int) + 1)) ∧ Lib.IsBuilder 74 5 b9 b9 (Lib.byteCells P) wr ∧ b9 ≤ wr.heap.size ∧
  ((Below w.heap.size w wr ∧ P.length ≤ 4096) ∨ (∃ so cap, wr.heap[c]? = some (oCtB h nm av so cap) ∧ wr.ownsRow (w.heap.size + 1) 30 5 (.slice so 1 cap) 1 (rowV [strV tooLong]) ∧ Mods (fun k => k = c) w wr ∧ 4096 < P.length))
theorem qs_mods {base : Nat} {O O' : Nat → Prop} {a w w' : World} (h : QS base O a O' w) {b : Nat} (hb : a.heap.size ≤ b) (hm : Mods (fun k => k = b) w w') : QS base O a O' w' :=
  ⟨⟨hm.os.trans h.1.os, hm.tape.trans h.1.tape, hm.output.trans h.1.output, Nat.le_trans h.1.size hm.size, fun i hi hF => (hm.block i (Nat.lt_of_lt_of_le hi h.1.size) (fun e => by omega)).trans (h.1.block i hi hF)⟩, h.2⟩
/-- Where list's loop is. -/
def LstR (base n : Nat) (h : Nat) (M : LH) (AA : List (List V)) (A : List V) (O : Nat → Prop) (w : World) (g b6 : Nat) (cs : Array Value) (i : Nat) (wr : World) : Prop :=
  ∃ O', PHp base (n + i) wr h (M ++ [⟨4, V.nil, []⟩]) (AA ++ [A.take i]) O' ∧ QS base O w O' wr ∧ Held wr O' w.heap.size (oV 0 0 0 ⟨#[]⟩ 0) ∧ Held wr O' b6 (oV 4 0 0 ⟨#[]⟩ ((M.length : Int) + 1)) ∧ (A = [] ∨ Held wr O' g (.cells cs 30))
theorem two_vals {W : World} {m : Nat} {a b : V} (h : W.heap[m]? = some (.cells #[.int .i64 a.k, .int .i64 a.p, .int .i64 a.q, .string a.s, .int .i64 a.r, .int .i64 b.k, .int .i64 b.p, .int .i64 b.q, .string b.s, .int .i64 b.r] 30)) : Vals W (.slice (some ⟨m, 0, none⟩) 2 2) [a, b] := by
  have hr : W.ownsRow 0 30 5 (.slice (some ⟨m, 0, none⟩) [a, b].length 2) [a, b].length (rowV [a, b]) := ⟨rfl, .inr ⟨m, 2, _, rfl, Nat.zero_le _, h, Nat.le_refl _, by unfold maxLen; omega, rfl, rfl⟩⟩
  exact Vals.of_row hr
theorem row_one {w : World} {B cap : Nat} {so : Option Addr} {v : V} (h : w.ownsRow B 30 5 (.slice so 1 cap) 1 (rowV [v])) : ∃ g, so = some ⟨g, 0, none⟩ ∧ g < w.heap.size ∧ 1 ≤ cap ∧ ∀ W, Below w.heap.size w W → W.cell? ⟨g, 0, none⟩ = some (.int .i64 v.k) ∧ W.cell? ⟨g, 1, none⟩ = some (.int .i64 v.p) ∧ W.cell? ⟨g, 2, none⟩ = some (.int .i64 v.q) ∧ W.cell? ⟨g, 3, none⟩ = some (.string v.s) ∧ W.cell? ⟨g, 4, none⟩ = some (.int .i64 v.r) := by
  have hv : Vals w (.slice so 1 cap) [v] := Vals.of_row (A := [v]) h
  rcases h.2 with ⟨e, e2⟩ | ⟨g, cap', cur, e, _, hg, hc, _⟩
  · exact absurd e2 (by decide)
  · injection e with e1 _ e2
    subst e1 e2
    refine ⟨g, rfl, (Array.getElem?_eq_some_iff.1 hg).1, hc, fun W hb => ?_⟩
    have := Vals.at_ (Vals.below hv hb) (i := 0) (v := v) rfl
    simpa using this.2
def oneL : List V := [⟨2, 1, 1, ⟨#[]⟩, 0⟩, ⟨2, 2, 1, ⟨#[]⟩, 0⟩, ⟨2, 3, 1, ⟨#[]⟩, 0⟩]
theorem oneL_ok : ∀ v ∈ oneL, v.k ≠ 0 ∧ validV v = true ∧ WfV v := by
  intro v hv
  simp only [oneL, List.mem_cons, List.not_mem_nil, or_false] at hv
  rcases hv with rfl | rfl | rfl <;> exact ⟨by decide, by kernel_rfl, ⟨by decide, by decide⟩, ⟨by decide, by decide⟩, ⟨by decide, by decide⟩, by decide, ⟨by decide, by decide⟩⟩
theorem oneL_txt : ∀ v ∈ oneL, sE (strOf v) = 0 ∧ (txt v).size ≤ 4096 := by
  intro v hv
  simp only [oneL, List.mem_cons, List.not_mem_nil, or_false] at hv
  rcases hv with rfl | rfl | rfl <;> exact ⟨by kernel_rfl, of_decide_eq_true (by kernel_rfl)⟩
theorem oneL_con : [49, 45, 50, 45, 51] = conP oneL ⟨#[45]⟩ oneL.length := by kernel_rfl
theorem prjK5 {c0 c1 c2 c3 c4 p : Prop} (h : c0 ∧ c1 ∧ c2 ∧ c3 ∧ c4 ∧ Hid p) : p := (h.2.2.2.2.2).out
theorem prjK7 {c0 c1 c2 c3 c4 c5 c6 p : Prop} (h : c0 ∧ c1 ∧ c2 ∧ c3 ∧ c4 ∧ c5 ∧ c6 ∧ Hid p) : p := (h.2.2.2.2.2.2.2).out
theorem WalkG.take {E : Type} {P : Program} {ops : Array Oper} {I : Option E → World → Prop} {Fr : Option E → Nat → Prop} {Safe : Obj → Prop} {base : Nat} {m : Array Nat} {h : Nat} {fin : E → Option E} {Q : Exit → Act → World → Prop}
    {o : Oper} {rest : List Oper} {pre ks : List (Kd E)} {A : (Nat → Nat) → E → Act} (v : Value)
    (hs : ∀ p e W oo, I oo W → ((m.getD pre.length 0).testBit h = true → oo = some e) → ((m.getD h 0).testBit pre.length = true → oo = none) → Facts pre (m.getD pre.length 0) base (Fr oo) p W → Region.wanted o (yielded ops (A p e).tmps) = true ∧ (execOp (A p e).eval o).run P W = .ok (.value v) W)
    (hr : WalkG P ops I Fr Safe base m h fin Q rest (pre ++ [.val v]) (fun p e => (A p e).put o.dst v) ks) : WalkG P ops I Fr Safe base m h fin Q (o :: rest) pre A (.val v :: ks) :=
  .val v (fun p e W oo h1 h2 h2' h3 => StepK.take (hs p e W oo h1 h2 h2' h3).1 (hs p e W oo h1 h2 h2' h3).2 ⟨rfl, Below.refl _ _⟩) hr
theorem Only.below {n B : Nat} {w w' : World} (h : Only n w w') (hB : B ≤ n) (hs : B ≤ w.heap.size) : Below B w w' := ⟨h.os, h.tape, h.output, h.size, fun k hk => h.block k (by omega) (by omega)⟩
theorem Only.mods {n : Nat} {w w' : World} (h : Only n w w') : Mods (fun k => k = n) w w' := ⟨h.os, h.tape, h.output, h.size, fun k hk hn => h.block k hn hk⟩
theorem Only.of_mods {n : Nat} {w w' : World} (h : Mods (fun k => k = n) w w') : Only n w w' := ⟨h.os, h.tape, h.output, h.size, fun k hn hk => h.block k hk hn⟩
theorem only_five {W : World} {n : Nat} {a b c d e : Value} {t : TypeId} {fz : Nat × Nat} (h : W.heap[n]? = some (.cells #[a, b, c, d, e] t fz)) (x y z u v : Value) :
    Only n W (((((W.setCell ⟨n, 0, none⟩ x).setCell ⟨n, 1, none⟩ y).setCell ⟨n, 2, none⟩ z).setCell ⟨n, 3, none⟩ u).setCell ⟨n, 4, none⟩ v) ∧ (((((W.setCell ⟨n, 0, none⟩ x).setCell ⟨n, 1, none⟩ y).setCell ⟨n, 2, none⟩ z).setCell ⟨n, 3, none⟩ u).setCell ⟨n, 4, none⟩ v).heap[n]? = some (.cells #[x, y, z, u, v] t fz) :=
  ⟨Only.of_mods (mods_five (F := fun k => k = n) (Mods.refl _ _) (.inl rfl) _ _ _ _ _), heap_five_at h _ _ _ _ _⟩
theorem h12_at {W : World} {n : Nat} {x0 x1 x2 x3 x4 x5 x6 x7 x8 x9 x10 x11 : Value} {t : TypeId} {fz : Nat × Nat} (h : W.heap[n]? = some (.cells #[x0, x1, x2, x3, x4, x5, x6, x7, x8, x9, x10, x11] t fz)) (c0 c1 c2 c3 c4 c5 c6 c7 c8 c9 c10 c11 : Value) :
    ((((((((((((W.setCell ⟨n, 0, none⟩ c0).setCell ⟨n, 1, none⟩ c1).setCell ⟨n, 2, none⟩ c2).setCell ⟨n, 3, none⟩ c3).setCell ⟨n, 4, none⟩ c4).setCell ⟨n, 5, none⟩ c5).setCell ⟨n, 6, none⟩ c6).setCell ⟨n, 7, none⟩ c7).setCell ⟨n, 8, none⟩ c8).setCell ⟨n, 9, none⟩ c9).setCell ⟨n, 10, none⟩ c10).setCell ⟨n, 11, none⟩ c11).heap[n]? = some (.cells #[c0, c1, c2, c3, c4, c5, c6, c7, c8, c9, c10, c11] t fz) := by
  replace h := heap_setCell_same h 0 c0
  change _ = some (Obj.cells #[c0, x1, x2, x3, x4, x5, x6, x7, x8, x9, x10, x11] t fz) at h
  replace h := heap_setCell_same h 1 c1
  change _ = some (Obj.cells #[c0, c1, x2, x3, x4, x5, x6, x7, x8, x9, x10, x11] t fz) at h
  replace h := heap_setCell_same h 2 c2
  change _ = some (Obj.cells #[c0, c1, c2, x3, x4, x5, x6, x7, x8, x9, x10, x11] t fz) at h
  replace h := heap_setCell_same h 3 c3
  change _ = some (Obj.cells #[c0, c1, c2, c3, x4, x5, x6, x7, x8, x9, x10, x11] t fz) at h
  replace h := heap_setCell_same h 4 c4
  change _ = some (Obj.cells #[c0, c1, c2, c3, c4, x5, x6, x7, x8, x9, x10, x11] t fz) at h
  replace h := heap_setCell_same h 5 c5
  change _ = some (Obj.cells #[c0, c1, c2, c3, c4, c5, x6, x7, x8, x9, x10, x11] t fz) at h
  replace h := heap_setCell_same h 6 c6
  change _ = some (Obj.cells #[c0, c1, c2, c3, c4, c5, c6, x7, x8, x9, x10, x11] t fz) at h
  replace h := heap_setCell_same h 7 c7
  change _ = some (Obj.cells #[c0, c1, c2, c3, c4, c5, c6, c7, x8, x9, x10, x11] t fz) at h
  replace h := heap_setCell_same h 8 c8
  change _ = some (Obj.cells #[c0, c1, c2, c3, c4, c5, c6, c7, c8, x9, x10, x11] t fz) at h
  replace h := heap_setCell_same h 9 c9
  change _ = some (Obj.cells #[c0, c1, c2, c3, c4, c5, c6, c7, c8, c9, x10, x11] t fz) at h
  replace h := heap_setCell_same h 10 c10
  change _ = some (Obj.cells #[c0, c1, c2, c3, c4, c5, c6, c7, c8, c9, c10, x11] t fz) at h
  replace h := heap_setCell_same h 11 c11
  change _ = some (Obj.cells #[c0, c1, c2, c3, c4, c5, c6, c7, c8, c9, c10, c11] t fz) at h
  exact h
theorem only_twelve {W : World} {n : Nat} {x0 x1 x2 x3 x4 x5 x6 x7 x8 x9 x10 x11 : Value} {t : TypeId} {fz : Nat × Nat} (h : W.heap[n]? = some (.cells #[x0, x1, x2, x3, x4, x5, x6, x7, x8, x9, x10, x11] t fz)) (c0 c1 c2 c3 c4 c5 c6 c7 c8 c9 c10 c11 : Value) :
    Only n W ((((((((((((W.setCell ⟨n, 0, none⟩ c0).setCell ⟨n, 1, none⟩ c1).setCell ⟨n, 2, none⟩ c2).setCell ⟨n, 3, none⟩ c3).setCell ⟨n, 4, none⟩ c4).setCell ⟨n, 5, none⟩ c5).setCell ⟨n, 6, none⟩ c6).setCell ⟨n, 7, none⟩ c7).setCell ⟨n, 8, none⟩ c8).setCell ⟨n, 9, none⟩ c9).setCell ⟨n, 10, none⟩ c10).setCell ⟨n, 11, none⟩ c11) ∧ ((((((((((((W.setCell ⟨n, 0, none⟩ c0).setCell ⟨n, 1, none⟩ c1).setCell ⟨n, 2, none⟩ c2).setCell ⟨n, 3, none⟩ c3).setCell ⟨n, 4, none⟩ c4).setCell ⟨n, 5, none⟩ c5).setCell ⟨n, 6, none⟩ c6).setCell ⟨n, 7, none⟩ c7).setCell ⟨n, 8, none⟩ c8).setCell ⟨n, 9, none⟩ c9).setCell ⟨n, 10, none⟩ c10).setCell ⟨n, 11, none⟩ c11).heap[n]? = some (.cells #[c0, c1, c2, c3, c4, c5, c6, c7, c8, c9, c10, c11] t fz) :=
  ⟨Only.of_mods (mods_twelve (F := fun k => k = n) (Mods.refl _ _) (.inl rfl) 0 1 2 3 4 5 6 7 8 9 10 11 _ _ _ _ _ _ _ _ _ _ _ _), h12_at h _ _ _ _ _ _ _ _ _ _ _ _⟩
theorem PHp.modsS {base n : Nat} {w w' : World} {h : Nat} {M : LH} {AA : List (List V)} {O : Nat → Prop} (hP : PHp base n w h M AA O) {b : Nat} {c : Obj} (hb : w.heap[b]? = some c) (hS : ¬ PB c) (hO : ¬ O b) (hm : Mods (fun k => k = b) w w') : PHp base n w' h M AA O := by
  obtain ⟨⟨bo, bt, H, h1, h2, h2a, h3, h4, h5⟩, h6⟩ := hP
  refine ⟨⟨bo, bt, H, h1.keepF (fun k hk => hm.block k (hp_lt h1 hk) (fun e => ?_)), h2, h2a, h3, h4, h5⟩, fun k hk => Nat.lt_of_lt_of_le (h6 k hk) hm.size⟩
  subst e
  rcases hp_pb h1 hk with ⟨o, h7, h8⟩ | ⟨y, hy, hy4, h7, _⟩
  · rw [hb] at h7
    injection h7 with h7
    subst h7
    exact hS h8
  · exact hO (h5 y hy hy4 k h7)
theorem QS.only {base : Nat} {O O' : Nat → Prop} {a W W' : World} {n : Nat} (h : QS base O a O' W) (hn : a.heap.size ≤ n) (ho : Only n W W') : QS base O a O' W' :=
  ⟨⟨ho.os.trans h.1.os, ho.tape.trans h.1.tape, ho.output.trans h.1.output, Nat.le_trans h.1.size ho.size, fun i hi hF => (ho.block i (by omega) (Nat.lt_of_lt_of_le hi h.1.size)).trans (h.1.block i hi hF)⟩, h.2⟩
/-- The world in a region with one call that changes the heap: before it, behind it. -/
def IHp {X : Type} (base n : Nat) (O : Nat → Prop) (w : World) (hh : Nat) (M : LH) (AA : List (List V)) (Ex : X → World → Prop) : Option ((Nat → Prop) × X) → World → Prop
  | none, W => Below w.heap.size w W
  | some e, W => PHp base n W hh M AA e.1 ∧ QS base O w e.1 W ∧ Ex e.2 W
theorem ihp_none {X : Type} {base n : Nat} {O : Nat → Prop} {w : World} {hh : Nat} {M : LH} {AA : List (List V)} {Ex : X → World → Prop} {W : World} (h : IHp base n O w hh M AA Ex none W) : Below w.heap.size w W := h
def FHp {X : Type} (w : World) (Bl : X → Nat → Prop) : Option ((Nat → Prop) × X) → Nat → Prop
  | none, n => w.heap.size ≤ n
  | some e, n => w.heap.size ≤ n ∧ ¬ e.1 n ∧ ¬ Bl e.2 n
theorem hev_done {X : Type} {base n : Nat} {O : Nat → Prop} {w W w1 : World} {hh : Nat} {M : LH} {AA : List (List V)} {Ex : X → World → Prop} {Bl : X → Nat → Prop} {O3 : Nat → Prop} (hI : Below w.heap.size w W) (hO : ∀ b, O b → b < w.heap.size) (hP : PHp base n w1 hh M AA O3) (hq : QS base O W O3 w1) (x : X) (hx : Ex x w1) (hbl : ∀ n, Bl x n → W.heap.size ≤ n) :
    IHp base n O w hh M AA Ex (some (O3, x)) w1 ∧ W.heap.size ≤ w1.heap.size ∧ ∀ n ob, w.heap.size ≤ n → W.heap[n]? = some ob → ¬ PB ob → FHp w Bl none n → w1.heap[n]? = some ob ∧ FHp w Bl (some (O3, x)) n := by
  refine ⟨⟨hP, (QS.of_below hI).trans hq, hx⟩, hq.size, fun n ob hn ho hs _ => ?_⟩
  obtain ⟨h1, h2⟩ := hq.keep ho hs (fun e => by have := hO n e; omega)
  have hl := (Array.getElem?_eq_some_iff.1 ho).1
  exact ⟨h1, hn, h2, fun e => by have := hbl n e; omega⟩
/-- Where pack's loop is. -/
def PkR (base n : Nat) (h : Nat) (M0 : LH) (AA0 : List (List V)) (vs : List V) (O : Nat → Prop) (w : World) (c : Nat) (oc : Obj) (b3 g : Nat) (cs : Array Value) (i : Nat) (wr : World) : Prop :=
  ∃ O', PHp base (n + i) wr h (M0 ++ [⟨4, V.nil, pkL vs (fstNil vs) i⟩]) (AA0 ++ [vs.take (min (i) (fstNil vs))]) O' ∧ QS base O w O' wr ∧ Held wr O' w.heap.size oAc ∧ Held wr O' c oc ∧ Held wr O' b3 (oV 4 0 0 ⟨#[]⟩ ((M0.length : Int) + 1)) ∧ (vs = [] ∨ Held wr O' g (.cells cs 30))
def PkPost (base n : Nat) (O : Nat → Prop) (h : Nat) (M0 : LH) (AA0 : List (List V)) (vs : List V) (w : World) (e : Ending) (w' : World) : Prop := PrP base n O h (M0 ++ [⟨4, V.nil, pkE vs⟩]) (AA0 ++ [vs.take (fstNil vs)]) 1 V.nil [⟨4, 0, 0, ⟨#[]⟩, (M0.length : Int) + 1⟩] ⟨#[]⟩ 0 0 [] w e w'
/-- Where unpack's loop is. -/
def UpR (w6 : World) (vs : List V) (i : Nat) (sv : Value) (wr : World) : Prop := wr.ownsRow w6.heap.size 30 5 sv i (rowV (vs.take i)) ∧ Below w6.heap.size w6 wr
/-- What unpack gives. -/
def upK (n : Nat) : Int := if n ≤ 200 then 1 else 2
def upA (vs : List V) : List V := if vs.length ≤ 200 then vs else [strV ⟨#[116, 111, 111, 32, 109, 97, 110, 121, 32, 114, 101, 115, 117, 108, 116, 115, 32, 116, 111, 32, 117, 110, 112, 97, 99, 107]⟩]
def upL (n : Nat) : Int := if n ≤ 200 then 0 else 1
def UnPost (vs : List V) (w : World) (e : Ending) (w' : World) : Prop := ∃ so3 cap3 sk3 ck3, e = .returned (acV (upK vs.length) 0 V.nil (.slice so3 (upA vs).length cap3) ⟨#[]⟩ (upL vs.length) 0 (.slice sk3 0 ck3)) ∧ w'.ownsRow w.heap.size 30 5 (.slice so3 (upA vs).length cap3) (upA vs).length (rowV (upA vs)) ∧ w'.ownsRow w.heap.size 30 5 (.slice sk3 0 ck3) 0 (rowV []) ∧ Below w.heap.size w w'
/-- The world in a region with one call that makes rows: before it, behind it. -/
def IRw {X : Type} (w : World) (Ex : X → World → Prop) : Option X → World → Prop
  | none, W => Below w.heap.size w W
  | some x, W => Below w.heap.size w W ∧ Ex x W
def FRw {X : Type} (w : World) (Bl : X → Nat → Prop) : Option X → Nat → Prop
  | none, n => w.heap.size ≤ n
  | some x, n => w.heap.size ≤ n ∧ ¬ Bl x n
theorem irw_below {X : Type} {w W : World} {Ex : X → World → Prop} {oo : Option X} (h : IRw w Ex oo W) : Below w.heap.size w W := by
  cases oo with
  | none => exact h
  | some x => exact h.1
theorem irw_done {X : Type} {w W w1 : World} {Ex : X → World → Prop} {Bl : X → Nat → Prop} (hI : Below w.heap.size w W) (hb : Below W.heap.size W w1) (x : X) (hx : Ex x w1) (hbl : ∀ n, Bl x n → W.heap.size ≤ n) :
    IRw w Ex (some x) w1 ∧ W.heap.size ≤ w1.heap.size ∧ ∀ n ob, w.heap.size ≤ n → W.heap[n]? = some ob → True → FRw w Bl none n → w1.heap[n]? = some ob ∧ FRw w Bl (some x) n :=
  ⟨⟨below_next hI hb, hx⟩, hb.size, fun n ob hn ho _ _ => ⟨hkeep hb ho, hn, fun e => by have := hbl n e; have := (Array.getElem?_eq_some_iff.1 ho).1; omega⟩⟩
/-- Two rows of values that a call has made. -/
abbrev RowsT := (Option Addr × Nat) × (Option Addr × Nat)
def ExT (B : Nat) (A K : List V) (x : RowsT) (W : World) : Prop := W.ownsRow B 30 5 (.slice x.1.1 A.length x.1.2) A.length (rowV A) ∧ W.ownsRow B 30 5 (.slice x.2.1 K.length x.2.2) K.length (rowV K)
def BlT (A K : List V) (x : RowsT) (n : Nat) : Prop := (Value.slice x.1.1 A.length x.1.2).ownBlock = some n ∨ (Value.slice x.2.1 K.length x.2.2).ownBlock = some n
theorem exT_below {B : Nat} {A K : List V} (x : RowsT) (W W' : World) (h : ExT B A K x W) (hb : Below W.heap.size W W') : ExT B A K x W' := ⟨ownsRow_ext (below_ext hb (Nat.le_refl _)) h.1, ownsRow_ext (below_ext hb (Nat.le_refl _)) h.2⟩
theorem exT_only {B : Nat} {A K : List V} (x : RowsT) (W W' : World) (n : Nat) (h : ExT B A K x W) (hn : ¬ BlT A K x n) (ho : Only n W W') : ExT B A K x W' :=
  ⟨ownsRow_keep h.1 (fun g hg => ho.block g (fun e => hn (.inl (e ▸ hg))) (ownBlock_lt h.1 hg).2), ownsRow_keep h.2 (fun g hg => ho.block g (fun e => hn (.inr (e ▸ hg))) (ownBlock_lt h.2 hg).2)⟩
theorem exT_lt {B : Nat} {A K : List V} (x : RowsT) (W : World) (n : Nat) (h : ExT B A K x W) (hn : BlT A K x n) : n < W.heap.size := hn.elim (fun e => (ownBlock_lt h.1 e).2) (fun e => (ownBlock_lt h.2 e).2)
theorem blT_le {B : Nat} {A K : List V} {x : RowsT} {W : World} (h : ExT B A K x W) (n : Nat) (hn : BlT A K x n) : B ≤ n := hn.elim (fun e => (ownBlock_lt h.1 e).1) (fun e => (ownBlock_lt h.2 e).1)
theorem prjS7 {c0 c1 c2 c3 c4 c5 c6 p : Prop} (h : c0 ∧ c1 ∧ c2 ∧ c3 ∧ c4 ∧ c5 ∧ c6 ∧ Hid p) : p := (h.2.2.2.2.2.2.2).out
theorem SpecsAt.below {w w' : World} {so : Option Addr} {l : List (V × Int)} (h : SpecsAt w so l) (hb : Below w.heap.size w w') : SpecsAt w' so l := by
  rcases h with h | ⟨g, o, hs, hc⟩
  · exact .inl h
  · exact .inr ⟨g, o, hs, fun i x hx j u hu => keepCell hb (hc i x hx j u hu)⟩
/-- Where the law gathers the values. -/
def LpS (w1 : World) (l : List (V × Int)) (i : Nat) (sv : Value) (wr : World) : Prop := wr.ownsRow w1.heap.size 30 5 sv i (rowV ((l.map Prod.fst).take i)) ∧ Below w1.heap.size w1 wr ∧ ∀ y ∈ (l.map Prod.fst).take i, validV y = true
set_option maxRecDepth 100000 in
set_option maxHeartbeats 8000000 in
theorem pSet_ok (w : World) (h bo bt : Nat) (H : List PO) (hH : HpAt w h bo bt H) (i : Nat) (x : PO) (hi : H[i]? = some x) (h4 : x.kind = 4) (L' : List Sl) (A' : List V) (k1 p1 q1 : Int) (s1 : ByteArray) (r1 : Int) (kk pp qq : Int) (ss : ByteArray) (rr : Int) (hk0 : (kk == 0) = false) (k2 p2 q2 : Int) (s2 : ByteArray) (r2 : Int) (T : ∀ W, Below w.heap.size w W → Calls Tryz.prog 36 #[.pointer (some ⟨h, 0, none⟩), .agg #[.int .i64 k1, .int .i64 p1, .int .i64 q1, .string s1, .int .i64 r1]] W (PtrPost W (.pointer (some ⟨x.t, 0, none⟩)))) (V : ∀ W, Calls Tryz.prog 43 #[.agg #[.int .i64 kk, .int .i64 pp, .int .i64 qq, .string ss, .int .i64 rr]] W (BoolPost W true)) (E : ∀ W, Calls Tryz.prog 44 #[.agg #[.int .i64 k2, .int .i64 p2, .int .i64 q2, .string s2, .int .i64 r2]] W (IntPost W 0))
    (S : ∀ W, Below w.heap.size w W → Calls Tryz.prog 46 #[.pointer (some ⟨x.t, 0, none⟩), .agg #[.int .i64 kk, .int .i64 pp, .int .i64 qq, .string ss, .int .i64 rr], .agg #[.int .i64 k2, .int .i64 p2, .int .i64 q2, .string s2, .int .i64 r2]] W (TWPost W x.t x.m x.g x.sv x.av L' A'))
    (U : ∀ W H', HpAt W h bo bt H' → Calls Tryz.prog 45 #[.pointer (some ⟨h, 0, none⟩), .agg #[.int .i64 k1, .int .i64 p1, .int .i64 q1, .string s1, .int .i64 r1], .int .i64 0] W (TouchPost W h bo bt H')) :
    Calls Tryz.prog 23 #[.pointer (some ⟨h, 0, none⟩), .agg #[.int .i64 k1, .int .i64 p1, .int .i64 q1, .string s1, .int .i64 r1], .agg #[.int .i64 kk, .int .i64 pp, .int .i64 qq, .string ss, .int .i64 rr], .agg #[.int .i64 k2, .int .i64 p2, .int .i64 q2, .string s2, .int .i64 r2]] w (HSetPost w h bo bt H i x L' A') := by
  have hbt : bt < w.heap.size := by obtain ⟨E, hE⟩ := hH.touched; exact hE.lt
  have HF := Lib.hid (fun b => hp_lt (b := b) hH)
  have hxm := List.mem_of_getElem? hi
  have HX := Lib.hid (fun b (hb : TwF x.t x.m x.g x.sv x.av b) => hp_lt hH (.inr (.inr (.inr ⟨x, hxm, .inr ⟨h4, hb⟩⟩))))
  have HXM := Lib.hid hxm
  have HHH := Lib.hid hH
  have HI := Lib.hid hi
  have H4 := Lib.hid h4
  have HT := Lib.hid T
  have HV := Lib.hid V
  have HE := Lib.hid E
  have HS := Lib.hid S
  have HU := Lib.hid U
  clear T V E S U hH hi h4 hxm
  go_enter Tryz.func23, Tryz.ntmps23
  go_wp2_with fail
  refine (HT.out _ ((below2w _ _ _).alloc (by simp; omega) _)).mono ?_
  rintro e w1 ⟨rfl, hb⟩
  have Ha1 := Lib.hid (hkeep hb (heap3_a _ _ _ _))
  have Hb1 := Lib.hid (hkeep hb (heap3_b _ _ _ _))
  have Hc1 := Lib.hid (hkeep hb (heap3_c _ _ _ _))
  have HW1 := Lib.hid (below_next (((below2w _ _ _).alloc (by simp; omega) _)) hb)
  have hz1 := hb.size
  try simp at hz1
  clear hb
  have hyb : w.heap.size + 1 < w1.heap.size := (Array.getElem?_eq_some_iff.1 Hb1.out).1
  have b0 : w1.cell? ⟨w.heap.size + 1, 0, none⟩ = some (.int .i64 kk) := by rw [cell_of_heap Hb1.out]; rfl
  have b1 : w1.cell? ⟨w.heap.size + 1, 1, none⟩ = some (.int .i64 pp) := by rw [cell_of_heap Hb1.out]; rfl
  have b2 : w1.cell? ⟨w.heap.size + 1, 2, none⟩ = some (.int .i64 qq) := by rw [cell_of_heap Hb1.out]; rfl
  have b3 : w1.cell? ⟨w.heap.size + 1, 3, none⟩ = some (.string ss) := by rw [cell_of_heap Hb1.out]; rfl
  have b4 : w1.cell? ⟨w.heap.size + 1, 4, none⟩ = some (.int .i64 rr) := by rw [cell_of_heap Hb1.out]; rfl
  have hyc : w.heap.size + 1 + 1 < w1.heap.size := (Array.getElem?_eq_some_iff.1 Hc1.out).1
  have c0 : w1.cell? ⟨w.heap.size + 1 + 1, 0, none⟩ = some (.int .i64 k2) := by rw [cell_of_heap Hc1.out]; rfl
  have c1 : w1.cell? ⟨w.heap.size + 1 + 1, 1, none⟩ = some (.int .i64 p2) := by rw [cell_of_heap Hc1.out]; rfl
  have c2 : w1.cell? ⟨w.heap.size + 1 + 1, 2, none⟩ = some (.int .i64 q2) := by rw [cell_of_heap Hc1.out]; rfl
  have c3 : w1.cell? ⟨w.heap.size + 1 + 1, 3, none⟩ = some (.string s2) := by rw [cell_of_heap Hc1.out]; rfl
  have c4 : w1.cell? ⟨w.heap.size + 1 + 1, 4, none⟩ = some (.int .i64 r2) := by rw [cell_of_heap Hc1.out]; rfl
  go_wp2_with fail
  refine (HV.out _).mono ?_
  rintro e w2 ⟨rfl, hb⟩
  have Ha2 := Lib.hid (hkeep hb (Ha1.out))
  have Hb2 := Lib.hid (hkeep hb (Hb1.out))
  have Hc2 := Lib.hid (hkeep hb (Hc1.out))
  have HW2 := Lib.hid (below_next (HW1.out) hb)
  have hz2 := hb.size
  try simp at hz2
  clear hb
  clear hyb b0 b1 b2 b3 b4 hyc c0 c1 c2 c3 c4
  have hyc : w.heap.size + 1 + 1 < w2.heap.size := (Array.getElem?_eq_some_iff.1 Hc2.out).1
  have c0 : w2.cell? ⟨w.heap.size + 1 + 1, 0, none⟩ = some (.int .i64 k2) := by rw [cell_of_heap Hc2.out]; rfl
  have c1 : w2.cell? ⟨w.heap.size + 1 + 1, 1, none⟩ = some (.int .i64 p2) := by rw [cell_of_heap Hc2.out]; rfl
  have c2 : w2.cell? ⟨w.heap.size + 1 + 1, 2, none⟩ = some (.int .i64 q2) := by rw [cell_of_heap Hc2.out]; rfl
  have c3 : w2.cell? ⟨w.heap.size + 1 + 1, 3, none⟩ = some (.string s2) := by rw [cell_of_heap Hc2.out]; rfl
  have c4 : w2.cell? ⟨w.heap.size + 1 + 1, 4, none⟩ = some (.int .i64 r2) := by rw [cell_of_heap Hc2.out]; rfl
  go_wp2_with fail
  refine (HE.out _).mono ?_
  rintro e w3 ⟨rfl, hb⟩
  have Ha3 := Lib.hid (hkeep hb (Ha2.out))
  have Hb3 := Lib.hid (hkeep hb (Hb2.out))
  have Hc3 := Lib.hid (hkeep hb (Hc2.out))
  have HW3 := Lib.hid (below_next (HW2.out) hb)
  have hz3 := hb.size
  try simp at hz3
  clear hb
  clear hyc c0 c1 c2 c3 c4
  have SO := Lib.hid (fun (W : World) (ha : W.heap[w.heap.size]? = some (oV k1 p1 q1 s1 r1)) (hb : W.heap[w.heap.size + 1]? = some (oV kk pp qq ss rr)) (hc : W.heap[w.heap.size + 1 + 1]? = some (oV k2 p2 q2 s2 r2)) => (show W.cell? ⟨w.heap.size, 0, none⟩ = some (.int .i64 k1) ∧ W.cell? ⟨w.heap.size, 1, none⟩ = some (.int .i64 p1) ∧ W.cell? ⟨w.heap.size, 2, none⟩ = some (.int .i64 q1) ∧ W.cell? ⟨w.heap.size, 3, none⟩ = some (.string s1) ∧ W.cell? ⟨w.heap.size, 4, none⟩ = some (.int .i64 r1) ∧ W.cell? ⟨w.heap.size + 1, 0, none⟩ = some (.int .i64 kk) ∧ W.cell? ⟨w.heap.size + 1, 1, none⟩ = some (.int .i64 pp) ∧ W.cell? ⟨w.heap.size + 1, 2, none⟩ = some (.int .i64 qq) ∧ W.cell? ⟨w.heap.size + 1, 3, none⟩ = some (.string ss) ∧ W.cell? ⟨w.heap.size + 1, 4, none⟩ = some (.int .i64 rr) ∧ W.cell? ⟨w.heap.size + 1 + 1, 0, none⟩ = some (.int .i64 k2) ∧ W.cell? ⟨w.heap.size + 1 + 1, 1, none⟩ = some (.int .i64 p2) ∧ W.cell? ⟨w.heap.size + 1 + 1, 2, none⟩ = some (.int .i64 q2) ∧ W.cell? ⟨w.heap.size + 1 + 1, 3, none⟩ = some (.string s2) ∧ W.cell? ⟨w.heap.size + 1 + 1, 4, none⟩ = some (.int .i64 r2) from ⟨by rw [cell_of_heap ha]; rfl, by rw [cell_of_heap ha]; rfl, by rw [cell_of_heap ha]; rfl, by rw [cell_of_heap ha]; rfl, by rw [cell_of_heap ha]; rfl, by rw [cell_of_heap hb]; rfl, by rw [cell_of_heap hb]; rfl, by rw [cell_of_heap hb]; rfl, by rw [cell_of_heap hb]; rfl, by rw [cell_of_heap hb]; rfl, by rw [cell_of_heap hc]; rfl, by rw [cell_of_heap hc]; rfl, by rw [cell_of_heap hc]; rfl, by rw [cell_of_heap hc]; rfl, by rw [cell_of_heap hc]; rfl⟩))
  go_wp2
  have xa : w3.drew.heap[w.heap.size]? = some (oV k1 p1 q1 s1 r1) := Ha3.out
  have xb : w3.drew.heap[w.heap.size + 1]? = some (oV kk pp qq ss rr) := Hb3.out
  have xc : w3.drew.heap[w.heap.size + 1 + 1]? = some (oV k2 p2 q2 s2 r2) := Hc3.out
  have hw3 : w.heap.size ≤ w3.heap.size := HW3.out.size
  go_region_held3 (fun w' => w'.cell? ⟨w.heap.size, 0, none⟩ = some (.int .i64 k1) ∧ w'.cell? ⟨w.heap.size, 1, none⟩ = some (.int .i64 p1) ∧ w'.cell? ⟨w.heap.size, 2, none⟩ = some (.int .i64 q1) ∧ w'.cell? ⟨w.heap.size, 3, none⟩ = some (.string s1) ∧ w'.cell? ⟨w.heap.size, 4, none⟩ = some (.int .i64 r1) ∧ w'.cell? ⟨w.heap.size + 1, 0, none⟩ = some (.int .i64 kk) ∧ w'.cell? ⟨w.heap.size + 1, 1, none⟩ = some (.int .i64 pp) ∧ w'.cell? ⟨w.heap.size + 1, 2, none⟩ = some (.int .i64 qq) ∧ w'.cell? ⟨w.heap.size + 1, 3, none⟩ = some (.string ss) ∧ w'.cell? ⟨w.heap.size + 1, 4, none⟩ = some (.int .i64 rr) ∧ w'.cell? ⟨w.heap.size + 1 + 1, 0, none⟩ = some (.int .i64 k2) ∧ w'.cell? ⟨w.heap.size + 1 + 1, 1, none⟩ = some (.int .i64 p2) ∧ w'.cell? ⟨w.heap.size + 1 + 1, 2, none⟩ = some (.int .i64 q2) ∧ w'.cell? ⟨w.heap.size + 1 + 1, 3, none⟩ = some (.string s2) ∧ w'.cell? ⟨w.heap.size + 1 + 1, 4, none⟩ = some (.int .i64 r2))
    (first | with_reducible exact SO.out _ (by assumption) (by assumption) (by assumption))
    (first | (go_at_call 46; refine (HS.out _ HW3.out.drew).mono ?_; rintro e w4 ⟨rfl, m', g', sv', av', hT4, hown4, hM4⟩; have xa4 := mods_keep hM4 xa (fun e => by have := HX.out _ e; omega); have xb4 := mods_keep hM4 xb (fun e => by have := HX.out _ e; omega); have xc4 := mods_keep hM4 xc (fun e => by have := HX.out _ e; omega); have HH4 := Lib.hid (((HHH.out.below HW3.out.drew).setTab HI.out H4.out hT4 hM4 hown4)); have HM4 := Lib.hid hM4; have HO4 := Lib.hid hown4; clear hT4 hM4 hown4 xa xb xc) | (go_at_call 45; refine (HU.out _ _ HH4.out).mono ?_; rintro e w5 ⟨rfl, hH5, hM5⟩; have xa5 := mods_keep hM5 xa4 (by omega); have xb5 := mods_keep hM5 xb4 (by omega); have xc5 := mods_keep hM5 xc4 (by omega); have HH5 := Lib.hid hH5; have HM5 := Lib.hid hM5; clear hH5 hM5 xa4 xb4 xc4))
  go_wp2
  go_ret
  have hb3 : Below w.heap.size w w3.drew := HW3.out.drew
  obtain ⟨q1, q2, q3, q4⟩ := HO4.out
  exact ⟨rfl, m', g', sv', av', HH5.out, ((Mods.of_below hb3).trans (HM4.out.mono (fun k _ e => .inr (.inr (.inr ⟨x, HXM.out, .inr ⟨H4.out, e⟩⟩))))).trans (HM5.out.mono (fun k _ e => .inr (.inr (.inl e)))), ⟨q1.imp id (Nat.le_trans hb3.size), q2.imp id (Nat.le_trans hb3.size), fun b hb => (q3 b hb).imp id (Nat.le_trans hb3.size), fun b hb => (q4 b hb).imp id (Nat.le_trans hb3.size)⟩⟩
/-- The form without a great call. -/
theorem wp_region_boxes {P : Program} {Q : Exit → Act → World → Prop} {id : Nat} {l : List Oper} {a0 : Act} {w : World} {ks : List (Kd Unit)} (hm : P.follows .mixedOrders = true) (hB : freeCheck l.toArray (Region.before l.toArray) a0.tmps.size = true)
    (hw : WalkG P l.toArray (fun (_ : Option Unit) W => Below w.heap.size w W) (fun _ n => w.heap.size ≤ n) (fun _ => True) w.heap.size (Region.before l.toArray) l.length (fun _ => none) Q l [] (fun _ _ => a0) ks)
    (hK : kindsCheck ks (Region.before l.toArray) l.length l.length = true) (hL : ((Region.before l.toArray).toList.all fun x => !x.testBit l.length) = true) : (Code.region id l.toArray true).wp P Q a0 w :=
  wp_region_free _ _ _ _ _ _ (fun _ => 0) () hm hB (Below.refl _ _).drew (fun _ => by simp) (fun _ _ _ h hb => below_next h hb) (fun _ _ _ _ h hn _ _ _ ho => h.trans (Only.below ho hn h.size)) (fun _ _ _ h hn => Nat.le_trans h.size hn) (fun _ _ h => h.size) hw hK (by rw [hL]; simp)
theorem wp_region_heap {P : Program} {Q : Exit → Act → World → Prop} {id : Nat} {l : List Oper} {a0 : Act} {w : World} {X : Type} {base n : Nat} {O : Nat → Prop} {hh : Nat} {M : LH} {AA : List (List V)} (Ex : X → World → Prop) (Bl : X → Nat → Prop) (h : Nat) (x0 : X) {ks : List (Kd ((Nat → Prop) × X))}
    (hm : P.follows .mixedOrders = true) (hB : freeCheck l.toArray (Region.before l.toArray) a0.tmps.size = true) (hh2 : decide (h < l.length) = true)
    (x1 : ∀ x W W', Ex x W → Below W.heap.size W W' → Ex x W') (x2 : ∀ x W W' n, Ex x W → ¬ Bl x n → Only n W W' → Ex x W') (x3 : ∀ x W n, Ex x W → Bl x n → n < W.heap.size)
    (hw : WalkG P l.toArray (IHp base n O w hh M AA Ex) (FHp w Bl) (fun o => ¬ PB o) w.heap.size (Region.before l.toArray) h some Q l [] (fun _ _ => a0) ks)
    (hK : kindsCheck ks (Region.before l.toArray) h l.length = true) : (Code.region id l.toArray true).wp P Q a0 w := by
  refine wp_region_free (E := (Nat → Prop) × X) (IHp base n O w hh M AA Ex) (FHp w Bl) (fun o => ¬ PB o) w.heap.size h some (fun _ => 0) ((fun _ => False), x0) hm hB (Below.refl _ _).drew (fun _ => by rw [if_pos (of_decide_eq_true hh2)]) ?_ ?_ ?_ ?_ hw hK (by rw [hh2]; rfl)
  · intro oo W W' hI hb
    cases oo with
    | none => exact below_next hI hb
    | some e => exact ⟨hI.1.below hb, hI.2.1.trans (QS.of_below hb), x1 _ _ _ hI.2.2 hb⟩
  · intro oo W W' n hI hn hF hc _ ho
    obtain ⟨c, hc, hs⟩ := hc
    cases oo with
    | none => exact Below.trans hI (Only.below ho hn hI.size)
    | some e => exact ⟨hI.1.modsS hc hs hF.2.1 (Only.mods ho), hI.2.1.only hn ho, x2 _ _ _ _ hI.2.2 hF.2.2 ho⟩
  · intro oo W n hI hn
    cases oo with
    | none => exact Nat.le_trans (Below.size hI) hn
    | some e => exact ⟨Nat.le_trans hI.2.1.size hn, fun he => by have := hI.1.lt n he; omega, fun hb => by have := x3 _ _ _ hI.2.2 hb; omega⟩
  · intro oo W hI
    cases oo with
    | none => exact Below.size hI
    | some e => exact hI.2.1.size
theorem wp_region_rows {P : Program} {Q : Exit → Act → World → Prop} {id : Nat} {l : List Oper} {a0 : Act} {w : World} {X : Type} (Ex : X → World → Prop) (Bl : X → Nat → Prop) (h : Nat) (x0 : X) {ks : List (Kd X)}
    (hm : P.follows .mixedOrders = true) (hB : freeCheck l.toArray (Region.before l.toArray) a0.tmps.size = true) (hh2 : decide (h < l.length) = true)
    (x1 : ∀ x W W', Ex x W → Below W.heap.size W W' → Ex x W') (x2 : ∀ x W W' n, Ex x W → ¬ Bl x n → Only n W W' → Ex x W') (x3 : ∀ x W n, Ex x W → Bl x n → n < W.heap.size)
    (hw : WalkG P l.toArray (IRw w Ex) (FRw w Bl) (fun _ => True) w.heap.size (Region.before l.toArray) h some Q l [] (fun _ _ => a0) ks)
    (hK : kindsCheck ks (Region.before l.toArray) h l.length = true) : (Code.region id l.toArray true).wp P Q a0 w := by
  refine wp_region_free (E := X) (IRw w Ex) (FRw w Bl) (fun _ => True) w.heap.size h some (fun _ => 0) x0 hm hB (Below.refl _ _).drew (fun _ => by rw [if_pos (of_decide_eq_true hh2)]) ?_ ?_ ?_ ?_ hw hK (by rw [hh2]; rfl)
  · intro oo W W' hI hb
    cases oo with
    | none => exact below_next hI hb
    | some e => exact ⟨below_next hI.1 hb, x1 _ _ _ hI.2 hb⟩
  · intro oo W W' n hI hn hF hc _ ho
    cases oo with
    | none => exact Below.trans hI (Only.below ho hn (Below.size hI))
    | some e => exact ⟨Below.trans hI.1 (Only.below ho hn hI.1.size), x2 _ _ _ _ hI.2 hF.2 ho⟩
  · intro oo W n hI hn
    cases oo with
    | none => exact Nat.le_trans (Below.size hI) hn
    | some e => exact ⟨Nat.le_trans hI.1.size hn, fun hb => by have := x3 _ _ _ hI.2 hb; omega⟩
  · intro oo W hI
    cases oo with
    | none => exact Below.size hI
    | some e => exact hI.1.size
end Go.Proofs.YtpbcmlnjiocmoaaGreatDoorR
