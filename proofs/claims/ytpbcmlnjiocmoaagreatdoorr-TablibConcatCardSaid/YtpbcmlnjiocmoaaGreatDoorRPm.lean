import Derived.Test.YtpbcmlnjiocmoaaGreatDoorRTabB
import Derived.Shelf.Strings.BuilderK
set_option linter.unusedVariables false
set_option linter.unusedSimpArgs false
set_option maxRecDepth 100000
set_option maxHeartbeats 40000000
namespace Go.Proofs.YtpbcmlnjiocmoaaGreatDoorR
open Go.RowKit Go.Proofs.Lexi
/-- Strings, booleans that are handed in. -/
def Strs (w : World) (so : Option Addr) (l : List ByteArray) : Prop := l = [] ∨ ∃ g o, so = some ⟨g, o, none⟩ ∧ ∀ (i : Nat) s, l[i]? = some s → w.cell? ⟨g, o + i, none⟩ = some (.string s)
def Bools (w : World) (so : Option Addr) (l : List Bool) : Prop := l = [] ∨ ∃ g o, so = some ⟨g, o, none⟩ ∧ ∀ (i : Nat) b, l[i]? = some b → w.cell? ⟨g, o + i, none⟩ = some (.bool b)
theorem Strs.below {w w' : World} {so : Option Addr} {l : List ByteArray} (h : Strs w so l) (hb : Below w.heap.size w w') : Strs w' so l := by
  rcases h with h | ⟨g, o, h1, h2⟩
  · exact .inl h
  · exact .inr ⟨g, o, h1, fun i s hs => keepCell hb (h2 i s hs)⟩
theorem Bools.below {w w' : World} {so : Option Addr} {l : List Bool} (h : Bools w so l) (hb : Below w.heap.size w w') : Bools w' so l := by
  rcases h with h | ⟨g, o, h1, h2⟩
  · exact .inl h
  · exact .inr ⟨g, o, h1, fun i s hs => keepCell hb (h2 i s hs)⟩
/-- A row of values that the heap's calls leave. -/
def HeldRow (w : World) (O : Nat → Prop) (base : Nat) (sv : Value) (A : List V) : Prop := w.ownsRow base 30 5 sv A.length (rowV A) ∧ ∀ b, sv.ownBlock = some b → ¬ O b
theorem HeldRow.below {w w' : World} {O : Nat → Prop} {base : Nat} {sv : Value} {A : List V} (h : HeldRow w O base sv A) (hb : Below w.heap.size w w') : HeldRow w' O base sv A := ⟨ownsRow_ext (below_ext hb (Nat.le_refl _)) h.1, h.2⟩
theorem HeldRow.qs {bs base : Nat} {O O' : Nat → Prop} {w w' : World} {sv : Value} {A : List V} (h : HeldRow w O base sv A) (q : QS bs O w O' w') : HeldRow w' O' base sv A := by
  have hk : ∀ b, sv.ownBlock = some b → w'.heap[b]? = w.heap[b]? ∧ ¬ O' b := fun b hb => by
    obtain ⟨cs, hc⟩ := row_block h.1 hb
    have := q.keep hc (npb (by decide)) (h.2 b hb)
    exact ⟨this.1.trans hc.symm, this.2⟩
  exact ⟨ownsRow_keep h.1 (fun b hb => (hk b hb).1), fun b hb => (hk b hb).2⟩
theorem PHp.modsV {base n : Nat} {w w' : World} {h : Nat} {M : LH} {AA : List (List V)} {O : Nat → Prop} (hP : PHp base n w h M AA O) {b : Nat} {cs : Array Value} (hb : w.heap[b]? = some (.cells cs 30)) (hO : ¬ O b) (hm : Mods (fun k => k = b) w w') : PHp base n w' h M AA O := by
  obtain ⟨⟨bo, bt, H, h1, h2, h2a, h3, h4, h5⟩, h6⟩ := hP
  refine ⟨⟨bo, bt, H, h1.keepF (fun k hk => hm.block k (hp_lt h1 hk) (fun e => ?_)), h2, h2a, h3, h4, h5⟩, fun k hk => Nat.lt_of_lt_of_le (h6 k hk) hm.size⟩
  subst e
  rcases hp_pb h1 hk with ⟨o, h7, h8⟩ | ⟨y, hy, hy4, h7, _⟩
  · rw [hb] at h7
    injection h7 with h7
    subst h7
    exact npb (by decide) h8
  · exact hO (h5 y hy hy4 k h7)
theorem heap12_at {w : World} {b : Nat} {x0 x1 x2 x3 x4 x5 x6 x7 x8 x9 x10 x11 : Value} {t : TypeId} {fz : Nat × Nat} (h : w.heap[b]? = some (.cells #[x0, x1, x2, x3, x4, x5, x6, x7, x8, x9, x10, x11] t fz)) (c0 c1 c2 c3 c4 c5 c6 c7 c8 c9 c10 c11 : Value) :
    ((((((((((((w.setCell ⟨b, 0, none⟩ c0).setCell ⟨b, 1, none⟩ c1).setCell ⟨b, 2, none⟩ c2).setCell ⟨b, 3, none⟩ c3).setCell ⟨b, 4, none⟩ c4).setCell ⟨b, 5, none⟩ c5).setCell ⟨b, 6, none⟩ c6).setCell ⟨b, 7, none⟩ c7).setCell ⟨b, 8, none⟩ c8).setCell ⟨b, 9, none⟩ c9).setCell ⟨b, 10, none⟩ c10).setCell ⟨b, 11, none⟩ c11).heap[b]? = some (.cells #[c0, c1, c2, c3, c4, c5, c6, c7, c8, c9, c10, c11] t fz) := by
  have h0 := h
  have h1 : (w.setCell ⟨b, 0, none⟩ c0).heap[b]? = some (.cells #[c0, x1, x2, x3, x4, x5, x6, x7, x8, x9, x10, x11] t fz) := heap_setCell_same h0 0 c0
  have h2 : ((w.setCell ⟨b, 0, none⟩ c0).setCell ⟨b, 1, none⟩ c1).heap[b]? = some (.cells #[c0, c1, x2, x3, x4, x5, x6, x7, x8, x9, x10, x11] t fz) := heap_setCell_same h1 1 c1
  have h3 : (((w.setCell ⟨b, 0, none⟩ c0).setCell ⟨b, 1, none⟩ c1).setCell ⟨b, 2, none⟩ c2).heap[b]? = some (.cells #[c0, c1, c2, x3, x4, x5, x6, x7, x8, x9, x10, x11] t fz) := heap_setCell_same h2 2 c2
  have h4 : ((((w.setCell ⟨b, 0, none⟩ c0).setCell ⟨b, 1, none⟩ c1).setCell ⟨b, 2, none⟩ c2).setCell ⟨b, 3, none⟩ c3).heap[b]? = some (.cells #[c0, c1, c2, c3, x4, x5, x6, x7, x8, x9, x10, x11] t fz) := heap_setCell_same h3 3 c3
  have h5 : (((((w.setCell ⟨b, 0, none⟩ c0).setCell ⟨b, 1, none⟩ c1).setCell ⟨b, 2, none⟩ c2).setCell ⟨b, 3, none⟩ c3).setCell ⟨b, 4, none⟩ c4).heap[b]? = some (.cells #[c0, c1, c2, c3, c4, x5, x6, x7, x8, x9, x10, x11] t fz) := heap_setCell_same h4 4 c4
  have h6 : ((((((w.setCell ⟨b, 0, none⟩ c0).setCell ⟨b, 1, none⟩ c1).setCell ⟨b, 2, none⟩ c2).setCell ⟨b, 3, none⟩ c3).setCell ⟨b, 4, none⟩ c4).setCell ⟨b, 5, none⟩ c5).heap[b]? = some (.cells #[c0, c1, c2, c3, c4, c5, x6, x7, x8, x9, x10, x11] t fz) := heap_setCell_same h5 5 c5
  have h7 : (((((((w.setCell ⟨b, 0, none⟩ c0).setCell ⟨b, 1, none⟩ c1).setCell ⟨b, 2, none⟩ c2).setCell ⟨b, 3, none⟩ c3).setCell ⟨b, 4, none⟩ c4).setCell ⟨b, 5, none⟩ c5).setCell ⟨b, 6, none⟩ c6).heap[b]? = some (.cells #[c0, c1, c2, c3, c4, c5, c6, x7, x8, x9, x10, x11] t fz) := heap_setCell_same h6 6 c6
  have h8 : ((((((((w.setCell ⟨b, 0, none⟩ c0).setCell ⟨b, 1, none⟩ c1).setCell ⟨b, 2, none⟩ c2).setCell ⟨b, 3, none⟩ c3).setCell ⟨b, 4, none⟩ c4).setCell ⟨b, 5, none⟩ c5).setCell ⟨b, 6, none⟩ c6).setCell ⟨b, 7, none⟩ c7).heap[b]? = some (.cells #[c0, c1, c2, c3, c4, c5, c6, c7, x8, x9, x10, x11] t fz) := heap_setCell_same h7 7 c7
  have h9 : (((((((((w.setCell ⟨b, 0, none⟩ c0).setCell ⟨b, 1, none⟩ c1).setCell ⟨b, 2, none⟩ c2).setCell ⟨b, 3, none⟩ c3).setCell ⟨b, 4, none⟩ c4).setCell ⟨b, 5, none⟩ c5).setCell ⟨b, 6, none⟩ c6).setCell ⟨b, 7, none⟩ c7).setCell ⟨b, 8, none⟩ c8).heap[b]? = some (.cells #[c0, c1, c2, c3, c4, c5, c6, c7, c8, x9, x10, x11] t fz) := heap_setCell_same h8 8 c8
  have h10 : ((((((((((w.setCell ⟨b, 0, none⟩ c0).setCell ⟨b, 1, none⟩ c1).setCell ⟨b, 2, none⟩ c2).setCell ⟨b, 3, none⟩ c3).setCell ⟨b, 4, none⟩ c4).setCell ⟨b, 5, none⟩ c5).setCell ⟨b, 6, none⟩ c6).setCell ⟨b, 7, none⟩ c7).setCell ⟨b, 8, none⟩ c8).setCell ⟨b, 9, none⟩ c9).heap[b]? = some (.cells #[c0, c1, c2, c3, c4, c5, c6, c7, c8, c9, x10, x11] t fz) := heap_setCell_same h9 9 c9
  have h11 : (((((((((((w.setCell ⟨b, 0, none⟩ c0).setCell ⟨b, 1, none⟩ c1).setCell ⟨b, 2, none⟩ c2).setCell ⟨b, 3, none⟩ c3).setCell ⟨b, 4, none⟩ c4).setCell ⟨b, 5, none⟩ c5).setCell ⟨b, 6, none⟩ c6).setCell ⟨b, 7, none⟩ c7).setCell ⟨b, 8, none⟩ c8).setCell ⟨b, 9, none⟩ c9).setCell ⟨b, 10, none⟩ c10).heap[b]? = some (.cells #[c0, c1, c2, c3, c4, c5, c6, c7, c8, c9, c10, x11] t fz) := heap_setCell_same h10 10 c10
  have h12 : ((((((((((((w.setCell ⟨b, 0, none⟩ c0).setCell ⟨b, 1, none⟩ c1).setCell ⟨b, 2, none⟩ c2).setCell ⟨b, 3, none⟩ c3).setCell ⟨b, 4, none⟩ c4).setCell ⟨b, 5, none⟩ c5).setCell ⟨b, 6, none⟩ c6).setCell ⟨b, 7, none⟩ c7).setCell ⟨b, 8, none⟩ c8).setCell ⟨b, 9, none⟩ c9).setCell ⟨b, 10, none⟩ c10).setCell ⟨b, 11, none⟩ c11).heap[b]? = some (.cells #[c0, c1, c2, c3, c4, c5, c6, c7, c8, c9, c10, c11] t fz) := heap_setCell_same h11 11 c11
  exact h12
theorem infoB : (Tryz.prog.info? 74).map (·.size) = some 2 := by kernel_rfl
theorem infoByte : (Tryz.prog.info? 5).map (fun i => (i.zero, i.size, i.bytes)) = some (some (.int .u8 0), 1, 1) := by kernel_rfl
theorem liesB : liesAt Tryz.prog Tryz.prog.depth 74 (2 / Tryz.prog.cellsOf 74) 0 74 1 = true := by kernel_rfl
/-- Blocks that hold neither a Builder nor bytes are as they were. -/
def Keeps (w w' : World) : Prop := ∀ (k : Nat) (cs : Array Value) (t : TypeId) (fz : Nat × Nat), w.heap[k]? = some (Obj.cells cs t fz) → t ≠ 74 → t ≠ 5 → w'.heap[k]? = some (Obj.cells cs t fz)
theorem Keeps.setB {w w' : World} (h : Keeps w w') {b : Nat} {cs : Array Value} {fz : Nat × Nat} (hb : w'.heap[b]? = some (.cells cs 74 fz)) (o : Nat) (v : Value) : Keeps w (w'.setCell ⟨b, o, none⟩ v) := fun k cs' t fz' hk h75 h5 => by
  have h1 := h k cs' t fz' hk h75 h5
  by_cases hkb : k = b
  · subst hkb
    rw [hb] at h1
    injection h1 with h1
    injection h1 with _ h1
    exact absurd h1.symm h75
  · rw [Below.heap_setCell _ _ _ _ hkb]; exact h1
/-- What a write to a Builder leaves. -/
def WrPost (B b : Nat) (bs : List Value) (w : World) (r : Value) (e : Ending) (w' : World) : Prop := e = .returned r ∧ Lib.IsBuilder 74 5 B b bs w' ∧ Below B w w'
def WrPostK (B b : Nat) (bs : List Value) (w : World) (r : Value) (e : Ending) (w' : World) : Prop := WrPost B b bs w r e w' ∧ Keeps w w'
abbrev oCtB (h : Nat) (nm : ByteArray) (av : Value) (so1 : Option Addr) (cap1 : Nat) : Obj := .cells #[.pointer (some ⟨h, 0, none⟩), .string nm, av, .int .i64 2, .int .i64 0, .int .i64 0, .int .i64 0, .int .i64 0, .string ⟨#[]⟩, .int .i64 0, .slice so1 1 cap1, .string ⟨#[]⟩, .int .i64 1, .int .i64 0, .slice none 0 0, .bool true] 69
theorem heap16_bad {w : World} {b : Nat} {x0 x1 x2 x3 x4 x5 x6 x7 x8 x9 x10 x11 x12 x13 x14 x15 : Value} {t : TypeId} {fz : Nat × Nat} (h : w.heap[b]? = some (.cells #[x0, x1, x2, x3, x4, x5, x6, x7, x8, x9, x10, x11, x12, x13, x14, x15] t fz)) (c3 c4 c5 c6 c7 c8 c9 c10 c11 c12 c13 c14 c15 : Value) : (((((((((((((w.setCell ⟨b, 3, none⟩ c3).setCell ⟨b, 4, none⟩ c4).setCell ⟨b, 5, none⟩ c5).setCell ⟨b, 6, none⟩ c6).setCell ⟨b, 7, none⟩ c7).setCell ⟨b, 8, none⟩ c8).setCell ⟨b, 9, none⟩ c9).setCell ⟨b, 10, none⟩ c10).setCell ⟨b, 11, none⟩ c11).setCell ⟨b, 12, none⟩ c12).setCell ⟨b, 13, none⟩ c13).setCell ⟨b, 14, none⟩ c14).setCell ⟨b, 15, none⟩ c15).heap[b]? = some (.cells #[x0, x1, x2, c3, c4, c5, c6, c7, c8, c9, c10, c11, c12, c13, c14, c15] t fz) := by
  have h3 : (w.setCell ⟨b, 3, none⟩ c3).heap[b]? = some (.cells #[x0, x1, x2, c3, x4, x5, x6, x7, x8, x9, x10, x11, x12, x13, x14, x15] t fz) := heap_setCell_same h 3 c3
  have h4 : ((w.setCell ⟨b, 3, none⟩ c3).setCell ⟨b, 4, none⟩ c4).heap[b]? = some (.cells #[x0, x1, x2, c3, c4, x5, x6, x7, x8, x9, x10, x11, x12, x13, x14, x15] t fz) := heap_setCell_same h3 4 c4
  have h5 : (((w.setCell ⟨b, 3, none⟩ c3).setCell ⟨b, 4, none⟩ c4).setCell ⟨b, 5, none⟩ c5).heap[b]? = some (.cells #[x0, x1, x2, c3, c4, c5, x6, x7, x8, x9, x10, x11, x12, x13, x14, x15] t fz) := heap_setCell_same h4 5 c5
  have h6 : ((((w.setCell ⟨b, 3, none⟩ c3).setCell ⟨b, 4, none⟩ c4).setCell ⟨b, 5, none⟩ c5).setCell ⟨b, 6, none⟩ c6).heap[b]? = some (.cells #[x0, x1, x2, c3, c4, c5, c6, x7, x8, x9, x10, x11, x12, x13, x14, x15] t fz) := heap_setCell_same h5 6 c6
  have h7 : (((((w.setCell ⟨b, 3, none⟩ c3).setCell ⟨b, 4, none⟩ c4).setCell ⟨b, 5, none⟩ c5).setCell ⟨b, 6, none⟩ c6).setCell ⟨b, 7, none⟩ c7).heap[b]? = some (.cells #[x0, x1, x2, c3, c4, c5, c6, c7, x8, x9, x10, x11, x12, x13, x14, x15] t fz) := heap_setCell_same h6 7 c7
  have h8 : ((((((w.setCell ⟨b, 3, none⟩ c3).setCell ⟨b, 4, none⟩ c4).setCell ⟨b, 5, none⟩ c5).setCell ⟨b, 6, none⟩ c6).setCell ⟨b, 7, none⟩ c7).setCell ⟨b, 8, none⟩ c8).heap[b]? = some (.cells #[x0, x1, x2, c3, c4, c5, c6, c7, c8, x9, x10, x11, x12, x13, x14, x15] t fz) := heap_setCell_same h7 8 c8
  have h9 : (((((((w.setCell ⟨b, 3, none⟩ c3).setCell ⟨b, 4, none⟩ c4).setCell ⟨b, 5, none⟩ c5).setCell ⟨b, 6, none⟩ c6).setCell ⟨b, 7, none⟩ c7).setCell ⟨b, 8, none⟩ c8).setCell ⟨b, 9, none⟩ c9).heap[b]? = some (.cells #[x0, x1, x2, c3, c4, c5, c6, c7, c8, c9, x10, x11, x12, x13, x14, x15] t fz) := heap_setCell_same h8 9 c9
  have h10 : ((((((((w.setCell ⟨b, 3, none⟩ c3).setCell ⟨b, 4, none⟩ c4).setCell ⟨b, 5, none⟩ c5).setCell ⟨b, 6, none⟩ c6).setCell ⟨b, 7, none⟩ c7).setCell ⟨b, 8, none⟩ c8).setCell ⟨b, 9, none⟩ c9).setCell ⟨b, 10, none⟩ c10).heap[b]? = some (.cells #[x0, x1, x2, c3, c4, c5, c6, c7, c8, c9, c10, x11, x12, x13, x14, x15] t fz) := heap_setCell_same h9 10 c10
  have h11 : (((((((((w.setCell ⟨b, 3, none⟩ c3).setCell ⟨b, 4, none⟩ c4).setCell ⟨b, 5, none⟩ c5).setCell ⟨b, 6, none⟩ c6).setCell ⟨b, 7, none⟩ c7).setCell ⟨b, 8, none⟩ c8).setCell ⟨b, 9, none⟩ c9).setCell ⟨b, 10, none⟩ c10).setCell ⟨b, 11, none⟩ c11).heap[b]? = some (.cells #[x0, x1, x2, c3, c4, c5, c6, c7, c8, c9, c10, c11, x12, x13, x14, x15] t fz) := heap_setCell_same h10 11 c11
  have h12 : ((((((((((w.setCell ⟨b, 3, none⟩ c3).setCell ⟨b, 4, none⟩ c4).setCell ⟨b, 5, none⟩ c5).setCell ⟨b, 6, none⟩ c6).setCell ⟨b, 7, none⟩ c7).setCell ⟨b, 8, none⟩ c8).setCell ⟨b, 9, none⟩ c9).setCell ⟨b, 10, none⟩ c10).setCell ⟨b, 11, none⟩ c11).setCell ⟨b, 12, none⟩ c12).heap[b]? = some (.cells #[x0, x1, x2, c3, c4, c5, c6, c7, c8, c9, c10, c11, c12, x13, x14, x15] t fz) := heap_setCell_same h11 12 c12
  have h13 : (((((((((((w.setCell ⟨b, 3, none⟩ c3).setCell ⟨b, 4, none⟩ c4).setCell ⟨b, 5, none⟩ c5).setCell ⟨b, 6, none⟩ c6).setCell ⟨b, 7, none⟩ c7).setCell ⟨b, 8, none⟩ c8).setCell ⟨b, 9, none⟩ c9).setCell ⟨b, 10, none⟩ c10).setCell ⟨b, 11, none⟩ c11).setCell ⟨b, 12, none⟩ c12).setCell ⟨b, 13, none⟩ c13).heap[b]? = some (.cells #[x0, x1, x2, c3, c4, c5, c6, c7, c8, c9, c10, c11, c12, c13, x14, x15] t fz) := heap_setCell_same h12 13 c13
  have h14 : ((((((((((((w.setCell ⟨b, 3, none⟩ c3).setCell ⟨b, 4, none⟩ c4).setCell ⟨b, 5, none⟩ c5).setCell ⟨b, 6, none⟩ c6).setCell ⟨b, 7, none⟩ c7).setCell ⟨b, 8, none⟩ c8).setCell ⟨b, 9, none⟩ c9).setCell ⟨b, 10, none⟩ c10).setCell ⟨b, 11, none⟩ c11).setCell ⟨b, 12, none⟩ c12).setCell ⟨b, 13, none⟩ c13).setCell ⟨b, 14, none⟩ c14).heap[b]? = some (.cells #[x0, x1, x2, c3, c4, c5, c6, c7, c8, c9, c10, c11, c12, c13, c14, x15] t fz) := heap_setCell_same h13 14 c14
  have h15 : (((((((((((((w.setCell ⟨b, 3, none⟩ c3).setCell ⟨b, 4, none⟩ c4).setCell ⟨b, 5, none⟩ c5).setCell ⟨b, 6, none⟩ c6).setCell ⟨b, 7, none⟩ c7).setCell ⟨b, 8, none⟩ c8).setCell ⟨b, 9, none⟩ c9).setCell ⟨b, 10, none⟩ c10).setCell ⟨b, 11, none⟩ c11).setCell ⟨b, 12, none⟩ c12).setCell ⟨b, 13, none⟩ c13).setCell ⟨b, 14, none⟩ c14).setCell ⟨b, 15, none⟩ c15).heap[b]? = some (.cells #[x0, x1, x2, c3, c4, c5, c6, c7, c8, c9, c10, c11, c12, c13, c14, c15] t fz) := heap_setCell_same h14 15 c15
  exact h15
theorem mods_13 {F : Nat → Prop} {a w : World} (h : Mods F a w) {b : Nat} (hb : F b ∨ a.heap.size ≤ b) (c3 c4 c5 c6 c7 c8 c9 c10 c11 c12 c13 c14 c15 : Value) : Mods F a (((((((((((((w.setCell ⟨b, 3, none⟩ c3).setCell ⟨b, 4, none⟩ c4).setCell ⟨b, 5, none⟩ c5).setCell ⟨b, 6, none⟩ c6).setCell ⟨b, 7, none⟩ c7).setCell ⟨b, 8, none⟩ c8).setCell ⟨b, 9, none⟩ c9).setCell ⟨b, 10, none⟩ c10).setCell ⟨b, 11, none⟩ c11).setCell ⟨b, 12, none⟩ c12).setCell ⟨b, 13, none⟩ c13).setCell ⟨b, 14, none⟩ c14).setCell ⟨b, 15, none⟩ c15) := by
  exact mods_setCell (mods_setCell (mods_setCell (mods_setCell (mods_setCell (mods_setCell (mods_setCell (mods_setCell (mods_setCell (mods_setCell (mods_setCell (mods_setCell (mods_setCell (h) hb c3) hb c4) hb c5) hb c6) hb c7) hb c8) hb c9) hb c10) hb c11) hb c12) hb c13) hb c14) hb c15
theorem row_13 {w : World} {base : Nat} {e : TypeId} {size n : Nat} {v : Value} {xs : List Value} (ho : w.ownsRow base e size v n xs) {b : Nat} (hb : v.ownBlock ≠ some b) (c3 c4 c5 c6 c7 c8 c9 c10 c11 c12 c13 c14 c15 : Value) : (((((((((((((w.setCell ⟨b, 3, none⟩ c3).setCell ⟨b, 4, none⟩ c4).setCell ⟨b, 5, none⟩ c5).setCell ⟨b, 6, none⟩ c6).setCell ⟨b, 7, none⟩ c7).setCell ⟨b, 8, none⟩ c8).setCell ⟨b, 9, none⟩ c9).setCell ⟨b, 10, none⟩ c10).setCell ⟨b, 11, none⟩ c11).setCell ⟨b, 12, none⟩ c12).setCell ⟨b, 13, none⟩ c13).setCell ⟨b, 14, none⟩ c14).setCell ⟨b, 15, none⟩ c15).ownsRow base e size v n xs := by
  have h : ∀ j, v.ownBlock ≠ some (⟨b, j, none⟩ : Addr).block := fun _ => hb
  exact ownsRow_set (ownsRow_set (ownsRow_set (ownsRow_set (ownsRow_set (ownsRow_set (ownsRow_set (ownsRow_set (ownsRow_set (ownsRow_set (ownsRow_set (ownsRow_set (ownsRow_set (ho) (h _) c3) (h _) c4) (h _) c5) (h _) c6) (h _) c7) (h _) c8) (h _) c9) (h _) c10) (h _) c11) (h _) c12) (h _) c13) (h _) c14) (h _) c15
theorem bld_keep {T e : TypeId} {B b : Nat} {bs : List Value} {w w' : World} (h : Lib.IsBuilder T e B b bs w) (hk : ∀ g, B ≤ g → g < w.heap.size → w'.heap[g]? = w.heap[g]?) : Lib.IsBuilder T e B b bs w' := by
  rcases h with ⟨hB, v, hb, ho, hne⟩ | ⟨hB, v, hb, ho, hne⟩
  · exact .inl ⟨hB, v, (hk b hB (Array.getElem?_eq_some_iff.1 hb).1).trans hb, ownsRow_keep ho (fun g hg => hk g (ownBlock_lt ho hg).1 (ownBlock_lt ho hg).2), hne⟩
  · exact .inr ⟨hB, v, (hk b hB (Array.getElem?_eq_some_iff.1 hb).1).trans hb, ownsRow_keep ho (fun g hg => hk g (ownBlock_lt ho hg).1 (ownBlock_lt ho hg).2), hne⟩
theorem bld_below {T e : TypeId} {B b : Nat} {bs : List Value} {w w' : World} (h : Lib.IsBuilder T e B b bs w) (hb : Below w.heap.size w w') : Lib.IsBuilder T e B b bs w' := bld_keep h (fun g _ hg => hb.block g hg)
theorem mods_bel {F : Nat → Prop} {B : Nat} {w W W' : World} (hm : Mods F w W) (hb : Below B W W') (hB : w.heap.size ≤ B) : Mods F w W' := ⟨hb.os.trans hm.os, hb.tape.trans hm.tape, hb.output.trans hm.output, Nat.le_trans hm.size hb.size, fun k hk hF => (hb.block k (Nat.lt_of_lt_of_le hk hB)).trans (hm.block k hk hF)⟩
theorem below_bel {B : Nat} {w W W' : World} (hm : Below w.heap.size w W) (hb : Below B W W') (hB : w.heap.size ≤ B) : Below w.heap.size w W' := ⟨hb.os.trans hm.os, hb.tape.trans hm.tape, hb.output.trans hm.output, Nat.le_trans hm.size hb.size, fun k hk => (hb.block k (Nat.lt_of_lt_of_le hk hB)).trans (hm.block k hk)⟩
theorem bkeep {B : Nat} {W W' : World} (hb : Below B W W') {b : Nat} {o : Obj} (h : W.heap[b]? = some o) (hB : b < B) : W'.heap[b]? = some o := (hb.block b hB).trans h
def FailedC (w : World) (c h : Nat) (nm : ByteArray) (av : Value) (t : ByteArray) (e : Ending) (w' : World) : Prop := e = .returned (.tuple #[]) ∧ ∃ so cap, w'.heap[c]? = some (oCtB h nm av so cap) ∧ w'.ownsRow w.heap.size 30 5 (.slice so 1 cap) 1 (rowV [strV t]) ∧ Mods (fun k => k = c) w w'
/-- The text of a value. -/
def txt (v : V) : ByteArray := sS (strOf v)
def conP (A : List V) (sep : ByteArray) (i : Nat) : List UInt8 := Lib.join ((A.take i).map (fun v => (txt v).data.toList)) sep.data.toList
theorem joinK_snoc (l : List (List UInt8)) (x sep : List UInt8) : Lib.join (l ++ [x]) sep = if l = [] then x else Lib.join l sep ++ sep ++ x := by
  cases l with
  | nil => simp [Lib.join_cons, Lib.joinTail]
  | cons y l => simp [Lib.join_cons, Lib.joinTail]
theorem conP_zero (A : List V) (sep : ByteArray) : conP A sep 0 = [] := rfl
theorem conP_succ {A : List V} {sep : ByteArray} {i : Nat} {v : V} (hv : A[i]? = some v) : conP A sep (i + 1) = if i = 0 then (txt v).data.toList else conP A sep i ++ sep.data.toList ++ (txt v).data.toList := by
  unfold conP
  rw [List.take_add_one, hv]
  simp only [Option.toList_some, List.map_append, List.map_cons, List.map_nil]
  rw [joinK_snoc]
  have hl : i < A.length := (List.getElem?_eq_some_iff.1 hv).1
  by_cases h : i = 0
  · subst h
    simp
  · rw [if_neg h, if_neg]
    intro e
    have := congrArg List.length e
    rw [List.length_map, List.length_take, List.length_nil] at this
    omega
theorem conP_len_le {A : List V} {sep : ByteArray} (i : Nat) : ∀ d, i + d ≤ A.length → (conP A sep i).length ≤ (conP A sep (i + d)).length
  | 0, _ => Nat.le_refl _
  | d + 1, h => by
    refine Nat.le_trans (conP_len_le i d (by omega)) ?_
    show _ ≤ (conP A sep (i + d + 1)).length
    rw [conP_succ (List.getElem?_eq_getElem (show i + d < A.length by omega))]
    split
    · rename_i h0
      have e : (conP A sep (i + d)).length = 0 := by rw [h0]; rfl
      omega
    · simp only [List.length_append]; omega
theorem bStr_k (B b : Nat) (l : List UInt8) (w : World) (h : Lib.IsBuilder 74 5 B b (Lib.byteCells l) w) (h0 : l ≠ []) : Calls Tryz.prog 35 #[.pointer (some ⟨b, 0, none⟩)] w (fun e w' => e = .returned (.string ⟨l.toArray⟩) ∧ Below B w w' ∧ Lib.OthersKept 5 (some b) w w') :=
  (Go.Proofs.Any.Builder_String_k Tryz.lays169 Tryz.Builder_Extra_169 B b l w (Lib.IsBuilderF.of h) h0).mono fun _ _ h => ⟨h.1, h.2.2.1, h.2.2.2⟩
theorem row_others {w w' : World} {B B2 b n : Nat} {v : Value} {xs bs : List Value} (ho : w.ownsRow B 30 5 v n xs) (hk : Lib.OthersKept 5 (some b) w w') (hB : Lib.IsBuilder 74 5 B2 b bs w) : w'.ownsRow B 30 5 v n xs := by
  obtain ⟨cs, hb⟩ : ∃ cs, w.heap[b]? = some (.cells cs 74 (0, 0)) := by
    rcases hB with ⟨_, v, hb, _⟩ | ⟨_, v, hb, _⟩
    · exact ⟨_, hb⟩
    · exact ⟨_, hb⟩
  refine ownsRow_keep ho (fun g hg => ?_)
  obtain ⟨cs', hc⟩ := row_block ho hg
  rw [hc]
  refine hk g _ hc (fun e => ?_) (fun c fz e => ?_)
  · injection e with e
    subst e
    rw [hb] at hc
    injection hc with hc
    injection hc with _ hc
    exact absurd hc (by decide)
  · injection e with _ e
    exact absurd e (by decide)
/-- What concat gives. -/
def conK (S : List UInt8) : Int := if S.length ≤ 4096 then 1 else 2
def conA (S : List UInt8) : List V := if S.length ≤ 4096 then [strV ⟨S.toArray⟩] else [strV tooLong]
def conL (S : List UInt8) : Int := if S.length ≤ 4096 then 0 else 1
/-- Where concat's loop is. -/
def ConR (w : World) (c h : Nat) (nm : ByteArray) (av : Value) (ti b3 b9 : Nat) (P : List UInt8) (wr : World) : Prop :=
  wr.heap[w.heap.size]? = some oAc ∧ wr.heap[b3]? = some (oV 4 0 0 ⟨#[]⟩ ((ti : Int) + 1)) ∧ Lib.IsBuilder 74 5 b9 b9 (Lib.byteCells P) wr ∧ b9 ≤ wr.heap.size ∧
  ((Below w.heap.size w wr ∧ P.length ≤ 4096) ∨ (∃ so cap, wr.heap[c]? = some (oCtB h nm av so cap) ∧ wr.ownsRow (w.heap.size + 1) 30 5 (.slice so 1 cap) 1 (rowV [strV tooLong]) ∧ Mods (fun k => k = c) w wr ∧ 4096 < P.length))
theorem qs_mods {base : Nat} {O O' : Nat → Prop} {a w w' : World} (h : QS base O a O' w) {b : Nat} (hb : a.heap.size ≤ b) (hm : Mods (fun k => k = b) w w') : QS base O a O' w' :=
  ⟨⟨hm.os.trans h.1.os, hm.tape.trans h.1.tape, hm.output.trans h.1.output, Nat.le_trans h.1.size hm.size, fun i hi hF => (hm.block i (Nat.lt_of_lt_of_le hi h.1.size) (fun e => by omega)).trans (h.1.block i hi hF)⟩, h.2⟩
/-- Where list's loop is. -/
def LstR (base n : Nat) (h : Nat) (M : LH) (AA : List (List V)) (A : List V) (O : Nat → Prop) (w : World) (g b6 : Nat) (cs : Array Value) (i : Nat) (wr : World) : Prop :=
  ∃ O', PHp base (n + i) wr h (M ++ [⟨4, V.nil, []⟩]) (AA ++ [A.take i]) O' ∧ QS base O w O' wr ∧ Held wr O' w.heap.size (oV 0 0 0 ⟨#[]⟩ 0) ∧ Held wr O' b6 (oV 4 0 0 ⟨#[]⟩ ((M.length : Int) + 1)) ∧ (A = [] ∨ Held wr O' g (.cells cs 30))
theorem two_vals {W : World} {m : Nat} {a b : V} (h : W.heap[m]? = some (.cells #[.int .i64 a.k, .int .i64 a.p, .int .i64 a.q, .string a.s, .int .i64 a.r, .int .i64 b.k, .int .i64 b.p, .int .i64 b.q, .string b.s, .int .i64 b.r] 30)) : Vals W (.slice (some ⟨m, 0, none⟩) 2 2) [a, b] := by
  have hr : W.ownsRow 0 30 5 (.slice (some ⟨m, 0, none⟩) [a, b].length 2) [a, b].length (rowV [a, b]) := ⟨rfl, .inr ⟨m, 2, _, rfl, Nat.zero_le _, h, Nat.le_refl _, by unfold maxLen; omega, rfl, rfl⟩⟩
  exact Vals.of_row hr
theorem row_one {w : World} {B cap : Nat} {so : Option Addr} {v : V} (h : w.ownsRow B 30 5 (.slice so 1 cap) 1 (rowV [v])) : ∃ g, so = some ⟨g, 0, none⟩ ∧ g < w.heap.size ∧ 1 ≤ cap ∧ ∀ W, Below w.heap.size w W → W.cell? ⟨g, 0, none⟩ = some (.int .i64 v.k) ∧ W.cell? ⟨g, 1, none⟩ = some (.int .i64 v.p) ∧ W.cell? ⟨g, 2, none⟩ = some (.int .i64 v.q) ∧ W.cell? ⟨g, 3, none⟩ = some (.string v.s) ∧ W.cell? ⟨g, 4, none⟩ = some (.int .i64 v.r) := by
  have hv : Vals w (.slice so 1 cap) [v] := Vals.of_row (A := [v]) h
  rcases h.2 with ⟨e, e2⟩ | ⟨g, cap', cur, e, _, hg, hc, _⟩
  · exact absurd e2 (by decide)
  · injection e with e1 _ e2
    subst e1 e2
    refine ⟨g, rfl, (Array.getElem?_eq_some_iff.1 hg).1, hc, fun W hb => ?_⟩
    have := Vals.at_ (Vals.below hv hb) (i := 0) (v := v) rfl
    simpa using this.2
def oneL : List V := [⟨2, 1, 1, ⟨#[]⟩, 0⟩, ⟨2, 2, 1, ⟨#[]⟩, 0⟩, ⟨2, 3, 1, ⟨#[]⟩, 0⟩]
theorem oneL_ok : ∀ v ∈ oneL, v.k ≠ 0 ∧ validV v = true ∧ WfV v := by
  intro v hv
  simp only [oneL, List.mem_cons, List.not_mem_nil, or_false] at hv
  rcases hv with rfl | rfl | rfl <;> exact ⟨by decide, by kernel_rfl, ⟨by decide, by decide⟩, ⟨by decide, by decide⟩, ⟨by decide, by decide⟩, by decide, ⟨by decide, by decide⟩⟩
theorem oneL_txt : ∀ v ∈ oneL, sE (strOf v) = 0 ∧ (txt v).size ≤ 4096 := by
  intro v hv
  simp only [oneL, List.mem_cons, List.not_mem_nil, or_false] at hv
  rcases hv with rfl | rfl | rfl <;> exact ⟨by kernel_rfl, of_decide_eq_true (by kernel_rfl)⟩
theorem oneL_con : [49, 45, 50, 45, 51] = conP oneL ⟨#[45]⟩ oneL.length := by kernel_rfl
theorem prjK5 {c0 c1 c2 c3 c4 p : Prop} (h : c0 ∧ c1 ∧ c2 ∧ c3 ∧ c4 ∧ Hid p) : p := (h.2.2.2.2.2).out
theorem prjK7 {c0 c1 c2 c3 c4 c5 c6 p : Prop} (h : c0 ∧ c1 ∧ c2 ∧ c3 ∧ c4 ∧ c5 ∧ c6 ∧ Hid p) : p := (h.2.2.2.2.2.2.2).out
theorem txt_str (s : ByteArray) : txt (strV s) = s := rfl
theorem str_ok {l : List ByteArray} (h : ∀ s ∈ l, s.size ≤ 500) : ∀ v ∈ l.map strV, v.k ≠ 0 ∧ validV v = true ∧ WfV v := by
  intro v hv
  obtain ⟨s, hs, rfl⟩ := List.mem_map.1 hv
  exact ⟨(by decide : (3 : Int) ≠ 0), valid_str (by have := h s hs; omega), wf_str (by have := h s hs; omega)⟩
theorem str_txts {l : List ByteArray} (h : ∀ s ∈ l, s.size ≤ 500) : ∀ v ∈ l.map strV, sE (strOf v) = 0 ∧ (txt v).size ≤ 4096 := by
  intro v hv
  obtain ⟨s, hs, rfl⟩ := List.mem_map.1 hv
  exact ⟨rfl, by rw [txt_str]; have := h s hs; omega⟩
def joinB (l : List ByteArray) (sep : ByteArray) : ByteArray := ⟨(Lib.join (l.map (·.data.toList)) sep.data.toList).toArray⟩
theorem joinB_con (l : List ByteArray) (sep : ByteArray) : (joinB l sep).data.toList = conP (l.map strV) sep (l.map strV).length := by
  unfold joinB conP
  rw [List.take_length, List.map_map]
  rfl
theorem joinB_len {l : List ByteArray} {sep : ByteArray} (hl : l.length ≤ 60) (hs : ∀ s ∈ l, s.size ≤ 500) (hsep : sep.size ≤ 100) : (Lib.join (l.map (·.data.toList)) sep.data.toList).length ≤ 36000 := by
  have := join_len (l.map (·.data.toList)) sep.data.toList 500 (fun x hx => by
    obtain ⟨y, hy, rfl⟩ := List.mem_map.1 hx
    rw [size_data]
    exact hs y hy)
  rw [List.length_map] at this
  have h2 : l.length * (500 + sep.data.toList.length) ≤ 60 * 600 := Nat.mul_le_mul hl (by rw [size_data]; omega)
  omega
theorem ofData (X : ByteArray) : (⟨X.data.toList.toArray⟩ : ByteArray) = X := by
  cases X
  simp
/-- Where the law's loop is. -/
def LwR (w1 : World) (l : List ByteArray) (i : Nat) (sv : Value) (wr : World) : Prop :=
  wr.ownsRow w1.heap.size 30 5 sv i (rowV ((l.map strV).take i)) ∧ Below w1.heap.size w1 wr ∧ ∀ s ∈ l.take i, s.size ≤ 500
end Go.Proofs.YtpbcmlnjiocmoaaGreatDoorR
namespace Go.Proofs.YtpbcmlnjiocmoaaGreatDoorR
open Go.ChangeShapes Go.WideShapes Go.ChangeAt Go.WideMaps Go.WideElems Go.RowKit
set_option maxRecDepth 100000 in
theorem open_ones {α : Type} {H : Type} {enc : TypeId × Value → H} {w : World} {b0 : Nat} {sp : Nat → Bool} {v : Value} {d : DataW H} {ps : List MemPlace} (tl e : TypeId) (mk : α → Value) (under : Tryz.prog.underlying tl = some (.slice e)) (hc1 : Tryz.prog.cellsOf e = 1)
    (hone : ∀ {base : Nat} {sp : Nat → Bool} {held : Bool} {fuel : Nat} {cs : List Value} {x : DataW H × List MemPlace}, DataW.trod enc Tryz.prog w base sp held fuel e cs = some x → ∃ a, cs = [mk a]) (hval : Value.okWide Tryz.prog w .any b0 tl v) (h : DataW.Trod enc Tryz.prog w 0 sp true tl v d ps) :
    ∃ (l : List α) (so : Option Addr) (cap : Nat), v = .slice so l.length cap ∧ l.length ≤ cap ∧ (l = [] ∨ ∃ g o, so = some ⟨g, o, none⟩ ∧ ∀ (i : Nat) a, l[i]? = some a → w.cell? ⟨g, o + i, none⟩ = some (mk a)) := by
  obtain ⟨a0, l0, c0, rfl⟩ := okWide_slice under hval
  obtain ⟨fuel, h⟩ := h
  rcases DataW.trod_slice under h with ⟨e1, _⟩ | ⟨ad, len, cap, elems, rest, m, _, e1, _, _, hlc, _, hel, hin, _⟩
  · simp [Value.cells] at e1
    obtain ⟨rfl, rfl, rfl⟩ := e1
    exact ⟨[], none, 0, rfl, Nat.le_refl _, .inl rfl⟩
  · simp [Value.cells] at e1
    obtain ⟨rfl, rfl, rfl⟩ := e1
    have hall : ∀ i : Fin l0, ∃ x : α, w.cell? (ad.add i.1) = some (mk x) := by
      intro ⟨i, hi⟩
      have h0 := hin i hi
      rw [List.getElem?_eq_getElem (by omega), Option.bind_eq_some_iff, hc1] at h0
      obtain ⟨cs, hc, ht⟩ := h0
      obtain ⟨x, rfl⟩ := hone ht
      obtain ⟨_, _, hcell⟩ := World.cells?_some hc
      refine ⟨x, ?_⟩
      have := hcell 0 (by simp)
      rw [Nat.mul_one, add_two, Nat.add_zero] at this
      simpa using this
    obtain ⟨f, hf⟩ := Classical.axiomOfChoice hall
    have hlen : (List.ofFn f).length = l0 := List.length_ofFn
    refine ⟨List.ofFn f, some ad, c0, by rw [hlen], by rw [hlen]; exact hlc, ?_⟩
    rcases Nat.eq_zero_or_pos l0 with hz | hz
    · exact .inl (List.eq_nil_of_length_eq_zero (by rw [hlen]; exact hz))
    · have e0 := hf ⟨0, hz⟩
      obtain ⟨g, o, spot⟩ := ad
      have hspot : spot = none := by simpa [Addr.add] using World.cell?_spot e0
      subst hspot
      refine .inr ⟨g, o, rfl, fun i a hi => ?_⟩
      have hlt : i < l0 := by rw [← hlen]; exact (List.getElem?_eq_some_iff.1 hi).1
      rw [List.getElem?_ofFn, dif_pos hlt] at hi
      injection hi with hi
      subst hi
      have := hf ⟨i, hlt⟩
      rw [add_none] at this
      exact this
set_option maxRecDepth 100000 in
theorem open_strs {H : Type} {enc : TypeId × Value → H} {w : World} {b0 : Nat} {sp : Nat → Bool} {v : Value} {d : DataW H} {ps : List MemPlace} (hval : Value.okWide Tryz.prog w .any b0 22 v) (h : DataW.Trod enc Tryz.prog w 0 sp true 22 v d ps) :
    ∃ (l : List ByteArray) (so : Option Addr) (cap : Nat), v = .slice so l.length cap ∧ l.length ≤ cap ∧ (l = [] ∨ ∃ g o, so = some ⟨g, o, none⟩ ∧ ∀ (i : Nat) a, l[i]? = some a → w.cell? ⟨g, o + i, none⟩ = some (.string a)) :=
  open_ones 22 9 .string Tryz.underlying22 (by kernel_rfl) (fun h => by obtain ⟨s, hs, _, _⟩ := DataW.trod_string Tryz.underlying9 h; exact ⟨s, hs⟩) hval h
end Go.Proofs.YtpbcmlnjiocmoaaGreatDoorR
namespace Go.Proofs.YtpbcmlnjiocmoaaGreatDoorR
open Go.RowKit Go.Proofs.Lexi
set_option maxRecDepth 100000 in
set_option maxHeartbeats 2000000 in
theorem pomGet_c (w : World) (m g : Nat) (sv : Value) (L : List Sl) (hO : OMap w m g sv L) (hL : L.length ≤ 1000) (k p q : Int) (s : ByteArray) (r : Int) (hk : WfV ⟨k, p, q, s, r⟩) :
    Calls Tryz.prog 78 #[.pointer (some ⟨m, 0, none⟩), .agg #[.int .i64 k, .int .i64 p, .int .i64 q, .string s, .int .i64 r]] w (ValPost w (getM L ⟨k, p, q, s, r⟩)) := by
  obtain ⟨hm, hrow, _, E, f, hE, hG, hI⟩ := hO
  have hlt : m < w.heap.size := (Array.getElem?_eq_some_iff.1 hm).1
  have hgl := hE.lt
  have HM := Lib.hid (heap2_old hm (oV k p q s r) (oV 0 0 0 ⟨#[]⟩ 0))
  have m1 : ((w.alloc (.cells #[.int .i64 k, .int .i64 p, .int .i64 q, .string s, .int .i64 r] 30)).alloc (.cells #[.int .i64 0, .int .i64 0, .int .i64 0, .string ⟨#[]⟩, .int .i64 0] 30)).cell? ⟨m, 1, none⟩ = some (.map (some g)) := by rw [cell_of_heap HM.out]; rfl
  have W0k : ∀ W, Below w.heap.size w W → W.heap[g]? = w.heap[g]? := fun W h => h.block g hgl
  have hways : (f ⟨k, p, q, s, r⟩ = none ∧ ∀ W, W.heap[g]? = w.heap[g]? → (Instr.lookup 142 (.map (some g)) (.agg #[.int .i64 k, .int .i64 p, .int .i64 q, .string s, .int .i64 r]) true).run Tryz.prog W = .ok (.tuple #[.int .i64 0, .bool false]) W) ∨
      ∃ n : Nat, f ⟨k, p, q, s, r⟩ = some n ∧ ∀ W, W.heap[g]? = w.heap[g]? → (Instr.lookup 142 (.map (some g)) (.agg #[.int .i64 k, .int .i64 p, .int .i64 q, .string s, .int .i64 r]) true).run Tryz.prog W = .ok (.tuple #[.int .i64 (n : Int), .bool true]) W := by
    rcases look_at hE hG hk w rfl with ⟨h1, _⟩ | ⟨n, h1, _⟩
    · refine .inl ⟨h1, fun W hW => ?_⟩
      rcases look_at hE hG hk W hW with ⟨_, h2⟩ | ⟨n, h2, _⟩
      · exact h2
      · rw [h1] at h2; cases h2
    · refine .inr ⟨n, h1, fun W hW => ?_⟩
      rcases look_at hE hG hk W hW with ⟨h2, _⟩ | ⟨n2, h2, h3⟩
      · rw [h1] at h2; cases h2
      · rw [h1] at h2; injection h2 with h2; subst h2; exact h3
  have WK := Lib.hid W0k
  clear W0k
  have key : ∀ W : World, W.heap = ((w.alloc (.cells #[.int .i64 k, .int .i64 p, .int .i64 q, .string s, .int .i64 r] 30)).alloc (.cells #[.int .i64 0, .int .i64 0, .int .i64 0, .string ⟨#[]⟩, .int .i64 0] 30)).heap → W.heap[g]? = w.heap[g]? := fun W h => by rw [h]; exact (below2w w _ _).block g hgl
  have KEY := Lib.hid key
  clear key
  rcases hways with ⟨hf, hlk⟩ | ⟨n, hf, hlk⟩
  · have HR := Lib.hid (hI.get_miss hf)
    have HLK := Lib.hid hlk
    clear hf hlk hI hG hE hrow
    go_enter Tryz.func78, Tryz.ntmps78
    go_wp2
    refine wp_region_lex mixed (by kernel_rfl) ?_
    go_wp2_with (at_lookup; refine wpList_look_map _ rfl _ _ _ _ rfl _ _ _ rfl rfl (HLK.out _ (KEY.out _ rfl)) ?_)
    refine ⟨by kernel_rfl, ?_⟩
    go_wp2
    refine bodyPost_ret (by simp [results, Tryz.results78, go_sem]; first | done | rfl) rfl ?_
    exact val_done HR.out (by first | exact (below2w _ _ _).drew | exact below2w _ _ _ | exact bdn (below2w _ _ _) _)
  · obtain ⟨sl, hsl, hsk⟩ := hI.key _ _ hf
    have hnl : n < L.length := (List.getElem?_eq_some_iff.1 hsl).1
    have HR := Lib.hid (hI.get_at hf hsl)
    have hrow2 := ownsRow_ext (below_ext (below2w w (oV k p q s r) (oV 0 0 0 ⟨#[]⟩ 0)) (Nat.le_refl _)) hrow
    obtain ⟨rb, cap, rfl⟩ := slice_shape hrow (by omega)
    have cellf : ∀ j u, j < 11 → (slCells sl)[j]? = some u → ((w.alloc (.cells #[.int .i64 k, .int .i64 p, .int .i64 q, .string s, .int .i64 r] 30)).alloc (.cells #[.int .i64 0, .int .i64 0, .int .i64 0, .string ⟨#[]⟩, .int .i64 0] 30)).cell? ⟨rb, n * 11 + j, none⟩ = some u := fun j u hj hu =>
      (hrow2.cellAt (n * 11 + j) (by omega)).trans ((rowSl_at L n j sl hsl hj).trans hu)
    have v0 := cellf 5 _ (by decide) rfl
    have v1 := cellf 6 _ (by decide) rfl
    have v2 := cellf 7 _ (by decide) rfl
    have v3 := cellf 8 _ (by decide) rfl
    have v4 := cellf 9 _ (by decide) rfl
    have m0 : ((w.alloc (.cells #[.int .i64 k, .int .i64 p, .int .i64 q, .string s, .int .i64 r] 30)).alloc (.cells #[.int .i64 0, .int .i64 0, .int .i64 0, .string ⟨#[]⟩, .int .i64 0] 30)).cell? ⟨m, 0, none⟩ = some (.slice (some ⟨rb, 0, none⟩) L.length cap) := by rw [cell_of_heap HM.out]; rfl
    have HLK := Lib.hid hlk
    clear hf hlk hI hG hE hrow hsl hsk cellf hrow2
    go_enter Tryz.func78, Tryz.ntmps78
    go_wp2
    refine wp_region_lex mixed (by kernel_rfl) ?_
    go_wp2_with (at_lookup; refine wpList_look_map _ rfl _ _ _ _ rfl _ _ _ rfl rfl (HLK.out _ (KEY.out _ rfl)) ?_)
    refine ⟨by kernel_rfl, ?_⟩
    go_wp2
    refine bodyPost_ret (by simp [results, Tryz.results78, go_sem]; first | done | rfl) rfl ?_
    exact val_done HR.out (by first | exact (below2w _ _ _).drew | exact below2w _ _ _ | exact below_five (below2w _ _ _).drew (by simp <;> omega) _ _ _ _ _ | exact below_five (below2w _ _ _) (by simp <;> omega) _ _ _ _ _)
set_option maxRecDepth 100000 in
set_option maxHeartbeats 2000000 in
theorem twGet_in (w : World) (t m g : Nat) (sv : Value) (L : List Sl) (av : Value) (A : List V) (hT : TabW w t m g sv L av A) (hl : A.length ≤ 100000) (i : Nat) (v : V) (hi : A[i]? = some v) (x : Int) (hx : x = (i : Int) + 1) (s : ByteArray) (r : Int) (hk : validV ⟨2, x, 1, s, r⟩ = true) :
    Calls Tryz.prog 40 #[.pointer (some ⟨t, 0, none⟩), .agg #[.int .i64 2, .int .i64 x, .int .i64 1, .string s, .int .i64 r]] w (ValPost w v) := by
  subst hx
  obtain ⟨ht, hrow, _, _⟩ := hT
  have hlt : i < A.length := (List.getElem?_eq_some_iff.1 hi).1
  obtain ⟨ga, cap, rfl, hga, hcap⟩ := listW_some hrow (fun h => by rw [h] at hlt; simp at hlt)
  have HV := Lib.hid (fun W => (show Calls Tryz.prog 43 #[.agg #[.int .i64 2, .int .i64 ((i : Int) + 1), .int .i64 1, .string s, .int .i64 r]] W (BoolPost W true) from by have h := pvalidV_c W 2 ((i : Int) + 1) 1 s r; rw [hk] at h; exact h))
  have HI := Lib.hid (fun W => (show Calls Tryz.prog 77 #[.agg #[.int .i64 2, .int .i64 ((i : Int) + 1), .int .i64 1, .string s, .int .i64 r]] W (IntBool W ((i : Int) + 1) true) from by have h := tint_c W 2 ((i : Int) + 1) 1 s r; rw [show intB ⟨2, (i : Int) + 1, 1, s, r⟩ = true from by unfold intB; rw [hk]; rfl] at h; exact h))
  have HT := Lib.hid (ht)
  have HR := Lib.hid (hrow)
  have HIV := Lib.hid (hi)
  have htl : t < w.heap.size := (Array.getElem?_eq_some_iff.1 ht).1
  have d1 : decide (((i : Int) + 1) ≥ 1) = true := decide_eq_true (by omega)
  have d2 : decide (((i : Int) + 1) ≤ (A.length : Int)) = true := decide_eq_true (by omega)
  have d3 : (i : Int) < (A.length : Int) := by omega
  clear ht hrow hi hk
  go_enter Tryz.func40, Tryz.ntmps40
  go_wp2_with fail
  refine (HV.out _).mono ?_
  rintro e w1 ⟨rfl, hb⟩
  have Ha1 := Lib.hid (hkeep hb (heap2_a w (oV 2 ((i : Int) + 1) 1 s r) (oV 0 0 0 ⟨#[]⟩ 0)))
  have Hb1 := Lib.hid (hkeep hb (heap2_b w (oV 2 ((i : Int) + 1) 1 s r) (oV 0 0 0 ⟨#[]⟩ 0)))
  have HW1 := Lib.hid (below_next (below2w _ _ _) hb)
  clear hb
  obtain ⟨a0, a1, a2, a3, a4⟩ := cells5 Ha1.out
  obtain ⟨fa0, fa1, fa2, fa3, fa4⟩ := froz5 Ha1.out
  go_wp2_with fail
  refine (HI.out _).mono ?_
  rintro e w2 ⟨rfl, hb⟩
  have Hb2 := Lib.hid (hkeep hb Hb1.out)
  have HW2 := Lib.hid (below_next HW1.out hb)
  clear hb a0 a1 a2 a3 a4 fa0 fa1 fa2 fa3 fa4
  have t0 : w2.cell? ⟨t, 0, none⟩ = some (.slice (some ⟨ga, 0, none⟩) A.length cap) := by rw [cell_of_heap (hkeep HW2.out HT.out)]; rfl
  obtain ⟨c0, c1, c2, c3, c4⟩ := listW_five (listW_below HR.out HW2.out) HIV.out
  have hz2 := HW2.out.size
  have hya : w.heap.size + 1 < w2.heap.size := (Array.getElem?_eq_some_iff.1 Hb2.out).1
  obtain ⟨b0, b1, b2, b3, b4⟩ := cells5 Hb2.out
  obtain ⟨fb0, fb1, fb2, fb3, fb4⟩ := froz5 Hb2.out
  go_wp2
  refine bodyPost_ret (by simp [results, Tryz.results40, go_sem, hya, b0, b1, b2, b3, b4]; first | done | rfl) rfl ?_
  exact val_done rfl (below_five HW2.out (by omega) _ _ _ _ _)
set_option maxRecDepth 100000 in
set_option maxHeartbeats 2000000 in
theorem twGet_out (w : World) (t m g : Nat) (sv : Value) (L : List Sl) (av : Value) (A : List V) (hT : TabW w t m g sv L av A) (hl : A.length ≤ 100000) (hL : L.length ≤ 1000) (k p q : Int) (s : ByteArray) (r : Int) (hk : validV ⟨k, p, q, s, r⟩ = true) (hw : WfV ⟨k, p, q, s, r⟩) (ho : intB ⟨k, p, q, s, r⟩ = false ∨ intB ⟨k, p, q, s, r⟩ = true ∧ (p < 1 ∨ (A.length : Int) < p)) :
    Calls Tryz.prog 40 #[.pointer (some ⟨t, 0, none⟩), .agg #[.int .i64 k, .int .i64 p, .int .i64 q, .string s, .int .i64 r]] w (ValPost w (getM L ⟨k, p, q, s, r⟩)) := by
  obtain ⟨ht, hrow, _, hO⟩ := hT
  obtain ⟨so, cap, rfl, hcap⟩ := listW_shape hrow
  have HV := Lib.hid (fun W => (show Calls Tryz.prog 43 #[.agg #[.int .i64 k, .int .i64 p, .int .i64 q, .string s, .int .i64 r]] W (BoolPost W true) from by have h := pvalidV_c W k p q s r; rw [hk] at h; exact h))
  have HI := Lib.hid (fun W => tint_c W k p q s r)
  have HT := Lib.hid (ht)
  have HO := Lib.hid (hO)
  have htl : t < w.heap.size := (Array.getElem?_eq_some_iff.1 ht).1
  obtain ⟨R, hR⟩ : ∃ R, R = getM L ⟨k, p, q, s, r⟩ := ⟨_, rfl⟩
  rw [← hR]
  have hget : ∀ W, OMap W m g sv L → Calls Tryz.prog 78 #[.pointer (some ⟨m, 0, none⟩), .agg #[.int .i64 k, .int .i64 p, .int .i64 q, .string s, .int .i64 r]] W (ValPost W R) := fun W h => by rw [hR]; exact pomGet_c W m g sv L h hL k p q s r hw
  have HG := Lib.hid (hget)
  obtain ⟨b, hb⟩ : ∃ b, b = intB ⟨k, p, q, s, r⟩ := ⟨_, rfl⟩
  rw [← hb] at HI ho
  have ways : (b = false ∧ True ∧ True) ∨ (b = true ∧ decide (p ≥ 1) = false ∧ True) ∨ (b = true ∧ decide (p ≥ 1) = true ∧ decide (p ≤ (A.length : Int)) = false) := by
    rcases ho with ho | ⟨ho, h1⟩
    · exact .inl ⟨ho, trivial, trivial⟩
    · by_cases h2 : p < 1
      · exact .inr (.inl ⟨ho, decide_eq_false (by omega), trivial⟩)
      · exact .inr (.inr ⟨ho, decide_eq_true (by omega), decide_eq_false (by omega)⟩)
  clear ht hrow hO hR hget hk hb ho
  rcases ways with ⟨rfl, d1, d2⟩ | ⟨rfl, d1, d2⟩ | ⟨rfl, d1, d2⟩
  all_goals
    go_enter Tryz.func40, Tryz.ntmps40
    go_wp2_with fail
    refine (HV.out _).mono ?_
    rintro e w1 ⟨rfl, hb⟩
    have Ha1 := Lib.hid (hkeep hb (heap2_a w (oV k p q s r) (oV 0 0 0 ⟨#[]⟩ 0)))
    have Hb1 := Lib.hid (hkeep hb (heap2_b w (oV k p q s r) (oV 0 0 0 ⟨#[]⟩ 0)))
    have HW1 := Lib.hid (below_next (below2w _ _ _) hb)
    clear hb
    obtain ⟨a0, a1, a2, a3, a4⟩ := cells5 Ha1.out
    obtain ⟨fa0, fa1, fa2, fa3, fa4⟩ := froz5 Ha1.out
    go_wp2_with fail
    refine (HI.out _).mono ?_
    rintro e w2 ⟨rfl, hb⟩
    have Ha2 := Lib.hid (hkeep hb Ha1.out)
    have Hb2 := Lib.hid (hkeep hb Hb1.out)
    have HW2 := Lib.hid (below_next HW1.out hb)
    clear hb a0 a1 a2 a3 a4 fa0 fa1 fa2 fa3 fa4
    have t0 : w2.cell? ⟨t, 0, none⟩ = some (.slice so A.length cap) := by rw [cell_of_heap (hkeep HW2.out HT.out)]; rfl
    have t1 : w2.cell? ⟨t, 1, none⟩ = some (.pointer (some ⟨m, 0, none⟩)) := by rw [cell_of_heap (hkeep HW2.out HT.out)]; rfl
    have hz2 := HW2.out.size
    have hyt : t < w2.heap.size := by omega
    have hya : w.heap.size < w2.heap.size := (Array.getElem?_eq_some_iff.1 Ha2.out).1
    have hyb : w.heap.size + 1 < w2.heap.size := (Array.getElem?_eq_some_iff.1 Hb2.out).1
    obtain ⟨a0, a1, a2, a3, a4⟩ := cells5 Ha2.out
    obtain ⟨fa0, fa1, fa2, fa3, fa4⟩ := froz5 Ha2.out
    obtain ⟨b0, b1, b2, b3, b4⟩ := cells5 Hb2.out
    obtain ⟨fb0, fb1, fb2, fb3, fb4⟩ := froz5 Hb2.out
    go_wp2
    refine wp_region_lex mixed (by kernel_rfl) ?_
    go_wp2_with fail
    refine (HG.out _ (om_keep_below HO.out HW2.out.drew)).mono ?_
    rintro e w3 ⟨rfl, hb⟩
    have Hb3 := Lib.hid (hkeep hb Hb2.out)
    have HW3 := Lib.hid (below_next HW2.out.drew hb)
    clear hb hya hyb hyt t0 t1 a0 a1 a2 a3 a4 fa0 fa1 fa2 fa3 fa4 b0 b1 b2 b3 b4 fb0 fb1 fb2 fb3 fb4
    have hyb : w.heap.size + 1 < w3.heap.size := (Array.getElem?_eq_some_iff.1 Hb3.out).1
    obtain ⟨b0, b1, b2, b3, b4⟩ := cells5 Hb3.out
    obtain ⟨fb0, fb1, fb2, fb3, fb4⟩ := froz5 Hb3.out
    go_wp2
    refine ⟨by kernel_rfl, ?_⟩
    go_wp2
    refine bodyPost_ret (by simp [results, Tryz.results40, go_sem, hyb, b0, b1, b2, b3, b4]; first | done | rfl) rfl ?_
    exact val_done rfl (below_five HW3.out (by omega) _ _ _ _ _)
theorem wpList_append_one {w : World} {ops : Array Oper} {rest : List Oper} {o : Oper} {a : Act} {Q : Exit → Act → World → Prop} (hgd : o.guard = none) (s y : Operand)
    (ho : o.op = .call { callee := .builtin .append, args := #[s, y], argTypes := #[26, 26] }) (v : Value) (A : List V) (hs : a.eval s = v) (hv : ListW w v A) (hl : A.length ≤ 1000000)
    (ad : Addr) (c : Nat) (x : V) (hy : a.eval y = .slice (some ad) 1 c) (hx : ∀ j u, (vCells x)[j]? = some u → w.cell? (ad.add j) = some u)
    (h : ∀ v' w', ListW w' v' (A ++ [x]) → w.grownBy w' v.ownBlock → (v'.ownBlock = v.ownBlock ∨ v'.ownBlock = some w.heap.size) → wpList Tryz.prog ops Q rest (a.put o.dst v') w') :
    wpList Tryz.prog ops Q (o :: rest) a w := by
  refine wpList_plain hgd fun K hK => ?_
  obtain ⟨v', w', hr, h2, h3, h4⟩ := append_one hv hl ad c x hx o.type
  unfold Oper.wp
  simp [execOp, ho, resolve, invoke, builtin, hs, hy, hr, Result.andThen]
  exact hK _ _ (h v' w' h2 h3 h4)
set_option maxRecDepth 100000 in
set_option maxHeartbeats 40000000 in
theorem tadd_c (w : World) (t m g : Nat) (sv : Value) (L : List Sl) (av : Value) (A : List V) (hT : TabW w t m g sv L av A) (hl : A.length ≤ 100000) (hL : L.length ≤ 1000) (k p q : Int) (s : ByteArray) (r : Int) (hv : validV ⟨k, p, q, s, r⟩ = true) (hw : WfV ⟨k, p, q, s, r⟩) (hk : k ≠ 0)
    (ha1 : ∀ x ∈ L, x.k ≠ ⟨2, (A.length : Int) + 1, 1, ⟨#[]⟩, 0⟩) (ha2 : getM L ⟨2, (A.length : Int) + 1 + 1, 1, ⟨#[]⟩, 0⟩ = V.nil) :
    Calls Tryz.prog 82 #[.pointer (some ⟨t, 0, none⟩), .agg #[.int .i64 k, .int .i64 p, .int .i64 q, .string s, .int .i64 r]] w (TAddPost w t m g sv L av (A ++ [⟨k, p, q, s, r⟩])) := by
  obtain ⟨so, cap, rfl, hcap⟩ := listW_shape hT.lw
  have htl : t < w.heap.size := (Array.getElem?_eq_some_iff.1 hT.ht).1
  have ek : (k == 0) = false := beq_eq_false_iff_ne.2 hk
  have ek2 : (k != 0) = true := bne_iff_ne.2 hk
  have HT := Lib.hid (hT)
  have HX := Lib.hid ((⟨hw, hv⟩ : WfV ⟨k, p, q, s, r⟩ ∧ validV ⟨k, p, q, s, r⟩ = true))
  have HA1 := Lib.hid (ha1)
  have HA2 := Lib.hid (ha2)
  have HCAP := Lib.hid (hcap)
  clear hT hv hw hk ha1 ha2 hcap
  go_enter Tryz.func82, Tryz.ntmps82
  go_wp2
  go_loopg [4] 1 (fun gg s4 wr => s4 = .bool false ∧ Hid (AddR w t m g sv L (.slice so A.length cap) A ⟨k, p, q, s, r⟩ gg wr))
  case atStart => exact ⟨rfl, Lib.hid (.inl ⟨rfl, heap1 _ _, below1 _ _⟩)⟩
  case round =>
    obtain ⟨rfl, HR⟩ := hrel
    rcases HR.out with ⟨rfl, hbox, hbw⟩ | ⟨rfl, hbox, av', hT', hsub, hmd⟩
    · have Hv0 := Lib.hid (hbox)
      have HW0 := Lib.hid (hbw)
      clear hbox hbw HR
      have HT0 := Lib.hid (tabW_below HT.out HW0.out)
      have hz0 := HW0.out.size
      have hyt : t < wr.heap.size := by omega
      have hyv : w.heap.size < wr.heap.size := (Array.getElem?_eq_some_iff.1 Hv0.out).1
      have t0 : wr.cell? ⟨t, 0, none⟩ = some (.slice so A.length cap) := by rw [cell_of_heap HT0.out.ht]; rfl
      have ft0 : wr.frozen? ⟨t, 0, none⟩ = false := frozen_of_heap HT0.out.ht _
      obtain ⟨v0, v1, v2, v3, v4⟩ := cells5 Hv0.out
      obtain ⟨fv0, fv1, fv2, fv3, fv4⟩ := froz5 Hv0.out
      go_wp2
      refine wp_region_lex mixed (by kernel_rfl) ?_
      go_wp2_with (at_builtin; refine wpList_append_one rfl (.tmp 21) (.tmp 23) rfl (.slice so A.length cap) A rfl (listW_below HT0.out.lw ((Below.refl _ _).drew.alloc (Nat.le_refl _) _)) (by omega) _ 1 ⟨k, p, q, s, r⟩ rfl (cell_one _ ⟨k, p, q, s, r⟩) ?_)
      intro v' w' h2 h3 h4
      have hlen : (A ++ [(⟨k, p, q, s, r⟩ : V)]).length = A.length + 1 := by simp
      obtain ⟨so2, cap2, e2, hcap2⟩ := listW_shape h2
      rw [hlen] at e2
      subst e2
      clear hlen
      have hgrow := tabW_grow (tabW_below HT0.out ((Below.refl _ _).drew.alloc (Nat.le_refl _) _)) HX.out h2 h3
      have hsz3 := h3.size
      simp at hsz3
      have HG := Lib.hid (hgrow)
      have hbz : w'.heap[w.heap.size]? = some (oV k p q s r) := (h3.block w.heap.size (by simp; omega) (fun e => by have := listW_lt HT.out.lw e.symm; omega)).trans (heap1_old (w := wr.drew) Hv0.out _)
      have HBZ := Lib.hid (hbz)
      have HSUB := Lib.hid (sub_of h4 (show w.heap.size ≤ _ by omega))
      have HNE := Lib.hid (own_ne (b := w.heap.size) h4 (fun g hg => listW_lt HT.out.lw hg) (by omega))
      clear h2 h3 h4 hgrow hbz v0 v1 v2 v3 v4 fv0 fv1 fv2 fv3 fv4 t0 ft0 hyt hyv
      have t0 : w'.cell? ⟨t, 0, none⟩ = some (.slice so A.length cap) := by rw [cell_of_heap HG.out.2.2]; rfl
      have ft0 : w'.frozen? ⟨t, 0, none⟩ = false := frozen_of_heap HG.out.2.2 _
      have hyt : t < w'.heap.size := by omega
      go_wp2
      refine ⟨by kernel_rfl, ?_⟩
      obtain ⟨W3, hW3⟩ : ∃ W3, W3 = w'.setCell ⟨t, 0, none⟩ (.slice so2 (A.length + 1) cap2) := ⟨_, rfl⟩
      have HT3 := Lib.hid ((show TabW W3 t m g sv L (.slice so2 (A.length + 1) cap2) (A ++ [(⟨k, p, q, s, r⟩ : V)]) by rw [hW3]; exact HG.out.1))
      have HM3 := Lib.hid ((show Mods (TbF t (.slice so A.length cap)) w W3 by rw [hW3]; exact Mods.trans (Mods.of_below (HW0.out.drew.alloc HW0.out.size _)) HG.out.2.1))
      have HV3 := Lib.hid ((show W3.heap[w.heap.size]? = some (oV k p q s r) by rw [hW3, Below.heap_setCell _ _ _ _ (show w.heap.size ≠ t by omega)]; exact HBZ.out))
      have hz3 : wr.heap.size ≤ W3.heap.size := by rw [hW3]; simp; omega
      rw [show w'.setCell ⟨t, 0, none⟩ (.slice so2 (A.length + 1) cap2) = W3 from hW3.symm]
      clear hW3 t0 ft0 hyt
      have HN1 := Lib.hid (fun W (hb : Below W3.heap.size W3 W) => pomNext_miss W m g sv L (om_keep_below HT3.out.om hb) 2 ((A.length : Int) + 1) 1 ⟨#[]⟩ 0 (wf_num (by omega) (by omega)) (eqv_num _) HA1.out)
      have HOI := Lib.hid (fun W => pOfInt_top W ((A.length : Int) + 1) (by omega) (by omega))
      go_upto_region 4 with fail
      go_cut [4, 8] (fun s4 s8 wx => s4 = .bool false ∧ s8 = .int .i64 13 ∧ Hid (Below W3.heap.size W3 wx))
      case first =>
        have SO := Lib.hid (fun (W : World) (hb : Below W3.heap.size W3 W) => (show W.cell? ⟨t, 0, none⟩ = some (.slice so2 (A.length + 1) cap2) ∧ W.cell? ⟨t, 1, none⟩ = some (.pointer (some ⟨m, 0, none⟩)) ∧ Hid (Below W3.heap.size W3 W) from ⟨(cells2 (hkeep hb HT3.out.ht)).1, (cells2 (hkeep hb HT3.out.ht)).2, Lib.hid hb⟩))
        have BA := Lib.hid (fun (W : World) (o : Obj) (hb : Below W3.heap.size W3 W) => (show Below W3.heap.size W3 (W.alloc o) from hb.alloc hb.size o))
        have BD := Lib.hid (fun (W : World) (hb : Below W3.heap.size W3 W) => (show Below W3.heap.size W3 W.drew from hb.drew))
        have B5 := Lib.hid (fun (W : World) (b : Nat) (c0 c1 c2 c3 c4 : Value) (hb : Below W3.heap.size W3 W) (hbb : W3.heap.size ≤ b) => below_five hb hbb c0 c1 c2 c3 c4)
        have hbR : Below W3.heap.size W3 W3 := Below.refl _ _
        have hbD : Below W3.heap.size W3 W3.drew := (Below.refl _ _).drew
        go_region_held3 (fun w' => w'.cell? ⟨t, 0, none⟩ = some (.slice so2 (A.length + 1) cap2) ∧ w'.cell? ⟨t, 1, none⟩ = some (.pointer (some ⟨m, 0, none⟩)) ∧ Hid (Below W3.heap.size W3 w'))
          (with_reducible refine SO.out _ ?_; repeat (first | with_reducible assumption | (with_reducible refine BA.out _ _ ?_) | (with_reducible refine BD.out _ ?_) | (with_reducible refine B5.out _ _ _ _ _ _ _ ?_ ?_) | omega))
          (first | (go_at_call 54; (with_reducible refine (HOI.out _).mono ?_); rintro e nw1 ⟨rfl, hb⟩; have hb1 := below_next (prj2a (by assumption)) hb; have hz1 := hb1.size; (first | (with_reducible have Hza := Lib.hid (hkeep hb (heap_newD W3 oZ))) | (with_reducible have Hza := Lib.hid (hkeep hb (heap_new W3 oZ))) | (with_reducible have Hza := Lib.hid (hkeep hb (heap2_aD W3 oZ oZ))) | (with_reducible have Hza := Lib.hid (hkeep hb (heap2_a W3 oZ oZ))) | skip); (first | (with_reducible have Hzb := Lib.hid (hkeep hb (heap2_bD W3 oZ oZ))) | (with_reducible have Hzb := Lib.hid (hkeep hb (heap2_b W3 oZ oZ))) | skip); (try have hza1 := (Array.getElem?_eq_some_iff.1 Hza.out).1); (try have hzb1 := (Array.getElem?_eq_some_iff.1 Hzb.out).1); clear hb) | (go_at_call 99; (with_reducible refine (HN1.out _ (prj2a (by assumption))).mono ?_); rintro e nw2 ⟨rfl, hb⟩; have hb2 := below_next (prj2a (by assumption)) hb; have hz2 := hb2.size; (first | ((with_reducible have Hqp := Lib.hid (hkeep hb (Hza.out))); (obtain ⟨plt, pa0, pa1, pa2, pa3, pa4, pf0, pf1, pf2, pf3, pf4⟩ := box5 Hqp.out)) | ((with_reducible have Hqp := Lib.hid (hkeep hb (heap1_old Hza.out _))); (obtain ⟨plt, pa0, pa1, pa2, pa3, pa4, pf0, pf1, pf2, pf3, pf4⟩ := box5 Hqp.out)) | ((with_reducible have Hqp := Lib.hid (hkeep hb (heap1_old (heap1_old Hza.out _) _))); (obtain ⟨plt, pa0, pa1, pa2, pa3, pa4, pf0, pf1, pf2, pf3, pf4⟩ := box5 Hqp.out)) | skip); (first | ((with_reducible have Hqq := Lib.hid (hkeep hb (Hzb.out))); (obtain ⟨qlt, qa0, qa1, qa2, qa3, qa4, qf0, qf1, qf2, qf3, qf4⟩ := box5 Hqq.out)) | ((with_reducible have Hqq := Lib.hid (hkeep hb (heap1_old Hzb.out _))); (obtain ⟨qlt, qa0, qa1, qa2, qa3, qa4, qf0, qf1, qf2, qf3, qf4⟩ := box5 Hqq.out)) | ((with_reducible have Hqq := Lib.hid (hkeep hb (heap1_old (heap1_old Hzb.out _) _))); (obtain ⟨qlt, qa0, qa1, qa2, qa3, qa4, qf0, qf1, qf2, qf3, qf4⟩ := box5 Hqq.out)) | skip); (first | ((with_reducible have Hqu := Lib.hid (hkeep hb (heap_new nw1 oZ))); (obtain ⟨ult, ua0, ua1, ua2, ua3, ua4, uf0, uf1, uf2, uf3, uf4⟩ := box5 Hqu.out)) | ((with_reducible have Hqu := Lib.hid (hkeep hb (heap2_a nw1 oZ oZ))); (obtain ⟨ult, ua0, ua1, ua2, ua3, ua4, uf0, uf1, uf2, uf3, uf4⟩ := box5 Hqu.out)) | skip); (first | ((with_reducible have Hqv := Lib.hid (hkeep hb (heap2_b nw1 oZ oZ))); (obtain ⟨vlt, va0, va1, va2, va3, va4, vf0, vf1, vf2, vf3, vf4⟩ := box5 Hqv.out)) | skip); clear hb))
        all_goals
          go_wp2_with fail
          go_meet
          exact ⟨rfl, rfl, Lib.hid (prj2a (by assumption))⟩
      case rest =>
        obtain ⟨rfl, rfl, hbx⟩ := hcut
        have HT4 := Lib.hid (tabW_below HT3.out hbx.out)
        have HV4 := Lib.hid (hkeep hbx.out HV3.out)
        have HM4 := Lib.hid (Mods.trans HM3.out (Mods.of_below hbx.out))
        have hz4 := hbx.out.size
        clear hbx
        have HG4 := Lib.hid (fun W (hb : OMap W m g sv L) => (show Calls Tryz.prog 78 #[.pointer (some ⟨m, 0, none⟩), .agg #[.int .i64 2, .int .i64 ((A.length : Int) + 1 + 1), .int .i64 1, .string ⟨#[]⟩, .int .i64 0]] W (fun e w' => e = .returned (.agg #[.int .i64 0, .int .i64 0, .int .i64 0, .string ⟨#[]⟩, .int .i64 0]) ∧ Below W.heap.size W w') from by have h := pomGet_c W m g sv L hb hL 2 ((A.length : Int) + 1 + 1) 1 ⟨#[]⟩ 0 (wf_num (by omega) (by omega)); rw [HA2.out] at h; exact h))
        have HOJ := Lib.hid (fun W => (show Calls Tryz.prog 54 #[.int .i64 (IntKind.i64.wrap ((A.length : Int) + 1 + 1))] W (fun e w' => e = .returned (.agg #[.int .i64 2, .int .i64 ((A.length : Int) + 1 + 1), .int .i64 1, .string ⟨#[]⟩, .int .i64 0]) ∧ Below W.heap.size W w') from by rw [w64_in (by omega) (by omega)]; exact pOfInt_top W ((A.length : Int) + 1 + 1) (by omega) (by omega)))
        have SO := Lib.hid (fun (W : World) (hb : Mods (fun b => b = w.heap.size) wc W) => (show W.cell? ⟨t, 0, none⟩ = some (.slice so2 (A.length + 1) cap2) ∧ W.cell? ⟨t, 1, none⟩ = some (.pointer (some ⟨m, 0, none⟩)) ∧ Hid (Mods (fun b => b = w.heap.size) wc W) from ⟨(cells2 (mkeep hb HT4.out.ht (by omega))).1, (cells2 (mkeep hb HT4.out.ht (by omega))).2, Lib.hid hb⟩))
        have SO5 := Lib.hid (fun (W : World) (c0 c1 c2 c3 c4 : Value) (hb : Mods (fun b => b = w.heap.size) wc W) => SO.out _ (mods_setCell (mods_setCell (mods_setCell (mods_setCell (mods_setCell hb (.inl rfl) c0 (o := 0)) (.inl rfl) c1 (o := 1)) (.inl rfl) c2 (o := 2)) (.inl rfl) c3 (o := 3)) (.inl rfl) c4 (o := 4)))
        have TO := Lib.hid (fun (W : World) (hb : Mods (fun b => b = w.heap.size) wc W) => (tabW_mods HT4.out HV4.out HNE.out hb).om)
        have hbR : Mods (fun b => b = w.heap.size) wc wc := Mods.refl _ _
        have hbD : Mods (fun b => b = w.heap.size) wc wc.drew := Mods.of_below (Below.refl _ _).drew
        go_wp2
        go_region_held3 (fun w' => w'.cell? ⟨t, 0, none⟩ = some (.slice so2 (A.length + 1) cap2) ∧ w'.cell? ⟨t, 1, none⟩ = some (.pointer (some ⟨m, 0, none⟩)) ∧ Hid (Mods (fun b => b = w.heap.size) wc w'))
          (first | with_reducible exact SO.out _ (by assumption) | with_reducible exact SO5.out _ _ _ _ _ _ (by assumption))
          (first | (go_at_call 54; (with_reducible refine (HOJ.out _).mono ?_); rintro e nw3 ⟨rfl, hb⟩; have hb3 := mods_next (prj2a (by assumption)) hb; have HV5 := Lib.hid (hkeep hb HV4.out); clear hb) | (go_at_call 78; (with_reducible refine (HG4.out _ (TO.out _ (prj2a (by assumption)))).mono ?_); rintro e nw4 ⟨rfl, hb⟩; have hb4 := mods_next (prj2a (by assumption)) hb; have HV6 := Lib.hid (hkeep hb HV5.out); (obtain ⟨v0, v1, v2, v3, v4⟩ := cells5 HV6.out); (obtain ⟨fv0, fv1, fv2, fv3, fv4⟩ := froz5 HV6.out); clear hb))
        go_wp2
        go_roundg 0
        case measure => omega
        case rel =>
          refine ⟨rfl, Lib.hid (.inr ⟨rfl, heap_five_at HV6.out _ _ _ _ _, _, tabW_mods HT4.out HV4.out HNE.out (mods_setCell (mods_setCell (mods_setCell (mods_setCell (mods_setCell hb4 (.inl rfl) _) (.inl rfl) _) (.inl rfl) _) (.inl rfl) _) (.inl rfl) _), HSUB.out, ?_⟩)⟩
          exact mods_new HM4.out (Nat.le_refl _) (mods_setCell (mods_setCell (mods_setCell (mods_setCell (mods_setCell hb4 (.inl rfl) _) (.inl rfl) _) (.inl rfl) _) (.inl rfl) _) (.inl rfl) _)
    · have Hv0 := Lib.hid (hbox)
      have HT0 := Lib.hid (hT')
      have HS0 := Lib.hid (hsub)
      have HM0 := Lib.hid (hmd)
      clear hbox hT' hsub hmd HR
      have hyv : w.heap.size < wr.heap.size := (Array.getElem?_eq_some_iff.1 Hv0.out).1
      obtain ⟨v0, v1, v2, v3, v4⟩ := cells5 Hv0.out
      obtain ⟨fv0, fv1, fv2, fv3, fv4⟩ := froz5 Hv0.out
      go_wp2
      refine bodyPost_ret (by simp [results, Tryz.results82, go_sem]; first | done | rfl) rfl ?_
      exact ⟨rfl, av', HT0.out, HS0.out, HM0.out⟩
end Go.Proofs.YtpbcmlnjiocmoaaGreatDoorR
