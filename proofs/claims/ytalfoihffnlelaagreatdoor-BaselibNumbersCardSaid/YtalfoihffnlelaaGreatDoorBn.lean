import Derived.Test.YtalfoihffnlelaaGreatDoorNumF
import Derived.Deep.DeepCutAuto
set_option linter.unusedVariables false
set_option linter.unusedSimpArgs false
set_option maxRecDepth 100000
set_option maxHeartbeats 2000000
namespace Go.Proofs.YtalfoihffnlelaaGreatDoor
open Go.RowKit Go.Proofs.Lexi
def nbL : List UInt8 := [97, 115, 115, 101, 114, 116, 32, 99, 111, 108, 108, 101, 99, 116, 32, 99, 111, 114, 111, 117, 116, 105, 110, 101, 46, 99, 108, 111, 115, 101, 32, 99, 111, 114, 111, 117, 116, 105, 110, 101, 46, 99, 114, 101, 97, 116, 101, 32, 99, 111, 114, 111, 117, 116, 105, 110, 101, 46, 105, 115, 121, 105, 101, 108, 100, 97, 98, 108, 101, 32, 99, 111, 114, 111, 117, 116, 105, 110, 101, 46, 114, 101, 115, 117, 109, 101, 32, 99, 111, 114, 111, 117, 116, 105, 110, 101, 46, 114, 117, 110, 110, 105, 110, 103, 32, 99, 111, 114, 111, 117, 116, 105, 110, 101, 46, 115, 116, 97, 116, 117, 115, 32, 99, 111, 114, 111, 117, 116, 105, 110, 101, 46, 121, 105, 101, 108, 100, 32, 100, 101, 98, 117, 103, 46, 116, 114, 97, 99, 101, 98, 97, 99, 107, 32, 101, 114, 114, 111, 114, 32, 103, 101, 116, 109, 101, 116, 97, 116, 97, 98, 108, 101, 32, 105, 112, 97, 105, 114, 115, 32, 105, 112, 97, 105, 114, 115, 110, 101, 120, 116, 32, 108, 111, 97, 100, 32, 110, 101, 120, 116, 32, 112, 97, 105, 114, 115, 32, 112, 99, 97, 108, 108, 32, 112, 114, 105, 110, 116, 32, 114, 97, 119, 101, 113, 117, 97, 108, 32, 114, 97, 119, 103, 101, 116, 32, 114, 97, 119, 108, 101, 110, 32, 114, 97, 119, 115, 101, 116, 32, 115, 101, 108, 101, 99, 116, 32, 115, 101, 116, 109, 101, 116, 97, 116, 97, 98, 108, 101, 32, 116, 111, 110, 117, 109, 98, 101, 114, 32, 116, 111, 115, 116, 114, 105, 110, 103, 32, 116, 121, 112, 101, 32, 120, 112, 99, 97, 108, 108]
def namesL : List ByteArray := (Lib.fields nbL).map fun l => ⟨l.toArray⟩
def Spaces (w : World) : Prop := Lib.TabIs Tryz.prog w "strings.asciiSpace" .u8 Lib.asciiSpaceTab
def NamesPost (w : World) (e : Ending) (w' : World) : Prop := e = .returned (.slice (some ⟨w.heap.size, 0, none⟩) 29 29) ∧ w' = w.alloc (.cells (namesL.map Value.string).toArray 9)
theorem nb_len : (Lib.fields nbL).length = 29 := by kernel_rfl
theorem names_len : namesL.length = 29 := by kernel_rfl
theorem at_select : Lib.idxOfS namesL ⟨#[115, 101, 108, 101, 99, 116]⟩ = 23 := by kernel_rfl
theorem at_pcall : Lib.idxOfS namesL ⟨#[112, 99, 97, 108, 108]⟩ = 17 := by kernel_rfl
theorem at_tonumber : Lib.idxOfS namesL ⟨#[116, 111, 110, 117, 109, 98, 101, 114]⟩ = 25 := by kernel_rfl
theorem spaces_glob : (Tryz.prog.globalNamed "strings.asciiSpace").isSome = true := by kernel_rfl
theorem Spaces.stays {w w' : World} (h : Spaces w) (hb : Below w.heap.size w w') : Spaces w' := by
  obtain ⟨g, hg⟩ := Option.isSome_iff_exists.1 spaces_glob
  exact Joins.tab_stays hg h hb (Nat.le_refl _)
def ActPost (F : Nat → Prop) (w : World) (kind op : Int) (f : V) (A : List V) (s : ByteArray) (level next : Int) (K : List V) (e : Ending) (w' : World) : Prop :=
  ∃ so cap sk ck, e = .returned (acV kind op f (.slice so A.length cap) s level next (.slice sk K.length ck)) ∧ w'.ownsRow w.heap.size 30 5 (.slice so A.length cap) A.length (rowV A) ∧ w'.ownsRow w.heap.size 30 5 (.slice sk K.length ck) K.length (rowV K) ∧ Mods F w w'
def NoF (_ : Nat) : Prop := False
theorem mods_below {w w' : World} (h : Mods NoF w w') : Below w.heap.size w w' := Mods.below h (Nat.le_refl _) (fun _ _ h => h)
theorem mods_next {F : Nat → Prop} {a b c : World} (h : Mods F a b) (k : Below b.heap.size b c) : Mods F a c := Mods.trans h (Mods.of_below k)
theorem mkeep {F : Nat → Prop} {w w' : World} (hm : Mods F w w') {b : Nat} {o : Obj} (h : w.heap[b]? = some o) (hF : ¬ F b) : w'.heap[b]? = some o := (hm.block b (Array.getElem?_eq_some_iff.1 h).1 hF).trans h
theorem act_of_ret {F : Nat → Prop} {w w' : World} {A : List V} {e : Ending} (h : RetPost w A e w') : ActPost F w 1 0 V.nil A ⟨#[]⟩ 0 0 [] e w' := by
  obtain ⟨so, cap, rfl, h1, h2⟩ := h
  exact ⟨so, cap, none, 0, rfl, h1, World.ownsRow_nil _ _ _ _, Mods.of_below h2⟩
theorem mods_twelve {F : Nat → Prop} {a w : World} (h : Mods F a w) {b : Nat} (hb : F b ∨ a.heap.size ≤ b) (o0 o1 o2 o3 o4 o5 o6 o7 o8 o9 o10 o11 : Nat) (c0 c1 c2 c3 c4 c5 c6 c7 c8 c9 c10 c11 : Value) :
    Mods F a ((((((((((((w.setCell ⟨b, o0, none⟩ c0).setCell ⟨b, o1, none⟩ c1).setCell ⟨b, o2, none⟩ c2).setCell ⟨b, o3, none⟩ c3).setCell ⟨b, o4, none⟩ c4).setCell ⟨b, o5, none⟩ c5).setCell ⟨b, o6, none⟩ c6).setCell ⟨b, o7, none⟩ c7).setCell ⟨b, o8, none⟩ c8).setCell ⟨b, o9, none⟩ c9).setCell ⟨b, o10, none⟩ c10).setCell ⟨b, o11, none⟩ c11) := by
  exact mods_setCell (mods_setCell (mods_setCell (mods_setCell (mods_setCell (mods_setCell (mods_setCell (mods_setCell (mods_setCell (mods_setCell (mods_setCell (mods_setCell h hb c0) hb c1) hb c2) hb c3) hb c4) hb c5) hb c6) hb c7) hb c8) hb c9) hb c10) hb c11
theorem row_away {w : World} {B e size n : Nat} {v : Value} {xs : List Value} (ho : w.ownsRow B e size v n xs) {b : Nat} (hb : b < B) : v.ownBlock ≠ some b := fun h => by
  have := (ownBlock_lt ho h).1
  omega
theorem act_end {F : Nat → Prop} {w W : World} {b B : Nat} {A K : List V} {so sk : Option Addr} {cap ck : Nat} {kind op level next : Int} {f : V} {s : ByteArray}
    (ho : W.ownsRow B 30 5 (.slice so A.length cap) A.length (rowV A)) (hk : W.ownsRow B 30 5 (.slice sk K.length ck) K.length (rowV K)) (hm : Mods F w W) (hw : w.heap.size ≤ b) (hb : b < B) (c0 c1 c2 c3 c4 c5 c6 c7 c8 c9 c10 c11 : Value) :
    ActPost F w kind op f A s level next K (.returned (acV kind op f (.slice so A.length cap) s level next (.slice sk K.length ck))) ((((((((((((W.setCell ⟨b, 0, none⟩ c0).setCell ⟨b, 1, none⟩ c1).setCell ⟨b, 2, none⟩ c2).setCell ⟨b, 3, none⟩ c3).setCell ⟨b, 4, none⟩ c4).setCell ⟨b, 5, none⟩ c5).setCell ⟨b, 6, none⟩ c6).setCell ⟨b, 7, none⟩ c7).setCell ⟨b, 8, none⟩ c8).setCell ⟨b, 9, none⟩ c9).setCell ⟨b, 10, none⟩ c10).setCell ⟨b, 11, none⟩ c11) :=
  ⟨so, cap, sk, ck, rfl, ownsRow_base (row_twelve ho (row_away ho hb) _ _ _ _ _ _ _ _ _ _ _ _) (by omega), ownsRow_base (row_twelve hk (row_away hk hb) _ _ _ _ _ _ _ _ _ _ _ _) (by omega), mods_twelve hm (.inr hw) 0 1 2 3 4 5 6 7 8 9 10 11 _ _ _ _ _ _ _ _ _ _ _ _⟩
theorem at5m {F : Nat → Prop} {w w' : World} {b : Nat} {c0 c1 c2 c3 c4 : Value} {t : TypeId} {fz : Nat × Nat} (h : w'.heap[b]? = some (.cells #[c0, c1, c2, c3, c4] t fz)) (hm : Mods F w w') :
    w'.cell? ⟨b, 0, none⟩ = some c0 ∧ w'.cell? ⟨b, 1, none⟩ = some c1 ∧ w'.cell? ⟨b, 2, none⟩ = some c2 ∧ w'.cell? ⟨b, 3, none⟩ = some c3 ∧ w'.cell? ⟨b, 4, none⟩ = some c4 ∧ Hid (Mods F w w') := ⟨(cells5 h).1, (cells5 h).2.1, (cells5 h).2.2.1, (cells5 h).2.2.2.1, (cells5 h).2.2.2.2, Lib.hid hm⟩
theorem prj5a {c0 c1 c2 c3 c4 p : Prop} (h : c0 ∧ c1 ∧ c2 ∧ c3 ∧ c4 ∧ Hid p) : p := h.2.2.2.2.2.out
theorem cells16 {w : World} {b : Nat} {c0 c1 c2 c3 c4 c5 c6 c7 c8 c9 c10 c11 c12 c13 c14 c15 : Value} {t : TypeId} {fz : Nat × Nat} (h : w.heap[b]? = some (.cells #[c0, c1, c2, c3, c4, c5, c6, c7, c8, c9, c10, c11, c12, c13, c14, c15] t fz)) :
    w.cell? ⟨b, 0, none⟩ = some c0 ∧ w.cell? ⟨b, 1, none⟩ = some c1 ∧ w.cell? ⟨b, 2, none⟩ = some c2 ∧ w.cell? ⟨b, 3, none⟩ = some c3 ∧ w.cell? ⟨b, 4, none⟩ = some c4 ∧ w.cell? ⟨b, 5, none⟩ = some c5 ∧ w.cell? ⟨b, 6, none⟩ = some c6 ∧ w.cell? ⟨b, 7, none⟩ = some c7 ∧ w.cell? ⟨b, 8, none⟩ = some c8 ∧ w.cell? ⟨b, 9, none⟩ = some c9 ∧ w.cell? ⟨b, 10, none⟩ = some c10 ∧ w.cell? ⟨b, 11, none⟩ = some c11 ∧ w.cell? ⟨b, 12, none⟩ = some c12 ∧ w.cell? ⟨b, 13, none⟩ = some c13 ∧ w.cell? ⟨b, 14, none⟩ = some c14 ∧ w.cell? ⟨b, 15, none⟩ = some c15 := by
  refine ⟨?_, ?_, ?_, ?_, ?_, ?_, ?_, ?_, ?_, ?_, ?_, ?_, ?_, ?_, ?_, ?_⟩ <;> (rw [cell_of_heap h]; rfl)
theorem prj1a {c0 p : Prop} (h : c0 ∧ Hid p) : p := h.2.out
theorem act_mono {F G : Nat → Prop} {w : World} {kind op : Int} {f : V} {A : List V} {s : ByteArray} {level next : Int} {K : List V} {e : Ending} {w' : World} (h : ActPost F w kind op f A s level next K e w') (hFG : ∀ k, k < w.heap.size → F k → G k) : ActPost G w kind op f A s level next K e w' := by
  obtain ⟨so, cap, sk, ck, h1, h2, h3, h4⟩ := h
  exact ⟨so, cap, sk, ck, h1, h2, h3, Mods.mono h4 hFG⟩
theorem vals_two (w : World) (a b : V) : Vals (w.alloc (.cells #[.int .i64 a.k, .int .i64 a.p, .int .i64 a.q, .string a.s, .int .i64 a.r, .int .i64 b.k, .int .i64 b.p, .int .i64 b.q, .string b.s, .int .i64 b.r] 30)) (.slice (some ⟨w.heap.size, 0, none⟩) 2 2) [a, b] := by
  refine ⟨some ⟨w.heap.size, 0, none⟩, 2, rfl, Nat.le_refl _, (fun h => by cases h), .inr ⟨w.heap.size, 0, rfl, by simp, fun j u hj => ?_⟩⟩
  rw [cell_of_heap (heap_new w _), Nat.zero_add]
  have h5 : j < 10 := by
    have := (List.getElem?_eq_some_iff.1 hj).1
    rw [rowV_len] at this
    simpa using this
  rw [← hj]
  match j, h5 with
  | 0, _ => rfl
  | 1, _ => rfl
  | 2, _ => rfl
  | 3, _ => rfl
  | 4, _ => rfl
  | 5, _ => rfl
  | 6, _ => rfl
  | 7, _ => rfl
  | 8, _ => rfl
  | 9, _ => rfl
def ResB (w : World) (A : List V) (b : Bool) (e : Ending) (w' : World) : Prop :=
  ∃ so cap, e = .returned (.tuple #[.slice so A.length cap, .bool b]) ∧ w'.ownsRow w.heap.size 30 5 (.slice so A.length cap) A.length (rowV A) ∧ Below w.heap.size w w'
abbrev selN : ByteArray := ⟨#[115, 101, 108, 101, 99, 116]⟩
abbrev tonN : ByteArray := ⟨#[116, 111, 110, 117, 109, 98, 101, 114]⟩
abbrev pcaN : ByteArray := ⟨#[112, 99, 97, 108, 108]⟩
theorem selN_last : Lib.lastIndexByte selN 46 = -1 := by kernel_rfl
theorem tonN_last : Lib.lastIndexByte tonN 46 = -1 := by kernel_rfl
theorem pcaN_last : Lib.lastIndexByte pcaN 46 = -1 := by kernel_rfl
theorem vals_lit (w : World) (A : List V) : Vals (w.alloc (.cells (rowV A).toArray 30)) (.slice (some ⟨w.heap.size, 0, none⟩) A.length A.length) A := by
  refine ⟨some ⟨w.heap.size, 0, none⟩, A.length, rfl, Nat.le_refl _, (fun h => by cases h), .inr ⟨w.heap.size, 0, rfl, by simp, fun j u hj => ?_⟩⟩
  rw [cell_of_heap (heap_new w _), Nat.zero_add, List.getElem?_toArray]
  exact hj
theorem twelve_new {w : World} {b : Nat} {c0 c1 c2 c3 c4 c5 c6 c7 c8 c9 c10 c11 : Value} {t : TypeId} {fz : Nat × Nat} (h : w.heap[b]? = some (.cells #[c0, c1, c2, c3, c4, c5, c6, c7, c8, c9, c10, c11] t fz)) (d0 d1 d2 d3 d4 d5 d6 d7 d8 d9 d10 d11 : Value) :
    ((((((((((((w.setCell ⟨b, 0, none⟩ d0).setCell ⟨b, 1, none⟩ d1).setCell ⟨b, 2, none⟩ d2).setCell ⟨b, 3, none⟩ d3).setCell ⟨b, 4, none⟩ d4).setCell ⟨b, 5, none⟩ d5).setCell ⟨b, 6, none⟩ d6).setCell ⟨b, 7, none⟩ d7).setCell ⟨b, 8, none⟩ d8).setCell ⟨b, 9, none⟩ d9).setCell ⟨b, 10, none⟩ d10).setCell ⟨b, 11, none⟩ d11).heap[b]? = some (.cells #[d0, d1, d2, d3, d4, d5, d6, d7, d8, d9, d10, d11] t fz) := by
  replace h := heap_setCell_same h 0 d0
  change _ = some (Obj.cells #[d0, c1, c2, c3, c4, c5, c6, c7, c8, c9, c10, c11] t fz) at h
  replace h := heap_setCell_same h 1 d1
  change _ = some (Obj.cells #[d0, d1, c2, c3, c4, c5, c6, c7, c8, c9, c10, c11] t fz) at h
  replace h := heap_setCell_same h 2 d2
  change _ = some (Obj.cells #[d0, d1, d2, c3, c4, c5, c6, c7, c8, c9, c10, c11] t fz) at h
  replace h := heap_setCell_same h 3 d3
  change _ = some (Obj.cells #[d0, d1, d2, d3, c4, c5, c6, c7, c8, c9, c10, c11] t fz) at h
  replace h := heap_setCell_same h 4 d4
  change _ = some (Obj.cells #[d0, d1, d2, d3, d4, c5, c6, c7, c8, c9, c10, c11] t fz) at h
  replace h := heap_setCell_same h 5 d5
  change _ = some (Obj.cells #[d0, d1, d2, d3, d4, d5, c6, c7, c8, c9, c10, c11] t fz) at h
  replace h := heap_setCell_same h 6 d6
  change _ = some (Obj.cells #[d0, d1, d2, d3, d4, d5, d6, c7, c8, c9, c10, c11] t fz) at h
  replace h := heap_setCell_same h 7 d7
  change _ = some (Obj.cells #[d0, d1, d2, d3, d4, d5, d6, d7, c8, c9, c10, c11] t fz) at h
  replace h := heap_setCell_same h 8 d8
  change _ = some (Obj.cells #[d0, d1, d2, d3, d4, d5, d6, d7, d8, c9, c10, c11] t fz) at h
  replace h := heap_setCell_same h 9 d9
  change _ = some (Obj.cells #[d0, d1, d2, d3, d4, d5, d6, d7, d8, d9, c10, c11] t fz) at h
  replace h := heap_setCell_same h 10 d10
  change _ = some (Obj.cells #[d0, d1, d2, d3, d4, d5, d6, d7, d8, d9, d10, c11] t fz) at h
  replace h := heap_setCell_same h 11 d11
  change _ = some (Obj.cells #[d0, d1, d2, d3, d4, d5, d6, d7, d8, d9, d10, d11] t fz) at h
  exact h
abbrev prV : V := ⟨6, 0, 0, ⟨#[112, 114, 105, 110, 116]⟩, 0⟩
abbrev nV (n : Int) : V := ⟨2, n, 1, ⟨#[]⟩, 0⟩
theorem ff_trim (W : World) : Calls Tryz.prog 108 #[.string ⟨#[102, 102]⟩, .string ⟨#[32, 9, 10, 13]⟩] W (fun e w' => e = .returned (.string ⟨#[102, 102]⟩) ∧ Below W.heap.size W w') := by
  refine (btrim_c W ⟨#[102, 102]⟩ (by decide)).mono ?_
  rintro e w1 ⟨⟨r, rfl, hr⟩, hb⟩
  have : r = ⟨#[102, 102]⟩ := bytesOf_inj (hr.trans (by kernel_rfl))
  subst this
  exact ⟨rfl, hb⟩
theorem ff_dig : dgOut ⟨#[102, 102]⟩ (dgM 16 (bytesOf ⟨#[102, 102]⟩) 0) = (((255 : Nat) : Int), true) := by kernel_rfl
theorem prj5b {c0 c1 c2 c3 c4 p : Prop} (h : c0 ∧ c1 ∧ c2 ∧ c3 ∧ c4 ∧ Hid p) : p := h.2.2.2.2.2.out
theorem prj15c {c0 c1 c2 c3 c4 c5 c6 c7 c8 c9 c10 c11 c12 c13 c14 p : Prop} (h : c0 ∧ c1 ∧ c2 ∧ c3 ∧ c4 ∧ c5 ∧ c6 ∧ c7 ∧ c8 ∧ c9 ∧ c10 ∧ c11 ∧ c12 ∧ c13 ∧ c14 ∧ Hid p) : p := h.2.2.2.2.2.2.2.2.2.2.2.2.2.2.2.out
end Go.Proofs.YtalfoihffnlelaaGreatDoor
namespace Go.Proofs.YtalfoihffnlelaaGreatDoor
open Go.ChangeShapes Go.WideShapes Go.ChangeAt Go.WideMaps Go.WideElems Go.RowKit
abbrev laidS : List (String × DataW Unit) := [("math/bits.deBruijn32tab", Rows.laid_math_bits_deBruijn32tab), ("math/bits.deBruijn64tab", Rows.laid_math_bits_deBruijn64tab), ("internal/strconv.uint64pow10", Rows.laid_internal_strconv_uint64pow10), ("unicode/utf8.acceptRanges", Rows.laid_unicode_utf8_acceptRanges), ("unicode.White_Space", Rows.laid_unicode_White_Space), ("strings.asciiSpace", Rows.laid_strings_asciiSpace), ("unicode/utf8.first", Rows.laid_unicode_utf8_first)]
theorem Tryz.tSpc : ∃ g, Tryz.prog.globalNamed "strings.asciiSpace" = some g ∧ (Tryz.prog.globals[g]?).map (·.type) = some 137 := by
  refine ⟨(Tryz.prog.globalNamed "strings.asciiSpace").getD 0, ?_, ?_⟩ <;> kernel_rfl
theorem Tryz.cSpc : Tryz.prog.cellsOf 137 = 256 := by kernel_rfl
theorem Tryz.c8 : Tryz.prog.cellsOf 5 = 1 := by kernel_rfl
set_option maxRecDepth 100000 in
theorem tabs_of_laid {W : World} (h : laidMetH Tryz.prog laidS W) : Pow10 W ∧ Spaces W := by
  rw [MakeChecks.laidMetH_plain _ _ _ (by kernel_rfl)] at h
  obtain ⟨ps, ⟨g0, t0, cs0, f0, p0, q0, _, _, _, _, ⟨g1, t1, cs1, f1, p1, q1, _, _, _, _, ⟨g2, t2, cs2, f2, p2, q2, hg2, ht2, hv2, hd2, ⟨g3, t3, cs3, f3, p3, q3, _, _, _, _, ⟨g4, t4, cs4, f4, p4, q4, _, _, _, _, ⟨g5, t5, cs5, f5, p5, q5, hg5, ht5, hv5, hd5, _, _⟩, _⟩, _⟩, _⟩, _⟩, _⟩, _, _⟩ := h
  constructor
  · obtain ⟨g, hg, ht⟩ := Tryz.tPow
    obtain rfl := Option.some.inj (hg.symm.trans hg2)
    obtain rfl := Option.some.inj (ht.symm.trans ht2)
    unfold Pow10 Lib.TabIs
    rw [hv2, ← Lib.cells_of_tab (k := .u64) (zs := Lib.pow10Tab) Tryz.underlying131 Tryz.underlying97 Tryz.c64 Tryz.cPow hd2]
  · obtain ⟨g, hg, ht⟩ := Tryz.tSpc
    obtain rfl := Option.some.inj (hg.symm.trans hg5)
    obtain rfl := Option.some.inj (ht.symm.trans ht5)
    unfold Spaces Lib.TabIs
    rw [hv5, ← Lib.cells_of_tab (k := .u8) (zs := Lib.asciiSpaceTab) Tryz.underlying137 Tryz.underlying5 Tryz.c8 Tryz.cSpc hd5]
set_option maxRecDepth 100000 in
theorem door_metS (os : Os) (args : Array Value) : laidMetH Tryz.prog laidS ((World.laidAll Tryz.prog os laidS).forCall (fun _ _ => 0) ⟨#[], args, []⟩).memory := by
  rw [MakeChecks.laidMetH_plain _ _ _ (by kernel_rfl)]
  exact laidMet_laidAll _ (by kernel_rfl) (by kernel_rfl)
end Go.Proofs.YtalfoihffnlelaaGreatDoor
namespace Go.Proofs.YtalfoihffnlelaaGreatDoor
open Go.RowKit Go.Proofs.Lexi
def digsN (u : Nat) : List Nat := (Lib.decDigits u).map UInt8.toNat
theorem digsN_small {u : Nat} (h : u < 10) : digsN u = [48 + u] := by
  unfold digsN
  rw [Lib.decDigits, dif_pos h]
  show [(UInt8.ofNat (48 + u)).toNat] = _
  rw [UInt8.toNat_ofNat', Nat.mod_eq_of_lt (by omega)]
theorem digsN_more {u : Nat} (h : ¬ u < 10) : digsN u = digsN (u / 10) ++ [48 + u % 10] := by
  unfold digsN
  rw [Lib.decDigits, dif_neg h, List.map_append]
  show _ ++ [(UInt8.ofNat (48 + u % 10)).toNat] = _
  rw [UInt8.toNat_ofNat', Nat.mod_eq_of_lt (by omega)]
theorem digsN_all (u : Nat) : ∀ c ∈ digsN u, 48 ≤ c ∧ c ≤ 57 := by
  induction u using Nat.strongRecOn with
  | ind u ih =>
    by_cases h : u < 10
    · rw [digsN_small h]
      intro c hc
      rw [List.mem_singleton] at hc
      omega
    · rw [digsN_more h]
      intro c hc
      rcases List.mem_append.1 hc with hc | hc
      · exact ih (u / 10) (by omega) c hc
      · rw [List.mem_singleton] at hc
        omega
theorem digsN_ne (u : Nat) : digsN u ≠ [] := by
  by_cases h : u < 10
  · rw [digsN_small h]; exact List.cons_ne_nil _ _
  · rw [digsN_more h]; exact List.append_ne_nil_of_right_ne_nil _ (List.cons_ne_nil _ _)
theorem numG_append (base : Nat) : ∀ (l r : List Nat) (n : Nat), numG base (l ++ r) n = (numG base l n).bind (numG base r)
  | [], r, n => rfl
  | c :: l, r, n => by
    show numG base (c :: (l ++ r)) n = _
    unfold numG
    split
    · rfl
    · exact numG_append base l r _
theorem digV_dig {d : Nat} (h : d < 10) : digV (48 + d) = d := by unfold digV; rw [if_pos (by omega)]; omega
theorem numG_digs (u : Nat) (h : u ≤ 4611686018427387904) : numG 10 (digsN u) 0 = some u := by
  induction u using Nat.strongRecOn with
  | ind u ih =>
    by_cases hu : u < 10
    · rw [digsN_small hu]
      unfold numG
      rw [digV_dig hu, if_neg (by omega)]
      simp [numG]
    · rw [digsN_more hu, numG_append, ih (u / 10) (by omega) (by omega)]
      show numG 10 [48 + u % 10] (u / 10) = _
      unfold numG
      rw [digV_dig (by omega), if_neg (by omega)]
      simp only [numG, Option.some.injEq]
      omega
theorem runN_digs : ∀ {l : List Nat}, (∀ c ∈ l, 48 ≤ c ∧ c ≤ 57) → runN 10 l = l.length
  | [], _ => rfl
  | c :: l, h => by
    have hc := h c (List.mem_cons_self ..)
    unfold runN
    rw [if_pos (by unfold isDig digV; rw [if_pos hc]; exact decide_eq_true (by omega)), runN_digs fun x hx => h x (List.mem_cons_of_mem _ hx)]
    rfl
theorem slash_no : ∀ {l : List Nat}, (∀ c ∈ l, 48 ≤ c ∧ c ≤ 57) → slashAt l = none
  | [], _ => rfl
  | c :: l, h => by
    have hc := h c (List.mem_cons_self ..)
    unfold slashAt
    rw [if_neg (by omega), slash_no fun x hx => h x (List.mem_cons_of_mem _ hx)]
    rfl
theorem slash_yes : ∀ {l : List Nat} (r : List Nat), (∀ c ∈ l, 48 ≤ c ∧ c ≤ 57) → slashAt (l ++ 47 :: r) = some l.length
  | [], r, _ => by show slashAt (47 :: r) = _; unfold slashAt; rw [if_pos rfl]; rfl
  | c :: l, r, h => by
    have hc := h c (List.mem_cons_self ..)
    show slashAt (c :: (l ++ 47 :: r)) = _
    unfold slashAt
    rw [if_neg (by omega), slash_yes r fun x hx => h x (List.mem_cons_of_mem _ hx)]
    rfl
theorem hexHead_no {l : List Nat} (h : ∀ c ∈ l, 48 ≤ c ∧ c ≤ 57) : hexHead l = false := by
  match l, h with
  | [], _ => rfl
  | [_], _ => rfl
  | [_, _], _ => rfl
  | a :: x :: d :: r, h =>
    have hx := h x (by simp)
    show (a == 48 && (x == 120 || x == 88) && isDig 16 d) = false
    have h1 : (x == 120) = false := beq_eq_false_iff_ne.2 (by omega)
    have h2 : (x == 88) = false := beq_eq_false_iff_ne.2 (by omega)
    rw [h1, h2]
    simp
theorem redN_one {p q : Int} (h1 : 1 ≤ q) (h2 : q ≤ 2147483647) (h3 : -2147483647 ≤ p) (h4 : p ≤ 2147483647) (hg : Int.gcd p q = 1) : redN p q = .ok (p, q) := by
  unfold redN
  rw [if_neg (by omega)]
  unfold redPos
  rw [hg]
  show rangeN (p / 1) (q / 1) = _
  rw [Int.ediv_one, Int.ediv_one]
  unfold rangeN
  rw [if_pos]
  rw [Bool.and_eq_true]
  exact ⟨inTop_iff.2 ⟨h3, h4⟩, decide_eq_true h2⟩
theorem makeN_one {p q : Int} (h1 : 1 ≤ q) (h2 : q ≤ 2147483647) (h3 : -2147483647 ≤ p) (h4 : p ≤ 2147483647) (hg : Int.gcd p q = 1) : makeN p q = .ok (p, q) := by
  unfold makeN
  rw [if_neg (by omega), if_pos]
  · exact redN_one h1 h2 h3 h4 hg
  · unfold in62
    simp only [Bool.and_eq_true, decide_eq_true_eq]
    omega
/-- The text of a number without its sign. -/
theorem unsigned_int {u : Nat} (h : u ≤ 2147483647) : unsignedG (digsN u) = .ok ((u : Int), 1) := by
  have ha := digsN_all u
  unfold unsignedG
  rw [slash_no ha]
  have hr := runN_digs ha
  have hp : placesN (digsN u) (runN 10 (digsN u)) = 0 := by
    unfold placesN
    rw [hr, List.getElem?_eq_none (Nat.le_refl _), if_neg (by simp)]
  have hl : 0 < (digsN u).length := List.length_pos_iff.2 (digsN_ne u)
  have hn : numeralG (digsN u) = ((digsN u).length, decN (digsN u) 0) := by
    unfold numeralG
    rw [hexHead_no ha, if_neg (by simp), if_neg (by omega), if_pos hp, hr, List.take_length]
  show (if (numeralG (digsN u)).1 = 0 ∨ (numeralG (digsN u)).1 < (digsN u).length then _ else (numeralG (digsN u)).2) = _
  rw [hn]
  rw [if_neg (by show ¬((digsN u).length = 0 ∨ (digsN u).length < (digsN u).length); omega)]
  show decN (digsN u) 0 = _
  unfold decN
  rw [numG_digs u (by omega)]
  show (if 9 < 0 then _ else makeN (u : Int) ((10 ^ 0 : Nat) : Int)) = _
  rw [if_neg (by omega)]
  exact makeN_one (by decide) (by decide) (by omega) (by omega) (by simp)
theorem digits_digs (u : Nat) : digitsN (digsN u) = true := by
  unfold digitsN
  rw [runN_digs (digsN_all u)]
  cases h : digsN u with
  | nil => exact absurd h (digsN_ne u)
  | cons c l => simp
theorem unsigned_frac {p q : Nat} (hp : p ≤ 2147483647) (h1 : 1 ≤ q) (hq : q ≤ 2147483647) (hg : Int.gcd p q = 1) : unsignedG (digsN p ++ 47 :: digsN q) = .ok ((p : Int), (q : Int)) := by
  unfold unsignedG
  rw [slash_yes _ (digsN_all p)]
  show fractionN ((digsN p ++ 47 :: digsN q).take (digsN p).length) ((digsN p ++ 47 :: digsN q).drop ((digsN p).length + 1)) = _
  rw [List.take_left' rfl, List.drop_append, List.drop_eq_nil_of_le (Nat.le_succ _), show (digsN p).length + 1 - (digsN p).length = 1 by omega]
  show fractionN (digsN p) (digsN q) = _
  unfold fractionN
  rw [digits_digs, digits_digs, numG_digs p (by omega), numG_digs q (by omega)]
  show (if q = 0 then _ else makeN (p : Int) (q : Int)) = _
  rw [if_neg (by omega)]
  exact makeN_one (by omega) (by omega) (by omega) (by omega) hg
theorem trim_no {l : List Nat} (h : ∀ c ∈ l, c = 45 ∨ (47 ≤ c ∧ c ≤ 57)) : trimG l = l := by
  have hb : ∀ c ∈ l, isBlank c = false := fun c hc => by
    have := h c hc
    simp only [isBlank, Bool.or_eq_false_iff, beq_eq_false_iff_ne]
    omega
  have hd : ∀ (m : List Nat), (∀ c ∈ m, isBlank c = false) → m.dropWhile isBlank = m := fun m hm => by
    cases m with
    | nil => rfl
    | cons c m => rw [List.dropWhile_cons, hm c (List.mem_cons_self ..)]; rfl
  unfold trimG
  rw [hd l hb, hd l.reverse fun c hc => hb c (List.mem_reverse.1 hc), List.reverse_reverse]
theorem bytes_itoa (n : Int) : bytesOf (itoaB n) = if n < 0 then 45 :: digsN n.natAbs else digsN n.natAbs := by
  unfold itoaB
  rw [bytes_list]
  unfold Lib.itoa
  split
  · rfl
  · rw [show n.natAbs = n.toNat by omega]; rfl
theorem parse_text {a : N2} (h : validN a = true) : parseG (bytesOf (textB a)) = .ok a := by
  obtain ⟨p, q⟩ := a
  obtain ⟨h1, h2, h3, h4, hg⟩ := validN_iff.1 h
  simp only at h1 h2 h3 h4 hg
  -- the body without sign
  have hbody : ∃ t : List Nat, t ≠ [] ∧ (∀ c ∈ t, 47 ≤ c ∧ c ≤ 57) ∧ t.head? ≠ some 45 ∧ unsignedG t = .ok ((p.natAbs : Int), q) ∧ bytesOf (textB (p, q)) = if p < 0 then 45 :: t else t := by
    unfold textB
    rw [if_pos h]
    by_cases hq : q = 1
    · subst hq
      refine ⟨digsN p.natAbs, digsN_ne _, fun c hc => by have := digsN_all _ c hc; omega, ?_, unsigned_int (by omega), ?_⟩
      · intro e
        have := digsN_all _ 45 (List.mem_of_mem_head? e)
        omega
      · rw [if_pos rfl]
        exact bytes_itoa p
    · refine ⟨digsN p.natAbs ++ 47 :: digsN q.natAbs, List.append_ne_nil_of_left_ne_nil (digsN_ne _) _, ?_, ?_, ?_, ?_⟩
      · intro c hc
        rcases List.mem_append.1 hc with hc | hc
        · have := digsN_all _ c hc; omega
        · rcases List.mem_cons.1 hc with rfl | hc
          · omega
          · have := digsN_all _ c hc; omega
      · intro e
        have hm := List.mem_of_mem_head? e
        rcases List.mem_append.1 hm with hc | hc
        · have := digsN_all _ _ hc; omega
        · rcases List.mem_cons.1 hc with hc | hc
          · omega
          · have := digsN_all _ _ hc; omega
      · have hqq : ((q.natAbs : Nat) : Int) = q := by omega
        have := unsigned_frac (p := p.natAbs) (q := q.natAbs) (by omega) (by omega) (by omega) (by simpa [Int.gcd] using hg)
        rw [hqq] at this
        exact this
      · rw [if_neg hq, bytesOf_append, bytesOf_append, bytes_itoa, bytes_itoa, if_neg (by omega : ¬ q < 0)]
        show (if p < 0 then 45 :: digsN p.natAbs else digsN p.natAbs) ++ [47] ++ digsN q.natAbs = _
        split
        · simp
        · simp
  obtain ⟨t, hne, hall, hhd, hun, hby⟩ := hbody
  rw [hby]
  unfold parseG
  by_cases hp : p < 0
  · rw [if_pos hp, trim_no (by intro c hc; rcases List.mem_cons.1 hc with rfl | hc; exact .inl rfl; exact .inr (hall c hc))]
    show (if (45 : Nat) = 45 then minusN (unsignedG t) else unsignedG (45 :: t)) = _
    rw [if_pos rfl, hun]
    show Except.ok (-(p.natAbs : Int), q) = _
    rw [show -(p.natAbs : Int) = p by omega]
  · rw [if_neg hp, trim_no fun c hc => .inr (hall c hc)]
    cases t with
    | nil => exact absurd rfl hne
    | cons c r =>
      show (if c = 45 then minusN (unsignedG r) else unsignedG (c :: r)) = _
      rw [if_neg (fun e => hhd (by rw [e]; rfl)), hun]
      rw [show (p.natAbs : Int) = p by omega]
def dc (d : Nat) : Nat := if d < 10 then 48 + d else 87 + d
def dB (b u : Nat) : List Nat := if h : u < b ∨ b < 2 then [dc u] else dB b (u / b) ++ [dc (u % b)]
termination_by u
decreasing_by
  have h2 : ¬ u < b ∧ ¬ b < 2 := not_or.1 h
  exact Nat.div_lt_self (by omega) (by omega)
theorem dB_small {b u : Nat} (h : u < b) : dB b u = [dc u] := by
  unfold dB
  rw [dif_pos (.inl h)]
theorem dB_more {b u : Nat} (hb : 2 ≤ b) (h : b ≤ u) : dB b u = dB b (u / b) ++ [dc (u % b)] := by
  rw [dB, dif_neg (by omega)]
theorem dc_ok {d : Nat} (h : d < 36) : dgV (dc d) = d ∧ ((48 ≤ dc d ∧ dc d ≤ 57) ∨ (97 ≤ dc d ∧ dc d ≤ 122)) := by
  unfold dc dgV
  by_cases h1 : d < 10
  · rw [if_pos h1, if_pos (by omega)]; omega
  · rw [if_neg h1, if_neg (by omega), if_pos (by omega)]; omega
theorem dB_all {b : Nat} (hb : 2 ≤ b) (hb2 : b ≤ 36) (u : Nat) : ∀ c ∈ dB b u, (48 ≤ c ∧ c ≤ 57) ∨ (97 ≤ c ∧ c ≤ 122) := by
  induction u using Nat.strongRecOn with
  | ind u ih =>
    intro c hc
    by_cases h : u < b
    · rw [dB_small h, List.mem_singleton] at hc
      subst hc
      exact (dc_ok (by omega)).2
    · rw [dB_more hb (by omega), List.mem_append, List.mem_singleton] at hc
      rcases hc with hc | rfl
      · exact ih (u / b) (Nat.div_lt_self (by omega) (by omega)) c hc
      · exact (dc_ok (Nat.lt_of_lt_of_le (Nat.mod_lt _ (by omega)) hb2)).2
theorem dB_ne {b : Nat} (u : Nat) : dB b u ≠ [] := by
  unfold dB
  split
  · simp
  · simp
theorem dgM_append (b : Nat) : ∀ (l r : List Nat) (n : Nat), dgM b (l ++ r) n = (dgM b l n).bind (dgM b r)
  | [], r, n => rfl
  | c :: l, r, n => by
    show dgM b (c :: (l ++ r)) n = _
    unfold dgM
    by_cases h : b ≤ dgV c
    · rw [if_pos h, if_pos h]; rfl
    · rw [if_neg h, if_neg h]
      exact dgM_append b l r _
theorem dgM_dB {b : Nat} (hb : 2 ≤ b) (hb2 : b ≤ 36) (u : Nat) (hu : u ≤ 2147483647) : dgM b (dB b u) 0 = some u := by
  induction u using Nat.strongRecOn with
  | ind u ih =>
    by_cases h : u < b
    · rw [dB_small h]
      unfold dgM
      rw [(dc_ok (by omega)).1, if_neg (by omega)]
      show some (min (0 * b + u) 2147483648) = some u
      congr 1
      omega
    · have hq : u / b < u := Nat.div_lt_self (by omega) (by omega)
      have hr : u % b < b := Nat.mod_lt _ (by omega)
      have hd : u / b * b + u % b = u := by rw [Nat.mul_comm]; exact Nat.div_add_mod u b
      rw [dB_more hb (by omega), dgM_append, ih (u / b) hq (by omega)]
      show dgM b [dc (u % b)] (u / b) = some u
      unfold dgM
      rw [(dc_ok (by omega)).1, if_neg (by omega), hd]
      show some (min u 2147483648) = some u
      congr 1
      omega
theorem dB_ten (u : Nat) : dB 10 u = digsN u := by
  induction u using Nat.strongRecOn with
  | ind u ih =>
    by_cases h : u < 10
    · rw [dB_small h, digsN_small h]
      unfold dc
      rw [if_pos h]
    · rw [dB_more (by decide) (by omega), digsN_more h, ih (u / 10) (Nat.div_lt_self (by omega) (by decide))]
      unfold dc
      rw [if_pos (by omega)]
/-- The text of an integer in a base. -/
def bText (b : Nat) (p : Int) : List Nat := if p < 0 then 45 :: dB b p.natAbs else dB b p.natAbs
theorem trim_none {l : List Nat} (h : ∀ c ∈ l, isBlank c = false) : trimG l = l := by
  have hd : ∀ (m : List Nat), (∀ c ∈ m, isBlank c = false) → m.dropWhile isBlank = m := fun m hm => by
    cases m with
    | nil => rfl
    | cons c m => rw [List.dropWhile_cons, hm c (List.mem_cons_self ..)]; rfl
  unfold trimG
  rw [hd l h, hd l.reverse fun c hc => h c (List.mem_reverse.1 hc), List.reverse_reverse]
theorem bText_trim {b : Nat} (hb : 2 ≤ b) (hb2 : b ≤ 36) (p : Int) : trimG (bText b p) = bText b p := by
  apply trim_none
  intro c hc
  have hn : c = 45 ∨ (48 ≤ c ∧ c ≤ 57) ∨ (97 ≤ c ∧ c ≤ 122) := by
    unfold bText at hc
    split at hc
    · rcases List.mem_cons.1 hc with h | h
      · exact .inl h
      · exact .inr (dB_all hb hb2 _ c h)
    · exact .inr (dB_all hb hb2 _ c hc)
  simp only [isBlank, Bool.or_eq_false_iff, beq_eq_false_iff_ne]
  omega
theorem cells14 {w : World} {b : Nat} {c0 c1 c2 c3 c4 c5 c6 c7 c8 c9 c10 c11 c12 c13 : Value} {t : TypeId} {fz : Nat × Nat} (h : w.heap[b]? = some (.cells #[c0, c1, c2, c3, c4, c5, c6, c7, c8, c9, c10, c11, c12, c13] t fz)) :
    w.cell? ⟨b, 0, none⟩ = some c0 ∧ w.cell? ⟨b, 1, none⟩ = some c1 ∧ w.cell? ⟨b, 2, none⟩ = some c2 ∧ w.cell? ⟨b, 3, none⟩ = some c3 ∧ w.cell? ⟨b, 4, none⟩ = some c4 ∧ w.cell? ⟨b, 5, none⟩ = some c5 ∧ w.cell? ⟨b, 6, none⟩ = some c6 ∧ w.cell? ⟨b, 7, none⟩ = some c7 ∧ w.cell? ⟨b, 8, none⟩ = some c8 ∧ w.cell? ⟨b, 9, none⟩ = some c9 ∧ w.cell? ⟨b, 10, none⟩ = some c10 ∧ w.cell? ⟨b, 11, none⟩ = some c11 ∧ w.cell? ⟨b, 12, none⟩ = some c12 ∧ w.cell? ⟨b, 13, none⟩ = some c13 := by
  refine ⟨?_, ?_, ?_, ?_, ?_, ?_, ?_, ?_, ?_, ?_, ?_, ?_, ?_, ?_⟩ <;> (rw [cell_of_heap h]; rfl)
theorem froz14 {w : World} {b : Nat} {cs : Array Value} {t : TypeId} (h : w.heap[b]? = some (.cells cs t (0, 0))) :
    w.frozen? ⟨b, 0, none⟩ = false ∧ w.frozen? ⟨b, 1, none⟩ = false ∧ w.frozen? ⟨b, 2, none⟩ = false ∧ w.frozen? ⟨b, 3, none⟩ = false ∧ w.frozen? ⟨b, 4, none⟩ = false ∧ w.frozen? ⟨b, 5, none⟩ = false ∧ w.frozen? ⟨b, 6, none⟩ = false ∧ w.frozen? ⟨b, 7, none⟩ = false ∧ w.frozen? ⟨b, 8, none⟩ = false ∧ w.frozen? ⟨b, 9, none⟩ = false ∧ w.frozen? ⟨b, 10, none⟩ = false ∧ w.frozen? ⟨b, 11, none⟩ = false ∧ w.frozen? ⟨b, 12, none⟩ = false ∧ w.frozen? ⟨b, 13, none⟩ = false := by
  refine ⟨?_, ?_, ?_, ?_, ?_, ?_, ?_, ?_, ?_, ?_, ?_, ?_, ?_, ?_⟩ <;> exact frozen_of_heap h _
theorem args_none {w : World} {b : Nat} {av : Value} (h : ArgsAt w b av []) : av = .slice none 0 0 := by
  rcases h with ⟨_, h⟩ | ⟨_, _, _, h, _⟩
  · exact h
  · cases h
abbrev tosN : ByteArray := ⟨#[116, 111, 115, 116, 114, 105, 110, 103]⟩
theorem tosN_last : Lib.lastIndexByte tosN 46 = -1 := by kernel_rfl
theorem at_tostring : Lib.idxOfS namesL tosN = 26 := by kernel_rfl
def isP2 (b : Nat) : Bool := b == 2 || b == 4 || b == 8 || b == 16 || b == 32
theorem base_ways {b : Nat} (h1 : 2 ≤ b) (h2 : b ≤ 36) : b = 2 ∨ b = 3 ∨ b = 4 ∨ b = 5 ∨ b = 6 ∨ b = 7 ∨ b = 8 ∨ b = 9 ∨ b = 10 ∨ b = 11 ∨ b = 12 ∨ b = 13 ∨ b = 14 ∨ b = 15 ∨ b = 16 ∨ b = 17 ∨ b = 18 ∨ b = 19 ∨ b = 20 ∨ b = 21 ∨ b = 22 ∨ b = 23 ∨ b = 24 ∨ b = 25 ∨ b = 26 ∨ b = 27 ∨ b = 28 ∨ b = 29 ∨ b = 30 ∨ b = 31 ∨ b = 32 ∨ b = 33 ∨ b = 34 ∨ b = 35 ∨ b = 36 := by omega
abbrev dig36 : ByteArray := ⟨#[48, 49, 50, 51, 52, 53, 54, 55, 56, 57, 97, 98, 99, 100, 101, 102, 103, 104, 105, 106, 107, 108, 109, 110, 111, 112, 113, 114, 115, 116, 117, 118, 119, 120, 121, 122]⟩
theorem dig36_at : ∀ d : Fin 36, (dig36[d.1]?).map (·.toNat) = some (dc d.1) := by decide
theorem u64_in {n : Int} (h1 : 0 ≤ n) (h2 : n ≤ 4294967296) : IntKind.u64.wrap n = n := by
  simp [IntKind.wrap, IntKind.bits, IntKind.signed]
  omega
theorem zero133 : (Tryz.zeroCells133).size = 65 := by kernel_rfl
/-- What the array holds: the digits so far. -/
structure FbR (w : World) (b U u i k : Nat) (wr : World) : Prop where
  pow : u < 2 ^ k
  room : k + 33 ≤ i
  top : i ≤ 65
  bel : Below w.heap.size w wr
  arr : ∃ (cs : Array Value) (l : List Nat), wr.heap[w.heap.size]? = some (.cells cs 133) ∧ cs.size = 65 ∧ cs.toList.drop i = l.map (fun c : Nat => Value.int .u8 (c : Int)) ∧ dB b u ++ l = dB b U
theorem fb_cell {w : World} {b U u i k : Nat} {wr : World} (h : FbR w b U u i k wr) {j : Nat} (hj : j < 65) : (∃ v, wr.cell? ⟨w.heap.size, j, none⟩ = some v) ∧ wr.frozen? ⟨w.heap.size, j, none⟩ = false := by
  obtain ⟨cs, l, h1, h2, _⟩ := h.arr
  exact ⟨⟨cs[j]'(by omega), by rw [cell_of_heap h1]; exact Array.getElem?_eq_getElem _⟩, frozen_of_heap h1 _⟩
theorem fb_start (w : World) (b U : Nat) (hU : U ≤ 2147483648) : FbR w b U U 65 32 (w.alloc (.cells Tryz.zeroCells133 133)) := by
  refine ⟨Nat.lt_of_le_of_lt hU (by decide), by decide, by decide, below1 _ _, ⟨_, [], heap_new w _, zero133, ?_, List.append_nil _⟩⟩
  exact List.drop_eq_nil_of_le (by rw [Array.length_toList, zero133]; exact Nat.le_refl _)
theorem drop_set {cs : List Value} {j : Nat} {v : Value} (hj : j < cs.length) : (cs.set j v).drop j = v :: cs.drop (j + 1) := by
  rw [List.drop_eq_getElem_cons (by simpa using hj)]
  congr 1
  · simp
  · rw [List.drop_set_of_lt (by omega)]
theorem fb_put {w wr : World} {cs : Array Value} {j : Nat} {l : List Nat} (c : Nat) (x : Int) (hx : x = (c : Int)) (hb : Below w.heap.size w wr) (h1 : wr.heap[w.heap.size]? = some (.cells cs 133)) (h2 : cs.size = 65) (hj : j < 65) (h3 : cs.toList.drop (j + 1) = l.map (fun c : Nat => Value.int .u8 (c : Int))) :
    Below w.heap.size w (wr.setCell ⟨w.heap.size, j, none⟩ (.int .u8 x)) ∧ ∃ cs2 : Array Value, (wr.setCell ⟨w.heap.size, j, none⟩ (.int .u8 x)).heap[w.heap.size]? = some (.cells cs2 133) ∧ cs2.size = 65 ∧ cs2.toList.drop j = (c :: l).map (fun c : Nat => Value.int .u8 (c : Int)) := by
  subst hx
  refine ⟨hb.setCell (p := ⟨w.heap.size, j, none⟩) (Nat.le_refl _) _, _, heap_setCell_same h1 j _, by simpa using h2, ?_⟩
  rw [Array.toList_setIfInBounds, drop_set (by rw [Array.length_toList, h2]; exact hj), h3]
  rfl
theorem fb_step {w : World} {b U u j k : Nat} {wr : World} (h : FbR w b U u (j + 1) k wr) (hb : 2 ≤ b) (hu : b ≤ u) : FbR w b U (u / b) j (k - 1) (wr.setCell ⟨w.heap.size, j, none⟩ (.int .u8 (dc (u % b) : Nat))) := by
  obtain ⟨hp, hr, ht, hbl, cs, l, h1, h2, h3, h4⟩ := h
  obtain ⟨hb2, cs2, g1, g2, g3⟩ := fb_put (dc (u % b)) _ rfl hbl h1 h2 (by omega) h3
  have hk : k ≠ 0 := by
    intro e
    subst e
    simp at hp
    omega
  have hpow : 2 ^ k = 2 ^ (k - 1) * 2 := by rw [← Nat.pow_succ]; congr 1; omega
  refine ⟨?_, by omega, by omega, hb2, cs2, dc (u % b) :: l, g1, g2, g3, ?_⟩
  · rw [hpow] at hp
    refine Nat.div_lt_of_lt_mul (Nat.lt_of_lt_of_le hp ?_)
    rw [Nat.mul_comm]
    exact Nat.mul_le_mul_right _ hb
  · rw [← h4, dB_more hb hu, List.append_assoc]; rfl
theorem fb_last {w : World} {b U u j k : Nat} {wr : World} (h : FbR w b U u (j + 1) k wr) (hu : u < b) :
    Below w.heap.size w (wr.setCell ⟨w.heap.size, j, none⟩ (.int .u8 (dc u : Nat))) ∧ ∃ cs2 : Array Value, (wr.setCell ⟨w.heap.size, j, none⟩ (.int .u8 (dc u : Nat))).heap[w.heap.size]? = some (.cells cs2 133) ∧ cs2.size = 65 ∧ cs2.toList.drop j = (dB b U).map (fun c : Nat => Value.int .u8 (c : Int)) := by
  obtain ⟨hp, hr, ht, hbl, cs, l, h1, h2, h3, h4⟩ := h
  obtain ⟨hb2, cs2, g1, g2, g3⟩ := fb_put (dc u) _ rfl hbl h1 h2 (by omega) h3
  refine ⟨hb2, cs2, g1, g2, ?_⟩
  rw [g3, ← h4, dB_small hu]
  rfl
theorem fb_room {w : World} {b U u j k : Nat} {wr : World} (h : FbR w b U u (j + 1) k wr) (hu : 2 ≤ u) : 34 ≤ j := by
  have h1 := h.pow
  have h2 := h.room
  rcases Nat.lt_or_ge k 2 with hk | hk
  · have : k = 0 ∨ k = 1 := by omega
    rcases this with rfl | rfl
    · simp at h1; omega
    · simp at h1; omega
  · omega
theorem arr133 : Tryz.prog.underlying 133 = some (.array (Tryz.prog.arrayLen 133) (Tryz.prog.elem 133)) := by kernel_rfl
theorem len133 : Tryz.prog.arrayLen 133 = 65 := by kernel_rfl
theorem el133 : Tryz.prog.elem 133 = 5 := by kernel_rfl
theorem sl65 (W : World) (g j : Nat) (hj : j < 65) : (Instr.sliceAt 133 (.pointer (some ⟨g, 0, none⟩)) (some (.int .i64 (j : Int))) none none).run Tryz.prog W = .ok (.slice (some ⟨g, j, none⟩) (65 - j) (65 - j)) W := by
  rw [run_sliceAt_array_l W 133 ⟨g, 0, none⟩ arr133 .i64 (j : Int) (by omega) (by rw [len133]; omega), el133, Tryz.sizeOf5]
  simp only [Result.andThen_ok]
  unfold slicedAt
  rw [len133, Int.toNat_natCast, if_neg (by omega), add_none, Nat.mul_one, Nat.zero_add]
theorem fb_conv {W : World} {g j : Nat} {cs : Array Value} {D : List Nat} (h1 : W.heap[g]? = some (.cells cs 133)) (h2 : cs.size = 65) (h3 : cs.toList.drop j = D.map (fun c : Nat => Value.int .u8 (c : Int))) (hD : ∀ c ∈ D, c < 256) (hj : j ≤ 65) :
    (convert 100 9 (.slice (some ⟨g, j, none⟩) (65 - j) (65 - j))).run Tryz.prog W = .ok (.string ⟨(D.map UInt8.ofNat).toArray⟩) W ∧ bytesOf ⟨(D.map UInt8.ofNat).toArray⟩ = D := by
  have hl : D.length = 65 - j := by
    have := congrArg List.length h3
    rw [List.length_drop, List.length_map, Array.length_toList, h2] at this
    omega
  constructor
  · have := run_convert_bytes_back (P := Tryz.prog) W 100 9 5 ⟨g, j, none⟩ (65 - j) (D.map UInt8.ofNat) Tryz.underlying100 Tryz.underlying5 Tryz.underlying9 (fun i hi => by
      rw [List.length_map] at hi
      rw [add_none, cell_of_heap h1, ← Array.getElem?_toList]
      have h4 : (cs.toList.drop j)[i]? = some (Value.int .u8 ((D[i] : Nat) : Int)) := by rw [h3, List.getElem?_map, List.getElem?_eq_getElem hi]; rfl
      rw [List.getElem?_drop] at h4
      rw [h4, List.getElem_map, UInt8.toNat_ofNat_of_lt' (by have := hD D[i] (List.getElem_mem hi); simpa using this)])
    rw [List.length_map, hl] at this
    exact this
  · show ((D.map UInt8.ofNat).map UInt8.toNat) = D
    rw [List.map_map]
    have : ∀ (l : List Nat), (∀ c ∈ l, c < 256) → l.map (UInt8.toNat ∘ UInt8.ofNat) = l := fun l hl => by
      induction l with
      | nil => rfl
      | cons c l ih =>
        rw [List.map_cons, ih (fun x hx => hl x (List.mem_cons_of_mem _ hx))]
        congr 1
        exact UInt8.toNat_ofNat_of_lt' (by have := hl c (List.mem_cons_self ..); simpa using this)
    exact this D hD
theorem fb_start2 {w w2 : World} {b : Nat} (U : Nat) (hU : U ≤ 2147483648) (hb : Below (w.alloc (.cells Tryz.zeroCells133 133)).heap.size (w.alloc (.cells Tryz.zeroCells133 133)) w2) : FbR w b U U 65 32 w2 := by
  refine ⟨Nat.lt_of_le_of_lt hU (by decide), by decide, by decide, below_next (below1 _ _) hb, ⟨_, [], hkeep hb (heap_new w _), zero133, ?_, List.append_nil _⟩⟩
  exact List.drop_eq_nil_of_le (by rw [Array.length_toList, zero133]; exact Nat.le_refl _)
def P2 (b s : Nat) : Prop := b = 2 ∧ s = 1 ∨ b = 4 ∧ s = 2 ∨ b = 8 ∧ s = 3 ∨ b = 16 ∧ s = 4 ∨ b = 32 ∧ s = 5
theorem mask_one {u n m : Nat} {x : Int} (hu : u ≤ 4294967295) (hx : (BitVec.ofInt 64 x).toNat = 2 ^ n - 1) (hm : 2 ^ n = m) (h32 : m ≤ 32) : bits .and .u64 (u : Int) x = ((u % m : Nat) : Int) := by
  show IntKind.u64.wrap ((BitVec.ofInt 64 (u : Int) &&& BitVec.ofInt 64 x).toNat : Int) = _
  have hm0 : 0 < m := by rw [← hm]; exact Nat.two_pow_pos n
  rw [BitVec.toNat_and, BitVec.toNat_ofInt, hx, Nat.and_two_pow_sub_one_eq_mod, hm]
  have e : (((u : Int) % ((2 ^ 64 : Nat) : Int)).toNat : Nat) = u := by
    have e2 : ((2 ^ 64 : Nat) : Int) = 18446744073709551616 := by decide
    rw [e2]
    omega
  rw [e]
  have : u % m < m := Nat.mod_lt _ hm0
  exact u64_in (by omega) (by omega)
theorem mask_p {u b s : Nat} (hu : u ≤ 4294967295) (h : P2 b s) : bits .and .u64 (u : Int) ((b : Int) - 1) = ((u % b : Nat) : Int) := by
  rcases h with ⟨rfl, rfl⟩ | ⟨rfl, rfl⟩ | ⟨rfl, rfl⟩ | ⟨rfl, rfl⟩ | ⟨rfl, rfl⟩
  · exact mask_one (n := 1) hu (by decide) rfl (by decide)
  · exact mask_one (n := 2) hu (by decide) rfl (by decide)
  · exact mask_one (n := 3) hu (by decide) rfl (by decide)
  · exact mask_one (n := 4) hu (by decide) rfl (by decide)
  · exact mask_one (n := 5) hu (by decide) rfl (by decide)
theorem shift_p {u b s : Nat} (h : P2 b s) : (u : Int) / 2 ^ s = ((u / b : Nat) : Int) := by
  rcases h with ⟨rfl, rfl⟩ | ⟨rfl, rfl⟩ | ⟨rfl, rfl⟩ | ⟨rfl, rfl⟩ | ⟨rfl, rfl⟩
  · rw [show ((2 : Int) ^ 1) = 2 by decide]; omega
  · rw [show ((2 : Int) ^ 2) = 4 by decide]; omega
  · rw [show ((2 : Int) ^ 3) = 8 by decide]; omega
  · rw [show ((2 : Int) ^ 4) = 16 by decide]; omega
  · rw [show ((2 : Int) ^ 5) = 32 by decide]; omega
def bruijnTab : List Int := [0, 1, 56, 2, 57, 49, 28, 3, 61, 58, 42, 50, 38, 29, 17, 4, 62, 47, 59, 36, 45, 43, 51, 22, 53, 39, 33, 30, 24, 18, 12, 5, 63, 55, 48, 27, 60, 41, 37, 16, 46, 35, 44, 21, 52, 32, 23, 11, 54, 26, 40, 15, 34, 20, 31, 10, 25, 14, 19, 9, 13, 8, 7, 6]
def Bruijn (w : World) : Prop := Lib.TabIs Tryz.prog w "math/bits.deBruijn64tab" .u8 bruijnTab
theorem bruijn_glob : (Tryz.prog.globalNamed "math/bits.deBruijn64tab").isSome = true := by kernel_rfl
theorem Bruijn.stays {w w' : World} (h : Bruijn w) (hb : Below w.heap.size w w') : Bruijn w' := by
  obtain ⟨g, hg⟩ := Option.isSome_iff_exists.1 bruijn_glob
  exact Joins.tab_stays hg h hb (Nat.le_refl _)
theorem bruijn_at {w : World} (h : Bruijn w) {i : Nat} {v : Int} (hv : bruijnTab[i]? = some v) : w.cell? ⟨5, i, none⟩ = some (.int .u8 v) := by
  have hg : Tryz.prog.globalNamed "math/bits.deBruijn64tab" = some 5 := by kernel_rfl
  unfold Bruijn Lib.TabIs World.var? at h
  rw [hg] at h
  simp only [Option.bind_some] at h
  split at h
  · rename_i cs t f he
    injection h with h
    rw [cell_of_heap (fz := f) he, h, List.getElem?_toArray, List.getElem?_map, hv]
    rfl
  · cases h
def FmtPost (w : World) (b : Nat) (p : Int) (e : Ending) (w' : World) : Prop := ∃ r, e = .returned (.string r) ∧ bytesOf r = bText b p ∧ Below w.heap.size w w'
def BasePost (w : World) (b : Nat) (p : Int) (e : Ending) (w' : World) : Prop := ∃ r, e = .returned (.tuple #[.string r, .int .i64 0]) ∧ bytesOf r = bText b p ∧ Below w.heap.size w w'
theorem numVal_good {p q : Int} (h : validN (p, q) = true) : numVal (p, q) = ⟨2, p, q, ⟨#[]⟩, 0⟩ := by unfold numVal; rw [if_pos h]
theorem numVal_bad {p q : Int} (h : validN (p, q) = false) : numVal (p, q) = V.nil := by unfold numVal; rw [h]; rfl
theorem dB_len {b : Nat} (hb : 2 ≤ b) (u : Nat) : (dB b u).length ≤ u / 2 + 1 := by
  induction u using Nat.strongRecOn with
  | ind u ih =>
    by_cases h : u < b
    · rw [dB_small h]; simp
    · have hq : u / b < u := Nat.div_lt_self (by omega) (by omega)
      have hq2 : u / b ≤ u / 2 := Nat.div_le_div_left hb (by decide)
      have := ih (u / b) hq
      rw [dB_more hb (by omega), List.length_append, List.length_singleton]
      rcases Nat.lt_or_ge u 4 with h4 | h4
      · have : u / b ≤ 1 := by omega
        omega
      · omega
theorem dg_full {b : Nat} (hb : 2 ≤ b) (hb2 : b ≤ 36) {Y : ByteArray} {m : Nat} (hm : m ≤ 2147483647) (hY : bytesOf Y = dB b m) : Y.size ≤ 2000000000 ∧ dgOut Y (dgM b (bytesOf Y) 0) = ((m : Int), true) := by
  have hl : Y.size = (dB b m).length := by rw [← hY, bytesOf_length]
  have h1 := dB_len hb m
  have h2 : (dB b m).length ≠ 0 := fun h => dB_ne m (List.eq_nil_of_length_eq_zero h)
  refine ⟨by omega, ?_⟩
  rw [hY, dgM_dB hb hb2 m hm]
  show ((m : Int), decide (Y.size ≠ 0 ∧ m ≤ 2147483647)) = _
  rw [decide_eq_true (by omega)]
theorem vals_one_m (w : World) (v : V) (m : Nat) (hm : m = w.heap.size) : Vals (w.alloc (.cells #[.int .i64 v.k, .int .i64 v.p, .int .i64 v.q, .string v.s, .int .i64 v.r] 30)) (.slice (some ⟨m, 0, none⟩) 1 1) [v] := by
  subst hm
  exact vals_one w v
theorem vals_head {w : World} {g o n cap : Nat} {v : V} {A : List V} (h : Vals w (.slice (some ⟨g, o, none⟩) n cap) (v :: A)) :
    w.cell? ⟨g, o, none⟩ = some (.int .i64 v.k) ∧ w.cell? ⟨g, o + 1, none⟩ = some (.int .i64 v.p) ∧ w.cell? ⟨g, o + 2, none⟩ = some (.int .i64 v.q) ∧ w.cell? ⟨g, o + 3, none⟩ = some (.string v.s) ∧ w.cell? ⟨g, o + 4, none⟩ = some (.int .i64 v.r) := by
  have := (Vals.at_ h (i := 0) rfl).2
  simpa using this
theorem trim_same {r : ByteArray} (hr : trimG (bytesOf r) = bytesOf r) (hs : r.size ≤ 2000000000) (W : World) : Calls Tryz.prog 108 #[.string r, .string ⟨#[32, 9, 10, 13]⟩] W (fun e w' => e = .returned (.string r) ∧ Below W.heap.size W w') := by
  refine (btrim_c W r hs).mono ?_
  rintro e w1 ⟨⟨x, rfl, hx⟩, hb⟩
  rw [hr] at hx
  have : x = r := bytesOf_inj hx
  subst this
  exact ⟨rfl, hb⟩
theorem btext_size {b : Nat} (hb : 2 ≤ b) {p : Int} {r : ByteArray} (hr : bytesOf r = bText b p) (hp1 : -2147483647 ≤ p) (hp2 : p ≤ 2147483647) : r.size ≤ 2000000000 := by
  rw [← bytesOf_length, hr]
  have := dB_len hb p.natAbs
  unfold bText
  split
  · rw [List.length_cons]; omega
  · omega
end Go.Proofs.YtalfoihffnlelaaGreatDoor
namespace Go.Proofs.YtalfoihffnlelaaGreatDoor
open Go.ChangeShapes Go.WideShapes Go.ChangeAt Go.WideMaps Go.WideElems Go.RowKit
theorem Tryz.tBru : ∃ g, Tryz.prog.globalNamed "math/bits.deBruijn64tab" = some g ∧ (Tryz.prog.globals[g]?).map (·.type) = some 205 := by
  refine ⟨(Tryz.prog.globalNamed "math/bits.deBruijn64tab").getD 0, ?_, ?_⟩ <;> kernel_rfl
theorem Tryz.cBru : Tryz.prog.cellsOf 205 = 64 := by kernel_rfl
set_option maxRecDepth 100000 in
theorem bruijn_of_laid {W : World} (h : laidMetH Tryz.prog laidS W) : Bruijn W := by
  rw [MakeChecks.laidMetH_plain _ _ _ (by kernel_rfl)] at h
  obtain ⟨ps, ⟨g0, t0, cs0, f0, p0, q0, _, _, _, _, ⟨g1, t1, cs1, f1, p1, q1, hg1, ht1, hv1, hd1, _, _⟩, _⟩, _, _⟩ := h
  obtain ⟨g, hg, ht⟩ := Tryz.tBru
  obtain rfl := Option.some.inj (hg.symm.trans hg1)
  obtain rfl := Option.some.inj (ht.symm.trans ht1)
  unfold Bruijn Lib.TabIs
  rw [hv1, ← Lib.cells_of_tab (k := .u8) (zs := bruijnTab) Tryz.underlying205 Tryz.underlying5 Tryz.c8 Tryz.cBru hd1]
set_option maxRecDepth 100000 in
/-- From the walk of a law, in any memory that is shaped and holds the tables, to the lifted statement. -/
theorem liftN (os : Os) (started : os.Started) (H : Type) (enc : TypeId × Value → H) {f : FuncId} {fn : Func} {s : ChangeSpec} (noInit : Tryz.prog.inits.idxOf? f = none) (hfn : Tryz.prog.funcs[f]? = some fn)
    (witness : ∃ (w : World) (tape : Tape) (i : Input), w.os = os ∧ (w.forCall tape i).Shaped Tryz.prog ∧ i.vars = [] ∧ Input.okWide Tryz.prog (w.forCall tape i) .any w.heap.size f i ∧
      ((s.pre enc Tryz.prog fn [] false (w.forCall tape i).memory i.args ∧ laidMetH Tryz.prog laidS (w.forCall tape i).memory) ∧ sizedMet enc Tryz.prog fn (OpenSpec.ofChange s) false (w.forCall tape i).memory i.args) ∧ ({} : Assume).holds Tryz.prog (lone (Frame.enter Tryz.prog f i.args .normal) [] (w.forCall tape i)))
    (law : ∀ (W : World) (base : Nat) (args : Array Value) (ds gs : List (DataW H)) (before : List MemPlace), (Glob W ∧ Spaces W) ∧ Bruijn W → (∀ (j : Nat) t v, fn.params[j]? = some t → args[j]? = some v → Value.okWide Tryz.prog W .any base t v) →
      DataW.Whole enc Tryz.prog fn.params.toList s.vars false W args.toList ds gs before → Calls Tryz.prog f args W fun e W' => ∃ v, e = .returned v ∧ s.post enc Tryz.prog fn false true false false W args v W') :
    ReturnsInHanded {} Tryz.checked os f .any (fun w args => (s.pre enc Tryz.prog fn [] false w args ∧ laidMetH Tryz.prog laidS w) ∧ sizedMet enc Tryz.prog fn (OpenSpec.ofChange s) false w args) (s.post enc Tryz.prog fn false true false false) := by
  refine returnsInHanded_of_calls (C := Tryz.checked) Tryz.own started noInit witness ?_
  intro w tape i _ hs _ hok hpre _
  obtain ⟨_, _, _, fn', hfn', _, _, _, _, hval⟩ := hok
  obtain rfl : fn' = fn := Option.some.inj (hfn'.symm.trans hfn)
  obtain ⟨⟨⟨ds, gs, before, hw, _⟩, hx⟩, _⟩ := hpre
  have hw2 := DataW.Whole.of_heap (w' := w.forCall tape i) (by rfl) hw
  have hx2 : laidMetH Tryz.prog laidS (w.forCall tape i) := hx.of_heap (by rfl)
  refine (law (w.forCall tape i) w.heap.size i.args ds gs before ⟨⟨⟨glob_zero hs, (tabs_of_laid hx2).1⟩, (tabs_of_laid hx2).2⟩, bruijn_of_laid hx2⟩ hval hw2).mono fun e W' ⟨v, he, hp⟩ => ?_
  subst he
  exact ChangeSpec.post_blind hp
end Go.Proofs.YtalfoihffnlelaaGreatDoor
namespace Go.Proofs.Lexi
open Go
section
variable {P : Program} {ops : Array Oper} {Q : Exit → Act → World → Prop}
/-- A REGION THAT DRAWS, WALKED IN THE ORDER OF ITS TEXT. -/
theorem wp_region_lex {id : Nat} {l : List Oper} {a : Act} {w : World} (hm : P.follows .mixedOrders = true) (hB : lexCheck P l.toArray (Region.before l.toArray) = true)
    (h : wpList P l.toArray (Behind l.toArray Q) l a w.drew) : (Code.region id l.toArray true).wp P Q a w := by
  have hQ : OnlyN (Behind l.toArray Q) := fun e a w h => by cases e <;> first | rfl | exact h.elim
  refine Code.wp_mono (Q := Behind l.toArray Q) (fun e a w h => by cases e <;> first | exact h.2 | exact h.elim) ?_
  refine wp_region_any hm ?_
  refine any_of_lex (lexed_of hB) hQ (fun a w h => h.1) l.toArray.size 0 _ a _ (by simp) (by simp) (fun x hx => by
    simp only [Array.getD_eq_getD_getElem?, Array.getElem?_replicate, Nat.not_lt_zero, decide_false]
    split <;> rfl) ?_
  have := wpOps_eq_wpList (P := P) (ops := l.toArray) (Q := Behind l.toArray Q) l 0 (by simp)
  simp only [List.size_toArray]
  rw [this]
  exact h
end
end Go.Proofs.Lexi
namespace Go.Proofs.YtalfoihffnlelaaGreatDoor
open Go.RowKit Go.Proofs.Lexi
set_option maxHeartbeats 400000 in
theorem gcd_c (w : World) (x y : Int) (a b : Nat) (hx : x = a) (hy : y = b) (ha : a ≤ 9223372036854775807) (hb : b ≤ 9223372036854775807) :
    Calls Tryz.prog 123 #[.int .i64 x, .int .i64 y] w (PureP w (.int .i64 (Nat.gcd a b : Nat))) := by
  subst hx hy
  obtain ⟨G, hG⟩ : ∃ G, G = Nat.gcd a b := ⟨_, rfl⟩
  rw [← hG]
  have HG := Lib.hid hG.symm
  clear hG
  go_enter Tryz.func123, Tryz.ntmps123
  go_wp2
  go_loopg [0, 1] b (fun gg u v wr => ∃ x y n : Nat, wr = w.drewN n ∧ y = gg ∧ u = .int .i64 (x : Int) ∧ v = .int .i64 (y : Int) ∧ x ≤ 9223372036854775807 ∧ y ≤ 9223372036854775807 ∧ Hid (Nat.gcd x y = G))
  case atStart => exact ⟨a, b, 0, rfl, rfl, rfl, rfl, ha, hb, HG⟩
  case round =>
    obtain ⟨x, y, n, rfl, rfl, rfl, rfl, h1, h2, h3⟩ := hrel
    by_cases h0 : y = 0
    · subst h0
      have HX := Lib.hid (show (x : Int) = G from by have := h3.out; rw [Nat.gcd_zero_right] at this; omega)
      go_wp2
      go_ret
      exact ⟨ret_int HX.out, n, rfl⟩
    · have t0 : ((y : Int) != 0) = true := by rw [bne_iff_ne]; omega
      have hy0 : 0 < y := by omega
      have hm := Nat.mod_lt x hy0
      have HN := Lib.hid (show Nat.gcd y (x % y) = G from by rw [← h3.out, Nat.gcd_comm x y]; exact (Nat.gcd_rec y x).symm ▸ (Nat.gcd_comm _ _))
      clear h0
      go_wp2
      refine wp_region_lex mixed (by kernel_rfl) ?_
      go_wp2
      refine ⟨by kernel_rfl, ?_⟩
      go_wp2
      go_roundg (x % y)
      case measure => omega
      case rel => exact ⟨y, x % y, _, rfl, rfl, rfl, (by first | rfl | simp), h2, by omega, HN⟩
set_option maxRecDepth 100000 in
set_option maxHeartbeats 1000000 in
theorem reduce_c (w : World) (p q : Int) (hp1 : -9223372036854775807 ≤ p) (hp2 : p ≤ 9223372036854775807) (hq1 : -9223372036854775807 ≤ q) (hq2 : q ≤ 9223372036854775807) (h0 : q ≠ 0) :
    Calls Tryz.prog 184 #[.int .i64 p, .int .i64 q] w (NumPost w (redN p q)) := by
  obtain ⟨P, Q, hPQ⟩ : ∃ P Q : Int, (q < 0 ∧ -p = P ∧ -q = Q) ∨ (0 ≤ q ∧ p = P ∧ q = Q) := by
    by_cases h : q < 0
    · exact ⟨-p, -q, .inl ⟨h, rfl, rfl⟩⟩
    · exact ⟨p, q, .inr ⟨by omega, rfl, rfl⟩⟩
  have hR : redN p q = redPos P Q := by
    rcases hPQ with ⟨h, rfl, rfl⟩ | ⟨h, rfl, rfl⟩
    · exact redN_neg h
    · exact redN_pos h
  rw [hR]
  have hP1 : -9223372036854775807 ≤ P := by omega
  have hP2 : P ≤ 9223372036854775807 := by omega
  have hQ1 : 1 ≤ Q := by omega
  have hQ2 : Q ≤ 9223372036854775807 := by omega
  obtain ⟨D, hD⟩ : ∃ D, D = Int.gcd P Q := ⟨_, rfl⟩
  have hD0 : 0 < D := by rw [hD]; exact gcd_pos_right (by omega)
  have hD1 : D ≤ 9223372036854775807 := by
    have := Int.gcd_le_natAbs_right (a := P) (b := Q) (by omega)
    omega
  have hqp := quo_bounds (P := P) hD0 hP1 hP2
  have hqq := quo_bounds (P := Q) hD0 (by omega) hQ2
  have HTP := Lib.hid (show Int.tdiv P (D : Int) = P / (D : Int) by rw [hD]; exact tdiv_gcd_left P Q)
  have HTQ := Lib.hid (show Int.tdiv Q (D : Int) = Q / (D : Int) by rw [hD]; exact tdiv_gcd_right P Q)
  have HRR := Lib.hid (redPos_range hD)
  have HGC := Lib.hid (fun W x y hx hy => gcd_c W x y P.natAbs Q.natAbs hx hy (by omega) (by omega))
  have HDD := Lib.hid (show Nat.gcd P.natAbs Q.natAbs = D from hD.symm)
  clear hR hD
  obtain ⟨X, hX⟩ : ∃ X, X = P / (D : Int) := ⟨_, rfl⟩
  obtain ⟨Y, hY⟩ : ∃ Y, Y = Q / (D : Int) := ⟨_, rfl⟩
  rw [← hX] at hqp HTP HRR
  rw [← hY] at hqq HTQ HRR
  have HE := Lib.hid (show X < -2147483647 ∨ 2147483647 < X ∨ 2147483647 < Y → redPos P Q = .error 6 from fun h => HRR.out.trans (rangeN_err h))
  have HO := Lib.hid (show -2147483647 ≤ X → X ≤ 2147483647 → Y ≤ 2147483647 → redPos P Q = .ok (X, Y) from fun h1 h2 h3 => HRR.out.trans (rangeN_ok h1 h2 h3))
  have HX := Lib.hid hX
  have HY := Lib.hid hY
  clear hX hY HRR
  rcases hPQ with ⟨h, e1, e2⟩ | ⟨h, rfl, rfl⟩
  · have t0 : decide (q < 0) = true := decide_eq_true h
    go_enter Tryz.func184, Tryz.ntmps184
    go_wp2_with fail
    all_goals
      refine (HGC.out _ _ _ (by omega) (by omega)).mono ?_
      rw [HDD.out]
      rintro e w1 ⟨rfl, n, rfl⟩
      clear e1 e2
      have htp := HTP.out
      have htq := HTQ.out
      have hyq := HY.out.symm
      go_wp2
      refine wp_region_lex mixed (by kernel_rfl) ?_
      go_wp2
      refine ⟨by kernel_rfl, ?_⟩
      clear htp htq hyq
      go_wp2
      all_goals
        refine bodyPost_ret (by simp [results, Tryz.results184, go_sem]; first | done | rfl) rfl ?_
        first | exact num_err (HE.out (by omega)) (below_num _ _ _ _ _) | exact num_ok (HO.out (by omega) (by omega) (by omega)) (below_num _ _ _ _ _)
  · have t0 : decide (q < 0) = false := decide_eq_false (by omega)
    go_enter Tryz.func184, Tryz.ntmps184
    go_wp2_with fail
    all_goals
      refine (HGC.out _ _ _ (by omega) (by omega)).mono ?_
      rw [HDD.out]
      rintro e w1 ⟨rfl, n, rfl⟩
      have htp := HTP.out
      have htq := HTQ.out
      have hyq := HY.out.symm
      go_wp2
      refine wp_region_lex mixed (by kernel_rfl) ?_
      go_wp2
      refine ⟨by kernel_rfl, ?_⟩
      clear htp htq hyq
      go_wp2
      all_goals
        refine bodyPost_ret (by simp [results, Tryz.results184, go_sem]; first | done | rfl) rfl ?_
        first | exact num_err (HE.out (by omega)) (below_num _ _ _ _ _) | exact num_ok (HO.out (by omega) (by omega) (by omega)) (below_num _ _ _ _ _)
set_option maxRecDepth 100000 in
set_option maxHeartbeats 1000000 in
theorem rvalid_c (w : World) (p q : Int) : Calls Tryz.prog 87 #[.agg #[.int .i64 p, .int .i64 q]] w (BoolPost w (validN (p, q))) := by
  have HB := Lib.hid (below_num0 w (.cells #[.int .i64 p, .int .i64 q] 28))
  by_cases h : 1 ≤ q ∧ q ≤ 2147483647 ∧ -2147483647 ≤ p ∧ p ≤ 2147483647
  · obtain ⟨h1, h2, h3, h4⟩ := h
    have HGC := Lib.hid (fun W x y hx hy => gcd_c W x y p.natAbs q.natAbs hx hy (by omega) (by omega))
    obtain ⟨D, hD⟩ : ∃ D, D = Nat.gcd p.natAbs q.natAbs := ⟨_, rfl⟩
    have HV := Lib.hid (validN_good h1 h2 h3 h4 hD.symm)
    have HDD := Lib.hid hD.symm
    clear hD
    go_enter Tryz.func87, Tryz.ntmps87
    go_wp2_with fail
    all_goals
      refine (HGC.out _ _ _ (by omega) (by omega)).mono ?_
      rw [HDD.out]
      rintro e w1 ⟨rfl, n, rfl⟩
      go_wp2
      go_ret
      exact bool_done HV.out.symm (bdn HB.out n)
  · have HV := Lib.hid (validN_bad (p := p) (q := q) (by omega))
    have hc : q < 1 ∨ (1 ≤ q ∧ 2147483647 < q) ∨ (1 ≤ q ∧ q ≤ 2147483647 ∧ p < -2147483647) ∨ (1 ≤ q ∧ q ≤ 2147483647 ∧ -2147483647 ≤ p ∧ 2147483647 < p) := by omega
    clear h
    rcases hc with k1 | ⟨k1, k2⟩ | ⟨k1, k2, k3⟩ | ⟨k1, k2, k3, k4⟩
    all_goals
      go_enter Tryz.func87, Tryz.ntmps87
      go_wp2
      go_ret
      exact bool_done HV.out.symm HB.out
set_option maxRecDepth 100000 in
set_option maxHeartbeats 2000000 in
theorem pmIs_c (w : World) (k1 p1 q1 : Int) (s1 : ByteArray) (r1 : Int) : Calls Tryz.prog 105 #[.agg #[.int .i64 k1, .int .i64 p1, .int .i64 q1, .string s1, .int .i64 r1]] w (NdPost w (ndVal ⟨k1, p1, q1, s1, r1⟩)) := by
  go_enter Tryz.func105, Tryz.ntmps105
  go_wp2
  refine bodyPost_ret (by simp [results, Tryz.results105, go_sem]; first | done | rfl) rfl ?_
  exact ⟨.slice none 0 0, rfl, .inl ⟨rfl, rfl⟩, by first | exact below2w _ _ _ | trace_state⟩
end Go.Proofs.YtalfoihffnlelaaGreatDoor
