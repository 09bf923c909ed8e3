import Derived.Test.YteflmfdjnigjcaaGreatDoorHpW
set_option linter.unusedVariables false
set_option linter.unusedSimpArgs false
set_option maxRecDepth 100000
set_option maxHeartbeats 2000000
namespace Go.Proofs.YteflmfdjnigjcaaGreatDoor
open Go.RowKit Go.Proofs.Lexi
def ActPost (F : Nat → Prop) (w : World) (kind op : Int) (f : V) (A : List V) (s : ByteArray) (level next : Int) (K : List V) (e : Ending) (w' : World) : Prop :=
  ∃ so cap sk ck, e = .returned (acV kind op f (.slice so A.length cap) s level next (.slice sk K.length ck)) ∧ w'.ownsRow w.heap.size 30 5 (.slice so A.length cap) A.length (rowV A) ∧ w'.ownsRow w.heap.size 30 5 (.slice sk K.length ck) K.length (rowV K) ∧ Mods F w w'
def NoF (_ : Nat) : Prop := False
theorem mods_below {w w' : World} (h : Mods NoF w w') : Below w.heap.size w w' := Mods.below h (Nat.le_refl _) (fun _ _ h => h)
theorem act_of_ret {F : Nat → Prop} {w w' : World} {A : List V} {e : Ending} (h : RetPost w A e w') : ActPost F w 1 0 V.nil A ⟨#[]⟩ 0 0 [] e w' := by
  obtain ⟨so, cap, rfl, h1, h2⟩ := h
  exact ⟨so, cap, none, 0, rfl, h1, World.ownsRow_nil _ _ _ _, Mods.of_below h2⟩
theorem mods_twelve {F : Nat → Prop} {a w : World} (h : Mods F a w) {b : Nat} (hb : F b ∨ a.heap.size ≤ b) (o0 o1 o2 o3 o4 o5 o6 o7 o8 o9 o10 o11 : Nat) (c0 c1 c2 c3 c4 c5 c6 c7 c8 c9 c10 c11 : Value) :
    Mods F a ((((((((((((w.setCell ⟨b, o0, none⟩ c0).setCell ⟨b, o1, none⟩ c1).setCell ⟨b, o2, none⟩ c2).setCell ⟨b, o3, none⟩ c3).setCell ⟨b, o4, none⟩ c4).setCell ⟨b, o5, none⟩ c5).setCell ⟨b, o6, none⟩ c6).setCell ⟨b, o7, none⟩ c7).setCell ⟨b, o8, none⟩ c8).setCell ⟨b, o9, none⟩ c9).setCell ⟨b, o10, none⟩ c10).setCell ⟨b, o11, none⟩ c11) := by
  exact mods_setCell (mods_setCell (mods_setCell (mods_setCell (mods_setCell (mods_setCell (mods_setCell (mods_setCell (mods_setCell (mods_setCell (mods_setCell (mods_setCell h hb c0) hb c1) hb c2) hb c3) hb c4) hb c5) hb c6) hb c7) hb c8) hb c9) hb c10) hb c11
theorem row_away {w : World} {B e size n : Nat} {v : Value} {xs : List Value} (ho : w.ownsRow B e size v n xs) {b : Nat} (hb : b < B) : v.ownBlock ≠ some b := fun h => by
  have := (ownBlock_lt ho h).1
  omega
theorem act_end {F : Nat → Prop} {w W : World} {b B : Nat} {A K : List V} {so sk : Option Addr} {cap ck : Nat} {kind op level next : Int} {f : V} {s : ByteArray}
    (ho : W.ownsRow B 30 5 (.slice so A.length cap) A.length (rowV A)) (hk : W.ownsRow B 30 5 (.slice sk K.length ck) K.length (rowV K)) (hm : Mods F w W) (hw : w.heap.size ≤ b) (hb : b < B) (c0 c1 c2 c3 c4 c5 c6 c7 c8 c9 c10 c11 : Value) :
    ActPost F w kind op f A s level next K (.returned (acV kind op f (.slice so A.length cap) s level next (.slice sk K.length ck))) ((((((((((((W.setCell ⟨b, 0, none⟩ c0).setCell ⟨b, 1, none⟩ c1).setCell ⟨b, 2, none⟩ c2).setCell ⟨b, 3, none⟩ c3).setCell ⟨b, 4, none⟩ c4).setCell ⟨b, 5, none⟩ c5).setCell ⟨b, 6, none⟩ c6).setCell ⟨b, 7, none⟩ c7).setCell ⟨b, 8, none⟩ c8).setCell ⟨b, 9, none⟩ c9).setCell ⟨b, 10, none⟩ c10).setCell ⟨b, 11, none⟩ c11) :=
  ⟨so, cap, sk, ck, rfl, ownsRow_base (row_twelve ho (row_away ho hb) _ _ _ _ _ _ _ _ _ _ _ _) (by omega), ownsRow_base (row_twelve hk (row_away hk hb) _ _ _ _ _ _ _ _ _ _ _ _) (by omega), mods_twelve hm (.inr hw) 0 1 2 3 4 5 6 7 8 9 10 11 _ _ _ _ _ _ _ _ _ _ _ _⟩
theorem at5m {F : Nat → Prop} {w w' : World} {b : Nat} {c0 c1 c2 c3 c4 : Value} {t : TypeId} {fz : Nat × Nat} (h : w'.heap[b]? = some (.cells #[c0, c1, c2, c3, c4] t fz)) (hm : Mods F w w') :
    w'.cell? ⟨b, 0, none⟩ = some c0 ∧ w'.cell? ⟨b, 1, none⟩ = some c1 ∧ w'.cell? ⟨b, 2, none⟩ = some c2 ∧ w'.cell? ⟨b, 3, none⟩ = some c3 ∧ w'.cell? ⟨b, 4, none⟩ = some c4 ∧ Hid (Mods F w w') := ⟨(cells5 h).1, (cells5 h).2.1, (cells5 h).2.2.1, (cells5 h).2.2.2.1, (cells5 h).2.2.2.2, Lib.hid hm⟩
theorem cells16 {w : World} {b : Nat} {c0 c1 c2 c3 c4 c5 c6 c7 c8 c9 c10 c11 c12 c13 c14 c15 : Value} {t : TypeId} {fz : Nat × Nat} (h : w.heap[b]? = some (.cells #[c0, c1, c2, c3, c4, c5, c6, c7, c8, c9, c10, c11, c12, c13, c14, c15] t fz)) :
    w.cell? ⟨b, 0, none⟩ = some c0 ∧ w.cell? ⟨b, 1, none⟩ = some c1 ∧ w.cell? ⟨b, 2, none⟩ = some c2 ∧ w.cell? ⟨b, 3, none⟩ = some c3 ∧ w.cell? ⟨b, 4, none⟩ = some c4 ∧ w.cell? ⟨b, 5, none⟩ = some c5 ∧ w.cell? ⟨b, 6, none⟩ = some c6 ∧ w.cell? ⟨b, 7, none⟩ = some c7 ∧ w.cell? ⟨b, 8, none⟩ = some c8 ∧ w.cell? ⟨b, 9, none⟩ = some c9 ∧ w.cell? ⟨b, 10, none⟩ = some c10 ∧ w.cell? ⟨b, 11, none⟩ = some c11 ∧ w.cell? ⟨b, 12, none⟩ = some c12 ∧ w.cell? ⟨b, 13, none⟩ = some c13 ∧ w.cell? ⟨b, 14, none⟩ = some c14 ∧ w.cell? ⟨b, 15, none⟩ = some c15 := by
  refine ⟨?_, ?_, ?_, ?_, ?_, ?_, ?_, ?_, ?_, ?_, ?_, ?_, ?_, ?_, ?_, ?_⟩ <;> (rw [cell_of_heap h]; rfl)
theorem heap12_old {w : World} {c : Nat} {o : Obj} (h : w.heap[c]? = some o) {b : Nat} (hb : ¬ c = b) (c0 c1 c2 c3 c4 c5 c6 c7 c8 c9 c10 c11 : Value) :
    ((((((((((((w.setCell ⟨b, 0, none⟩ c0).setCell ⟨b, 1, none⟩ c1).setCell ⟨b, 2, none⟩ c2).setCell ⟨b, 3, none⟩ c3).setCell ⟨b, 4, none⟩ c4).setCell ⟨b, 5, none⟩ c5).setCell ⟨b, 6, none⟩ c6).setCell ⟨b, 7, none⟩ c7).setCell ⟨b, 8, none⟩ c8).setCell ⟨b, 9, none⟩ c9).setCell ⟨b, 10, none⟩ c10).setCell ⟨b, 11, none⟩ c11).heap[c]? = some o :=
  ((mods_twelve (F := fun k => k = b) (Mods.refl _ w) (.inl rfl) 0 1 2 3 4 5 6 7 8 9 10 11 c0 c1 c2 c3 c4 c5 c6 c7 c8 c9 c10 c11).block c (Array.getElem?_eq_some_iff.1 h).1 hb).trans h
theorem act_mono {F G : Nat → Prop} {w : World} {kind op : Int} {f : V} {A : List V} {s : ByteArray} {level next : Int} {K : List V} {e : Ending} {w' : World} (h : ActPost F w kind op f A s level next K e w') (hFG : ∀ k, k < w.heap.size → F k → G k) : ActPost G w kind op f A s level next K e w' := by
  obtain ⟨so, cap, sk, ck, h1, h2, h3, h4⟩ := h
  exact ⟨so, cap, sk, ck, h1, h2, h3, Mods.mono h4 hFG⟩
theorem btrim_c (w : World) (s : ByteArray) (hs : s.size ≤ 2000000000) : Calls Tryz.prog 131 #[.string s, .string ⟨#[32, 9, 10, 13]⟩] w (TrimPost w (trimG (bytesOf s))) := by
  have hcon := Any.strings_Trim_laid Tryz.lays160 (by kernel_rfl) s ⟨#[32, 9, 10, 13]⟩ w (by omega) (by decide) ascii4
  change Calls Tryz.prog 131 _ _ (fun e w' => e = .returned (.string ⟨(Lib.trimS s.data.toList [32, 9, 10, 13]).toArray⟩) ∧ Below w.heap.size w w') at hcon
  refine hcon.mono ?_
  rintro e w1 ⟨rfl, hb⟩
  exact ⟨⟨_, rfl, trim_bytes s⟩, hb⟩
def ResB (w : World) (A : List V) (b : Bool) (e : Ending) (w' : World) : Prop :=
  ∃ so cap, e = .returned (.tuple #[.slice so A.length cap, .bool b]) ∧ w'.ownsRow w.heap.size 30 5 (.slice so A.length cap) A.length (rowV A) ∧ Below w.heap.size w w'
abbrev selN : ByteArray := ⟨#[115, 101, 108, 101, 99, 116]⟩
abbrev tonN : ByteArray := ⟨#[116, 111, 110, 117, 109, 98, 101, 114]⟩
abbrev pcaN : ByteArray := ⟨#[112, 99, 97, 108, 108]⟩
theorem selN_last : Lib.lastIndexByte selN 46 = -1 := by kernel_rfl
theorem tonN_last : Lib.lastIndexByte tonN 46 = -1 := by kernel_rfl
theorem pcaN_last : Lib.lastIndexByte pcaN 46 = -1 := by kernel_rfl
theorem vals_lit (w : World) (A : List V) : Vals (w.alloc (.cells (rowV A).toArray 30)) (.slice (some ⟨w.heap.size, 0, none⟩) A.length A.length) A := by
  refine ⟨some ⟨w.heap.size, 0, none⟩, A.length, rfl, Nat.le_refl _, (fun h => by cases h), .inr ⟨w.heap.size, 0, rfl, by simp, fun j u hj => ?_⟩⟩
  rw [cell_of_heap (heap_new w _), Nat.zero_add, List.getElem?_toArray]
  exact hj
theorem twelve_new {w : World} {b : Nat} {c0 c1 c2 c3 c4 c5 c6 c7 c8 c9 c10 c11 : Value} {t : TypeId} {fz : Nat × Nat} (h : w.heap[b]? = some (.cells #[c0, c1, c2, c3, c4, c5, c6, c7, c8, c9, c10, c11] t fz)) (d0 d1 d2 d3 d4 d5 d6 d7 d8 d9 d10 d11 : Value) :
    ((((((((((((w.setCell ⟨b, 0, none⟩ d0).setCell ⟨b, 1, none⟩ d1).setCell ⟨b, 2, none⟩ d2).setCell ⟨b, 3, none⟩ d3).setCell ⟨b, 4, none⟩ d4).setCell ⟨b, 5, none⟩ d5).setCell ⟨b, 6, none⟩ d6).setCell ⟨b, 7, none⟩ d7).setCell ⟨b, 8, none⟩ d8).setCell ⟨b, 9, none⟩ d9).setCell ⟨b, 10, none⟩ d10).setCell ⟨b, 11, none⟩ d11).heap[b]? = some (.cells #[d0, d1, d2, d3, d4, d5, d6, d7, d8, d9, d10, d11] t fz) := by
  replace h := heap_setCell_same h 0 d0
  change _ = some (Obj.cells #[d0, c1, c2, c3, c4, c5, c6, c7, c8, c9, c10, c11] t fz) at h
  replace h := heap_setCell_same h 1 d1
  change _ = some (Obj.cells #[d0, d1, c2, c3, c4, c5, c6, c7, c8, c9, c10, c11] t fz) at h
  replace h := heap_setCell_same h 2 d2
  change _ = some (Obj.cells #[d0, d1, d2, c3, c4, c5, c6, c7, c8, c9, c10, c11] t fz) at h
  replace h := heap_setCell_same h 3 d3
  change _ = some (Obj.cells #[d0, d1, d2, d3, c4, c5, c6, c7, c8, c9, c10, c11] t fz) at h
  replace h := heap_setCell_same h 4 d4
  change _ = some (Obj.cells #[d0, d1, d2, d3, d4, c5, c6, c7, c8, c9, c10, c11] t fz) at h
  replace h := heap_setCell_same h 5 d5
  change _ = some (Obj.cells #[d0, d1, d2, d3, d4, d5, c6, c7, c8, c9, c10, c11] t fz) at h
  replace h := heap_setCell_same h 6 d6
  change _ = some (Obj.cells #[d0, d1, d2, d3, d4, d5, d6, c7, c8, c9, c10, c11] t fz) at h
  replace h := heap_setCell_same h 7 d7
  change _ = some (Obj.cells #[d0, d1, d2, d3, d4, d5, d6, d7, c8, c9, c10, c11] t fz) at h
  replace h := heap_setCell_same h 8 d8
  change _ = some (Obj.cells #[d0, d1, d2, d3, d4, d5, d6, d7, d8, c9, c10, c11] t fz) at h
  replace h := heap_setCell_same h 9 d9
  change _ = some (Obj.cells #[d0, d1, d2, d3, d4, d5, d6, d7, d8, d9, c10, c11] t fz) at h
  replace h := heap_setCell_same h 10 d10
  change _ = some (Obj.cells #[d0, d1, d2, d3, d4, d5, d6, d7, d8, d9, d10, c11] t fz) at h
  replace h := heap_setCell_same h 11 d11
  change _ = some (Obj.cells #[d0, d1, d2, d3, d4, d5, d6, d7, d8, d9, d10, d11] t fz) at h
  exact h
abbrev prV : V := ⟨6, 0, 0, ⟨#[112, 114, 105, 110, 116]⟩, 0⟩
abbrev nV (n : Int) : V := ⟨2, n, 1, ⟨#[]⟩, 0⟩
theorem ff_trim (W : World) : Calls Tryz.prog 131 #[.string ⟨#[102, 102]⟩, .string ⟨#[32, 9, 10, 13]⟩] W (fun e w' => e = .returned (.string ⟨#[102, 102]⟩) ∧ Below W.heap.size W w') := by
  refine (btrim_c W ⟨#[102, 102]⟩ (by decide)).mono ?_
  rintro e w1 ⟨⟨r, rfl, hr⟩, hb⟩
  have : r = ⟨#[102, 102]⟩ := bytesOf_inj (hr.trans (by kernel_rfl))
  subst this
  exact ⟨rfl, hb⟩
theorem ff_dig : dgOut ⟨#[102, 102]⟩ (dgM 16 (bytesOf ⟨#[102, 102]⟩) 0) = (((255 : Nat) : Int), true) := by kernel_rfl
theorem prj5b {c0 c1 c2 c3 c4 p : Prop} (h : c0 ∧ c1 ∧ c2 ∧ c3 ∧ c4 ∧ Hid p) : p := h.2.2.2.2.2.out
theorem prj15c {c0 c1 c2 c3 c4 c5 c6 c7 c8 c9 c10 c11 c12 c13 c14 p : Prop} (h : c0 ∧ c1 ∧ c2 ∧ c3 ∧ c4 ∧ c5 ∧ c6 ∧ c7 ∧ c8 ∧ c9 ∧ c10 ∧ c11 ∧ c12 ∧ c13 ∧ c14 ∧ Hid p) : p := h.2.2.2.2.2.2.2.2.2.2.2.2.2.2.2.out
theorem below_grown {B : Nat} {a W w' : World} {r : Option Nat} (h : Below B a W) (k : W.grownBy w' r) (hB : B ≤ W.heap.size) (hr : ∀ g, r = some g → B ≤ g) : Below B a w' :=
  ⟨k.os.trans h.os, k.tape.trans h.tape, k.output.trans h.output, Nat.le_trans h.size k.size, fun i hi => (k.block i (by omega) (fun e => by have := hr i e.symm; omega)).trans (h.block i hi)⟩
end Go.Proofs.YteflmfdjnigjcaaGreatDoor
namespace Go.Proofs.YteflmfdjnigjcaaGreatDoor
open Go.ChangeShapes Go.WideShapes Go.ChangeAt Go.WideMaps Go.WideElems Go.RowKit
abbrev laidS : List (String × DataW Unit) := [("math/bits.deBruijn32tab", Rows.laid_math_bits_deBruijn32tab), ("math/bits.deBruijn64tab", Rows.laid_math_bits_deBruijn64tab), ("internal/strconv.uint64pow10", Rows.laid_internal_strconv_uint64pow10), ("unicode/utf8.acceptRanges", Rows.laid_unicode_utf8_acceptRanges), ("unicode.White_Space", Rows.laid_unicode_White_Space), ("strings.asciiSpace", Rows.laid_strings_asciiSpace), ("unicode/utf8.first", Rows.laid_unicode_utf8_first)]
theorem Tryz.tSpc : ∃ g, Tryz.prog.globalNamed "strings.asciiSpace" = some g ∧ (Tryz.prog.globals[g]?).map (·.type) = some 174 := by
  refine ⟨(Tryz.prog.globalNamed "strings.asciiSpace").getD 0, ?_, ?_⟩ <;> kernel_rfl
theorem Tryz.cSpc : Tryz.prog.cellsOf 174 = 256 := by kernel_rfl
theorem Tryz.c8 : Tryz.prog.cellsOf 5 = 1 := by kernel_rfl
set_option maxRecDepth 100000 in
theorem tabs_of_laid {W : World} (h : laidMetH Tryz.prog laidS W) : Pow10 W ∧ Spaces W := by
  rw [MakeChecks.laidMetH_plain _ _ _ (by kernel_rfl)] at h
  obtain ⟨ps, ⟨g0, t0, cs0, f0, p0, q0, _, _, _, _, ⟨g1, t1, cs1, f1, p1, q1, _, _, _, _, ⟨g2, t2, cs2, f2, p2, q2, hg2, ht2, hv2, hd2, ⟨g3, t3, cs3, f3, p3, q3, _, _, _, _, ⟨g4, t4, cs4, f4, p4, q4, _, _, _, _, ⟨g5, t5, cs5, f5, p5, q5, hg5, ht5, hv5, hd5, _, _⟩, _⟩, _⟩, _⟩, _⟩, _⟩, _, _⟩ := h
  constructor
  · obtain ⟨g, hg, ht⟩ := Tryz.tPow
    obtain rfl := Option.some.inj (hg.symm.trans hg2)
    obtain rfl := Option.some.inj (ht.symm.trans ht2)
    unfold Pow10 Lib.TabIs
    rw [hv2, ← Lib.cells_of_tab (k := .u64) (zs := Lib.pow10Tab) Tryz.underlying252 Tryz.underlying240 Tryz.c64 Tryz.cPow hd2]
  · obtain ⟨g, hg, ht⟩ := Tryz.tSpc
    obtain rfl := Option.some.inj (hg.symm.trans hg5)
    obtain rfl := Option.some.inj (ht.symm.trans ht5)
    unfold Spaces Lib.TabIs
    rw [hv5, ← Lib.cells_of_tab (k := .u8) (zs := Lib.asciiSpaceTab) Tryz.underlying174 Tryz.underlying5 Tryz.c8 Tryz.cSpc hd5]
set_option maxRecDepth 100000 in
theorem door_metS (os : Os) (args : Array Value) : laidMetH Tryz.prog laidS ((World.laidAll Tryz.prog os laidS).forCall (fun _ _ => 0) ⟨#[], args, []⟩).memory := by
  rw [MakeChecks.laidMetH_plain _ _ _ (by kernel_rfl)]
  exact laidMet_laidAll _ (by kernel_rfl) (by kernel_rfl)
set_option maxRecDepth 100000 in
/-- From the walk of a law, in any memory that is shaped and holds the tables, to the lifted statement. -/
theorem liftS (os : Os) (started : os.Started) (H : Type) (enc : TypeId × Value → H) {f : FuncId} {fn : Func} {s : ChangeSpec} (noInit : Tryz.prog.inits.idxOf? f = none) (hfn : Tryz.prog.funcs[f]? = some fn)
    (witness : ∃ (w : World) (tape : Tape) (i : Input), w.os = os ∧ (w.forCall tape i).Shaped Tryz.prog ∧ i.vars = [] ∧ Input.okWide Tryz.prog (w.forCall tape i) .any w.heap.size f i ∧
      ((s.pre enc Tryz.prog fn [] false (w.forCall tape i).memory i.args ∧ laidMetH Tryz.prog laidS (w.forCall tape i).memory) ∧ sizedMet enc Tryz.prog fn (OpenSpec.ofChange s) false (w.forCall tape i).memory i.args) ∧ ({} : Assume).holds Tryz.prog (lone (Frame.enter Tryz.prog f i.args .normal) [] (w.forCall tape i)))
    (law : ∀ (W : World) (base : Nat) (args : Array Value) (ds gs : List (DataW H)) (before : List MemPlace), Glob W ∧ Spaces W → (∀ (j : Nat) t v, fn.params[j]? = some t → args[j]? = some v → Value.okWide Tryz.prog W .any base t v) →
      DataW.Whole enc Tryz.prog fn.params.toList s.vars false W args.toList ds gs before → Calls Tryz.prog f args W fun e W' => ∃ v, e = .returned v ∧ s.post enc Tryz.prog fn false true false false W args v W') :
    ReturnsInHanded {} Tryz.checked os f .any (fun w args => (s.pre enc Tryz.prog fn [] false w args ∧ laidMetH Tryz.prog laidS w) ∧ sizedMet enc Tryz.prog fn (OpenSpec.ofChange s) false w args) (s.post enc Tryz.prog fn false true false false) := by
  refine returnsInHanded_of_calls (C := Tryz.checked) Tryz.own started noInit witness ?_
  intro w tape i _ hs _ hok hpre _
  obtain ⟨_, _, _, fn', hfn', _, _, _, _, hval⟩ := hok
  obtain rfl : fn' = fn := Option.some.inj (hfn'.symm.trans hfn)
  obtain ⟨⟨⟨ds, gs, before, hw, _⟩, hx⟩, _⟩ := hpre
  have hw2 := DataW.Whole.of_heap (w' := w.forCall tape i) (by rfl) hw
  have hx2 : laidMetH Tryz.prog laidS (w.forCall tape i) := hx.of_heap (by rfl)
  refine (law (w.forCall tape i) w.heap.size i.args ds gs before ⟨⟨glob_zero hs, (tabs_of_laid hx2).1⟩, (tabs_of_laid hx2).2⟩ hval hw2).mono fun e W' ⟨v, he, hp⟩ => ?_
  subst he
  exact ChangeSpec.post_blind hp
end Go.Proofs.YteflmfdjnigjcaaGreatDoor
namespace Go.Proofs.YteflmfdjnigjcaaGreatDoor
open Go.RowKit Go.Proofs.Lexi
theorem cells14 {w : World} {b : Nat} {c0 c1 c2 c3 c4 c5 c6 c7 c8 c9 c10 c11 c12 c13 : Value} {t : TypeId} {fz : Nat × Nat} (h : w.heap[b]? = some (.cells #[c0, c1, c2, c3, c4, c5, c6, c7, c8, c9, c10, c11, c12, c13] t fz)) :
    w.cell? ⟨b, 0, none⟩ = some c0 ∧ w.cell? ⟨b, 1, none⟩ = some c1 ∧ w.cell? ⟨b, 2, none⟩ = some c2 ∧ w.cell? ⟨b, 3, none⟩ = some c3 ∧ w.cell? ⟨b, 4, none⟩ = some c4 ∧ w.cell? ⟨b, 5, none⟩ = some c5 ∧ w.cell? ⟨b, 6, none⟩ = some c6 ∧ w.cell? ⟨b, 7, none⟩ = some c7 ∧ w.cell? ⟨b, 8, none⟩ = some c8 ∧ w.cell? ⟨b, 9, none⟩ = some c9 ∧ w.cell? ⟨b, 10, none⟩ = some c10 ∧ w.cell? ⟨b, 11, none⟩ = some c11 ∧ w.cell? ⟨b, 12, none⟩ = some c12 ∧ w.cell? ⟨b, 13, none⟩ = some c13 := by
  refine ⟨?_, ?_, ?_, ?_, ?_, ?_, ?_, ?_, ?_, ?_, ?_, ?_, ?_, ?_⟩ <;> (rw [cell_of_heap h]; rfl)
theorem froz14 {w : World} {b : Nat} {cs : Array Value} {t : TypeId} (h : w.heap[b]? = some (.cells cs t (0, 0))) :
    w.frozen? ⟨b, 0, none⟩ = false ∧ w.frozen? ⟨b, 1, none⟩ = false ∧ w.frozen? ⟨b, 2, none⟩ = false ∧ w.frozen? ⟨b, 3, none⟩ = false ∧ w.frozen? ⟨b, 4, none⟩ = false ∧ w.frozen? ⟨b, 5, none⟩ = false ∧ w.frozen? ⟨b, 6, none⟩ = false ∧ w.frozen? ⟨b, 7, none⟩ = false ∧ w.frozen? ⟨b, 8, none⟩ = false ∧ w.frozen? ⟨b, 9, none⟩ = false ∧ w.frozen? ⟨b, 10, none⟩ = false ∧ w.frozen? ⟨b, 11, none⟩ = false ∧ w.frozen? ⟨b, 12, none⟩ = false ∧ w.frozen? ⟨b, 13, none⟩ = false := by
  refine ⟨?_, ?_, ?_, ?_, ?_, ?_, ?_, ?_, ?_, ?_, ?_, ?_, ?_, ?_⟩ <;> exact frozen_of_heap h _
theorem heap14_old {w : World} {c : Nat} {o : Obj} (h : w.heap[c]? = some o) {b : Nat} (hb : ¬ c = b) (c0 c1 c2 c3 c4 c5 c6 c7 c8 c9 c10 c11 c12 c13 : Value) :
    ((((((((((((((w.setCell ⟨b, 0, none⟩ c0).setCell ⟨b, 1, none⟩ c1).setCell ⟨b, 2, none⟩ c2).setCell ⟨b, 3, none⟩ c3).setCell ⟨b, 4, none⟩ c4).setCell ⟨b, 5, none⟩ c5).setCell ⟨b, 6, none⟩ c6).setCell ⟨b, 7, none⟩ c7).setCell ⟨b, 8, none⟩ c8).setCell ⟨b, 9, none⟩ c9).setCell ⟨b, 10, none⟩ c10).setCell ⟨b, 11, none⟩ c11).setCell ⟨b, 12, none⟩ c12).setCell ⟨b, 13, none⟩ c13).heap[c]? = some o := by
  rw [Below.heap_setCell _ _ _ _ hb, Below.heap_setCell _ _ _ _ hb, Below.heap_setCell _ _ _ _ hb, Below.heap_setCell _ _ _ _ hb, Below.heap_setCell _ _ _ _ hb, Below.heap_setCell _ _ _ _ hb, Below.heap_setCell _ _ _ _ hb, Below.heap_setCell _ _ _ _ hb, Below.heap_setCell _ _ _ _ hb, Below.heap_setCell _ _ _ _ hb, Below.heap_setCell _ _ _ _ hb, Below.heap_setCell _ _ _ _ hb, Below.heap_setCell _ _ _ _ hb, Below.heap_setCell _ _ _ _ hb]
  exact h
def toStrN : ByteArray := ⟨#[95, 95, 116, 111, 115, 116, 114, 105, 110, 103]⟩
/-- What the text of a value with a handler asks for. -/
def NdCall1 (w : World) (f a : V) (e : Ending) (w' : World) : Prop := ∃ g, e = .returned (ndV (ndCall f [a] 1) (.slice (some ⟨g, 0, none⟩) 1 1)) ∧ w'.heap[g]? = some (oV a.k a.p a.q a.s a.r) ∧ w.heap.size ≤ g ∧ Below w.heap.size w w'
def tooLong : ByteArray := ⟨#[115, 116, 114, 105, 110, 103, 32, 116, 111, 111, 32, 108, 111, 110, 103]⟩
/-- An action in memory, of blocks from a world on. -/
def ActR (w : World) (kind : Int) (f : V) (A : List V) (s : ByteArray) (level next : Int) (K : List V) (e : Ending) (w' : World) : Prop :=
  ∃ so cap sk ck, e = .returned (acV kind 0 f (.slice so A.length cap) s level next (.slice sk K.length ck)) ∧ w'.ownsRow w.heap.size 30 5 (.slice so A.length cap) A.length (rowV A) ∧ w'.ownsRow w.heap.size 30 5 (.slice sk K.length ck) K.length (rowV K)
theorem ActPost.r {F : Nat → Prop} {w : World} {kind : Int} {f : V} {A : List V} {s : ByteArray} {level next : Int} {K : List V} {e : Ending} {w' : World} (h : ActPost F w kind 0 f A s level next K e w') : ActR w kind f A s level next K e w' ∧ Mods F w w' := by
  obtain ⟨so, cap, sk, ck, h1, h2, h3, h4⟩ := h
  exact ⟨⟨so, cap, sk, ck, h1, h2, h3⟩, h4⟩
/-- A line: the action of print, or the failure of a line that is too long. -/
def lineK (S : ByteArray) : Int := if S.size ≤ 65536 then 8 else 2
def lineA (S : ByteArray) : List V := if S.size ≤ 65536 then [] else [strV tooLong]
def lineS (S : ByteArray) : ByteArray := if S.size ≤ 65536 then S else ⟨#[]⟩
def lineL (S : ByteArray) : Int := if S.size ≤ 65536 then 0 else 1
def LinePost (w : World) (S : ByteArray) (e : Ending) (w' : World) : Prop := ActR w (lineK S) V.nil (lineA S) (lineS S) (lineL S) 0 [] e w' ∧ Below w.heap.size w w'
abbrev oClH (h : Nat) (nm : ByteArray) (av : Value) : Obj := .cells #[.pointer (some ⟨h, 0, none⟩), .string nm, av, .bool false, .int .i64 0, .int .i64 0, .int .i64 0, .int .i64 0, .int .i64 0, .string ⟨#[]⟩, .int .i64 0, .slice none 0 0, .string ⟨#[]⟩, .int .i64 0, .int .i64 0, .slice none 0 0] 80
theorem heap14_at {w : World} {b : Nat} {x0 x1 x2 x3 x4 x5 x6 x7 x8 x9 x10 x11 x12 x13 : Value} {t : TypeId} {fz : Nat × Nat} (h : w.heap[b]? = some (.cells #[x0, x1, x2, x3, x4, x5, x6, x7, x8, x9, x10, x11, x12, x13] t fz)) (c0 c1 c2 c3 c4 c5 c6 c7 c8 c9 c10 c11 c12 c13 : Value) :
    ((((((((((((((w.setCell ⟨b, 0, none⟩ c0).setCell ⟨b, 1, none⟩ c1).setCell ⟨b, 2, none⟩ c2).setCell ⟨b, 3, none⟩ c3).setCell ⟨b, 4, none⟩ c4).setCell ⟨b, 5, none⟩ c5).setCell ⟨b, 6, none⟩ c6).setCell ⟨b, 7, none⟩ c7).setCell ⟨b, 8, none⟩ c8).setCell ⟨b, 9, none⟩ c9).setCell ⟨b, 10, none⟩ c10).setCell ⟨b, 11, none⟩ c11).setCell ⟨b, 12, none⟩ c12).setCell ⟨b, 13, none⟩ c13).heap[b]? = some (.cells #[c0, c1, c2, c3, c4, c5, c6, c7, c8, c9, c10, c11, c12, c13] t fz) := by
  have h0 := h
  have h1 : (w.setCell ⟨b, 0, none⟩ c0).heap[b]? = some (.cells #[c0, x1, x2, x3, x4, x5, x6, x7, x8, x9, x10, x11, x12, x13] t fz) := heap_setCell_same h0 0 c0
  have h2 : ((w.setCell ⟨b, 0, none⟩ c0).setCell ⟨b, 1, none⟩ c1).heap[b]? = some (.cells #[c0, c1, x2, x3, x4, x5, x6, x7, x8, x9, x10, x11, x12, x13] t fz) := heap_setCell_same h1 1 c1
  have h3 : (((w.setCell ⟨b, 0, none⟩ c0).setCell ⟨b, 1, none⟩ c1).setCell ⟨b, 2, none⟩ c2).heap[b]? = some (.cells #[c0, c1, c2, x3, x4, x5, x6, x7, x8, x9, x10, x11, x12, x13] t fz) := heap_setCell_same h2 2 c2
  have h4 : ((((w.setCell ⟨b, 0, none⟩ c0).setCell ⟨b, 1, none⟩ c1).setCell ⟨b, 2, none⟩ c2).setCell ⟨b, 3, none⟩ c3).heap[b]? = some (.cells #[c0, c1, c2, c3, x4, x5, x6, x7, x8, x9, x10, x11, x12, x13] t fz) := heap_setCell_same h3 3 c3
  have h5 : (((((w.setCell ⟨b, 0, none⟩ c0).setCell ⟨b, 1, none⟩ c1).setCell ⟨b, 2, none⟩ c2).setCell ⟨b, 3, none⟩ c3).setCell ⟨b, 4, none⟩ c4).heap[b]? = some (.cells #[c0, c1, c2, c3, c4, x5, x6, x7, x8, x9, x10, x11, x12, x13] t fz) := heap_setCell_same h4 4 c4
  have h6 : ((((((w.setCell ⟨b, 0, none⟩ c0).setCell ⟨b, 1, none⟩ c1).setCell ⟨b, 2, none⟩ c2).setCell ⟨b, 3, none⟩ c3).setCell ⟨b, 4, none⟩ c4).setCell ⟨b, 5, none⟩ c5).heap[b]? = some (.cells #[c0, c1, c2, c3, c4, c5, x6, x7, x8, x9, x10, x11, x12, x13] t fz) := heap_setCell_same h5 5 c5
  have h7 : (((((((w.setCell ⟨b, 0, none⟩ c0).setCell ⟨b, 1, none⟩ c1).setCell ⟨b, 2, none⟩ c2).setCell ⟨b, 3, none⟩ c3).setCell ⟨b, 4, none⟩ c4).setCell ⟨b, 5, none⟩ c5).setCell ⟨b, 6, none⟩ c6).heap[b]? = some (.cells #[c0, c1, c2, c3, c4, c5, c6, x7, x8, x9, x10, x11, x12, x13] t fz) := heap_setCell_same h6 6 c6
  have h8 : ((((((((w.setCell ⟨b, 0, none⟩ c0).setCell ⟨b, 1, none⟩ c1).setCell ⟨b, 2, none⟩ c2).setCell ⟨b, 3, none⟩ c3).setCell ⟨b, 4, none⟩ c4).setCell ⟨b, 5, none⟩ c5).setCell ⟨b, 6, none⟩ c6).setCell ⟨b, 7, none⟩ c7).heap[b]? = some (.cells #[c0, c1, c2, c3, c4, c5, c6, c7, x8, x9, x10, x11, x12, x13] t fz) := heap_setCell_same h7 7 c7
  have h9 : (((((((((w.setCell ⟨b, 0, none⟩ c0).setCell ⟨b, 1, none⟩ c1).setCell ⟨b, 2, none⟩ c2).setCell ⟨b, 3, none⟩ c3).setCell ⟨b, 4, none⟩ c4).setCell ⟨b, 5, none⟩ c5).setCell ⟨b, 6, none⟩ c6).setCell ⟨b, 7, none⟩ c7).setCell ⟨b, 8, none⟩ c8).heap[b]? = some (.cells #[c0, c1, c2, c3, c4, c5, c6, c7, c8, x9, x10, x11, x12, x13] t fz) := heap_setCell_same h8 8 c8
  have h10 : ((((((((((w.setCell ⟨b, 0, none⟩ c0).setCell ⟨b, 1, none⟩ c1).setCell ⟨b, 2, none⟩ c2).setCell ⟨b, 3, none⟩ c3).setCell ⟨b, 4, none⟩ c4).setCell ⟨b, 5, none⟩ c5).setCell ⟨b, 6, none⟩ c6).setCell ⟨b, 7, none⟩ c7).setCell ⟨b, 8, none⟩ c8).setCell ⟨b, 9, none⟩ c9).heap[b]? = some (.cells #[c0, c1, c2, c3, c4, c5, c6, c7, c8, c9, x10, x11, x12, x13] t fz) := heap_setCell_same h9 9 c9
  have h11 : (((((((((((w.setCell ⟨b, 0, none⟩ c0).setCell ⟨b, 1, none⟩ c1).setCell ⟨b, 2, none⟩ c2).setCell ⟨b, 3, none⟩ c3).setCell ⟨b, 4, none⟩ c4).setCell ⟨b, 5, none⟩ c5).setCell ⟨b, 6, none⟩ c6).setCell ⟨b, 7, none⟩ c7).setCell ⟨b, 8, none⟩ c8).setCell ⟨b, 9, none⟩ c9).setCell ⟨b, 10, none⟩ c10).heap[b]? = some (.cells #[c0, c1, c2, c3, c4, c5, c6, c7, c8, c9, c10, x11, x12, x13] t fz) := heap_setCell_same h10 10 c10
  have h12 : ((((((((((((w.setCell ⟨b, 0, none⟩ c0).setCell ⟨b, 1, none⟩ c1).setCell ⟨b, 2, none⟩ c2).setCell ⟨b, 3, none⟩ c3).setCell ⟨b, 4, none⟩ c4).setCell ⟨b, 5, none⟩ c5).setCell ⟨b, 6, none⟩ c6).setCell ⟨b, 7, none⟩ c7).setCell ⟨b, 8, none⟩ c8).setCell ⟨b, 9, none⟩ c9).setCell ⟨b, 10, none⟩ c10).setCell ⟨b, 11, none⟩ c11).heap[b]? = some (.cells #[c0, c1, c2, c3, c4, c5, c6, c7, c8, c9, c10, c11, x12, x13] t fz) := heap_setCell_same h11 11 c11
  have h13 : (((((((((((((w.setCell ⟨b, 0, none⟩ c0).setCell ⟨b, 1, none⟩ c1).setCell ⟨b, 2, none⟩ c2).setCell ⟨b, 3, none⟩ c3).setCell ⟨b, 4, none⟩ c4).setCell ⟨b, 5, none⟩ c5).setCell ⟨b, 6, none⟩ c6).setCell ⟨b, 7, none⟩ c7).setCell ⟨b, 8, none⟩ c8).setCell ⟨b, 9, none⟩ c9).setCell ⟨b, 10, none⟩ c10).setCell ⟨b, 11, none⟩ c11).setCell ⟨b, 12, none⟩ c12).heap[b]? = some (.cells #[c0, c1, c2, c3, c4, c5, c6, c7, c8, c9, c10, c11, c12, x13] t fz) := heap_setCell_same h12 12 c12
  have h14 : ((((((((((((((w.setCell ⟨b, 0, none⟩ c0).setCell ⟨b, 1, none⟩ c1).setCell ⟨b, 2, none⟩ c2).setCell ⟨b, 3, none⟩ c3).setCell ⟨b, 4, none⟩ c4).setCell ⟨b, 5, none⟩ c5).setCell ⟨b, 6, none⟩ c6).setCell ⟨b, 7, none⟩ c7).setCell ⟨b, 8, none⟩ c8).setCell ⟨b, 9, none⟩ c9).setCell ⟨b, 10, none⟩ c10).setCell ⟨b, 11, none⟩ c11).setCell ⟨b, 12, none⟩ c12).setCell ⟨b, 13, none⟩ c13).heap[b]? = some (.cells #[c0, c1, c2, c3, c4, c5, c6, c7, c8, c9, c10, c11, c12, c13] t fz) := heap_setCell_same h13 13 c13
  exact h14
theorem infoStr : (Tryz.prog.info? 9).map (fun i => (i.zero, i.size, i.bytes)) = some (some (.string ⟨#[]⟩), 1, 16) := by kernel_rfl
abbrev oNdS (s : ByteArray) : Obj := .cells #[.int .i64 1, .int .i64 3, .int .i64 0, .int .i64 0, .string s, .int .i64 0, .int .i64 0, .int .i64 0, .int .i64 0, .string ⟨#[]⟩, .int .i64 0, .slice none 0 0, .int .i64 0, .string ⟨#[]⟩] 122
def lineOf (A : List V) : ByteArray := ⟨(Lib.join ((A.map V.s).map (·.data.toList)) [9]).toArray⟩
def IsStr (v : V) : Prop := v.k = 3 ∧ v.p = 0 ∧ v.q = 0 ∧ v.r = 0 ∧ v.s.size ≤ 4096
theorem joinTail_len (sep : List UInt8) (m : Nat) : ∀ (r : List (List UInt8)), (∀ x ∈ r, x.length ≤ m) → (Lib.joinTail sep r).length ≤ r.length * (m + sep.length)
  | [], _ => Nat.zero_le _
  | x :: r, h => by
    have h1 := h x (by simp)
    have h2 := joinTail_len sep m r (fun z hz => h z (List.mem_cons_of_mem _ hz))
    unfold Lib.joinTail at h2 ⊢
    rw [List.map_cons, List.flatten_cons, List.length_append, List.length_append, List.length_cons, Nat.succ_mul]
    omega
theorem join_len (l : List (List UInt8)) (sep : List UInt8) (m : Nat) (h : ∀ x ∈ l, x.length ≤ m) : (Lib.join l sep).length ≤ l.length * (m + sep.length) := by
  cases l with
  | nil => exact Nat.zero_le _
  | cons x r =>
    have h1 := h x (by simp)
    have h2 := joinTail_len sep m r (fun z hz => h z (List.mem_cons_of_mem _ hz))
    rw [Lib.join_cons, List.length_append, List.length_cons, Nat.succ_mul]
    omega
theorem size_data (s : ByteArray) : s.data.toList.length = s.size := by simp
/-- What show has gathered. -/
def ShowR (w : World) (c : Nat) (oc : Obj) (A : List V) (i : Nat) (sv : Value) (wr : World) : Prop :=
  wr.ownsRow (w.heap.size + 1) 9 1 sv i ((A.take i).map fun v => .string v.s) ∧ Below w.heap.size w wr ∧ wr.heap[w.heap.size]? = some oAc ∧ wr.heap[c]? = some oc
theorem prj6a {a b c d e f p : Prop} (h : a ∧ b ∧ c ∧ d ∧ e ∧ f ∧ Hid p) : p := h.2.2.2.2.2.2.out
theorem valid_num {x : Int} (h1 : -2147483647 ≤ x) (h2 : x ≤ 2147483647) : validV ⟨2, x, 1, ⟨#[]⟩, 0⟩ = true := by
  have h : validN (x, 1) = true := validN_iff.2 ⟨by simp, by simp, h1, h2, by simp⟩
  unfold validV
  have e : (⟨#[]⟩ : ByteArray) = ByteArray.empty := rfl
  simp [V.num, h, noStr, e]
theorem shrink_last {A : List V} {i : Nat} {v : V} (hl : i + 1 = A.length) (h : A[i]? = some v) (hv : v.k ≠ 0) : shrinkM A = A := by
  obtain ⟨B, u, rfl⟩ : ∃ B u, A = B ++ [u] := by
    have hne : A ≠ [] := fun e => by rw [e] at hl; simp at hl
    exact ⟨_, _, (List.dropLast_concat_getLast hne).symm⟩
  rw [List.length_append, List.length_singleton] at hl
  have hi : i = B.length := by omega
  subst hi
  rw [List.getElem?_append_right (Nat.le_refl _), Nat.sub_self] at h
  injection h with h
  subst h
  exact shrink_stop hv
theorem setIn_val {A : List V} {i : Nat} {v : V} (hi : i < A.length) (hv : v.k ≠ 0) : setInM A i v = A.set i v := by
  unfold setInM
  split
  · rename_i h2
    exact shrink_last (by rw [List.length_set]; exact h2) (List.getElem?_set_self hi) hv
  · rfl
theorem get_absent {L : List Sl} {k : V} (h : ∀ y ∈ L, y.k ≠ k) : getM L k = V.nil := by
  unfold getM
  rw [List.find?_eq_none.2 (fun y hy hh => h y hy (eqV_iff.1 (by unfold Sl.hit at hh; exact (Bool.and_eq_true_iff.1 hh).2)))]
theorem tget_in {A : List V} {L : List Sl} {x : Nat} {v : V} (hx : x < A.length) (hl : A.length ≤ 100000) (hv : A[x]? = some v) : tgetM A L ⟨2, (x : Int) + 1, 1, ⟨#[]⟩, 0⟩ = v := by
  unfold tgetM inA
  have h1 : intB ⟨2, (x : Int) + 1, 1, ⟨#[]⟩, 0⟩ = true := intB_iff.2 ⟨rfl, rfl, valid_num (by omega) (by omega)⟩
  rw [h1, Bool.true_and, if_pos (decide_eq_true (show (1 : Int) ≤ (x : Int) + 1 ∧ (x : Int) + 1 ≤ A.length by omega))]
  show A.getD (((x : Int) + 1).toNat - 1) V.nil = v
  rw [show ((x : Int) + 1).toNat - 1 = x by omega, List.getD_eq_getElem?_getD, hv]
  rfl
abbrev oAgg (k p q : Int) (s : ByteArray) (r : Int) : Value := .agg #[.int .i64 k, .int .i64 p, .int .i64 q, .string s, .int .i64 r]
def nmV (x : Int) : V := ⟨2, x, 1, ⟨#[]⟩, 0⟩
/-- A block that the heap's calls leave. -/
def Held (w : World) (O : Nat → Prop) (b : Nat) (o : Obj) : Prop := w.heap[b]? = some o ∧ ¬ O b
theorem Held.qs {base : Nat} {O O' : Nat → Prop} {w w' : World} {b : Nat} {o : Obj} (h : Held w O b o) (q : QS base O w O' w') (hS : ¬ PB o) : Held w' O' b o := q.keep h.1 hS h.2
theorem npb {cs : Array Value} {t : TypeId} {fz : Nat × Nat} (h : t ≠ 143 ∧ t ≠ 146 ∧ t ≠ 102 ∧ t ≠ 71 ∧ t ≠ 65) : ¬ PB (.cells cs t fz) := fun e => by
  obtain ⟨h1, h2, h3, h4, h5⟩ := h
  rcases e with e | e | e | e | e
  · exact h1 e
  · exact h2 e
  · exact h3 e
  · exact h4 e
  · exact h5 e
theorem Held.below {O : Nat → Prop} {w w' : World} {b : Nat} {o : Obj} (h : Held w O b o) (hb : Below w.heap.size w w') : Held w' O b o := ⟨hkeep hb h.1, h.2⟩
/-- An action, and the heap after it. -/
def PrP (base n : Nat) (O : Nat → Prop) (h : Nat) (M : LH) (AA : List (List V)) (kind : Int) (f : V) (A : List V) (s : ByteArray) (level next : Int) (K : List V) (w : World) (e : Ending) (w' : World) : Prop :=
  ∃ so cap sk ck O', e = .returned (acV kind 0 f (.slice so A.length cap) s level next (.slice sk K.length ck)) ∧ w'.ownsRow w.heap.size 30 5 (.slice so A.length cap) A.length (rowV A) ∧ w'.ownsRow w.heap.size 30 5 (.slice sk K.length ck) K.length (rowV K) ∧ PHp base n w' h M AA O' ∧ QS base O w O' w' ∧ ∀ b, (Value.slice sk K.length ck).ownBlock = some b → ¬ O' b
theorem no_own {w : World} {B size n : Nat} {ty : TypeId} {v : Value} {xs : List Value} {O : Nat → Prop} (h : w.ownsRow B ty size v n xs) (hO : ∀ b, O b → b < B) (b : Nat) (hb : v.ownBlock = some b) : ¬ O b := fun e => by
  have := (ownBlock_lt h hb).1
  have := hO b e
  omega
theorem qs_twelve {base : Nat} {O O' : Nat → Prop} {a w : World} (h : QS base O a O' w) {b : Nat} (hb : a.heap.size ≤ b) (c0 c1 c2 c3 c4 c5 c6 c7 c8 c9 c10 c11 : Value) :
    QS base O a O' ((((((((((((w.setCell ⟨b, 0, none⟩ c0).setCell ⟨b, 1, none⟩ c1).setCell ⟨b, 2, none⟩ c2).setCell ⟨b, 3, none⟩ c3).setCell ⟨b, 4, none⟩ c4).setCell ⟨b, 5, none⟩ c5).setCell ⟨b, 6, none⟩ c6).setCell ⟨b, 7, none⟩ c7).setCell ⟨b, 8, none⟩ c8).setCell ⟨b, 9, none⟩ c9).setCell ⟨b, 10, none⟩ c10).setCell ⟨b, 11, none⟩ c11) :=
  ⟨mods_twelve h.1 (.inr hb) 0 1 2 3 4 5 6 7 8 9 10 11 c0 c1 c2 c3 c4 c5 c6 c7 c8 c9 c10 c11, h.2⟩
theorem PHp.mods {base n : Nat} {w w' : World} {h : Nat} {M : LH} {AA : List (List V)} {O : Nat → Prop} (hP : PHp base n w h M AA O) {b : Nat} {cs : Array Value} (hb : w.heap[b]? = some (.cells cs 39)) (hm : Mods (fun k => k = b) w w') : PHp base n w' h M AA O := by
  obtain ⟨⟨bo, bt, H, h1, h2, h2a, h3, h4, h5⟩, h6⟩ := hP
  refine ⟨⟨bo, bt, H, h1.keepF (fun k hk => hm.block k (hp_lt h1 hk) (fun e => ?_)), h2, h2a, h3, h4, h5⟩, fun k hk => Nat.lt_of_lt_of_le (h6 k hk) hm.size⟩
  subst e
  rcases hp_pb h1 hk with ⟨o, h7, h8⟩ | ⟨_, _, _, _, cur, h7⟩
  · rw [hb] at h7
    injection h7 with h7
    subst h7
    rcases h8 with h8 | h8 | h8 | h8 | h8 <;> exact absurd h8 (by decide)
  · rw [hb] at h7
    injection h7 with h7
    injection h7 with _ h7
    exact absurd h7 (by decide)
/-- The end of a function that hands an action on. -/
theorem prP_end {base n : Nat} {O O' : Nat → Prop} {h : Nat} {M : LH} {AA : List (List V)} {kind : Int} {f : V} {A : List V} {s : ByteArray} {level next : Int} {K : List V} {w W : World} {so sk : Option Addr} {cap ck B b : Nat}
    (ho : W.ownsRow B 30 5 (.slice so A.length cap) A.length (rowV A)) (hk : W.ownsRow B 30 5 (.slice sk K.length ck) K.length (rowV K)) (hP : PHp base n W h M AA O') (hq : QS base O w O' W) {cs : Array Value} (hbx : W.heap[b]? = some (.cells cs 39)) (hw : w.heap.size ≤ b) (hb : b < B) (hwB : w.heap.size ≤ B) (hno : ∀ b, (Value.slice sk K.length ck).ownBlock = some b → ¬ O' b) (c0 c1 c2 c3 c4 c5 c6 c7 c8 c9 c10 c11 : Value) :
    PrP base n O h M AA kind f A s level next K w (.returned (acV kind 0 f (.slice so A.length cap) s level next (.slice sk K.length ck))) ((((((((((((W.setCell ⟨b, 0, none⟩ c0).setCell ⟨b, 1, none⟩ c1).setCell ⟨b, 2, none⟩ c2).setCell ⟨b, 3, none⟩ c3).setCell ⟨b, 4, none⟩ c4).setCell ⟨b, 5, none⟩ c5).setCell ⟨b, 6, none⟩ c6).setCell ⟨b, 7, none⟩ c7).setCell ⟨b, 8, none⟩ c8).setCell ⟨b, 9, none⟩ c9).setCell ⟨b, 10, none⟩ c10).setCell ⟨b, 11, none⟩ c11) :=
  ⟨so, cap, sk, ck, O', rfl, ownsRow_base (row_twelve ho (row_away ho hb) _ _ _ _ _ _ _ _ _ _ _ _) hwB, ownsRow_base (row_twelve hk (row_away hk hb) _ _ _ _ _ _ _ _ _ _ _ _) hwB, hP.mods hbx (mods_twelve (F := fun k => k = b) (Mods.refl _ _) (.inl rfl) 0 1 2 3 4 5 6 7 8 9 10 11 _ _ _ _ _ _ _ _ _ _ _ _), qs_twelve hq hw _ _ _ _ _ _ _ _ _ _ _ _, hno⟩
theorem prjC5 {c0 c1 c2 c3 c4 p : Prop} (h : c0 ∧ c1 ∧ c2 ∧ c3 ∧ c4 ∧ Hid p) : p := (h.2.2.2.2.2).out
abbrev oNdC (fk fp fq : Int) (fs : ByteArray) (fr : Int) (g : Nat) : Obj := .cells #[.int .i64 2, .int .i64 0, .int .i64 0, .int .i64 0, .string ⟨#[]⟩, .int .i64 0, .int .i64 fk, .int .i64 fp, .int .i64 fq, .string fs, .int .i64 fr, .slice (some ⟨g, 0, none⟩) 1 1, .int .i64 1, .string ⟨#[]⟩] 122
theorem vals_block {w : World} {b : Nat} {A : List V} {fz : Nat × Nat} (h : w.heap[b]? = some (.cells (rowV A).toArray 30 fz)) : Vals w (.slice (some ⟨b, 0, none⟩) A.length A.length) A :=
  ⟨_, _, rfl, Nat.le_refl _, (fun h => by cases h), .inr ⟨b, 0, rfl, (Array.getElem?_eq_some_iff.1 h).1, fun j u hj => by
    rw [cell_of_heap h, Nat.zero_add, List.getElem?_toArray]
    exact hj⟩⟩
/-- Where the loop of printed is. -/
def PrR (base n0 : Nat) (h : Nat) (M : LH) (AA : List (List V)) (O : Nat → Prop) (w : World) (tb : Obj) (wr : World) : Prop :=
  ∃ O', PHp base n0 wr h M AA O' ∧ QS base O w O' wr ∧ Held wr O' w.heap.size tb ∧ Held wr O' (w.heap.size + 1) oAc
theorem php_len {base n : Nat} {w : World} {h : Nat} {M : LH} {AA : List (List V)} {O : Nat → Prop} (hP : PHp base n w h M AA O) : AA.length = M.length := by
  obtain ⟨⟨bo, bt, H, h1, h2, h2a, _⟩, _⟩ := hP
  rw [← h2, ← h2a]
  unfold lh
  rw [List.length_map, List.length_map]
theorem vals_held {w w' : World} {g o n cap : Nat} {A : List V} (h : Vals w (.slice (some ⟨g, o, none⟩) n cap) A) (hg : w'.heap[g]? = w.heap[g]?) (hl : g < w'.heap.size) : Vals w' (.slice (some ⟨g, o, none⟩) n cap) A := by
  obtain ⟨so, c, h1, h2, hn, h3⟩ := h
  refine ⟨so, c, h1, h2, hn, ?_⟩
  rcases h3 with h3 | ⟨g2, o2, h4, h5, h6⟩
  · exact .inl h3
  · injection h1 with h1 _ _
    rw [h4] at h1
    injection h1 with h1
    injection h1 with h1 h7
    subst h1 h7
    exact .inr ⟨g, o, h4, hl, fun j u hj => by rw [← h6 j u hj]; unfold World.cell?; rw [hg]⟩
theorem set_last {α : Type} {l : List α} {n : Nat} (h : l.length = n) (x y : α) : (l ++ [x]).set n y = l ++ [y] := by
  subst h
  simp
/-- Where the loop of keep is. -/
def KpR (base n0 : Nat) (h : Nat) (M : LH) (AA : List (List V)) (A : List V) (O : Nat → Prop) (w : World) (c g tb : Nat) (oc og ot : Obj) (i : Nat) (wr : World) : Prop :=
  ∃ O', PHp base (n0 + i) wr h (M ++ [⟨4, V.nil, []⟩]) (AA ++ [A.take i]) O' ∧ QS base O w O' wr ∧ Held wr O' c oc ∧ Held wr O' g og ∧ Held wr O' w.heap.size oAc ∧ Held wr O' tb ot
def prtN : ByteArray := ⟨#[112, 114, 105, 110, 116]⟩
theorem prtN_last : Lib.lastIndexByte prtN 46 = -1 := by kernel_rfl
theorem at_print : Lib.idxOfS namesL prtN = 18 := by kernel_rfl
theorem line_prp {base n : Nat} {w w' : World} {h : Nat} {M : LH} {AA : List (List V)} {O : Nat → Prop} {S : ByteArray} {e : Ending} (hP : PHp base n w h M AA O) (h1 : LinePost w S e w') : PrP base n O h M AA (lineK S) V.nil (lineA S) (lineS S) (lineL S) 0 [] w e w' := by
  obtain ⟨⟨so, cap, sk, ck, he, hr, hk⟩, hb⟩ := h1
  exact ⟨so, cap, sk, ck, O, he, hr, hk, hP.below hb, QS.of_below hb, no_own hk hP.lt⟩
theorem kept_cells {w : World} {gk ck : Nat} {cs : Array Value} {fz : Nat × Nat} {ti i n : Nat} (hK : Vals w (.slice (some ⟨gk, 0, none⟩) 3 ck) [⟨4, 0, 0, ⟨#[]⟩, (ti : Int) + 1⟩, nmV ((i : Int) + 1), nmV n]) (hg : w.heap[gk]? = some (.cells cs 30 fz)) (W : World) (hW : W.heap[gk]? = w.heap[gk]?) : W.cell? ⟨gk, 0, none⟩ = some (.int .i64 4) ∧ W.cell? ⟨gk, 1, none⟩ = some (.int .i64 0) ∧ W.cell? ⟨gk, 2, none⟩ = some (.int .i64 0) ∧ W.cell? ⟨gk, 3, none⟩ = some (.string ⟨#[]⟩) ∧ W.cell? ⟨gk, 4, none⟩ = some (.int .i64 ((ti : Int) + 1)) ∧ W.cell? ⟨gk, 5, none⟩ = some (.int .i64 2) ∧ W.cell? ⟨gk, 6, none⟩ = some (.int .i64 ((i : Int) + 1)) ∧ W.cell? ⟨gk, 7, none⟩ = some (.int .i64 1) ∧ W.cell? ⟨gk, 8, none⟩ = some (.string ⟨#[]⟩) ∧ W.cell? ⟨gk, 9, none⟩ = some (.int .i64 0) ∧ W.cell? ⟨gk, 10, none⟩ = some (.int .i64 2) ∧ W.cell? ⟨gk, 11, none⟩ = some (.int .i64 (n : Nat)) ∧ W.cell? ⟨gk, 12, none⟩ = some (.int .i64 1) ∧ W.cell? ⟨gk, 13, none⟩ = some (.string ⟨#[]⟩) ∧ W.cell? ⟨gk, 14, none⟩ = some (.int .i64 0) := by
  have hl := (Array.getElem?_eq_some_iff.1 hg).1
  have hlW : gk < W.heap.size := (Array.getElem?_eq_some_iff.1 (hW.trans hg)).1
  have h2 := vals_held hK hW hlW
  obtain ⟨_, a0, a1, a2, a3, a4⟩ := Vals.at_ h2 (i := 0) rfl
  obtain ⟨_, b0, b1, b2, b3, b4⟩ := Vals.at_ h2 (i := 1) rfl
  obtain ⟨_, c0, c1, c2, c3, c4⟩ := Vals.at_ h2 (i := 2) rfl
  exact ⟨a0, a1, a2, a3, a4, b0, b1, b2, b3, b4, c0, c1, c2, c3, c4⟩
def isT (cs : List Bool) (i : Nat) : Bool := cs.getD i false
def nT (cs : List Bool) : Nat → Nat
  | 0 => 0
  | i + 1 => nT cs i + (if isT cs i then 1 else 0)
theorem nT_le2 (cs : List Bool) : ∀ i, nT cs i ≤ i
  | 0 => Nat.le_refl _
  | i + 1 => by
    have := nT_le2 cs i
    show nT cs i + (if isT cs i then 1 else 0) ≤ i + 1
    split <;> omega
def sAt (l : List ByteArray) (i : Nat) : ByteArray := l.getD i ⟨#[]⟩
def argV (l : List ByteArray) (cs : List Bool) (i : Nat) : V := if isT cs i then ⟨4, 0, 0, ⟨#[]⟩, (nT cs i : Int) + 2⟩ else strV (sAt l i)
def mixL (l : List ByteArray) (cs : List Bool) (n i : Nat) : List V := (List.range n).map fun k => if k < i then strV (sAt l k) else argV l cs k
def argL (l : List ByteArray) (cs : List Bool) (n : Nat) : List V := (List.range n).map (argV l cs)
def fV : V := ⟨6, 0, 0, ⟨#[102]⟩, 0⟩
def mV : V := ⟨4, 0, 0, ⟨#[]⟩, 1⟩
def L0 : List Sl := setM [] (strV toStrN) fV
def tM (k : Nat) : LH := ⟨4, V.nil, L0⟩ :: List.replicate k ⟨4, mV, []⟩
theorem tM_len (k : Nat) : (tM k).length = k + 1 := by unfold tM; simp
theorem L0_get : getM L0 (strV toStrN) = fV := by kernel_rfl
theorem hand_tab (k r : Nat) (hr : r < k) (X : LH) : handH (tM k ++ X) ⟨4, 0, 0, ⟨#[]⟩, (r : Int) + 2⟩ toStrN = fV := by
  have h1 : findL (tM k ++ X) ⟨4, 0, 0, ⟨#[]⟩, (r : Int) + 2⟩ = some ⟨4, mV, []⟩ := by
    unfold findL
    rw [if_pos (by show 1 ≤ (r : Int) + 2; omega), show ((r : Int) + 2).toNat - 1 = r + 1 by omega]
    rw [List.getElem?_append_left (by rw [tM_len]; omega)]
    unfold tM
    rw [List.getElem?_cons_succ, List.getElem?_replicate, if_pos hr]
    rfl
  have h2 : findL (tM k ++ X) mV = some ⟨4, V.nil, L0⟩ := by
    unfold findL
    rw [if_pos (by show (1 : Int) ≤ 1; decide)]
    rfl
  unfold handH metaH
  rw [h1]
  show vV (getH (tM k ++ X) mV toStrN) = fV
  unfold getH
  rw [h2]
  exact L0_get
theorem meta_tab (k : Nat) : setMetaH (tM k ++ [⟨4, V.nil, []⟩]) ⟨4, 0, 0, ⟨#[]⟩, (k : Int) + 2⟩ mV = tM (k + 1) := by
  have h1 : findL (tM k ++ [⟨4, V.nil, []⟩]) ⟨4, 0, 0, ⟨#[]⟩, (k : Int) + 2⟩ = some ⟨4, V.nil, []⟩ := by
    unfold findL
    rw [if_pos (by show 1 ≤ (k : Int) + 2; omega), show ((k : Int) + 2).toNat - 1 = (tM k).length by rw [tM_len]; omega]
    rw [List.getElem?_append_right (Nat.le_refl _), Nat.sub_self]
    rfl
  have h2 : tabH (tM k ++ [⟨4, V.nil, []⟩]) mV = true := by
    unfold tabH findL
    rw [if_pos (by show (1 : Int) ≤ 1; decide)]
    rfl
  unfold setMetaH
  rw [h1]
  show (if ((4 : Int) = 4 ∨ (4 : Int) = 8) ∧ (eqV mV V.nil = true ∨ tabH _ mV = true) then _ else _) = _
  rw [if_pos ⟨.inl rfl, .inr h2⟩, show ((k : Int) + 2).toNat - 1 = (tM k).length by rw [tM_len]; omega, set_last rfl]
  unfold tM
  rw [List.replicate_succ']
  rfl
theorem mix_len (l : List ByteArray) (cs : List Bool) (n i : Nat) : (mixL l cs n i).length = n := by unfold mixL; simp
theorem mix_get (l : List ByteArray) (cs : List Bool) (n i k : Nat) (hk : k < n) : (mixL l cs n i)[k]? = some (if k < i then strV (sAt l k) else argV l cs k) := by
  unfold mixL
  rw [List.getElem?_map, List.getElem?_range hk]
  rfl
theorem mix_zero (l : List ByteArray) (cs : List Bool) (n : Nat) : mixL l cs n 0 = argL l cs n := by
  unfold mixL argL
  apply List.map_congr_left
  intro k _
  rw [if_neg (Nat.not_lt_zero k)]
theorem mix_set (l : List ByteArray) (cs : List Bool) (n i : Nat) (hi : i < n) : (mixL l cs n i).set i (strV (sAt l i)) = mixL l cs n (i + 1) := by
  apply List.ext_getElem?
  intro k
  rw [List.getElem?_set, mix_len]
  by_cases hk : k < n
  · rw [mix_get _ _ _ _ _ hk, mix_get _ _ _ _ _ hk]
    by_cases he : i = k
    · subst he; rw [if_pos rfl, if_pos hi, if_pos (Nat.lt_succ_self i)]
    · rw [if_neg he]
      by_cases hl : k < i
      · rw [if_pos hl, if_pos (by omega)]
      · rw [if_neg hl, if_neg (by omega)]
  · rw [if_neg (by omega), List.getElem?_eq_none_iff.2 (by rw [mix_len]; omega), List.getElem?_eq_none_iff.2 (by rw [mix_len]; omega)]
theorem argL_succ (l : List ByteArray) (cs : List Bool) (i : Nat) : argL l cs (i + 1) = argL l cs i ++ [argV l cs i] := by
  unfold argL
  rw [List.range_succ, List.map_append]
  rfl
theorem argL_len (l : List ByteArray) (cs : List Bool) (n : Nat) : (argL l cs n).length = n := by unfold argL; simp
def wantB (l : List ByteArray) (i : Nat) : ByteArray := ⟨(Lib.join ((l.take i).map (·.data.toList)) [9]).toArray⟩
theorem join_snoc (l : List (List UInt8)) (x : List UInt8) (sep : List UInt8) (h : l ≠ []) : Lib.join (l ++ [x]) sep = Lib.join l sep ++ sep ++ x := by
  cases l with
  | nil => exact absurd rfl h
  | cons y r =>
    rw [List.cons_append, Lib.join_cons, Lib.join_cons]
    unfold Lib.joinTail
    rw [List.map_append, List.flatten_append]
    simp
theorem bytes_ext {a b : ByteArray} (h : a.data.toList = b.data.toList) : a = b := ByteArray.ext (Array.toList_inj.1 h)
theorem want_one (l : List ByteArray) (x : ByteArray) (h : l[0]? = some x) : (⟨#[]⟩ : ByteArray) ++ x = wantB l 1 := by
  apply bytes_ext
  unfold wantB
  cases l with
  | nil => cases h
  | cons y r =>
    injection h with h
    subst h
    simp [Lib.join_one]
theorem want_succ (l : List ByteArray) (i : Nat) (x : ByteArray) (hi : 0 < i) (h : l[i]? = some x) : wantB l i ++ ⟨#[9]⟩ ++ x = wantB l (i + 1) := by
  apply bytes_ext
  have hl : i < l.length := (List.getElem?_eq_some_iff.1 h).1
  unfold wantB
  rw [List.take_add_one, h]
  show _ = (Lib.join (List.map (fun x : ByteArray => x.data.toList) (l.take i ++ [x])) [9]).toArray.toList
  rw [List.map_append, List.map_singleton, join_snoc _ _ _ (fun e => by
    have := congrArg List.length e
    rw [List.length_map, List.length_take, List.length_nil] at this
    omega)]
  simp
/-- The next table from i on. -/
def NX (cs : List Bool) (n i j : Nat) : Prop := i ≤ j ∧ j ≤ n ∧ (∀ k, i ≤ k → k < j → isT cs k = false) ∧ (j < n → isT cs j = true)
theorem nx_ex (cs : List Bool) (n : Nat) : ∀ (d i : Nat), i + d = n → ∃ j, NX cs n i j
  | 0, i, h => ⟨i, Nat.le_refl _, by omega, fun k h1 h2 => by omega, fun h1 => by omega⟩
  | d + 1, i, h => by
    cases hb : isT cs i with
    | true => exact ⟨i, Nat.le_refl _, by omega, fun k h1 h2 => by omega, fun _ => hb⟩
    | false =>
      obtain ⟨j, h1, h2, h3, h4⟩ := nx_ex cs n d (i + 1) (by omega)
      refine ⟨j, by omega, h2, fun k h5 h6 => ?_, h4⟩
      by_cases he : k = i
      · subst he; exact hb
      · exact h3 k (by omega) h6
theorem mix_eq (l : List ByteArray) (cs : List Bool) (n i j : Nat) (hij : i ≤ j) (h : ∀ k, i ≤ k → k < j → isT cs k = false) : mixL l cs n i = mixL l cs n j := by
  unfold mixL
  apply List.map_congr_left
  intro k _
  by_cases h1 : k < i
  · rw [if_pos h1, if_pos (by omega)]
  · rw [if_neg h1]
    by_cases h2 : k < j
    · rw [if_pos h2]; unfold argV; rw [h k (by omega) h2]; rfl
    · rw [if_neg h2]
theorem mix_str (l : List ByteArray) (cs : List Bool) (n i k : Nat) (v : V) (hs : ∀ k, k < n → (sAt l k).size ≤ 4096) (hv : (mixL l cs n i)[k]? = some v) (hk : k < i ∨ isT cs k = false) : IsStr v := by
  have hkn : k < n := by have := (List.getElem?_eq_some_iff.1 hv).1; rwa [mix_len] at this
  rw [mix_get _ _ _ _ _ hkn] at hv
  injection hv with hv
  have hstr : v = strV (sAt l k) := by
    rw [← hv]
    by_cases h1 : k < i
    · rw [if_pos h1]
    · rw [if_neg h1]; unfold argV; rw [hk.resolve_left h1]; rfl
  rw [hstr]
  exact ⟨rfl, rfl, rfl, rfl, hs k hkn⟩
theorem mix_line (l : List ByteArray) (cs : List Bool) (i : Nat) (h : ∀ k, i ≤ k → k < l.length → isT cs k = false) : lineOf (mixL l cs l.length i) = wantB l l.length := by
  unfold lineOf wantB
  have e : (mixL l cs l.length i).map V.s = l := by
    apply List.ext_getElem?
    intro k
    rw [List.getElem?_map]
    by_cases hk : k < l.length
    · rw [mix_get _ _ _ _ _ hk]
      show some (V.s _) = _
      have e1 : (if k < i then strV (sAt l k) else argV l cs k) = strV (sAt l k) := by
        by_cases h1 : k < i
        · rw [if_pos h1]
        · rw [if_neg h1]; unfold argV; rw [h k (by omega) hk]; rfl
      rw [e1]
      show some (sAt l k) = _
      unfold sAt
      rw [List.getD_eq_getElem?_getD, List.getElem?_eq_getElem hk]
      rfl
    · rw [List.getElem?_eq_none_iff.2 (by rw [mix_len]; omega), List.getElem?_eq_none_iff.2 (by omega)]
      rfl
  rw [e, List.take_length]
theorem arg_valid (l : List ByteArray) (cs : List Bool) (k : Nat) (hs : (sAt l k).size ≤ 4096) (hk : k ≤ 100) : (argV l cs k).k ≠ 0 ∧ validV (argV l cs k) = true ∧ WfV (argV l cs k) := by
  unfold argV
  have := nT_le2 cs k
  split
  · refine ⟨by show (4 : Int) ≠ 0; decide, ?_, ⟨(⟨by decide, by decide⟩ : i64 4), (⟨by decide, by decide⟩ : i64 0), (⟨by decide, by decide⟩ : i64 0), Nat.zero_le _, (show i64 ((nT cs k : Int) + 2) from ⟨by omega, by omega⟩)⟩⟩
    unfold validV isRef noNum noStr
    have e : (⟨#[]⟩ : ByteArray) = ByteArray.empty := rfl
    have h1 : (1 : Int) ≤ (nT cs k : Int) + 2 := by omega
    simp [h1, e]
  · exact ⟨by show (3 : Int) ≠ 0; decide, valid_str hs, wf_str hs⟩
/-- What Begin and Next of print give, with the heap after it: the next table is argument j. -/
def BegP (base : Nat) (O : Nat → Prop) (h K : Nat) (l : List ByteArray) (cs : List Bool) (j : Nat) (kind : Int) (f : V) (A : List V) (s : ByteArray) (level next : Int) (Kp : List V) (w : World) (e : Ending) (w' : World) : Prop :=
  ∃ so cap sk ck O', e = .returned (acV kind 0 f (.slice so A.length cap) s level next (.slice sk Kp.length ck)) ∧ w'.ownsRow w.heap.size 30 5 (.slice so A.length cap) A.length (rowV A) ∧ w'.ownsRow w.heap.size 30 5 (.slice sk Kp.length ck) Kp.length (rowV Kp) ∧
    (j = l.length ∨ PHp base (1 + l.length) w' h (tM K ++ [⟨4, V.nil, []⟩]) (List.replicate (K + 1) [] ++ [mixL l cs l.length j]) O') ∧ QS base O w O' w' ∧ (∀ b, (Value.slice sk Kp.length ck).ownBlock = some b → ¬ O' b) ∧ ∀ b, O' b → b < w'.heap.size
/-- What the action is. -/
def ActI (K : Nat) (l : List ByteArray) (cs : List Bool) (j : Nat) (kind : Int) (f : V) (A : List V) (s : ByteArray) (next : Int) (Kp : List V) : Prop :=
  (j < l.length ∧ kind = 3 ∧ f = fV ∧ A = [argV l cs j] ∧ next = 1 ∧ Kp = [⟨4, 0, 0, ⟨#[]⟩, ((K + 1 : Nat) : Int) + 1⟩, nmV ((j : Int) + 1), nmV l.length]) ∨
  (j = l.length ∧ kind = lineK (wantB l l.length) ∧ s = lineS (wantB l l.length))
theorem prp_beg {base n0 : Nat} {O : Nat → Prop} {h K : Nat} {l : List ByteArray} {cs : List Bool} {j : Nat} {kind : Int} {f : V} {A : List V} {s : ByteArray} {level next : Int} {Kp : List V} {w : World} {M : LH} {AA : List (List V)} (hM : j = l.length ∨ (n0 = 1 + l.length ∧ M = tM K ++ [⟨4, V.nil, []⟩] ∧ AA = List.replicate (K + 1) [] ++ [mixL l cs l.length j])) {e : Ending} {w' : World} (hp : PrP base n0 O h M AA kind f A s level next Kp w e w') : BegP base O h K l cs j kind f A s level next Kp w e w' := by
  obtain ⟨so, cap, sk, ck, O', h1, h2, h3, h4, h5, h6⟩ := hp
  refine ⟨so, cap, sk, ck, O', h1, h2, h3, ?_, h5, h6, h4.lt⟩
  rcases hM with e | ⟨rfl, rfl, rfl⟩
  · exact .inl e
  · exact .inr h4
set_option maxRecDepth 100000 in
set_option maxHeartbeats 2000000 in
theorem pomNew_c (w : World) : Calls Tryz.prog 56 #[] w (fun e w' => e = .returned (.pointer (some ⟨w.heap.size + 1, 0, none⟩)) ∧ OMap w' (w.heap.size + 1) w.heap.size (.slice none 0 0) [] ∧ Below w.heap.size w w') := by
  have hmm := @run_makeMap Tryz.prog
  go_enter Tryz.func56, Tryz.ntmps56
  go_wp2
  go_ret
  refine ⟨by first | rfl | simp, ⟨?_, World.ownsRow_nil _ _ _ _, fun s h => (by cases h), [], fun _ => none, (mapAt_new 30 w).keep (Below.heap_alloc _ _ _ (by simp)), fun p => ⟨fun h => (by cases h), fun ⟨v, n, _, h⟩ => (by cases h)⟩, idx_nil⟩, below2w _ _ _⟩
  exact heap2_b _ _ _
set_option maxRecDepth 100000 in
set_option maxHeartbeats 2000000 in
theorem ptabNew_c (w : World) : Calls Tryz.prog 24 #[] w (fun e w' => e = .returned (.pointer (some ⟨w'.heap.size - 1, 0, none⟩)) ∧ (∃ m g, TabAt w' (w'.heap.size - 1) m g (.slice none 0 0) [] ∧ w.heap.size ≤ m ∧ w.heap.size ≤ g ∧ w.heap.size ≤ w'.heap.size - 1) ∧ Below w.heap.size w w') := by
  go_enter Tryz.func24, Tryz.ntmps24
  go_wp2_with fail
  refine (pomNew_c _).mono ?_
  rintro e w1 ⟨rfl, hO, hb⟩
  have HO := Lib.hid hO
  have HB := Lib.hid hb
  have hz := hb.size
  clear hO hb
  go_wp2
  go_ret
  have hb2 : Below w1.heap.size w1 (w1.alloc (.cells #[.slice none 0 0, .pointer (some ⟨w.heap.size + 1, 0, none⟩)] 102)) := (Below.refl _ _).alloc (Nat.le_refl _) _
  refine ⟨by simp, ⟨_, _, ⟨?_, om_keep_below HO.out hb2⟩, by omega, by omega, by simp; omega⟩, below_next HB.out hb2⟩
  have := heap_new w1 (.cells #[.slice none 0 0, .pointer (some ⟨w.heap.size + 1, 0, none⟩)] 102)
  simpa using this
end Go.Proofs.YteflmfdjnigjcaaGreatDoor
