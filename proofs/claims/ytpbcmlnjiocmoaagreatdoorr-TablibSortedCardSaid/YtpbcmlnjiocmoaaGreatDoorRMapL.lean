import Derived.Test.YtpbcmlnjiocmoaaGreatDoorRLexB
import Derived.Laws.CopyRow
import Derived.Laws.IdiomCopy
import Derived.Shelf.Strings.BuilderK
set_option linter.unusedVariables false
set_option linter.unusedSimpArgs false
set_option maxRecDepth 100000
namespace Go.Proofs.YtpbcmlnjiocmoaaGreatDoorR
open Go.RowKit Go.Proofs.Lexi Go.ChangeMaps Go.MapKept
open Go.Maps (Keyed)
/-- What a call changes: the blocks in F, and new ones. -/
structure Mods (F : Nat → Prop) (w w' : World) : Prop where
  os : w'.os = w.os
  tape : w'.tape = w.tape
  output : w'.output = w.output
  size : w.heap.size ≤ w'.heap.size
  block : ∀ k, k < w.heap.size → ¬ F k → w'.heap[k]? = w.heap[k]?
theorem Mods.of_below {F : Nat → Prop} {w w' : World} (h : Below w.heap.size w w') : Mods F w w' := ⟨h.os, h.tape, h.output, h.size, fun k hk _ => h.block k hk⟩
theorem Mods.below {F : Nat → Prop} {B : Nat} {w w' : World} (h : Mods F w w') (hB : B ≤ w.heap.size) (hF : ∀ k, k < B → ¬ F k) : Below B w w' :=
  ⟨h.os, h.tape, h.output, h.size, fun k hk => h.block k (by omega) (hF k hk)⟩
theorem Mods.refl (F : Nat → Prop) (w : World) : Mods F w w := ⟨rfl, rfl, rfl, Nat.le_refl _, fun _ _ _ => rfl⟩
theorem Mods.trans {F : Nat → Prop} {a b c : World} (h : Mods F a b) (k : Mods F b c) : Mods F a c :=
  ⟨k.os.trans h.os, k.tape.trans h.tape, k.output.trans h.output, Nat.le_trans h.size k.size, fun i hi hF => (k.block i (Nat.lt_of_lt_of_le hi h.size) hF).trans (h.block i hi hF)⟩
theorem Mods.mono {F G : Nat → Prop} {a b : World} (h : Mods F a b) (hFG : ∀ k, k < a.heap.size → F k → G k) : Mods G a b :=
  ⟨h.os, h.tape, h.output, h.size, fun k hk hG => h.block k hk (fun hF => hG (hFG k hk hF))⟩
variable {P : Program}
/-- The stamps of a map's entries: no two are alike, all lie below the clock. -/
def Born (es : Array MapEntry) (c : Nat) : Prop := (es.toList.map (·.born)).Nodup ∧ ∀ b ∈ es.toList.map (·.born), b < c
theorem Born.push {es : Array MapEntry} {c : Nat} (h : Born es c) (x v : Value) : Born (es.push { key := x, val := v, born := c }) (c + 1) := by
  have e : (es.push { key := x, val := v, born := c }).toList.map (·.born) = es.toList.map (·.born) ++ [c] := by simp
  unfold Born
  rw [e]
  refine ⟨List.nodup_append.2 ⟨h.1, by simp, fun a ha b hb => ?_⟩, fun b hb => ?_⟩
  · rw [List.mem_singleton] at hb
    have := h.2 a ha
    omega
  · rcases List.mem_append.1 hb with hb | hb
    · have := h.2 b hb
      omega
    · rw [List.mem_singleton] at hb
      omega
theorem Born.same {es es' : Array MapEntry} {c : Nat} (h : Born es c) (e : es'.toList.map (·.born) = es.toList.map (·.born)) : Born es' c := by
  unfold Born
  rw [e]
  exact h
theorem Born.erase {es : Array MapEntry} {c : Nat} (h : Born es c) (j : Nat) : Born (es.eraseIdxIfInBounds j) c := by
  have e : ((es.eraseIdxIfInBounds j).toList.map (·.born)) = (es.toList.map (·.born)).eraseIdx j := by rw [Array.toList_eraseIdxIfInBounds, map_eraseIdx]
  unfold Born
  rw [e]
  exact ⟨h.1.sublist (List.eraseIdx_sublist _ _), fun b hb => h.2 b (List.mem_of_mem_eraseIdx hb)⟩
/-- A map's entries, in the order of the block. -/
def MapAt (P : Program) (k : TypeId) (w : World) (b : Nat) (E : List (Value × Value)) : Prop :=
  ∃ es clock, w.heap[b]? = some (.map es clock) ∧ es.toList.map (fun e => (e.key, e.val)) = E ∧ (∀ p ∈ E, ∃ l, keyOf P k p.1 = some l) ∧ E.Pairwise (fun p q => p.1 ≠ q.1) ∧ Born es clock
theorem mapAt_new (k : TypeId) (w : World) : MapAt P k (w.alloc (.map #[] 0)) w.heap.size [] := ⟨#[], 0, heap_new _ _, rfl, fun p h => by simp at h, .nil, .nil, fun b h => by simp at h⟩
theorem MapAt.lt {k : TypeId} {w : World} {b : Nat} {E : List (Value × Value)} (h : MapAt P k w b E) : b < w.heap.size := by
  obtain ⟨es, c, hb, _⟩ := h
  exact (Array.getElem?_eq_some_iff.1 hb).1
theorem MapAt.keep {k : TypeId} {w w' : World} {b : Nat} {E : List (Value × Value)} (h : MapAt P k w b E) (hk : w'.heap[b]? = w.heap[b]?) : MapAt P k w' b E := by
  obtain ⟨es, c, hb, r⟩ := h
  exact ⟨es, c, hk.trans hb, r⟩
theorem mem_entries {es : Array MapEntry} {E : List (Value × Value)} (hE : es.toList.map (fun e => (e.key, e.val)) = E) {j : Nat} {e : MapEntry} (hj : es.toList[j]? = some e) : E[j]? = some (e.key, e.val) := by
  rw [← hE, List.getElem?_map, hj]; rfl
section
variable {k e t : TypeId} {w : World} {b : Nat} {E : List (Value × Value)}
theorem MapAt.find (h : MapAt P k w b E) (K : Keyed P k) {x : Value} {l : Lit} (hx : keyOf P k x = some l) {es : Array MapEntry} {c : Nat} (hb : w.heap[b]? = some (.map es c)) :
    ((Instr.findKey k x es.toList).run P w = .ok none w ∧ ∀ p ∈ E, p.1 ≠ x) ∨ ∃ j v, (Instr.findKey k x es.toList).run P w = .ok (some (j, v)) w ∧ E[j]? = some (x, v) ∧ j < es.size ∧ (es[j]?).map (·.key) = some x := by
  obtain ⟨es', c', hb', hE, hk, hd, _⟩ := h
  rw [hb] at hb'
  injection hb' with hb'
  injection hb' with h1 h2
  subst h1 h2
  rcases K.find w hx es.toList (fun y hy => by
    obtain ⟨j, hj⟩ := List.getElem?_of_mem hy
    exact hk _ (List.mem_of_getElem? (mem_entries hE hj))) with ⟨h1, h2⟩ | ⟨j, y, h1, h2, h3⟩
  · refine .inl ⟨h1, fun p hp => ?_⟩
    rw [← hE, List.mem_map] at hp
    obtain ⟨y, hy, rfl⟩ := hp
    exact h2 y hy
  · refine .inr ⟨j, y.val, h1, by rw [mem_entries hE h2, h3], ?_, ?_⟩
    · have := (List.getElem?_eq_some_iff.1 h2).1
      rwa [Array.length_toList] at this
    · rw [← Array.getElem?_toList, h2, ← h3]; rfl
/-- The look-up. -/
theorem MapAt.look (h : MapAt P k w b E) (K : Keyed P k) (ht : P.underlying t = some (.map k e)) {z : Value} (hz : (zeroValue e).run P w = .ok z w) {x : Value} {l : Lit} (hx : keyOf P k x = some l) :
    ((∀ p ∈ E, p.1 ≠ x) ∧ ∀ c, (Instr.lookup t (.map (some b)) x c).run P w = .ok (if c then .tuple #[z, .bool false] else z) w) ∨
    ∃ v, (x, v) ∈ E ∧ ∀ c, (Instr.lookup t (.map (some b)) x c).run P w = .ok (if c then .tuple #[v, .bool true] else v) w := by
  have h0 := h
  obtain ⟨es, cl, hb, _⟩ := h0
  rcases h.find K hx hb with ⟨h1, h2⟩ | ⟨j, v, h1, h2, _⟩
  · refine .inl ⟨h2, fun c => ?_⟩
    simp [Instr.lookup, run_underlying ht, MapKept.run_getObj_map hb, K.check w es.isEmpty hx, h1, hz, Result.andThen]
  · refine .inr ⟨v, List.mem_of_getElem? h2, fun c => ?_⟩
    simp [Instr.lookup, run_underlying ht, MapKept.run_getObj_map hb, K.check w es.isEmpty hx, h1, Result.andThen]
theorem pairwise_set {E : List (Value × Value)} {j : Nat} {x v v' : Value} (hd : E.Pairwise (fun p q => p.1 ≠ q.1)) (hj : E[j]? = some (x, v)) : (E.set j (x, v')).Pairwise (fun p q => p.1 ≠ q.1) := by
  have h1 : (E.map (·.1)).Pairwise (· ≠ ·) := List.pairwise_map.2 hd
  have h2 : (E.set j (x, v')).map (·.1) = E.map (·.1) := by
    rw [List.map_set]
    apply List.ext_getElem?
    intro i
    rw [List.getElem?_set]
    split
    · rename_i he
      subst he
      rw [List.getElem?_map, hj]
      rw [List.length_map, if_pos (List.getElem?_eq_some_iff.1 hj).1]
      rfl
    · rfl
  exact List.pairwise_map.1 (h2 ▸ h1)
theorem mem_set_iff {E : List (Value × Value)} {j : Nat} {x v v' : Value} (hd : E.Pairwise (fun p q => p.1 ≠ q.1)) (hj : E[j]? = some (x, v)) (p : Value × Value) : p ∈ E.set j (x, v') ↔ p = (x, v') ∨ (p ∈ E ∧ p.1 ≠ x) := by
  have hl := (List.getElem?_eq_some_iff.1 hj).1
  have hjx : E[j] = (x, v) := by rw [List.getElem?_eq_getElem hl] at hj; injection hj
  constructor
  · intro hp
    obtain ⟨i, hi⟩ := List.getElem?_of_mem hp
    rw [List.getElem?_set] at hi
    split at hi
    · injection hi with hi; exact .inl hi.symm
    · rename_i hne
      refine .inr ⟨List.mem_of_getElem? hi, fun hc => ?_⟩
      have hil := (List.getElem?_eq_some_iff.1 hi).1
      rw [List.getElem?_eq_getElem hil] at hi
      injection hi with hi
      rcases Nat.lt_or_gt_of_ne hne with hlt | hgt
      · have := (List.pairwise_iff_getElem.1 hd) j i hl hil hlt
        rw [hi, hjx] at this
        exact this hc.symm
      · have := (List.pairwise_iff_getElem.1 hd) i j hil hl hgt
        rw [hi, hjx] at this
        exact this hc
  · rintro (rfl | ⟨h1, h2⟩)
    · exact List.mem_of_getElem? (List.getElem?_set_self hl)
    · obtain ⟨i, hi⟩ := List.getElem?_of_mem h1
      refine List.mem_of_getElem? (i := i) ?_
      rw [List.getElem?_set, if_neg]
      · exact hi
      · rintro rfl
        rw [hj] at hi
        injection hi with hi
        rw [← hi] at h2
        exact h2 rfl
/-- The store. -/
theorem MapAt.store (h : MapAt P k w b E) (K : Keyed P k) (ht : P.underlying t = some (.map k e)) {x : Value} {l : Lit} (hx : keyOf P k x = some l) (v : Value) :
    ∃ w' E', (Instr.mapUpdate t (.map (some b)) x v).run P w = .ok () w' ∧ MapAt P k w' b E' ∧ Mods (· = b) w w' ∧ w'.heap.size = w.heap.size ∧
      (∀ p, p ∈ E' ↔ p = (x, v) ∨ (p ∈ E ∧ p.1 ≠ x)) ∧ ((∀ p ∈ E, p.1 ≠ x) → E' = E ++ [(x, v)]) := by
  have h0 := h
  obtain ⟨es, cl, hb, hE, hk, hd, hn⟩ := h0
  rcases h.find K hx hb with ⟨h1, h2⟩ | ⟨j, v0, h1, h2, h3, h4⟩
  · refine ⟨_, E ++ [(x, v)], by simp [Instr.mapUpdate, run_underlying ht, MapKept.run_getObj_map hb, K.check w false hx, h1, MapKept.run_setObj_map _ hb, Result.andThen]; rfl, ?_, ?_, ?_, ?_, fun _ => rfl⟩
    · refine ⟨_, _, (heap_set hb).1, ?_, ?_, ?_, hn.push _ _⟩
      · rw [← hE]; simp
      · intro p hp
        rcases List.mem_append.1 hp with hp | hp
        · exact hk p hp
        · rw [List.mem_singleton] at hp; subst hp; exact ⟨l, hx⟩
      · rw [List.pairwise_append]
        refine ⟨hd, List.pairwise_singleton _ _, fun p hp q hq => ?_⟩
        rw [List.mem_singleton] at hq
        subst hq
        exact h2 p hp
    · exact ⟨rfl, rfl, rfl, by simp, fun r _ hr => (heap_set hb).2 r hr⟩
    · simp
    · intro p
      rw [List.mem_append, List.mem_singleton]
      constructor
      · rintro (hp | hp)
        · exact .inr ⟨hp, h2 p hp⟩
        · exact .inl hp
      · rintro (hp | hp)
        · exact .inr hp
        · exact .inl hp.1
  · have hkey : ((es[j]?).map (·.key)).getD x = x := by rw [h4]; rfl
    have hje : E.set j (x, v) = (es.modify j (fun e => { e with key := x, val := v })).toList.map (fun e => (e.key, e.val)) := by
      rw [← hE]
      apply List.ext_getElem?
      intro i
      rw [List.getElem?_set, List.getElem?_map, List.getElem?_map, Array.getElem?_toList, Array.getElem?_toList, Array.getElem?_modify]
      split
      · rename_i he
        subst he
        rw [List.length_map, Array.length_toList, if_pos h3, Array.getElem?_eq_getElem h3]
        rfl
      · rfl
    have hbo : (es.modify j (fun e => { e with key := x, val := v })).toList.map (·.born) = es.toList.map (·.born) := by
      apply List.ext_getElem?
      intro i
      rw [List.getElem?_map, List.getElem?_map, Array.getElem?_toList, Array.getElem?_toList, Array.getElem?_modify]
      split
      · rename_i he
        subst he
        rw [Array.getElem?_eq_getElem h3]
        rfl
      · rfl
    refine ⟨_, E.set j (x, v), by simp [Instr.mapUpdate, run_underlying ht, MapKept.run_getObj_map hb, K.check w false hx, h1, hkey, K.stays w hx, MapKept.run_setObj_map _ hb, Result.andThen]; rfl, ?_, ?_, ?_, ?_, fun hc => ?_⟩
    · refine ⟨_, _, (heap_set hb).1, hje.symm, ?_, pairwise_set hd h2, hn.same hbo⟩
      intro p hp
      rcases (mem_set_iff hd h2 p).1 hp with rfl | ⟨hp, _⟩
      · exact ⟨l, hx⟩
      · exact hk p hp
    · exact ⟨rfl, rfl, rfl, by simp, fun r _ hr => (heap_set hb).2 r hr⟩
    · simp
    · exact mem_set_iff hd h2
    · exact absurd rfl (hc _ (List.mem_of_getElem? h2))
/-- The deletion. -/
theorem MapAt.drop (h : MapAt P k w b E) (K : Keyed P k) (ht : P.underlying t = some (.map k e)) {x : Value} {l : Lit} (hx : keyOf P k x = some l) (ty : TypeId) :
    ∃ w' E', (Builtin.delete_ #[t, k] ty #[.map (some b), x]).run P w = .ok (.tuple #[]) w' ∧ MapAt P k w' b E' ∧ Mods (· = b) w w' ∧ w'.heap.size = w.heap.size ∧
      (∀ p, p ∈ E' ↔ p ∈ E ∧ p.1 ≠ x) := by
  have h0 := h
  obtain ⟨es, cl, hb, hE, hk, hd, hn⟩ := h0
  rcases h.find K hx hb with ⟨h1, h2⟩ | ⟨j, v0, h1, h2, h3, h4⟩
  · refine ⟨_, E, by simp [Builtin.delete_, run_underlying ht, MapKept.run_getObj_map hb, K.check w es.isEmpty hx, h1, MapKept.run_setObj_map _ hb, Result.andThen]; rfl, ?_, ?_, ?_, ?_⟩
    · exact ⟨_, _, (heap_set hb).1, hE, hk, hd, hn⟩
    · exact ⟨rfl, rfl, rfl, by simp, fun r _ hr => (heap_set hb).2 r hr⟩
    · simp
    · exact fun p => ⟨fun hp => ⟨hp, h2 p hp⟩, fun hp => hp.1⟩
  · have hl := (List.getElem?_eq_some_iff.1 h2).1
    have hjx : E[j] = (x, v0) := by rw [List.getElem?_eq_getElem hl] at h2; injection h2
    have hje : E.eraseIdx j = (es.eraseIdxIfInBounds j).toList.map (fun e => (e.key, e.val)) := by
      rw [← hE, Array.toList_eraseIdxIfInBounds, map_eraseIdx]
    refine ⟨_, E.eraseIdx j, by simp [Builtin.delete_, run_underlying ht, MapKept.run_getObj_map hb, K.check w es.isEmpty hx, h1, MapKept.run_setObj_map _ hb, Result.andThen]; rfl, ?_, ?_, ?_, ?_⟩
    · refine ⟨_, _, (heap_set hb).1, hje.symm, fun p hp => hk p (List.mem_of_mem_eraseIdx hp), hd.sublist (List.eraseIdx_sublist _ _), hn.erase j⟩
    · exact ⟨rfl, rfl, rfl, by simp, fun r _ hr => (heap_set hb).2 r hr⟩
    · simp
    · intro p
      rw [List.mem_eraseIdx_iff_getElem]
      constructor
      · rintro ⟨i, hi, hne, rfl⟩
        refine ⟨List.getElem_mem hi, fun hc => ?_⟩
        rcases Nat.lt_or_gt_of_ne hne with hlt | hgt
        · have := (List.pairwise_iff_getElem.1 hd) i j hi hl hlt
          rw [hjx] at this
          exact this hc
        · have := (List.pairwise_iff_getElem.1 hd) j i hl hi hgt
          rw [hjx] at this
          exact this hc.symm
      · rintro ⟨h5, h6⟩
        obtain ⟨i, hi, rfl⟩ := List.getElem_of_mem h5
        refine ⟨i, hi, ?_, rfl⟩
        rintro rfl
        rw [hjx] at h6
        exact h6 rfl
end
end Go.Proofs.YtpbcmlnjiocmoaaGreatDoorR
namespace Go.Proofs.YtpbcmlnjiocmoaaGreatDoorR
open Go.ChangeShapes Go.WideShapes Go.ChangeAt Go.WideMaps Go.WideElems Go.RowKit
abbrev laidL : List (String × DataW Unit) := [("math/bits.deBruijn32tab", Rows.laid_math_bits_deBruijn32tab), ("math/bits.deBruijn64tab", Rows.laid_math_bits_deBruijn64tab), ("internal/strconv.uint64pow10", Rows.laid_internal_strconv_uint64pow10), ("unicode/utf8.acceptRanges", Rows.laid_unicode_utf8_acceptRanges), ("unicode/utf8.first", Rows.laid_unicode_utf8_first)]
theorem Tryz.own : ownKnob Tryz.prog.godebug = none := by kernel_rfl
theorem Tryz.tPow : ∃ g, Tryz.prog.globalNamed "internal/strconv.uint64pow10" = some g ∧ (Tryz.prog.globals[g]?).map (·.type) = some 171 := by
  refine ⟨(Tryz.prog.globalNamed "internal/strconv.uint64pow10").getD 0, ?_, ?_⟩ <;> kernel_rfl
theorem Tryz.cPow : Tryz.prog.cellsOf 171 = 20 := by kernel_rfl
theorem Tryz.c64 : Tryz.prog.cellsOf 160 = 1 := by kernel_rfl
theorem tab_of_laid {W : World} (h : laidMetH Tryz.prog laidL W) : Pow10 W := by
  rw [MakeChecks.laidMetH_plain _ _ _ (by kernel_rfl)] at h
  obtain ⟨ps, ⟨g0, t0, cs0, f0, p0, q0, _, _, _, _, ⟨g1, t1, cs1, f1, p1, q1, _, _, _, _, ⟨g2, t2, cs2, f2, p2, q2, hg2, ht2, hv2, hd2, _, _⟩, _⟩, _⟩, _, _⟩ := h
  obtain ⟨g, hg, ht⟩ := Tryz.tPow
  obtain rfl := Option.some.inj (hg.symm.trans hg2)
  obtain rfl := Option.some.inj (ht.symm.trans ht2)
  unfold Pow10 Lib.TabIs
  rw [hv2, ← Lib.cells_of_tab (k := .u64) (zs := Lib.pow10Tab) Tryz.underlying171 Tryz.underlying160 Tryz.c64 Tryz.cPow hd2]
theorem door_met (os : Os) (args : Array Value) : laidMetH Tryz.prog laidL ((World.laidAll Tryz.prog os laidL).forCall (fun _ _ => 0) ⟨#[], args, []⟩).memory := by
  rw [MakeChecks.laidMetH_plain _ _ _ (by kernel_rfl)]
  exact laidMet_laidAll _ (by kernel_rfl) (by kernel_rfl)
set_option maxRecDepth 100000 in
theorem glob_zero {W : World} (hs : W.ShapedOpen Tryz.prog) : ∃ m, W.cell? ⟨0, 0, none⟩ = some (.int .i64 m) := by
  have e : ((begin Tryz.prog (fun _ _ => 0) default).world.heap[0]?).bind Obj.row? = some (#[.int .i64 0], 3) := by kernel_rfl
  obtain ⟨cs, h1, h2, h3⟩ := hs.1 0 #[.int .i64 0] 3 (of_decide_eq_true (by kernel_rfl)) e
  obtain ⟨ts, ht, _, hc⟩ := h3 (by kernel_rfl)
  have hct : Tryz.prog.cellTypes Tryz.prog.depth 3 = some [3] := by kernel_rfl
  rw [hct] at ht
  injection ht with ht
  subst ht
  have hz : 0 < cs.size := by rw [h2]; decide
  obtain ⟨u, hu, hv⟩ := hc 0 cs[0] (Array.getElem?_eq_getElem hz)
  injection hu with hu
  subst hu
  unfold Cell.ok at hv
  rw [Tryz.underlying3] at hv
  generalize hx : cs[0] = x at hv
  cases x with
  | int k n =>
    obtain ⟨rfl, _⟩ := hv
    exact ⟨n, by rw [cell_of_heap h1, Array.getElem?_eq_getElem hz, hx]⟩
  | _ => exact hv.elim
set_option maxRecDepth 100000 in
/-- From the walk of a law, in any memory that is shaped and holds the tables, to the lifted statement. -/
theorem lift16 (os : Os) (started : os.Started) (H : Type) (enc : TypeId × Value → H) {f : FuncId} {fn : Func} {s : ChangeSpec} (noInit : Tryz.prog.inits.idxOf? f = none) (hfn : Tryz.prog.funcs[f]? = some fn)
    (witness : ∃ (w : World) (tape : Tape) (i : Input), w.os = os ∧ (w.forCall tape i).Shaped Tryz.prog ∧ i.vars = [] ∧ Input.okWide Tryz.prog (w.forCall tape i) .any w.heap.size f i ∧
      ((s.pre enc Tryz.prog fn [] false (w.forCall tape i).memory i.args ∧ laidMetH Tryz.prog laidL (w.forCall tape i).memory) ∧ sizedMet enc Tryz.prog fn (OpenSpec.ofChange s) false (w.forCall tape i).memory i.args) ∧ ({} : Assume).holds Tryz.prog (lone (Frame.enter Tryz.prog f i.args .normal) [] (w.forCall tape i)))
    (law : ∀ (W : World) (base : Nat) (args : Array Value) (ds gs : List (DataW H)) (before : List MemPlace), Glob W → (∀ (j : Nat) t v, fn.params[j]? = some t → args[j]? = some v → Value.okWide Tryz.prog W .any base t v) →
      DataW.Whole enc Tryz.prog fn.params.toList s.vars false W args.toList ds gs before → Calls Tryz.prog f args W fun e W' => ∃ v, e = .returned v ∧ s.post enc Tryz.prog fn false true false false W args v W') :
    ReturnsInHanded {} Tryz.checked os f .any (fun w args => (s.pre enc Tryz.prog fn [] false w args ∧ laidMetH Tryz.prog laidL w) ∧ sizedMet enc Tryz.prog fn (OpenSpec.ofChange s) false w args) (s.post enc Tryz.prog fn false true false false) := by
  refine returnsInHanded_of_calls (C := Tryz.checked) Tryz.own started noInit witness ?_
  intro w tape i _ hs _ hok hpre _
  obtain ⟨_, _, _, fn', hfn', _, _, _, _, hval⟩ := hok
  obtain rfl : fn' = fn := Option.some.inj (hfn'.symm.trans hfn)
  obtain ⟨⟨⟨ds, gs, before, hw, _⟩, hx⟩, _⟩ := hpre
  have hw2 := DataW.Whole.of_heap (w' := w.forCall tape i) (by rfl) hw
  have hx2 : laidMetH Tryz.prog laidL (w.forCall tape i) := hx.of_heap (by rfl)
  refine (law (w.forCall tape i) w.heap.size i.args ds gs before ⟨glob_zero hs, tab_of_laid hx2⟩ hval hw2).mono fun e W' ⟨v, he, hp⟩ => ?_
  subst he
  exact ChangeSpec.post_blind hp
section
variable {H : Type} {enc : TypeId × Value → H} {P : Program}
theorem post_of_below {f : Func} {s : ChangeSpec} {apart fresh handsOn again : Bool} {W W' : World} {args : Array Value} {v : Value} {ds gs : List (DataW H)} {before pa pv : List MemPlace}
    (hW : DataW.Whole enc P f.params.toList s.vars apart W args.toList ds gs before)
    (hres : ∀ (b : Nat) (sp : Nat → Bool) (hd : Bool), DataW.TrodAll enc P W' b sp hd f.resultTypes.toList (v.resultList f.resultTypes.size) (s.fn H (ds ++ gs)).results [])
    (hargs : ∀ sp : Nat → Bool, (∀ p ∈ before, sp p.block = true) → DataW.TrodAll enc P W' 0 sp true f.params.toList args.toList (s.fn H (ds ++ gs)).args pa)
    (hvars : ∀ sp : Nat → Bool, (∀ p ∈ before, sp p.block = true) → DataW.TrodVars enc P W' sp s.vars (s.fn H (ds ++ gs)).vars pv)
    (hps : before = pa ++ pv) (hb : Below W.heap.size W W')
    (hok : ∀ (j : Nat) (t : TypeId) (r : Value), f.resultTypes[j]? = some t → (v.resultList f.resultTypes.size)[j]? = some r → Value.okWide P W' .any 0 t r) :
    s.post enc P f apart fresh handsOn again W args v W' := by
  have hlt : ∀ p ∈ before, p.block < W.heap.size := fun p hp => hW.lt p hp
  have hold : ∀ p ∈ before, (fun b => decide (b < W.heap.size)) p.block = true := fun p hp => by simpa using hlt p hp
  refine ⟨ds, gs, before, [], pa, pv, hW, hres _ _ _, hargs _ hold, hvars _ hold, World.keptBut_mono (fun p hp => ⟨hp, ?_⟩) (hb.frame (· ∈ before)), fun _ => ?_⟩
  · rw [hps, List.mem_append] at hp
    exact Or.inr hp
  · obtain ⟨_, _, _, _, _, hz, hn⟩ := hW
    refine ⟨hok, _, _, ([] ++ pa) ++ pv, ⟨[] ++ pa, pv, trodAll_append (hargs _ (fun _ _ => rfl)) (hres _ _ _), hvars _ (fun _ _ => rfl), rfl, ?_, ?_⟩, ?_⟩
    · intro b off hp
      have hin : MemPlace.cell b off ∈ before := by rw [hps]; simpa using hp
      rw [hb.frozen (hlt _ hin)]
      exact hz b off hin
    · intro ha
      have := hn ha
      rw [hps] at this
      simpa using this
    · intro p hp _
      rw [hps]
      simpa using hp
end
theorem Tryz.laidOut : laidOutB Tryz.prog = true := by kernel_rfl
end Go.Proofs.YtpbcmlnjiocmoaaGreatDoorR
namespace Go.Proofs.YtpbcmlnjiocmoaaGreatDoorR
open Go.RowKit Go.Proofs.Lexi
def slCells (s : Sl) : List Value := [.int .i64 s.k.k, .int .i64 s.k.p, .int .i64 s.k.q, .string s.k.s, .int .i64 s.k.r, .int .i64 s.v.k, .int .i64 s.v.p, .int .i64 s.v.q, .string s.v.s, .int .i64 s.v.r, .bool s.g]
def rowSl (L : List Sl) : List Value := L.flatMap slCells
theorem slCells_len (s : Sl) : (slCells s).length = 11 := rfl
theorem rowSl_at : ∀ (L : List Sl) (i j : Nat) (s : Sl), L[i]? = some s → j < 11 → (rowSl L)[i * 11 + j]? = (slCells s)[j]?
  | [], i, j, s, h, _ => by simp at h
  | x :: L, 0, j, s, h, hj => by
    rw [List.getElem?_cons_zero] at h
    injection h with h
    subst h
    show (slCells x ++ rowSl L)[0 * 11 + j]? = _
    rw [List.getElem?_append_left (by rw [slCells_len]; omega)]
    congr 1
    omega
  | x :: L, i + 1, j, s, h, hj => by
    rw [List.getElem?_cons_succ] at h
    show (slCells x ++ rowSl L)[(i + 1) * 11 + j]? = _
    rw [List.getElem?_append_right (by rw [slCells_len]; omega), slCells_len, show (i + 1) * 11 + j - 11 = i * 11 + j by omega]
    exact rowSl_at L i j s h hj
/-- The entries of a map are the graph of an index. -/
def Graph (E : List (Value × Value)) (f : V → Option Nat) : Prop := ∀ p, p ∈ E ↔ ∃ v n, p = (v.v, .int .i64 (n : Nat)) ∧ f v = some n
theorem V.v_inj {a b : V} (h : a.v = b.v) : a = b := by
  obtain ⟨k, p, q, s, r⟩ := a
  obtain ⟨k2, p2, q2, s2, r2⟩ := b
  simp only [V.v, V.cells, Value.agg.injEq, Array.mk.injEq, List.cons.injEq, Value.int.injEq, Value.string.injEq, true_and, and_true] at h
  obtain ⟨h1, h2, h3, h4, h5⟩ := h
  subst h1 h2 h3 h4 h5
  rfl
structure OMap (w : World) (m g : Nat) (sv : Value) (L : List Sl) : Prop where
  hm : w.heap[m]? = some (.cells #[sv, .map (some g), .int .i64 (liveN L : Nat)] 144)
  row : w.ownsRow 0 146 11 sv L.length (rowSl L)
  wf : ∀ s ∈ L, WfV s.k ∧ WfV s.v
  map : ∃ E f, MapAt Tryz.prog 30 w g E ∧ Graph E f ∧ Idx L f
theorem OMap.keep {w w' : World} {m g : Nat} {sv : Value} {L : List Sl} (h : OMap w m g sv L) (h1 : w'.heap[m]? = w.heap[m]?) (h2 : w'.heap[g]? = w.heap[g]?) (h3 : ∀ b, sv.ownBlock = some b → w'.heap[b]? = w.heap[b]?) : OMap w' m g sv L := by
  obtain ⟨a, b, wf, E, f, c, d, e⟩ := h
  exact ⟨h1.trans a, ownsRow_keep b h3, wf, E, f, c.keep h2, d, e⟩
/-- What a look-up of a key gives. -/
theorem look_at {w : World} {g : Nat} {E : List (Value × Value)} {f : V → Option Nat} (hE : MapAt Tryz.prog 30 w g E) (hG : Graph E f) {k : V} (hk : WfV k) (W : World) (hW : W.heap[g]? = w.heap[g]?) :
    (f k = none ∧ (Instr.lookup 142 (.map (some g)) k.v true).run Tryz.prog W = .ok (.tuple #[.int .i64 0, .bool false]) W) ∨
    ∃ n : Nat, f k = some n ∧ (Instr.lookup 142 (.map (some g)) k.v true).run Tryz.prog W = .ok (.tuple #[.int .i64 (n : Int), .bool true]) W := by
  obtain ⟨l, hl⟩ := keyV hk
  have hz : (zeroValue 3).run Tryz.prog W = .ok (.int .i64 0) W := Tryz.zeroValue3 W
  rcases (hE.keep hW).look keyedV (e := 3) (t := 142) (by kernel_rfl) hz hl with ⟨h1, h2⟩ | ⟨v, h1, h2⟩
  · refine .inl ⟨?_, h2 true⟩
    cases hf : f k with
    | none => rfl
    | some n => exact absurd rfl (h1 _ ((hG _).2 ⟨k, n, rfl, hf⟩))
  · obtain ⟨v2, n, h3, h4⟩ := (hG _).1 h1
    simp only [Prod.mk.injEq] at h3
    obtain ⟨h5, rfl⟩ := h3
    have := V.v_inj h5
    subst this
    exact .inr ⟨n, h4, h2 true⟩
def setAt (xs : List Value) (o : Nat) : List Value → List Value
  | [] => xs
  | v :: vs => setAt (xs.set o v) (o + 1) vs
theorem setAt_get : ∀ (vs xs : List Value) (o j : Nat), o + vs.length ≤ xs.length → (setAt xs o vs)[j]? = if o ≤ j ∧ j < o + vs.length then vs[j - o]? else xs[j]?
  | [], xs, o, j, _ => by
    show xs[j]? = _
    rw [if_neg]
    rintro ⟨h1, h2⟩
    simp at h2
    omega
  | v :: vs, xs, o, j, h => by
    rw [List.length_cons] at h
    show (setAt (xs.set o v) (o + 1) vs)[j]? = _
    rw [setAt_get vs _ _ j (by rw [List.length_set]; omega), List.length_cons]
    by_cases h1 : o + 1 ≤ j ∧ j < o + 1 + vs.length
    · rw [if_pos h1, if_pos (by omega), show j - o = (j - (o + 1)) + 1 by omega, List.getElem?_cons_succ]
    · rw [if_neg h1, List.getElem?_set]
      by_cases h2 : o = j
      · subst h2
        rw [if_pos rfl, if_pos (by omega), if_pos (by omega), Nat.sub_self]
        rfl
      · rw [if_neg h2, if_neg (by omega)]
def setCells (w : World) (g : Nat) (o : Nat) : List Value → World
  | [] => w
  | v :: vs => setCells (w.setCell ⟨g, o, none⟩ v) g (o + 1) vs
theorem setCells_other {g b : Nat} (hb : b ≠ g) : ∀ (vs : List Value) (w : World) (o : Nat), (setCells w g o vs).heap[b]? = w.heap[b]?
  | [], _, _ => rfl
  | v :: vs, w, o => (setCells_other hb vs _ _).trans (Below.heap_setCell _ _ _ _ hb)
theorem mods_setCell {F : Nat → Prop} {a w : World} (h : Mods F a w) {b o : Nat} (hb : F b ∨ a.heap.size ≤ b) (u : Value) : Mods F a (w.setCell ⟨b, o, none⟩ u) :=
  ⟨h.os, h.tape, h.output, by simpa using h.size, fun k hk hF => by
    rw [Below.heap_setCell _ _ _ _ (show k ≠ b from fun e => by subst e; rcases hb with hb | hb; exact hF hb; omega)]
    exact h.block k hk hF⟩
theorem mods_setCells {F : Nat → Prop} {a : World} {g : Nat} (hg : F g ∨ a.heap.size ≤ g) : ∀ (vs : List Value) (w : World) (o : Nat), Mods F a w → Mods F a (setCells w g o vs)
  | [], _, _, h => h
  | _ :: vs, _, _, h => mods_setCells hg vs _ _ (mods_setCell h hg _)
theorem kit_setCells {g : Nat} : ∀ (vs : List Value) (w : World) (o : Nat), w.setCells g o vs = setCells w g o vs
  | [], _, _ => rfl
  | v :: vs, w, o => kit_setCells vs _ _
theorem mods_keep {F : Nat → Prop} {W w' : World} (h : Mods F W w') {b : Nat} {o : Obj} (hb : W.heap[b]? = some o) (hne : ¬ F b) : w'.heap[b]? = some o := (h.block b (Array.getElem?_eq_some_iff.1 hb).1 hne).trans hb
theorem wf_nil : WfV V.nil := ⟨⟨by decide, by decide⟩, ⟨by decide, by decide⟩, ⟨by decide, by decide⟩, by decide, ⟨by decide, by decide⟩⟩
theorem om_keep_below {w w' : World} {m g : Nat} {sv : Value} {L : List Sl} (h : OMap w m g sv L) (hb : Below w.heap.size w w') : OMap w' m g sv L :=
  h.keep (hb.block _ (Array.getElem?_eq_some_iff.1 h.hm).1) (by obtain ⟨E, f, hE, _⟩ := h.map; exact hb.block _ hE.lt) (fun b e => hb.block _ (ownBlock_lt h.row e).2)
/-- What a call changes, by the blocks' types. -/
def TMods (S : Obj → Prop) (w w' : World) : Prop := Mods (fun b => ∃ o, w.heap[b]? = some o ∧ S o) w w'
theorem TMods.of_below {S : Obj → Prop} {w w' : World} (h : Below w.heap.size w w') : TMods S w w' := Mods.of_below h
theorem TMods.refl (S : Obj → Prop) (w : World) : TMods S w w := Mods.refl _ _
theorem TMods.trans {S : Obj → Prop} {a b c : World} (h : TMods S a b) (k : TMods S b c) : TMods S a c := by
  refine ⟨k.os.trans h.os, k.tape.trans h.tape, k.output.trans h.output, Nat.le_trans h.size k.size, fun i hi hF => ?_⟩
  have h1 := h.block i hi hF
  exact (k.block i (Nat.lt_of_lt_of_le hi h.size) (fun ⟨o, h2, h3⟩ => hF ⟨o, h1 ▸ h2, h3⟩)).trans h1
theorem TMods.drew {S : Obj → Prop} {a b : World} (h : TMods S a b) : TMods S a b.drew := h.trans (TMods.of_below (Below.refl _ _).drew)
theorem TMods.drewN {S : Obj → Prop} {a b : World} (h : TMods S a b) (n : Nat) : TMods S a (b.drewN n) := h.trans (TMods.of_below (bdn (Below.refl _ _) n))
theorem TMods.alloc {S : Obj → Prop} {a b : World} (h : TMods S a b) (o : Obj) : TMods S a (b.alloc o) := h.trans (TMods.of_below ((Below.refl _ _).alloc (Nat.le_refl _) o))
/-- A block that has another type stays. -/
theorem TMods.keep {S : Obj → Prop} {w w' : World} (h : TMods S w w') {b : Nat} {o : Obj} (hb : w.heap[b]? = some o) (hS : ¬ S o) : w'.heap[b]? = some o :=
  (h.block b (Array.getElem?_eq_some_iff.1 hb).1 (fun ⟨o2, h1, h2⟩ => hS (by rw [hb] at h1; injection h1 with h1; rw [h1]; exact h2))).trans hb
theorem TMods.setCell {S : Obj → Prop} {a b : World} (h : TMods S a b) {k o : Nat} (hk : a.heap.size ≤ k ∨ ∃ x, a.heap[k]? = some x ∧ S x) (u : Value) : TMods S a (b.setCell ⟨k, o, none⟩ u) := mods_setCell h hk.symm u
/-- The blocks of the program's heaps. -/
def PB : Obj → Prop
  | .map _ _ => True
  | .cells _ t _ => t = 144 ∨ t = 146 ∨ t = 126 ∨ t = 94 ∨ t = 63
  | _ => False
theorem row_block {w : World} {base e size n : Nat} {sv : Value} {xs : List Value} (h : w.ownsRow base e size sv n xs) {b : Nat} (hb : sv.ownBlock = some b) : ∃ cs, w.heap[b]? = some (.cells cs e (0, 0)) := by
  rcases h.2 with ⟨h2, _⟩ | ⟨g', cap', cur, h2, h3, h4, _⟩
  · rw [h2] at hb; cases hb
  · rw [h2] at hb
    injection hb with hb
    subst hb
    exact ⟨_, h4⟩
structure TabAt (w : World) (t m g : Nat) (sv : Value) (L : List Sl) : Prop where
  ht : w.heap[t]? = some (.cells #[.slice none 0 0, .pointer (some ⟨m, 0, none⟩)] 126)
  om : OMap w m g sv L
def IntBool (w : World) (n : Int) (b : Bool) (e : Ending) (w' : World) : Prop := e = .returned (.tuple #[.int .i64 n, .bool b]) ∧ Below w.heap.size w w'
theorem TabAt.keep {w w' : World} {t m g : Nat} {sv : Value} {L : List Sl} (h : TabAt w t m g sv L) (h0 : w'.heap[t]? = w.heap[t]?) (h1 : w'.heap[m]? = w.heap[m]?) (h2 : w'.heap[g]? = w.heap[g]?) (h3 : ∀ b, sv.ownBlock = some b → w'.heap[b]? = w.heap[b]?) : TabAt w' t m g sv L :=
  ⟨h0.trans h.ht, h.om.keep h1 h2 h3⟩
theorem TabAt.below {w w' : World} {t m g : Nat} {sv : Value} {L : List Sl} (h : TabAt w t m g sv L) (hb : Below w.heap.size w w') : TabAt w' t m g sv L := ⟨hkeep hb h.ht, om_keep_below h.om hb⟩
def vCells (v : V) : List Value := [.int .i64 v.k, .int .i64 v.p, .int .i64 v.q, .string v.s, .int .i64 v.r]
def rowV (A : List V) : List Value := A.flatMap vCells
theorem vCells_len (v : V) : (vCells v).length = 5 := rfl
theorem rowV_len (A : List V) : (rowV A).length = A.length * 5 := by
  induction A with
  | nil => rfl
  | cons v A ih => show (vCells v ++ rowV A).length = _; rw [List.length_append, vCells_len, ih, List.length_cons]; omega
theorem rowV_at : ∀ (A : List V) (i j : Nat) (v : V), A[i]? = some v → j < 5 → (rowV A)[i * 5 + j]? = (vCells v)[j]?
  | [], i, j, v, h, _ => by simp at h
  | x :: A, 0, j, v, h, hj => by
    rw [List.getElem?_cons_zero] at h
    injection h with h
    subst h
    show (vCells x ++ rowV A)[0 * 5 + j]? = _
    rw [List.getElem?_append_left (by rw [vCells_len]; omega)]
    congr 1
    omega
  | x :: A, i + 1, j, v, h, hj => by
    rw [List.getElem?_cons_succ] at h
    show (vCells x ++ rowV A)[(i + 1) * 5 + j]? = _
    rw [List.getElem?_append_right (by rw [vCells_len]; omega), vCells_len, show (i + 1) * 5 + j - 5 = i * 5 + j by omega]
    exact rowV_at A i j v h hj
theorem rowV_append (A B : List V) : rowV (A ++ B) = rowV A ++ rowV B := by unfold rowV; rw [List.flatMap_append]
theorem rowV_one {A : List V} : ∀ u ∈ rowV A, u.oneCell' = true := by
  intro u hu
  unfold rowV at hu
  rw [List.mem_flatMap] at hu
  obtain ⟨v, _, hu⟩ := hu
  simp only [vCells, List.mem_cons, List.mem_nil_iff, or_false] at hu
  rcases hu with rfl | rfl | rfl | rfl | rfl <;> rfl
theorem rowV_drop (A : List V) (k : Nat) : rowV (A.drop k) = (rowV A).drop (k * 5) := by
  induction A generalizing k with
  | nil => simp [rowV]
  | cons v A ih =>
    cases k with
    | zero => simp
    | succ k =>
      rw [List.drop_succ_cons, ih]
      show _ = (vCells v ++ rowV A).drop ((k + 1) * 5)
      rw [List.drop_append, show (vCells v).drop ((k + 1) * 5) = [] from List.drop_eq_nil_of_le (by rw [vCells_len]; omega), vCells_len, List.nil_append, show (k + 1) * 5 - 5 = k * 5 by omega]
theorem add_mk (g o n : Nat) (s : Option Nat) : (⟨g, o, s⟩ : Addr).add n = ⟨g, o + n, if n = 0 then s else none⟩ := by
  unfold Addr.add
  split
  · rename_i h; subst h; rfl
  · rfl
theorem add_none (g o n : Nat) : (⟨g, o, none⟩ : Addr).add n = ⟨g, o + n, none⟩ := by rw [add_mk]; split <;> rfl
theorem add_two (a : Addr) (n k : Nat) : (a.add n).add k = a.add (n + k) := by
  obtain ⟨g, o, s⟩ := a
  rw [add_mk, add_mk, add_mk]
  by_cases hn : n = 0
  · subst hn; simp
  · by_cases hk : k = 0
    · subst hk; simp
    · rw [if_neg hn, if_neg hk, if_neg (by omega)]
      simp; omega
/-- The slice sv holds the values A, for whoever reads. -/
def Vals (w : World) (sv : Value) (A : List V) : Prop :=
  ∃ so cap, sv = .slice so A.length cap ∧ A.length ≤ cap ∧ (so = none → cap = 0) ∧ (A = [] ∨ ∃ g o, so = some ⟨g, o, none⟩ ∧ g < w.heap.size ∧ ∀ j u, (rowV A)[j]? = some u → w.cell? ⟨g, o + j, none⟩ = some u)
theorem Vals.below {w w' : World} {sv : Value} {A : List V} (h : Vals w sv A) (hb : Below w.heap.size w w') : Vals w' sv A := by
  obtain ⟨so, cap, h1, h2, hn, h3⟩ := h
  refine ⟨so, cap, h1, h2, hn, ?_⟩
  rcases h3 with h3 | ⟨g, o, h4, h5, h6⟩
  · exact .inl h3
  · exact .inr ⟨g, o, h4, Nat.lt_of_lt_of_le h5 hb.size, fun j u hj => keepCell hb (h6 j u hj)⟩
theorem Vals.of_row {w : World} {base : Nat} {sv : Value} {A : List V} (h : w.ownsRow base 30 5 sv A.length (rowV A)) : Vals w sv A := by
  obtain ⟨h1, h2⟩ := h
  rcases h2 with ⟨rfl, h3⟩ | ⟨g, cap, cur, rfl, hbg, hg, hn, hm, hc, ht⟩
  · have hA : A = [] := List.eq_nil_of_length_eq_zero h3
    subst hA
    exact ⟨none, 0, rfl, Nat.le_refl _, fun _ => rfl, .inl rfl⟩
  · refine ⟨_, cap, rfl, hn, (fun h => by cases h), .inr ⟨g, 0, rfl, (Array.getElem?_eq_some_iff.1 hg).1, fun j u hj => ?_⟩⟩
    rw [cell_of_heap hg, Nat.zero_add]
    rw [← ht, List.getElem?_take] at hj
    split at hj
    · rw [← Array.getElem?_toList]; exact hj
    · cases hj
theorem Vals.at_ {w : World} {g o n cap : Nat} {A : List V} (h : Vals w (.slice (some ⟨g, o, none⟩) n cap) A) {i : Nat} {v : V} (hi : A[i]? = some v) :
    g < w.heap.size ∧ w.cell? ⟨g, o + i * 5, none⟩ = some (.int .i64 v.k) ∧ w.cell? ⟨g, o + i * 5 + 1, none⟩ = some (.int .i64 v.p) ∧ w.cell? ⟨g, o + i * 5 + 2, none⟩ = some (.int .i64 v.q) ∧ w.cell? ⟨g, o + i * 5 + 3, none⟩ = some (.string v.s) ∧ w.cell? ⟨g, o + i * 5 + 4, none⟩ = some (.int .i64 v.r) := by
  obtain ⟨so, c, h1, h2, hn, h3⟩ := h
  injection h1 with h1 h4 h5
  rcases h3 with rfl | ⟨g2, o2, h6, h7, h8⟩
  · simp at hi
  · rw [h6] at h1
    injection h1 with h1
    injection h1 with h1 h9 h10
    subst h1 h9
    have hx : ∀ j u, j < 5 → (vCells v)[j]? = some u → w.cell? ⟨g, o + i * 5 + j, none⟩ = some u := fun j u hj hu => by
      rw [Nat.add_assoc]
      exact h8 _ _ ((rowV_at A i j v hi hj).trans hu)
    exact ⟨h7, hx 0 _ (by omega) rfl, hx 1 _ (by omega) rfl, hx 2 _ (by omega) rfl, hx 3 _ (by omega) rfl, hx 4 _ (by omega) rfl⟩
theorem Vals.nilslice (w : World) : Vals w (.slice none 0 0) [] := ⟨none, 0, rfl, Nat.le_refl _, fun _ => rfl, .inl rfl⟩
theorem Vals.drop {w : World} {g o n cap : Nat} {A : List V} (h : Vals w (.slice (some ⟨g, o, none⟩) n cap) A) (k : Nat) (hk : k ≤ n) : Vals w (.slice (some ⟨g, o + k * 5, none⟩) (n - k) (cap - k)) (A.drop k) := by
  obtain ⟨so, c, h1, h2, hn, h3⟩ := h
  injection h1 with h1 h4 h5
  subst h4 h5
  refine ⟨_, _, by rw [List.length_drop], by rw [List.length_drop]; omega, (fun h => by cases h), ?_⟩
  rcases h3 with rfl | ⟨g2, o2, h6, h7, h8⟩
  · exact .inl List.drop_nil
  · rw [h6] at h1
    injection h1 with h1
    injection h1 with h1 h9 h10
    subst h1 h9
    refine .inr ⟨g, o + k * 5, rfl, h7, fun j u hj => ?_⟩
    rw [rowV_drop, List.getElem?_drop] at hj
    rw [Nat.add_assoc]
    exact h8 _ _ hj
theorem prj5a {c0 c1 c2 c3 c4 p : Prop} (h : c0 ∧ c1 ∧ c2 ∧ c3 ∧ c4 ∧ Hid p) : p := h.2.2.2.2.2.out
theorem mkeep {F : Nat → Prop} {w w' : World} (hm : Mods F w w') {b : Nat} {o : Obj} (h : w.heap[b]? = some o) (hF : ¬ F b) : w'.heap[b]? = some o := (hm.block b (Array.getElem?_eq_some_iff.1 h).1 hF).trans h
theorem mods_next {F : Nat → Prop} {a b c : World} (h : Mods F a b) (k : Below b.heap.size b c) : Mods F a c := Mods.trans h (Mods.of_below k)
theorem cells5 {w : World} {b : Nat} {c0 c1 c2 c3 c4 : Value} {t : TypeId} {fz : Nat × Nat} (h : w.heap[b]? = some (.cells #[c0, c1, c2, c3, c4] t fz)) :
    w.cell? ⟨b, 0, none⟩ = some c0 ∧ w.cell? ⟨b, 1, none⟩ = some c1 ∧ w.cell? ⟨b, 2, none⟩ = some c2 ∧ w.cell? ⟨b, 3, none⟩ = some c3 ∧ w.cell? ⟨b, 4, none⟩ = some c4 := by
  refine ⟨?_, ?_, ?_, ?_, ?_⟩ <;> (rw [cell_of_heap h]; rfl)
theorem froz5 {w : World} {b : Nat} {cs : Array Value} {t : TypeId} (h : w.heap[b]? = some (.cells cs t (0, 0))) :
    w.frozen? ⟨b, 0, none⟩ = false ∧ w.frozen? ⟨b, 1, none⟩ = false ∧ w.frozen? ⟨b, 2, none⟩ = false ∧ w.frozen? ⟨b, 3, none⟩ = false ∧ w.frozen? ⟨b, 4, none⟩ = false := by
  refine ⟨?_, ?_, ?_, ?_, ?_⟩ <;> exact frozen_of_heap h _
theorem below1 (w : World) (o : Obj) : Below w.heap.size w (w.alloc o) := (Below.refl _ _).alloc (Nat.le_refl _) o
theorem heap1 (w : World) (o : Obj) : (w.alloc o).heap[w.heap.size]? = some o := heap_new w o
theorem heap1_old {w : World} {b : Nat} {x : Obj} (h : w.heap[b]? = some x) (o : Obj) : (w.alloc o).heap[b]? = some x := hkeep ((Below.refl _ _).alloc (Nat.le_refl _) o) h
theorem heap_newD (w : World) (o : Obj) : (w.drew.alloc o).heap[w.heap.size]? = some o := heap_new w.drew o
theorem info25p : (Tryz.prog.info? 30).map (fun i => (i.zero, i.size, i.bytes)) = some (some (.agg #[.int .i64 0, .int .i64 0, .int .i64 0, .string ⟨#[]⟩, .int .i64 0]), 5, 48) := by kernel_rfl
theorem ne_of_types {w : World} {a b : Nat} {ca cb : Array Value} {ta tb : TypeId} {fa fb : Nat × Nat} (ha : w.heap[a]? = some (.cells ca ta fa)) (hb : w.heap[b]? = some (.cells cb tb fb)) (hne : ta ≠ tb) : a ≠ b := by
  rintro rfl
  rw [ha] at hb
  injection hb with hb
  injection hb with _ h2
  exact hne h2
theorem ne_map {w : World} {a b : Nat} {ca : Array Value} {ta : TypeId} {fa : Nat × Nat} {es : Array MapEntry} {c : Nat} (ha : w.heap[a]? = some (.cells ca ta fa)) (hb : w.heap[b]? = some (.map es c)) : a ≠ b := by
  rintro rfl
  rw [ha] at hb
  cases hb
theorem MapAt.obj {P : Program} {k : TypeId} {w : World} {b : Nat} {E : List (Value × Value)} (h : MapAt P k w b E) : ∃ es c, w.heap[b]? = some (.map es c) := by
  obtain ⟨es, c, hb, _⟩ := h
  exact ⟨es, c, hb⟩
/-- A block of cells that is no map's and no slots'. -/
theorem not_omF {w : World} {m g : Nat} {sv : Value} {L : List Sl} (h : OMap w m g sv L) {b : Nat} {cs : Array Value} {t : TypeId} {fz : Nat × Nat} (hb : w.heap[b]? = some (.cells cs t fz)) (h1 : t ≠ 144) (h2 : t ≠ 146) : ¬ OmF m g sv b := by
  rintro (e | e | e)
  · exact ne_of_types hb h.hm h1 e
  · obtain ⟨E, f, hE, _⟩ := h.map
    obtain ⟨es, c, hg⟩ := hE.obj
    exact ne_map hb hg e
  · obtain ⟨c2, hc⟩ := row_block h.row e
    exact ne_of_types hb hc h2 rfl
theorem not_omF_map {w : World} {m g : Nat} {sv : Value} {L : List Sl} (h : OMap w m g sv L) {b : Nat} {es : Array MapEntry} {c : Nat} (hb : w.heap[b]? = some (.map es c)) (h1 : g ≠ b) : ¬ OmF m g sv b := by
  rintro (e | e | e)
  · exact ne_map h.hm hb e.symm
  · exact h1 e.symm
  · obtain ⟨c2, hc⟩ := row_block h.row e
    exact ne_map hc hb rfl
/-- The slice av holds the values A, in a block of its own with room for its capacity at least. -/
def ListW (w : World) (av : Value) (A : List V) : Prop :=
  (av = .slice none 0 0 ∧ A = []) ∨ ∃ g cap cur, av = .slice (some ⟨g, 0, none⟩) A.length cap ∧ w.heap[g]? = some (.cells cur 30 (0, 0)) ∧ A.length ≤ cap ∧ cap ≤ maxLen ∧ cap * 5 ≤ cur.size ∧ cur.toList.take (A.length * 5) = rowV A
theorem listW_nil (w : World) : ListW w (.slice none 0 0) [] := .inl ⟨rfl, rfl⟩
theorem listW_row {w : World} {base : Nat} {av : Value} {A : List V} (h : w.ownsRow base 30 5 av A.length (rowV A)) : ListW w av A := by
  rcases h.2 with ⟨h1, h2⟩ | ⟨g, cap, cur, h1, _, h2, h3, h4, h5, h6⟩
  · exact .inl ⟨h1, List.eq_nil_of_length_eq_zero h2⟩
  · exact .inr ⟨g, cap, cur, h1, h2, h3, h4, Nat.le_of_eq h5.symm, h6⟩
theorem ListW.kept {w w' : World} {av : Value} {A : List V} (h : ListW w av A) (hk : ∀ g, av.ownBlock = some g → w'.heap[g]? = w.heap[g]?) : ListW w' av A := by
  rcases h with h | ⟨g, cap, cur, h1, h2, h3⟩
  · exact .inl h
  · exact .inr ⟨g, cap, cur, h1, (hk g (by rw [h1]; rfl)).trans h2, h3⟩
theorem listW_lt {w : World} {av : Value} {A : List V} (h : ListW w av A) {g : Nat} (hg : av.ownBlock = some g) : g < w.heap.size := by
  rcases h with ⟨h1, _⟩ | ⟨g2, cap, cur, h1, h2, _⟩
  · rw [h1] at hg; cases hg
  · rw [h1] at hg
    injection hg with hg
    subst hg
    exact (Array.getElem?_eq_some_iff.1 h2).1
theorem listW_below {w w' : World} {av : Value} {A : List V} (h : ListW w av A) (hb : Below w.heap.size w w') : ListW w' av A := ListW.kept h (fun _ hg => hb.block _ (listW_lt h hg))
theorem listW_shape {w : World} {av : Value} {A : List V} (h : ListW w av A) : ∃ so cap, av = .slice so A.length cap ∧ A.length ≤ cap := by
  rcases h with ⟨h1, rfl⟩ | ⟨g, cap, cur, h1, _, h3, _⟩
  · exact ⟨_, _, h1, Nat.le_refl _⟩
  · exact ⟨_, _, h1, h3⟩
theorem listW_some {w : World} {av : Value} {A : List V} (h : ListW w av A) (hA : A ≠ []) : ∃ g cap, av = .slice (some ⟨g, 0, none⟩) A.length cap ∧ g < w.heap.size ∧ A.length ≤ cap := by
  rcases h with ⟨_, h2⟩ | ⟨g, cap, cur, h1, h2, h3, _⟩
  · exact absurd h2 hA
  · exact ⟨g, cap, h1, (Array.getElem?_eq_some_iff.1 h2).1, h3⟩
theorem listW_cell {w : World} {g n cap : Nat} {A : List V} (h : ListW w (.slice (some ⟨g, 0, none⟩) n cap) A) {i j : Nat} {v : V} {u : Value} (hv : A[i]? = some v) (hu : (vCells v)[j]? = some u) (hj : j < 5) : w.cell? ⟨g, i * 5 + j, none⟩ = some u := by
  rcases h with ⟨h1, _⟩ | ⟨g2, c2, cur, h1, h2, h3, _, _, h6⟩
  · cases h1
  · injection h1 with h1 _ _
    injection h1 with h1
    injection h1 with h1 _ _
    subst h1
    have hi : i < A.length := (List.getElem?_eq_some_iff.1 hv).1
    rw [cell_of_heap h2, ← Array.getElem?_toList]
    have := rowV_at A i j v hv hj
    rw [← h6, List.getElem?_take, if_pos (by omega)] at this
    exact this.trans hu
theorem listW_five {w : World} {g n cap : Nat} {A : List V} (h : ListW w (.slice (some ⟨g, 0, none⟩) n cap) A) {i : Nat} {v : V} (hv : A[i]? = some v) :
    w.cell? ⟨g, i * 5, none⟩ = some (.int .i64 v.k) ∧ w.cell? ⟨g, i * 5 + 1, none⟩ = some (.int .i64 v.p) ∧ w.cell? ⟨g, i * 5 + 2, none⟩ = some (.int .i64 v.q) ∧ w.cell? ⟨g, i * 5 + 3, none⟩ = some (.string v.s) ∧ w.cell? ⟨g, i * 5 + 4, none⟩ = some (.int .i64 v.r) :=
  ⟨listW_cell h hv (j := 0) rfl (by decide), listW_cell h hv (j := 1) rfl (by decide), listW_cell h hv (j := 2) rfl (by decide), listW_cell h hv (j := 3) rfl (by decide), listW_cell h hv (j := 4) rfl (by decide)⟩
theorem rowV_take (A : List V) (k : Nat) : rowV (A.take k) = (rowV A).take (k * 5) := by
  induction A generalizing k with
  | nil => simp [rowV]
  | cons v A ih =>
    cases k with
    | zero => simp [rowV]
    | succ k =>
      rw [List.take_succ_cons]
      show vCells v ++ rowV (A.take k) = (vCells v ++ rowV A).take ((k + 1) * 5)
      rw [ih, show (k + 1) * 5 = (vCells v).length + k * 5 by rw [vCells_len]; omega, List.take_length_add_append]
/-- A slice that is cut short. -/
theorem listW_cut {w : World} {g n cap : Nat} {A : List V} (h : ListW w (.slice (some ⟨g, 0, none⟩) n cap) A) (k : Nat) (hk : k ≤ A.length) : ListW w (.slice (some ⟨g, 0, none⟩) k k) (A.take k) := by
  have hl : (A.take k).length = k := by rw [List.length_take]; omega
  rcases h with ⟨h1, _⟩ | ⟨g2, c2, cur, h1, h2, h3, h4, h5, h6⟩
  · cases h1
  · injection h1 with h1 _ _
    injection h1 with h1
    injection h1 with h1 _ _
    subst h1
    refine .inr ⟨g, k, cur, by rw [hl], h2, by omega, by omega, by omega, ?_⟩
    rw [hl]
    rw [rowV_take, ← h6, List.take_take, Nat.min_eq_left (by omega)]
/-- append of one value. -/
theorem append_one {w : World} {v : Value} {A : List V} (h : ListW w v A) (hl : A.length ≤ 1000000) (ad : Addr) (c : Nat) (x : V) (hx : ∀ j u, (vCells x)[j]? = some u → w.cell? (ad.add j) = some u) (ty : TypeId) :
    ∃ v' w', (Builtin.append_ #[26, 26] ty #[v, .slice (some ad) 1 c]).run Tryz.prog w = .ok v' w' ∧ ListW w' v' (A ++ [x]) ∧ w.grownBy w' v.ownBlock ∧ (v'.ownBlock = v.ownBlock ∨ v'.ownBlock = some w.heap.size) := by
  obtain ⟨i5, hi5, hi5a, hi5b, hi5c⟩ := info_parts info25p
  have hx1 : ∀ u ∈ vCells x, u.oneCell' = true := fun u hu => rowV_one (A := [x]) u (by simpa [rowV] using hu)
  have hax : (A ++ [x]).length = A.length + 1 := by rw [List.length_append]; rfl
  have hrx : rowV (A ++ [x]) = rowV A ++ vCells x := by rw [rowV_append]; simp [rowV]
  rcases h with ⟨rfl, rfl⟩ | ⟨g, cap, cur, rfl, h2, h3, h4, h5, h6⟩
  · obtain ⟨v', w', hr, h7, h8, _, h9⟩ := run_append_own_at (P := Tryz.prog) w w.heap.size 26 ty 30 i5 _ 5 48 Tryz.underlying26 hi5 hi5a hi5b hi5c rfl (by decide) (.slice none 0 0) 0 [] (World.ownsRow_nil w _ _ _) ad 1 c (vCells x) rfl hx hx1 (by unfold maxLen; omega) (by omega) (Nat.le_refl _)
    refine ⟨v', w', hr, ?_, h8, h9⟩
    have e : ([] : List Value) ++ vCells x = rowV [x] := by simp [rowV]
    rw [e] at h7
    exact listW_row (A := [x]) h7
  · by_cases hroom : A.length + 1 ≤ cap
    · have hr := run_append_room (P := Tryz.prog) w 26 ty 30 i5 Tryz.underlying26 hi5 g A.length cap cur h2 ad 1 c (vCells x) (by rw [hi5b]; rfl) hx hx1 hroom (by rw [hi5b, vCells_len]; omega)
      refine ⟨_, _, hr, .inr ⟨g, cap, _, by rw [hax], setRow_heap w g cur _ _ _ h2, by omega, h4, ?_, ?_⟩, ⟨rfl, rfl, rfl, by simp, fun k _ hk => setRow_other w g k _ (fun e => hk (by simp [Value.ownBlock, e]))⟩, .inl rfl⟩
      · simp only [List.size_toArray, List.length_append, List.length_take, List.length_drop, Array.length_toList, hi5b, vCells_len]
        omega
      · rw [hi5b, h6, hrx, hax]
        show ((rowV A ++ vCells x) ++ _).take _ = _
        rw [List.take_append_of_le_length (by rw [List.length_append, rowV_len, vCells_len]; omega), List.take_of_length_le (by rw [List.length_append, rowV_len, vCells_len]; omega)]
    · have holds : ∀ j u, (rowV A)[j]? = some u → w.cell? ((⟨g, 0, none⟩ : Addr).add j) = some u := fun j u hj => by
        rw [add_none, Nat.zero_add, cell_of_heap h2, ← Array.getElem?_toList]
        rw [← h6, List.getElem?_take] at hj
        split at hj
        · exact hj
        · cases hj
      have hr := run_append_grow (P := Tryz.prog) w 26 ty 30 i5 _ Tryz.underlying26 hi5 hi5a ⟨g, 0, none⟩ A.length cap (rowV A) (by rw [hi5b]; exact rowV_len A) holds ad 1 c (vCells x) (by rw [hi5b]; rfl) hx (by omega) (by omega) (growslice_fits (by omega) (by rw [hi5c]; omega))
      have hge := grownCap_ge w (A.length + 1) cap 30
      have hle := grownCap_le_maxLen w (A.length + 1) cap 30 (by unfold maxLen; omega)
      refine ⟨_, _, hr, .inr ⟨w.heap.size, _, _, by rw [hax], Go.heap_alloc_new w.drew _, by omega, hle, ?_, ?_⟩, ⟨rfl, rfl, rfl, by simp, fun k hk _ => Below.heap_alloc w.drew _ k hk⟩, .inr rfl⟩
      · have hz : ∀ n, (Builtin.zeroCells (Value.cells (.agg #[.int .i64 0, .int .i64 0, .int .i64 0, .string ⟨#[]⟩, .int .i64 0])) n).size = n * 5 := fun n => size_zeroCells _ n
        simp only [Array.size_append, List.size_toArray, rowV_len, vCells_len, hz]
        omega
      · rw [hrx, hax]
        simp only [Array.toList_append, List.append_assoc]
        rw [← List.append_assoc, List.take_append_of_le_length (by rw [List.length_append, rowV_len, vCells_len]; omega), List.take_of_length_le (by rw [List.length_append, rowV_len, vCells_len]; omega)]
/-- A table in memory: its list A (in av), its map L. -/
structure TabW (w : World) (t m g : Nat) (sv : Value) (L : List Sl) (av : Value) (A : List V) : Prop where
  ht : w.heap[t]? = some (.cells #[av, .pointer (some ⟨m, 0, none⟩)] 126)
  lw : ListW w av A
  wfA : ∀ v ∈ A, WfV v ∧ validV v = true
  om : OMap w m g sv L
def inA (A : List V) (k : V) : Bool := intB k && decide (1 ≤ k.p ∧ k.p ≤ A.length)
def tgetM (A : List V) (L : List Sl) (k : V) : V := if inA A k then A.getD (k.p.toNat - 1) V.nil else getM L k
theorem rowV_get2 (A : List V) (a b : Nat) (hb : b < 5) : (rowV A)[a * 5 + b]? = (A[a]?).bind fun s => (vCells s)[b]? := by
  cases h : A[a]? with
  | some s => rw [rowV_at A a b s h hb]; rfl
  | none =>
    have := List.getElem?_eq_none_iff.1 h
    rw [List.getElem?_eq_none_iff.2 (by rw [rowV_len]; omega)]
    rfl
theorem rowV_set {A : List V} {i : Nat} (hi : i < A.length) (x : V) : setAt (rowV A) (i * 5) (vCells x) = rowV (A.set i x) := by
  apply List.ext_getElem?
  intro j
  obtain ⟨a, b, hb, rfl⟩ : ∃ a b, b < 5 ∧ j = a * 5 + b := ⟨j / 5, j % 5, by omega, by omega⟩
  rw [setAt_get _ _ _ _ (by rw [vCells_len, rowV_len]; omega), rowV_get2 _ _ _ hb, rowV_get2 _ _ _ hb, vCells_len, List.getElem?_set]
  by_cases h : i = a
  · subst h
    rw [if_pos (by omega), if_pos rfl, if_pos hi, show i * 5 + b - i * 5 = b by omega]
    rfl
  · rw [if_neg (by omega), if_neg h]
theorem setAt_take : ∀ (vs xs : List Value) (o n : Nat), o + vs.length ≤ n → (setAt xs o vs).take n = setAt (xs.take n) o vs
  | [], _, _, _, _ => rfl
  | v :: vs, xs, o, n, h => by
    rw [List.length_cons] at h
    show (setAt (xs.set o v) (o + 1) vs).take n = setAt ((xs.take n).set o v) (o + 1) vs
    rw [setAt_take vs _ _ _ (by omega), List.take_set]
theorem setCells_heap {g : Nat} {t : TypeId} {fz : Nat × Nat} : ∀ (vs : List Value) (w : World) (o : Nat) (cur : Array Value), w.heap[g]? = some (.cells cur t fz) →
    ∃ cur2 : Array Value, (setCells w g o vs).heap[g]? = some (.cells cur2 t fz) ∧ cur2.size = cur.size ∧ cur2.toList = setAt cur.toList o vs
  | [], _, _, cur, h => ⟨cur, h, rfl, rfl⟩
  | v :: vs, w, o, cur, h => by
    obtain ⟨c2, h1, h2, h3⟩ := setCells_heap vs (w.setCell ⟨g, o, none⟩ v) (o + 1) _ (heap_setCell_same h o v)
    exact ⟨c2, h1, by rw [h2, Array.size_setIfInBounds], by rw [h3, Array.toList_setIfInBounds]; rfl⟩
theorem listW_set {w : World} {g n cap : Nat} {A : List V} (h : ListW w (.slice (some ⟨g, 0, none⟩) n cap) A) {i : Nat} (hi : i < A.length) (x : V) : ListW (w.setCells g (i * 5) (vCells x)) (.slice (some ⟨g, 0, none⟩) n cap) (A.set i x) := by
  rcases h with ⟨h1, _⟩ | ⟨g2, c2, cur, h1, h2, h3, h4, h5, h6⟩
  · cases h1
  · injection h1 with h1 e2 e3
    injection h1 with h1
    injection h1 with h1 _ _
    subst h1 e2 e3
    obtain ⟨cur2, h7, h8, h9⟩ := setCells_heap (vCells x) w (i * 5) cur h2
    refine .inr ⟨g, cap, cur2, by rw [List.length_set], by rw [kit_setCells]; exact h7, by rw [List.length_set]; exact h3, h4, by rw [h8]; exact h5, ?_⟩
    rw [List.length_set, h9, setAt_take _ _ _ _ (by rw [vCells_len]; omega), h6, rowV_set hi]
theorem listW_there {w : World} {g n cap : Nat} {A : List V} (h : ListW w (.slice (some ⟨g, 0, none⟩) n cap) A) {i : Nat} (hi : i < A.length) : w.there g (i * 5) 5 := fun j hj => by
  obtain ⟨v, hv⟩ : ∃ v, A[i]? = some v := ⟨_, List.getElem?_eq_getElem hi⟩
  refine ⟨?_, ?_⟩
  · have : j = 0 ∨ j = 1 ∨ j = 2 ∨ j = 3 ∨ j = 4 := by omega
    rcases this with rfl | rfl | rfl | rfl | rfl
    · rw [listW_cell h hv (j := 0) rfl (by decide)]; rfl
    · rw [listW_cell h hv (j := 1) rfl (by decide)]; rfl
    · rw [listW_cell h hv (j := 2) rfl (by decide)]; rfl
    · rw [listW_cell h hv (j := 3) rfl (by decide)]; rfl
    · rw [listW_cell h hv (j := 4) rfl (by decide)]; rfl
  · rcases h with ⟨h1, _⟩ | ⟨g2, c2, cur, h1, h2, _⟩
    · cases h1
    · injection h1 with h1 _ _
      injection h1 with h1
      injection h1 with h1 _ _
      subst h1
      simp [World.frozen?, h2]
/-- Blocks of different types are different. -/
theorem obj_ne {w : World} {b c : Nat} {o1 o2 : Obj} (h1 : w.heap[b]? = some o1) (h2 : w.heap[c]? = some o2) (hne : o1 ≠ o2) : b ≠ c := fun e => by
  subst e
  rw [h1] at h2
  injection h2 with h2
  exact hne h2
theorem cells_ne {a b : Array Value} {t u : TypeId} {f f2 : Nat × Nat} (h : t ≠ u) : Obj.cells a t f ≠ Obj.cells b u f2 := fun e => by injection e with _ e; exact h e
theorem listW_block {w : World} {av : Value} {A : List V} (h : ListW w av A) {g : Nat} (hg : av.ownBlock = some g) : ∃ cur, w.heap[g]? = some (.cells cur 30 (0, 0)) := by
  rcases h with ⟨h1, _⟩ | ⟨g2, cap, cur, h1, h2, _⟩
  · rw [h1] at hg; cases hg
  · rw [h1] at hg
    injection hg with hg
    subst hg
    exact ⟨cur, h2⟩
/-- The map of a table stays where blocks of other types change. -/
theorem om_keepT {w w' : World} {m g : Nat} {sv : Value} {L : List Sl} (h : OMap w m g sv L) (hk : ∀ b, b < w.heap.size → (∀ cs, w.heap[b]? = some (.cells cs 144 (0, 0)) → w'.heap[b]? = w.heap[b]?) ∧ (∀ es c, w.heap[b]? = some (.map es c) → w'.heap[b]? = w.heap[b]?) ∧ (∀ cs, w.heap[b]? = some (.cells cs 146 (0, 0)) → w'.heap[b]? = w.heap[b]?)) : OMap w' m g sv L := by
  refine OMap.keep h ?_ ?_ ?_
  · exact (hk m (Array.getElem?_eq_some_iff.1 h.hm).1).1 _ h.hm
  · obtain ⟨E, f, ⟨es, c, hE, _⟩, _⟩ := h.map
    exact (hk g (Array.getElem?_eq_some_iff.1 hE).1).2.1 _ _ hE
  · intro b hb
    obtain ⟨cs, hc⟩ := row_block h.row hb
    exact (hk b (Array.getElem?_eq_some_iff.1 hc).1).2.2 _ hc
/-- What a write to a table's list changes. -/
def TbF (t : Nat) (av : Value) (b : Nat) : Prop := b = t ∨ av.ownBlock = some b
theorem om_keepF {w w' : World} {m g t : Nat} {sv av : Value} {L : List Sl} {A : List V} {cs : Array Value} (h : OMap w m g sv L) (ht : w.heap[t]? = some (.cells cs 126 (0, 0))) (hl : ListW w av A) (hm : Mods (TbF t av) w w') : OMap w' m g sv L := by
  refine om_keepT h (fun b hb => ⟨fun c hc => ?_, fun es c hc => ?_, fun c hc => ?_⟩)
  all_goals
    refine hm.block b hb (fun hF => ?_)
    rcases hF with rfl | hF
    · rw [ht] at hc
      first | (injection hc with hc; injection hc with _ hc; exact absurd hc (by decide)) | (injection hc with hc; cases hc)
    · obtain ⟨cur, hcur⟩ := listW_block hl hF
      rw [hcur] at hc
      first | (injection hc with hc; injection hc with _ hc; exact absurd hc (by decide)) | (injection hc with hc; cases hc)
def shrinkM (A : List V) : List V := (A.reverse.dropWhile (fun v => v.k == 0)).reverse
theorem shrink_nil {A : List V} {v : V} (h : v.k = 0) : shrinkM (A ++ [v]) = shrinkM A := by
  unfold shrinkM
  rw [List.reverse_append]
  show (List.dropWhile _ (v :: A.reverse)).reverse = _
  rw [List.dropWhile_cons_of_pos (by simpa using h)]
theorem shrink_stop {A : List V} {v : V} (h : v.k ≠ 0) : shrinkM (A ++ [v]) = A ++ [v] := by
  unfold shrinkM
  rw [List.reverse_append]
  show (List.dropWhile _ (v :: A.reverse)).reverse = _
  rw [List.dropWhile_cons_of_neg (by simpa using h), List.reverse_cons, List.reverse_reverse]
theorem take_last {A : List V} {n : Nat} {v : V} (h : A[n]? = some v) : A.take (n + 1) = A.take n ++ [v] := by rw [List.take_add_one, h]; rfl
def ShrinkPost (w : World) (t m g : Nat) (sv : Value) (L : List Sl) (av : Value) (A : List V) (e : Ending) (w' : World) : Prop :=
  e = .returned (.tuple #[]) ∧ ∃ av', TabW w' t m g sv L av' A ∧ (∀ b, av'.ownBlock = some b → av.ownBlock = some b) ∧ Mods (· = t) w w'
theorem tabW_cut {w : World} {t m g ga n cap : Nat} {sv : Value} {L : List Sl} {A : List V} (hT : TabW w t m g sv L (.slice (some ⟨ga, 0, none⟩) n cap) A) (k : Nat) (hk : k ≤ A.length) :
    TabW (w.setCell ⟨t, 0, none⟩ (.slice (some ⟨ga, 0, none⟩) k k)) t m g sv L (.slice (some ⟨ga, 0, none⟩) k k) (A.take k) := by
  have hm : Mods (TbF t (.slice (some ⟨ga, 0, none⟩) n cap)) w (w.setCell ⟨t, 0, none⟩ (.slice (some ⟨ga, 0, none⟩) k k)) := mods_setCell (Mods.refl _ _) (.inl (.inl rfl)) _
  refine ⟨heap_setCell_same hT.ht 0 _, ListW.kept (listW_cut hT.lw k hk) (fun b hb => ?_), fun v hv => hT.wfA v (List.mem_of_mem_take hv), om_keepF hT.om hT.ht hT.lw hm⟩
  obtain ⟨cur, hc⟩ := listW_block hT.lw (show (Value.slice (some ⟨ga, 0, none⟩) n cap).ownBlock = some b from hb)
  exact Below.heap_setCell _ _ _ _ (obj_ne hc hT.ht (cells_ne (by decide)))
def NextPost (w : World) (a b : V) (is : Bool) (c : Int) (e : Ending) (w' : World) : Prop :=
  e = .returned (.tuple #[.agg #[.int .i64 a.k, .int .i64 a.p, .int .i64 a.q, .string a.s, .int .i64 a.r], .agg #[.int .i64 b.k, .int .i64 b.p, .int .i64 b.q, .string b.s, .int .i64 b.r], .bool is, .int .i64 c]) ∧ Below w.heap.size w w'
theorem om_absent {w : World} {m g : Nat} {sv : Value} {L : List Sl} (hO : OMap w m g sv L) {k : V} (hk : WfV k) (ha : ∀ s ∈ L, s.k ≠ k) (W : World) (hW : W.heap[g]? = w.heap[g]?) :
    (Instr.lookup 142 (.map (some g)) k.v true).run Tryz.prog W = .ok (.tuple #[.int .i64 0, .bool false]) W := by
  obtain ⟨_, _, _, E, f, hE, hG, hI⟩ := hO
  rcases look_at hE hG hk W hW with ⟨_, h⟩ | ⟨n, h1, _⟩
  · exact h
  · obtain ⟨sl, hsl, hsk⟩ := hI.key _ _ h1
    exact absurd hsk (ha sl (List.mem_of_getElem? hsl))
theorem vals_shape {w : World} {so : Option Addr} {n cap i : Nat} {A : List V} {v : V} (h : Vals w (.slice so n cap) A) (hv : A[i]? = some v) : ∃ g o, so = some ⟨g, o, none⟩ := by
  obtain ⟨so', c, h1, h2, hn, h3⟩ := h
  injection h1 with h1 _ _
  subst h1
  rcases h3 with e | ⟨g, o, e, _⟩
  · rw [e] at hv
    simp at hv
  · exact ⟨g, o, e⟩
end Go.Proofs.YtpbcmlnjiocmoaaGreatDoorR
