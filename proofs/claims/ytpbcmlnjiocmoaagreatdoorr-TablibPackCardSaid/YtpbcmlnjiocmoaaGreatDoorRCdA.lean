import Derived.Test.YtpbcmlnjiocmoaaGreatDoorRLexB
import Derived.Test.YtpbcmlnjiocmoaaGreatDoorRRows
import Derived.Test.YtpbcmlnjiocmoaaGreatDoorRChecked
import Derived.ChangeSame
import Derived.ProofKit
import Derived.LaidMore
import Derived.OpenShut
import Derived.Stop.Joined
import Derived.Lib.LaidTab
import Derived.Handed
import Derived.Lay
import Derived.Carry
import Derived.SevenTiedAt
import Derived.ChangeMaps5
set_option linter.unusedVariables false
set_option linter.unusedSimpArgs false
set_option maxRecDepth 100000
namespace Go.Proofs.YtpbcmlnjiocmoaaGreatDoorR
open Go.ChangeShapes Go.WideShapes Go.ChangeAt Go.WideMaps Go.WideElems Go.RowKit
abbrev laidL : List (String × DataW Unit) := [("math/bits.deBruijn32tab", Rows.laid_math_bits_deBruijn32tab), ("math/bits.deBruijn64tab", Rows.laid_math_bits_deBruijn64tab), ("internal/strconv.uint64pow10", Rows.laid_internal_strconv_uint64pow10), ("unicode/utf8.acceptRanges", Rows.laid_unicode_utf8_acceptRanges), ("unicode/utf8.first", Rows.laid_unicode_utf8_first)]
theorem Tryz.own : ownKnob Tryz.prog.godebug = none := by kernel_rfl
theorem Tryz.tPow : ∃ g, Tryz.prog.globalNamed "internal/strconv.uint64pow10" = some g ∧ (Tryz.prog.globals[g]?).map (·.type) = some 171 := by
  refine ⟨(Tryz.prog.globalNamed "internal/strconv.uint64pow10").getD 0, ?_, ?_⟩ <;> kernel_rfl
theorem Tryz.cPow : Tryz.prog.cellsOf 171 = 20 := by kernel_rfl
theorem Tryz.c64 : Tryz.prog.cellsOf 160 = 1 := by kernel_rfl
theorem tab_of_laid {W : World} (h : laidMetH Tryz.prog laidL W) : Pow10 W := by
  rw [MakeChecks.laidMetH_plain _ _ _ (by kernel_rfl)] at h
  obtain ⟨ps, ⟨g0, t0, cs0, f0, p0, q0, _, _, _, _, ⟨g1, t1, cs1, f1, p1, q1, _, _, _, _, ⟨g2, t2, cs2, f2, p2, q2, hg2, ht2, hv2, hd2, _, _⟩, _⟩, _⟩, _, _⟩ := h
  obtain ⟨g, hg, ht⟩ := Tryz.tPow
  obtain rfl := Option.some.inj (hg.symm.trans hg2)
  obtain rfl := Option.some.inj (ht.symm.trans ht2)
  unfold Pow10 Lib.TabIs
  rw [hv2, ← Lib.cells_of_tab (k := .u64) (zs := Lib.pow10Tab) Tryz.underlying171 Tryz.underlying160 Tryz.c64 Tryz.cPow hd2]
theorem door_met (os : Os) (args : Array Value) : laidMetH Tryz.prog laidL ((World.laidAll Tryz.prog os laidL).forCall (fun _ _ => 0) ⟨#[], args, []⟩).memory := by
  rw [MakeChecks.laidMetH_plain _ _ _ (by kernel_rfl)]
  exact laidMet_laidAll _ (by kernel_rfl) (by kernel_rfl)
set_option maxRecDepth 100000 in
theorem glob_zero {W : World} (hs : W.ShapedOpen Tryz.prog) : ∃ m, W.cell? ⟨0, 0, none⟩ = some (.int .i64 m) := by
  have e : ((begin Tryz.prog (fun _ _ => 0) default).world.heap[0]?).bind Obj.row? = some (#[.int .i64 0], 3) := by kernel_rfl
  obtain ⟨cs, h1, h2, h3⟩ := hs.1 0 #[.int .i64 0] 3 (of_decide_eq_true (by kernel_rfl)) e
  obtain ⟨ts, ht, _, hc⟩ := h3 (by kernel_rfl)
  have hct : Tryz.prog.cellTypes Tryz.prog.depth 3 = some [3] := by kernel_rfl
  rw [hct] at ht
  injection ht with ht
  subst ht
  have hz : 0 < cs.size := by rw [h2]; decide
  obtain ⟨u, hu, hv⟩ := hc 0 cs[0] (Array.getElem?_eq_getElem hz)
  injection hu with hu
  subst hu
  unfold Cell.ok at hv
  rw [Tryz.underlying3] at hv
  generalize hx : cs[0] = x at hv
  cases x with
  | int k n =>
    obtain ⟨rfl, _⟩ := hv
    exact ⟨n, by rw [cell_of_heap h1, Array.getElem?_eq_getElem hz, hx]⟩
  | _ => exact hv.elim
set_option maxRecDepth 100000 in
/-- From the walk of a law, in any memory that is shaped and holds the tables, to the lifted statement. -/
theorem lift16 (os : Os) (started : os.Started) (H : Type) (enc : TypeId × Value → H) {f : FuncId} {fn : Func} {s : ChangeSpec} (noInit : Tryz.prog.inits.idxOf? f = none) (hfn : Tryz.prog.funcs[f]? = some fn)
    (witness : ∃ (w : World) (tape : Tape) (i : Input), w.os = os ∧ (w.forCall tape i).Shaped Tryz.prog ∧ i.vars = [] ∧ Input.okWide Tryz.prog (w.forCall tape i) .any w.heap.size f i ∧
      ((s.pre enc Tryz.prog fn [] false (w.forCall tape i).memory i.args ∧ laidMetH Tryz.prog laidL (w.forCall tape i).memory) ∧ sizedMet enc Tryz.prog fn (OpenSpec.ofChange s) false (w.forCall tape i).memory i.args) ∧ ({} : Assume).holds Tryz.prog (lone (Frame.enter Tryz.prog f i.args .normal) [] (w.forCall tape i)))
    (law : ∀ (W : World) (base : Nat) (args : Array Value) (ds gs : List (DataW H)) (before : List MemPlace), Glob W → (∀ (j : Nat) t v, fn.params[j]? = some t → args[j]? = some v → Value.okWide Tryz.prog W .any base t v) →
      DataW.Whole enc Tryz.prog fn.params.toList s.vars false W args.toList ds gs before → Calls Tryz.prog f args W fun e W' => ∃ v, e = .returned v ∧ s.post enc Tryz.prog fn false true false false W args v W') :
    ReturnsInHanded {} Tryz.checked os f .any (fun w args => (s.pre enc Tryz.prog fn [] false w args ∧ laidMetH Tryz.prog laidL w) ∧ sizedMet enc Tryz.prog fn (OpenSpec.ofChange s) false w args) (s.post enc Tryz.prog fn false true false false) := by
  refine returnsInHanded_of_calls (C := Tryz.checked) Tryz.own started noInit witness ?_
  intro w tape i _ hs _ hok hpre _
  obtain ⟨_, _, _, fn', hfn', _, _, _, _, hval⟩ := hok
  obtain rfl : fn' = fn := Option.some.inj (hfn'.symm.trans hfn)
  obtain ⟨⟨⟨ds, gs, before, hw, _⟩, hx⟩, _⟩ := hpre
  have hw2 := DataW.Whole.of_heap (w' := w.forCall tape i) (by rfl) hw
  have hx2 : laidMetH Tryz.prog laidL (w.forCall tape i) := hx.of_heap (by rfl)
  refine (law (w.forCall tape i) w.heap.size i.args ds gs before ⟨glob_zero hs, tab_of_laid hx2⟩ hval hw2).mono fun e W' ⟨v, he, hp⟩ => ?_
  subst he
  exact ChangeSpec.post_blind hp
section
variable {H : Type} {enc : TypeId × Value → H} {P : Program}
theorem post_of_below {f : Func} {s : ChangeSpec} {apart fresh handsOn again : Bool} {W W' : World} {args : Array Value} {v : Value} {ds gs : List (DataW H)} {before pa pv : List MemPlace}
    (hW : DataW.Whole enc P f.params.toList s.vars apart W args.toList ds gs before)
    (hres : ∀ (b : Nat) (sp : Nat → Bool) (hd : Bool), DataW.TrodAll enc P W' b sp hd f.resultTypes.toList (v.resultList f.resultTypes.size) (s.fn H (ds ++ gs)).results [])
    (hargs : ∀ sp : Nat → Bool, (∀ p ∈ before, sp p.block = true) → DataW.TrodAll enc P W' 0 sp true f.params.toList args.toList (s.fn H (ds ++ gs)).args pa)
    (hvars : ∀ sp : Nat → Bool, (∀ p ∈ before, sp p.block = true) → DataW.TrodVars enc P W' sp s.vars (s.fn H (ds ++ gs)).vars pv)
    (hps : before = pa ++ pv) (hb : Below W.heap.size W W')
    (hok : ∀ (j : Nat) (t : TypeId) (r : Value), f.resultTypes[j]? = some t → (v.resultList f.resultTypes.size)[j]? = some r → Value.okWide P W' .any 0 t r) :
    s.post enc P f apart fresh handsOn again W args v W' := by
  have hlt : ∀ p ∈ before, p.block < W.heap.size := fun p hp => hW.lt p hp
  have hold : ∀ p ∈ before, (fun b => decide (b < W.heap.size)) p.block = true := fun p hp => by simpa using hlt p hp
  refine ⟨ds, gs, before, [], pa, pv, hW, hres _ _ _, hargs _ hold, hvars _ hold, World.keptBut_mono (fun p hp => ⟨hp, ?_⟩) (hb.frame (· ∈ before)), fun _ => ?_⟩
  · rw [hps, List.mem_append] at hp
    exact Or.inr hp
  · obtain ⟨_, _, _, _, _, hz, hn⟩ := hW
    refine ⟨hok, _, _, ([] ++ pa) ++ pv, ⟨[] ++ pa, pv, trodAll_append (hargs _ (fun _ _ => rfl)) (hres _ _ _), hvars _ (fun _ _ => rfl), rfl, ?_, ?_⟩, ?_⟩
    · intro b off hp
      have hin : MemPlace.cell b off ∈ before := by rw [hps]; simpa using hp
      rw [hb.frozen (hlt _ hin)]
      exact hz b off hin
    · intro ha
      have := hn ha
      rw [hps] at this
      simpa using this
    · intro p hp _
      rw [hps]
      simpa using hp
end
section
variable {H : Type} {enc : TypeId × Value → H} {P : Program} {w : World} {base : Nat} {sp : Nat → Bool} {held : Bool}
theorem under_struct {t : TypeId} {l : List (TypeId × Nat)} (h : (match P.underlying t with | some (.struct fs) => decide (fs.toList.map (fun f => (f.type, f.offset)) = l) | _ => false) = true) : ∃ fs, P.underlying t = some (.struct fs) ∧ fs.toList.map (fun f => (f.type, f.offset)) = l := by
  split at h
  · rename_i fs hfs; exact ⟨fs, hfs, of_decide_eq_true h⟩
  · cases h
theorem trod_field {t : TypeId} {l : List (TypeId × Nat)} (hs : ∃ fs, P.underlying t = some (.struct fs) ∧ fs.toList.map (fun f => (f.type, f.offset)) = l) {fuel : Nat} {cs : List Value} {x : DataW H × List MemPlace} (h : DataW.trod enc P w base sp held fuel t cs = some x) :
    cs.length = P.cellsOf t ∧ ∃ n, ∀ (i : Nat) (ty : TypeId) (off : Nat), l[i]? = some (ty, off) → ∃ y, DataW.trod enc P w base sp held n ty ((cs.drop off).take (P.cellsOf ty)) = some y := by
  obtain ⟨fs, hf, rfl⟩ := hs
  obtain ⟨xs, n, _, _, hl, hlen, hx⟩ := DataW.trod_struct hf h
  refine ⟨hl, n, fun i ty off hi => ?_⟩
  rw [List.getElem?_map, Option.map_eq_some_iff] at hi
  obtain ⟨f, hf1, hf2⟩ := hi
  have hf1' : fs[i]? = some f := by simpa using hf1
  have := hx i f hf1'
  injection hf2 with e1 e2
  subst e1 e2
  have hi' : i < xs.length := by rw [hlen]; exact (Array.getElem?_eq_some_iff.1 hf1').1
  exact ⟨xs[i], by rw [this]; exact List.getElem?_eq_getElem hi'⟩
end
theorem i64_of_wf {n : Int} (h : (Lit.int .i64 n).wf = true) : i64 n := by
  have h2 : (decide ((-9223372036854775808 : Int) ≤ n) && decide (n ≤ (9223372036854775807 : Int))) = true := h
  rw [Bool.and_eq_true, decide_eq_true_eq, decide_eq_true_eq] at h2
  exact h2
theorem shape25 : ∃ fs, Tryz.prog.underlying 30 = some (.struct fs) ∧ fs.toList.map (fun f => (f.type, f.offset)) = [(3, 0), (28, 1), (9, 3), (3, 4)] := under_struct (by kernel_rfl)
theorem shape23 : ∃ fs, Tryz.prog.underlying 28 = some (.struct fs) ∧ fs.toList.map (fun f => (f.type, f.offset)) = [(3, 0), (3, 1)] := under_struct (by kernel_rfl)
theorem list_five {α : Type} {l : List α} (h : l.length = 5) : ∃ a b c d e, l = [a, b, c, d, e] := by
  match l, h with
  | [a, b, c, d, e], _ => exact ⟨a, b, c, d, e, rfl⟩
theorem open_cells {H : Type} {enc : TypeId × Value → H} {w : World} {base : Nat} {sp : Nat → Bool} {held : Bool} {fuel : Nat} {cs : List Value} {x : DataW H × List MemPlace} (h : DataW.trod enc Tryz.prog w base sp held fuel 30 cs = some x) :
    ∃ v : V, cs = [.int .i64 v.k, .int .i64 v.p, .int .i64 v.q, .string v.s, .int .i64 v.r] ∧ WfV v := by
  obtain ⟨hl, n, hf⟩ := trod_field shape25 h
  rw [cells25] at hl
  obtain ⟨a, b, c, d, e, rfl⟩ := list_five hl
  obtain ⟨y0, h0⟩ := hf 0 3 0 rfl
  obtain ⟨y1, h1⟩ := hf 1 28 1 rfl
  obtain ⟨y2, h2⟩ := hf 2 9 3 rfl
  obtain ⟨y3, h3⟩ := hf 3 3 4 rfl
  rw [cells3] at h0 h3
  rw [cells23] at h1
  rw [cells9] at h2
  obtain ⟨_, m, hg⟩ := trod_field shape23 h1
  obtain ⟨z0, g0⟩ := hg 0 3 0 rfl
  obtain ⟨z1, g1⟩ := hg 1 3 1 rfl
  rw [cells3] at g0 g1
  obtain ⟨k, hk, _, wk⟩ := DataW.trod_int Tryz.underlying3 h0
  obtain ⟨p, hp, _, wp⟩ := DataW.trod_int Tryz.underlying3 g0
  obtain ⟨q, hq, _, wq⟩ := DataW.trod_int Tryz.underlying3 g1
  obtain ⟨s, hs, _, ws⟩ := DataW.trod_string Tryz.underlying9 h2
  obtain ⟨r, hr, _, wr⟩ := DataW.trod_int Tryz.underlying3 h3
  simp at hk hp hq hs hr
  exact ⟨⟨k, p, q, s, r⟩, by rw [hk, hp, hq, hs, hr], ⟨i64_of_wf wk, i64_of_wf wp, i64_of_wf wq, ws, i64_of_wf wr⟩⟩
theorem Tryz.laidOut : laidOutB Tryz.prog = true := by kernel_rfl
end Go.Proofs.YtpbcmlnjiocmoaaGreatDoorR
namespace Go.Proofs.YtpbcmlnjiocmoaaGreatDoorR
structure Sl where
  k : V
  v : V
  g : Bool
def Sl.hit (k : V) (s : Sl) : Bool := !s.g && eqV s.k k
def liveN (L : List Sl) : Nat := (L.filter (fun s => !s.g)).length
def dropM (L : List Sl) : List Sl := L.filter (fun s => !s.g)
def getM (L : List Sl) (k : V) : V :=
  match L.find? (Sl.hit k) with
  | some s => s.v
  | none => V.nil
def roomM (L : List Sl) : List Sl := if liveN L + 8 < L.length - liveN L then dropM L else L
def setM (L : List Sl) (k v : V) : List Sl :=
  match L.findIdx? (Sl.hit k) with
  | some i => if v.k = 0 then L.set i ⟨k, V.nil, true⟩ else L.set i ⟨k, v, false⟩
  | none => if v.k = 0 then L else roomM L ++ [⟨k, v, false⟩]
theorem eqV_self (a : V) : eqV a a = true := eqV_iff.2 rfl
theorem hit_iff {k : V} {s : Sl} : Sl.hit k s = true ↔ s.g = false ∧ s.k = k := by
  unfold Sl.hit
  rw [Bool.and_eq_true, eqV_iff]
  cases s.g <;> simp
theorem liveN_le (L : List Sl) : liveN L ≤ L.length := List.length_filter_le _ _
/-- f is an index of the slots. -/
structure Idx (L : List Sl) (f : V → Option Nat) : Prop where
  live : ∀ (i : Nat) (s : Sl), L[i]? = some s → s.g = false → f s.k = some i
  key : ∀ (k : V) (i : Nat), f k = some i → ∃ s, L[i]? = some s ∧ s.k = k
  gone : ∀ (i : Nat) (s : Sl), L[i]? = some s → s.g = true → s.v = V.nil
theorem idx_nil : Idx [] (fun _ => none) := ⟨fun i s h => (by simp at h), fun k i h => (by cases h), fun i s h => (by simp at h)⟩
theorem Idx.miss {L : List Sl} {f : V → Option Nat} (h : Idx L f) {k : V} (hk : f k = none) : ∀ s ∈ L, Sl.hit k s = false := by
  intro s hs
  obtain ⟨i, hi⟩ := List.getElem?_of_mem hs
  cases hh : Sl.hit k s with
  | false => rfl
  | true =>
    obtain ⟨h1, h2⟩ := hit_iff.1 hh
    have := h.live i s hi h1
    rw [h2, hk] at this
    cases this
theorem Idx.at_ {L : List Sl} {f : V → Option Nat} (h : Idx L f) {k : V} {i : Nat} (hk : f k = some i) : ∃ s, L[i]? = some s ∧ s.k = k ∧ ∀ (j : Nat) (t : Sl), L[j]? = some t → Sl.hit k t = true → j = i := by
  obtain ⟨s, h1, h2⟩ := h.key k i hk
  refine ⟨s, h1, h2, fun j t hj ht => ?_⟩
  obtain ⟨h3, h4⟩ := hit_iff.1 ht
  have := h.live j t hj h3
  rw [h4, hk] at this
  injection this with this
  exact this.symm
theorem find_none {L : List Sl} {k : V} (h : ∀ s ∈ L, Sl.hit k s = false) : L.find? (Sl.hit k) = none ∧ L.findIdx? (Sl.hit k) = none := by
  constructor
  · rw [List.find?_eq_none]; intro s hs; rw [h s hs]; decide
  · rw [List.findIdx?_eq_none_iff]; exact h
theorem find_some {L : List Sl} {k : V} {i : Nat} {s : Sl} (hi : L[i]? = some s) (hs : Sl.hit k s = true) (hu : ∀ (j : Nat) (t : Sl), L[j]? = some t → Sl.hit k t = true → j = i) :
    L.find? (Sl.hit k) = some s ∧ L.findIdx? (Sl.hit k) = some i := by
  have hl : i < L.length := (List.getElem?_eq_some_iff.1 hi).1
  have hx : L.findIdx? (Sl.hit k) = some i := by
    rw [List.findIdx?_eq_some_iff_getElem]
    refine ⟨hl, ?_, fun j hj => ?_⟩
    · rw [List.getElem?_eq_getElem hl] at hi
      injection hi with hi
      rw [hi]; exact hs
    · intro hc
      have := hu j L[j] (List.getElem?_eq_getElem (by omega)) hc
      omega
  refine ⟨?_, hx⟩
  rw [List.find?_eq_bind_findIdx?_getElem?, hx]
  exact hi
theorem Idx.get_miss {L : List Sl} {f : V → Option Nat} (h : Idx L f) {k : V} (hk : f k = none) : getM L k = V.nil := by
  unfold getM
  rw [(find_none (h.miss hk)).1]
theorem Idx.get_at {L : List Sl} {f : V → Option Nat} (h : Idx L f) {k : V} {i : Nat} {s : Sl} (hk : f k = some i) (hs : L[i]? = some s) : getM L k = s.v := by
  obtain ⟨s', h1, h2, h3⟩ := h.at_ hk
  rw [hs] at h1
  injection h1 with h1
  subst h1
  unfold getM
  cases hg : s.g with
  | false => rw [(find_some hs (hit_iff.2 ⟨hg, h2⟩) h3).1]
  | true =>
    have : L.find? (Sl.hit k) = none := by
      rw [List.find?_eq_none]
      intro t ht hc
      obtain ⟨j, hj⟩ := List.getElem?_of_mem ht
      have := h3 j t hj hc
      subst this
      rw [hs] at hj
      injection hj with hj
      subst hj
      have := (hit_iff.1 hc).1
      rw [hg] at this
      cases this
    rw [this, h.gone i s hs hg]
/-- No live slot of a key: the index has none, or a removed one. -/
def NoLive (L : List Sl) (f : V → Option Nat) (k : V) : Prop := f k = none ∨ ∃ i s, f k = some i ∧ L[i]? = some s ∧ s.g = true
theorem Idx.noLive {L : List Sl} {f : V → Option Nat} (h : Idx L f) {k : V} (hk : NoLive L f k) : ∀ s ∈ L, Sl.hit k s = false := by
  rcases hk with hk | ⟨i, s, hk, hs, hg⟩
  · exact h.miss hk
  · obtain ⟨s', h1, h2, h3⟩ := h.at_ hk
    intro t ht
    cases hh : Sl.hit k t with
    | false => rfl
    | true =>
      obtain ⟨j, hj⟩ := List.getElem?_of_mem ht
      have := h3 j t hj hh
      subst this
      rw [hs] at hj
      injection hj with hj
      subst hj
      have := (hit_iff.1 hh).1
      rw [hg] at this
      cases this
theorem Idx.set_none {L : List Sl} {f : V → Option Nat} (h : Idx L f) {k v : V} (hk : NoLive L f k) : setM L k v = if v.k = 0 then L else roomM L ++ [⟨k, v, false⟩] := by
  unfold setM
  rw [(find_none (h.noLive hk)).2]
theorem Idx.set_some {L : List Sl} {f : V → Option Nat} (h : Idx L f) {k v : V} {i : Nat} {s : Sl} (hk : f k = some i) (hs : L[i]? = some s) (hg : s.g = false) :
    setM L k v = if v.k = 0 then L.set i ⟨k, V.nil, true⟩ else L.set i ⟨k, v, false⟩ := by
  obtain ⟨s', h1, h2, h3⟩ := h.at_ hk
  rw [hs] at h1
  injection h1 with h1
  subst h1
  unfold setM
  rw [(find_some hs (hit_iff.2 ⟨hg, h2⟩) h3).2]
/-- The index behind a turn of the function at one key. -/
def putF (f : V → Option Nat) (k : V) (x : Option Nat) : V → Option Nat := fun y => if eqV y k then x else f y
theorem putF_same (f : V → Option Nat) (k : V) (x : Option Nat) : putF f k x k = x := by unfold putF; rw [if_pos (eqV_self k)]
theorem putF_other {f : V → Option Nat} {k y : V} {x : Option Nat} (h : y ≠ k) : putF f k x y = f y := by
  unfold putF
  rw [if_neg]
  intro hc
  exact h (eqV_iff.1 hc)
theorem Idx.remove {L : List Sl} {f : V → Option Nat} (h : Idx L f) {k : V} {i : Nat} (hk : f k = some i) : Idx (L.set i ⟨k, V.nil, true⟩) f := by
  have hl : i < L.length := by obtain ⟨s, h1, _⟩ := h.key k i hk; exact (List.getElem?_eq_some_iff.1 h1).1
  refine ⟨fun j s hj hs => ?_, fun y j hy => ?_, fun j s hj hs => ?_⟩
  · rw [List.getElem?_set] at hj
    split at hj
    · injection hj with hj; subst hj; cases hs
    · exact h.live j s hj hs
  · obtain ⟨s, h1, h2⟩ := h.key y j hy
    rw [List.getElem?_set]
    split
    · rename_i he
      subst he
      refine ⟨_, rfl, ?_⟩
      obtain ⟨s', h3, h4⟩ := h.key k i hk
      rw [h1] at h3
      injection h3 with h3
      subst h3
      show k = y
      rw [← h4, h2]
    · exact ⟨s, h1, h2⟩
  · rw [List.getElem?_set] at hj
    split at hj
    · injection hj with hj; subst hj; rfl
    · exact h.gone j s hj hs
theorem Idx.write {L : List Sl} {f : V → Option Nat} (h : Idx L f) {k v : V} {i : Nat} (hk : f k = some i) : Idx (L.set i ⟨k, v, false⟩) f := by
  have hl : i < L.length := by obtain ⟨s, h1, _⟩ := h.key k i hk; exact (List.getElem?_eq_some_iff.1 h1).1
  refine ⟨fun j s hj hs => ?_, fun y j hy => ?_, fun j s hj hs => ?_⟩
  · rw [List.getElem?_set] at hj
    split at hj
    · rename_i he
      subst he
      injection hj with hj; subst hj; exact hk
    · exact h.live j s hj hs
  · obtain ⟨s, h1, h2⟩ := h.key y j hy
    rw [List.getElem?_set]
    split
    · rename_i he
      subst he
      refine ⟨_, rfl, ?_⟩
      obtain ⟨s', h3, h4⟩ := h.key k i hk
      rw [h1] at h3
      injection h3 with h3
      subst h3
      show k = y
      rw [← h4, h2]
    · exact ⟨s, h1, h2⟩
  · rw [List.getElem?_set] at hj
    split at hj
    · injection hj with hj; subst hj; cases hs
    · exact h.gone j s hj hs
theorem Idx.push {L : List Sl} {f : V → Option Nat} (h : Idx L f) {k v : V} (hk : NoLive L f k) : Idx (L ++ [⟨k, v, false⟩]) (putF f k (some L.length)) := by
  have hno := h.noLive hk
  refine ⟨fun j s hj hs => ?_, fun y j hy => ?_, fun j s hj hs => ?_⟩
  · rw [List.getElem?_append] at hj
    split at hj
    · have hk2 : s.k ≠ k := by
        intro hc
        have := hno s (List.mem_of_getElem? hj)
        rw [hit_iff.2 ⟨hs, hc⟩] at this
        cases this
      rw [putF_other hk2]
      exact h.live j s hj hs
    · rw [List.getElem?_singleton] at hj
      split at hj
      · injection hj with hj
        subst hj
        rw [putF_same]
        congr 1
        omega
      · cases hj
  · by_cases hyk : y = k
    · subst hyk
      rw [putF_same] at hy
      injection hy with hy
      subst hy
      exact ⟨_, List.getElem?_concat_length, rfl⟩
    · rw [putF_other hyk] at hy
      obtain ⟨s, h1, h2⟩ := h.key y j hy
      exact ⟨s, by rw [List.getElem?_append_left (List.getElem?_eq_some_iff.1 h1).1]; exact h1, h2⟩
  · rw [List.getElem?_append] at hj
    split at hj
    · exact h.gone j s hj hs
    · rw [List.getElem?_singleton] at hj
      split at hj
      · injection hj with hj
        subst hj
        cases hs
      · cases hj
/-- The index in the midst of a drop: the first i slots are gone through. -/
def midF (L : List Sl) (f : V → Option Nat) (i : Nat) (k : V) : Option Nat :=
  match (dropM (L.take i)).findIdx? (Sl.hit k) with
  | some j => some j
  | none => match f k with
    | some j => if i ≤ j then some j else none
    | none => none
theorem mid_zero (L : List Sl) (f : V → Option Nat) : midF L f 0 = f := by
  funext k
  unfold midF
  have : dropM (L.take 0) = [] := by rw [List.take_zero]; rfl
  rw [this]
  show (match f k with | some j => if 0 ≤ j then some j else none | none => none) = f k
  cases f k with
  | none => rfl
  | some j => exact if_pos (Nat.zero_le j)
theorem drop_take_succ {L : List Sl} {i : Nat} {s : Sl} (h : L[i]? = some s) : dropM (L.take (i + 1)) = if s.g then dropM (L.take i) else dropM (L.take i) ++ [s] := by
  have hl : i < L.length := (List.getElem?_eq_some_iff.1 h).1
  rw [List.getElem?_eq_getElem hl] at h
  injection h with h
  rw [List.take_succ_eq_append_getElem hl, h]
  unfold dropM
  rw [List.filter_append]
  cases hg : s.g with
  | true => simp [hg]
  | false => simp [hg]
theorem mem_drop {L : List Sl} {s : Sl} : s ∈ dropM L ↔ s ∈ L ∧ s.g = false := by
  unfold dropM
  rw [List.mem_filter]
  cases s.g <;> simp
/-- A slot that is dropped: its key leaves the index if the index names it. -/
theorem mid_gone {L : List Sl} {f : V → Option Nat} (h : Idx L f) {i : Nat} {s : Sl} (hi : L[i]? = some s) (hg : s.g = true) :
    midF L f (i + 1) = if midF L f i s.k = some i then putF (midF L f i) s.k none else midF L f i := by
  have hd : dropM (L.take (i + 1)) = dropM (L.take i) := by rw [drop_take_succ hi, hg]; rfl
  have key : ∀ k, midF L f (i + 1) k = match (dropM (L.take i)).findIdx? (Sl.hit k) with | some j => some j | none => match f k with | some j => if i + 1 ≤ j then some j else none | none => none := fun k => by
    rw [← hd]; rfl
  have bound : ∀ k j, (dropM (L.take i)).findIdx? (Sl.hit k) = some j → j < i ∧ ∃ m t, m < i ∧ L[m]? = some t ∧ Sl.hit k t = true := fun k j hj => by
    obtain ⟨h1, h2, _⟩ := List.findIdx?_eq_some_iff_getElem.1 hj
    have h3 : (dropM (L.take i)).length ≤ i := Nat.le_trans (List.length_filter_le _ _) (by rw [List.length_take]; omega)
    refine ⟨by omega, ?_⟩
    have h4 := List.getElem_mem h1
    obtain ⟨h5, _⟩ := mem_drop.1 h4
    obtain ⟨m, hm⟩ := List.getElem?_of_mem h5
    have h6 : m < i := by
      have := (List.getElem?_eq_some_iff.1 hm).1
      rw [List.length_take] at this
      omega
    rw [List.getElem?_take_of_lt h6] at hm
    exact ⟨m, _, h6, hm, h2⟩
  have step : ∀ k, (f k = some i → (dropM (L.take i)).findIdx? (Sl.hit k) = none) := fun k hk => by
    cases hx : (dropM (L.take i)).findIdx? (Sl.hit k) with
    | none => rfl
    | some j =>
      obtain ⟨_, m, t, h1, h2, h3⟩ := bound k j hx
      obtain ⟨h4, h5⟩ := hit_iff.1 h3
      have := h.live m t h2 h4
      rw [h5, hk] at this
      injection this with this
      omega
  have fkey : ∀ k, f k = some i → k = s.k := fun k hk => by
    obtain ⟨t, h1, h2⟩ := h.key k i hk
    rw [hi] at h1
    injection h1 with h1
    rw [h1, h2]
  have same : ∀ k, f k ≠ some i → midF L f (i + 1) k = midF L f i k := fun k hk => by
    rw [key]
    unfold midF
    cases (dropM (L.take i)).findIdx? (Sl.hit k) with
    | some j => rfl
    | none =>
      show (match f k with | some j => if i + 1 ≤ j then some j else none | none => none) = (match f k with | some j => if i ≤ j then some j else none | none => none)
      cases hf : f k with
      | none => rfl
      | some j =>
        have : j ≠ i := fun e => hk (by rw [hf, e])
        show (if i + 1 ≤ j then some j else none) = (if i ≤ j then some j else none)
        by_cases hij : i ≤ j
        · rw [if_pos hij, if_pos (by omega)]
        · rw [if_neg hij, if_neg (by omega)]
  by_cases hc : f s.k = some i
  · have h1 : midF L f i s.k = some i := by
      unfold midF
      rw [step _ hc]
      show (match f s.k with | some j => if i ≤ j then some j else none | none => none) = _
      rw [hc]
      exact if_pos (Nat.le_refl i)
    rw [if_pos h1]
    funext k
    by_cases hk : k = s.k
    · subst hk
      rw [putF_same, key, step _ hc]
      show (match f s.k with | some j => if i + 1 ≤ j then some j else none | none => none) = _
      rw [hc]
      exact if_neg (by omega)
    · rw [putF_other hk]
      exact same k (fun e => hk (fkey k e))
  · have h1 : midF L f i s.k ≠ some i := by
      intro he
      unfold midF at he
      cases hx : (dropM (L.take i)).findIdx? (Sl.hit s.k) with
      | some j =>
        rw [hx] at he
        injection he with he
        have := (bound _ _ hx).1
        omega
      | none =>
        rw [hx] at he
        cases hf : f s.k with
        | none => rw [hf] at he; cases he
        | some j =>
          rw [hf] at he
          have he : (if i ≤ j then some j else none) = some i := he
          split at he
          · injection he with he; subst he; exact hc hf
          · cases he
    rw [if_neg h1]
    funext k
    exact same k (fun e => hc (by rw [← fkey k e]; exact e))
/-- A slot that stays. -/
theorem mid_live {L : List Sl} {f : V → Option Nat} (h : Idx L f) {i : Nat} {s : Sl} (hi : L[i]? = some s) (hg : s.g = false) :
    midF L f (i + 1) = putF (midF L f i) s.k (some (dropM (L.take i)).length) := by
  have hd : dropM (L.take (i + 1)) = dropM (L.take i) ++ [s] := by rw [drop_take_succ hi, hg]; rfl
  have hfs : f s.k = some i := h.live i s hi hg
  have none_s : (dropM (L.take i)).findIdx? (Sl.hit s.k) = none := by
    rw [List.findIdx?_eq_none_iff]
    intro t ht
    cases hh : Sl.hit s.k t with
    | false => rfl
    | true =>
      obtain ⟨h5, _⟩ := mem_drop.1 ht
      obtain ⟨m, hm⟩ := List.getElem?_of_mem h5
      have h6 : m < i := by
        have := (List.getElem?_eq_some_iff.1 hm).1
        rw [List.length_take] at this
        omega
      rw [List.getElem?_take_of_lt h6] at hm
      obtain ⟨h3, h4⟩ := hit_iff.1 hh
      have := h.live m t hm h3
      rw [h4, hfs] at this
      injection this with this
      omega
  funext k
  by_cases hk : k = s.k
  · subst hk
    rw [putF_same]
    unfold midF
    rw [hd, List.findIdx?_append, none_s]
    have h1 : Sl.hit s.k s = true := hit_iff.2 ⟨hg, rfl⟩
    simp [List.findIdx?_cons, h1]
  · rw [putF_other hk]
    unfold midF
    have h1 : Sl.hit k s = false := by
      cases hh : Sl.hit k s with
      | false => rfl
      | true => exact absurd (hit_iff.1 hh).2.symm hk
    rw [hd, List.findIdx?_append]
    have h2 : [s].findIdx? (Sl.hit k) = none := by simp [List.findIdx?_cons, h1]
    rw [h2]
    cases (dropM (L.take i)).findIdx? (Sl.hit k) with
    | some j => rfl
    | none =>
      show (match f k with | some j => if i + 1 ≤ j then some j else none | none => none) = (match f k with | some j => if i ≤ j then some j else none | none => none)
      cases hf : f k with
      | none => rfl
      | some j =>
        have : j ≠ i := fun e => by
          subst e
          obtain ⟨t, h3, h4⟩ := h.key k j hf
          rw [hi] at h3
          injection h3 with h3
          subst h3
          exact hk h4.symm
        show (if i + 1 ≤ j then some j else none) = (if i ≤ j then some j else none)
        by_cases hij : i ≤ j
        · rw [if_pos hij, if_pos (by omega)]
        · rw [if_neg hij, if_neg (by omega)]
theorem Idx.dropped {L : List Sl} {f : V → Option Nat} (h : Idx L f) : Idx (dropM L) (midF L f L.length) := by
  have hm : ∀ k, midF L f L.length k = (dropM L).findIdx? (Sl.hit k) := fun k => by
    unfold midF
    rw [List.take_length]
    cases (dropM L).findIdx? (Sl.hit k) with
    | some j => rfl
    | none =>
      show (match f k with | some j => if L.length ≤ j then some j else none | none => none) = none
      cases hf : f k with
      | none => rfl
      | some j =>
        obtain ⟨s, h1, _⟩ := h.key k j hf
        have := (List.getElem?_eq_some_iff.1 h1).1
        exact if_neg (by omega)
  have uniq : ∀ (i j : Nat) (s t : Sl), L[i]? = some s → L[j]? = some t → s.g = false → t.g = false → s.k = t.k → i = j := fun i j s t hi hj hs ht hk => by
    have h1 := h.live i s hi hs
    have h2 := h.live j t hj ht
    rw [hk, h2] at h1
    injection h1 with h1
    exact h1.symm
  refine ⟨fun i s hi hs => ?_, fun k i hk => ?_, fun i s hi hs => ?_⟩
  · rw [hm]
    have hl : i < (dropM L).length := (List.getElem?_eq_some_iff.1 hi).1
    have hs2 : (dropM L)[i] = s := by rw [List.getElem?_eq_getElem hl] at hi; injection hi
    rw [List.findIdx?_eq_some_iff_getElem]
    refine ⟨hl, by rw [hs2]; exact hit_iff.2 ⟨hs, rfl⟩, fun j hj hc => ?_⟩
    have hpw : (dropM L).Pairwise (fun a b => a.k ≠ b.k) := by
      have : L.Pairwise (fun a b => a.g = false → b.g = false → a.k ≠ b.k) := by
        rw [List.pairwise_iff_getElem]
        intro a b ha hb hab h1 h2 h3
        have := uniq a b L[a] L[b] (List.getElem?_eq_getElem ha) (List.getElem?_eq_getElem hb) h1 h2 h3
        omega
      have h2 := this.filter (fun s => !s.g)
      refine h2.imp_of_mem ?_
      intro a b ha hb hab
      exact hab (mem_drop.1 ha).2 (mem_drop.1 hb).2
    have := (List.pairwise_iff_getElem.1 hpw) j i (by omega) hl hj
    rw [hs2] at this
    exact this (hit_iff.1 hc).2
  · rw [hm] at hk
    obtain ⟨h1, h2, _⟩ := List.findIdx?_eq_some_iff_getElem.1 hk
    exact ⟨_, List.getElem?_eq_getElem h1, (hit_iff.1 h2).2⟩
  · have := (mem_drop.1 (List.mem_of_getElem? hi)).2
    rw [this] at hs
    cases hs
/-- A key that has no live slot has none behind a drop. -/
theorem Idx.noLive_drop {L : List Sl} {f : V → Option Nat} (h : Idx L f) {k : V} (hk : NoLive L f k) : NoLive (dropM L) (midF L f L.length) k := by
  refine .inl ?_
  cases hc : midF L f L.length k with
  | none => rfl
  | some i =>
    obtain ⟨s, h1, h2⟩ := h.dropped.key k i hc
    have h3 := mem_drop.1 (List.mem_of_getElem? h1)
    have := h.noLive hk s h3.1
    rw [hit_iff.2 ⟨h3.2, h2⟩] at this
    cases this
end Go.Proofs.YtpbcmlnjiocmoaaGreatDoorR
namespace Go.Proofs.YtpbcmlnjiocmoaaGreatDoorR
open Go.RowKit Go.Proofs.Lexi
def slCells (s : Sl) : List Value := [.int .i64 s.k.k, .int .i64 s.k.p, .int .i64 s.k.q, .string s.k.s, .int .i64 s.k.r, .int .i64 s.v.k, .int .i64 s.v.p, .int .i64 s.v.q, .string s.v.s, .int .i64 s.v.r, .bool s.g]
def rowSl (L : List Sl) : List Value := L.flatMap slCells
theorem slCells_len (s : Sl) : (slCells s).length = 11 := rfl
theorem rowSl_len (L : List Sl) : (rowSl L).length = L.length * 11 := by
  induction L with
  | nil => rfl
  | cons s L ih => show (slCells s ++ rowSl L).length = _; rw [List.length_append, slCells_len, ih, List.length_cons]; omega
theorem rowSl_at : ∀ (L : List Sl) (i j : Nat) (s : Sl), L[i]? = some s → j < 11 → (rowSl L)[i * 11 + j]? = (slCells s)[j]?
  | [], i, j, s, h, _ => by simp at h
  | x :: L, 0, j, s, h, hj => by
    rw [List.getElem?_cons_zero] at h
    injection h with h
    subst h
    show (slCells x ++ rowSl L)[0 * 11 + j]? = _
    rw [List.getElem?_append_left (by rw [slCells_len]; omega)]
    congr 1
    omega
  | x :: L, i + 1, j, s, h, hj => by
    rw [List.getElem?_cons_succ] at h
    show (slCells x ++ rowSl L)[(i + 1) * 11 + j]? = _
    rw [List.getElem?_append_right (by rw [slCells_len]; omega), slCells_len, show (i + 1) * 11 + j - 11 = i * 11 + j by omega]
    exact rowSl_at L i j s h hj
/-- The entries of a map are the graph of an index. -/
def Graph (E : List (Value × Value)) (f : V → Option Nat) : Prop := ∀ p, p ∈ E ↔ ∃ v n, p = (v.v, .int .i64 (n : Nat)) ∧ f v = some n
theorem V.v_inj {a b : V} (h : a.v = b.v) : a = b := by
  obtain ⟨k, p, q, s, r⟩ := a
  obtain ⟨k2, p2, q2, s2, r2⟩ := b
  simp only [V.v, V.cells, Value.agg.injEq, Array.mk.injEq, List.cons.injEq, Value.int.injEq, Value.string.injEq, true_and, and_true] at h
  obtain ⟨h1, h2, h3, h4, h5⟩ := h
  subst h1 h2 h3 h4 h5
  rfl
structure OMap (w : World) (m g : Nat) (sv : Value) (L : List Sl) : Prop where
  hm : w.heap[m]? = some (.cells #[sv, .map (some g), .int .i64 (liveN L : Nat)] 144)
  row : w.ownsRow 0 146 11 sv L.length (rowSl L)
  wf : ∀ s ∈ L, WfV s.k ∧ WfV s.v
  map : ∃ E f, MapAt Tryz.prog 30 w g E ∧ Graph E f ∧ Idx L f
theorem OMap.keep {w w' : World} {m g : Nat} {sv : Value} {L : List Sl} (h : OMap w m g sv L) (h1 : w'.heap[m]? = w.heap[m]?) (h2 : w'.heap[g]? = w.heap[g]?) (h3 : ∀ b, sv.ownBlock = some b → w'.heap[b]? = w.heap[b]?) : OMap w' m g sv L := by
  obtain ⟨a, b, wf, E, f, c, d, e⟩ := h
  exact ⟨h1.trans a, ownsRow_keep b h3, wf, E, f, c.keep h2, d, e⟩
/-- What a look-up of a key gives. -/
theorem look_at {w : World} {g : Nat} {E : List (Value × Value)} {f : V → Option Nat} (hE : MapAt Tryz.prog 30 w g E) (hG : Graph E f) {k : V} (hk : WfV k) (W : World) (hW : W.heap[g]? = w.heap[g]?) :
    (f k = none ∧ (Instr.lookup 142 (.map (some g)) k.v true).run Tryz.prog W = .ok (.tuple #[.int .i64 0, .bool false]) W) ∨
    ∃ n : Nat, f k = some n ∧ (Instr.lookup 142 (.map (some g)) k.v true).run Tryz.prog W = .ok (.tuple #[.int .i64 (n : Int), .bool true]) W := by
  obtain ⟨l, hl⟩ := keyV hk
  have hz : (zeroValue 3).run Tryz.prog W = .ok (.int .i64 0) W := Tryz.zeroValue3 W
  rcases (hE.keep hW).look keyedV (e := 3) (t := 142) (by kernel_rfl) hz hl with ⟨h1, h2⟩ | ⟨v, h1, h2⟩
  · refine .inl ⟨?_, h2 true⟩
    cases hf : f k with
    | none => rfl
    | some n => exact absurd rfl (h1 _ ((hG _).2 ⟨k, n, rfl, hf⟩))
  · obtain ⟨v2, n, h3, h4⟩ := (hG _).1 h1
    simp only [Prod.mk.injEq] at h3
    obtain ⟨h5, rfl⟩ := h3
    have := V.v_inj h5
    subst this
    exact .inr ⟨n, h4, h2 true⟩
theorem heap2_a (w : World) (o1 o2 : Obj) : ((w.alloc o1).alloc o2).heap[w.heap.size]? = some o1 := by
  rw [Below.heap_alloc _ _ _ (by simp), heap_new]
theorem heap2_b (w : World) (o1 o2 : Obj) : ((w.alloc o1).alloc o2).heap[w.heap.size + 1]? = some o2 := by
  have := heap_new (w.alloc o1) o2
  simpa using this
theorem heap2_old {w : World} {b : Nat} {o : Obj} (h : w.heap[b]? = some o) (o1 o2 : Obj) : ((w.alloc o1).alloc o2).heap[b]? = some o := hkeep (below2w w o1 o2) h
theorem ownsRow_cell {w : World} {base g cap n size : Nat} {e : TypeId} {xs : List Value} (h : w.ownsRow base e size (.slice (some ⟨g, 0, none⟩) n cap) n xs) (j : Nat) (u : Value) :
    (w.setCell ⟨g, j, none⟩ u).ownsRow base e size (.slice (some ⟨g, 0, none⟩) n cap) n (xs.set j u) := by
  obtain ⟨h1, h2⟩ := h
  refine ⟨by rw [List.length_set]; exact h1, ?_⟩
  rcases h2 with ⟨h2, _⟩ | ⟨g', cap', cur, h2, h3, h4, h5, h6, h7, h8⟩
  · cases h2
  · simp only [Value.slice.injEq, Option.some.injEq, Addr.mk.injEq, true_and, and_true] at h2
    obtain ⟨rfl, rfl⟩ := h2
    refine .inr ⟨g, cap, cur.setIfInBounds j u, rfl, h3, heap_setCell_same h4 j u, h5, h6, by rw [Array.size_setIfInBounds]; exact h7, ?_⟩
    rw [Array.toList_setIfInBounds, List.take_set, h8]
def setAt (xs : List Value) (o : Nat) : List Value → List Value
  | [] => xs
  | v :: vs => setAt (xs.set o v) (o + 1) vs
theorem setAt_get : ∀ (vs xs : List Value) (o j : Nat), o + vs.length ≤ xs.length → (setAt xs o vs)[j]? = if o ≤ j ∧ j < o + vs.length then vs[j - o]? else xs[j]?
  | [], xs, o, j, _ => by
    show xs[j]? = _
    rw [if_neg]
    rintro ⟨h1, h2⟩
    simp at h2
    omega
  | v :: vs, xs, o, j, h => by
    rw [List.length_cons] at h
    show (setAt (xs.set o v) (o + 1) vs)[j]? = _
    rw [setAt_get vs _ _ j (by rw [List.length_set]; omega), List.length_cons]
    by_cases h1 : o + 1 ≤ j ∧ j < o + 1 + vs.length
    · rw [if_pos h1, if_pos (by omega), show j - o = (j - (o + 1)) + 1 by omega, List.getElem?_cons_succ]
    · rw [if_neg h1, List.getElem?_set]
      by_cases h2 : o = j
      · subst h2
        rw [if_pos rfl, if_pos (by omega), if_pos (by omega), Nat.sub_self]
        rfl
      · rw [if_neg h2, if_neg (by omega)]
theorem rowSl_get (L : List Sl) (a b : Nat) (hb : b < 11) : (rowSl L)[a * 11 + b]? = (L[a]?).bind fun s => (slCells s)[b]? := by
  cases h : L[a]? with
  | some s => rw [rowSl_at L a b s h hb]; rfl
  | none =>
    have := List.getElem?_eq_none_iff.1 h
    rw [List.getElem?_eq_none_iff.2 (by rw [rowSl_len]; omega)]
    rfl
theorem rowSl_set {L : List Sl} {i : Nat} (hi : i < L.length) (s' : Sl) : setAt (rowSl L) (i * 11) (slCells s') = rowSl (L.set i s') := by
  apply List.ext_getElem?
  intro j
  obtain ⟨a, b, hb, rfl⟩ : ∃ a b, b < 11 ∧ j = a * 11 + b := ⟨j / 11, j % 11, by omega, by omega⟩
  rw [setAt_get _ _ _ _ (by rw [slCells_len, rowSl_len]; omega), rowSl_get _ _ _ hb, rowSl_get _ _ _ hb, slCells_len, List.getElem?_set]
  by_cases h : i = a
  · subst h
    rw [if_pos (by omega), if_pos rfl, if_pos hi, show i * 11 + b - i * 11 = b by omega]
    rfl
  · rw [if_neg (by omega), if_neg h]
def valCells (v : V) : List Value := [.int .i64 v.k, .int .i64 v.p, .int .i64 v.q, .string v.s, .int .i64 v.r]
theorem rowSl_setVal {L : List Sl} {i : Nat} {sl : Sl} (hs : L[i]? = some sl) (v : V) : setAt (rowSl L) (i * 11 + 5) (valCells v) = rowSl (L.set i ⟨sl.k, v, sl.g⟩) := by
  have hi : i < L.length := (List.getElem?_eq_some_iff.1 hs).1
  apply List.ext_getElem?
  intro j
  obtain ⟨a, b, hb, rfl⟩ : ∃ a b, b < 11 ∧ j = a * 11 + b := ⟨j / 11, j % 11, by omega, by omega⟩
  have hl : (valCells v).length = 5 := rfl
  rw [setAt_get _ _ _ _ (by rw [hl, rowSl_len]; omega), rowSl_get _ _ _ hb, rowSl_get _ _ _ hb, hl, List.getElem?_set]
  by_cases h : i = a
  · subst h
    rw [if_pos rfl, if_pos hi, hs]
    have hb2 : b = 0 ∨ b = 1 ∨ b = 2 ∨ b = 3 ∨ b = 4 ∨ b = 5 ∨ b = 6 ∨ b = 7 ∨ b = 8 ∨ b = 9 ∨ b = 10 := by omega
    rcases hb2 with rfl | rfl | rfl | rfl | rfl | rfl | rfl | rfl | rfl | rfl | rfl
    all_goals
      first
      | (rw [if_neg (by omega)]; rfl)
      | (rw [if_pos (by omega)]; rw [show i * 11 + 5 - (i * 11 + 5) = 0 by omega]; rfl)
      | (rw [if_pos (by omega)]; rw [show i * 11 + 6 - (i * 11 + 5) = 1 by omega]; rfl)
      | (rw [if_pos (by omega)]; rw [show i * 11 + 7 - (i * 11 + 5) = 2 by omega]; rfl)
      | (rw [if_pos (by omega)]; rw [show i * 11 + 8 - (i * 11 + 5) = 3 by omega]; rfl)
      | (rw [if_pos (by omega)]; rw [show i * 11 + 9 - (i * 11 + 5) = 4 by omega]; rfl)
  · rw [if_neg (by omega), if_neg h]
def setCells (w : World) (g : Nat) (o : Nat) : List Value → World
  | [] => w
  | v :: vs => setCells (w.setCell ⟨g, o, none⟩ v) g (o + 1) vs
theorem ownsRow_setCells {base g cap n size : Nat} {e : TypeId} : ∀ (vs : List Value) (w : World) (xs : List Value) (o : Nat), w.ownsRow base e size (.slice (some ⟨g, 0, none⟩) n cap) n xs →
    (setCells w g o vs).ownsRow base e size (.slice (some ⟨g, 0, none⟩) n cap) n (setAt xs o vs)
  | [], _, _, _, h => h
  | v :: vs, w, xs, o, h => ownsRow_setCells vs _ _ _ (ownsRow_cell h o v)
theorem setCells_other {g b : Nat} (hb : b ≠ g) : ∀ (vs : List Value) (w : World) (o : Nat), (setCells w g o vs).heap[b]? = w.heap[b]?
  | [], _, _ => rfl
  | v :: vs, w, o => (setCells_other hb vs _ _).trans (Below.heap_setCell _ _ _ _ hb)
theorem mods_setCell {F : Nat → Prop} {a w : World} (h : Mods F a w) {b o : Nat} (hb : F b ∨ a.heap.size ≤ b) (u : Value) : Mods F a (w.setCell ⟨b, o, none⟩ u) :=
  ⟨h.os, h.tape, h.output, by simpa using h.size, fun k hk hF => by
    rw [Below.heap_setCell _ _ _ _ (show k ≠ b from fun e => by subst e; rcases hb with hb | hb; exact hF hb; omega)]
    exact h.block k hk hF⟩
theorem mods_setCells {F : Nat → Prop} {a : World} {g : Nat} (hg : F g ∨ a.heap.size ≤ g) : ∀ (vs : List Value) (w : World) (o : Nat), Mods F a w → Mods F a (setCells w g o vs)
  | [], _, _, h => h
  | _ :: vs, _, _, h => mods_setCells hg vs _ _ (mods_setCell h hg _)
theorem kit_setCells {g : Nat} : ∀ (vs : List Value) (w : World) (o : Nat), w.setCells g o vs = setCells w g o vs
  | [], _, _ => rfl
  | v :: vs, w, o => kit_setCells vs _ _
theorem there_row {w : World} {base g cap n size : Nat} {e : TypeId} {xs : List Value} (h : w.ownsRow base e size (.slice (some ⟨g, 0, none⟩) n cap) n xs) (o k : Nat) (hk : o + k ≤ n * size) : w.there g o k := fun j hj => by
  refine ⟨?_, ?_⟩
  · rw [h.cellAt (o + j) (by omega), List.getElem?_eq_getElem (by rw [h.1]; omega)]; rfl
  · rcases h.2 with ⟨h2, _⟩ | ⟨g', cap', cur, h2, h3, h4, _⟩
    · cases h2
    · simp only [Value.slice.injEq, Option.some.injEq, Addr.mk.injEq, true_and, and_true] at h2
      obtain ⟨rfl, _⟩ := h2
      simp [World.frozen?, h4]
def OmF (m g : Nat) (sv : Value) (b : Nat) : Prop := b = m ∨ b = g ∨ sv.ownBlock = some b
def OmPost (w : World) (m g : Nat) (sv : Value) (L' : List Sl) (e : Ending) (w' : World) : Prop :=
  e = .returned (.int .i64 0) ∧ ∃ sv', OMap w' m g sv' L' ∧ Mods (OmF m g sv) w w' ∧ ∀ b, sv'.ownBlock = some b → sv.ownBlock = some b ∨ w.heap.size ≤ b
set_option maxRecDepth 100000 in
theorem look_ways {w : World} {g : Nat} {E : List (Value × Value)} {f : V → Option Nat} (hE : MapAt Tryz.prog 30 w g E) (hG : Graph E f) {k p q : Int} {s : ByteArray} {r : Int} (hk : WfV ⟨k, p, q, s, r⟩) :
    (f ⟨k, p, q, s, r⟩ = none ∧ ∀ W, W.heap[g]? = w.heap[g]? → (Instr.lookup 142 (.map (some g)) (.agg #[.int .i64 k, .int .i64 p, .int .i64 q, .string s, .int .i64 r]) true).run Tryz.prog W = .ok (.tuple #[.int .i64 0, .bool false]) W) ∨
      ∃ n : Nat, f ⟨k, p, q, s, r⟩ = some n ∧ ∀ W, W.heap[g]? = w.heap[g]? → (Instr.lookup 142 (.map (some g)) (.agg #[.int .i64 k, .int .i64 p, .int .i64 q, .string s, .int .i64 r]) true).run Tryz.prog W = .ok (.tuple #[.int .i64 (n : Int), .bool true]) W := by
  rcases look_at hE hG hk w rfl with ⟨h1, _⟩ | ⟨n, h1, _⟩
  · refine .inl ⟨h1, fun W hW => ?_⟩
    rcases look_at hE hG hk W hW with ⟨_, h2⟩ | ⟨n, h2, _⟩
    · exact h2
    · rw [h1] at h2; cases h2
  · refine .inr ⟨n, h1, fun W hW => ?_⟩
    rcases look_at hE hG hk W hW with ⟨h2, _⟩ | ⟨n2, h2, h3⟩
    · rw [h1] at h2; cases h2
    · rw [h1] at h2; injection h2 with h2; subst h2; exact h3
theorem bw {w W : World} (h : Below w.heap.size w W) {b : Nat} (hb : b < w.heap.size) : W.heap[b]? = w.heap[b]? := h.block b hb
theorem info161 : (Tryz.prog.info? 146).map (·.size) = some 11 := by kernel_rfl
theorem mrb {w : World} {m rb cap n size base : Nat} {cs : Array Value} {xs : List Value} (hm : w.heap[m]? = some (.cells cs 144 (0, 0))) (h : w.ownsRow base 146 size (.slice (some ⟨rb, 0, none⟩) n cap) n xs) (e : m = rb) : False := by
  subst e
  rcases h.2 with ⟨h2, _⟩ | ⟨g', cap', cur, h2, h3, h4, _⟩
  · cases h2
  · simp only [Value.slice.injEq, Option.some.injEq, Addr.mk.injEq, true_and, and_true] at h2
    obtain ⟨rfl, _⟩ := h2
    rw [hm] at h4
    injection h4 with h4
    injection h4 with h5 h6
    cases h6
theorem info25 : (Tryz.prog.info? 30).map (·.size) = some 5 := by kernel_rfl
def PutR (W : World) (g : Nat) (f : V → Option Nat) (k : V) (n : Nat) (w' : World) : Prop := (∃ E', MapAt Tryz.prog 30 w' g E' ∧ Graph E' (putF f k (some n))) ∧ Mods (· = g) W w' ∧ w'.heap.size = W.heap.size
theorem put_at {w : World} {g : Nat} {E : List (Value × Value)} {f : V → Option Nat} (hE : MapAt Tryz.prog 30 w g E) (hG : Graph E f) {k : V} (hk : WfV k) (n : Nat) (W : World) (hW : W.heap[g]? = w.heap[g]?) :
    ∃ w', (Instr.mapUpdate 142 (.map (some g)) k.v (.int .i64 (n : Int))).run Tryz.prog W = .ok () w' ∧ PutR W g f k n w' := by
  obtain ⟨l, hl⟩ := keyV hk
  obtain ⟨w', E', h1, h2, h3, h4, h5, _⟩ := (hE.keep hW).store keyedV (e := 3) (t := 142) (by kernel_rfl) hl (.int .i64 (n : Int))
  refine ⟨w', h1, ⟨E', h2, fun p => ?_⟩, h3, h4⟩
  rw [h5, hG]
  constructor
  · rintro (rfl | ⟨⟨v, j, rfl, hv⟩, hne⟩)
    · exact ⟨k, n, rfl, putF_same _ _ _⟩
    · exact ⟨v, j, rfl, by rw [putF_other (fun e => hne (by rw [e]))]; exact hv⟩
  · rintro ⟨v, j, rfl, hv⟩
    by_cases hvk : v = k
    · subst hvk
      rw [putF_same] at hv
      injection hv with hv
      subst hv
      exact .inl rfl
    · rw [putF_other hvk] at hv
      exact .inr ⟨⟨v, j, rfl, hv⟩, fun e => hvk (V.v_inj e)⟩
abbrev slZero : Value := .agg #[.int .i64 0, .int .i64 0, .int .i64 0, .string ⟨#[]⟩, .int .i64 0, .int .i64 0, .int .i64 0, .int .i64 0, .string ⟨#[]⟩, .int .i64 0, .bool false]
theorem info161p : (Tryz.prog.info? 146).map (fun i => (i.zero, i.size, i.bytes)) = some (some slZero, 11, 104) := by kernel_rfl
theorem mods_keep {F : Nat → Prop} {W w' : World} (h : Mods F W w') {b : Nat} {o : Obj} (hb : W.heap[b]? = some o) (hne : ¬ F b) : w'.heap[b]? = some o := (h.block b (Array.getElem?_eq_some_iff.1 hb).1 hne).trans hb
theorem row_ne {w : World} {base g n cap size : Nat} {e : TypeId} {so : Option Addr} {xs : List Value} (h : w.ownsRow base e size (.slice so n cap) n xs) {es : Array MapEntry} {c : Nat} (hg : w.heap[g]? = some (.map es c)) (b : Nat) (hb : (Value.slice so n cap).ownBlock = some b) : b ≠ g := by
  rcases h.2 with ⟨h2, _⟩ | ⟨g', cap', cur, h2, h3, h4, _⟩
  · rw [h2] at hb; cases hb
  · rw [h2] at hb
    injection hb with hb
    subst hb
    rintro rfl
    have h4 : w.heap[g']? = some (.cells cur e (0, 0)) := h4
    rw [hg] at h4
    cases h4
theorem row_ne_m {w : World} {base m n cap size : Nat} {so : Option Addr} {xs : List Value} {cs : Array Value} (h : w.ownsRow base 146 size (.slice so n cap) n xs) (hm : w.heap[m]? = some (.cells cs 144 (0, 0))) (b : Nat) (hb : (Value.slice so n cap).ownBlock = some b) : b ≠ m := by
  rcases h.2 with ⟨h2, _⟩ | ⟨g', cap', cur, h2, h3, h4, _⟩
  · rw [h2] at hb; cases hb
  · rw [h2] at hb
    injection hb with hb
    subst hb
    rintro rfl
    have h4 : w.heap[g']? = some (.cells cur 146 (0, 0)) := h4
    rw [hm] at h4
    injection h4 with h4
    injection h4 with _ h6
    cases h6
theorem cells_eleven (w : World) (x0 x1 x2 x3 x4 x5 x6 x7 x8 x9 x10 : Value) (t : TypeId) (B : Nat) (hB : B = w.heap.size) : ∀ j u, [x0, x1, x2, x3, x4, x5, x6, x7, x8, x9, x10][j]? = some u → (w.alloc (.cells #[x0, x1, x2, x3, x4, x5, x6, x7, x8, x9, x10] t)).cell? ((⟨B, 0, none⟩ : Addr).add j) = some u := by
  intro j u hj
  subst hB
  have e : (⟨w.heap.size, 0, none⟩ : Addr).add j = ⟨w.heap.size, j, none⟩ := by unfold Addr.add; split <;> simp_all
  rw [e, cell_of_heap (heap_new _ _)]
  simpa using hj
theorem cells_eleven_d (w : World) (x0 x1 x2 x3 x4 x5 x6 x7 x8 x9 x10 : Value) (t : TypeId) (B : Nat) (hB : B = w.heap.size) : ∀ j u, [x0, x1, x2, x3, x4, x5, x6, x7, x8, x9, x10][j]? = some u → (w.alloc (.cells #[x0, x1, x2, x3, x4, x5, x6, x7, x8, x9, x10] t)).drew.cell? ((⟨B, 0, none⟩ : Addr).add j) = some u := cells_eleven w x0 x1 x2 x3 x4 x5 x6 x7 x8 x9 x10 t B hB
theorem liveN_push (L : List Sl) (k v : V) : liveN (L ++ [⟨k, v, false⟩]) = liveN L + 1 := by
  unfold liveN
  rw [List.filter_append, List.length_append]
  rfl
theorem rowSl_push (L : List Sl) (s : Sl) : rowSl (L ++ [s]) = rowSl L ++ slCells s := by
  unfold rowSl
  rw [List.flatMap_append]
  congr 1
theorem push_omap {w3 w4 : World} {m g rb cap : Nat} {sv0 : Value} {L : List Sl} {f : V → Option Nat} {k v : V}
    (hm4 : w4.heap[m]? = some (.cells #[sv0, .map (some g), .int .i64 (liveN L : Nat)] 144))
    (hown : w4.ownsRow 0 146 11 (.slice (some ⟨rb, 0, none⟩) (L.length + 1) cap) (L.length + 1) (rowSl L ++ slCells ⟨k, v, false⟩))
    (hput : ∃ E', MapAt Tryz.prog 30 w3 g E' ∧ Graph E' (putF f k (some L.length))) (hg4 : w4.heap[g]? = w3.heap[g]?) (hmg : m ≠ g) (hI : Idx L f) (hno : NoLive L f k) (hwf : ∀ s ∈ L, WfV s.k ∧ WfV s.v) (hk : WfV k) (hv : WfV v) :
    OMap ((w4.setCell ⟨m, 0, none⟩ (.slice (some ⟨rb, 0, none⟩) (L.length + 1) cap)).setCell ⟨m, 2, none⟩ (.int .i64 ((liveN L : Nat) + 1))) m g (.slice (some ⟨rb, 0, none⟩) (L.length + 1) cap) (L ++ [⟨k, v, false⟩]) := by
  have hrm : rb ≠ m := fun e => mrb hm4 hown e.symm
  obtain ⟨E', h1, h2⟩ := hput
  refine ⟨?_, ?_, ?_, E', _, h1.keep ?_, h2, hI.push hno⟩
  · have := heap_setCell_same (heap_setCell_same hm4 0 (.slice (some ⟨rb, 0, none⟩) (L.length + 1) cap)) 2 (.int .i64 ((liveN L : Nat) + 1))
    rw [liveN_push]
    exact this
  · rw [rowSl_push, List.length_append]
    refine ownsRow_keep hown fun b hb => ?_
    have hb : some rb = some b := hb
    injection hb with hb
    subst hb
    rw [Below.heap_setCell _ _ _ _ hrm, Below.heap_setCell _ _ _ _ hrm]
  · intro s hs
    rcases List.mem_append.1 hs with h | h
    · exact hwf s h
    · rw [List.mem_singleton] at h
      subst h
      exact ⟨hk, hv⟩
  · rw [Below.heap_setCell _ _ _ _ (fun e => hmg e.symm), Below.heap_setCell _ _ _ _ (fun e => hmg e.symm), hg4]
theorem push_mods {w w2 w3 w3a w4 : World} {F : Nat → Prop} {m g : Nat} {o : Option Nat} {u x : Value} (h2 : Mods F w w2) (h3 : Mods (· = g) w2 w3) (h3a : Below w3.heap.size w3 w3a) (h4 : w3a.grownBy w4 o) (hm : F m) (hg : F g) (ho : ∀ b, o = some b → F b ∨ w.heap.size ≤ b) :
    Mods F w ((w4.setCell ⟨m, 0, none⟩ u).setCell ⟨m, 2, none⟩ x) := by
  have a : Mods F w w3a := (h2.trans (h3.mono (fun k _ e => by rw [e]; exact hg))).trans (Mods.of_below h3a)
  have hz := a.size
  have b : Mods F w w4 := ⟨h4.os.trans a.os, h4.tape.trans a.tape, h4.output.trans a.output, Nat.le_trans hz h4.size, fun k hk hF => (h4.block k (Nat.lt_of_lt_of_le hk hz) (fun e => by
    rcases ho k e.symm with h | h
    · exact hF h
    · omega)).trans (a.block k hk hF)⟩
  exact mods_setCell (mods_setCell b (.inl hm) _) (.inl hm) _
/-- The Mods of a call that hangs new slots into the map. -/
def DropRel (w : World) (g : Nat) (L : List Sl) (f : V → Option Nat) (gg : Nat) (vl vi : Value) (wr : World) : Prop :=
  ∃ (i cap2 : Nat) (so2 : Option Addr), L.length - i = gg ∧ .slice so2 (dropM (L.take i)).length cap2 = vl ∧ .int .i64 (i : Nat) = vi ∧ i ≤ L.length ∧
    wr.ownsRow w.heap.size 146 11 (.slice so2 (dropM (L.take i)).length cap2) (dropM (L.take i)).length (rowSl (dropM (L.take i))) ∧
    (∃ E, MapAt Tryz.prog 30 wr g E ∧ Graph E (midF L f i)) ∧ Mods (· = g) w wr
def DropPost (w : World) (m g : Nat) (L : List Sl) (f : V → Option Nat) (e : Ending) (w' : World) : Prop :=
  e = .returned (.tuple #[]) ∧ ∃ (so : Option Addr) (cap : Nat), w'.heap[m]? = some (.cells #[.slice so (dropM L).length cap, .map (some g), .int .i64 (liveN L : Nat)] 144) ∧
    w'.ownsRow w.heap.size 146 11 (.slice so (dropM L).length cap) (dropM L).length (rowSl (dropM L)) ∧ (∃ E, MapAt Tryz.prog 30 w' g E ∧ Graph E (midF L f L.length)) ∧ Mods (fun b => b = m ∨ b = g) w w'
theorem slice_shape0 {w : World} {base : Nat} {e : TypeId} {size : Nat} {v : Value} {n : Nat} {xs : List Value} (ho : w.ownsRow base e size v n xs) : ∃ so cap, v = .slice so n cap := by
  rcases ho.2 with ⟨h1, h2, _⟩ | ⟨g', cap', cur, h2, _⟩
  · first
    | exact ⟨none, 0, by rw [h1]; simp_all⟩
    | (subst h1; exact ⟨none, 0, by simp_all⟩)
  · exact ⟨_, _, h2⟩
theorem look_plain {w : World} {g : Nat} {E : List (Value × Value)} {f : V → Option Nat} (hE : MapAt Tryz.prog 30 w g E) (hG : Graph E f) {k : V} (hk : WfV k) (W : World) (hW : W.heap[g]? = w.heap[g]?) :
    (Instr.lookup 142 (.map (some g)) k.v false).run Tryz.prog W = .ok (.int .i64 (((f k).getD 0 : Nat) : Int)) W := by
  obtain ⟨l, hl⟩ := keyV hk
  have hz : (zeroValue 3).run Tryz.prog W = .ok (.int .i64 0) W := Tryz.zeroValue3 W
  rcases (hE.keep hW).look keyedV (e := 3) (t := 142) (by kernel_rfl) hz hl with ⟨h1, h2⟩ | ⟨v, h1, h2⟩
  · have : f k = none := by
      cases hf : f k with
      | none => rfl
      | some n => exact absurd rfl (h1 _ ((hG _).2 ⟨k, n, rfl, hf⟩))
    rw [this]
    exact h2 false
  · obtain ⟨v2, n, h3, h4⟩ := (hG _).1 h1
    simp only [Prod.mk.injEq] at h3
    obtain ⟨h5, rfl⟩ := h3
    have := V.v_inj h5
    subst this
    rw [h4]
    exact h2 false
def DelR (W : World) (g : Nat) (f : V → Option Nat) (k : V) (w' : World) : Prop := (∃ E', MapAt Tryz.prog 30 w' g E' ∧ Graph E' (putF f k none)) ∧ Mods (· = g) W w' ∧ W.heap.size ≤ w'.heap.size
theorem del_at {w : World} {g : Nat} {E : List (Value × Value)} {f : V → Option Nat} (hE : MapAt Tryz.prog 30 w g E) (hG : Graph E f) {k : V} (hk : WfV k) (ty : TypeId) (W : World) (hW : W.heap[g]? = w.heap[g]?) :
    ∃ w', (Builtin.delete_ #[142, 30] ty #[.map (some g), k.v]).run Tryz.prog W = .ok (.tuple #[]) w' ∧ DelR W g f k w' := by
  obtain ⟨l, hl⟩ := keyV hk
  obtain ⟨w', E', h1, h2, h3, h4, h5⟩ := (hE.keep hW).drop keyedV (e := 3) (t := 142) (by kernel_rfl) hl ty
  refine ⟨w', h1, ⟨E', h2, fun p => ?_⟩, h3, Nat.le_of_eq h4.symm⟩
  rw [h5, hG]
  constructor
  · rintro ⟨⟨v, j, rfl, hv⟩, hne⟩
    exact ⟨v, j, rfl, by rw [putF_other (fun e => hne (by rw [e]))]; exact hv⟩
  · rintro ⟨v, j, rfl, hv⟩
    by_cases hvk : v = k
    · subst hvk
      rw [putF_same] at hv
      cases hv
    · rw [putF_other hvk] at hv
      exact ⟨⟨v, j, rfl, hv⟩, fun e => hvk (V.v_inj e)⟩
theorem putF_none {f : V → Option Nat} {k : V} (h : f k = none) : putF f k none = f := by
  funext y
  by_cases hy : y = k
  · subst hy; rw [putF_same, h]
  · exact putF_other hy
theorem gone_yes {L : List Sl} {f : V → Option Nat} (h : Idx L f) {i : Nat} {s : Sl} (hi : L[i]? = some s) (hg : s.g = true) (ht : (midF L f i s.k).getD 0 = i) : midF L f (i + 1) = putF (midF L f i) s.k none := by
  rw [mid_gone h hi hg]
  split
  · rfl
  · rename_i hne
    cases hx : midF L f i s.k with
    | none => rw [putF_none hx]
    | some j =>
      rw [hx] at ht hne
      exact absurd (congrArg some ht) hne
theorem gone_no {L : List Sl} {f : V → Option Nat} (h : Idx L f) {i : Nat} {s : Sl} (hi : L[i]? = some s) (hg : s.g = true) (ht : (midF L f i s.k).getD 0 ≠ i) : midF L f (i + 1) = midF L f i := by
  rw [mid_gone h hi hg]
  split
  · rename_i he
    rw [he] at ht
    exact absurd rfl ht
  · rfl
theorem drop_gone {L : List Sl} {i : Nat} {s : Sl} (hi : L[i]? = some s) (hg : s.g = true) : dropM (L.take (i + 1)) = dropM (L.take i) := by
  rw [drop_take_succ hi, hg]; rfl
theorem drop_live {L : List Sl} {i : Nat} {s : Sl} (hi : L[i]? = some s) (hg : s.g = false) : dropM (L.take (i + 1)) = dropM (L.take i) ++ [s] := by
  rw [drop_take_succ hi, hg]; rfl
theorem drop_len (L : List Sl) : (dropM L).length ≤ L.length := List.length_filter_le _ _
theorem row_drop {W : World} {B : Nat} {L : List Sl} {i : Nat} {so2 : Option Addr} {cap2 : Nat} (h : W.ownsRow B 146 11 (.slice so2 (dropM (L.take i)).length cap2) (dropM (L.take i)).length (rowSl (dropM (L.take i)))) {j : Nat} (e : dropM (L.take j) = dropM (L.take i)) :
    W.ownsRow B 146 11 (.slice so2 (dropM (L.take j)).length cap2) (dropM (L.take j)).length (rowSl (dropM (L.take j))) := by rw [e]; exact h
def NextPost (w : World) (a b : V) (is : Bool) (c : Int) (e : Ending) (w' : World) : Prop :=
  e = .returned (.tuple #[.agg #[.int .i64 a.k, .int .i64 a.p, .int .i64 a.q, .string a.s, .int .i64 a.r], .agg #[.int .i64 b.k, .int .i64 b.p, .int .i64 b.q, .string b.s, .int .i64 b.r], .bool is, .int .i64 c]) ∧ Below w.heap.size w w'
theorem om_absent {w : World} {m g : Nat} {sv : Value} {L : List Sl} (hO : OMap w m g sv L) {k : V} (hk : WfV k) (ha : ∀ s ∈ L, s.k ≠ k) (W : World) (hW : W.heap[g]? = w.heap[g]?) :
    (Instr.lookup 142 (.map (some g)) k.v true).run Tryz.prog W = .ok (.tuple #[.int .i64 0, .bool false]) W := by
  obtain ⟨_, _, _, E, f, hE, hG, hI⟩ := hO
  rcases look_at hE hG hk W hW with ⟨_, h⟩ | ⟨n, h1, _⟩
  · exact h
  · obtain ⟨sl, hsl, hsk⟩ := hI.key _ _ h1
    exact absurd hsk (ha sl (List.mem_of_getElem? hsl))
end Go.Proofs.YtpbcmlnjiocmoaaGreatDoorR
namespace Go.Proofs.YtpbcmlnjiocmoaaGreatDoorR
theorem setM_len (L : List Sl) (k v : V) : (setM L k v).length ≤ L.length + 1 := by
  unfold setM
  split
  · split <;> rw [List.length_set] <;> omega
  · split
    · omega
    · rw [List.length_append]
      have : (roomM L).length ≤ L.length := by
        unfold roomM
        split
        · exact List.length_filter_le _ _
        · exact Nat.le_refl _
      simp
      omega
end Go.Proofs.YtpbcmlnjiocmoaaGreatDoorR
namespace Go.Proofs
open Go.Shelf
open Go.RowKit in
/-- (*strings.Builder).Len: "Len returns the number of accumulated bytes; b.Len() == len(b.String()).": the world is as it was. (LAID: no walk: one application.) -/
theorem Tryz.Builder_Len (B b : Nat) (bs : List Value) (w : World) (h : Lib.IsBuilder 74 5 B b bs w) :
    Calls Tryz.prog 59 #[.pointer (some ⟨b, 0, none⟩)] w fun e w' => e = .returned (.int .i64 bs.length) ∧ w' = w := Any.Builder_Len Tryz.lays170 B b bs w h
open Go.RowKit in
/-- (*strings.Builder).String: "String returns the accumulated string.": WHATEVER THE BUILDER HOLDS. (LAID: no walk: one application.) -/
theorem Tryz.Builder_String_any (B b : Nat) (l : List UInt8) (w : World) (h : Lib.IsBuilder 74 5 B b (Lib.byteCells l) w) (hBw : B ≤ w.heap.size) :
    Calls Tryz.prog 35 #[.pointer (some ⟨b, 0, none⟩)] w fun e w' => e = .returned (.string ⟨l.toArray⟩) ∧ Below B w w' := Any.Builder_String_any Tryz.lays169 Tryz.Builder_Extra_169 B b l w h hBw
open Go.RowKit Go.Sort Go.Lib in
/-- strconv.Itoa: "Itoa is equivalent to FormatInt(int64(i), 10).": i's DECIMAL NUMERAL ('Lib.itoa': a '-' where i is negative, then the digits), FOR EVERY int. The world behind the call: the world before it, new blocks behind the heap (the library's 'var a [24]byte'), draws. (LAID: no walk: one application.) -/
theorem Tryz.strconv_Itoa (n : Int) (h0 : -9223372036854775808 ≤ n) (h1 : n ≤ 9223372036854775807) (w : World) (htab : Lib.TabIs Tryz.prog w "internal/strconv.uint64pow10" .u64 Lib.pow10Tab) :
    Calls Tryz.prog 58 #[.int .i64 n] w fun e w' => e = .returned (.string ⟨(Lib.itoa n).toArray⟩) ∧ ∃ k os, w' = grow (w.drewN k) os := Any.strconv_Itoa Tryz.laysM171 n h0 h1 w htab
open Go.RowKit Go.Lib in
/-- strings.TrimPrefix: "TrimPrefix returns s without the provided leading prefix string. If s doesn't start with prefix, s is returned unchanged.": IT RETURNS 'Lib.trimPrefix s prefix'; the world is as it was. (LAID: no walk: one application.) -/
theorem Tryz.strings_TrimPrefix (s p : ByteArray) (w : World) :
    Calls Tryz.prog 24 #[.string s, .string p] w fun e w' => e = .returned (.string ⟨(Lib.trimPrefix s.data.toList p.data.toList).toArray⟩) ∧ w' = w := Any.strings_TrimPrefix Tryz.lays101 s p w
end Go.Proofs
