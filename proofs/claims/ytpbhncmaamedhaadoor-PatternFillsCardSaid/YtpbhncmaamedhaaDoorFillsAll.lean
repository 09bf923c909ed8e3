/- What is proved: PatternFills returns true for all strings s and repl and every match m, in any memory, and leaves its arguments as they were; conditions: none of its own (the card's own laid tables). -/
import Derived.Test.YtpbhncmaamedhaaDoorRFillC
import Derived.Test.YtpbhncmaamedhaaDoorAwB
import Derived.Test.YtpbhncmaamedhaaDoorCardA
import Derived.Test.YtpbhncmaamedhaaDoorCards
import Derived.Test.YtpbhncmaamedhaaDoorTie
import Derived.SevenTiedAt
import Derived.ChangeMaps5
import Derived.Carry
namespace Go.Proofs.YtpbhncmaamedhaaDoor
open Go.RowKit Go.Proofs.Lexi

/-! PatternFills (6). -/
set_option maxRecDepth 100000 in
set_option maxHeartbeats 4000000 in
theorem fills_law (s repl : ByteArray) (f t : Int) (u : Value) (caps : List (Int × Int)) (w : World) (ht : Tab w) (hu : CapsR w u caps) : Calls Tryd.prog 6 #[.string s, .string repl, .agg #[.int .i64 f, .int .i64 t, u]] w (ExT w) := by
  obtain ⟨ao, cap, rfl, hcc⟩ := hu
  have HU := Lib.hid (show CapsR w (.slice ao caps.length cap) caps from ⟨ao, cap, rfl, hcc⟩)
  have HT := Lib.hid ht
  have HBOX := Lib.hid (show Below w.heap.size w (w.alloc (.cells #[.int .i64 f, .int .i64 t, .slice ao caps.length cap] 29)) from (Below.refl _ _).alloc (Nat.le_refl _) _)
  have HNEW := Lib.hid (heap_new w (.cells #[.int .i64 f, .int .i64 t, .slice ao caps.length cap] 29))
  have AW := Lib.hid (fun W (h : Below w.heap.size w W) => awake_c W (ht.mono h (Nat.le_refl _)))
  have L := Lib.hid (large_c s repl (w.alloc (.cells #[.int .i64 f, .int .i64 t, .slice ao caps.length cap] 29)))
  clear hcc ht
  cases hl : largeM s repl with
  | true =>
    rw [hl] at L
    clear hl
    go_enter Tryd.func6, Tryd.ntmps6
    go_wp2_with fail
    refine L.out.mono ?_
    rintro e w1 ⟨rfl, rfl⟩
    go_wp2_with fail
    refine (AW.out _ HBOX.out).mono ?_
    rintro e w3 ⟨rfl, hb3⟩
    have HB3 := Lib.hid (HBOX.out.trans (hb3.mono HBOX.out.size))
    clear hb3
    go_wp2
    go_ret
    exact ⟨rfl, HB3.out⟩
  | false =>
    have h1 : s.size ≤ 5000 ∧ repl.size ≤ 600 := by unfold largeM at hl; simp at hl; omega
    obtain ⟨h1, h2⟩ := h1
    rw [hl] at L
    clear hl
    by_cases h40 : caps.length ≤ 40
    · have t40 : ¬ ((40 : Int) < (caps.length : Int)) := by omega
      obtain ⟨R, hR⟩ : ∃ R, R = fillM (bytesOf s) (bytesOf repl) ⟨f, t, caps⟩ := ⟨_, rfl⟩
      have F1 := Lib.hid (Fill_c s repl (by omega) (by omega) ⟨f, t, caps⟩ (.slice ao caps.length cap) (w.alloc (.cells #[.int .i64 f, .int .i64 t, .slice ao caps.length cap] 29)) (HU.out.mono HBOX.out (Nat.le_refl _)) (by show caps.length ≤ _; omega) (HT.out.mono HBOX.out (Nat.le_refl _)) R hR)
      have F2 := Lib.hid (fun W (h : Below w.heap.size w W) => rFill_c s repl (by omega) (by omega) ⟨f, t, caps⟩ (.slice ao caps.length cap) W (HU.out.mono h (Nat.le_refl _)) (by show caps.length ≤ _; omega) R hR)
      clear hR
      cases R with
      | error c =>
        go_enter Tryd.func6, Tryd.ntmps6
        go_wp2_with fail
        refine L.out.mono ?_
        rintro e w1 ⟨rfl, rfl⟩
        go_wp2_with fail
        refine F1.out.mono ?_
        rintro e w1 ⟨hb1, rfl⟩
        have hsz := hb1.size
        simp only [World.size_alloc] at hsz
        have hcell := (hb1.block w.heap.size (by simp)).trans HNEW.out
        have b0 : w1.cell? ⟨w.heap.size, 0, none⟩ = some (.int .i64 f) := by rw [cell_of_heap hcell]; rfl
        have b1 : w1.cell? ⟨w.heap.size, 1, none⟩ = some (.int .i64 t) := by rw [cell_of_heap hcell]; rfl
        have b2 : w1.cell? ⟨w.heap.size, 2, none⟩ = some (.slice ao caps.length cap) := by rw [cell_of_heap hcell]; rfl
        have HB1 := Lib.hid (HBOX.out.trans (hb1.mono HBOX.out.size))
        clear hb1 hcell
        go_wp2_with fail
        refine (F2.out _ HB1.out).mono ?_
        rintro e w2 ⟨hb2, rfl⟩
        have HB2 := Lib.hid (HB1.out.trans (hb2.mono HB1.out.size))
        clear hb2
        go_wp2_with fail
        refine (AW.out _ HB2.out).mono ?_
        rintro e w3 ⟨rfl, hb3⟩
        have HB3 := Lib.hid (HB2.out.trans (hb3.mono HB2.out.size))
        clear hb3
        go_wp2
        go_ret
        exact ⟨rfl, HB3.out⟩
      | ok l =>
        go_enter Tryd.func6, Tryd.ntmps6
        go_wp2_with fail
        refine L.out.mono ?_
        rintro e w1 ⟨rfl, rfl⟩
        go_wp2_with fail
        refine F1.out.mono ?_
        rintro e w1 ⟨hb1, r1, hr1, rfl⟩
        have hsz := hb1.size
        simp only [World.size_alloc] at hsz
        have hcell := (hb1.block w.heap.size (by simp)).trans HNEW.out
        have b0 : w1.cell? ⟨w.heap.size, 0, none⟩ = some (.int .i64 f) := by rw [cell_of_heap hcell]; rfl
        have b1 : w1.cell? ⟨w.heap.size, 1, none⟩ = some (.int .i64 t) := by rw [cell_of_heap hcell]; rfl
        have b2 : w1.cell? ⟨w.heap.size, 2, none⟩ = some (.slice ao caps.length cap) := by rw [cell_of_heap hcell]; rfl
        have HB1 := Lib.hid (HBOX.out.trans (hb1.mono HBOX.out.size))
        have HR1 := Lib.hid hr1
        clear hb1 hcell hr1
        go_wp2_with fail
        refine (F2.out _ HB1.out).mono ?_
        rintro e w2 ⟨hb2, r2, hr2, rfl⟩
        have hrr : r2 = r1 := bytesOf_inj (hr2.trans HR1.out.symm)
        subst hrr
        have HB2 := Lib.hid (HB1.out.trans (hb2.mono HB1.out.size))
        clear hb2 hr2
        go_wp2_with fail
        refine (AW.out _ HB2.out).mono ?_
        rintro e w3 ⟨rfl, hb3⟩
        have HB3 := Lib.hid (HB2.out.trans (hb3.mono HB2.out.size))
        clear hb3
        go_wp2
        go_ret
        exact ⟨rfl, HB3.out⟩
    · have t40 : ((40 : Int) < (caps.length : Int)) := by omega
      go_enter Tryd.func6, Tryd.ntmps6
      go_wp2_with fail
      refine L.out.mono ?_
      rintro e w1 ⟨rfl, rfl⟩
      go_wp2_with fail
      refine (AW.out _ HBOX.out).mono ?_
      rintro e w3 ⟨rfl, hb3⟩
      have HB3 := Lib.hid (HBOX.out.trans (hb3.mono HBOX.out.size))
      clear hb3
      go_wp2
      go_ret
      exact ⟨rfl, HB3.out⟩
end Go.Proofs.YtpbhncmaamedhaaDoor

namespace Go.Proofs.YtpbhncmaamedhaaDoor
open Go.ChangeShapes Go.WideShapes Go.ChangeAt Go.WideMaps Go.WideElems Go.RowKit Go.ChangeMaps

/-! A match that is handed in: its shape, its captures in memory. -/
section
variable {H : Type} {enc : TypeId × Value → H} {P : Program} {w : World} {base : Nat} {sp : Nat → Bool} {held : Bool}
theorem under_struct {t : TypeId} {l : List (TypeId × Nat)} (h : (match P.underlying t with | some (.struct fs) => decide (fs.toList.map (fun f => (f.type, f.offset)) = l) | _ => false) = true) : ∃ fs, P.underlying t = some (.struct fs) ∧ fs.toList.map (fun f => (f.type, f.offset)) = l := by
  split at h
  · rename_i fs hfs; exact ⟨fs, hfs, of_decide_eq_true h⟩
  · cases h
theorem trod_field {t : TypeId} {l : List (TypeId × Nat)} (hs : ∃ fs, P.underlying t = some (.struct fs) ∧ fs.toList.map (fun f => (f.type, f.offset)) = l) {fuel : Nat} {cs : List Value} {x : DataW H × List MemPlace} (h : DataW.trod enc P w base sp held fuel t cs = some x) :
    cs.length = P.cellsOf t ∧ ∃ n, ∀ (i : Nat) (ty : TypeId) (off : Nat), l[i]? = some (ty, off) → ∃ y, DataW.trod enc P w base sp held n ty ((cs.drop off).take (P.cellsOf ty)) = some y := by
  obtain ⟨fs, hf, rfl⟩ := hs
  obtain ⟨xs, n, _, _, hl, hlen, hx⟩ := DataW.trod_struct hf h
  refine ⟨hl, n, fun i ty off hi => ?_⟩
  rw [List.getElem?_map, Option.map_eq_some_iff] at hi
  obtain ⟨f, hf1, hf2⟩ := hi
  have hf1' : fs[i]? = some f := by simpa using hf1
  have := hx i f hf1'
  injection hf2 with e1 e2
  subst e1 e2
  have hi' : i < xs.length := by rw [hlen]; exact (Array.getElem?_eq_some_iff.1 hf1').1
  exact ⟨xs[i], by rw [this]; exact List.getElem?_eq_getElem hi'⟩
end
theorem Tryd.shape29 : ∃ fs, Tryd.prog.underlying 29 = some (.struct fs) ∧ fs.toList.map (fun f => (f.type, f.offset)) = [(3, 0), (3, 1), (27, 2)] := under_struct (by kernel_rfl)
theorem Tryd.shape43 : ∃ fs, Tryd.prog.underlying 43 = some (.struct fs) ∧ fs.toList.map (fun f => (f.type, f.offset)) = [(3, 0), (3, 1)] := under_struct (by kernel_rfl)
theorem Tryd.c29 : Tryd.prog.cellsOf 29 = 3 := by kernel_rfl
theorem Tryd.c27 : Tryd.prog.cellsOf 27 = 1 := by kernel_rfl
theorem Tryd.c43 : Tryd.prog.cellsOf 43 = 2 := by kernel_rfl
theorem Tryd.c3 : Tryd.prog.cellsOf 3 = 1 := by kernel_rfl
theorem Tryd.laidOut : laidOutB Tryd.prog = true := by kernel_rfl
theorem list_two {α : Type} {l : List α} (h : l.length = 2) : ∃ a b, l = [a, b] := by
  match l, h with
  | [a, b], _ => exact ⟨a, b, rfl⟩
theorem arr_three {α : Type} {l : Array α} (h : l.size = 3) : ∃ a b c, l = #[a, b, c] := by
  obtain ⟨l⟩ := l
  match l, h with
  | [a, b, c], _ => exact ⟨a, b, c, rfl⟩
def numV : Option Value → Int
  | some (.int _ n) => n
  | _ => 0
theorem open_cap {H : Type} {enc : TypeId × Value → H} {w : World} {sp : Nat → Bool} {fuel : Nat} {cs : List Value} {x : DataW H × List MemPlace} (h : DataW.trod enc Tryd.prog w 0 sp true fuel 43 cs = some x) : ∃ a b, cs = [.int .i64 a, .int .i64 b] := by
  obtain ⟨hl, n, hf⟩ := trod_field Tryd.shape43 h
  rw [Tryd.c43] at hl
  obtain ⟨y0, h0⟩ := hf 0 3 0 rfl
  obtain ⟨y1, h1⟩ := hf 1 3 1 rfl
  rw [Tryd.c3] at h0 h1
  obtain ⟨a, ha, _⟩ := DataW.trod_int Tryd.underlying3 h0
  obtain ⟨b, hb, _⟩ := DataW.trod_int Tryd.underlying3 h1
  obtain ⟨u, v, rfl⟩ := list_two hl
  simp at ha hb
  exact ⟨a, b, by rw [ha, hb]⟩
theorem cell_in {w : World} {a : Addr} {v : Value} (h : w.cell? a = some v) : a.block < w.heap.size := World.block_lt_of_cell? _ a h
set_option maxRecDepth 100000 in
theorem open_match {H : Type} {enc : TypeId × Value → H} {w : World} {sp : Nat → Bool} {b0 : Nat} {v : Value} {d : DataW H} {ps : List MemPlace} (hval : Value.okWide Tryd.prog w .any b0 29 v) (h : DataW.Trod enc Tryd.prog w 0 sp true 29 v d ps) :
    ∃ f t u caps, v = .agg #[.int .i64 f, .int .i64 t, u] ∧ CapsR w u caps := by
  obtain ⟨fs, hfs, _⟩ := Tryd.shape29
  obtain ⟨cs, rfl, hcs, _⟩ : ∃ cs, v = .agg cs ∧ cs.size = Tryd.prog.cellsOf 29 ∧ Row.okWide Tryd.prog w .any b0 29 cs := by
    unfold Value.okWide at hval
    rw [hfs] at hval
    exact hval
  obtain ⟨fuel, h⟩ := h
  obtain ⟨_, n, hf⟩ := trod_field Tryd.shape29 h
  obtain ⟨y0, h0⟩ := hf 0 3 0 rfl
  obtain ⟨y1, h1⟩ := hf 1 3 1 rfl
  obtain ⟨y2, h2⟩ := hf 2 27 2 rfl
  rw [Tryd.c3] at h0 h1
  rw [Tryd.c27] at h2
  rw [Tryd.c29] at hcs
  obtain ⟨a, ha, _⟩ := DataW.trod_int Tryd.underlying3 h0
  obtain ⟨b, hb, _⟩ := DataW.trod_int Tryd.underlying3 h1
  obtain ⟨u0, u1, u2, rfl⟩ := arr_three hcs
  simp [Value.cells] at ha hb
  subst ha hb
  refine ⟨a, b, u2, ?_⟩
  rcases DataW.trod_slice Tryd.underlying27 h2 with ⟨e, _⟩ | ⟨ad, len, cap, elems, rest, m, _, e, _, _, hlc, _, hel, hin, _⟩
  · simp [Value.cells] at e
    subst e
    exact ⟨[], rfl, ⟨none, 0, rfl, fun h => by cases h⟩⟩
  · simp [Value.cells] at e
    subst e
    refine ⟨(List.range len).map (fun i => (numV (w.cell? (ad.add (i * 2))), numV (w.cell? ((ad.add (i * 2)).add 1)))), rfl, some ad, cap, by simp, fun hpos => ?_⟩
    simp only [List.length_map, List.length_range] at hpos ⊢
    have each : ∀ i, i < len → ∃ x y, w.cell? (ad.add (i * 2)) = some (.int .i64 x) ∧ w.cell? ((ad.add (i * 2)).add 1) = some (.int .i64 y) := fun i hi => by
      have := hin i hi
      rw [List.getElem?_eq_getElem (by omega), Option.bind_eq_some_iff, Tryd.c43] at this
      obtain ⟨cs2, hc2, ht2⟩ := this
      obtain ⟨x, y, rfl⟩ := open_cap ht2
      obtain ⟨_, _, hcell⟩ := World.cells?_some hc2
      exact ⟨x, y, by have := hcell 0 (by omega); simpa [Addr.add] using this, by simpa using hcell 1 (by omega)⟩
    obtain ⟨g, o, spot⟩ := ad
    have hspot : spot = none := by
      obtain ⟨x, y, hx, _⟩ := each 0 hpos
      simpa [Addr.add] using World.cell?_spot hx
    subst hspot
    refine ⟨g, o, rfl, ?_, fun k hk => ?_⟩
    · obtain ⟨x, y, hx, _⟩ := each 0 hpos
      have := cell_in hx
      simpa [Addr.add] using this
    · obtain ⟨x, y, hx, hy⟩ := each k hk
      simp only [add_plain] at hx hy
      have e1 : ((List.range len).map (fun i => (numV (w.cell? ((⟨g, o, none⟩ : Addr).add (i * 2))), numV (w.cell? (((⟨g, o, none⟩ : Addr).add (i * 2)).add 1))))).getD k (0, 0) = (x, y) := by
        rw [List.getD_eq_getElem?_getD, List.getElem?_map, List.getElem?_range hk]
        simp only [Option.map_some, Option.getD_some, add_plain]
        rw [hx, hy]
        rfl
      rw [e1]
      exact ⟨hx, hy⟩

set_option maxRecDepth 100000 in
theorem fills_lifted (os : Os) (started : os.Started) (H : Type) (enc : TypeId × Value → H) :
    ReturnsInHanded {} Tryd.checked os 6 .any (fun w args => (Rows.patternFillsSpec.pre enc Tryd.prog Tryd.f6 [] false w args ∧ laidMetH Tryd.prog laidL w) ∧ sizedMet enc Tryd.prog Tryd.f6 (OpenSpec.ofChange Rows.patternFillsSpec) false w args)
      (Rows.patternFillsSpec.post enc Tryd.prog Tryd.f6 false true false false) := by
  refine returnsInHanded_of_change_and (C := Tryd.checked) (X := fun w _ => laidMetH Tryd.prog laidL w) (fun _ _ _ hh h => h.of_heap hh) Tryd.own started (by kernel_rfl) Tryd.func6
    (ChangeSpec.witness_shaped (enc := enc) (C := Tryd.checked) (os := os) (X := fun w _ => laidMetH Tryd.prog laidL w) false (World.doorLaid Tryd.prog 400 os) #[.string ⟨#[]⟩, .string ⟨#[]⟩, .agg #[.int .i64 0, .int .i64 0, .slice none 0 0]] 8 rfl (World.shaped_of_RefB (by kernel_rfl) (by kernel_rfl)) (by kernel_rfl) (by kernel_rfl) (by kernel_rfl) (door_met os _)) ?_
  intro W base args ds gs before hval0 hW _ _ hL _
  have hval : ∀ (j : Nat) t v, Tryd.f6.params[j]? = some t → args[j]? = some v → Value.okWide Tryd.prog W .any base t v := hval0
  have hW' := hW
  obtain ⟨p, q, hA0, hV, rfl, hfz, hnd⟩ := hW
  have hA : DataW.TrodAll enc Tryd.prog W 0 (fun _ => true) true Tryd.f6.params.toList args.toList ds p := hA0
  rw [Tryd.params6] at hA hval
  obtain ⟨v0, v1, v2, d0, d1, d2, p0, p1, p2, rfl, rfl, rfl, h0, h1, h2⟩ := trodAll_three hA
  obtain ⟨rfl, rfl⟩ := trodVars_none hV
  obtain ⟨s0, rfl, rfl, rfl, z0⟩ := open_string Tryd.underlying9 (hval 0 9 v0 rfl rfl) h0
  obtain ⟨s1, rfl, rfl, rfl, z1⟩ := open_string Tryd.underlying9 (hval 1 9 v1 rfl rfl) h1
  obtain ⟨f, t, u, caps, rfl, hu⟩ := open_match (hval 2 29 v2 rfl rfl) h2
  have ht := tab_of_laid hL
  clear hA0 hval0
  simp only [List.append_nil, List.nil_append] at hW'
  have hlt : ∀ x ∈ p2, x.block < W.heap.size := fun x hx => hW'.lt x hx
  refine (fills_law s0 s1 f t u caps W ht hu).mono fun e W' ⟨he, hw⟩ => ?_
  subst he
  refine ⟨_, rfl, ?_⟩
  exact post_of_below (pa := p2) (pv := []) hW' (fun _ _ _ => trodAll_mk1 (shut_bool Tryd.underlying4 _)) (fun sp hsp => trodAll_mk3 (shut_string Tryd.underlying9 z0) (shut_string Tryd.underlying9 z1) (Trod_stays Tryd.laidOut (by kernel_rfl) (of_decide_eq_true (by kernel_rfl)) h2 (fun x hx => hw.same (hlt x hx)) (fun x hx => hsp x hx))) (fun _ _ => rfl) (by simp) hw (ok_one (by kernel_rfl) rfl (okWide_bool_mk Tryd.underlying4 _))
theorem fills_row : Rows.PatternFillsSaid :=
  OpenClaim.holds_of_wide 6 Tryd.f6 rfl rfl rfl rfl rfl rfl rfl ⟨rfl, rfl, rfl, rfl, rfl⟩ rfl rfl rfl rfl rfl (by kernel_rfl) Tryd.func6 (by kernel_rfl)
    (of_decide_eq_true (by kernel_rfl)) (by unfold Func.isWrapper; first | (rw [if_pos (by decide +kernel)]; kernel_rfl) | (rw [if_neg (by decide +kernel)]; exact ⟨rfl, rfl⟩))
    (fun os started H enc _ => fills_lifted os started H enc)
theorem fills_holds : Rows.PatternFillsCardSaid :=
  Claim7.holds_tied_plain_at .later [] [.data, .data, .data] true (true, "ce5b4aa2b685b730abb4eac6a722299a5631a24b289441cbc27f6825bb6d57fc") false
    fills_row (fun _ h => by cases h) (by kernel_rfl) (fun _ h => by cases h) patternFills_row_tie rfl ⟨rfl, rfl⟩ (by kernel_rfl) rfl
    (fun f fn hf hfn => by
      obtain rfl : f = 6 := Option.some.inj ((show Tryd.prog.funcNamed "scripting/scriptinglaw04.PatternFills" = some 6 by kernel_rfl).symm.trans hf) |>.symm
      obtain rfl : fn = Tryd.f6 := (Option.some.inj (Tryd.func6.symm.trans hfn)).symm
      exact ⟨by kernel_rfl, fun j t ht => by
        rw [Tryd.params6] at ht
        have hm : t ∈ [9, 9, 29] := by simpa using Array.mem_of_getElem? ht
        have hall : ([9, 9, 29].all fun u => !Tryd.prog.wantsStandIn u) = true := by kernel_rfl
        exact (show Tryd.prog.wantsStandIn t = false by simpa using List.all_eq_true.1 hall t hm)⟩)
    (by kernel_rfl)
#print axioms fills_holds
end Go.Proofs.YtpbhncmaamedhaaDoor
