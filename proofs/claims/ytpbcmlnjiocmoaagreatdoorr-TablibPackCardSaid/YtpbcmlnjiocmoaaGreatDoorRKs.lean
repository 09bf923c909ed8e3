import Derived.Test.YtpbcmlnjiocmoaaGreatDoorRKd
set_option linter.unusedVariables false
set_option linter.unusedSimpArgs false
set_option maxRecDepth 100000
set_option maxHeartbeats 40000000
namespace Go.Proofs.YtpbcmlnjiocmoaaGreatDoorR
open Go.RowKit Go.Proofs.Lexi
set_option maxRecDepth 100000 in
set_option maxHeartbeats 2000000 in
theorem kLarge_c (w : World) (so : Option Addr) (cap : Nat) (l : List (V × Int)) (hS : SpecsAt w so l) (hl : l.length ≤ 1000) :
    Calls Tryz.prog 19 #[.slice none 0 0, .slice so l.length cap] w (fun e w' => ∃ b, e = .returned (.bool b) ∧ Below w.heap.size w w') := by
  have HS := Lib.hid (hS)
  clear hS
  go_enter Tryz.func19, Tryz.ntmps19
  go_wp2
  go_loopg [1, 5] 0 (fun gg s1 s5 wr => gg = 0 ∧ s1 = .slice so l.length cap ∧ s5 = .int .i64 0 ∧ Hid (Below w.heap.size w wr))
  case atStart => exact ⟨rfl, rfl, rfl, Below.refl _ _⟩
  case round =>
    obtain ⟨-, rfl, rfl, HB0⟩ := hrel
    go_wp2
    go_loopg [6] l.length (fun gg s6 wr => ∃ i, i + gg = l.length ∧ s6 = .int .i64 (i : Int) ∧ Hid (Below w.heap.size w wr))
    case atStart => exact ⟨0, by omega, rfl, HB0⟩
    case round =>
      obtain ⟨i, hi, rfl, HB⟩ := hrel
      by_cases hlt : i < l.length
      · have d3 : decide ((i : Int) < (l.length : Int)) = true := decide_eq_true (by omega)
        obtain ⟨x, hx⟩ : ∃ x, l[i]? = some x := ⟨_, List.getElem?_eq_getElem hlt⟩
        obtain ⟨g, og, rfl, hc⟩ := HS.out.resolve_left (fun e => by rw [e] at hlt; simp at hlt)
        have c3 : wr.cell? ⟨g, og + i * 6 + 3, none⟩ = some (.string x.1.s) := keepCell HB.out (hc i x hx 3 _ rfl)
        have hgl : g < wr.heap.size := World.block_lt_of_cell? _ _ c3
        clear hc hx
        obtain ⟨⟨xk, xp, xq, xs, xr⟩, xo⟩ := x
        simp only at c3
        rcases Bool.eq_false_or_eq_true (decide ((xs.size : Int) > 5000)) with d4 | d4
        · go_wp2
          go_ret
          exact ⟨true, rfl, HB.out⟩
        · go_wp2
          go_roundg (l.length - (i + 1))
          case measure => omega
          case rel => exact ⟨i + 1, by omega, by push_cast; rfl, HB⟩
      · have hii : i = l.length := by omega
        subst hii
        have d3 : decide ((l.length : Int) < (l.length : Int)) = false := decide_eq_false (by omega)
        go_wp2
        go_ret
        exact ⟨false, rfl, HB.out⟩
set_option maxRecDepth 100000 in
set_option maxHeartbeats 40000000 in
theorem pack_law (w : World) (htab : Pow10 w) (so : Option Addr) (cap : Nat) (l : List (V × Int)) (hS : SpecsAt w so l) (hl : l.length ≤ 250) (hW : ∀ y ∈ l, WfV y.1) :
    Calls Tryz.prog 6 #[.slice so l.length cap] w (BoolPost w true) := by
  have HLV := Lib.hid (fun W (hb : Below w.heap.size w W) => lives_c W (htab.stays hb))
  have HNU := Lib.hid (fun W x => kNum_c W x)
  have HST := Lib.hid (fun W x => kStr_c W x)
  have HVA := Lib.hid (fun W k p q s r b (hb : validV ⟨k, p, q, s, r⟩ = b) => (hb ▸ svalidV_c W k p q s r : Calls Tryz.prog 20 #[.agg #[.int .i64 k, .int .i64 p, .int .i64 q, .string s, .int .i64 r]] W (BoolPost W b)))
  have HLa := Lib.hid (fun W (hb : Below w.heap.size w W) => kLarge_c W so cap l (hS.below hb) (by omega))
  have HS := Lib.hid (hS)
  have HWf := Lib.hid (hW)
  have d1 : decide ((l.length : Int) > 250) = false := decide_eq_false (by omega)
  clear htab hS hW
  go_enter Tryz.func6, Tryz.ntmps6
  go_wp2_with fail
  refine (pNew_c _).mono ?_
  rintro e w1 ⟨h, rfl, hP1, hb1⟩
  have HP1 := Lib.hid (hP1)
  have HW1 := Lib.hid (hb1)
  have hz1 := hb1.size
  clear hP1 hb1
  go_wp2_with fail
  refine (HLa.out _ HW1.out).mono ?_
  rintro e w2 ⟨b, rfl, hb⟩
  have HP2 := Lib.hid (HP1.out.below hb)
  have HW2 := Lib.hid (below_next HW1.out hb)
  have hz2 := HW2.out.size
  clear hb
  cases b
  case true =>
    go_wp2_with fail
    refine (HLV.out _ HW2.out).mono ?_
    rintro e w3 ⟨rfl, hb⟩
    have HB3 := Lib.hid (below_next HW2.out hb)
    clear hb
    go_wp2
    go_ret
    exact bool_done rfl HB3.out
  case false =>
    go_wp2
    go_loopg [4, 5] l.length (fun gg s4 s5 wr => ∃ i so2 cap2, i + gg = l.length ∧ s5 = .int .i64 (i : Int) ∧ s4 = .slice so2 i cap2 ∧ Hid (LpS w2 l i (.slice so2 i cap2) wr))
    case atStart => exact ⟨0, none, 0, by omega, rfl, rfl, World.ownsRow_nil _ _ _ _, Below.refl _ _, fun y hy => by cases hy⟩
    case round =>
      obtain ⟨i, so2, cap2, hi, rfl, rfl, HR⟩ := hrel
      have HRo := Lib.hid (HR.out.1)
      have HB := Lib.hid (HR.out.2.1)
      have HVs := Lib.hid (HR.out.2.2)
      have hzr := HB.out.size
      clear HR
      by_cases hlt : i < l.length
      · have d3 : decide ((i : Int) < (l.length : Int)) = true := decide_eq_true (by omega)
        obtain ⟨x, hx⟩ : ∃ x, l[i]? = some x := ⟨_, List.getElem?_eq_getElem hlt⟩
        obtain ⟨gs, og, rfl, hcells⟩ := HS.out.resolve_left (fun e => by rw [e] at hlt; simp at hlt)
        have hbr := below_next HW2.out HB.out
        obtain ⟨⟨k, p, q, s, r⟩, xo⟩ := x
        have c0 : wr.cell? ⟨gs, og + i * 6, none⟩ = some (.int .i64 k) := keepCell hbr (hcells i _ hx 0 _ rfl)
        have c1 : wr.cell? ⟨gs, og + i * 6 + 1, none⟩ = some (.int .i64 p) := keepCell hbr (hcells i _ hx 1 _ rfl)
        have c2 : wr.cell? ⟨gs, og + i * 6 + 2, none⟩ = some (.int .i64 q) := keepCell hbr (hcells i _ hx 2 _ rfl)
        have c3 : wr.cell? ⟨gs, og + i * 6 + 3, none⟩ = some (.string s) := keepCell hbr (hcells i _ hx 3 _ rfl)
        have c4 : wr.cell? ⟨gs, og + i * 6 + 4, none⟩ = some (.int .i64 r) := keepCell hbr (hcells i _ hx 4 _ rfl)
        have hgs : gs < wr.heap.size := World.block_lt_of_cell? _ _ c0
        have HC := Lib.hid (fun (W : World) (hb : Below wr.heap.size wr W) => And.intro (keepCell hb c0) (And.intro (keepCell hb c1) (And.intro (keepCell hb c2) (And.intro (keepCell hb c3) (keepCell hb c4)))))
        have HX := Lib.hid (hx)
        have HBr := Lib.hid (hbr)
        clear hcells hbr hx
        rcases Bool.eq_false_or_eq_true (validV ⟨k, p, q, s, r⟩) with hv | hv
        case inr =>
          have HVX := Lib.hid (HVA.out wr k p q s r false hv)
          clear hv
          go_wp2_with fail
          refine HVX.out.mono ?_
          rintro e w3 ⟨rfl, hb⟩
          have HB3 := Lib.hid (below_next HBr.out hb)
          clear hb c0 c1 c2 c3 c4
          go_wp2_with fail
          refine (HLV.out _ HB3.out).mono ?_
          rintro e w4 ⟨rfl, hb⟩
          have HB4 := Lib.hid (below_next HB3.out hb)
          clear hb
          go_wp2
          go_ret
          exact bool_done rfl HB4.out
        case inl =>
          have HVX := Lib.hid (HVA.out wr k p q s r true hv)
          have HV := Lib.hid (hv)
          clear hv
          go_wp2_with fail
          refine HVX.out.mono ?_
          rintro e w3 ⟨rfl, hb⟩
          have HB3 := Lib.hid (below_next HBr.out hb)
          have HRo3 := Lib.hid (ownsRow_ext (below_ext hb (Nat.le_refl _)) HRo.out)
          have HBL3 := Lib.hid (below_next HB.out hb)
          have hz3 := hb.size
          clear c0 c1 c2 c3 c4
          obtain ⟨c0, c1, c2, c3, c4⟩ := HC.out w3 hb
          clear hb
          have hgs3 : gs < w3.heap.size := by omega
          by_cases hbad : 4 ≤ k ∧ k ≠ 6
          · have d5 : decide (k ≥ 4) = true := decide_eq_true hbad.1
            have d6 : (k != 6) = true := bne_iff_ne.2 hbad.2
            go_wp2_with fail
            refine (HLV.out _ HB3.out).mono ?_
            rintro e w5 ⟨rfl, hb⟩
            have HB4 := Lib.hid (below_next HB3.out hb)
            clear hb
            go_wp2
            go_ret
            exact bool_done rfl HB4.out
          · have hk : decide (k ≥ 4) = true ∧ (k != 6) = false ∨ decide (k ≥ 4) = false := by
              by_cases h4 : 4 ≤ k
              · exact .inl ⟨decide_eq_true h4, bne_eq_false_iff_eq.2 (Classical.byContradiction fun h => hbad ⟨h4, h⟩)⟩
              · exact .inr (decide_eq_false (by omega))
            clear hbad
            rcases hk with ⟨d5, d6⟩ | d5
            all_goals
              rcases Bool.eq_false_or_eq_true (decide ((s.size : Int) > 4096)) with d7 | d7
              case inl =>
                go_wp2_with fail
                refine (HLV.out _ HB3.out).mono ?_
                rintro e w5 ⟨rfl, hb⟩
                have HB4 := Lib.hid (below_next HB3.out hb)
                clear hb
                go_wp2
                go_ret
                exact bool_done rfl HB4.out
              case inr =>
                go_wp2_with (at_builtin; refine wpList_append_vals rfl (.tmp 69) (.tmp 75) rfl w2.heap.size (.slice so2 i cap2) i _ rfl (ownsRow_ext (below_ext (below1 _ _) (Nat.le_refl _)) HRo3.out) _ [⟨k, p, q, s, r⟩] rfl (vals_one _ ⟨k, p, q, s, r⟩) (by simp; omega) (by simp; omega) ?_)
                intro so5 cap5 w5 hown hgrow
                have HO5 := Lib.hid (hown)
                have HB5 := Lib.hid (below_grown (HBL3.out.alloc HBL3.out.size _) hgrow (by simp; omega) (fun b hb => (ownBlock_lt HRo3.out hb).1))
                clear hown hgrow
                go_wp2
                go_roundg (l.length - (i + 1))
                case measure => omega
                case rel =>
                  have hsn : (l.map Prod.fst).take (i + 1) = (l.map Prod.fst).take i ++ [⟨k, p, q, s, r⟩] := by rw [List.take_add_one, List.getElem?_map, HX.out]; rfl
                  refine ⟨i + 1, so5, cap5, by omega, by push_cast; rfl, rfl, ?_, HB5.out, ?_⟩
                  · rw [hsn, rowV_append]
                    exact HO5.out
                  · rw [hsn]
                    intro y hy
                    rcases List.mem_append.1 hy with hy | hy
                    · exact HVs.out y hy
                    · rw [List.mem_singleton] at hy
                      subst hy
                      exact HV.out
      · have hii : i = l.length := by omega
        subst hii
        have d3 : decide ((l.length : Int) < (l.length : Int)) = false := decide_eq_false (by omega)
        obtain ⟨vs, hvs⟩ : ∃ vs, vs = l.map Prod.fst := ⟨_, rfl⟩
        have hvl : vs.length = l.length := by rw [hvs, List.length_map]
        have hVV : ∀ v ∈ vs, validV v = true ∧ WfV v := fun v hv => ⟨HVs.out v (by rw [← hvs, List.take_of_length_le (by omega)]; exact hv), by rw [hvs] at hv; obtain ⟨y, hy, rfl⟩ := List.mem_map.1 hv; exact HWf.out y hy⟩
        have HBr := Lib.hid (below_next HW2.out HB.out)
        have hrow : wr.ownsRow w2.heap.size 30 5 (.slice so2 l.length cap2) vs.length (rowV vs) := by have := HRo.out; rw [← hvs, List.take_of_length_le (by omega)] at this; rwa [hvl]
        rw [← hvl] at hrow
        obtain ⟨g5, cs5, hG5⟩ : ∃ g5 cs5, vs = [] ∨ (∃ o, so2 = some ⟨g5, o, none⟩) ∧ Held wr (fun _ => False) g5 (.cells cs5 30) := by
          rcases hrow.2 with ⟨_, e⟩ | ⟨g, cap', cur, e, _, hg, _⟩
          · exact ⟨0, #[], .inl (List.eq_nil_of_length_eq_zero e)⟩
          · injection e with e _ _
            exact ⟨g, cur, .inr ⟨⟨0, e⟩, hg, fun h => h⟩⟩
        have hpk := pack_begin wr h vs (HP2.out.below HB.out) (by omega) (by omega) rfl (by simp) so2 cap2 (Vals.of_row hrow) g5 cs5 hG5 hVV (by omega)

        have HPK := Lib.hid ((show Calls Tryz.prog 12 #[.pointer (some ⟨h, 0, none⟩), .string ⟨#[116, 97, 98, 108, 101, 46, 112, 97, 99, 107]⟩, .slice so2 l.length cap2] wr (fun e w' => ∃ so3 cap3 sk3 ck3 O', e = .returned (.agg #[.int .i64 1, .int .i64 0, .int .i64 0, .int .i64 0, .int .i64 0, .string ⟨#[]⟩, .int .i64 0, .slice so3 1 cap3, .string ⟨#[]⟩, .int .i64 0, .int .i64 0, .slice sk3 0 ck3]) ∧ w'.ownsRow wr.heap.size 30 5 (.slice so3 1 cap3) 1 (rowV [⟨4, 0, 0, ⟨#[]⟩, 1⟩]) ∧ PHp w.heap.size (0 + l.length + 1) w' h [⟨4, V.nil, pkE vs⟩] [vs.take (fstNil vs)] O' ∧ QS w.heap.size (fun _ => False) wr O' w') from by rw [hvl] at hpk; exact hpk.mono (fun e w' ⟨so3, cap3, sk3, ck3, O', he, hr, hk, hP, hq, _⟩ => ⟨so3, cap3, sk3, ck3, O', he, hr, hP, hq⟩)))
        have HVV := Lib.hid (hVV)
        have HVR := Lib.hid (Vals.of_row hrow)
        clear hpk hVV hvs hrow
        go_wp2_with fail
        refine HPK.out.mono ?_
        rintro e w7 ⟨so3, cap3, sk3, ck3, O7, rfl, hr, hP7, hq7⟩
        obtain ⟨g3, rfl, hg3, hc3, hrw⟩ := row_one hr
        have HRW := Lib.hid (hrw)
        have HP7 := Lib.hid (hP7)
        have HB7 := Lib.hid (HBr.out.trans (hq7.below (by omega)))
        have HG7 := Lib.hid ((show vs = [] ∨ (∃ o, so2 = some ⟨g5, o, none⟩) ∧ Held wr (fun _ => False) g5 (.cells cs5 30) ∧ Held w7 O7 g5 (.cells cs5 30) from hG5.imp id (fun h => ⟨h.1, h.2, h.2.qs hq7 (npb (by decide))⟩)))
        have hz7 := HB7.out.size
        clear hr hP7 hq7 hrw hG5
        obtain ⟨W8, hW8⟩ : ∃ W8, W8 = w7.alloc (.cells #[.int .i64 1, .int .i64 0, .int .i64 0, .int .i64 0, .int .i64 0, .string ⟨#[]⟩, .int .i64 0, .slice (some ⟨g3, 0, none⟩) 1 cap3, .string ⟨#[]⟩, .int .i64 0, .int .i64 0, .slice sk3 0 ck3] 35) := ⟨_, rfl⟩
        have HB8 := Lib.hid ((show Below w7.heap.size w7 W8 by rw [hW8]; exact below1 _ _))
        have HN8 := Lib.hid ((show W8.heap[w7.heap.size]? = some (.cells #[.int .i64 1, .int .i64 0, .int .i64 0, .int .i64 0, .int .i64 0, .string ⟨#[]⟩, .int .i64 0, .slice (some ⟨g3, 0, none⟩) 1 cap3, .string ⟨#[]⟩, .int .i64 0, .int .i64 0, .slice sk3 0 ck3] 35) by rw [hW8]; exact heap1 _ _))
        have HP8 := Lib.hid (HP7.out.below HB8.out)
        have HRW8 := Lib.hid (fun (W : World) (hb : Below W8.heap.size W8 W) => HRW.out W (below_next HB8.out hb))
        have hn8 := (Array.getElem?_eq_some_iff.1 HN8.out).1
        have hg38 : g3 < W8.heap.size := by omega
        obtain ⟨r0, r1, r2, r3, r4⟩ := HRW8.out W8 (Below.refl _ _)
        simp only at r0 r1 r2 r3 r4
        obtain ⟨n0, n1, n2, n3, n4, n5, n6, n7, n8, n9, n10, n11⟩ := cells12 HN8.out
        obtain ⟨fn0, fn1, fn2, fn3, fn4, fn5, fn6, fn7, fn8, fn9, fn10, fn11⟩ := froz12 HN8.out
        go_upto_region 12 with fail
        try rw [show w7.alloc (.cells #[.int .i64 1, .int .i64 0, .int .i64 0, .int .i64 0, .int .i64 0, .string ⟨#[]⟩, .int .i64 0, .slice (some ⟨g3, 0, none⟩) 1 cap3, .string ⟨#[]⟩, .int .i64 0, .int .i64 0, .slice sk3 0 ck3] 35) = W8 from hW8.symm]
        clear hW8
        go_upto_region 14 with fail
        clear n0 n1 n2 n3 n4 n5 n6 n7 n8 n9 n10 n11 fn0 fn1 fn2 fn3 fn4 fn5 fn6 fn7 fn8 fn9 fn10 fn11 r0 r1 r2 r3 r4
        have HGN := Lib.hid (fun (W : World) (hb : Below W8.heap.size W8 W) => (show Calls Tryz.prog 21 #[.pointer (some ⟨h, 0, none⟩), .agg #[.int .i64 4, .int .i64 0, .int .i64 0, .string ⟨#[]⟩, .int .i64 1], .agg #[.int .i64 3, .int .i64 0, .int .i64 0, .string ⟨#[110]⟩, .int .i64 0]] W (fun e w' => e = .returned (.tuple #[.agg #[.int .i64 2, .int .i64 (l.length : Int), .int .i64 1, .string ⟨#[]⟩, .int .i64 0], .int .i64 0]) ∧ Below W.heap.size W w') from by have := getN_c (HP8.out.below hb) (by omega) (ti := 0) (by decide) vs rfl rfl; rw [hvl] at this; exact this))
        have SO := Lib.hid (fun (W : World) (hb : Below W8.heap.size W8 W) => (show W.cell? ⟨w7.heap.size, 7, none⟩ = some (.slice (some ⟨g3, 0, none⟩) 1 cap3) ∧ W.cell? ⟨g3, 0, none⟩ = some (.int .i64 4) ∧ W.cell? ⟨g3, 1, none⟩ = some (.int .i64 0) ∧ W.cell? ⟨g3, 2, none⟩ = some (.int .i64 0) ∧ W.cell? ⟨g3, 3, none⟩ = some (.string ⟨#[]⟩) ∧ W.cell? ⟨g3, 4, none⟩ = some (.int .i64 1) from ⟨((cells12 (hkeep hb HN8.out))).2.2.2.2.2.2.2.1, ((HRW8.out W hb)).1, ((HRW8.out W hb)).2.1, ((HRW8.out W hb)).2.2.1, ((HRW8.out W hb)).2.2.2.1, ((HRW8.out W hb)).2.2.2.2⟩))
        apply wp_region_boxes mixed (by kernel_rfl)
        iterate 5 (apply WalkG.take; (focus (intro p e W oo hI hH hN hF; refine ⟨by rfl, ?_⟩; obtain ⟨xc0, xc1, xc2, xc3, xc4, xc5⟩ := SO.out W hI; go_simp; (try with_reducible rfl))); (try simp only [Act.put, List.setIfInBounds_toArray, List.set_cons_zero, List.set_cons_succ, List.length_append, List.length_cons, List.length_nil, Nat.zero_add, Nat.reduceAdd]))
        (apply WalkG.val; (focus (intro p e W oo hI hH hN hF K hK; obtain ⟨xc0, xc1, xc2, xc3, xc4, xc5⟩ := SO.out W hI; go_simp; (go_at_call 10; (with_reducible refine (HST.out _ _).mono ?_); rintro e1 w1 ⟨rfl, hb⟩); exact hK _ _ ⟨rfl, hb⟩)); (try simp only [Act.put, List.setIfInBounds_toArray, List.set_cons_zero, List.set_cons_succ, List.length_append, List.length_cons, List.length_nil, Nat.zero_add, Nat.reduceAdd]))
        (apply WalkG.val; (focus (intro p e W oo hI hH hN hF K hK; obtain ⟨xc0, xc1, xc2, xc3, xc4, xc5⟩ := SO.out W hI; go_simp; (go_at_call 21; (with_reducible refine (HGN.out _ hI).mono ?_); rintro e1 w1 ⟨rfl, hb⟩); exact hK _ _ ⟨rfl, hb⟩)); (try simp only [Act.put, List.setIfInBounds_toArray, List.set_cons_zero, List.set_cons_succ, List.length_append, List.length_cons, List.length_nil, Nat.zero_add, Nat.reduceAdd]))
        iterate 3 (apply WalkG.take; (focus (intro p e W oo hI hH hN hF; refine ⟨by rfl, ?_⟩; obtain ⟨xc0, xc1, xc2, xc3, xc4, xc5⟩ := SO.out W hI; go_simp; (try with_reducible rfl))); (try simp only [Act.put, List.setIfInBounds_toArray, List.set_cons_zero, List.set_cons_succ, List.length_append, List.length_cons, List.length_nil, Nat.zero_add, Nat.reduceAdd]))
        (apply WalkG.box (fun n => .pointer (some ⟨n, 0, none⟩)) (oV 0 0 0 ⟨#[]⟩ 0); (focus (intro p e W oo hI K hK; go_simp; exact hK _ _ ⟨rfl, rfl⟩)); (focus exact trivial); (try simp only [Act.put, List.setIfInBounds_toArray, List.set_cons_zero, List.set_cons_succ, List.length_append, List.length_cons, List.length_nil, Nat.zero_add, Nat.reduceAdd]))
        (apply WalkG.sto 10 (fun n => .pointer (some ⟨n, 0, none⟩)) (oV 0 0 0 ⟨#[]⟩ 0) (fun _ => (oV 2 (l.length : Int) 1 ⟨#[]⟩ 0)) false (by kernel_rfl) (fun _ _ _ => rfl) (fun _ => trivial); (focus (intro p e W oo hI hH hB K hK; ((obtain ⟨q0, q1, q2, q3, q4⟩ := cells5 hB); (obtain ⟨fq0, fq1, fq2, fq3, fq4⟩ := froz5 hB); go_simp; exact hK _ _ ⟨rfl, only_five hB _ _ _ _ _⟩))); (try simp only [Act.put, List.setIfInBounds_toArray, List.set_cons_zero, List.set_cons_succ, List.length_append, List.length_cons, List.length_nil, Nat.zero_add, Nat.reduceAdd]))
        iterate 1 (apply WalkG.take; (focus (intro p e W oo hI hH hN hF; refine ⟨by rfl, ?_⟩; obtain ⟨xc0, xc1, xc2, xc3, xc4, xc5⟩ := SO.out W hI; go_simp; (try with_reducible rfl))); (try simp only [Act.put, List.setIfInBounds_toArray, List.set_cons_zero, List.set_cons_succ, List.length_append, List.length_cons, List.length_nil, Nat.zero_add, Nat.reduceAdd]))
        apply WalkG.nil
        intro p e W9 hI hA hS hD
        rotate_left
        focus kernel_rfl
        focus kernel_rfl
        have hr7 := hS 11 10 (oV 0 0 0 ⟨#[]⟩ 0) (fun _ => (oV 2 (l.length : Int) 1 ⟨#[]⟩ 0)) false (by kernel_rfl)
        obtain ⟨b7, hb7⟩ : ∃ b, b = p 10 := ⟨_, rfl⟩
        rw [← hb7] at hr7
        try rw [← hb7]
        have HB9 := Lib.hid (hI)
        have H7 := Lib.hid (hr7.2.2)
        have HN9 := Lib.hid (hkeep HB9.out HN8.out)
        have HP9 := Lib.hid (HP8.out.below HB9.out)
        have HRW9 := Lib.hid (fun (W : World) (hb : Below W9.heap.size W9 W) => HRW8.out W (below_next HB9.out hb))
        have hz9 := HB9.out.size
        have h7l := (Array.getElem?_eq_some_iff.1 H7.out).1
        have hn9 := (Array.getElem?_eq_some_iff.1 HN9.out).1
        have hg39 : g3 < W9.heap.size := by omega
        clear hS hA hD hI hr7 hb7
        obtain ⟨kk, hkk⟩ : ∃ kk, kk = upK l.length := ⟨_, rfl⟩
        obtain ⟨ul, hul⟩ : ∃ ul, ul = upL l.length := ⟨_, rfl⟩
        obtain ⟨UA, hUA⟩ : ∃ UA, UA = upA vs := ⟨_, rfl⟩
        have HUB := Lib.hid (fun (W : World) (m : Nat) (hb : Below W9.heap.size W9 W) (hX : W.heap[m]? = some (.cells #[.int .i64 4, .int .i64 0, .int .i64 0, .string ⟨#[]⟩, .int .i64 1, .int .i64 2, .int .i64 1, .int .i64 1, .string ⟨#[]⟩, .int .i64 0, .int .i64 2, .int .i64 (l.length : Int), .int .i64 1, .string ⟨#[]⟩, .int .i64 0] 30)) => (show Calls Tryz.prog 12 #[.pointer (some ⟨h, 0, none⟩), .string ⟨#[116, 97, 98, 108, 101, 46, 117, 110, 112, 97, 99, 107]⟩, .slice (some ⟨m, 0, none⟩) 3 3] W (fun e w' => ∃ so9 cap9 sk9 ck9, e = .returned (.agg #[.int .i64 kk, .int .i64 0, .int .i64 0, .int .i64 0, .int .i64 0, .string ⟨#[]⟩, .int .i64 0, .slice so9 UA.length cap9, .string ⟨#[]⟩, .int .i64 ul, .int .i64 0, .slice sk9 0 ck9]) ∧ w'.ownsRow W.heap.size 30 5 (.slice so9 UA.length cap9) UA.length (rowV UA) ∧ w'.ownsRow W.heap.size 30 5 (.slice sk9 0 ck9) 0 (rowV []) ∧ Below W.heap.size W w') from by have hu := unpack_begin W h (HP9.out.below hb) (by omega) (ti := 0) (by decide) vs rfl rfl (by omega) HVV.out m 3 (by rw [hvl]; exact vals_block (A := [⟨4, 0, 0, ⟨#[]⟩, 1⟩, ⟨2, 1, 1, ⟨#[]⟩, 0⟩, ⟨2, (l.length : Int), 1, ⟨#[]⟩, 0⟩]) hX); unfold UnPost at hu; rw [hvl, ← hkk, ← hul, ← hUA] at hu; exact hu))
        have HKK := Lib.hid (hkk)
        have HUL := Lib.hid (hul)
        have HUA := Lib.hid (hUA)
        clear hkk hul hUA
        go_upto_region 15 with fail
        have SO := Lib.hid (fun (W : World) (hb : Below W9.heap.size W9 W) => (show W.cell? ⟨w7.heap.size, 7, none⟩ = some (.slice (some ⟨g3, 0, none⟩) 1 cap3) ∧ W.cell? ⟨g3, 0, none⟩ = some (.int .i64 4) ∧ W.cell? ⟨g3, 1, none⟩ = some (.int .i64 0) ∧ W.cell? ⟨g3, 2, none⟩ = some (.int .i64 0) ∧ W.cell? ⟨g3, 3, none⟩ = some (.string ⟨#[]⟩) ∧ W.cell? ⟨g3, 4, none⟩ = some (.int .i64 1) ∧ W.cell? ⟨b7, 0, none⟩ = some (.int .i64 2) ∧ W.cell? ⟨b7, 1, none⟩ = some (.int .i64 (l.length : Int)) ∧ W.cell? ⟨b7, 2, none⟩ = some (.int .i64 1) ∧ W.cell? ⟨b7, 3, none⟩ = some (.string ⟨#[]⟩) ∧ W.cell? ⟨b7, 4, none⟩ = some (.int .i64 0) from ⟨((cells12 (hkeep hb HN9.out))).2.2.2.2.2.2.2.1, ((HRW9.out W hb)).1, ((HRW9.out W hb)).2.1, ((HRW9.out W hb)).2.2.1, ((HRW9.out W hb)).2.2.2.1, ((HRW9.out W hb)).2.2.2.2, (cells5 (hkeep hb H7.out)).1, (cells5 (hkeep hb H7.out)).2.1, (cells5 (hkeep hb H7.out)).2.2.1, (cells5 (hkeep hb H7.out)).2.2.2.1, (cells5 (hkeep hb H7.out)).2.2.2.2⟩))
        apply wp_region_rows (X := RowsT) (ExT W9.heap.size UA []) (BlT UA []) 8 ((none, 0), (none, 0)) mixed (by kernel_rfl) (by kernel_rfl) exT_below exT_only exT_lt
        iterate 5 (apply WalkG.take; (focus (intro p e W oo hI hH hN hF; refine ⟨by rfl, ?_⟩; have hIb := irw_below hI; obtain ⟨xc0, xc1, xc2, xc3, xc4, xc5, xc6, xc7, xc8, xc9, xc10⟩ := SO.out W hIb; go_simp; (try with_reducible rfl))); (try simp only [Act.put, List.setIfInBounds_toArray, List.set_cons_zero, List.set_cons_succ, List.length_append, List.length_cons, List.length_nil, Nat.zero_add, Nat.reduceAdd]))
        (apply WalkG.val; (focus (intro p e W oo hI hH hN hF K hK; have hIb := irw_below hI; obtain ⟨xc0, xc1, xc2, xc3, xc4, xc5, xc6, xc7, xc8, xc9, xc10⟩ := SO.out W hIb; go_simp; (go_at_call 14; (with_reducible refine (HNU.out _ _).mono ?_); rintro e1 w1 ⟨rfl, hb⟩); exact hK _ _ ⟨rfl, hb⟩)); (try simp only [Act.put, List.setIfInBounds_toArray, List.set_cons_zero, List.set_cons_succ, List.length_append, List.length_cons, List.length_nil, Nat.zero_add, Nat.reduceAdd]))
        iterate 1 (apply WalkG.take; (focus (intro p e W oo hI hH hN hF; refine ⟨by rfl, ?_⟩; have hIb := irw_below hI; obtain ⟨xc0, xc1, xc2, xc3, xc4, xc5, xc6, xc7, xc8, xc9, xc10⟩ := SO.out W hIb; go_simp; (try with_reducible rfl))); (try simp only [Act.put, List.setIfInBounds_toArray, List.set_cons_zero, List.set_cons_succ, List.length_append, List.length_cons, List.length_nil, Nat.zero_add, Nat.reduceAdd]))
        (apply WalkG.arr (fun n => .slice (some ⟨n, 0, none⟩) 3 3) (.cells #[.int .i64 4, .int .i64 0, .int .i64 0, .string ⟨#[]⟩, .int .i64 1, .int .i64 2, .int .i64 1, .int .i64 1, .string ⟨#[]⟩, .int .i64 0, .int .i64 2, .int .i64 (l.length : Int), .int .i64 1, .string ⟨#[]⟩, .int .i64 0] 30); (focus (intro p e W oo hI K hK; go_simp; exact hK _ _ ⟨rfl, rfl⟩)); (focus exact trivial); (try simp only [Act.put, List.setIfInBounds_toArray, List.set_cons_zero, List.set_cons_succ, List.length_append, List.length_cons, List.length_nil, Nat.zero_add, Nat.reduceAdd]))
        (apply WalkG.hev (fun e => .agg #[.int .i64 kk, .int .i64 0, .int .i64 0, .int .i64 0, .int .i64 0, .string ⟨#[]⟩, .int .i64 0, .slice e.1.1 UA.length e.1.2, .string ⟨#[]⟩, .int .i64 ul, .int .i64 0, .slice e.2.1 0 e.2.2]); (focus (intro p e W hI hF K hK; have hIb := irw_below hI; obtain ⟨xc0, xc1, xc2, xc3, xc4, xc5, xc6, xc7, xc8, xc9, xc10⟩ := SO.out W hIb; go_simp; (have hA3 := hF 7 (fun n => .slice (some ⟨n, 0, none⟩) 3 3) (.cells #[.int .i64 4, .int .i64 0, .int .i64 0, .string ⟨#[]⟩, .int .i64 1, .int .i64 2, .int .i64 1, .int .i64 1, .string ⟨#[]⟩, .int .i64 0, .int .i64 2, .int .i64 (l.length : Int), .int .i64 1, .string ⟨#[]⟩, .int .i64 0] 30) (by kernel_rfl) (by kernel_rfl)); (go_at_call 12); (with_reducible refine (HUB.out _ _ hIb hA3.2.2).mono ?_); rintro e1 w1 ⟨so9, cap9, sk9, ck9, rfl, hr, hk, hb⟩; exact hK _ _ ⟨((so9, cap9), (sk9, ck9)), rfl, irw_done hIb hb ((so9, cap9), (sk9, ck9)) ⟨ownsRow_base hr (Below.size hIb), ownsRow_base hk (Below.size hIb)⟩ (fun n hn => blT_le (B := W.heap.size) (A := UA) (K := []) (x := ((so9, cap9), (sk9, ck9))) ⟨hr, hk⟩ n hn)⟩)); (try simp only [Act.put, List.setIfInBounds_toArray, List.set_cons_zero, List.set_cons_succ, List.length_append, List.length_cons, List.length_nil, Nat.zero_add, Nat.reduceAdd]))
        (apply WalkG.box (fun n => .pointer (some ⟨n, 0, none⟩)) oAc; (focus (intro p e W oo hI K hK; go_simp; exact hK _ _ ⟨rfl, rfl⟩)); (focus exact trivial); (try simp only [Act.put, List.setIfInBounds_toArray, List.set_cons_zero, List.set_cons_succ, List.length_append, List.length_cons, List.length_nil, Nat.zero_add, Nat.reduceAdd]))
        (apply WalkG.sto 9 (fun n => .pointer (some ⟨n, 0, none⟩)) oAc (fun e => (.cells #[.int .i64 kk, .int .i64 0, .int .i64 0, .int .i64 0, .int .i64 0, .string ⟨#[]⟩, .int .i64 0, .slice e.1.1 UA.length e.1.2, .string ⟨#[]⟩, .int .i64 ul, .int .i64 0, .slice e.2.1 0 e.2.2] 35)) true (by kernel_rfl) (fun h => by cases h) (fun _ => trivial); (focus (intro p e W oo hI hH hB K hK; ((obtain ⟨z0, z1, z2, z3, z4, z5, z6, z7, z8, z9, z10, z11⟩ := cells12 hB); (obtain ⟨fz0, fz1, fz2, fz3, fz4, fz5, fz6, fz7, fz8, fz9, fz10, fz11⟩ := froz12 hB); go_simp; exact hK _ _ ⟨rfl, only_twelve hB _ _ _ _ _ _ _ _ _ _ _ _⟩))); (try simp only [Act.put, List.setIfInBounds_toArray, List.set_cons_zero, List.set_cons_succ, List.length_append, List.length_cons, List.length_nil, Nat.zero_add, Nat.reduceAdd]))
        apply WalkG.nil
        intro p e W10 hI hA hS hD
        rotate_left
        focus kernel_rfl
        have hr9 := hS 10 9 oAc (fun e => (.cells #[.int .i64 kk, .int .i64 0, .int .i64 0, .int .i64 0, .int .i64 0, .string ⟨#[]⟩, .int .i64 0, .slice e.1.1 UA.length e.1.2, .string ⟨#[]⟩, .int .i64 ul, .int .i64 0, .slice e.2.1 0 e.2.2] 35)) true (by kernel_rfl)
        obtain ⟨b9, hb9⟩ : ∃ b, b = p 9 := ⟨_, rfl⟩
        rw [← hb9] at hr9
        try rw [← hb9]
        obtain ⟨⟨so9, cap9⟩, ⟨sk9, ck9⟩⟩ := e
        have HB10 := Lib.hid (hI.1)
        have HR10 := Lib.hid (hI.2.1)
        have H9 := Lib.hid (hr9.2.2)
        have H710 := Lib.hid (hkeep HB10.out H7.out)
        have HBw10 := Lib.hid ((below_next (below_next (below_next HB7.out HB8.out) HB9.out) HB10.out))
        have hz10 := HB10.out.size
        have h9l := (Array.getElem?_eq_some_iff.1 H9.out).1
        have h7l10 := (Array.getElem?_eq_some_iff.1 H710.out).1
        clear hS hA hD hI hr9 hb9
        by_cases h200 : l.length ≤ 200
        · have d8 : decide ((l.length : Int) > 200) = false := decide_eq_false (by omega)
          have hk1 : kk = 1 := by rw [HKK.out]; unfold upK; rw [if_pos h200]
          have hu1 : UA = vs := by rw [HUA.out]; unfold upA; rw [if_pos (by omega)]
          subst hk1 hu1
          have HVL := Lib.hid (fun (W : World) (hb : Below W10.heap.size W10 W) => (show Calls Tryz.prog 17 #[.slice so9 UA.length cap9, .slice so2 l.length cap2] W (BoolPost W true) from lvalues_true W so9 so2 UA.length l.length cap9 cap2 UA (Vals.below (Vals.of_row HR10.out) hb) (by have hv0 := HVR.out; rw [hvl] at hv0; rcases HG7.out with e | ⟨⟨o, rfl⟩, hh, hh7⟩; (obtain ⟨so', c, h1, h2, hn, _⟩ := hv0; exact ⟨so', c, h1, h2, hn, .inl e⟩); (have hk := hkeep hb (hkeep HB10.out (hkeep HB9.out (hkeep HB8.out hh7.1))); exact vals_held hv0 (hk.trans hh.1.symm) (Array.getElem?_eq_some_iff.1 hk).1)) (by omega)))
          have HVN := Lib.hid (hvl)
          clear hvl
          have hEQ : ∀ W : World, (binOp .eql 30 (.agg #[.int .i64 2, .int .i64 (l.length : Int), .int .i64 1, .string ⟨#[]⟩, .int .i64 0]) (.agg #[.int .i64 2, .int .i64 (l.length : Int), .int .i64 1, .string ⟨#[]⟩, .int .i64 0])).run Tryz.prog W = .ok (.bool true) W := fun W => by rw [eq_run]; simp [eqV]
          go_upto_region 18 with fail
          have SO := Lib.hid (fun (W : World) (hb : Below W10.heap.size W10 W) => (show W.cell? ⟨b9, 0, none⟩ = some (.int .i64 1) ∧ W.cell? ⟨b9, 7, none⟩ = some (.slice so9 UA.length cap9) ∧ W.cell? ⟨b7, 0, none⟩ = some (.int .i64 2) ∧ W.cell? ⟨b7, 1, none⟩ = some (.int .i64 (l.length : Int)) ∧ W.cell? ⟨b7, 2, none⟩ = some (.int .i64 1) ∧ W.cell? ⟨b7, 3, none⟩ = some (.string ⟨#[]⟩) ∧ W.cell? ⟨b7, 4, none⟩ = some (.int .i64 0) ∧ Hid (Below W10.heap.size W10 W) from ⟨((cells12 (hkeep hb H9.out))).1, ((cells12 (hkeep hb H9.out))).2.2.2.2.2.2.2.1, (cells5 (hkeep hb H710.out)).1, (cells5 (hkeep hb H710.out)).2.1, (cells5 (hkeep hb H710.out)).2.2.1, (cells5 (hkeep hb H710.out)).2.2.2.1, (cells5 (hkeep hb H710.out)).2.2.2.2, Lib.hid hb⟩))
          have BA := Lib.hid (fun (W : World) (o : Obj) (hb : Below W10.heap.size W10 W) => (show Below W10.heap.size W10 (W.alloc o) from hb.alloc hb.size o))
          have BD := Lib.hid (fun (W : World) (hb : Below W10.heap.size W10 W) => (show Below W10.heap.size W10 W.drew from hb.drew))
          have hbR : Below W10.heap.size W10 W10 := Below.refl _ _
          have hbD : Below W10.heap.size W10 W10.drew := (Below.refl _ _).drew
          go_region_held3 (fun w' => w'.cell? ⟨b9, 0, none⟩ = some (.int .i64 1) ∧ w'.cell? ⟨b9, 7, none⟩ = some (.slice so9 UA.length cap9) ∧ w'.cell? ⟨b7, 0, none⟩ = some (.int .i64 2) ∧ w'.cell? ⟨b7, 1, none⟩ = some (.int .i64 (l.length : Int)) ∧ w'.cell? ⟨b7, 2, none⟩ = some (.int .i64 1) ∧ w'.cell? ⟨b7, 3, none⟩ = some (.string ⟨#[]⟩) ∧ w'.cell? ⟨b7, 4, none⟩ = some (.int .i64 0) ∧ Hid (Below W10.heap.size W10 w'))
            (with_reducible refine SO.out _ ?_; repeat (first | with_reducible assumption | (with_reducible refine BA.out _ _ ?_) | (with_reducible refine BD.out _ ?_) | omega))
            (first | (go_at_call 14; (with_reducible refine (HNU.out _ _).mono ?_); rintro e nw1 ⟨rfl, hb⟩; have hb1 := below_next (prjS7 (by assumption)) hb; have hzb1 := hb1.size; clear hb) | (go_at_call 17; (with_reducible refine (HVL.out _ (prjS7 (by assumption))).mono ?_); rintro e nw2 ⟨rfl, hb⟩; have hb2 := below_next (prjS7 (by assumption)) hb; have hzb2 := hb2.size; clear hb) | (go_at_call 9; (with_reducible refine (HLV.out _ (below_next HBw10.out (prjS7 (by assumption)))).mono ?_); rintro e nw3 ⟨rfl, hb⟩; have hb3 := below_next (prjS7 (by assumption)) hb; have hzb3 := hb3.size; clear hb))
          go_wp2
          go_ret
          exact bool_done rfl (below_next HBw10.out hb3)
        · have d8 : decide ((l.length : Int) > 200) = true := decide_eq_true (by omega)
          have hk1 : kk = 2 := by rw [HKK.out]; unfold upK; rw [if_neg h200]
          subst hk1
          obtain ⟨n0, n1, n2, n3, n4, n5, n6, n7, n8, n9, n10, n11⟩ := cells12 H9.out
          obtain ⟨fn0, fn1, fn2, fn3, fn4, fn5, fn6, fn7, fn8, fn9, fn10, fn11⟩ := froz12 H9.out
          go_wp2_with fail
          refine (HLV.out _ HBw10.out).mono ?_
          rintro e w20 ⟨rfl, hb⟩
          have HB20 := Lib.hid (below_next HBw10.out hb)
          clear hb
          go_wp2
          go_ret
          exact bool_done rfl HB20.out
set_option maxRecDepth 100000 in
set_option maxHeartbeats 2000000 in
theorem pack_long (w : World) (htab : Pow10 w) (so : Option Addr) (n cap : Nat) (hl : 250 < n) :
    Calls Tryz.prog 6 #[.slice so n cap] w (BoolPost w true) := by
  have HLV := Lib.hid (fun W (hb : Below w.heap.size w W) => lives_c W (htab.stays hb))
  clear htab
  have d1 : decide ((n : Int) > 250) = true := decide_eq_true (by omega)
  go_enter Tryz.func6, Tryz.ntmps6
  go_wp2_with fail
  refine (pNew_c _).mono ?_
  rintro e w1 ⟨h, rfl, hP1, hb1⟩
  have HW1 := Lib.hid (hb1)
  clear hP1 hb1
  go_wp2_with fail
  refine (HLV.out _ HW1.out).mono ?_
  rintro e w3 ⟨rfl, hb⟩
  have HB3 := Lib.hid (below_next HW1.out hb)
  clear hb
  go_wp2
  go_ret
  exact bool_done rfl HB3.out
theorem pack_all (w : World) (htab : Pow10 w) (so : Option Addr) (cap : Nat) (l : List (V × Int)) (hS : SpecsAt w so l) (hW : ∀ y ∈ l, WfV y.1) :
    Calls Tryz.prog 6 #[.slice so l.length cap] w (BoolPost w true) := by
  by_cases h1 : 250 < l.length
  · exact pack_long w htab so l.length cap h1
  · exact pack_law w htab so cap l hS (by omega) hW
end Go.Proofs.YtpbcmlnjiocmoaaGreatDoorR
