import Derived.Test.YtpbcmlnjiocmoaaGreatDoorRHpW
import Derived.Test.YtpbcmlnjiocmoaaGreatDoorRRefB
import Derived.Test.YtpbcmlnjiocmoaaGreatDoorRValB
set_option linter.unusedVariables false
set_option linter.unusedSimpArgs false
set_option maxRecDepth 100000
set_option maxHeartbeats 2000000
namespace Go.Proofs.YtpbcmlnjiocmoaaGreatDoorR
open Go.RowKit Go.Proofs.Lexi
set_option maxRecDepth 100000 in
set_option maxHeartbeats 2000000 in
theorem pElem_c (w : World) (k1 p1 q1 : Int) (s1 : ByteArray) (r1 : Int) : Calls Tryz.prog 44 #[.agg #[.int .i64 k1, .int .i64 p1, .int .i64 q1, .string s1, .int .i64 r1]] w (IntPost w (elemM ⟨k1, p1, q1, s1, r1⟩)) := by
  have HV := Lib.hid (fun W => pvalidV_c W k1 p1 q1 s1 r1)
  by_cases hb : k1 = 3 ∧ 4096 < s1.size
  · have HC := Lib.hid (show 14 = elemM ⟨k1, p1, q1, s1, r1⟩ from (if_pos hb).symm)
    have t3 : (k1 == 3) = true := by rw [beq_iff_eq]; exact hb.1
    have ts : decide ((4096 : Int) < (s1.size : Int)) = true := by rw [decide_eq_true_eq]; omega
    have ts2 : (4096 : Int) < (s1.size : Int) := by omega
    clear hb
    go_enter Tryz.func44, Tryz.ntmps44
    go_wp2
    go_ret
    exact int_done HC.out (below1 _ _)
  · have tt : (k1 == 3) = false ∨ ((k1 == 3) = true ∧ ¬ 4096 < s1.size) := by
      by_cases h3 : k1 = 3
      · exact .inr ⟨by rw [beq_iff_eq]; exact h3, fun h => hb ⟨h3, h⟩⟩
      · exact .inl (by rw [beq_eq_false_iff_ne]; exact h3)
    cases hv : validV ⟨k1, p1, q1, s1, r1⟩ with
    | true =>
      have HC := Lib.hid (show 0 = elemM ⟨k1, p1, q1, s1, r1⟩ from by unfold elemM; rw [if_neg hb, if_pos hv])
      have HVT := Lib.hid (fun W => (hv ▸ HV.out W : Calls Tryz.prog 43 #[.agg #[.int .i64 k1, .int .i64 p1, .int .i64 q1, .string s1, .int .i64 r1]] W (BoolPost W true)))
      clear hb hv HV
      rcases tt with t3 | ⟨t3, ts⟩
      · go_enter Tryz.func44, Tryz.ntmps44
        go_wp2_with (first | (go_at_call 43; refine (HVT.out _).mono ?_; rintro e w1 ⟨rfl, hb⟩))
        go_ret
        exact int_done HC.out (below_next (below1 _ _) (by assumption))
      · have ts1 : decide ((4096 : Int) < (s1.size : Int)) = false := by rw [decide_eq_false_iff_not]; omega
        have ts2 : ¬ (4096 : Int) < (s1.size : Int) := by omega
        go_enter Tryz.func44, Tryz.ntmps44
        go_wp2_with (first | (go_at_call 43; refine (HVT.out _).mono ?_; rintro e w1 ⟨rfl, hb⟩))
        go_ret
        exact int_done HC.out (below_next (below1 _ _) (by assumption))
    | false =>
      have HC := Lib.hid (show 2 = elemM ⟨k1, p1, q1, s1, r1⟩ from by unfold elemM; rw [if_neg hb, if_neg (by rw [hv]; decide)])
      have HVT := Lib.hid (fun W => (hv ▸ HV.out W : Calls Tryz.prog 43 #[.agg #[.int .i64 k1, .int .i64 p1, .int .i64 q1, .string s1, .int .i64 r1]] W (BoolPost W false)))
      clear hb hv HV
      rcases tt with t3 | ⟨t3, ts⟩
      · go_enter Tryz.func44, Tryz.ntmps44
        go_wp2_with (first | (go_at_call 43; refine (HVT.out _).mono ?_; rintro e w1 ⟨rfl, hb⟩))
        go_ret
        exact int_done HC.out (below_next (below1 _ _) (by assumption))
      · have ts1 : decide ((4096 : Int) < (s1.size : Int)) = false := by rw [decide_eq_false_iff_not]; omega
        have ts2 : ¬ (4096 : Int) < (s1.size : Int) := by omega
        go_enter Tryz.func44, Tryz.ntmps44
        go_wp2_with (first | (go_at_call 43; refine (HVT.out _).mono ?_; rintro e w1 ⟨rfl, hb⟩))
        go_ret
        exact int_done HC.out (below_next (below1 _ _) (by assumption))
set_option maxRecDepth 100000 in
set_option maxHeartbeats 2000000 in
theorem pTouch_c (w : World) (h bo bt : Nat) (H : List PO) (hH : HpAt w h bo bt H) (k1 p1 q1 : Int) (s1 : ByteArray) (r1 : Int) (hr : i64 r1) : Calls Tryz.prog 45 #[.pointer (some ⟨h, 0, none⟩), .agg #[.int .i64 k1, .int .i64 p1, .int .i64 q1, .string s1, .int .i64 r1], .int .i64 0] w (TouchPost w h bo bt H) := by
  have hlt : h < w.heap.size := (Array.getElem?_eq_some_iff.1 hH.hh).1
  have hbt : bt < w.heap.size := by obtain ⟨E, hE⟩ := hH.touched; exact hE.lt
  have HST := Lib.hid (touch_at hH.touched hr)
  have HHH := Lib.hid hH
  have hh := hH.hh
  have h0 : (w.alloc (oV k1 p1 q1 s1 r1)).cell? ⟨h, 0, none⟩ = some (.map (some bo)) := by rw [cell_of_heap (heap1_old hh _)]; rfl
  have h1 : (w.alloc (oV k1 p1 q1 s1 r1)).cell? ⟨h, 1, none⟩ = some (.int .i64 (H.length : Nat)) := by rw [cell_of_heap (heap1_old hh _)]; rfl
  have h2 : (w.alloc (oV k1 p1 q1 s1 r1)).cell? ⟨h, 2, none⟩ = some (.map (some bt)) := by rw [cell_of_heap (heap1_old hh _)]; rfl
  clear hH hr hh
  go_enter Tryz.func45, Tryz.ntmps45
  go_wp2
  refine wp_region_lex mixed (by kernel_rfl) ?_
  go_wp2_with (at_mapUpdate; refine wpList_store_map _ rfl _ _ _ _ rfl _ _ _ rfl rfl rfl _ (HST.out _ (Below.heap_alloc w _ bt (by omega))) ?_; intro w3 hw3)
  refine ⟨by kernel_rfl, ?_⟩
  have HX := Lib.hid hw3
  clear hw3 h0 h1 h2
  go_wp2
  go_ret
  obtain ⟨h1, h2, h3⟩ := HX.out
  have hb := (below1 w (oV k1 p1 q1 s1 r1)).drew
  exact ⟨rfl, (HHH.out.below hb).touch h2 h1, (Mods.of_below hb).trans h2⟩
set_option maxRecDepth 100000 in
set_option maxHeartbeats 2000000 in
theorem pCreate_c (w : World) (h bo bt : Nat) (H : List PO) (hH : HpAt w h bo bt H) (hl : H.length ≤ 1000) (x : PO) (hx : PObj w x) (hsep : ∀ y ∈ H, PSep y x) (hg : x.kind = 4 → x.g ≠ bo ∧ x.g ≠ bt) : Calls Tryz.prog 41 #[.pointer (some ⟨h, 0, none⟩), .pointer (some ⟨x.o, 0, none⟩)] w (AddPost w h bo bt H x) := by
  have hlt : h < w.heap.size := (Array.getElem?_eq_some_iff.1 hH.hh).1
  have hot : bo ≠ bt := hH.ot
  obtain ⟨E0, hE0⟩ := hH.touched
  have hbt : bt < w.heap.size := hE0.lt
  have hbo : bo < w.heap.size := hH.objs.lt
  obtain ⟨es, c, hbt0⟩ := hE0.obj
  obtain ⟨es2, c2, hbo0⟩ := hH.objs.obj
  have hho : h ≠ bo := ne_map hH.hh hbo0
  have hht : h ≠ bt := ne_map hH.hh hbt0
  have hxl : x.o < w.heap.size := (Array.getElem?_eq_some_iff.1 hx.ho).1
  have hxh : x.o ≠ h := ne_of_types hx.ho hH.hh (by decide)
  have hxo : x.o ≠ bo := ne_map hx.ho hbo0
  have hxt : x.o ≠ bt := ne_map hx.ho hbt0
  clear hbt0 hbo0 es c es2 c2
  have HLN := Lib.hid (len_at hH.objs)
  have hlen : ∀ ty, (Builtin.len_ #[60] ty #[.map (some bo)]).run Tryz.prog (w.alloc (oV 0 0 0 ⟨#[]⟩ 0)) = .ok (.int .i64 ((objE H).length : Nat)) (w.alloc (oV 0 0 0 ⟨#[]⟩ 0)) := HLN.out _ (Below.heap_alloc w _ bo (by omega))
  rw [objE_len] at hlen
  have HPO := Lib.hid (putO_at hH.objs hl x.o)
  have HTO := Lib.hid (touch_at hH.touched (show i64 ((H.length : Int) + 1) from ⟨by omega, by omega⟩))
  have HHH := Lib.hid hH
  have HXX := Lib.hid hx
  have HSP := Lib.hid hsep
  have HGG := Lib.hid hg
  have hh := hH.hh
  have h0 : (w.alloc (oV 0 0 0 ⟨#[]⟩ 0)).cell? ⟨h, 0, none⟩ = some (.map (some bo)) := by rw [cell_of_heap (heap1_old hh _)]; rfl
  have h1 : (w.alloc (oV 0 0 0 ⟨#[]⟩ 0)).cell? ⟨h, 1, none⟩ = some (.int .i64 (H.length : Nat)) := by rw [cell_of_heap (heap1_old hh _)]; rfl
  have h2 : (w.alloc (oV 0 0 0 ⟨#[]⟩ 0)).cell? ⟨h, 2, none⟩ = some (.map (some bt)) := by rw [cell_of_heap (heap1_old hh _)]; rfl
  have fh0 : (w.alloc (oV 0 0 0 ⟨#[]⟩ 0)).frozen? ⟨h, 0, none⟩ = false := frozen_of_heap (heap1_old hh _) _
  have fh1 : (w.alloc (oV 0 0 0 ⟨#[]⟩ 0)).frozen? ⟨h, 1, none⟩ = false := frozen_of_heap (heap1_old hh _) _
  have fh2 : (w.alloc (oV 0 0 0 ⟨#[]⟩ 0)).frozen? ⟨h, 2, none⟩ = false := frozen_of_heap (heap1_old hh _) _
  have hq1 : ¬ (65536 : Int) ≤ (H.length : Int) := by omega
  have hq2 : decide ((65536 : Int) ≤ (H.length : Int)) = false := by rw [decide_eq_false_iff_not]; exact hq1
  clear hH hx hsep hg hh hE0
  go_enter Tryz.func41, Tryz.ntmps41
  go_wp2
  clear hlen
  obtain ⟨W1, hW1⟩ : ∃ W1, W1 = (w.setCell ⟨h, 1, none⟩ (.int .i64 ((H.length : Int) + 1))).alloc (oV 0 0 0 ⟨#[]⟩ 0) := ⟨_, rfl⟩
  rw [← hW1]
  have HM1 := Lib.hid (show Mods (fun b => b = h ∨ b = bo ∨ b = bt) w W1 by rw [hW1]; exact (mods_setCell (Mods.refl _ w) (.inl (.inl rfl)) _).trans (Mods.of_below (below1 _ _)))
  have HH1 := Lib.hid (show W1.heap[h]? = some (.cells #[.map (some bo), .int .i64 ((H.length : Int) + 1), .map (some bt)] 63) by rw [hW1]; exact heap1_old (heap_setCell_same HHH.out.hh 1 _) _)
  have HO1 := Lib.hid (show W1.heap[bo]? = w.heap[bo]? by rw [hW1, Below.heap_alloc _ _ bo (by simp; omega)]; exact Below.heap_setCell _ _ _ _ (fun e => hho e.symm))
  have HT1 := Lib.hid (show W1.heap[bt]? = w.heap[bt]? by rw [hW1, Below.heap_alloc _ _ bt (by simp; omega)]; exact Below.heap_setCell _ _ _ _ (fun e => hht e.symm))
  have HR1 := Lib.hid (show W1.heap[w.heap.size]? = some (oV 0 0 0 ⟨#[]⟩ 0) by rw [hW1]; simpa using heap1 (w.setCell ⟨h, 1, none⟩ (.int .i64 ((H.length : Int) + 1))) (oV 0 0 0 ⟨#[]⟩ 0))
  have hz1 : W1.heap.size = w.heap.size + 1 := by rw [hW1]; simp
  clear hW1 h0 h1 h2 fh0 fh1 fh2
  have h0 : W1.cell? ⟨h, 0, none⟩ = some (.map (some bo)) := by rw [cell_of_heap HH1.out]; rfl
  have h1 : W1.cell? ⟨h, 1, none⟩ = some (.int .i64 ((H.length : Int) + 1)) := by rw [cell_of_heap HH1.out]; rfl
  have h2 : W1.cell? ⟨h, 2, none⟩ = some (.map (some bt)) := by rw [cell_of_heap HH1.out]; rfl
  refine wp_region_lex mixed (by kernel_rfl) ?_
  go_wp2_with (at_mapUpdate; refine wpList_store_map _ rfl _ _ _ _ rfl _ _ _ rfl rfl rfl _ (HPO.out _ HO1.out) ?_; intro w2 hw2)
  refine ⟨by kernel_rfl, ?_⟩
  have HX2 := Lib.hid hw2
  have hz2 : W1.heap.size ≤ w2.heap.size := hw2.2.2
  have HH2 := Lib.hid (mods_keep hw2.2.1 (show W1.drew.heap[h]? = _ from HH1.out) hho)
  have HR2 := Lib.hid (mods_keep hw2.2.1 (show W1.drew.heap[w.heap.size]? = _ from HR1.out) (by omega))
  have HT2 := Lib.hid (show w2.heap[bt]? = w.heap[bt]? from (hw2.2.1.block bt (show bt < W1.heap.size by omega) (fun e => hot e.symm)).trans HT1.out)
  clear hw2 h0 h1 h2
  have h0 : w2.cell? ⟨h, 0, none⟩ = some (.map (some bo)) := by rw [cell_of_heap HH2.out]; rfl
  have h1 : w2.cell? ⟨h, 1, none⟩ = some (.int .i64 ((H.length : Int) + 1)) := by rw [cell_of_heap HH2.out]; rfl
  have h2 : w2.cell? ⟨h, 2, none⟩ = some (.map (some bt)) := by rw [cell_of_heap HH2.out]; rfl
  go_wp2
  refine wp_region_lex mixed (by kernel_rfl) ?_
  go_wp2_with (at_mapUpdate; refine wpList_store_map _ rfl _ _ _ _ rfl _ _ _ rfl rfl rfl _ (HTO.out _ HT2.out) ?_; intro w3 hw3)
  refine ⟨by kernel_rfl, ?_⟩
  have HX3 := Lib.hid hw3
  have hz3 : w2.heap.size ≤ w3.heap.size := hw3.2.2
  have HH3 := Lib.hid (mods_keep hw3.2.1 (show w2.drew.heap[h]? = _ from HH2.out) hht)
  have HR3 := Lib.hid (mods_keep hw3.2.1 (show w2.drew.heap[w.heap.size]? = _ from HR2.out) (by omega))
  have HM3 := Lib.hid (show Mods (fun b => b = h ∨ b = bo ∨ b = bt) w w3 from (HM1.out.trans ((Mods.of_below (Below.refl _ _).drew).trans (HX2.out.2.1.mono (fun k _ e => .inr (.inl e))))).trans ((Mods.of_below (Below.refl _ _).drew).trans (hw3.2.1.mono (fun k _ e => .inr (.inr e)))))
  have HXO := Lib.hid (show w3.heap[x.o]? = some (.cells x.cells 94) from mods_keep HM3.out HXX.out.ho (by omega))
  clear hw3 h0 h1 h2
  have h0 : w3.cell? ⟨h, 0, none⟩ = some (.map (some bo)) := by rw [cell_of_heap HH3.out]; rfl
  have h1 : w3.cell? ⟨h, 1, none⟩ = some (.int .i64 ((H.length : Int) + 1)) := by rw [cell_of_heap HH3.out]; rfl
  have h2 : w3.cell? ⟨h, 2, none⟩ = some (.map (some bt)) := by rw [cell_of_heap HH3.out]; rfl
  have x0 : w3.cell? ⟨x.o, 0, none⟩ = some (.int .i64 x.kind) := by rw [cell_of_heap HXO.out]; rfl
  have hlr : w.heap.size < w3.heap.size := by omega
  have hlh : h < w3.heap.size := by omega
  have hlx : x.o < w3.heap.size := by omega
  have r0 : w3.cell? ⟨w.heap.size, 0, none⟩ = some (.int .i64 0) := by rw [cell_of_heap HR3.out]; rfl
  have r1 : w3.cell? ⟨w.heap.size, 1, none⟩ = some (.int .i64 0) := by rw [cell_of_heap HR3.out]; rfl
  have r2 : w3.cell? ⟨w.heap.size, 2, none⟩ = some (.int .i64 0) := by rw [cell_of_heap HR3.out]; rfl
  have r3 : w3.cell? ⟨w.heap.size, 3, none⟩ = some (.string ⟨#[]⟩) := by rw [cell_of_heap HR3.out]; rfl
  have r4 : w3.cell? ⟨w.heap.size, 4, none⟩ = some (.int .i64 0) := by rw [cell_of_heap HR3.out]; rfl
  have fr0 : w3.frozen? ⟨w.heap.size, 0, none⟩ = false := frozen_of_heap HR3.out _
  have fr1 : w3.frozen? ⟨w.heap.size, 1, none⟩ = false := frozen_of_heap HR3.out _
  have fr2 : w3.frozen? ⟨w.heap.size, 2, none⟩ = false := frozen_of_heap HR3.out _
  have fr3 : w3.frozen? ⟨w.heap.size, 3, none⟩ = false := frozen_of_heap HR3.out _
  have fr4 : w3.frozen? ⟨w.heap.size, 4, none⟩ = false := frozen_of_heap HR3.out _
  go_wp2
  refine wp_region_lex mixed (by kernel_rfl) ?_
  go_wp2
  refine ⟨by kernel_rfl, ?_⟩
  go_wp2
  refine bodyPost_ret (by simp [results, Tryz.results41, go_sem, hlr, r0, r1, r2, r3, r4]; first | done | rfl) rfl ?_
  have fin : ∀ W : World, Below w.heap.size w3 W → HpAt W h bo bt (H ++ [x]) ∧ Mods (fun b => b = h ∨ b = bo ∨ b = bt) w W := fun W hb => by
    have hMW : Mods (fun b => b = h ∨ b = bo ∨ b = bt) w W := ⟨hb.os.trans HM3.out.os, hb.tape.trans HM3.out.tape, hb.output.trans HM3.out.output, Nat.le_trans HM3.out.size hb.size, fun k hk hF => (hb.block k hk).trans (HM3.out.block k hk hF)⟩
    refine ⟨HHH.out.add hMW ((hb.block h hlt).trans HH3.out) (MapAt.keep (HX2.out.1.keep ?_) (hb.block bo hbo)) ?_ HXX.out HSP.out HGG.out, hMW⟩
    · exact (HX3.out.2.1.block bo (show bo < w2.heap.size by omega) hot)
    · obtain ⟨E', h4⟩ := HX3.out.1
      exact ⟨E', h4.keep (hb.block bt hbt)⟩
  exact ⟨rfl, fin _ (below_five (Below.refl _ _).drew (Nat.le_refl _) _ _ _ _ _)⟩
set_option maxRecDepth 100000 in
set_option maxHeartbeats 2000000 in
theorem pNewTable_c (w : World) (h bo bt : Nat) (H : List PO) (hH : HpAt w h bo bt H) (hl : H.length ≤ 1000) : Calls Tryz.prog 22 #[.pointer (some ⟨h, 0, none⟩)] w (GrowPost w h bo bt H ⟨4, V.nil, []⟩) := by
  have hlt : h < w.heap.size := (Array.getElem?_eq_some_iff.1 hH.hh).1
  obtain ⟨E0, hE0⟩ := hH.touched
  have hbt : bt < w.heap.size := hE0.lt
  have hbo : bo < w.heap.size := hH.objs.lt
  have hHH := Lib.hid hH
  clear hH hE0
  go_enter Tryz.func22, Tryz.ntmps22
  go_wp2_with fail
  refine (ptabNew_c _).mono ?_
  intro e w1 hpost
  obtain ⟨t, ht0⟩ : ∃ t, t = w1.heap.size - 1 := ⟨_, rfl⟩
  rw [← ht0] at hpost
  obtain ⟨rfl, ⟨m, g, hT, hm, hg, ht⟩, hb⟩ := hpost
  simp at hm hg ht
  have HT := Lib.hid hT
  have HB1 := Lib.hid (below_next (below1 _ _) hb)
  have HR1 := Lib.hid (hkeep hb (heap1 w (oV 0 0 0 ⟨#[]⟩ 0)))
  have hz1 := hb.size
  simp at hz1
  clear hb hT ht0
  go_wp2_with fail
  have hHW := hHH.out.below (HB1.out.alloc HB1.out.size (.cells #[.int .i64 4, .int .i64 0, .string ⟨#[]⟩, .pointer (some ⟨t, 0, none⟩), .int .i64 0, .int .i64 0, .int .i64 0, .string ⟨#[]⟩, .int .i64 0, .slice none 0 0] 94))
  have hx : PObj (w1.alloc (.cells #[.int .i64 4, .int .i64 0, .string ⟨#[]⟩, .pointer (some ⟨t, 0, none⟩), .int .i64 0, .int .i64 0, .int .i64 0, .string ⟨#[]⟩, .int .i64 0, .slice none 0 0] 94)) (⟨4, 0, ⟨#[]⟩, V.nil, .slice none 0 0, w1.heap.size, t, m, g, .slice none 0 0, [], .slice none 0 0, []⟩ : PO) := ⟨heap1 _ _, .inl rfl, wf_nil, fun h => absurd h (show ¬ (4 : Int) = 5 by decide), fun _ => tabW_below (tabW_of HT.out) (below1 _ _)⟩
  obtain ⟨hsep, hgg⟩ := sep_new (x := (⟨4, 0, ⟨#[]⟩, V.nil, .slice none 0 0, w1.heap.size, t, m, g, .slice none 0 0, [], .slice none 0 0, []⟩ : PO)) hHH.out (HB1.out.size) (fun _ => ⟨by show w.heap.size ≤ m; omega, by show w.heap.size ≤ g; omega, by show w.heap.size ≤ t; omega⟩) rfl rfl
  refine (pCreate_c _ h bo bt H hHW hl (⟨4, 0, ⟨#[]⟩, V.nil, .slice none 0 0, w1.heap.size, t, m, g, .slice none 0 0, [], .slice none 0 0, []⟩ : PO) hx hsep hgg).mono ?_
  rintro e w3 ⟨rfl, hA, hM⟩
  have HA := Lib.hid hA
  have HM := Lib.hid hM
  have HBW := Lib.hid (HB1.out.alloc HB1.out.size (.cells #[.int .i64 4, .int .i64 0, .string ⟨#[]⟩, .pointer (some ⟨t, 0, none⟩), .int .i64 0, .int .i64 0, .int .i64 0, .string ⟨#[]⟩, .int .i64 0, .slice none 0 0] 94))
  have HR3 := Lib.hid (mods_keep hM (heap1_old HR1.out _) (fun e => by rcases e with e | e | e <;> omega))
  have hyr : w.heap.size < w3.heap.size := (Array.getElem?_eq_some_iff.1 HR3.out).1
  clear hA hM hHW hx hsep hgg
  have r0 : w3.cell? ⟨w.heap.size, 0, none⟩ = some (.int .i64 0) := by rw [cell_of_heap HR3.out]; rfl
  have r1 : w3.cell? ⟨w.heap.size, 1, none⟩ = some (.int .i64 0) := by rw [cell_of_heap HR3.out]; rfl
  have r2 : w3.cell? ⟨w.heap.size, 2, none⟩ = some (.int .i64 0) := by rw [cell_of_heap HR3.out]; rfl
  have r3 : w3.cell? ⟨w.heap.size, 3, none⟩ = some (.string ⟨#[]⟩) := by rw [cell_of_heap HR3.out]; rfl
  have r4 : w3.cell? ⟨w.heap.size, 4, none⟩ = some (.int .i64 0) := by rw [cell_of_heap HR3.out]; rfl
  have fr0 : w3.frozen? ⟨w.heap.size, 0, none⟩ = false := frozen_of_heap HR3.out _
  have fr1 : w3.frozen? ⟨w.heap.size, 1, none⟩ = false := frozen_of_heap HR3.out _
  have fr2 : w3.frozen? ⟨w.heap.size, 2, none⟩ = false := frozen_of_heap HR3.out _
  have fr3 : w3.frozen? ⟨w.heap.size, 3, none⟩ = false := frozen_of_heap HR3.out _
  have fr4 : w3.frozen? ⟨w.heap.size, 4, none⟩ = false := frozen_of_heap HR3.out _
  go_wp2
  refine bodyPost_ret (by simp [results, Tryz.results22, go_sem, hyr, r0, r1, r2, r3, r4]; first | done | rfl) rfl ?_
  refine grow_end hHH.out HBW.out HA.out HM.out HR3.out (mods_five (F := fun b => b = w.heap.size) (Mods.refl _ _) (.inl rfl) _ _ _ _ _) rfl ⟨rfl, rfl, rfl⟩ (fun b hb => ?_) _ rfl
  rcases hb with e | ⟨_, e | (e | e | hb) | hb⟩
  · have e : b = w1.heap.size := e
    have := HB1.out.size
    omega
  · have e : b = t := e
    omega
  · have e : b = m := e
    omega
  · have e : b = g := e
    omega
  · cases hb
  · cases hb
set_option maxRecDepth 100000 in
set_option maxHeartbeats 2000000 in
theorem pNew_c (w : World) : Calls Tryz.prog 8 #[] w (fun e w' => ∃ h, e = .returned (.pointer (some ⟨h, 0, none⟩)) ∧ PHp w.heap.size 0 w' h [] [] (fun _ => False) ∧ Below w.heap.size w w') := by
  have hmm := @run_makeMap Tryz.prog
  go_enter Tryz.func8, Tryz.ntmps8
  go_wp2
  go_ret
  have hb : Below w.heap.size w (((w.alloc (.map #[] 0)).alloc (.map #[] 0)).alloc (.cells #[.map (some w.heap.size), .int .i64 0, .map (some (w.heap.size + 1))] 63)) := (below2w _ _ _).alloc (by simp; omega) _
  refine ⟨w.heap.size + 1 + 1, rfl, ⟨⟨w.heap.size, w.heap.size + 1, [], ⟨heap3_c _ _ _ _, ?_, ⟨[], ?_⟩, fun x hx => (by cases hx), .nil, by omega, fun x hx => (by cases hx)⟩, rfl, rfl, fun x hx => (by cases hx), ?_, fun x hx => (by cases hx)⟩, fun b hb => hb.elim⟩, hb⟩
  · exact (mapAt_new 3 w).keep (by rw [heap3_a, heap_new])
  · refine MapAt.keep (w := (w.alloc (.map #[] 0)).alloc (.map #[] 0)) ?_ (Below.heap_alloc _ _ _ (by simp))
    have := mapAt_new (P := Tryz.prog) 3 (w.alloc (.map #[] 0))
    simpa using this
  · rintro b (rfl | rfl | rfl | ⟨x, hx, _⟩)
    · omega
    · omega
    · omega
    · cases hx
theorem pNewTableP_c {base n : Nat} {w : World} {h : Nat} {M : LH} {AA : List (List V)} {O : Nat → Prop} (hP : PHp base n w h M AA O) (hb : base ≤ w.heap.size) (hl : M.length ≤ 1000) :
    Calls Tryz.prog 22 #[.pointer (some ⟨h, 0, none⟩)] w (fun e w' => e = .returned (.tuple #[.agg #[.int .i64 4, .int .i64 0, .int .i64 0, .string ⟨#[]⟩, .int .i64 ((M.length : Int) + 1)], .int .i64 0]) ∧ PHp base n w' h (M ++ [⟨4, V.nil, []⟩]) (AA ++ [[]]) O ∧ QS base O w O w') :=
  grow_php hP hb hl (fun bo bt H hH hlH => pNewTable_c w h bo bt H hH hlH)
end Go.Proofs.YtpbcmlnjiocmoaaGreatDoorR
