import Derived.Test.YteflmfdjnigjcaaGreatDoorBl
import Derived.Test.YteflmfdjnigjcaaGreatDoorPg
set_option linter.unusedVariables false
set_option linter.unusedSimpArgs false
set_option maxRecDepth 100000
set_option maxHeartbeats 40000000
namespace Go.Proofs.YteflmfdjnigjcaaGreatDoor
open Go.RowKit Go.Proofs.Lexi
set_option maxRecDepth 100000 in
set_option maxHeartbeats 40000000 in
theorem prints_law (w : World) (hw : Spaces w) (so : Option Addr) (cap : Nat) (l : List ByteArray) (hS : Strs w so l) (sb : Option Addr) (capb : Nat) (cs : List Bool) (hB : Bools w sb cs) (hl : l.length ≤ 20) (hc : cs.length ≤ 20) (hcap : l.length ≤ cap) (hcapb : cs.length ≤ capb) :
    Calls Tryz.prog 3 #[.slice so l.length cap, .slice sb cs.length capb] w (BoolPost w true) := by
  have HSP := Lib.hid (fun W (hb : Below w.heap.size w W) => Spaces.stays hw hb)
  have HAW := Lib.hid (fun W (hb : Below w.heap.size w W) => awake24_c W (Spaces.stays hw hb))
  have HS := Lib.hid (hS)
  have HB := Lib.hid (hB)
  clear hw hS hB
  have d1 : decide ((l.length : Int) > 20) = false := decide_eq_false (by omega)
  have d2 : decide ((cs.length : Int) > 20) = false := decide_eq_false (by omega)
  go_enter Tryz.func3, Tryz.ntmps3
  go_wp2_with fail
  refine (pNew_c _).mono ?_
  rintro e w1 ⟨h, rfl, hP1, hb1⟩
  have HP1 := Lib.hid (hP1)
  have HB1 := Lib.hid (hb1)
  have hz1 := hb1.size
  have hnt : Calls Tryz.prog 8 #[.pointer (some ⟨h, 0, none⟩)] w1 (fun e w' => e = .returned (.tuple #[.agg #[.int .i64 4, .int .i64 0, .int .i64 0, .string ⟨#[]⟩, .int .i64 1], .int .i64 0]) ∧ PHp w.heap.size 0 w' h [⟨4, V.nil, []⟩] [[]] (fun _ => False) ∧ QS w.heap.size (fun _ => False) w1 (fun _ => False) w') := pNewTableP_c hP1 hz1 (by simp)
  have HNT := Lib.hid (hnt)
  clear hP1 hb1 hnt
  go_wp2_with fail
  refine (HNT.out).mono ?_
  rintro e w2 ⟨rfl, hP2, hq2⟩
  have HP2 := Lib.hid (hP2)
  have HB2 := Lib.hid (below_qs HB1.out hq2)
  have hz2 := hq2.size
  clear hP2 hq2
  go_upto_region 6 with fail
  obtain ⟨b6, hb6⟩ : ∃ b6, b6 = w2.heap.size := ⟨_, rfl⟩
  obtain ⟨W3, hW3⟩ : ∃ W3, W3 = (w2.alloc (oV 4 0 0 ⟨#[]⟩ 1)).alloc (oV 6 0 0 ⟨#[102]⟩ 0) := ⟨_, rfl⟩
  have HBW := Lib.hid ((show Below w2.heap.size w2 W3 by rw [hW3]; exact below2w _ _ _))
  have HX6 := Lib.hid ((show W3.heap[w2.heap.size]? = some (oV 4 0 0 ⟨#[]⟩ 1) by rw [hW3]; exact heap2_a _ _ _))
  have HX8 := Lib.hid ((show W3.heap[w2.heap.size + 1]? = some (oV 6 0 0 ⟨#[102]⟩ 0) by rw [hW3]; exact heap2_b _ _ _))
  have hz3 : w2.heap.size + 1 < W3.heap.size := by rw [hW3]; simp
  rw [show (w2.alloc (oV 4 0 0 ⟨#[]⟩ 1)).alloc (oV 6 0 0 ⟨#[102]⟩ 0) = W3 from hW3.symm]
  clear hW3 hb6
  have HP3 := Lib.hid (HP2.out.below HBW.out)
  have HST := Lib.hid (fun W => lstr_x W toStrN)
  unfold toStrN at HST
  have hset : ∀ W, Below W3.heap.size W3 W → Calls Tryz.prog 9 #[.pointer (some ⟨h, 0, none⟩), .agg #[.int .i64 4, .int .i64 0, .int .i64 0, .string ⟨#[]⟩, .int .i64 1], .agg #[.int .i64 3, .int .i64 0, .int .i64 0, .string ⟨#[95, 95, 116, 111, 115, 116, 114, 105, 110, 103]⟩, .int .i64 0], .agg #[.int .i64 6, .int .i64 0, .int .i64 0, .string ⟨#[102]⟩, .int .i64 0]] W (fun e w' => e = .returned (.int .i64 0) ∧ ∃ O', PHp w.heap.size 1 w' h (tM 0) [[]] O' ∧ QS w.heap.size (fun _ => False) W O' w') := fun W hb =>
    set_str_c (HP3.out.below hb) (by have := hb.size; omega) (by omega) (ti := 0) (by omega) (o := ⟨4, V.nil, []⟩) (A := []) rfl rfl rfl toStrN (by decide) 6 0 0 ⟨#[102]⟩ 0 (by kernel_rfl) ⟨⟨by decide, by decide⟩, ⟨by decide, by decide⟩, ⟨by decide, by decide⟩, by decide, ⟨by decide, by decide⟩⟩
  have HSet := Lib.hid (hset)
  clear hset
  have HKP := Lib.hid (fun (W W' : World) (O2 : Nat → Prop) (hb : Below W3.heap.size W3 W) (hq : QS w.heap.size (fun _ => False) W O2 W') => (show Held W' O2 w2.heap.size (oV 4 0 0 ⟨#[]⟩ 1) ∧ Held W' O2 (w2.heap.size + 1) (oV 6 0 0 ⟨#[102]⟩ 0) from ⟨Held.qs (O := fun _ => False) ⟨hkeep hb HX6.out, fun e => e⟩ hq (npb (by decide)), Held.qs (O := fun _ => False) ⟨hkeep hb HX8.out, fun e => e⟩ hq (npb (by decide))⟩))
  have SOQ := Lib.hid (fun (W : World) (h1 : W.heap[w2.heap.size]? = some (oV 4 0 0 ⟨#[]⟩ 1)) (h2 : W.heap[w2.heap.size + 1]? = some (oV 6 0 0 ⟨#[102]⟩ 0)) => (show W.cell? ⟨w2.heap.size, 0, none⟩ = some (.int .i64 4) ∧ W.cell? ⟨w2.heap.size, 1, none⟩ = some (.int .i64 0) ∧ W.cell? ⟨w2.heap.size, 2, none⟩ = some (.int .i64 0) ∧ W.cell? ⟨w2.heap.size, 3, none⟩ = some (.string ⟨#[]⟩) ∧ W.cell? ⟨w2.heap.size, 4, none⟩ = some (.int .i64 1) ∧ W.cell? ⟨w2.heap.size + 1, 0, none⟩ = some (.int .i64 6) ∧ W.cell? ⟨w2.heap.size + 1, 1, none⟩ = some (.int .i64 0) ∧ W.cell? ⟨w2.heap.size + 1, 2, none⟩ = some (.int .i64 0) ∧ W.cell? ⟨w2.heap.size + 1, 3, none⟩ = some (.string ⟨#[102]⟩) ∧ W.cell? ⟨w2.heap.size + 1, 4, none⟩ = some (.int .i64 0) from ⟨(cells5 h1).1, (cells5 h1).2.1, (cells5 h1).2.2.1, (cells5 h1).2.2.2.1, (cells5 h1).2.2.2.2, (cells5 h2).1, (cells5 h2).2.1, (cells5 h2).2.2.1, (cells5 h2).2.2.2.1, (cells5 h2).2.2.2.2⟩))
  have SO := Lib.hid (fun (W : World) (hb : Below W3.heap.size W3 W) => (show W.cell? ⟨w2.heap.size, 0, none⟩ = some (.int .i64 4) ∧ W.cell? ⟨w2.heap.size, 1, none⟩ = some (.int .i64 0) ∧ W.cell? ⟨w2.heap.size, 2, none⟩ = some (.int .i64 0) ∧ W.cell? ⟨w2.heap.size, 3, none⟩ = some (.string ⟨#[]⟩) ∧ W.cell? ⟨w2.heap.size, 4, none⟩ = some (.int .i64 1) ∧ W.cell? ⟨w2.heap.size + 1, 0, none⟩ = some (.int .i64 6) ∧ W.cell? ⟨w2.heap.size + 1, 1, none⟩ = some (.int .i64 0) ∧ W.cell? ⟨w2.heap.size + 1, 2, none⟩ = some (.int .i64 0) ∧ W.cell? ⟨w2.heap.size + 1, 3, none⟩ = some (.string ⟨#[102]⟩) ∧ W.cell? ⟨w2.heap.size + 1, 4, none⟩ = some (.int .i64 0) from ⟨(cells5 (hkeep hb HX6.out)).1, (cells5 (hkeep hb HX6.out)).2.1, (cells5 (hkeep hb HX6.out)).2.2.1, (cells5 (hkeep hb HX6.out)).2.2.2.1, (cells5 (hkeep hb HX6.out)).2.2.2.2, (cells5 (hkeep hb HX8.out)).1, (cells5 (hkeep hb HX8.out)).2.1, (cells5 (hkeep hb HX8.out)).2.2.1, (cells5 (hkeep hb HX8.out)).2.2.2.1, (cells5 (hkeep hb HX8.out)).2.2.2.2⟩))
  have HBc := Lib.hid ((Below.refl W3.heap.size W3).drew)
  go_region_held3 (fun w' => w'.cell? ⟨w2.heap.size, 0, none⟩ = some (.int .i64 4) ∧ w'.cell? ⟨w2.heap.size, 1, none⟩ = some (.int .i64 0) ∧ w'.cell? ⟨w2.heap.size, 2, none⟩ = some (.int .i64 0) ∧ w'.cell? ⟨w2.heap.size, 3, none⟩ = some (.string ⟨#[]⟩) ∧ w'.cell? ⟨w2.heap.size, 4, none⟩ = some (.int .i64 1) ∧ w'.cell? ⟨w2.heap.size + 1, 0, none⟩ = some (.int .i64 6) ∧ w'.cell? ⟨w2.heap.size + 1, 1, none⟩ = some (.int .i64 0) ∧ w'.cell? ⟨w2.heap.size + 1, 2, none⟩ = some (.int .i64 0) ∧ w'.cell? ⟨w2.heap.size + 1, 3, none⟩ = some (.string ⟨#[102]⟩) ∧ w'.cell? ⟨w2.heap.size + 1, 4, none⟩ = some (.int .i64 0))
    (first | with_reducible exact SO.out _ HBc.out | with_reducible exact SO.out _ (HBc.out.alloc HBc.out.size _) | with_reducible exact SOQ.out _ HXc.out HXd.out)
    (first | (go_at_call 10; (with_reducible refine (HST.out _).mono ?_); rintro e nw1 ⟨rfl, hb⟩; have HBc := Lib.hid (below_next HBc.out hb); clear hb) | (go_at_call 9; (with_reducible refine (HSet.out _ HBc.out).mono ?_); rintro e nw2 ⟨rfl, O2, hP2, hq2⟩; have HX2 := Lib.hid hP2; have HXq := Lib.hid (below_qs (below_next (below_next HB2.out HBW.out) HBc.out) hq2); have HXa := Lib.hid (HKP.out _ _ _ HBc.out hq2); have HXc := Lib.hid HXa.out.1.1; have HXd := Lib.hid HXa.out.2.1; clear hP2 hq2))
  have hzq : w.heap.size ≤ nw2.heap.size := HXq.out.size
  have hzb : w2.heap.size + 1 < nw2.heap.size := (Array.getElem?_eq_some_iff.1 HXd.out).1
  have hzr : w.heap.size ≤ w2.heap.size := HB2.out.size
  obtain ⟨i5, hi5, hi5a, hi5b, hi5c⟩ := info_parts info25p
  go_wp2
  go_loopg [9, 10, 46] l.length (fun gg s9 s10 s46 wr => ∃ i g2 cap2, i + gg = l.length ∧ s46 = .int .i64 (i : Int) ∧ s9 = .slice (some ⟨g2, 0, none⟩) i cap2 ∧ s10 = .string (wantB l i) ∧ Hid (P1R w.heap.size nw2.heap.size h l cs w2.heap.size (w2.heap.size + 1) i (.slice (some ⟨g2, 0, none⟩) i cap2) w wr) ∧ Hid (∀ k, k < i → (sAt l k).size ≤ 4096))
  case atStart =>
    refine ⟨0, nw2.heap.size, 0, by omega, rfl, rfl, rfl, ⟨HXq.out.alloc hzq _, by simp, O2, HX2.out.below (below1 _ _), Held.below HXa.out.1 (below1 _ _), Held.below HXa.out.2 (below1 _ _), ⟨rfl, .inr ⟨_, 0, _, rfl, Nat.le_refl _, heap1 _ _, Nat.le_refl _, Nat.zero_le _, rfl, rfl⟩⟩, fun b hb e => ?_⟩, fun k hk => absurd hk (Nat.not_lt_zero k)⟩
    injection hb with hb
    subst hb
    exact Nat.lt_irrefl _ (HX2.out.lt _ e)
  case round =>
    obtain ⟨i, g2, cap2, hi, rfl, rfl, rfl, HK, HSz⟩ := hrel
    obtain ⟨hbw, hrb, O1, hP3, h6, h8, hrow⟩ := HK.out
    have HBr := Lib.hid (hbw)
    have HPr := Lib.hid (hP3)
    have H6 := Lib.hid (h6)
    have H8 := Lib.hid (h8)
    have HRw := Lib.hid (hrow)
    have hzw := hbw.size
    have hl6 := (Array.getElem?_eq_some_iff.1 h6.1).1
    have hl8 := (Array.getElem?_eq_some_iff.1 h8.1).1
    clear hbw hP3 h6 h8 hrow HK
    by_cases hlt : i < l.length
    · obtain ⟨s, hs⟩ : ∃ s, l[i]? = some s := ⟨_, List.getElem?_eq_getElem hlt⟩
      have hsa : sAt l i = s := by unfold sAt; rw [List.getD_eq_getElem?_getD, hs]; rfl
      obtain ⟨gs, os, rfl, hcs⟩ : ∃ gs os, so = some ⟨gs, os, none⟩ ∧ ∀ (i : Nat) s, l[i]? = some s → wr.cell? ⟨gs, os + i, none⟩ = some (.string s) := by
        rcases HS.out.below HBr.out with e | e
        · rw [e] at hlt; simp at hlt
        · exact e
      have hcell := hcs i s hs
      have hgs : gs < wr.heap.size := World.block_lt_of_cell? _ _ hcell
      have HSA := Lib.hid (hsa)
      have HSS := Lib.hid (hs)
      clear hcs hs hsa
      by_cases hlong : s.size ≤ 4096
      rotate_left
      · have d3 : decide ((s.size : Int) > 4096) = true := decide_eq_true (by omega)
        have d4 : (s.size : Int) > 4096 := by omega
        go_wp2_with fail
        refine (HAW.out _ HBr.out).mono ?_
        rintro e w3 ⟨rfl, hb⟩
        go_wp2
        go_ret
        exact bool_done rfl (HBr.out.trans (hb.mono hzw))
      · have d3 : decide ((s.size : Int) > 4096) = false := decide_eq_false (by omega)
        have d4 : ¬ (s.size : Int) > 4096 := by omega
        have HST := Lib.hid (fun W => lstr_x W s)
        go_upto_region 15 with (go_at_call 10; refine (HST.out _).mono ?_; rintro e w3 ⟨rfl, hb⟩; have HB3 := Lib.hid hb; have hcell3 := keepCell hb hcell; have hz3w := hb.size; clear hb)
        obtain ⟨W4, hW4⟩ : ∃ W4, W4 = w3.alloc (oV 3 0 0 s 0) := ⟨_, rfl⟩
        have HB4 := Lib.hid ((show Below wr.heap.size wr W4 by rw [hW4]; exact HB3.out.alloc hz3w _))
        have HV4 := Lib.hid ((show W4.heap[w3.heap.size]? = some (oV 3 0 0 s 0) by rw [hW4]; exact heap1 _ _))
        have hcell4 : W4.cell? ⟨gs, os + i, none⟩ = some (.string s) := by rw [hW4]; exact keepCell (below1 _ _) hcell3
        have hz4 : w3.heap.size < W4.heap.size := by rw [hW4]; simp
        have hgs4 : gs < W4.heap.size := by omega
        try rw [show w3.alloc (oV 3 0 0 s 0) = W4 from hW4.symm]
        clear hW4 hcell3 hcell
        have HP4 := Lib.hid (HPr.out.below HB4.out)
        have H64 := Lib.hid (H6.out.below HB4.out)
        have H84 := Lib.hid (H8.out.below HB4.out)
        have HR4 := Lib.hid (HRw.out.below HB4.out)
        have HBw4 := Lib.hid (HBr.out.trans (HB4.out.mono hzw))
        obtain ⟨b, hb, hbw⟩ := isT_ways HB.out HBw4.out i
        have HIT := Lib.hid (hb)
        clear hb
        rcases hbw with ⟨d6, d5, rfl⟩ | ⟨d6, d5, gb, ob, rfl, hbc, hgb⟩
        · obtain ⟨v0, v1, v2, v3, v4⟩ := cells5 HV4.out
          obtain ⟨xs, hxs⟩ : ∃ xs, xs = rowV (argL l cs i) := ⟨_, rfl⟩
          have HXS := Lib.hid (hxs)
          have HRx := Lib.hid ((show W4.ownsRow nw2.heap.size 30 5 (.slice (some ⟨g2, 0, none⟩) i cap2) i xs by have := HR4.out.1; rwa [argL_len, ← hxs] at this))
          clear hxs
          have hzW := HBw4.out.size
          go_wp2_with (at_builtin; refine wpList_append_own_at _ rfl (.tmp 81) (.tmp 83) 36 rfl nw2.heap.size 30 i5 _ 5 48 Tryz.underlying36 hi5 hi5a hi5b hi5c rfl (by decide) (.slice (some ⟨g2, 0, none⟩) i cap2) i xs rfl ?Aq1 _ 1 1 [.int .i64 3, .int .i64 0, .int .i64 0, .string s, .int .i64 0] rfl rfl ?Bq1 ?Cq1 ?Dq1 ?Eq1 ?Fq1 ?Gq1)
          case Aq1 => exact ownsRow_ext (below_ext (below1 _ _) (Nat.le_refl _)) HRx.out
          case Bq1 => exact cells5_at _ _ _ _ _ _ _ _ (by first | rfl | simp)
          case Cq1 =>
            intro u hu
            simp only [List.mem_cons, List.not_mem_nil, or_false] at hu
            rcases hu with rfl | rfl | rfl | rfl | rfl <;> simp [Value.oneCell']
          case Dq1 => unfold maxLen; omega
          case Eq1 => omega
          case Fq1 => simp; omega
          case Gq1 =>
            intro v' w5 hown hgrow _ hat
            obtain ⟨rb', cap', rfl⟩ := slice_shape hown (by omega)
            have hlo : ∀ b, (Value.slice (some ⟨g2, 0, none⟩) i cap2).ownBlock = some b → nw2.heap.size ≤ b := fun b hb => (ownBlock_lt HRx.out hb).1
            have HB5 := Lib.hid (below_grown (HBw4.out.alloc (by omega) _) hgrow (by simp; omega) (fun b hb => by have := hlo b hb; omega))
            have HP5 := Lib.hid (PHp.grown (HP4.out.below (below1 _ _)) hgrow (fun b hb => ⟨HR4.out.2 b hb, .inl (row_block (ownsRow_ext (below_ext (below1 _ _) (Nat.le_refl _)) HRx.out) hb)⟩))
            have H65 := Lib.hid (Held.grown (H64.out.below (below1 _ _)) hgrow (fun e => by have := hlo _ e; omega))
            have H85 := Lib.hid (Held.grown (H84.out.below (below1 _ _)) hgrow (fun e => by have := hlo _ e; omega))
            have HO5 := Lib.hid (hown)
            have hzG := hgrow.size
            simp at hzG
            have hcell5 : w5.cell? ⟨gs, os + i, none⟩ = some (.string s) := Strs.at_ (HS.out.below HB5.out) HSS.out
            have hgs5 : gs < w5.heap.size := World.block_lt_of_cell? _ _ hcell5
            have hno : ∀ b, (Value.slice (some ⟨rb', 0, none⟩) (i + 1) cap').ownBlock = some b → ¬ O1 b := fun b hb => by
              rcases hat with e | e
              · exact HR4.out.2 b (e ▸ hb)
              · rw [e] at hb
                injection hb with hb
                intro hob
                have := HP4.out.lt _ hob
                try simp at hb
                omega
            have HNO := Lib.hid (hno)
            have hnT : nT cs (i + 1) = nT cs i := by
              show nT cs i + (if isT cs i then 1 else 0) = _
              rw [HIT.out]; rfl
            have hrowE : rowV (argL l cs (i + 1)) = xs ++ [.int .i64 3, .int .i64 0, .int .i64 0, .string s, .int .i64 0] := by
              rw [HXS.out, argL_succ, rowV_append, show argV l cs i = strV s from by unfold argV; rw [HIT.out, HSA.out]; rfl]
              rfl
            have hp1 : P1R w.heap.size nw2.heap.size h l cs w2.heap.size (w2.heap.size + 1) (i + 1) (.slice (some ⟨rb', 0, none⟩) (i + 1) cap') w w5 := ⟨HB5.out, by omega, O1, by rw [hnT]; exact HP5.out, H65.out, H85.out, ⟨by rw [argL_len, hrowE]; exact HO5.out, HNO.out⟩⟩
            have hsz2 : ∀ k, k < i + 1 → (sAt l k).size ≤ 4096 := fun k hk => by
              by_cases hki : k < i
              · exact HSz.out k hki
              · have hke : k = i := by omega
                subst hke
                rw [HSA.out]; exact hlong
            have hws := want_size l i (by omega) HSz.out
            have HP1n := Lib.hid (hp1)
            have HSzn := Lib.hid (hsz2)
            clear hown hgrow hat hno hp1 hsz2 hlo v0 v1 v2 v3 v4
            have A1 := fun W => add_run (wantB l i) (⟨#[9]⟩ : ByteArray) (by have : (⟨#[9]⟩ : ByteArray).size = 1 := rfl; omega) W
            have A2 := fun W => add_run (wantB l i ++ (⟨#[9]⟩ : ByteArray)) s (by rw [ByteArray.size_append]; have : (⟨#[9]⟩ : ByteArray).size = 1 := rfl; omega) W
            have A3 := fun W => add_run (wantB l i) s (by omega) W
            by_cases hi0 : 0 < i
            · have d7 : decide ((i : Int) > 0) = true := decide_eq_true (by omega)
              go_wp2
              go_roundg (l.length - (i + 1))
              case measure => omega
              case rel => exact ⟨i + 1, rb', cap', by omega, by push_cast; rfl, rfl, by rw [want_succ l i s hi0 HSS.out], HP1n.out, HSzn.out⟩
            · have d7 : decide ((i : Int) > 0) = false := decide_eq_false (by omega)
              go_wp2
              go_roundg (l.length - (i + 1))
              case measure => omega
              case rel =>
                have hie : i = 0 := by omega
                exact ⟨i + 1, rb', cap', by omega, by push_cast; rfl, rfl, by subst hie; exact congrArg Value.string (want_one l s HSS.out), HP1n.out, HSzn.out⟩
        · cases b with
          | false =>
            obtain ⟨v0, v1, v2, v3, v4⟩ := cells5 HV4.out
            obtain ⟨xs, hxs⟩ : ∃ xs, xs = rowV (argL l cs i) := ⟨_, rfl⟩
            have HXS := Lib.hid (hxs)
            have HRx := Lib.hid ((show W4.ownsRow nw2.heap.size 30 5 (.slice (some ⟨g2, 0, none⟩) i cap2) i xs by have := HR4.out.1; rwa [argL_len, ← hxs] at this))
            clear hxs
            have hzW := HBw4.out.size
            go_wp2_with (at_builtin; refine wpList_append_own_at _ rfl (.tmp 81) (.tmp 83) 36 rfl nw2.heap.size 30 i5 _ 5 48 Tryz.underlying36 hi5 hi5a hi5b hi5c rfl (by decide) (.slice (some ⟨g2, 0, none⟩) i cap2) i xs rfl ?Aq2 _ 1 1 [.int .i64 3, .int .i64 0, .int .i64 0, .string s, .int .i64 0] rfl rfl ?Bq2 ?Cq2 ?Dq2 ?Eq2 ?Fq2 ?Gq2)
            case Aq2 => exact ownsRow_ext (below_ext (below1 _ _) (Nat.le_refl _)) HRx.out
            case Bq2 => exact cells5_at _ _ _ _ _ _ _ _ (by first | rfl | simp)
            case Cq2 =>
              intro u hu
              simp only [List.mem_cons, List.not_mem_nil, or_false] at hu
              rcases hu with rfl | rfl | rfl | rfl | rfl <;> simp [Value.oneCell']
            case Dq2 => unfold maxLen; omega
            case Eq2 => omega
            case Fq2 => simp; omega
            case Gq2 =>
              intro v' w5 hown hgrow _ hat
              obtain ⟨rb', cap', rfl⟩ := slice_shape hown (by omega)
              have hlo : ∀ b, (Value.slice (some ⟨g2, 0, none⟩) i cap2).ownBlock = some b → nw2.heap.size ≤ b := fun b hb => (ownBlock_lt HRx.out hb).1
              have HB5 := Lib.hid (below_grown (HBw4.out.alloc (by omega) _) hgrow (by simp; omega) (fun b hb => by have := hlo b hb; omega))
              have HP5 := Lib.hid (PHp.grown (HP4.out.below (below1 _ _)) hgrow (fun b hb => ⟨HR4.out.2 b hb, .inl (row_block (ownsRow_ext (below_ext (below1 _ _) (Nat.le_refl _)) HRx.out) hb)⟩))
              have H65 := Lib.hid (Held.grown (H64.out.below (below1 _ _)) hgrow (fun e => by have := hlo _ e; omega))
              have H85 := Lib.hid (Held.grown (H84.out.below (below1 _ _)) hgrow (fun e => by have := hlo _ e; omega))
              have HO5 := Lib.hid (hown)
              have hzG := hgrow.size
              simp at hzG
              have hcell5 : w5.cell? ⟨gs, os + i, none⟩ = some (.string s) := Strs.at_ (HS.out.below HB5.out) HSS.out
              have hgs5 : gs < w5.heap.size := World.block_lt_of_cell? _ _ hcell5
              have hno : ∀ b, (Value.slice (some ⟨rb', 0, none⟩) (i + 1) cap').ownBlock = some b → ¬ O1 b := fun b hb => by
                rcases hat with e | e
                · exact HR4.out.2 b (e ▸ hb)
                · rw [e] at hb
                  injection hb with hb
                  intro hob
                  have := HP4.out.lt _ hob
                  try simp at hb
                  omega
              have HNO := Lib.hid (hno)
              have hnT : nT cs (i + 1) = nT cs i := by
                show nT cs i + (if isT cs i then 1 else 0) = _
                rw [HIT.out]; rfl
              have hrowE : rowV (argL l cs (i + 1)) = xs ++ [.int .i64 3, .int .i64 0, .int .i64 0, .string s, .int .i64 0] := by
                rw [HXS.out, argL_succ, rowV_append, show argV l cs i = strV s from by unfold argV; rw [HIT.out, HSA.out]; rfl]
                rfl
              have hp1 : P1R w.heap.size nw2.heap.size h l cs w2.heap.size (w2.heap.size + 1) (i + 1) (.slice (some ⟨rb', 0, none⟩) (i + 1) cap') w w5 := ⟨HB5.out, by omega, O1, by rw [hnT]; exact HP5.out, H65.out, H85.out, ⟨by rw [argL_len, hrowE]; exact HO5.out, HNO.out⟩⟩
              have hsz2 : ∀ k, k < i + 1 → (sAt l k).size ≤ 4096 := fun k hk => by
                by_cases hki : k < i
                · exact HSz.out k hki
                · have hke : k = i := by omega
                  subst hke
                  rw [HSA.out]; exact hlong
              have hws := want_size l i (by omega) HSz.out
              have HP1n := Lib.hid (hp1)
              have HSzn := Lib.hid (hsz2)
              clear hown hgrow hat hno hp1 hsz2 hlo v0 v1 v2 v3 v4
              have A1 := fun W => add_run (wantB l i) (⟨#[9]⟩ : ByteArray) (by have : (⟨#[9]⟩ : ByteArray).size = 1 := rfl; omega) W
              have A2 := fun W => add_run (wantB l i ++ (⟨#[9]⟩ : ByteArray)) s (by rw [ByteArray.size_append]; have : (⟨#[9]⟩ : ByteArray).size = 1 := rfl; omega) W
              have A3 := fun W => add_run (wantB l i) s (by omega) W
              by_cases hi0 : 0 < i
              · have d7 : decide ((i : Int) > 0) = true := decide_eq_true (by omega)
                go_wp2
                go_roundg (l.length - (i + 1))
                case measure => omega
                case rel => exact ⟨i + 1, rb', cap', by omega, by push_cast; rfl, rfl, by rw [want_succ l i s hi0 HSS.out], HP1n.out, HSzn.out⟩
              · have d7 : decide ((i : Int) > 0) = false := decide_eq_false (by omega)
                go_wp2
                go_roundg (l.length - (i + 1))
                case measure => omega
                case rel =>
                  have hie : i = 0 := by omega
                  exact ⟨i + 1, rb', cap', by omega, by push_cast; rfl, rfl, by subst hie; exact congrArg Value.string (want_one l s HSS.out), HP1n.out, HSzn.out⟩
          | true =>
            have hk := nT_le cs i
            have hnt4 : Calls Tryz.prog 8 #[.pointer (some ⟨h, 0, none⟩)] W4 (fun e w' => e = .returned (.tuple #[.agg #[.int .i64 4, .int .i64 0, .int .i64 0, .string ⟨#[]⟩, .int .i64 ((nT cs i : Int) + 2)], .int .i64 0]) ∧ PHp w.heap.size 1 w' h (tM (nT cs i) ++ [⟨4, V.nil, []⟩]) (List.replicate (nT cs i + 1) [] ++ [[]]) O1 ∧ QS w.heap.size O1 W4 O1 w') := by
              have h := pNewTableP_c HP4.out (by omega) (by rw [tM_len]; omega)
              rw [tM_len, show ((nT cs i + 1 : Nat) : Int) + 1 = (nT cs i : Int) + 2 by push_cast; omega] at h
              exact h
            have HNT4 := Lib.hid (hnt4)
            clear hnt4
            go_upto_region 17 with (go_at_call 8; refine HNT4.out.mono ?_; rintro e w6 ⟨rfl, hP6, hq6⟩; have HP6 := Lib.hid hP6; have HQ6 := Lib.hid hq6; clear hP6 hq6)
            obtain ⟨W7, hW7⟩ : ∃ W7, W7 = w6.alloc (oV 4 0 0 ⟨#[]⟩ ((nT cs i : Int) + 2)) := ⟨_, rfl⟩
            have HBW7 := Lib.hid ((show Below w6.heap.size w6 W7 by rw [hW7]; exact below1 _ _))
            have HV7 := Lib.hid ((show W7.heap[w6.heap.size]? = some (oV 4 0 0 ⟨#[]⟩ ((nT cs i : Int) + 2)) by rw [hW7]; exact heap1 _ _))
            have hz6 := HQ6.out.size
            have hz7 : w6.heap.size < W7.heap.size := by rw [hW7]; simp
            try rw [show w6.alloc (oV 4 0 0 ⟨#[]⟩ ((nT cs i : Int) + 2)) = W7 from hW7.symm]
            clear hW7 hbc hgb
            have HP7 := Lib.hid (HP6.out.below HBW7.out)
            have HQ7 := Lib.hid (HQ6.out.trans (QS.of_below HBW7.out))
            have H67 := Lib.hid (H64.out.qs HQ7.out (npb (by decide)))
            have H67a := Lib.hid (H67.out.1)
            have HSM := Lib.hid (pSetMeta_c HP7.out (by omega) 4 0 0 ⟨#[]⟩ ((nT cs i : Int) + 2) 4 0 0 ⟨#[]⟩ 1 ⟨by omega, by omega⟩ (wf_tab ⟨by decide, by decide⟩))
            have hl7 : w2.heap.size < W7.heap.size := by omega
            obtain ⟨m0, m1, m2, m3, m4⟩ := cells5 H67a.out
            obtain ⟨t0, t1, t2, t3, t4⟩ := cells5 HV7.out
            go_wp2_with fail
            refine HSM.out.mono ?_
            rintro e w8 ⟨⟨v8, rfl⟩, hP8, hq8⟩
            have HP8 := Lib.hid ((show PHp w.heap.size 1 w8 h (tM (nT cs i + 1)) (List.replicate (nT cs i + 1 + 1) []) O1 by rw [← meta_tab, List.replicate_succ']; exact hP8))
            have HQ8 := Lib.hid (HQ7.out.trans hq8)
            have HV8 := Lib.hid (((Held.qs (O := O1) ⟨HV7.out, fun e => by have := HP4.out.lt _ e; omega⟩ hq8 (npb (by decide)))).1)
            have hz8 := hq8.size
            clear hP8 hq8 m0 m1 m2 m3 m4 t0 t1 t2 t3 t4
            have HV48 := Lib.hid (Held.qs (O := O1) ⟨HV4.out, fun e => by have := HPr.out.lt _ e; omega⟩ HQ8.out (npb (by decide)))
            have HV48a := Lib.hid (HV48.out.1)
            have hl8a : w6.heap.size < w8.heap.size := by omega
            have hl8b : w3.heap.size < w8.heap.size := by omega
            obtain ⟨t0, t1, t2, t3, t4⟩ := cells5 HV8.out
            obtain ⟨x0, x1, x2, x3, x4⟩ := cells5 HV48a.out
            obtain ⟨fx0, fx1, fx2, fx3, fx4⟩ := froz5 HV48a.out
            go_upto_region 19 with fail
            obtain ⟨W9, hW9⟩ : ∃ W9, W9 = ((((w8.setCell ⟨w3.heap.size, 0, none⟩ (.int .i64 4)).setCell ⟨w3.heap.size, 1, none⟩ (.int .i64 0)).setCell ⟨w3.heap.size, 2, none⟩ (.int .i64 0)).setCell ⟨w3.heap.size, 3, none⟩ (.string ⟨#[]⟩)).setCell ⟨w3.heap.size, 4, none⟩ (.int .i64 ((nT cs i : Int) + 2)) := ⟨_, rfl⟩
            have HM9 := Lib.hid ((show Mods (fun k => k = w3.heap.size) w8 W9 by rw [hW9]; exact mods_five (F := fun k => k = w3.heap.size) (Mods.refl _ _) (.inl rfl) _ _ _ _ _))
            have HV9 := Lib.hid ((show W9.heap[w3.heap.size]? = some (oV 4 0 0 ⟨#[]⟩ ((nT cs i : Int) + 2)) by rw [hW9]; exact heap_five_at HV48a.out _ _ _ _ _))
            try rw [show ((((w8.setCell ⟨w3.heap.size, 0, none⟩ (.int .i64 4)).setCell ⟨w3.heap.size, 1, none⟩ (.int .i64 0)).setCell ⟨w3.heap.size, 2, none⟩ (.int .i64 0)).setCell ⟨w3.heap.size, 3, none⟩ (.string ⟨#[]⟩)).setCell ⟨w3.heap.size, 4, none⟩ (.int .i64 ((nT cs i : Int) + 2)) = W9 from hW9.symm]
            have hz9 : w8.heap.size ≤ W9.heap.size := HM9.out.size
            clear hW9 t0 t1 t2 t3 t4 x0 x1 x2 x3 x4 fx0 fx1 fx2 fx3 fx4
            have HP9 := Lib.hid (HP8.out.modsV HV48a.out HV48.out.2 HM9.out)
            have H69 := Lib.hid ((show Held W9 O1 w2.heap.size (oV 4 0 0 ⟨#[]⟩ 1) from ⟨mkeep HM9.out (H64.out.qs HQ8.out (npb (by decide))).1 (by omega), (H64.out.qs HQ8.out (npb (by decide))).2⟩))
            have H89 := Lib.hid ((show Held W9 O1 (w2.heap.size + 1) (oV 6 0 0 ⟨#[102]⟩ 0) from ⟨mkeep HM9.out (H84.out.qs HQ8.out (npb (by decide))).1 (by omega), (H84.out.qs HQ8.out (npb (by decide))).2⟩))
            have HR9 := Lib.hid ((show HeldRow W9 O1 nw2.heap.size (.slice (some ⟨g2, 0, none⟩) i cap2) (argL l cs i) from ⟨ownsRow_keep (HR4.out.qs HQ8.out).1 (fun b hb => HM9.out.block b (ownBlock_lt (HR4.out.qs HQ8.out).1 hb).2 (fun e => by have := (ownBlock_lt HRw.out.1 hb).2; omega)), HR4.out.2⟩))
            have HBw9 := Lib.hid ((show Below w.heap.size w W9 from (below_qs HBw4.out HQ8.out).trans (Mods.below HM9.out (show w.heap.size ≤ w8.heap.size by omega) (fun k hk e => by omega))))
            have hgs9 : gs < W9.heap.size := by omega
            have hz4w : W4.heap.size ≤ W9.heap.size := by omega
            obtain ⟨v0, v1, v2, v3, v4⟩ := cells5 HV9.out
            obtain ⟨xs, hxs⟩ : ∃ xs, xs = rowV (argL l cs i) := ⟨_, rfl⟩
            have HXS := Lib.hid (hxs)
            have HRx := Lib.hid ((show W9.ownsRow nw2.heap.size 30 5 (.slice (some ⟨g2, 0, none⟩) i cap2) i xs by have := HR9.out.1; rwa [argL_len, ← hxs] at this))
            clear hxs
            have hzW := HBw9.out.size
            go_wp2_with (at_builtin; refine wpList_append_own_at _ rfl (.tmp 81) (.tmp 83) 36 rfl nw2.heap.size 30 i5 _ 5 48 Tryz.underlying36 hi5 hi5a hi5b hi5c rfl (by decide) (.slice (some ⟨g2, 0, none⟩) i cap2) i xs rfl ?Aq3 _ 1 1 [.int .i64 4, .int .i64 0, .int .i64 0, .string ⟨#[]⟩, .int .i64 ((nT cs i : Int) + 2)] rfl rfl ?Bq3 ?Cq3 ?Dq3 ?Eq3 ?Fq3 ?Gq3)
            case Aq3 => exact ownsRow_ext (below_ext (below1 _ _) (Nat.le_refl _)) HRx.out
            case Bq3 => exact cells5_at _ _ _ _ _ _ _ _ (by first | rfl | simp)
            case Cq3 =>
              intro u hu
              simp only [List.mem_cons, List.not_mem_nil, or_false] at hu
              rcases hu with rfl | rfl | rfl | rfl | rfl <;> simp [Value.oneCell']
            case Dq3 => unfold maxLen; omega
            case Eq3 => omega
            case Fq3 => simp; omega
            case Gq3 =>
              intro v' w5 hown hgrow _ hat
              obtain ⟨rb', cap', rfl⟩ := slice_shape hown (by omega)
              have hlo : ∀ b, (Value.slice (some ⟨g2, 0, none⟩) i cap2).ownBlock = some b → nw2.heap.size ≤ b := fun b hb => (ownBlock_lt HRx.out hb).1
              have HB5 := Lib.hid (below_grown (HBw9.out.alloc (by omega) _) hgrow (by simp; omega) (fun b hb => by have := hlo b hb; omega))
              have HP5 := Lib.hid (PHp.grown (HP9.out.below (below1 _ _)) hgrow (fun b hb => ⟨HR9.out.2 b hb, .inl (row_block (ownsRow_ext (below_ext (below1 _ _) (Nat.le_refl _)) HRx.out) hb)⟩))
              have H65 := Lib.hid (Held.grown (H69.out.below (below1 _ _)) hgrow (fun e => by have := hlo _ e; omega))
              have H85 := Lib.hid (Held.grown (H89.out.below (below1 _ _)) hgrow (fun e => by have := hlo _ e; omega))
              have HO5 := Lib.hid (hown)
              have hzG := hgrow.size
              simp at hzG
              have hcell5 : w5.cell? ⟨gs, os + i, none⟩ = some (.string s) := Strs.at_ (HS.out.below HB5.out) HSS.out
              have hgs5 : gs < w5.heap.size := World.block_lt_of_cell? _ _ hcell5
              have hno : ∀ b, (Value.slice (some ⟨rb', 0, none⟩) (i + 1) cap').ownBlock = some b → ¬ O1 b := fun b hb => by
                rcases hat with e | e
                · exact HR9.out.2 b (e ▸ hb)
                · rw [e] at hb
                  injection hb with hb
                  intro hob
                  have := HP9.out.lt _ hob
                  try simp at hb
                  omega
              have HNO := Lib.hid (hno)
              have hnT : nT cs (i + 1) = nT cs i + 1 := by
                show nT cs i + (if isT cs i then 1 else 0) = _
                rw [HIT.out]; rfl
              have hrowE : rowV (argL l cs (i + 1)) = xs ++ [.int .i64 4, .int .i64 0, .int .i64 0, .string ⟨#[]⟩, .int .i64 ((nT cs i : Int) + 2)] := by
                rw [HXS.out, argL_succ, rowV_append, show argV l cs i = ⟨4, 0, 0, ⟨#[]⟩, (nT cs i : Int) + 2⟩ from by unfold argV; rw [HIT.out]; rfl]
                rfl
              have hp1 : P1R w.heap.size nw2.heap.size h l cs w2.heap.size (w2.heap.size + 1) (i + 1) (.slice (some ⟨rb', 0, none⟩) (i + 1) cap') w w5 := ⟨HB5.out, by omega, O1, by rw [hnT]; exact HP5.out, H65.out, H85.out, ⟨by rw [argL_len, hrowE]; exact HO5.out, HNO.out⟩⟩
              have hsz2 : ∀ k, k < i + 1 → (sAt l k).size ≤ 4096 := fun k hk => by
                by_cases hki : k < i
                · exact HSz.out k hki
                · have hke : k = i := by omega
                  subst hke
                  rw [HSA.out]; exact hlong
              have hws := want_size l i (by omega) HSz.out
              have HP1n := Lib.hid (hp1)
              have HSzn := Lib.hid (hsz2)
              clear hown hgrow hat hno hp1 hsz2 hlo v0 v1 v2 v3 v4
              have A1 := fun W => add_run (wantB l i) (⟨#[9]⟩ : ByteArray) (by have : (⟨#[9]⟩ : ByteArray).size = 1 := rfl; omega) W
              have A2 := fun W => add_run (wantB l i ++ (⟨#[9]⟩ : ByteArray)) s (by rw [ByteArray.size_append]; have : (⟨#[9]⟩ : ByteArray).size = 1 := rfl; omega) W
              have A3 := fun W => add_run (wantB l i) s (by omega) W
              by_cases hi0 : 0 < i
              · have d7 : decide ((i : Int) > 0) = true := decide_eq_true (by omega)
                go_wp2
                go_roundg (l.length - (i + 1))
                case measure => omega
                case rel => exact ⟨i + 1, rb', cap', by omega, by push_cast; rfl, rfl, by rw [want_succ l i s hi0 HSS.out], HP1n.out, HSzn.out⟩
              · have d7 : decide ((i : Int) > 0) = false := decide_eq_false (by omega)
                go_wp2
                go_roundg (l.length - (i + 1))
                case measure => omega
                case rel =>
                  have hie : i = 0 := by omega
                  exact ⟨i + 1, rb', cap', by omega, by push_cast; rfl, rfl, by subst hie; exact congrArg Value.string (want_one l s HSS.out), HP1n.out, HSzn.out⟩
    · have hii : i = l.length := by omega
      subst hii
      have HP2 := Lib.hid (HPr.out)
      obtain ⟨cv, hcv⟩ := row_block HRw.out.1 (b := g2) rfl
      have HGx := Lib.hid ((⟨hcv, HRw.out.2 g2 rfl⟩ : Held wr O1 g2 (.cells cv 30)))
      have hvals : Vals wr (.slice (some ⟨g2, 0, none⟩) l.length cap2) (argL l cs l.length) := by
        have := Vals.of_row HRw.out.1
        exact this
      obtain ⟨j, kind, f, A, s, level, next, Kp, hnx, hact, hcall⟩ := begin_ex wr (HSP.out _ HBr.out) h g2 0 cap2 cv l cs hvals hl HPr.out HGx.out (by omega) HSz.out (fun k hk hb => nT_lt cs l.length k hk hb)
      obtain ⟨fk, fp, fq, fs, fr⟩ := f
      have HNX := Lib.hid (hnx)
      have HACT := Lib.hid (hact)
      unfold prtN at hcall
      have HCALL := Lib.hid (hcall)
      clear hcv hvals hnx hact hcall
      obtain ⟨K, hK⟩ : ∃ K, K = nT cs l.length := ⟨_, rfl⟩
      rw [← hK] at HACT HCALL
      have hKle : K ≤ 20 := by rw [hK]; have := nT_le cs l.length; omega
      have hT : ∀ k, k < l.length → isT cs k = true → nT cs k < K := fun k hk hb => by rw [hK]; exact nT_lt cs l.length k hk hb
      have HTT := Lib.hid (hT)
      clear hT hK
      go_wp2_with fail
      refine (HCALL.out).mono ?_
      rintro e w4 ⟨so3, cap3, sk3, ck3, O3, rfl, hr, hkp, hhp, hq, hno, hlt3⟩
      have HR4 := Lib.hid (hr)
      have HK4 := Lib.hid (hkp)
      have HHP := Lib.hid (hhp)
      have HQ4 := Lib.hid (hq)
      have HNO := Lib.hid (hno)
      have HLT := Lib.hid (hlt3)
      have hz4 := hq.size
      clear hr hkp hhp hq hno hlt3
      go_wp2
      rename World => wq
      obtain ⟨b15, hb15⟩ : ∃ b15, b15 = wq.heap.size := ⟨_, rfl⟩
      go_loopg [101] l.length (fun gg s101 wx => ∃ i, i + gg = l.length ∧ s101 = .int .i64 (i : Int) ∧ Hid (P2R w.heap.size nw2.heap.size h K l cs (w2.heap.size + 1) wq.heap.size g2 cap2 i w wx))
      case atStart =>
        refine ⟨0, by omega, rfl, (below_qs HBr.out HQ4.out).alloc (by omega) _, j, kind, fk, fp, fq, fs, fr, A, s, level, next, Kp, so3, cap3, sk3, ck3, O3, HNX.out, HACT.out, ⟨heap1 _ _, fun e => Nat.lt_irrefl _ (HLT.out _ e)⟩, ownsRow_base (ownsRow_ext (below_ext (below1 _ _) (Nat.le_refl _)) HR4.out) (Nat.zero_le _), ownsRow_base (ownsRow_ext (below_ext (below1 _ _) (Nat.le_refl _)) HK4.out) (Nat.zero_le _), HHP.out.imp id (fun hp => hp.below (below1 _ _)), HNO.out, fun b hb => Nat.lt_of_lt_of_le (HLT.out b hb) (by simp), (H8.out.qs HQ4.out (npb (by decide))).below (below1 _ _), (HRw.out.qs HQ4.out).below (below1 _ _)⟩
      case round =>
        obtain ⟨i, hi, rfl, HK2⟩ := hrel
        obtain ⟨hbw, j, kind, fk, fp, fq, fs, fr, A, s, level, next, Kp, so5, cap5, sk5, ck5, O5, hnx, hact, h15, hrA, hrK, hhp, hno, hlt5, h8, hrow⟩ := HK2.out
        have HBr2 := Lib.hid (hbw)
        have HNX2 := Lib.hid (hnx)
        have HAC2 := Lib.hid (hact)
        have H15 := Lib.hid (h15)
        have H15a := Lib.hid (h15.1)
        have HRA := Lib.hid (hrA)
        have HRK := Lib.hid (hrK)
        have HHP2 := Lib.hid (hhp)
        have HNO2 := Lib.hid (hno)
        have HLT2 := Lib.hid (hlt5)
        have H82 := Lib.hid (h8)
        have H82a := Lib.hid (h8.1)
        have HRow2 := Lib.hid (hrow)
        have hzw2 := hbw.size
        have hl15 := (Array.getElem?_eq_some_iff.1 h15.1).1
        have hl82 := (Array.getElem?_eq_some_iff.1 h8.1).1
        clear hbw hnx hact h15 hrA hrK hhp hno hlt5 h8 hrow HK2
        by_cases hlt : i < l.length
        · obtain ⟨b, hb, hbw⟩ := isT_ways HB.out HBr2.out i
          have HIT2 := Lib.hid (hb)
          clear hb
          have skip : isT cs i = false → NX cs l.length (i + 1) j := fun hf => by
            obtain ⟨n1, n2, n3, n4⟩ := HNX2.out
            refine ⟨?_, n2, fun k h1 h2 => n3 k (by omega) h2, n4⟩
            by_cases he : i = j
            · subst he; rw [n4 hlt] at hf; cases hf
            · omega
          have HSK := Lib.hid (skip)
          clear skip
          rcases hbw with ⟨d6, d5, rfl⟩ | ⟨d6, d5, gb, ob, rfl, hbc, hgb⟩
          · have d8 : decide ((i : Int) ≥ (cs.length : Int)) = true := decide_eq_true (by omega)
            go_wp2
            go_roundg (l.length - (i + 1))
            case measure => omega
            case rel => exact ⟨i + 1, by omega, by push_cast; rfl, HBr2.out, j, kind, fk, fp, fq, fs, fr, A, s, level, next, Kp, so5, cap5, sk5, ck5, O5, HSK.out HIT2.out, HAC2.out, H15.out, HRA.out, HRK.out, HHP2.out, HNO2.out, HLT2.out, H82.out, HRow2.out⟩
          · have d8 : decide ((i : Int) ≥ (cs.length : Int)) = false := decide_eq_false (by omega)
            have d9 : ¬ cs.length ≤ i := by omega
            cases b with
            | false =>
              go_wp2
              go_roundg (l.length - (i + 1))
              case measure => omega
              case rel => exact ⟨i + 1, by omega, by push_cast; rfl, HBr2.out, j, kind, fk, fp, fq, fs, fr, A, s, level, next, Kp, so5, cap5, sk5, ck5, O5, HSK.out HIT2.out, HAC2.out, H15.out, HRA.out, HRK.out, HHP2.out, HNO2.out, HLT2.out, H82.out, HRow2.out⟩
            | true =>
              have hje : j = i := by
                obtain ⟨n1, n2, n3, n4⟩ := HNX2.out
                by_cases he : i = j
                · exact he.symm
                · have := n3 i (Nat.le_refl _) (by omega)
                  rw [HIT2.out] at this; cases this
              subst hje
              obtain ⟨rfl, hf, rfl, rfl, rfl⟩ : kind = 3 ∧ (⟨fk, fp, fq, fs, fr⟩ : V) = fV ∧ A = [argV l cs j] ∧ next = 1 ∧ Kp = [⟨4, 0, 0, ⟨#[]⟩, ((K + 1 : Nat) : Int) + 1⟩, nmV ((j : Int) + 1), nmV l.length] := by
                rcases HAC2.out with ⟨_, h1, h2, h3, h4, h5⟩ | ⟨h1, _⟩
                · exact ⟨h1, h2, h3, h4, h5⟩
                · omega
              injection hf with e1 e2 e3 e4 e5
              subst e1 e2 e3 e4 e5
              have hav : argV l cs j = ⟨4, 0, 0, ⟨#[]⟩, (nT cs j : Int) + 2⟩ := by unfold argV; rw [HIT2.out]; rfl
              have hgA : (argL l cs l.length)[j]? = some ⟨4, 0, 0, ⟨#[]⟩, (nT cs j : Int) + 2⟩ := by
                rw [← mix_zero, mix_get _ _ _ _ _ hlt, if_neg (Nat.not_lt_zero j), hav]
              have hva := Vals.at_ (show Vals wr (.slice (some ⟨g2, 0, none⟩) l.length cap2) (argL l cs l.length) from Vals.of_row HRow2.out.1) hgA
              have HGa := Lib.hid ((show wr.cell? ⟨g2, j * 5, none⟩ = some (.int .i64 4) ∧ wr.cell? ⟨g2, j * 5 + 1, none⟩ = some (.int .i64 0) ∧ wr.cell? ⟨g2, j * 5 + 2, none⟩ = some (.int .i64 0) ∧ wr.cell? ⟨g2, j * 5 + 3, none⟩ = some (.string ⟨#[]⟩) ∧ wr.cell? ⟨g2, j * 5 + 4, none⟩ = some (.int .i64 ((nT cs j : Int) + 2)) by have := hva.2; rwa [Nat.zero_add] at this))
              have hg2l : g2 < wr.heap.size := hva.1
              have hrA1 : Vals wr (.slice so5 1 cap5) [⟨4, 0, 0, ⟨#[]⟩, (nT cs j : Int) + 2⟩] := by
                have := Vals.of_row HRA.out
                rw [hav] at this
                exact this
              have HVA := Lib.hid (hrA1)
              clear hva hrA1 hgA
              have HSame := Lib.hid (fun (W : World) (b : Nat) (hb : Below wr.heap.size wr W) (hx : W.heap[b]? = some (oV 4 0 0 ⟨#[]⟩ ((nT cs j : Int) + 2))) => (show Calls Tryz.prog 13 #[.slice so5 1 cap5, .slice (some ⟨b, 0, none⟩) 1 1] W (fun e w' => e = .returned (.bool true) ∧ Below W.heap.size W w') from same_true W so5 (some ⟨b, 0, none⟩) 1 1 cap5 1 [⟨4, 0, 0, ⟨#[]⟩, (nT cs j : Int) + 2⟩] (Vals.below HVA.out hb) (vals_block (A := [⟨4, 0, 0, ⟨#[]⟩, (nT cs j : Int) + 2⟩]) hx) (by simp)))
              have hnq : ∀ W : World, (binOp .neq 30 (.agg #[.int .i64 6, .int .i64 0, .int .i64 0, .string ⟨#[102]⟩, .int .i64 0]) (.agg #[.int .i64 6, .int .i64 0, .int .i64 0, .string ⟨#[102]⟩, .int .i64 0])).run Tryz.prog W = .ok (.bool false) W := fun W => by
                have h := neq_run W 6 0 0 ⟨#[102]⟩ 0 6 0 0 ⟨#[102]⟩ 0
                rw [eqV_self] at h
                exact h
              go_upto_region 29 with fail
              have SO := Lib.hid (fun (W : World) (hb : Below wr.heap.size wr W) => (show W.cell? ⟨wq.heap.size, 0, none⟩ = some (.int .i64 3) ∧ W.cell? ⟨wq.heap.size, 2, none⟩ = some (.int .i64 6) ∧ W.cell? ⟨wq.heap.size, 3, none⟩ = some (.int .i64 0) ∧ W.cell? ⟨wq.heap.size, 4, none⟩ = some (.int .i64 0) ∧ W.cell? ⟨wq.heap.size, 5, none⟩ = some (.string ⟨#[102]⟩) ∧ W.cell? ⟨wq.heap.size, 6, none⟩ = some (.int .i64 0) ∧ W.cell? ⟨wq.heap.size, 7, none⟩ = some (.slice so5 1 cap5) ∧ W.cell? ⟨(w2.heap.size + 1), 0, none⟩ = some (.int .i64 6) ∧ W.cell? ⟨(w2.heap.size + 1), 1, none⟩ = some (.int .i64 0) ∧ W.cell? ⟨(w2.heap.size + 1), 2, none⟩ = some (.int .i64 0) ∧ W.cell? ⟨(w2.heap.size + 1), 3, none⟩ = some (.string ⟨#[102]⟩) ∧ W.cell? ⟨(w2.heap.size + 1), 4, none⟩ = some (.int .i64 0) ∧ W.cell? ⟨g2, j * 5, none⟩ = some (.int .i64 4) ∧ W.cell? ⟨g2, j * 5 + 1, none⟩ = some (.int .i64 0) ∧ W.cell? ⟨g2, j * 5 + 2, none⟩ = some (.int .i64 0) ∧ W.cell? ⟨g2, j * 5 + 3, none⟩ = some (.string ⟨#[]⟩) ∧ W.cell? ⟨g2, j * 5 + 4, none⟩ = some (.int .i64 ((nT cs j : Int) + 2)) from ⟨(cells12 (hkeep hb H15a.out)).1, (cells12 (hkeep hb H15a.out)).2.2.1, (cells12 (hkeep hb H15a.out)).2.2.2.1, (cells12 (hkeep hb H15a.out)).2.2.2.2.1, (cells12 (hkeep hb H15a.out)).2.2.2.2.2.1, (cells12 (hkeep hb H15a.out)).2.2.2.2.2.2.1, (cells12 (hkeep hb H15a.out)).2.2.2.2.2.2.2.1, (cells5 (hkeep hb H82a.out)).1, (cells5 (hkeep hb H82a.out)).2.1, (cells5 (hkeep hb H82a.out)).2.2.1, (cells5 (hkeep hb H82a.out)).2.2.2.1, (cells5 (hkeep hb H82a.out)).2.2.2.2, keepCell hb ((HGa.out).1), keepCell hb ((HGa.out).2.1), keepCell hb ((HGa.out).2.2.1), keepCell hb ((HGa.out).2.2.2.1), keepCell hb ((HGa.out).2.2.2.2)⟩))
              have HBc := Lib.hid ((Below.refl wr.heap.size wr).drew)
              have HBo := Lib.hid ((Below.refl wr.heap.size wr).alloc (Nat.le_refl _) (oV 4 0 0 ⟨#[]⟩ ((nT cs j : Int) + 2)))
              have HBd := Lib.hid (((Below.refl wr.heap.size wr).alloc (Nat.le_refl _) (oV 4 0 0 ⟨#[]⟩ ((nT cs j : Int) + 2))).drew)
              go_region_held3 (fun w' => w'.cell? ⟨wq.heap.size, 0, none⟩ = some (.int .i64 3) ∧ w'.cell? ⟨wq.heap.size, 2, none⟩ = some (.int .i64 6) ∧ w'.cell? ⟨wq.heap.size, 3, none⟩ = some (.int .i64 0) ∧ w'.cell? ⟨wq.heap.size, 4, none⟩ = some (.int .i64 0) ∧ w'.cell? ⟨wq.heap.size, 5, none⟩ = some (.string ⟨#[102]⟩) ∧ w'.cell? ⟨wq.heap.size, 6, none⟩ = some (.int .i64 0) ∧ w'.cell? ⟨wq.heap.size, 7, none⟩ = some (.slice so5 1 cap5) ∧ w'.cell? ⟨(w2.heap.size + 1), 0, none⟩ = some (.int .i64 6) ∧ w'.cell? ⟨(w2.heap.size + 1), 1, none⟩ = some (.int .i64 0) ∧ w'.cell? ⟨(w2.heap.size + 1), 2, none⟩ = some (.int .i64 0) ∧ w'.cell? ⟨(w2.heap.size + 1), 3, none⟩ = some (.string ⟨#[102]⟩) ∧ w'.cell? ⟨(w2.heap.size + 1), 4, none⟩ = some (.int .i64 0) ∧ w'.cell? ⟨g2, j * 5, none⟩ = some (.int .i64 4) ∧ w'.cell? ⟨g2, j * 5 + 1, none⟩ = some (.int .i64 0) ∧ w'.cell? ⟨g2, j * 5 + 2, none⟩ = some (.int .i64 0) ∧ w'.cell? ⟨g2, j * 5 + 3, none⟩ = some (.string ⟨#[]⟩) ∧ w'.cell? ⟨g2, j * 5 + 4, none⟩ = some (.int .i64 ((nT cs j : Int) + 2)))
                (first | with_reducible exact SO.out _ HBc.out | with_reducible exact SO.out _ HBo.out | with_reducible exact SO.out _ HBd.out)
                (first | (go_at_call 13; (with_reducible refine (HSame.out _ _ HBd.out (heap_newA _ _)).mono ?_); rintro e nw1 ⟨rfl, hb⟩; have HBc := Lib.hid (below_next HBd.out hb); clear hb))
              go_upto_region 31 with fail
              have hzn := HBc.out.size
              have HBn := Lib.hid (HBr2.out.trans (HBc.out.mono hzw2))
              have H15n := Lib.hid (H15.out.below HBc.out)
              have H15na := Lib.hid (H15n.out.1)
              have H8n := Lib.hid (H82.out.below HBc.out)
              have HRn := Lib.hid (HRow2.out.below HBc.out)
              have hlj : l[j]? = some (sAt l j) := by
                unfold sAt
                rw [List.getD_eq_getElem?_getD, List.getElem?_eq_getElem hlt]
                rfl
              obtain ⟨gs, os, rfl⟩ : ∃ gs os, so = some ⟨gs, os, none⟩ := by
                rcases HS.out with e | ⟨g, o, e, _⟩
                · rw [e] at hlt; simp at hlt
                · exact ⟨g, o, e⟩
              have HLJ := Lib.hid (hlj)
              have HLc := Lib.hid (fun (W : World) (hb : Below w.heap.size w W) => Strs.at_ (HS.out.below hb) HLJ.out)
              have hgsl : gs < nw1.heap.size := World.block_lt_of_cell? _ _ (HLc.out _ HBn.out)
              clear hlj
              obtain ⟨gk, ck6, e6⟩ := slice_shape HRK.out (by simp)
              injection e6 with e6 e7 e8
              subst e6
              clear e7 e8
              obtain ⟨cv2, hcv2⟩ := row_block HRK.out (b := gk) rfl
              have hpp : PHp w.heap.size (1 + l.length) wr h (tM K ++ [⟨4, V.nil, []⟩]) (List.replicate (K + 1) [] ++ [mixL l cs l.length j]) O5 := HHP2.out.resolve_left (by omega)
              have hgk : Held wr O5 gk (.cells cv2 30) := ⟨hcv2, HNO2.out gk rfl⟩
              have hkv : Vals wr (.slice (some ⟨gk, 0, none⟩) 3 ck5) [⟨4, 0, 0, ⟨#[]⟩, ((K + 1 : Nat) : Int) + 1⟩, nmV ((j : Int) + 1), nmV l.length] := Vals.of_row HRK.out
              have hnxt := fun (W : World) (b : Nat) (hb : Below nw1.heap.size nw1 W) (hx : W.heap[b]? = some (oV 3 0 0 (sAt l j) 0)) => next_ex W (HSP.out _ (HBn.out.trans (hb.mono (by omega)))) h K l cs hl hKle j hlt (hpp.below (below_next HBc.out hb)) (by have := hb.size; omega) gk ck5 cv2 (Vals.below hkv (below_next HBc.out hb)) (hgk.below (below_next HBc.out hb)) (some ⟨b, 0, none⟩) 1 (vals_block (A := [strV (sAt l j)]) hx) HSz.out HTT.out
              unfold prtN at hnxt
              have HST2 := Lib.hid (fun W => lstr_x W (sAt l j))
              clear hcv2 hpp hgk hkv
              have p10 : nw1.cell? ⟨wq.heap.size, 10, none⟩ = some (.int .i64 1) := (cells12 H15na.out).2.2.2.2.2.2.2.2.2.2.1
              have p11 : nw1.cell? ⟨wq.heap.size, 11, none⟩ = some (.slice (some ⟨gk, 0, none⟩) 3 ck5) := (cells12 H15na.out).2.2.2.2.2.2.2.2.2.2.2
              have pl := HLc.out _ HBn.out
              have hlq : wq.heap.size < nw1.heap.size := (Array.getElem?_eq_some_iff.1 H15na.out).1
              have hwq : w.heap.size ≤ wq.heap.size := by omega
              have hnx2 : ∀ (W : World), Below nw1.heap.size nw1 W → ∃ kind2 fk2 fp2 fq2 fs2 fr2 A2 s2 level2 next2 Kp2, Calls Tryz.prog 14 #[.pointer (some ⟨h, 0, none⟩), .string ⟨#[112, 114, 105, 110, 116]⟩, .int .i64 1, .slice (some ⟨gk, 0, none⟩) 3 ck5, .bool true, .slice (some ⟨W.heap.size, 0, none⟩) 1 1] (W.alloc (oV 3 0 0 (sAt l j) 0)) (fun e w' => ∃ so6 cap6 sk6 ck6, e = .returned (acV kind2 0 ⟨fk2, fp2, fq2, fs2, fr2⟩ (.slice so6 (List.length (α := V) A2) cap6) s2 level2 next2 (.slice sk6 (List.length (α := V) Kp2) ck6)) ∧ w'.heap[wq.heap.size]? = some (oAcV 3 6 0 0 ⟨#[102]⟩ 0 (.slice so5 1 cap5) s level 1 (.slice (some ⟨gk, 0, none⟩) 3 ck5)) ∧ P2R w.heap.size nw2.heap.size h K l cs (w2.heap.size + 1) wq.heap.size g2 cap2 (j + 1) w (st12 w' wq.heap.size kind2 fk2 fp2 fq2 fs2 fr2 so6 A2 cap6 s2 level2 next2 sk6 Kp2 ck6)) := fun W hb => by
                have hba := hb.alloc hb.size (oV 3 0 0 (sAt l j) 0)
                obtain ⟨j2, kind2, ⟨fk2, fp2, fq2, fs2, fr2⟩, A2, s2, level2, next2, Kp2, hnx2, hact2, hcall2⟩ := hnxt (W.alloc (oV 3 0 0 (sAt l j) 0)) W.heap.size hba (heap_new _ _)
                refine ⟨kind2, fk2, fp2, fq2, fs2, fr2, A2, s2, level2, next2, Kp2, hcall2.mono ?_⟩
                rintro e nw6 ⟨so6, cap6, sk6, ck6, O6, rfl, hr6, hk6, hhp6, hq6, hno6, hlt6⟩
                have HX15 := (H15n.out.below hba).qs hq6 (npb (by decide))
                have hzz := hb.size
                exact ⟨so6, cap6, sk6, ck6, rfl, HX15.1, p2r_end (h := h) (K := K) (b8 := w2.heap.size + 1) (below_qs (HBn.out.trans (hba.mono (by omega))) hq6) hnx2 hact2 HX15 hr6 hk6 (by simp; omega) hhp6 hno6 hlt6 ((H8n.out.below hba).qs hq6 (npb (by decide))) ((HRn.out.below hba).qs hq6) hwq⟩
              have HNXT := Lib.hid (hnx2)
              clear hnx2 hnxt
              have HBe := Lib.hid ((Below.refl nw1.heap.size nw1).drew)
              go_region_with (first | (go_at_call 10; (with_reducible refine (HST2.out _).mono ?_); rintro e nw5 ⟨rfl, hb⟩; have HBe := Lib.hid (below_next HBe.out hb); have q10 : nw5.cell? ⟨wq.heap.size, 10, none⟩ = some (.int .i64 1) := keepCell HBe.out p10; have q11 : nw5.cell? ⟨wq.heap.size, 11, none⟩ = some (.slice (some ⟨gk, 0, none⟩) 3 ck5) := keepCell HBe.out p11; have hlq5 : wq.heap.size < nw5.heap.size := Nat.lt_of_lt_of_le hlq HBe.out.size; clear hb) | (go_at_call 14; (obtain ⟨kind2, fk2, fp2, fq2, fs2, fr2, A2, s2, level2, next2, Kp2, hcall2⟩ := HNXT.out nw5 HBe.out); refine hcall2.mono ?_; rintro e nw6 ⟨so6, cap6, sk6, ck6, rfl, hx15, hfin⟩; have HX15a := Lib.hid hx15; have HFin := Lib.hid hfin; (obtain ⟨a0, a1, a2, a3, a4, a5, a6, a7, a8, a9, a10, a11⟩ := cells12 HX15a.out); (obtain ⟨fa0, fa1, fa2, fa3, fa4, fa5, fa6, fa7, fa8, fa9, fa10, fa11⟩ := froz12 HX15a.out); have hyw := (Array.getElem?_eq_some_iff.1 HX15a.out).1; clear hx15 hfin hcall2))
              all_goals
                go_wp2
                go_roundg (l.length - (j + 1))
                case measure => omega
                case rel => exact ⟨j + 1, by omega, by push_cast; rfl, HFin.out⟩
        · have hii : i = l.length := by omega
          have hje : j = l.length := by
            obtain ⟨n1, n2, _, _⟩ := HNX2.out
            omega
          obtain ⟨hk2, hs2⟩ : kind = lineK (wantB l l.length) ∧ s = lineS (wantB l l.length) := by
            rcases HAC2.out with ⟨h1, _⟩ | ⟨_, h1, h2⟩
            · omega
            · exact ⟨h1, h2⟩
          have HAW2 := Lib.hid (HAW.out _ HBr2.out)
          obtain ⟨z0, z1, z2, z3, z4, z5, z6, z7, z8, z9, z10, z11⟩ := cells12 H15a.out
          obtain ⟨fz0, fz1, fz2, fz3, fz4, fz5, fz6, fz7, fz8, fz9, fz10, fz11⟩ := froz12 H15a.out
          by_cases hTs : (wantB l l.length).size ≤ 65536
          · have e1 : kind = 8 := by rw [hk2]; unfold lineK; exact if_pos hTs
            have e2 : s = wantB l l.length := by rw [hs2]; unfold lineS; exact if_pos hTs
            subst e1 e2
            have g1 : decide (((wantB l l.length).size : Int) > 65536) = false := decide_eq_false (by omega)
            have g2' : ¬ ((wantB l l.length).size : Int) > 65536 := by omega
            clear hk2 hs2
            go_wp2_with fail
            refine (HAW2.out).mono ?_
            rintro e w9 ⟨rfl, hb⟩
            go_wp2
            go_ret
            exact bool_done rfl (HBr2.out.trans (hb.mono hzw2))
          · have e1 : kind = 2 := by rw [hk2]; unfold lineK; exact if_neg hTs
            subst e1
            have g1 : decide (((wantB l l.length).size : Int) > 65536) = true := decide_eq_true (by omega)
            have g2' : ((wantB l l.length).size : Int) > 65536 := by omega
            clear hk2 hs2
            go_wp2_with fail
            refine (HAW2.out).mono ?_
            rintro e w9 ⟨rfl, hb⟩
            go_wp2
            go_ret
            exact bool_done rfl (HBr2.out.trans (hb.mono hzw2))
theorem prints_all (w : World) (hw : Spaces w) (so : Option Addr) (cap : Nat) (l : List ByteArray) (hS : l = [] ∨ ∃ g o, so = some ⟨g, o, none⟩ ∧ ∀ (i : Nat) s, l[i]? = some s → w.cell? ⟨g, o + i, none⟩ = some (.string s)) (hc0 : l.length ≤ cap) (sb : Option Addr) (capb : Nat) (cs : List Bool) (hB : cs = [] ∨ ∃ g o, sb = some ⟨g, o, none⟩ ∧ ∀ (i : Nat) b, cs[i]? = some b → w.cell? ⟨g, o + i, none⟩ = some (.bool b)) (hc1 : cs.length ≤ capb) :
    Calls Tryz.prog 3 #[.slice so l.length cap, .slice sb cs.length capb] w (BoolPost w true) := by
  by_cases h1 : 20 < l.length
  · exact prints_long1 w hw so l.length cap sb cs.length capb h1
  · by_cases h2 : 20 < cs.length
    · exact prints_long2 w hw so l.length cap sb cs.length capb (by omega) h2
    · exact prints_law w hw so cap l hS sb capb cs hB (by omega) (by omega) hc0 hc1
end Go.Proofs.YteflmfdjnigjcaaGreatDoor
