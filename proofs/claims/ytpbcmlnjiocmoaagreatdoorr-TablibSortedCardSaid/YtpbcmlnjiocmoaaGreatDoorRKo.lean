import Derived.Test.YtpbcmlnjiocmoaaGreatDoorRKm
import Derived.Test.YtpbcmlnjiocmoaaGreatDoorRKd
set_option linter.unusedVariables false
set_option linter.unusedSimpArgs false
set_option maxRecDepth 100000
set_option maxHeartbeats 40000000
namespace Go.Proofs.YtpbcmlnjiocmoaaGreatDoorR
open Go.RowKit Go.Proofs.Lexi
set_option maxRecDepth 100000 in
set_option maxHeartbeats 2000000 in
theorem kCount_c (w : World) (so : Option Addr) (n cap : Nat) (A : List V) (hA : Vals w (.slice so n cap) A) (hl : A.length ≤ 1000) (k p q : Int) (s : ByteArray) (r : Int) :
    Calls Tryz.prog 18 #[.slice so n cap, (.agg #[.int .i64 k, .int .i64 p, .int .i64 q, .string s, .int .i64 r])] w (fun e w' => e = .returned (.int .i64 (cntV A ⟨k, p, q, s, r⟩ : Nat)) ∧ Below w.heap.size w w') := by
  have hn : n = A.length := by obtain ⟨_, _, e, _⟩ := hA; injection e
  subst hn
  obtain ⟨W1, hW1⟩ : ∃ W1, W1 = w.alloc (oV k p q s r) := ⟨_, rfl⟩
  have HA := Lib.hid ((show Vals W1 (.slice so A.length cap) A by rw [hW1]; exact Vals.below hA (below1 _ _)))
  have HB1 := Lib.hid ((show Below w.heap.size w W1 by rw [hW1]; exact below1 _ _))
  have HV1 := Lib.hid ((show W1.heap[w.heap.size]? = some (oV k p q s r) by rw [hW1]; exact heap1 _ _))
  obtain ⟨bv, hbv⟩ : ∃ b, b = w.heap.size := ⟨_, rfl⟩
  rw [← hbv] at HV1
  have hyv := (Array.getElem?_eq_some_iff.1 HV1.out).1
  obtain ⟨t0, t1, t2, t3, t4⟩ := cells5 HV1.out
  obtain ⟨ft0, ft1, ft2, ft3, ft4⟩ := froz5 HV1.out
  clear hA
  go_enter Tryz.func18, Tryz.ntmps18
  go_wp2
  try rw [show w.alloc (oV k p q s r) = W1 from hW1.symm]
  try rw [← hbv]
  clear hW1 hbv
  go_loopg [5, 6] A.length (fun gg s5 s6 wr => ∃ i m, gg = A.length - i ∧ i ≤ A.length ∧ s6 = .int .i64 (i : Int) ∧ s5 = .int .i64 (cntV (A.take i) ⟨k, p, q, s, r⟩ : Nat) ∧ wr = W1.drewN m)
  case atStart => exact ⟨0, 0, rfl, Nat.zero_le _, rfl, rfl, rfl⟩
  obtain ⟨i, m, rfl, hi, rfl, rfl, rfl⟩ := hrel
  by_cases hlt : i < A.length
  · obtain ⟨u, hu⟩ : ∃ u, A[i]? = some u := ⟨_, List.getElem?_eq_getElem hlt⟩
    obtain ⟨g1, o1, rfl⟩ := Vals.some_of HA.out (fun h => by rw [h] at hlt; simp at hlt)
    obtain ⟨hg1, b0, b1, b2, b3, b4⟩ := Vals.at_ HA.out hu
    have HS := Lib.hid (cntV_snoc (v := ⟨k, p, q, s, r⟩) hu)
    have hc := cntV_le (A.take i) ⟨k, p, q, s, r⟩
    rw [List.length_take] at hc
    have EQ : ∀ W : World, (binOp .eql 30 (.agg #[.int .i64 u.k, .int .i64 u.p, .int .i64 u.q, .string u.s, .int .i64 u.r]) (.agg #[.int .i64 k, .int .i64 p, .int .i64 q, .string s, .int .i64 r])).run Tryz.prog W = .ok (.bool (eqV u ⟨k, p, q, s, r⟩)) W := fun W => eq_run W u.k u.p u.q u.s u.r k p q s r
    obtain ⟨C, hC⟩ : ∃ C, C = cntV (A.take i) ⟨k, p, q, s, r⟩ := ⟨_, rfl⟩
    rw [← hC] at hc HS
    try rw [← hC]
    obtain ⟨b, hb⟩ : ∃ b, b = eqV u ⟨k, p, q, s, r⟩ := ⟨_, rfl⟩
    rw [← hb] at EQ HS
    clear hu hC hb
    cases b
    all_goals
      go_wp2
      go_quiet (fail)
      go_wp2
      go_roundg (A.length - (i + 1))
      case measure => omega
      case rel => exact ⟨i + 1, _, rfl, by omega, by push_cast; rfl, by rw [HS.out]; simp, by first | rfl | exact World.drewN_drewN .. | simp⟩
  · have hii : i = A.length := by omega
    subst hii
    go_wp2
    go_ret
    exact ⟨ret_int (congrArg (fun n : Nat => (n : Int)) (show cntV (A.take A.length) ⟨k, p, q, s, r⟩ = cntV A ⟨k, p, q, s, r⟩ by rw [List.take_length])), bdn HB1.out _⟩
set_option maxRecDepth 100000 in
set_option maxHeartbeats 40000000 in
theorem sorted_law (w : World) (htab : Pow10 w) (so : Option Addr) (cap : Nat) (l : List Int) (hS : Shorts w so l) (hl : l.length ≤ 200) (hB : ∀ y ∈ l, -32768 ≤ y ∧ y ≤ 32767) (hcap : l.length ≤ cap) :
    Calls Tryz.prog 5 #[.slice so l.length cap] w (BoolPost w true) := by
  have HTB := Lib.hid (fun W (hb : Below w.heap.size w W) => htab.stays hb)
  have HLV := Lib.hid (fun W (hb : Below w.heap.size w W) => lives_c W (htab.stays hb))
  have HNU := Lib.hid (fun W x => kNum_c W x)
  have HS := Lib.hid (hS)
  have HBy := Lib.hid (hB)
  have d1 : decide ((l.length : Int) > 200) = false := decide_eq_false (by omega)
  clear htab hS hB
  go_enter Tryz.func5, Tryz.ntmps5
  go_wp2_with fail
  refine (pNew_c _).mono ?_
  rintro e w1 ⟨h, rfl, hP1, hb1⟩
  have HP1 := Lib.hid (hP1)
  have HW1 := Lib.hid (hb1)
  have hz1 := hb1.size
  clear hP1 hb1
  go_wp2
  go_loopg [4, 5, 6] l.length (fun gg s4 s5 s6 wr => ∃ i so2 cap2, i + gg = l.length ∧ s6 = .int .i64 (i : Int) ∧ s4 = .slice so2 i cap2 ∧ s5 = .int .i64 (sumL (l.take i)) ∧ Hid (LiS w1 l i (.slice so2 i cap2) wr))
  case atStart => exact ⟨0, none, 0, by omega, rfl, rfl, rfl, World.ownsRow_nil _ _ _ _, Below.refl _ _⟩
  case round =>
    obtain ⟨i, so2, cap2, hi, rfl, rfl, rfl, HR⟩ := hrel
    have HRo := Lib.hid (HR.out.1)
    have HB := Lib.hid (HR.out.2)
    have hzr := HB.out.size
    clear HR
    have hbd := sumL_bd (A := l.take i) (fun x hx => HBy.out x (List.mem_of_mem_take hx))
    have hlt2 : ((l.take i).length : Int) ≤ 200 := by rw [List.length_take]; omega
    obtain ⟨S, hSe⟩ : ∃ S, S = sumL (l.take i) := ⟨_, rfl⟩
    rw [← hSe] at hbd
    have HSe := Lib.hid (hSe)
    try rw [← hSe]
    clear hSe
    by_cases hlt : i < l.length
    · have d3 : decide ((i : Int) < (l.length : Int)) = true := decide_eq_true (by omega)
      obtain ⟨s, hs⟩ : ∃ s, l[i]? = some s := ⟨_, List.getElem?_eq_getElem hlt⟩
      obtain ⟨gs, og, rfl, hcells⟩ := HS.out.resolve_left (fun e => by rw [e] at hlt; simp at hlt)
      have hbr := below_next HW1.out HB.out
      have hc0 : wr.cell? ⟨gs, og + i, none⟩ = some (.int .i16 s) := keepCell hbr (hcells i s hs)
      have hgs : gs < wr.heap.size := World.block_lt_of_cell? _ _ hc0
      have hsb := HBy.out s (List.mem_of_getElem? hs)
      have hws : IntKind.i64.wrap s = s := IntWalk.i64_in _ (by omega)
      have hwS : IntKind.i64.wrap (S + s) = S + s := IntWalk.i64_in _ (by omega)
      have Hs := Lib.hid (hs)
      have HBr := Lib.hid (hbr)
      have HCL := Lib.hid (fun (W : World) (hb : Below w.heap.size w W) => keepCell hb (hcells i s hs))
      clear hcells hbr hs
      go_wp2_with fail
      refine (HNU.out _ s).mono ?_
      rintro e w2 ⟨rfl, hb⟩
      have HB2 := Lib.hid (below_next HB.out hb)
      have HRo2 := Lib.hid (ownsRow_ext (below_ext hb (Nat.le_refl _)) HRo.out)
      have hz2 := HB2.out.size
      have hgs2 : gs < w2.heap.size := Nat.lt_of_lt_of_le hgs hb.size
      clear hb hc0
      go_wp2_with (at_builtin; refine wpList_append_vals rfl (.tmp 31) (.tmp 38) rfl w1.heap.size (.slice so2 i cap2) i _ rfl (ownsRow_ext (below_ext (below1 _ _) (Nat.le_refl _)) HRo2.out) _ [nI s] rfl (vals_one _ (nI s)) (by simp; omega) (by simp; omega) ?_)
      intro so5 cap5 w5 hown hgrow
      have HO5 := Lib.hid (hown)
      have HB5 := Lib.hid (below_grown (HB2.out.alloc HB2.out.size _) hgrow (by simp; omega) (fun b hb => (ownBlock_lt HRo2.out hb).1))
      have hc5 := HCL.out _ (below_next HW1.out HB5.out)
      have hgs5 : gs < w5.heap.size := World.block_lt_of_cell? _ _ hc5
      clear hown hgrow
      go_wp2
      go_roundg (l.length - (i + 1))
      case measure => omega
      case rel =>
        refine ⟨i + 1, so5, cap5, by omega, by push_cast; rfl, rfl, by rw [sumL_snoc Hs.out, ← HSe.out], ?_, HB5.out⟩
        rw [show (l.map nI).take (i + 1) = (l.map nI).take i ++ [nI s] by rw [List.take_add_one, List.getElem?_map, Hs.out]; rfl, rowV_append]
        exact HO5.out
    · have hii : i = l.length := by omega
      subst hii
      have d3 : decide ((l.length : Int) < (l.length : Int)) = false := decide_eq_false (by omega)
      have HBr := Lib.hid (below_next HW1.out HB.out)
      have hrow : wr.ownsRow w1.heap.size 30 5 (.slice so2 (l.map nI).length cap2) (l.map nI).length (rowV (l.map nI)) := by have := HRo.out; rw [List.take_of_length_le (by simp)] at this; rwa [List.length_map]
      obtain ⟨g5, cs5, hG5⟩ : ∃ g5 cs5, l.map nI = [] ∨ (∃ o, so2 = some ⟨g5, o, none⟩) ∧ Held wr (fun _ => False) g5 (.cells cs5 30) := by
        rcases hrow.2 with ⟨_, e⟩ | ⟨g, cap', cur, e, _, hg, _⟩
        · exact ⟨0, #[], .inl (List.eq_nil_of_length_eq_zero e)⟩
        · injection e with e _ _
          exact ⟨g, cur, .inr ⟨⟨0, e⟩, hg, fun h => h⟩⟩
      have hlist := list_c wr h (HP1.out.below HB.out) (by omega) so2 cap2 (l.map nI) (by rw [List.length_map]; omega) (by decide) rfl (Vals.of_row hrow) g5 cs5 hG5 (nI_ok HBy.out)
      rw [List.length_map] at hlist
      have HLI := Lib.hid (hlist)
      have HVS := Lib.hid (Vals.of_row hrow)
      have HVU := Lib.hid (fun (W : World) (O' : Nat → Prop) (hq : QS w.heap.size (fun _ => False) wr O' W) => (show Vals W (.slice so2 l.length cap2) (l.map nI) from by have hvs := HVS.out; rw [List.length_map] at hvs; rcases hG5 with e | ⟨⟨o, rfl⟩, hh⟩; (obtain ⟨so', c, h1, h2, hn, _⟩ := hvs; exact ⟨so', c, h1, h2, hn, .inl e⟩); (have hk := (hq.keep hh.1 (npb (by decide)) (fun e => e)).1; exact vals_held hvs (hk.trans hh.1.symm) (Array.getElem?_eq_some_iff.1 hk).1)))
      clear hlist hrow hG5
      go_wp2_with fail
      refine HLI.out.mono ?_
      rintro e w6 ⟨rfl, O6, hP6, hq6⟩
      have HP6 := Lib.hid (hP6)
      have HQ6 := Lib.hid (hq6)
      have HB6 := Lib.hid ((show Below w.heap.size w w6 from HBr.out.trans (hq6.below (by omega))))
      have hz6 := HB6.out.size
      clear hP6 hq6
      go_upto_region 12 with fail
      obtain ⟨W7, hW7⟩ : ∃ W7, W7 = w6.alloc (oV 4 0 0 ⟨#[]⟩ 1) := ⟨_, rfl⟩
      have HB7 := Lib.hid ((show Below w.heap.size w W7 by rw [hW7]; exact HB6.out.alloc HB6.out.size _))
      have HT7 := Lib.hid ((show W7.heap[w6.heap.size]? = some (oV 4 0 0 ⟨#[]⟩ 1) by rw [hW7]; exact heap1 _ _))
      have HQ7 := Lib.hid ((show QS w.heap.size (fun _ => False) wr O6 W7 by rw [hW7]; exact HQ6.out.trans (QS.of_below (below1 _ _))))
      have HP7 := Lib.hid ((show PHp w.heap.size (0 + l.length) W7 h ([] ++ [⟨4, V.nil, []⟩]) ([] ++ [l.map nI]) O6 by rw [hW7]; exact HP6.out.below (below1 _ _)))
      have HOL := Lib.hid ((HP6.out.lt))
      obtain ⟨bt, hbt⟩ : ∃ b, b = w6.heap.size := ⟨_, rfl⟩
      rw [← hbt] at HT7
      have HNT := Lib.hid ((show ¬ O6 bt from fun e => by have := HOL.out _ e; omega))
      have hz7 : bt < W7.heap.size := (Array.getElem?_eq_some_iff.1 HT7.out).1
      have hw7 := HB7.out.size
      try rw [show w6.alloc (oV 4 0 0 ⟨#[]⟩ 1) = W7 from hW7.symm]
      try rw [← hbt]
      clear hW7 hbt
      obtain ⟨t0, t1, t2, t3, t4⟩ := cells5 HT7.out
      obtain ⟨ft0, ft1, ft2, ft3, ft4⟩ := froz5 HT7.out
      go_wp2_with fail
      refine (sort_begin _ h (some ⟨W7.heap.size, 0, none⟩) 1 (HP7.out.below (below1 _ _)) (Nat.le_trans hw7 (below1 _ _).size) (by omega) (ti := 0) (by decide) (o := ⟨4, V.nil, []⟩) (L0 := l) rfl rfl rfl (by omega) (fun x hx => by have := HBy.out x hx; omega) (vals_one W7 ⟨4, 0, 0, ⟨#[]⟩, 1⟩)).mono ?_
      rintro e w8 ⟨Ls, so3, cap3, O3, rfl, hr, hperm, hasc, hP8, hq8⟩
      have HPE := Lib.hid (hperm)
      have HAS := Lib.hid (hasc)
      have HP8 := Lib.hid (hP8)
      have HQ8 := Lib.hid ((QS.of_below (base := w.heap.size) (O := O6) (below1 _ _)).trans hq8)
      have HT8 := Lib.hid ((HQ8.out.keep HT7.out (npb (by decide)) HNT.out).1)
      have HB8 := Lib.hid (HB7.out.trans (HQ8.out.below hw7))
      have hll : Ls.length = l.length := hperm.length_eq
      have HV8 := Lib.hid (HVU.out _ _ (HQ7.out.trans HQ8.out))
      clear hr hperm hasc hP8 hq8 t0 t1 t2 t3 t4 ft0 ft1 ft2 ft3 ft4
      have HFI := Lib.hid (fun W (hb : Below w8.heap.size w8 W) => (show Calls Tryz.prog 15 #[.pointer (some ⟨h, 0, none⟩), .agg #[.int .i64 4, .int .i64 0, .int .i64 0, .string ⟨#[]⟩, .int .i64 1], .int .i64 (l.length : Int)] W (fun e w' => ∃ so cap, e = .returned (.slice so l.length cap) ∧ Vals w' (.slice so l.length cap) (Ls.map nI) ∧ Below W.heap.size W w') from fieldsK_c W h (HP8.out.below hb) (by omega) (ti := 0) (by decide) (o := ⟨4, V.nil, []⟩) (A := Ls.map nI) rfl rfl rfl (by rw [List.length_map]; omega) (l.length : Int) l.length rfl (by rw [List.length_map]; exact hll)))
      have hyt := (Array.getElem?_eq_some_iff.1 HT8.out).1
      obtain ⟨t0, t1, t2, t3, t4⟩ := cells5 HT8.out
      obtain ⟨ft0, ft1, ft2, ft3, ft4⟩ := froz5 HT8.out
      go_wp2_with fail
      refine (HFI.out _ (below1 _ _)).mono ?_
      rintro e w10 ⟨sf, capf, rfl, hvf, hb⟩
      have HVF := Lib.hid (hvf)
      have HBv := Lib.hid (below_next (below1 _ _) hb)
      have HB10 := Lib.hid (below_next HB8.out HBv.out)
      clear hb hvf hyt t0 t1 t2 t3 t4 ft0 ft1 ft2 ft3 ft4
      have hSS := HSe.out
      rw [List.take_length] at hSS
      have HSS := Lib.hid (hSS)
      clear hSS
      go_wp2
      go_loopg [5, 11] l.length (fun gg s5 s11 wr => ∃ i, i + gg = l.length ∧ s11 = .int .i64 (i : Int) ∧ s5 = .int .i64 (sumL l - sumL (Ls.take i)) ∧ Hid (Below w10.heap.size w10 wr))
      case atStart => exact ⟨0, by omega, rfl, by rw [HSS.out]; simp [sumL], Below.refl _ _⟩
      case round =>
        obtain ⟨i, hi2, rfl, rfl, HBl⟩ := hrel
        have hzl := HBl.out.size
        by_cases hlt : i < l.length
        · have d5 : decide ((i : Int) < (l.length : Int)) = true := decide_eq_true (by omega)
          have hx := gI_some (L := Ls) (a := i) (by omega)
          obtain ⟨gf, off, rfl⟩ := vals_shape HVF.out (i := i) (v := nI (gI Ls i)) (by rw [List.getElem?_map, hx]; rfl)
          obtain ⟨hgf, f0, f1, f2, f3, f4⟩ := Vals.at_ (Vals.below HVF.out HBl.out) (i := i) (v := nI (gI Ls i)) (by rw [List.getElem?_map, hx]; rfl)
          have hxb := HBy.out _ (HPE.out.mem_iff.1 (List.mem_of_getElem? hx))
          have hb1 := sumL_bd HBy.out
          have hb2 := sumL_bd (A := Ls.take i) (fun x hx => HBy.out x (HPE.out.mem_iff.1 (List.mem_of_mem_take hx)))
          have hb3 : ((Ls.take i).length : Int) ≤ 200 := by rw [List.length_take]; omega
          have HSn := Lib.hid (sumL_snoc hx)
          obtain ⟨S2, hS2⟩ : ∃ S2, S2 = sumL l - sumL (Ls.take i) := ⟨_, rfl⟩
          obtain ⟨x, hxe⟩ : ∃ x, x = gI Ls i := ⟨_, rfl⟩
          simp only [nI] at f0 f1 f2 f3 f4
          rw [← hxe] at f1 hxb HSn
          have hS2b : -13107200 ≤ S2 ∧ S2 ≤ 13107200 := by omega
          have hws : IntKind.i64.wrap (S2 - x) = S2 - x := IntWalk.i64_in _ (by omega)
          have HS2 := Lib.hid (hS2)
          have HXE := Lib.hid (hxe)
          try rw [← hS2]
          clear hS2 hx hb1 hb2 hb3 hxe
          have HCV := Lib.hid (fun (W : World) (hb : Below w10.heap.size w10 W) => (show Calls Tryz.prog 18 #[.slice so2 l.length cap2, .agg #[.int .i64 2, .int .i64 x, .int .i64 1, .string ⟨#[]⟩, .int .i64 0]] W (fun e w' => e = .returned (.int .i64 (cntV (l.map nI) ⟨2, x, 1, ⟨#[]⟩, 0⟩ : Nat)) ∧ Below W.heap.size W w') from kCount_c W so2 l.length cap2 (l.map nI) (Vals.below (Vals.below HV8.out HBv.out) hb) (by rw [List.length_map]; omega) 2 x 1 ⟨#[]⟩ 0))
          have HCO := Lib.hid (fun (W : World) (hb : Below w10.heap.size w10 W) => (show Calls Tryz.prog 18 #[.slice (some ⟨gf, off, none⟩) l.length capf, .agg #[.int .i64 2, .int .i64 x, .int .i64 1, .string ⟨#[]⟩, .int .i64 0]] W (fun e w' => e = .returned (.int .i64 (cntV (l.map nI) ⟨2, x, 1, ⟨#[]⟩, 0⟩ : Nat)) ∧ Below W.heap.size W w') from by have := kCount_c W (some ⟨gf, off, none⟩) l.length capf (Ls.map nI) (Vals.below HVF.out hb) (by rw [List.length_map]; omega) 2 x 1 ⟨#[]⟩ 0; rwa [show cntV (Ls.map nI) ⟨2, x, 1, ⟨#[]⟩, 0⟩ = cntV (l.map nI) ⟨2, x, 1, ⟨#[]⟩, 0⟩ from (HPE.out.map nI).countP_eq _] at this))
          obtain ⟨N, hN⟩ : ∃ N, N = cntV (l.map nI) ⟨2, x, 1, ⟨#[]⟩, 0⟩ := ⟨_, rfl⟩
          rw [← hN] at HCV HCO
          clear hN
          have hdd : i ≤ 0 ∨ 0 < i ∧ ∃ j y, i = j + 1 ∧ y ≤ x ∧ wr.cell? ⟨gf, off + j * 5, none⟩ = some (.int .i64 2) ∧ wr.cell? ⟨gf, off + j * 5 + 1, none⟩ = some (.int .i64 y) ∧ wr.cell? ⟨gf, off + j * 5 + 2, none⟩ = some (.int .i64 1) := by
            rcases Nat.eq_zero_or_pos i with h0 | h0
            · exact .inl (by omega)
            · refine .inr ⟨h0, i - 1, gI Ls (i - 1), by omega, ?_, ?_⟩
              · rw [HXE.out]; exact HAS.out _ _ (Nat.zero_le _) (by omega) (by omega) (by omega)
              · have hy := gI_some (L := Ls) (a := i - 1) (by omega)
                obtain ⟨_, p0, p1, p2, _, _⟩ := Vals.at_ (Vals.below HVF.out HBl.out) (i := i - 1) (v := nI (gI Ls (i - 1))) (by rw [List.getElem?_map, hy]; rfl)
                exact ⟨p0, p1, p2⟩
          rcases hdd with h0 | ⟨h0, j, y, hij, hyx, p0, p1, p2⟩
          · have d6 : decide ((i : Int) > 0) = false := decide_eq_false (by omega)
            have d6n : decide (0 < i) = false := decide_eq_false (by omega)
            have d6i : decide ((0 : Int) < (i : Int)) = false := decide_eq_false (by omega)
            go_wp2_with fail
            refine wp_region_lex mixed (by kernel_rfl) ?_
            go_wp2
            refine ⟨by kernel_rfl, ?_⟩
            go_wp2_with fail
            obtain ⟨W9, hW9⟩ : ∃ W9, W9 = wr.drew := ⟨_, rfl⟩
            have HB9 := Lib.hid ((show Below w10.heap.size w10 W9 by rw [hW9]; exact HBl.out.drew))
            have HF9 := Lib.hid ((show W9.cell? ⟨gf, off + i * 5, none⟩ = some (.int .i64 2) ∧ W9.cell? ⟨gf, off + i * 5 + 1, none⟩ = some (.int .i64 x) ∧ W9.cell? ⟨gf, off + i * 5 + 2, none⟩ = some (.int .i64 1) ∧ W9.cell? ⟨gf, off + i * 5 + 3, none⟩ = some (.string ⟨#[]⟩) ∧ W9.cell? ⟨gf, off + i * 5 + 4, none⟩ = some (.int .i64 0) from by rw [hW9]; exact ⟨f0, f1, f2, f3, f4⟩))
            rw [← hW9]
            clear hW9 f0 f1 f2 f3 f4
            have SO := Lib.hid (fun (W : World) (hb : Below W9.heap.size W9 W) => (show W.cell? ⟨gf, off + i * 5, none⟩ = some (.int .i64 2) ∧ W.cell? ⟨gf, off + i * 5 + 1, none⟩ = some (.int .i64 x) ∧ W.cell? ⟨gf, off + i * 5 + 2, none⟩ = some (.int .i64 1) ∧ W.cell? ⟨gf, off + i * 5 + 3, none⟩ = some (.string ⟨#[]⟩) ∧ W.cell? ⟨gf, off + i * 5 + 4, none⟩ = some (.int .i64 0) from ⟨keepCell hb (HF9.out).1, keepCell hb (HF9.out).2.1, keepCell hb (HF9.out).2.2.1, keepCell hb (HF9.out).2.2.2.1, keepCell hb (HF9.out).2.2.2.2⟩))
            apply wp_region_boxes mixed (by kernel_rfl)
            iterate 5 (apply WalkG.take; (focus (intro p e W oo hI hH hN hF; refine ⟨by rfl, ?_⟩; obtain ⟨xc0, xc1, xc2, xc3, xc4⟩ := SO.out W hI; go_simp; (try with_reducible rfl))); (try simp only [Act.put, List.setIfInBounds_toArray, List.set_cons_zero, List.set_cons_succ, List.length_append, List.length_cons, List.length_nil, Nat.zero_add, Nat.reduceAdd]))
            (apply WalkG.val; (focus (intro p e W oo hI hH hN hF K hK; obtain ⟨xc0, xc1, xc2, xc3, xc4⟩ := SO.out W hI; go_simp; (go_at_call 18; (with_reducible refine (HCV.out _ (below_next HB9.out hI)).mono ?_); rintro e1 w1 ⟨rfl, hb⟩); exact hK _ _ ⟨rfl, hb⟩)); (try simp only [Act.put, List.setIfInBounds_toArray, List.set_cons_zero, List.set_cons_succ, List.length_append, List.length_cons, List.length_nil, Nat.zero_add, Nat.reduceAdd]))
            iterate 5 (apply WalkG.take; (focus (intro p e W oo hI hH hN hF; refine ⟨by rfl, ?_⟩; obtain ⟨xc0, xc1, xc2, xc3, xc4⟩ := SO.out W hI; go_simp; (try with_reducible rfl))); (try simp only [Act.put, List.setIfInBounds_toArray, List.set_cons_zero, List.set_cons_succ, List.length_append, List.length_cons, List.length_nil, Nat.zero_add, Nat.reduceAdd]))
            (apply WalkG.val; (focus (intro p e W oo hI hH hN hF K hK; obtain ⟨xc0, xc1, xc2, xc3, xc4⟩ := SO.out W hI; go_simp; (go_at_call 18; (with_reducible refine (HCO.out _ (below_next HB9.out hI)).mono ?_); rintro e1 w1 ⟨rfl, hb⟩); exact hK _ _ ⟨rfl, hb⟩)); (try simp only [Act.put, List.setIfInBounds_toArray, List.set_cons_zero, List.set_cons_succ, List.length_append, List.length_cons, List.length_nil, Nat.zero_add, Nat.reduceAdd]))
            iterate 1 (apply WalkG.take; (focus (intro p e W oo hI hH hN hF; refine ⟨by rfl, ?_⟩; obtain ⟨xc0, xc1, xc2, xc3, xc4⟩ := SO.out W hI; go_simp; (try with_reducible rfl))); (try simp only [Act.put, List.setIfInBounds_toArray, List.set_cons_zero, List.set_cons_succ, List.length_append, List.length_cons, List.length_nil, Nat.zero_add, Nat.reduceAdd]))
            apply WalkG.nil
            intro p e W hI hA hS hD
            rotate_left
            focus kernel_rfl
            focus kernel_rfl
            go_wp2
            go_roundg (l.length - (i + 1))
            case measure => omega
            case rel => exact ⟨i + 1, by omega, by push_cast; rfl, by rw [show S2 - x = sumL l - sumL (Ls.take (i + 1)) by rw [HSn.out, HS2.out]; omega], Lib.hid (below_next HB9.out hI)⟩
          · have e1 : IntKind.i64.wrap ((i : Int) - 1) = (j : Int) := by rw [show ((i : Int) - 1) = (j : Int) by omega]; exact IntWalk.i64_in _ (by omega)
            have d6 : decide ((i : Int) > 0) = true := decide_eq_true (by omega)
            have d6n : decide (0 < i) = true := decide_eq_true (by omega)
            have d6i : decide ((0 : Int) < (i : Int)) = true := decide_eq_true (by omega)
            have d7 : decide (y > x) = false := decide_eq_false (by omega)
            have d7i : decide (x < y) = false := decide_eq_false (by omega)
            have hjl : j < l.length := by omega
            clear hij
            go_wp2_with fail
            refine wp_region_lex mixed (by kernel_rfl) ?_
            go_wp2
            refine ⟨by kernel_rfl, ?_⟩
            go_wp2_with fail
            obtain ⟨W9, hW9⟩ : ∃ W9, W9 = wr.drew := ⟨_, rfl⟩
            have HB9 := Lib.hid ((show Below w10.heap.size w10 W9 by rw [hW9]; exact HBl.out.drew))
            have HF9 := Lib.hid ((show W9.cell? ⟨gf, off + i * 5, none⟩ = some (.int .i64 2) ∧ W9.cell? ⟨gf, off + i * 5 + 1, none⟩ = some (.int .i64 x) ∧ W9.cell? ⟨gf, off + i * 5 + 2, none⟩ = some (.int .i64 1) ∧ W9.cell? ⟨gf, off + i * 5 + 3, none⟩ = some (.string ⟨#[]⟩) ∧ W9.cell? ⟨gf, off + i * 5 + 4, none⟩ = some (.int .i64 0) from by rw [hW9]; exact ⟨f0, f1, f2, f3, f4⟩))
            rw [← hW9]
            clear hW9 f0 f1 f2 f3 f4
            have SO := Lib.hid (fun (W : World) (hb : Below W9.heap.size W9 W) => (show W.cell? ⟨gf, off + i * 5, none⟩ = some (.int .i64 2) ∧ W.cell? ⟨gf, off + i * 5 + 1, none⟩ = some (.int .i64 x) ∧ W.cell? ⟨gf, off + i * 5 + 2, none⟩ = some (.int .i64 1) ∧ W.cell? ⟨gf, off + i * 5 + 3, none⟩ = some (.string ⟨#[]⟩) ∧ W.cell? ⟨gf, off + i * 5 + 4, none⟩ = some (.int .i64 0) from ⟨keepCell hb (HF9.out).1, keepCell hb (HF9.out).2.1, keepCell hb (HF9.out).2.2.1, keepCell hb (HF9.out).2.2.2.1, keepCell hb (HF9.out).2.2.2.2⟩))
            apply wp_region_boxes mixed (by kernel_rfl)
            iterate 5 (apply WalkG.take; (focus (intro p e W oo hI hH hN hF; refine ⟨by rfl, ?_⟩; obtain ⟨xc0, xc1, xc2, xc3, xc4⟩ := SO.out W hI; go_simp; (try with_reducible rfl))); (try simp only [Act.put, List.setIfInBounds_toArray, List.set_cons_zero, List.set_cons_succ, List.length_append, List.length_cons, List.length_nil, Nat.zero_add, Nat.reduceAdd]))
            (apply WalkG.val; (focus (intro p e W oo hI hH hN hF K hK; obtain ⟨xc0, xc1, xc2, xc3, xc4⟩ := SO.out W hI; go_simp; (go_at_call 18; (with_reducible refine (HCV.out _ (below_next HB9.out hI)).mono ?_); rintro e1 w1 ⟨rfl, hb⟩); exact hK _ _ ⟨rfl, hb⟩)); (try simp only [Act.put, List.setIfInBounds_toArray, List.set_cons_zero, List.set_cons_succ, List.length_append, List.length_cons, List.length_nil, Nat.zero_add, Nat.reduceAdd]))
            iterate 5 (apply WalkG.take; (focus (intro p e W oo hI hH hN hF; refine ⟨by rfl, ?_⟩; obtain ⟨xc0, xc1, xc2, xc3, xc4⟩ := SO.out W hI; go_simp; (try with_reducible rfl))); (try simp only [Act.put, List.setIfInBounds_toArray, List.set_cons_zero, List.set_cons_succ, List.length_append, List.length_cons, List.length_nil, Nat.zero_add, Nat.reduceAdd]))
            (apply WalkG.val; (focus (intro p e W oo hI hH hN hF K hK; obtain ⟨xc0, xc1, xc2, xc3, xc4⟩ := SO.out W hI; go_simp; (go_at_call 18; (with_reducible refine (HCO.out _ (below_next HB9.out hI)).mono ?_); rintro e1 w1 ⟨rfl, hb⟩); exact hK _ _ ⟨rfl, hb⟩)); (try simp only [Act.put, List.setIfInBounds_toArray, List.set_cons_zero, List.set_cons_succ, List.length_append, List.length_cons, List.length_nil, Nat.zero_add, Nat.reduceAdd]))
            iterate 1 (apply WalkG.take; (focus (intro p e W oo hI hH hN hF; refine ⟨by rfl, ?_⟩; obtain ⟨xc0, xc1, xc2, xc3, xc4⟩ := SO.out W hI; go_simp; (try with_reducible rfl))); (try simp only [Act.put, List.setIfInBounds_toArray, List.set_cons_zero, List.set_cons_succ, List.length_append, List.length_cons, List.length_nil, Nat.zero_add, Nat.reduceAdd]))
            apply WalkG.nil
            intro p e W hI hA hS hD
            rotate_left
            focus kernel_rfl
            focus kernel_rfl
            go_wp2
            go_roundg (l.length - (i + 1))
            case measure => omega
            case rel => exact ⟨i + 1, by omega, by push_cast; rfl, by rw [show S2 - x = sumL l - sumL (Ls.take (i + 1)) by rw [HSn.out, HS2.out]; omega], Lib.hid (below_next HB9.out hI)⟩
        · have hii : i = l.length := by omega
          subst hii
          have d5 : decide ((l.length : Int) < (l.length : Int)) = false := decide_eq_false (by omega)
          have hz : sumL l - sumL (Ls.take l.length) = 0 := by rw [List.take_of_length_le (by omega), sumL_perm HPE.out]; omega
          try rw [hz]
          clear hz
          go_wp2_with fail
          refine (HLV.out _ (below_next HB10.out HBl.out)).mono ?_
          rintro e w12 ⟨rfl, hb⟩
          have HBf := Lib.hid (below_next (below_next HB10.out HBl.out) hb)
          clear hb
          go_wp2
          go_ret
          exact bool_done rfl HBf.out
set_option maxRecDepth 100000 in
set_option maxHeartbeats 2000000 in
theorem sorted_long (w : World) (htab : Pow10 w) (so : Option Addr) (n cap : Nat) (hl : 200 < n) :
    Calls Tryz.prog 5 #[.slice so n cap] w (BoolPost w true) := by
  have HLV := Lib.hid (fun W (hb : Below w.heap.size w W) => lives_c W (htab.stays hb))
  clear htab
  have d1 : decide ((n : Int) > 200) = true := decide_eq_true (by omega)
  go_enter Tryz.func5, Tryz.ntmps5
  go_wp2_with fail
  refine (pNew_c _).mono ?_
  rintro e w1 ⟨h, rfl, hP1, hb1⟩
  have HW1 := Lib.hid (hb1)
  clear hP1 hb1
  go_wp2_with fail
  refine (HLV.out _ HW1.out).mono ?_
  rintro e w3 ⟨rfl, hb⟩
  have HB3 := Lib.hid (below_next HW1.out hb)
  clear hb
  go_wp2
  go_ret
  exact bool_done rfl HB3.out
theorem sorted_all (w : World) (htab : Pow10 w) (so : Option Addr) (cap : Nat) (l : List Int) (hS : l = [] ∨ ∃ g o, so = some ⟨g, o, none⟩ ∧ ∀ (i : Nat) x, l[i]? = some x → w.cell? ⟨g, o + i, none⟩ = some (.int .i16 x)) (hcap : l.length ≤ cap) (hB : ∀ y ∈ l, -32768 ≤ y ∧ y ≤ 32767) :
    Calls Tryz.prog 5 #[.slice so l.length cap] w (BoolPost w true) := by
  by_cases h1 : 200 < l.length
  · exact sorted_long w htab so l.length cap h1
  · exact sorted_law w htab so cap l hS (by omega) hB hcap
end Go.Proofs.YtpbcmlnjiocmoaaGreatDoorR
