import Derived.Test.YteflmfdjnigjcaaGreatDoorBq
set_option linter.unusedVariables false
set_option linter.unusedSimpArgs false
set_option maxRecDepth 100000
set_option maxHeartbeats 2000000
namespace Go.Proofs.YteflmfdjnigjcaaGreatDoor
open Go.RowKit Go.Proofs.Lexi
theorem lnum_x (w : World) (n : Int) : Calls Tryz.prog 22 #[.int .i64 n] w (fun e w' => e = .returned (.agg #[.int .i64 2, .int .i64 n, .int .i64 1, .string ⟨#[]⟩, .int .i64 0]) ∧ Below w.heap.size w w') := lnum_c w n
theorem lstr_x (w : World) (s : ByteArray) : Calls Tryz.prog 10 #[.string s] w (fun e w' => e = .returned (.agg #[.int .i64 3, .int .i64 0, .int .i64 0, .string s, .int .i64 0]) ∧ Below w.heap.size w w') := lstr_c w s
theorem eqv_run (W : World) (v : V) : (binOp .eql 30 (.agg #[.int .i64 v.k, .int .i64 v.p, .int .i64 v.q, .string v.s, .int .i64 v.r]) (.agg #[.int .i64 v.k, .int .i64 v.p, .int .i64 v.q, .string v.s, .int .i64 v.r])).run Tryz.prog W = .ok (.bool true) W := by
  have := eq_run W v.k v.p v.q v.s v.r v.k v.p v.q v.s v.r
  rw [this]
  simp [eqV]
theorem ff_cut (W : World) : Calls Tryz.prog 130 #[.string ⟨#[102, 102]⟩, .string ⟨#[45]⟩] W (fun e w' => e = .returned (.tuple #[.string ⟨#[102, 102]⟩, .bool false]) ∧ w' = W) := Tryz.strings_CutPrefix ⟨#[102, 102]⟩ ⟨#[45]⟩ W
set_option maxRecDepth 100000 in
set_option maxHeartbeats 2000000 in
theorem awake24_c (w : World) (hw : Spaces w) : Calls Tryz.prog 6 #[] w (BoolPost w true) := by
  have HSP := Lib.hid (fun W (hb : Below w.heap.size w W) => Spaces.stays hw hb)
  clear hw
  go_enter Tryz.func6, Tryz.ntmps6
  go_wp2_with fail
  obtain ⟨W0, hW0⟩ : ∃ W0, W0 = w.alloc (oV 6 0 0 ⟨#[112, 114, 105, 110, 116]⟩ 0) := ⟨_, rfl⟩
  rw [← hW0]
  have HW0 := Lib.hid (show Below w.heap.size w W0 by rw [hW0]; exact below1 _ _)
  have Hf0 := Lib.hid (show W0.heap[w.heap.size]? = some (oV 6 0 0 ⟨#[112, 114, 105, 110, 116]⟩ 0) by rw [hW0]; exact heap1 _ _)
  clear hW0
  refine (lnum_x _ _).mono ?_
  rintro e w1 ⟨rfl, hb⟩
  have HW1 := Lib.hid (below_next HW0.out hb)
  have Hf1 := Lib.hid (hkeep hb Hf0.out)
  clear hb
  go_wp2_with fail
  refine (lnum_x _ _).mono ?_
  rintro e w2 ⟨rfl, hb⟩
  have HW2 := Lib.hid (below_next HW1.out hb)
  have Hf2 := Lib.hid (hkeep hb Hf1.out)
  clear hb
  go_wp2_with fail
  refine (lnum_x _ _).mono ?_
  rintro e w3 ⟨rfl, hb⟩
  have HW3 := Lib.hid (below_next HW2.out hb)
  have Hf3 := Lib.hid (hkeep hb Hf2.out)
  clear hb
  go_wp2_with fail
  refine (sel_neg _ _ _ _ _ (-1) [nV 7, nV 8] (vals_lit w3 [nV (-1), nV 7, nV 8]) (by decide) (by decide) (by decide) (by decide) 1 (by decide) (HSP.out _ (HW3.out.alloc HW3.out.size _))).mono ?_
  rintro e w4 ⟨sa, ca, rfl, hrow, hb⟩
  have HW4 := Lib.hid (below_next (HW3.out.alloc HW3.out.size _) hb)
  have Hf4 := Lib.hid (hkeep hb (heap1_old Hf3.out _))
  have HA4 := Lib.hid (Vals.of_row hrow)
  clear hb hrow
  go_upto_region 3 with fail
  go_cut [1, 2, 3, 4] (fun s1 s2 s3 s4 wx => ∃ xb sb cb sk ck, s1 = .pointer (some ⟨w.heap.size, 0, none⟩) ∧ s2 = .slice sa 1 ca ∧ s3 = .bool true ∧ s4 = .pointer (some ⟨xb, 0, none⟩) ∧ Hid (wx.heap[xb]? = some (.cells #[.int .i64 4, .int .i64 0, .int .i64 6, .int .i64 0, .int .i64 0, .string ⟨#[112, 114, 105, 110, 116]⟩, .int .i64 0, .slice sb 1 cb, .string ⟨#[]⟩, .int .i64 0, .int .i64 1, .slice sk 0 ck] 39)) ∧ Hid (Vals wx (.slice sb 1 cb) [nV 1]) ∧ Hid (Below w4.heap.size w4 wx))
  case first =>
    have SO := Lib.hid (fun (W : World) (hb : Below w4.heap.size w4 W) => (show W.cell? ⟨w.heap.size, 0, none⟩ = some (.int .i64 6) ∧ W.cell? ⟨w.heap.size, 1, none⟩ = some (.int .i64 0) ∧ W.cell? ⟨w.heap.size, 2, none⟩ = some (.int .i64 0) ∧ W.cell? ⟨w.heap.size, 3, none⟩ = some (.string ⟨#[112, 114, 105, 110, 116]⟩) ∧ W.cell? ⟨w.heap.size, 4, none⟩ = some (.int .i64 0) ∧ Hid (Below w4.heap.size w4 W) from ⟨(cells5 (hkeep hb Hf4.out)).1, (cells5 (hkeep hb Hf4.out)).2.1, (cells5 (hkeep hb Hf4.out)).2.2.1, (cells5 (hkeep hb Hf4.out)).2.2.2.1, (cells5 (hkeep hb Hf4.out)).2.2.2.2, Lib.hid hb⟩))
    have SO1 := Lib.hid (fun (W : World) (o : Obj) (hb : Below w4.heap.size w4 W) => SO.out _ (hb.alloc hb.size o))
    have SO1D := Lib.hid (fun (W : World) (o : Obj) (hb : Below w4.heap.size w4 W) => SO.out _ (hb.alloc hb.size o).drew)
    have SO2 := Lib.hid (fun (W : World) (o p : Obj) (hb : Below w4.heap.size w4 W) => SO.out _ ((hb.alloc hb.size o).alloc (hb.alloc hb.size o).size p))
    have SO12 := Lib.hid (fun (W : World) (b : Nat) (c0 c1 c2 c3 c4 c5 c6 c7 c8 c9 c10 c11 : Value) (hb : Below w4.heap.size w4 W) (hbb : w4.heap.size ≤ b) => SO.out _ (below_twelve hb hbb c0 c1 c2 c3 c4 c5 c6 c7 c8 c9 c10 c11))
    have P1 := Lib.hid (fun (X : World) (m : Nat) (hm : m = X.heap.size) (hb : Below w4.heap.size w4 (X.alloc (.cells #[.int .i64 6, .int .i64 0, .int .i64 0, .string ⟨#[112, 114, 105, 110, 116]⟩, .int .i64 0, .int .i64 2, .int .i64 1, .int .i64 1, .string ⟨#[]⟩, .int .i64 0] 30))) => (show Calls Tryz.prog 12 #[.pointer none, .string ⟨#[112, 99, 97, 108, 108]⟩, .slice (some ⟨m, 0, none⟩) 2 2] (X.alloc (.cells #[.int .i64 6, .int .i64 0, .int .i64 0, .string ⟨#[112, 114, 105, 110, 116]⟩, .int .i64 0, .int .i64 2, .int .i64 1, .int .i64 1, .string ⟨#[]⟩, .int .i64 0] 30)) (ActPost NoF (X.alloc (.cells #[.int .i64 6, .int .i64 0, .int .i64 0, .string ⟨#[112, 114, 105, 110, 116]⟩, .int .i64 0, .int .i64 2, .int .i64 1, .int .i64 1, .string ⟨#[]⟩, .int .i64 0] 30)) 4 0 prV [nV 1] ⟨#[]⟩ 0 1 []) from by subst hm; exact pca_begin _ _ 0 2 2 6 0 0 ⟨#[112, 114, 105, 110, 116]⟩ 0 [nV 1] (vals_two X prV (nV 1)) (by decide) (HSP.out _ (below_next HW4.out hb))))
    have P2 := Lib.hid (fun (X : World) (m : Nat) (hm : m = X.heap.size) (hb : Below w4.heap.size w4 ((X.alloc (.cells #[.int .i64 6, .int .i64 0, .int .i64 0, .string ⟨#[112, 114, 105, 110, 116]⟩, .int .i64 0, .int .i64 2, .int .i64 1, .int .i64 1, .string ⟨#[]⟩, .int .i64 0] 30)).alloc oAc)) => (show Calls Tryz.prog 12 #[.pointer none, .string ⟨#[112, 99, 97, 108, 108]⟩, .slice (some ⟨m, 0, none⟩) 2 2] ((X.alloc (.cells #[.int .i64 6, .int .i64 0, .int .i64 0, .string ⟨#[112, 114, 105, 110, 116]⟩, .int .i64 0, .int .i64 2, .int .i64 1, .int .i64 1, .string ⟨#[]⟩, .int .i64 0] 30)).alloc oAc) (ActPost NoF ((X.alloc (.cells #[.int .i64 6, .int .i64 0, .int .i64 0, .string ⟨#[112, 114, 105, 110, 116]⟩, .int .i64 0, .int .i64 2, .int .i64 1, .int .i64 1, .string ⟨#[]⟩, .int .i64 0] 30)).alloc oAc) 4 0 prV [nV 1] ⟨#[]⟩ 0 1 []) from by subst hm; exact pca_begin _ _ 0 2 2 6 0 0 ⟨#[112, 114, 105, 110, 116]⟩ 0 [nV 1] (Vals.below (vals_two X prV (nV 1)) (below1 _ _)) (by decide) (HSP.out _ (below_next HW4.out hb))))
    have hbR : Below w4.heap.size w4 w4 := Below.refl _ _
    have hbD : Below w4.heap.size w4 w4.drew := (Below.refl _ _).drew
    go_region_held3 (fun w' => w'.cell? ⟨w.heap.size, 0, none⟩ = some (.int .i64 6) ∧ w'.cell? ⟨w.heap.size, 1, none⟩ = some (.int .i64 0) ∧ w'.cell? ⟨w.heap.size, 2, none⟩ = some (.int .i64 0) ∧ w'.cell? ⟨w.heap.size, 3, none⟩ = some (.string ⟨#[112, 114, 105, 110, 116]⟩) ∧ w'.cell? ⟨w.heap.size, 4, none⟩ = some (.int .i64 0) ∧ Hid (Below w4.heap.size w4 w'))
      (first | with_reducible exact SO.out _ (by assumption) | with_reducible exact SO1.out _ _ (by assumption) | with_reducible exact SO1D.out _ _ (by assumption) | with_reducible exact SO2.out _ _ _ (by assumption) | with_reducible exact SO12.out _ _ _ _ _ _ _ _ _ _ _ _ _ _ (by assumption) (by first | with_reducible exact Nat.le_refl _ | with_reducible exact Below.size (by assumption) | omega))
      (first | (go_at_call 22; refine (lnum_x _ _).mono ?_; rintro e nw1 ⟨rfl, hb⟩; have hb1 := below_next (prj5b (by assumption)) hb; have hz1 := hb1.size; (first | (with_reducible have Hz1 := Lib.hid (hkeep hb (heap_newD w4 oAc))) | (with_reducible have Hz1 := Lib.hid (hkeep hb (heap_new w4 oAc))) | skip); clear hb) | (go_at_call 12; (first | (with_reducible refine (P1.out _ _ (by simp) (prj5b (by assumption))).mono ?_) | (with_reducible refine (P2.out _ _ (by simp) (prj5b (by assumption))).mono ?_)); rintro e nw2 ⟨so5, cap5, sk5, ck5, rfl, hrow, -, hm⟩; have hb2 := below_next (prj5b (by assumption)) (mods_below hm); have HR5 := Lib.hid hrow; (first | ((with_reducible have Hz2 := Lib.hid (hkeep (mods_below hm) (heap1_old Hz1.out _))); (obtain ⟨a0, a1, a2, a3, a4, a5, a6, a7, a8, a9, a10, a11⟩ := cells12 Hz2.out); (obtain ⟨f0, f1, f2, f3, f4, f5, f6, f7, f8, f9, f10, f11⟩ := froz12 Hz2.out)) | ((with_reducible have Hz2 := Lib.hid (hkeep (mods_below hm) (heap2_a nw1 oAc _))); (obtain ⟨a0, a1, a2, a3, a4, a5, a6, a7, a8, a9, a10, a11⟩ := cells12 Hz2.out); (obtain ⟨f0, f1, f2, f3, f4, f5, f6, f7, f8, f9, f10, f11⟩ := froz12 Hz2.out)) | ((with_reducible have Hz2 := Lib.hid (hkeep (mods_below hm) (heap2_b nw1 _ oAc))); (obtain ⟨a0, a1, a2, a3, a4, a5, a6, a7, a8, a9, a10, a11⟩ := cells12 Hz2.out); (obtain ⟨f0, f1, f2, f3, f4, f5, f6, f7, f8, f9, f10, f11⟩ := froz12 Hz2.out)) | skip); clear hrow hm))
    · go_wp2_with fail
      go_meet
      exact ⟨nw2.heap.size, so5, cap5, sk5, ck5, rfl, rfl, rfl, rfl, Lib.hid (heap1 nw2 _), Lib.hid (Vals.below (Vals.of_row HR5.out) (below1 _ _)), Lib.hid (hb2.alloc hb2.size _)⟩
    all_goals
      go_wp2_with fail
      go_meet
      exact ⟨_, so5, cap5, sk5, ck5, rfl, rfl, rfl, rfl, Lib.hid (twelve_new Hz2.out _ _ _ _ _ _ _ _ _ _ _ _), Lib.hid (Vals.of_row (row_twelve HR5.out (row_away HR5.out (by simp; try omega)) _ _ _ _ _ _ _ _ _ _ _ _)), Lib.hid (below_twelve hb2 (by omega) _ _ _ _ _ _ _ _ _ _ _ _)⟩
  case rest =>
    obtain ⟨xb, sb, cb, sk, ck, rfl, rfl, rfl, rfl, hxb, hvb, hbx⟩ := hcut
    have HWc := Lib.hid (below_next HW4.out hbx.out)
    have Hfc := Lib.hid (hkeep hbx.out Hf4.out)
    have HAc := Lib.hid (Vals.below HA4.out hbx.out)
    clear Hf0 Hf1 Hf2 Hf3 Hf4 HA4 HW0 HW1 HW2 HW3 HW4 hbx
    go_wp2_with fail
    refine (lstr_x _ _).mono ?_
    rintro e w5 ⟨rfl, hb⟩
    have HC5 := Lib.hid (hb)
    clear hb
    go_wp2_with fail
    refine (lnum_x _ _).mono ?_
    rintro e w6 ⟨rfl, hb⟩
    have HC6 := Lib.hid (below_next HC5.out hb)
    clear hb
    go_wp2_with fail
    refine (ton_base _ _ 0 2 2 [⟨3, 0, 0, ⟨#[102, 102]⟩, 0⟩, nV 16] (vals_two w6 ⟨3, 0, 0, ⟨#[102, 102]⟩, 0⟩ (nV 16)) (by decide) (HSP.out _ (below_next HWc.out (HC6.out.alloc HC6.out.size _))) ⟨#[102, 102]⟩ ⟨#[102, 102]⟩ ⟨#[102, 102]⟩ 16 255 false (by decide) (by decide) rfl rfl (by decide) ff_trim ff_cut ff_dig (by decide) 255 rfl).mono ?_
    rintro e w7 ⟨sc, cc, rfl, hrow, hb⟩
    have HC7 := Lib.hid (below_next (HC6.out.alloc HC6.out.size _) hb)
    have HVc7 := Lib.hid (Vals.of_row hrow)
    clear hb hrow
    go_wp2_with fail
    refine (lstr_x _ _).mono ?_
    rintro e w8 ⟨rfl, hb⟩
    have HC8 := Lib.hid (below_next HC7.out hb)
    have HVc8 := Lib.hid (Vals.below HVc7.out hb)
    clear hb
    go_wp2_with fail
    refine (lnum_x _ _).mono ?_
    rintro e w9 ⟨rfl, hb⟩
    have HC9 := Lib.hid (below_next HC8.out hb)
    have HVc9 := Lib.hid (Vals.below HVc8.out hb)
    clear hb
    go_wp2_with fail
    refine (sel_hash _ _ 0 3 3 [nV 1, V.nil] (vals_lit w9 [strV ⟨#[35]⟩, nV 1, V.nil]) (by decide) (HSP.out _ (below_next HWc.out (HC9.out.alloc HC9.out.size _)))).mono ?_
    rintro e w10 ⟨sd, cd, rfl, hrow, hb⟩
    have HC10 := Lib.hid (below_next (HC9.out.alloc HC9.out.size _) hb)
    have HVc10 := Lib.hid (Vals.below (Vals.below HVc9.out (below1 _ _)) hb)
    have HVd10 := Lib.hid (Vals.of_row hrow)
    clear hb hrow
    go_wp2_with fail
    refine (lstr_x _ _).mono ?_
    rintro e w11 ⟨rfl, hb⟩
    have HC11 := Lib.hid (below_next HC10.out hb)
    have HVc11 := Lib.hid (Vals.below HVc10.out hb)
    have HVd11 := Lib.hid (Vals.below HVd10.out hb)
    clear hb
    go_wp2_with fail
    refine (lstr_x _ _).mono ?_
    rintro e w12 ⟨rfl, hb⟩
    have HC12 := Lib.hid (below_next HC11.out hb)
    have HVc12 := Lib.hid (Vals.below HVc11.out hb)
    have HVd12 := Lib.hid (Vals.below HVd11.out hb)
    clear hb
    go_wp2_with fail
    refine (next_pcall _ _ 2 2 [⟨3, 0, 0, ⟨#[120]⟩, 0⟩, ⟨3, 0, 0, ⟨#[116]⟩, 0⟩] (vals_two w12 ⟨3, 0, 0, ⟨#[120]⟩, 0⟩ ⟨3, 0, 0, ⟨#[116]⟩, 0⟩) (by decide) ⟨3, 0, 0, ⟨#[120]⟩, 0⟩ rfl (HSP.out _ (below_next HWc.out (HC12.out.alloc HC12.out.size _)))).mono ?_
    rintro e w13 ⟨se, ce, rfl, hrow, hb⟩
    have HC13 := Lib.hid (below_next (HC12.out.alloc HC12.out.size _) hb)
    have HVc13 := Lib.hid (Vals.below (Vals.below HVc12.out (below1 _ _)) hb)
    have HVd13 := Lib.hid (Vals.below (Vals.below HVd12.out (below1 _ _)) hb)
    have HVe13 := Lib.hid (Vals.of_row hrow)
    clear hb hrow HVc7 HVc8 HVc9 HVc10 HVc11 HVc12 HVd10 HVd11 HVd12
    go_wp2
    obtain ⟨B, hB⟩ : ∃ B, B = w13.alloc (.cells #[.int .i64 1, .int .i64 0, .int .i64 V.nil.k, .int .i64 V.nil.p, .int .i64 V.nil.q, .string V.nil.s, .int .i64 V.nil.r, .slice se 2 ce, .string ⟨#[]⟩, .int .i64 0, .int .i64 0, .slice none 0 0] 39) := ⟨_, rfl⟩
    rw [← hB]
    have HCB := Lib.hid (show Below wc.heap.size wc B by rw [hB]; exact HC13.out.alloc HC13.out.size _)
    have HeB := Lib.hid (show B.heap[w13.heap.size]? = some (.cells #[.int .i64 1, .int .i64 0, .int .i64 0, .int .i64 0, .int .i64 0, .string ⟨#[]⟩, .int .i64 0, .slice se 2 ce, .string ⟨#[]⟩, .int .i64 0, .int .i64 0, .slice none 0 0] 39) by rw [hB]; exact heap1 _ _)
    have Va := Lib.hid (Vals.below HAc.out HCB.out)
    have Vb := Lib.hid (Vals.below hvb.out HCB.out)
    have Vc := Lib.hid (show Vals B (.slice sc 1 cc) [nV 255] by rw [hB]; exact Vals.below HVc13.out (below1 _ _))
    have Vd := Lib.hid (show Vals B (.slice sd 1 cd) [nV 2] by rw [hB]; exact Vals.below HVd13.out (below1 _ _))
    have Ve := Lib.hid (show Vals B (.slice se 2 ce) [⟨1, 0, 0, ⟨#[]⟩, 0⟩, ⟨3, 0, 0, ⟨#[120]⟩, 0⟩] by rw [hB]; exact Vals.below HVe13.out (below1 _ _))
    have Hx0 := Lib.hid (hkeep HCB.out hxb.out)
    have Hf0 := Lib.hid (hkeep HCB.out Hfc.out)
    have HWB := Lib.hid (below_next HWc.out HCB.out)
    clear hB HC5 HC6 HC7 HC8 HC9 HC10 HC11 HC12 HC13 HVc13 HVd13 HVe13 hxb hvb HAc Hfc
    have SMa := Lib.hid (fun (X : World) (m : Nat) (hm : m = X.heap.size) (hb : Below B.heap.size B (X.alloc (.cells #[.int .i64 2, .int .i64 8, .int .i64 1, .string ⟨#[]⟩, .int .i64 0] 30))) => (show Calls Tryz.prog 13 #[.slice sa 1 ca, .slice (some ⟨m, 0, none⟩) 1 1] (X.alloc (.cells #[.int .i64 2, .int .i64 8, .int .i64 1, .string ⟨#[]⟩, .int .i64 0] 30)) (BoolPost (X.alloc (.cells #[.int .i64 2, .int .i64 8, .int .i64 1, .string ⟨#[]⟩, .int .i64 0] 30)) true) from by subst hm; exact same_true _ _ _ _ _ _ _ [nV 8] (Vals.below Va.out hb) (vals_one X (nV 8)) (by decide)))
    have SMb := Lib.hid (fun (X : World) (m : Nat) (hm : m = X.heap.size) (hb : Below B.heap.size B (X.alloc (.cells #[.int .i64 2, .int .i64 1, .int .i64 1, .string ⟨#[]⟩, .int .i64 0] 30))) => (show Calls Tryz.prog 13 #[.slice sb 1 cb, .slice (some ⟨m, 0, none⟩) 1 1] (X.alloc (.cells #[.int .i64 2, .int .i64 1, .int .i64 1, .string ⟨#[]⟩, .int .i64 0] 30)) (BoolPost (X.alloc (.cells #[.int .i64 2, .int .i64 1, .int .i64 1, .string ⟨#[]⟩, .int .i64 0] 30)) true) from by subst hm; exact same_true _ _ _ _ _ _ _ [nV 1] (Vals.below Vb.out hb) (vals_one X (nV 1)) (by decide)))
    have SMc := Lib.hid (fun (X : World) (m : Nat) (hm : m = X.heap.size) (hb : Below B.heap.size B (X.alloc (.cells #[.int .i64 2, .int .i64 255, .int .i64 1, .string ⟨#[]⟩, .int .i64 0] 30))) => (show Calls Tryz.prog 13 #[.slice sc 1 cc, .slice (some ⟨m, 0, none⟩) 1 1] (X.alloc (.cells #[.int .i64 2, .int .i64 255, .int .i64 1, .string ⟨#[]⟩, .int .i64 0] 30)) (BoolPost (X.alloc (.cells #[.int .i64 2, .int .i64 255, .int .i64 1, .string ⟨#[]⟩, .int .i64 0] 30)) true) from by subst hm; exact same_true _ _ _ _ _ _ _ [nV 255] (Vals.below Vc.out hb) (vals_one X (nV 255)) (by decide)))
    have SMd := Lib.hid (fun (X : World) (m : Nat) (hm : m = X.heap.size) (hb : Below B.heap.size B (X.alloc (.cells #[.int .i64 2, .int .i64 2, .int .i64 1, .string ⟨#[]⟩, .int .i64 0] 30))) => (show Calls Tryz.prog 13 #[.slice sd 1 cd, .slice (some ⟨m, 0, none⟩) 1 1] (X.alloc (.cells #[.int .i64 2, .int .i64 2, .int .i64 1, .string ⟨#[]⟩, .int .i64 0] 30)) (BoolPost (X.alloc (.cells #[.int .i64 2, .int .i64 2, .int .i64 1, .string ⟨#[]⟩, .int .i64 0] 30)) true) from by subst hm; exact same_true _ _ _ _ _ _ _ [nV 2] (Vals.below Vd.out hb) (vals_one X (nV 2)) (by decide)))
    have SMe := Lib.hid (fun (X : World) (m : Nat) (hm : m = X.heap.size) (hb : Below B.heap.size B (X.alloc (.cells #[.int .i64 1, .int .i64 0, .int .i64 0, .string ⟨#[]⟩, .int .i64 0, .int .i64 3, .int .i64 0, .int .i64 0, .string ⟨#[120]⟩, .int .i64 0] 30))) => (show Calls Tryz.prog 13 #[.slice se 2 ce, .slice (some ⟨m, 0, none⟩) 2 2] (X.alloc (.cells #[.int .i64 1, .int .i64 0, .int .i64 0, .string ⟨#[]⟩, .int .i64 0, .int .i64 3, .int .i64 0, .int .i64 0, .string ⟨#[120]⟩, .int .i64 0] 30)) (BoolPost (X.alloc (.cells #[.int .i64 1, .int .i64 0, .int .i64 0, .string ⟨#[]⟩, .int .i64 0, .int .i64 3, .int .i64 0, .int .i64 0, .string ⟨#[120]⟩, .int .i64 0] 30)) true) from by subst hm; exact same_true _ _ _ _ _ _ _ [⟨1, 0, 0, ⟨#[]⟩, 0⟩, ⟨3, 0, 0, ⟨#[120]⟩, 0⟩] (Vals.below Ve.out hb) (vals_two X ⟨1, 0, 0, ⟨#[]⟩, 0⟩ ⟨3, 0, 0, ⟨#[120]⟩, 0⟩) (by decide)))
    have EQF := fun W => eqv_run W prV
    have SO := Lib.hid (fun (W : World) (hb : Below B.heap.size B W) => (show W.cell? ⟨w.heap.size, 0, none⟩ = some (.int .i64 6) ∧ W.cell? ⟨w.heap.size, 1, none⟩ = some (.int .i64 0) ∧ W.cell? ⟨w.heap.size, 2, none⟩ = some (.int .i64 0) ∧ W.cell? ⟨w.heap.size, 3, none⟩ = some (.string ⟨#[112, 114, 105, 110, 116]⟩) ∧ W.cell? ⟨w.heap.size, 4, none⟩ = some (.int .i64 0) ∧ W.cell? ⟨xb, 0, none⟩ = some (.int .i64 4) ∧ W.cell? ⟨xb, 2, none⟩ = some (.int .i64 6) ∧ W.cell? ⟨xb, 3, none⟩ = some (.int .i64 0) ∧ W.cell? ⟨xb, 4, none⟩ = some (.int .i64 0) ∧ W.cell? ⟨xb, 5, none⟩ = some (.string ⟨#[112, 114, 105, 110, 116]⟩) ∧ W.cell? ⟨xb, 6, none⟩ = some (.int .i64 0) ∧ W.cell? ⟨xb, 10, none⟩ = some (.int .i64 1) ∧ W.cell? ⟨xb, 7, none⟩ = some (.slice sb 1 cb) ∧ W.cell? ⟨w13.heap.size, 0, none⟩ = some (.int .i64 1) ∧ W.cell? ⟨w13.heap.size, 7, none⟩ = some (.slice se 2 ce) ∧ Hid (Below B.heap.size B W) from ⟨by rw [cell_of_heap (hkeep hb Hf0.out)]; rfl, by rw [cell_of_heap (hkeep hb Hf0.out)]; rfl, by rw [cell_of_heap (hkeep hb Hf0.out)]; rfl, by rw [cell_of_heap (hkeep hb Hf0.out)]; rfl, by rw [cell_of_heap (hkeep hb Hf0.out)]; rfl, by rw [cell_of_heap (hkeep hb Hx0.out)]; rfl, by rw [cell_of_heap (hkeep hb Hx0.out)]; rfl, by rw [cell_of_heap (hkeep hb Hx0.out)]; rfl, by rw [cell_of_heap (hkeep hb Hx0.out)]; rfl, by rw [cell_of_heap (hkeep hb Hx0.out)]; rfl, by rw [cell_of_heap (hkeep hb Hx0.out)]; rfl, by rw [cell_of_heap (hkeep hb Hx0.out)]; rfl, by rw [cell_of_heap (hkeep hb Hx0.out)]; rfl, by rw [cell_of_heap (hkeep hb HeB.out)]; rfl, by rw [cell_of_heap (hkeep hb HeB.out)]; rfl, Lib.hid hb⟩))
    have SO1 := Lib.hid (fun (W : World) (o : Obj) (hb : Below B.heap.size B W) => SO.out _ (hb.alloc hb.size o))
    have SO1D := Lib.hid (fun (W : World) (o : Obj) (hb : Below B.heap.size B W) => SO.out _ (hb.alloc hb.size o).drew)
    have hbR : Below B.heap.size B B := Below.refl _ _
    have hbD : Below B.heap.size B B.drew := (Below.refl _ _).drew
    go_region_held3 (fun w' => w'.cell? ⟨w.heap.size, 0, none⟩ = some (.int .i64 6) ∧ w'.cell? ⟨w.heap.size, 1, none⟩ = some (.int .i64 0) ∧ w'.cell? ⟨w.heap.size, 2, none⟩ = some (.int .i64 0) ∧ w'.cell? ⟨w.heap.size, 3, none⟩ = some (.string ⟨#[112, 114, 105, 110, 116]⟩) ∧ w'.cell? ⟨w.heap.size, 4, none⟩ = some (.int .i64 0) ∧ w'.cell? ⟨xb, 0, none⟩ = some (.int .i64 4) ∧ w'.cell? ⟨xb, 2, none⟩ = some (.int .i64 6) ∧ w'.cell? ⟨xb, 3, none⟩ = some (.int .i64 0) ∧ w'.cell? ⟨xb, 4, none⟩ = some (.int .i64 0) ∧ w'.cell? ⟨xb, 5, none⟩ = some (.string ⟨#[112, 114, 105, 110, 116]⟩) ∧ w'.cell? ⟨xb, 6, none⟩ = some (.int .i64 0) ∧ w'.cell? ⟨xb, 10, none⟩ = some (.int .i64 1) ∧ w'.cell? ⟨xb, 7, none⟩ = some (.slice sb 1 cb) ∧ w'.cell? ⟨w13.heap.size, 0, none⟩ = some (.int .i64 1) ∧ w'.cell? ⟨w13.heap.size, 7, none⟩ = some (.slice se 2 ce) ∧ Hid (Below B.heap.size B w'))
      (first | with_reducible exact SO.out _ (by assumption) | with_reducible exact SO1.out _ _ (by assumption) | with_reducible exact SO1D.out _ _ (by assumption))
      (first | (go_at_call 22; (with_reducible refine (lnum_x _ _).mono ?_); rintro e nw ⟨rfl, hb⟩; have hbn := below_next (prj15c (by assumption)) hb; clear hb) | (go_at_call 10; (with_reducible refine (lstr_x _ _).mono ?_); rintro e nw ⟨rfl, hb⟩; have hbn := below_next (prj15c (by assumption)) hb; clear hb) | (go_at_call 13; (first | (with_reducible refine (SMa.out _ _ (by simp) (prj15c (by assumption))).mono ?_) | (with_reducible refine (SMb.out _ _ (by simp) (prj15c (by assumption))).mono ?_) | (with_reducible refine (SMc.out _ _ (by simp) (prj15c (by assumption))).mono ?_) | (with_reducible refine (SMd.out _ _ (by simp) (prj15c (by assumption))).mono ?_) | (with_reducible refine (SMe.out _ _ (by simp) (prj15c (by assumption))).mono ?_)); rintro e nw ⟨rfl, hb⟩; have hbn := below_next (prj15c (by assumption)) hb; clear hb))
    go_wp2
    go_ret
    exact bool_done rfl (below_next HWB.out (by assumption))
set_option maxRecDepth 100000 in
set_option maxHeartbeats 2000000 in
theorem prints_long1 (w : World) (hw : Spaces w) (so : Option Addr) (n cap : Nat) (sb : Option Addr) (m capb : Nat) (h : 20 < n) :
    Calls Tryz.prog 3 #[.slice so n cap, .slice sb m capb] w (BoolPost w true) := by
  have HAW := Lib.hid (fun W (hb : Below w.heap.size w W) => awake24_c W (Spaces.stays hw hb))
  have d1 : decide ((n : Int) > 20) = true := decide_eq_true (by omega)
  have d2 : (20 : Int) < (n : Int) := by omega
  clear hw
  go_enter Tryz.func3, Tryz.ntmps3
  go_wp2_with fail
  refine (HAW.out _ (Below.refl _ _)).mono ?_
  rintro e w2 ⟨rfl, hb⟩
  go_wp2
  go_ret
  exact bool_done rfl hb
set_option maxRecDepth 100000 in
set_option maxHeartbeats 2000000 in
theorem prints_long2 (w : World) (hw : Spaces w) (so : Option Addr) (n cap : Nat) (sb : Option Addr) (m capb : Nat) (h0 : n ≤ 20) (h : 20 < m) :
    Calls Tryz.prog 3 #[.slice so n cap, .slice sb m capb] w (BoolPost w true) := by
  have HAW := Lib.hid (fun W (hb : Below w.heap.size w W) => awake24_c W (Spaces.stays hw hb))
  have d1 : decide ((n : Int) > 20) = false := decide_eq_false (by omega)
  have d2 : ¬ (20 : Int) < (n : Int) := by omega
  have d3 : decide ((m : Int) > 20) = true := decide_eq_true (by omega)
  have d4 : (20 : Int) < (m : Int) := by omega
  clear hw
  go_enter Tryz.func3, Tryz.ntmps3
  go_wp2_with fail
  refine (HAW.out _ (Below.refl _ _)).mono ?_
  rintro e w2 ⟨rfl, hb⟩
  go_wp2
  go_ret
  exact bool_done rfl hb
end Go.Proofs.YteflmfdjnigjcaaGreatDoor
