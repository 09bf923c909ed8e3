import Derived.Test.YtpbcmlnjiocmoaaGreatDoorRKx
import Derived.Test.YtpbcmlnjiocmoaaGreatDoorRTk
set_option linter.unusedVariables false
set_option linter.unusedSimpArgs false
set_option maxRecDepth 100000
set_option maxHeartbeats 2000000
namespace Go.Proofs.YtpbcmlnjiocmoaaGreatDoorR
open Go.RowKit Go.Proofs.Lexi
set_option maxRecDepth 100000 in
set_option maxHeartbeats 2000000 in
theorem twRemove_in (w : World) (t m g : Nat) (sv : Value) (L : List Sl) (av : Value) (A : List V) (hT : TabW w t m g sv L av A) (hl : A.length ≤ 100000) (x P : Nat) (hP : A.length = P + 1) (hx : x < P) (k : Int) (hk : k = (x : Int) + 1) (hA0 : ∀ v ∈ A, v.k ≠ 0) {ek ep ej : Int} {es : ByteArray} {er : Int} (hev : A[x]? = some ⟨ek, ep, ej, es, er⟩) :
    Calls Tryz.prog 92 #[.pointer (some ⟨t, 0, none⟩), .int .i64 k] w (TRemPost w t m g sv L av (remM A x) ⟨ek, ep, ej, es, er⟩) := by
  subst hk
  obtain ⟨ga, cap, e, hga, hcap⟩ := listW_some hT.lw (fun h => by rw [h] at hP; simp at hP)
  subst e
  have HT := Lib.hid (hT)
  have HPP := Lib.hid (hP)
  have HEV := Lib.hid (hev)
  have HA0 := Lib.hid (hA0)
  have hc1 : P + 1 ≤ cap := by omega
  have hP5 : P + 1 ≤ 100000 := by omega
  have hxl : x < A.length := (List.getElem?_eq_some_iff.1 hev).1
  have hxP : x ≤ P := by omega
  have htl : t < w.heap.size := (Array.getElem?_eq_some_iff.1 hT.ht).1
  have d1 : decide ((x : Int) + 1 < 1) = false := decide_eq_false (by omega)
  have d2 : decide ((x : Int) + 1 > (P : Int) + 1) = false := decide_eq_false (by omega)
  obtain ⟨W1, hW1⟩ : ∃ W1, W1 = w.alloc (oV 0 0 0 ⟨#[]⟩ 0) := ⟨_, rfl⟩
  have HB1 := Lib.hid ((show Below w.heap.size w W1 by rw [hW1]; exact below1 _ _))
  have HR1 := Lib.hid ((show W1.heap[w.heap.size]? = some (oV 0 0 0 ⟨#[]⟩ 0) by rw [hW1]; exact heap1 _ _))
  have HT1 := Lib.hid (tabW_below hT HB1.out)
  have hz1 : w.heap.size < W1.heap.size := (Array.getElem?_eq_some_iff.1 HR1.out).1
  have t0 : W1.cell? ⟨t, 0, none⟩ = some (.slice (some ⟨ga, 0, none⟩) (P + 1) cap) := by rw [cell_of_heap HT1.out.ht, hP]; rfl
  obtain ⟨c0, c1, c2, c3, c4⟩ := listW_five HT1.out.lw HEV.out
  have hyt : t < W1.heap.size := by omega
  have hyg : ga < W1.heap.size := by omega
  clear hT hP hev hA0 hcap hl hxl
  go_enter Tryz.func92, Tryz.ntmps92
  go_upto_region 1 with fail
  try rw [show w.alloc (oV 0 0 0 ⟨#[]⟩ 0) = W1 from hW1.symm]
  clear hW1
  go_upto_region 7 with fail
  obtain ⟨W2, hW2⟩ : ∃ W2, W2 = W1.alloc (oV ek ep ej es er) := ⟨_, rfl⟩
  have HB2 := Lib.hid ((show Below W1.heap.size W1 W2 by rw [hW2]; exact below1 _ _))
  have Hl2 := Lib.hid ((show W2.heap[W1.heap.size]? = some (oV ek ep ej es er) by rw [hW2]; exact heap1 _ _))
  have HR2 := Lib.hid (hkeep HB2.out HR1.out)
  have HT2 := Lib.hid (tabW_below HT1.out HB2.out)
  have hz2 : W1.heap.size < W2.heap.size := (Array.getElem?_eq_some_iff.1 Hl2.out).1
  try rw [show W1.alloc (oV ek ep ej es er) = W2 from hW2.symm]
  clear hW2 t0 c0 c1 c2 c3 c4 hyt hyg
  have t0 : W2.cell? ⟨t, 0, none⟩ = some (.slice (some ⟨ga, 0, none⟩) (P + 1) cap) := by rw [cell_of_heap HT2.out.ht, HPP.out]; rfl
  have hyt : t < W2.heap.size := by omega
  have hyg : ga < W2.heap.size := by omega
  obtain ⟨cur, hcur⟩ := listW_block HT2.out.lw (show (Value.slice (some ⟨ga, 0, none⟩) A.length cap).ownBlock = some ga from rfl)
  have HCU := Lib.hid (hcur)
  have HDC := Lib.hid (drop_cells HT2.out.lw (x + 1) (P - x) (by have := HPP.out; omega))
  obtain ⟨B, hB⟩ : ∃ B, B = (A.drop (x + 1)).take (P - x) := ⟨_, rfl⟩
  rw [← hB] at HDC
  have HBE := Lib.hid (hB)
  have hBl : B.length = P - x := by rw [hB, List.length_take, List.length_drop]; have := HPP.out; omega
  clear hcur hB
  obtain ⟨W3, hW3⟩ : ∃ W3, W3 = W2.drew.setRow ga (cur.toList.take (x * 5) ++ (rowV B ++ cur.toList.drop (x * 5 + (rowV B).length))).toArray := ⟨_, rfl⟩
  have hsp := tabW_splice (w := W2.drew) (HT2.out.drewT) HCU.out x B (by have := HPP.out; omega) (fun v hv => HT2.out.wfA v (by rw [HBE.out] at hv; exact List.mem_of_mem_drop (List.mem_of_mem_take hv)))
  rw [← hW3] at hsp
  have hrun : (Builtin.copy_ #[26, 26] 3 #[.slice (some ⟨ga, x * 5, none⟩) (P + 1 - x) (cap - x), .slice (some ⟨ga, (x + 1) * 5, none⟩) (P - x) (cap - (x + 1))]).run Tryz.prog W2.drew = .ok (.int .i64 ((P - x : Nat) : Int)) W3 := by
    have hmin : Nat.min (P - x) (P + 1 - x) = P - x := Nat.min_eq_left (by omega)
    have h := run_copy_wide (P := Tryz.prog) W2.drew 26 26 3 30 5 ga (x * 5) (P + 1 - x) (cap - x) ⟨ga, (x + 1) * 5, none⟩ (P - x) (cap - (x + 1)) cur 30 (rowV B) Tryz.underlying26 info25s HCU.out (by rw [rowV_len, hBl, hmin]) HDC.out (by have h5 := HT2.out.lw; rw [rowV_len, hBl]; exact listW_fit h5 HCU.out (by have := HPP.out; omega)) (fun u hu => rowV_one u hu)
    rw [hmin, List.append_assoc, ← hW3] at h
    exact h
  have hA1e : A.take x ++ (B ++ A.drop (x + B.length)) = remM A x ++ A.drop P := by
    have h1 : B = A.drop (x + 1) := by rw [HBE.out, List.take_of_length_le (by rw [List.length_drop]; have := HPP.out; omega)]
    rw [hBl, show x + (P - x) = P by omega, ← List.append_assoc]
    unfold remM
    rw [h1]
  have HT3 := Lib.hid (hsp.1)
  have HM3 := Lib.hid (hsp.2)
  have Hl3 := Lib.hid ((mkeep hsp.2 (show W2.drew.heap[W1.heap.size]? = some (oV ek ep ej es er) from Hl2.out) (tb_new htl HT.out.lw HB1.out.size)))
  have HR3 := Lib.hid ((mkeep hsp.2 (show W2.drew.heap[w.heap.size]? = some (oV 0 0 0 ⟨#[]⟩ 0) from HR2.out) (tb_new htl HT.out.lw (Nat.le_refl _))))
  clear hsp hW3
  refine wp_region_lex mixed (by kernel_rfl) ?_
  go_wp2
  refine ⟨by kernel_rfl, ?_⟩
  obtain ⟨A1, hA1⟩ : ∃ A1, A1 = A.take x ++ (B ++ A.drop (x + B.length)) := ⟨_, rfl⟩
  rw [← hA1] at HT3
  have hD : (A.drop P).length = 1 := by rw [List.length_drop]; have := HPP.out; omega
  have HRE := Lib.hid (rem_eq HPP.out hxP HA0.out (hA1.trans hA1e) hD)
  have hA1l : A1.length = P + 1 := by
    rw [hA1]
    simp only [List.length_append, List.length_take, List.length_drop]
    have := HPP.out
    omega
  clear hA1 hA1e hrun t0
  have hz3 : W2.heap.size ≤ W3.heap.size := HM3.out.size
  have HTH := Lib.hid (listW_there HT3.out.lw (i := P) (by omega))
  have t0 : W3.cell? ⟨t, 0, none⟩ = some (.slice (some ⟨ga, 0, none⟩) (P + 1) cap) := by rw [cell_of_heap HT3.out.ht, HPP.out]; rfl
  have hyt3 : t < W3.heap.size := by omega
  have hyg3 : ga < W3.heap.size := by omega
  go_upto_region 8 with fail
  go_upto_region 9 with (refine wpList_store_mid rfl 30 _ _ rfl ga (P * 5) _ rfl rfl HTH.out info25 (by simp [Value.oneCell']) ?_)
  have hput := tabW_put HT3.out (i := P) (by omega) (x := V.nil) ⟨⟨⟨by decide, by decide⟩, ⟨by decide, by decide⟩, ⟨by decide, by decide⟩, by decide, ⟨by decide, by decide⟩⟩, by kernel_rfl⟩
  change TabW (W3.setCells ga (P * 5) (vCells V.nil)) _ _ _ _ _ _ _ ∧ _ at hput
  obtain ⟨W4, hW4⟩ : ∃ W4, W4 = W3.setCells ga (P * 5) (vCells V.nil) := ⟨_, rfl⟩
  rw [← hW4] at hput
  have hgoal : W3.setCells ga (P * 5) [.int .i64 0, .int .i64 0, .int .i64 0, .string ⟨#[]⟩, .int .i64 0] = W4 := hW4.symm
  try simp only [hgoal]
  clear hW4 hgoal
  have HT4 := Lib.hid (hput.1)
  have HM4 := Lib.hid (hput.2)
  have Hl4 := Lib.hid ((mkeep hput.2 Hl3.out (tb_new htl HT.out.lw HB1.out.size)))
  have HR4 := Lib.hid ((mkeep hput.2 HR3.out (tb_new htl HT.out.lw (Nat.le_refl _))))
  clear hput t0
  have HSK := Lib.hid (tshrink_c W4 t m g sv L _ _ HT4.out (by rw [List.length_set]; omega))
  go_wp2_with fail
  refine HSK.out.mono ?_
  rintro e w5 ⟨rfl, av', hT5, hown5, hm5⟩
  have HT5 := Lib.hid (hT5)
  have HO5 := Lib.hid (hown5)
  have HM5 := Lib.hid (hm5)
  have Hl5 := Lib.hid ((mkeep hm5 Hl4.out (by have := HB1.out.size; omega)))
  have HR5 := Lib.hid ((mkeep hm5 HR4.out (by omega)))
  clear hT5 hown5 hm5
  have hyl5 : W1.heap.size < w5.heap.size := (Array.getElem?_eq_some_iff.1 Hl5.out).1
  have hyr5 : w.heap.size < w5.heap.size := (Array.getElem?_eq_some_iff.1 HR5.out).1
  obtain ⟨l0, l1, l2, l3, l4⟩ := cells5 Hl5.out
  obtain ⟨fl0, fl1, fl2, fl3, fl4⟩ := froz5 Hl5.out
  obtain ⟨r0, r1, r2, r3, r4⟩ := cells5 HR5.out
  obtain ⟨fr0, fr1, fr2, fr3, fr4⟩ := froz5 HR5.out
  go_wp2
  refine bodyPost_ret (by simp [results, Tryz.results92, go_sem, hyr5, r0, r1, r2, r3, r4, l0, l1, l2, l3, l4]; first | done | rfl) rfl ?_
  have hM4w : Mods (TbF t (.slice (some ⟨ga, 0, none⟩) A.length cap)) w W4 := Mods.trans (Mods.of_below (below_next HB1.out HB2.out).drew) (Mods.trans HM3.out HM4.out)
  have hM5w : Mods (TbF t (.slice (some ⟨ga, 0, none⟩) A.length cap)) w w5 := Mods.trans hM4w (HM5.out.mono (fun b _ e => .inl e))
  rw [HRE.out] at HT5
  have hm5 : ∀ c0 c1 c2 c3 c4, Mods (fun b => b = w.heap.size) w5 (((((w5.setCell ⟨w.heap.size, 0, none⟩ c0).setCell ⟨w.heap.size, 1, none⟩ c1).setCell ⟨w.heap.size, 2, none⟩ c2).setCell ⟨w.heap.size, 3, none⟩ c3).setCell ⟨w.heap.size, 4, none⟩ c4) := fun _ _ _ _ _ => mods_five (F := fun b => b = w.heap.size) (Mods.refl _ _) (.inl rfl) _ _ _ _ _
  refine ⟨rfl, av', tabW_keep HT5.out (fun b hb => (hm5 _ _ _ _ _).block b (tb_lt HT5.out hb) (fun e => ?_)), fun b hb => .inl (HO5.out b hb), ?_⟩
  · have : b < w.heap.size := by
      rcases hb with hb | hb | hb
      · omega
      · exact tb_lt HT.out (.inr (.inl hb))
      · exact listW_lt HT.out.lw (HO5.out b hb)
    omega
  · exact ⟨(hm5 _ _ _ _ _).os.trans hM5w.os, (hm5 _ _ _ _ _).tape.trans hM5w.tape, (hm5 _ _ _ _ _).output.trans hM5w.output, Nat.le_trans hM5w.size (hm5 _ _ _ _ _).size, fun b hb hF => ((hm5 _ _ _ _ _).block b (Nat.lt_of_lt_of_le hb hM5w.size) (fun e => by omega)).trans (hM5w.block b hb hF)⟩
set_option maxRecDepth 100000 in
set_option maxHeartbeats 2000000 in
theorem twRemove_last (w : World) (t m g : Nat) (sv : Value) (L : List Sl) (av : Value) (A : List V) (hT : TabW w t m g sv L av A) (hl : A.length ≤ 100000) (P : Nat) (hP : A.length = P + 1) (k : Int) (hk : k = (P : Int) + 1) (hA0 : ∀ v ∈ A, v.k ≠ 0) {ek ep ej : Int} {es : ByteArray} {er : Int} (hev : A[P]? = some ⟨ek, ep, ej, es, er⟩) :
    Calls Tryz.prog 92 #[.pointer (some ⟨t, 0, none⟩), .int .i64 k] w (TRemPost w t m g sv L av (remM A P) ⟨ek, ep, ej, es, er⟩) := by
  subst hk
  obtain ⟨ga, cap, e, hga, hcap⟩ := listW_some hT.lw (fun h => by rw [h] at hP; simp at hP)
  subst e
  have HT := Lib.hid (hT)
  have HPP := Lib.hid (hP)
  have HEV := Lib.hid (hev)
  have HA0 := Lib.hid (hA0)
  have hc1 : P + 1 ≤ cap := by omega
  have hP5 : P + 1 ≤ 100000 := by omega
  have hxP : P ≤ P := Nat.le_refl P
  have htl : t < w.heap.size := (Array.getElem?_eq_some_iff.1 hT.ht).1
  have d1 : decide ((P : Int) + 1 < 1) = false := decide_eq_false (by omega)
  have d2 : decide ((P : Int) + 1 > (P : Int) + 1) = false := decide_eq_false (by omega)
  obtain ⟨W1, hW1⟩ : ∃ W1, W1 = w.alloc (oV 0 0 0 ⟨#[]⟩ 0) := ⟨_, rfl⟩
  have HB1 := Lib.hid ((show Below w.heap.size w W1 by rw [hW1]; exact below1 _ _))
  have HR1 := Lib.hid ((show W1.heap[w.heap.size]? = some (oV 0 0 0 ⟨#[]⟩ 0) by rw [hW1]; exact heap1 _ _))
  have HT1 := Lib.hid (tabW_below hT HB1.out)
  have hz1 : w.heap.size < W1.heap.size := (Array.getElem?_eq_some_iff.1 HR1.out).1
  have t0 : W1.cell? ⟨t, 0, none⟩ = some (.slice (some ⟨ga, 0, none⟩) (P + 1) cap) := by rw [cell_of_heap HT1.out.ht, hP]; rfl
  obtain ⟨c0, c1, c2, c3, c4⟩ := listW_five HT1.out.lw HEV.out
  have hyt : t < W1.heap.size := by omega
  have hyg : ga < W1.heap.size := by omega
  clear hT hP hev hA0 hcap hl
  go_enter Tryz.func92, Tryz.ntmps92
  go_upto_region 1 with fail
  try rw [show w.alloc (oV 0 0 0 ⟨#[]⟩ 0) = W1 from hW1.symm]
  clear hW1
  go_upto_region 7 with fail
  obtain ⟨W2, hW2⟩ : ∃ W2, W2 = W1.alloc (oV ek ep ej es er) := ⟨_, rfl⟩
  have HB2 := Lib.hid ((show Below W1.heap.size W1 W2 by rw [hW2]; exact below1 _ _))
  have Hl2 := Lib.hid ((show W2.heap[W1.heap.size]? = some (oV ek ep ej es er) by rw [hW2]; exact heap1 _ _))
  have HR2 := Lib.hid (hkeep HB2.out HR1.out)
  have HT2 := Lib.hid (tabW_below HT1.out HB2.out)
  have hz2 : W1.heap.size < W2.heap.size := (Array.getElem?_eq_some_iff.1 Hl2.out).1
  try rw [show W1.alloc (oV ek ep ej es er) = W2 from hW2.symm]
  clear hW2 t0 c0 c1 c2 c3 c4 hyt hyg
  have t0 : W2.cell? ⟨t, 0, none⟩ = some (.slice (some ⟨ga, 0, none⟩) (P + 1) cap) := by rw [cell_of_heap HT2.out.ht, HPP.out]; rfl
  have hyt : t < W2.heap.size := by omega
  have hyg : ga < W2.heap.size := by omega
  have hr2 := run_copy_zero (P := Tryz.prog) W2.drew 26 26 3 30 5 (some ⟨ga, P * 5, none⟩) (some ⟨ga, (P + 1) * 5, none⟩) 1 (cap - P) 0 (cap - (P + 1)) Tryz.underlying26 info25s rfl
  have hr3 := run_copy_zero (P := Tryz.prog) W2.drew 26 26 3 30 5 (some ⟨ga, P * 5, none⟩) (some ⟨ga, 0, none⟩) 1 (cap - P) 0 0 Tryz.underlying26 info25s rfl
  have hr4 := run_copy_zero (P := Tryz.prog) W2.drew 26 26 3 30 5 (some ⟨ga, P * 5, none⟩) (some ⟨ga, 0, none⟩) 1 1 0 0 Tryz.underlying26 info25s rfl
  obtain ⟨A1, hA1⟩ : ∃ A1, A1 = A := ⟨_, rfl⟩
  have hD : (A.drop P).length = 1 := by rw [List.length_drop]; have := HPP.out; omega
  have hA1e : A = remM A P ++ A.drop P := by
    unfold remM
    rw [List.drop_of_length_le (by have := HPP.out; omega), List.append_nil, List.take_append_drop]
  have HRE := Lib.hid (rem_eq HPP.out hxP HA0.out (hA1.trans hA1e) hD)
  have hA1l : A1.length = P + 1 := by rw [hA1]; exact HPP.out
  have HA1 := Lib.hid (hA1)
  clear hA1 hA1e hD
  obtain ⟨W3, hW3⟩ : ∃ W3, W3 = W2.drew := ⟨_, rfl⟩
  have hz3 : W2.heap.size ≤ W3.heap.size := by rw [hW3]; exact Nat.le_refl _
  have HT3 := Lib.hid ((show TabW W3 t m g sv L (.slice (some ⟨ga, 0, none⟩) A.length cap) A1 by rw [hW3, HA1.out]; exact HT2.out.drewT))
  have HM3 := Lib.hid ((show Mods (TbF t (.slice (some ⟨ga, 0, none⟩) A.length cap)) W2.drew W3 by rw [hW3]; exact Mods.refl _ _))
  have Hl3 := Lib.hid ((show W3.heap[W1.heap.size]? = some (oV ek ep ej es er) by rw [hW3]; exact Hl2.out))
  have HR3 := Lib.hid ((show W3.heap[w.heap.size]? = some (oV 0 0 0 ⟨#[]⟩ 0) by rw [hW3]; exact HR2.out))
  have HW3 := Lib.hid (hW3)
  have hcases : P + 1 = cap ∨ P + 1 < cap := by omega
  rcases hcases with rfl | hcc
  · refine wp_region_lex mixed (by kernel_rfl) ?_
    go_wp2
    refine ⟨by kernel_rfl, ?_⟩
    try rw [show W2.drew = W3 from HW3.out.symm]
    clear t0 hr2 hr3 hr4 hW3
    have HTH := Lib.hid (listW_there HT3.out.lw (i := P) (by omega))
    have t0 : W3.cell? ⟨t, 0, none⟩ = some (.slice (some ⟨ga, 0, none⟩) (P + 1) (P + 1)) := by rw [cell_of_heap HT3.out.ht, HPP.out]; rfl
    have hyt3 : t < W3.heap.size := by omega
    have hyg3 : ga < W3.heap.size := by omega
    go_upto_region 8 with fail
    go_upto_region 9 with (refine wpList_store_mid rfl 30 _ _ rfl ga (P * 5) _ rfl rfl HTH.out info25 (by simp [Value.oneCell']) ?_)
    have hput := tabW_put HT3.out (i := P) (by omega) (x := V.nil) ⟨⟨⟨by decide, by decide⟩, ⟨by decide, by decide⟩, ⟨by decide, by decide⟩, by decide, ⟨by decide, by decide⟩⟩, by kernel_rfl⟩
    change TabW (W3.setCells ga (P * 5) (vCells V.nil)) _ _ _ _ _ _ _ ∧ _ at hput
    obtain ⟨W4, hW4⟩ : ∃ W4, W4 = W3.setCells ga (P * 5) (vCells V.nil) := ⟨_, rfl⟩
    rw [← hW4] at hput
    have hgoal : W3.setCells ga (P * 5) [.int .i64 0, .int .i64 0, .int .i64 0, .string ⟨#[]⟩, .int .i64 0] = W4 := hW4.symm
    try simp only [hgoal]
    clear hW4 hgoal
    have HT4 := Lib.hid (hput.1)
    have HM4 := Lib.hid (hput.2)
    have Hl4 := Lib.hid ((mkeep hput.2 Hl3.out (tb_new htl HT.out.lw HB1.out.size)))
    have HR4 := Lib.hid ((mkeep hput.2 HR3.out (tb_new htl HT.out.lw (Nat.le_refl _))))
    clear hput t0
    have HSK := Lib.hid (tshrink_c W4 t m g sv L _ _ HT4.out (by rw [List.length_set]; omega))
    go_wp2_with fail
    refine HSK.out.mono ?_
    rintro e w5 ⟨rfl, av', hT5, hown5, hm5⟩
    have HT5 := Lib.hid (hT5)
    have HO5 := Lib.hid (hown5)
    have HM5 := Lib.hid (hm5)
    have Hl5 := Lib.hid ((mkeep hm5 Hl4.out (by have := HB1.out.size; omega)))
    have HR5 := Lib.hid ((mkeep hm5 HR4.out (by omega)))
    clear hT5 hown5 hm5
    have hyl5 : W1.heap.size < w5.heap.size := (Array.getElem?_eq_some_iff.1 Hl5.out).1
    have hyr5 : w.heap.size < w5.heap.size := (Array.getElem?_eq_some_iff.1 HR5.out).1
    obtain ⟨l0, l1, l2, l3, l4⟩ := cells5 Hl5.out
    obtain ⟨fl0, fl1, fl2, fl3, fl4⟩ := froz5 Hl5.out
    obtain ⟨r0, r1, r2, r3, r4⟩ := cells5 HR5.out
    obtain ⟨fr0, fr1, fr2, fr3, fr4⟩ := froz5 HR5.out
    go_wp2
    refine bodyPost_ret (by simp [results, Tryz.results92, go_sem, hyr5, r0, r1, r2, r3, r4, l0, l1, l2, l3, l4]; first | done | rfl) rfl ?_
    have hM4w : Mods (TbF t (.slice (some ⟨ga, 0, none⟩) A.length (P + 1))) w W4 := Mods.trans (Mods.of_below (below_next HB1.out HB2.out).drew) (Mods.trans HM3.out HM4.out)
    have hM5w : Mods (TbF t (.slice (some ⟨ga, 0, none⟩) A.length (P + 1))) w w5 := Mods.trans hM4w (HM5.out.mono (fun b _ e => .inl e))
    rw [HRE.out] at HT5
    have hm5 : ∀ c0 c1 c2 c3 c4, Mods (fun b => b = w.heap.size) w5 (((((w5.setCell ⟨w.heap.size, 0, none⟩ c0).setCell ⟨w.heap.size, 1, none⟩ c1).setCell ⟨w.heap.size, 2, none⟩ c2).setCell ⟨w.heap.size, 3, none⟩ c3).setCell ⟨w.heap.size, 4, none⟩ c4) := fun _ _ _ _ _ => mods_five (F := fun b => b = w.heap.size) (Mods.refl _ _) (.inl rfl) _ _ _ _ _
    refine ⟨rfl, av', tabW_keep HT5.out (fun b hb => (hm5 _ _ _ _ _).block b (tb_lt HT5.out hb) (fun e => ?_)), fun b hb => .inl (HO5.out b hb), ?_⟩
    · have : b < w.heap.size := by
        rcases hb with hb | hb | hb
        · omega
        · exact tb_lt HT.out (.inr (.inl hb))
        · exact listW_lt HT.out.lw (HO5.out b hb)
      omega
    · exact ⟨(hm5 _ _ _ _ _).os.trans hM5w.os, (hm5 _ _ _ _ _).tape.trans hM5w.tape, (hm5 _ _ _ _ _).output.trans hM5w.output, Nat.le_trans hM5w.size (hm5 _ _ _ _ _).size, fun b hb hF => ((hm5 _ _ _ _ _).block b (Nat.lt_of_lt_of_le hb hM5w.size) (fun e => by omega)).trans (hM5w.block b hb hF)⟩
  · refine wp_region_lex mixed (by kernel_rfl) ?_
    go_wp2
    refine ⟨by kernel_rfl, ?_⟩
    try rw [show W2.drew = W3 from HW3.out.symm]
    clear t0 hr2 hr3 hr4 hW3
    have HTH := Lib.hid (listW_there HT3.out.lw (i := P) (by omega))
    have t0 : W3.cell? ⟨t, 0, none⟩ = some (.slice (some ⟨ga, 0, none⟩) (P + 1) cap) := by rw [cell_of_heap HT3.out.ht, HPP.out]; rfl
    have hyt3 : t < W3.heap.size := by omega
    have hyg3 : ga < W3.heap.size := by omega
    go_upto_region 8 with fail
    go_upto_region 9 with (refine wpList_store_mid rfl 30 _ _ rfl ga (P * 5) _ rfl rfl HTH.out info25 (by simp [Value.oneCell']) ?_)
    have hput := tabW_put HT3.out (i := P) (by omega) (x := V.nil) ⟨⟨⟨by decide, by decide⟩, ⟨by decide, by decide⟩, ⟨by decide, by decide⟩, by decide, ⟨by decide, by decide⟩⟩, by kernel_rfl⟩
    change TabW (W3.setCells ga (P * 5) (vCells V.nil)) _ _ _ _ _ _ _ ∧ _ at hput
    obtain ⟨W4, hW4⟩ : ∃ W4, W4 = W3.setCells ga (P * 5) (vCells V.nil) := ⟨_, rfl⟩
    rw [← hW4] at hput
    have hgoal : W3.setCells ga (P * 5) [.int .i64 0, .int .i64 0, .int .i64 0, .string ⟨#[]⟩, .int .i64 0] = W4 := hW4.symm
    try simp only [hgoal]
    clear hW4 hgoal
    have HT4 := Lib.hid (hput.1)
    have HM4 := Lib.hid (hput.2)
    have Hl4 := Lib.hid ((mkeep hput.2 Hl3.out (tb_new htl HT.out.lw HB1.out.size)))
    have HR4 := Lib.hid ((mkeep hput.2 HR3.out (tb_new htl HT.out.lw (Nat.le_refl _))))
    clear hput t0
    have HSK := Lib.hid (tshrink_c W4 t m g sv L _ _ HT4.out (by rw [List.length_set]; omega))
    go_wp2_with fail
    refine HSK.out.mono ?_
    rintro e w5 ⟨rfl, av', hT5, hown5, hm5⟩
    have HT5 := Lib.hid (hT5)
    have HO5 := Lib.hid (hown5)
    have HM5 := Lib.hid (hm5)
    have Hl5 := Lib.hid ((mkeep hm5 Hl4.out (by have := HB1.out.size; omega)))
    have HR5 := Lib.hid ((mkeep hm5 HR4.out (by omega)))
    clear hT5 hown5 hm5
    have hyl5 : W1.heap.size < w5.heap.size := (Array.getElem?_eq_some_iff.1 Hl5.out).1
    have hyr5 : w.heap.size < w5.heap.size := (Array.getElem?_eq_some_iff.1 HR5.out).1
    obtain ⟨l0, l1, l2, l3, l4⟩ := cells5 Hl5.out
    obtain ⟨fl0, fl1, fl2, fl3, fl4⟩ := froz5 Hl5.out
    obtain ⟨r0, r1, r2, r3, r4⟩ := cells5 HR5.out
    obtain ⟨fr0, fr1, fr2, fr3, fr4⟩ := froz5 HR5.out
    go_wp2
    refine bodyPost_ret (by simp [results, Tryz.results92, go_sem, hyr5, r0, r1, r2, r3, r4, l0, l1, l2, l3, l4]; first | done | rfl) rfl ?_
    have hM4w : Mods (TbF t (.slice (some ⟨ga, 0, none⟩) A.length cap)) w W4 := Mods.trans (Mods.of_below (below_next HB1.out HB2.out).drew) (Mods.trans HM3.out HM4.out)
    have hM5w : Mods (TbF t (.slice (some ⟨ga, 0, none⟩) A.length cap)) w w5 := Mods.trans hM4w (HM5.out.mono (fun b _ e => .inl e))
    rw [HRE.out] at HT5
    have hm5 : ∀ c0 c1 c2 c3 c4, Mods (fun b => b = w.heap.size) w5 (((((w5.setCell ⟨w.heap.size, 0, none⟩ c0).setCell ⟨w.heap.size, 1, none⟩ c1).setCell ⟨w.heap.size, 2, none⟩ c2).setCell ⟨w.heap.size, 3, none⟩ c3).setCell ⟨w.heap.size, 4, none⟩ c4) := fun _ _ _ _ _ => mods_five (F := fun b => b = w.heap.size) (Mods.refl _ _) (.inl rfl) _ _ _ _ _
    refine ⟨rfl, av', tabW_keep HT5.out (fun b hb => (hm5 _ _ _ _ _).block b (tb_lt HT5.out hb) (fun e => ?_)), fun b hb => .inl (HO5.out b hb), ?_⟩
    · have : b < w.heap.size := by
        rcases hb with hb | hb | hb
        · omega
        · exact tb_lt HT.out (.inr (.inl hb))
        · exact listW_lt HT.out.lw (HO5.out b hb)
      omega
    · exact ⟨(hm5 _ _ _ _ _).os.trans hM5w.os, (hm5 _ _ _ _ _).tape.trans hM5w.tape, (hm5 _ _ _ _ _).output.trans hM5w.output, Nat.le_trans hM5w.size (hm5 _ _ _ _ _).size, fun b hb hF => ((hm5 _ _ _ _ _).block b (Nat.lt_of_lt_of_le hb hM5w.size) (fun e => by omega)).trans (hM5w.block b hb hF)⟩
end Go.Proofs.YtpbcmlnjiocmoaaGreatDoorR
