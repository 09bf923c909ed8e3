import Derived.Test.YtalfoihffnlelaaGreatDoorBl
import Derived.Test.YtalfoihffnlelaaGreatDoorNt
set_option linter.unusedVariables false
set_option linter.unusedSimpArgs false
set_option maxRecDepth 100000
set_option maxHeartbeats 2000000
namespace Go.Proofs.YtalfoihffnlelaaGreatDoor
open Go.RowKit Go.Proofs.Lexi
theorem num_text (w : World) (p q : Int) (h : validN (p, q) = true) (m : Int) (hm : w.cell? ⟨0, 0, none⟩ = some (.int .i64 m)) :
    Calls Tryz.prog 84 #[.agg #[.int .i64 3, .int .i64 0, .int .i64 0, .string (textB (p, q)), .int .i64 0]] w (fun e w' => e = .returned (.tuple #[.agg #[.int .i64 p, .int .i64 q], .int .i64 0]) ∧ Below w.heap.size w w') := by
  have := pNumber_str w 0 0 (textB (p, q)) 0 (Nat.le_trans (textB_size _) (by decide)) m hm
  rw [parse_text h] at this
  exact this
/-- What the text of an integer in a base is, cut at its sign. -/
theorem base_cut {b : Nat} (hb : 2 ≤ b) (hb2 : b ≤ 36) {p : Int} (hp1 : -2147483647 ≤ p) (hp2 : p ≤ 2147483647) {r : ByteArray} (hr : bytesOf r = bText b p) :
    ∃ Y : ByteArray, ∃ mi : Bool, ∃ m : Nat, Y.size ≤ 2000000000 ∧ (∀ W, Calls Tryz.prog 107 #[.string r, .string ⟨#[45]⟩] W (fun e w' => e = .returned (.tuple #[.string Y, .bool mi]) ∧ w' = W)) ∧ dgOut Y (dgM b (bytesOf Y) 0) = ((m : Int), true) ∧ m ≤ 2147483647 ∧ p = if mi then -(m : Int) else (m : Int) := by
  have hc := fun W => Tryz.strings_CutPrefix r ⟨#[45]⟩ W
  rw [show (⟨#[45]⟩ : ByteArray).data.toList = [45] from rfl] at hc
  have hL : r.data.toList.map UInt8.toNat = bText b p := hr
  cases hd : r.data.toList with
  | nil =>
    rw [hd] at hL
    exfalso
    unfold bText at hL
    split at hL
    · cases hL
    · exact dB_ne _ hL.symm
  | cons c R =>
    rw [hd] at hL hc
    have hp : Lib.hasPrefix (c :: R) [45] = (45 == c) := by unfold Lib.hasPrefix; simp [List.isPrefixOf]
    unfold bText at hL
    by_cases h0 : p < 0
    · rw [if_pos h0, List.map_cons] at hL
      injection hL with h1 h2
      have h45 : c = 45 := UInt8.toNat_inj.1 h1
      subst h45
      obtain ⟨g1, g2⟩ := dg_full hb hb2 (Y := ⟨R.toArray⟩) (m := p.natAbs) (by omega) h2
      refine ⟨⟨R.toArray⟩, true, p.natAbs, g1, fun W => ?_, g2, by omega, by rw [if_pos rfl]; omega⟩
      have := hc W
      unfold Lib.trimPrefix at this
      rw [hp] at this
      exact this
    · rw [if_neg h0] at hL
      have hne : c ≠ 45 := fun h => by
        subst h
        have : (45 : UInt8).toNat ∈ dB b p.natAbs := by rw [← hL]; exact List.mem_cons_self ..
        have := dB_all hb hb2 _ _ this
        have e : (45 : UInt8).toNat = 45 := rfl
        omega
      have hbr : bytesOf r = dB b p.natAbs := by unfold bytesOf; rw [hd]; exact hL
      obtain ⟨g1, g2⟩ := dg_full hb hb2 (Y := r) (m := p.natAbs) (by omega) hbr
      refine ⟨r, false, p.natAbs, g1, fun W => ?_, g2, by omega, by rw [if_neg (by decide)]; omega⟩
      have := hc W
      unfold Lib.trimPrefix at this
      have hf : ((45 : UInt8) == c) = false := beq_eq_false_iff_ne.2 (Ne.symm hne)
      rw [hp, hf, if_neg (by decide)] at this
      have e : (⟨(c :: R).toArray⟩ : ByteArray) = r := by rw [← hd]
      rw [e] at this
      exact this
set_option maxRecDepth 100000 in
set_option maxHeartbeats 2000000 in
theorem numbers_bad (w : World) (hw : Spaces w) (p q : Int) (x : Nat) (hv : validN (p, q) = false) : Calls Tryz.prog 4 #[.agg #[.int .i64 p, .int .i64 q], .int .u8 x] w (BoolPost w true) := by
  have HOF := Lib.hid (fun W => (show Calls Tryz.prog 11 #[.agg #[.int .i64 p, .int .i64 q]] W (fun e w' => e = .returned (.agg #[.int .i64 0, .int .i64 0, .int .i64 0, .string ⟨#[]⟩, .int .i64 0]) ∧ Below W.heap.size W w') from by have h := sOfNum_c W p q; rw [numVal_bad hv] at h; exact h))
  have HAW := Lib.hid (fun W (hb : Below w.heap.size w W) => awake24_c W (Spaces.stays hw hb))
  clear hw hv
  go_enter Tryz.func4, Tryz.ntmps4
  go_wp2_with fail
  refine (HOF.out _).mono ?_
  rintro e w1 ⟨rfl, hb⟩
  have HW1 := Lib.hid (below_next (below1 w _) hb)
  clear hb
  go_wp2_with fail
  refine (HAW.out _ (HW1.out.alloc HW1.out.size _)).mono ?_
  rintro e w2 ⟨rfl, hb⟩
  have HW2 := Lib.hid (below_next (HW1.out.alloc HW1.out.size _) hb)
  clear hb
  go_wp2
  go_ret
  exact bool_done rfl HW2.out
set_option maxRecDepth 100000 in
set_option maxHeartbeats 2000000 in
theorem numbers_good (w : World) (hw : Spaces w) (hg : Glob w) (hB : Bruijn w) (p q : Int) (x : Nat) (hx : x ≤ 255) (hv : validN (p, q) = true) : Calls Tryz.prog 4 #[.agg #[.int .i64 p, .int .i64 q], .int .u8 x] w (BoolPost w true) := by
  have HOF := Lib.hid (fun W => (show Calls Tryz.prog 11 #[.agg #[.int .i64 p, .int .i64 q]] W (fun e w' => e = .returned (.agg #[.int .i64 2, .int .i64 p, .int .i64 q, .string ⟨#[]⟩, .int .i64 0]) ∧ Below W.heap.size W w') from by have h := sOfNum_c W p q; rw [numVal_good hv] at h; exact h))
  have HPN := Lib.hid (fun W => (show Calls Tryz.prog 106 #[.agg #[.int .i64 p, .int .i64 q]] W (fun e w' => e = .returned (.agg #[.int .i64 2, .int .i64 p, .int .i64 q, .string ⟨#[]⟩, .int .i64 0]) ∧ Below W.heap.size W w') from by have h := pOfNum_c W p q; rw [numVal_good hv] at h; exact h))
  have HSP := Lib.hid (fun W (hb : Below w.heap.size w W) => Spaces.stays hw hb)
  have HG := Lib.hid (fun W (hb : Below w.heap.size w W) => Glob.stays hg hb)
  have HBR := Lib.hid (fun W (hb : Below w.heap.size w W) => Bruijn.stays hB hb)
  have HAW := Lib.hid (fun W (hb : Below w.heap.size w W) => awake24_c W (Spaces.stays hw hb))
  have HV := Lib.hid (hv)
  obtain ⟨hq1, hq2, hp1, hp2, _⟩ := validN_iff.1 hv
  obtain ⟨T, hT⟩ : ∃ T, T = textB (p, q) := ⟨_, rfl⟩
  have hTz : T.size ≤ 4096 := by rw [hT]; exact textB_size _
  have HTT := Lib.hid (hT)
  obtain ⟨b, hb⟩ : ∃ b, b = x % 35 + 2 := ⟨_, rfl⟩
  have hb1 : 2 ≤ b := by omega
  have hb2 : b ≤ 36 := by omega
  have EB : (x : Int) % 35 + 2 = (b : Int) := by omega
  have EB2 : (x : Int).tmod 35 + 2 = (b : Int) := by rw [Int.tmod_eq_emod_of_nonneg (by omega)]; exact EB
  simp only at hq1 hq2 hp1 hp2
  clear hw hg hB hv hT hb
  go_enter Tryz.func4, Tryz.ntmps4
  go_wp2_with fail
  refine (HOF.out _).mono ?_
  rintro e w1 ⟨rfl, hb⟩
  have Ha1 := Lib.hid (hkeep hb (heap1 w (.cells #[.int .i64 p, .int .i64 q] 28)))
  have HW1 := Lib.hid (below_next (below1 w _) hb)
  clear hb
  obtain ⟨v0, v1, v2, v3, v4⟩ := cells5 (heap1 w1 (oV 2 p q ⟨#[]⟩ 0))
  go_wp2_with fail
  refine ((HTT.out ▸ tos_num _ _ 0 1 1 [⟨2, p, q, ⟨#[]⟩, 0⟩] (vals_one_m _ ⟨2, p, q, ⟨#[]⟩, 0⟩ _ (by simp)) (by simp) (HSP.out _ ((HW1.out.alloc HW1.out.size _).alloc (HW1.out.alloc HW1.out.size _).size _)) (HG.out _ ((HW1.out.alloc HW1.out.size _).alloc (HW1.out.alloc HW1.out.size _).size _)).2 p q ⟨#[]⟩ 0 rfl (textB_size _) : Calls Tryz.prog _ _ _ (ResB _ [strV T] true))).mono ?_
  rintro e w2 ⟨so2, c2, rfl, hrow, hb⟩
  have Ha2 := Lib.hid (hkeep hb (heap1_old (heap1_old Ha1.out _) _))
  have Hv2 := Lib.hid (hkeep hb (heap1_old (heap1 w1 (oV 2 p q ⟨#[]⟩ 0)) _))
  have HW2 := Lib.hid (below_next ((HW1.out.alloc HW1.out.size _).alloc (HW1.out.alloc HW1.out.size _).size _) hb)
  have HS2 := Lib.hid (Vals.of_row hrow)
  clear hb hrow v0 v1 v2 v3 v4
  obtain ⟨g2, o2, hso⟩ := Vals.some_of HS2.out (by simp)
  subst hso
  obtain ⟨x0, x1, x2, x3, x4⟩ := vals_head HS2.out
  go_wp2_with fail
  refine (ton_str _ _ 0 1 1 [strV T] (vals_one w2 (strV T)) (by simp) (by decide) (HSP.out _ (HW2.out.alloc HW2.out.size _)) T p q rfl (fun W hb => by obtain ⟨⟨m, hm⟩, _⟩ := HG.out W (below_next (HW2.out.alloc HW2.out.size _) hb); rw [HTT.out]; exact num_text W p q HV.out m hm) HPN.out).mono ?_
  rintro e w3 ⟨so3, c3, rfl, hrow, hb⟩
  have Ha3 := Lib.hid (hkeep hb (heap1_old Ha2.out _))
  have Hv3 := Lib.hid (hkeep hb (heap1_old Hv2.out _))
  have HW3 := Lib.hid (below_next (HW2.out.alloc HW2.out.size _) hb)
  have HS3 := Lib.hid (Vals.of_row hrow)
  clear hb hrow x0 x1 x2 x3 x4
  obtain ⟨v0, v1, v2, v3, v4⟩ := cells5 Hv3.out
  go_wp2_with fail
  refine (same_true _ _ _ _ _ _ _ [⟨2, p, q, ⟨#[]⟩, 0⟩] (Vals.below HS3.out (below1 _ _)) (vals_one w3 ⟨2, p, q, ⟨#[]⟩, 0⟩) (by simp)).mono ?_
  rintro e w4 ⟨rfl, hb⟩
  have Ha4 := Lib.hid (hkeep hb (heap1_old Ha3.out _))
  have HW4 := Lib.hid (below_next (HW3.out.alloc HW3.out.size _) hb)
  clear hb v0 v1 v2 v3 v4
  have a0 : w4.cell? ⟨w.heap.size, 0, none⟩ = some (.int .i64 p) := by rw [cell_of_heap Ha4.out]; rfl
  go_wp2_with fail
  refine (base_c _ (HG.out _ HW4.out).2 (HBR.out _ HW4.out) b hb1 hb2 p hp1 hp2).mono ?_
  rintro e w5 ⟨r, rfl, hr, hb⟩
  have Ha5 := Lib.hid (hkeep hb Ha4.out)
  have HW5 := Lib.hid (below_next HW4.out hb)
  have HR := Lib.hid (hr)
  clear hb hr a0
  obtain ⟨Y, mi, m, hY, hcut, hdg, hm, hpm⟩ := base_cut hb1 hb2 hp1 hp2 HR.out
  have HY := Lib.hid (hY)
  have HCUT := Lib.hid (hcut)
  have HDG := Lib.hid (hdg)
  have HM := Lib.hid (hm)
  have HPM := Lib.hid (hpm)
  have HTR := Lib.hid (fun W => trim_same (r := r) (by rw [HR.out]; exact bText_trim hb1 hb2 p) (btext_size hb1 HR.out hp1 hp2) W)
  clear hY hcut hdg hm hpm
  go_wp2_with fail
  refine (lstr_x _ _).mono ?_
  rintro e w6 ⟨rfl, hb⟩
  have Ha6 := Lib.hid (hkeep hb Ha5.out)
  have HW6 := Lib.hid (below_next HW5.out hb)
  clear hb
  go_wp2_with fail
  refine (lnum_x _ _).mono ?_
  rintro e w7 ⟨rfl, hb⟩
  have Ha7 := Lib.hid (hkeep hb Ha6.out)
  have HW7 := Lib.hid (below_next HW6.out hb)
  clear hb
  go_wp2_with fail
  refine (ton_base _ _ 0 2 2 [⟨3, 0, 0, r, 0⟩, nV b] (vals_two w7 ⟨3, 0, 0, r, 0⟩ (nV b)) (by simp) (HSP.out _ (HW7.out.alloc HW7.out.size _)) r r Y b m mi hb1 hb2 rfl rfl HY.out HTR.out HCUT.out HDG.out HM.out p HPM.out).mono ?_
  rintro e w8 ⟨so8, c8, rfl, hrow, hb⟩
  have Ha8 := Lib.hid (hkeep hb (heap1_old Ha7.out _))
  have HW8 := Lib.hid (below_next (HW7.out.alloc HW7.out.size _) hb)
  have HS8 := Lib.hid (Vals.of_row hrow)
  clear hb hrow
  have a0 : w8.cell? ⟨w.heap.size, 0, none⟩ = some (.int .i64 p) := by rw [cell_of_heap Ha8.out]; rfl
  go_wp2_with fail
  refine (lnum_x _ _).mono ?_
  rintro e w9 ⟨rfl, hb⟩
  have HW9 := Lib.hid (below_next HW8.out hb)
  have HS9 := Lib.hid (Vals.below HS8.out hb)
  clear hb a0
  go_wp2_with fail
  refine (same_true _ _ _ _ _ _ _ [nV p] (Vals.below HS9.out (below1 _ _)) (vals_one w9 (nV p)) (by simp)).mono ?_
  rintro e w10 ⟨rfl, hb⟩
  have HW10 := Lib.hid (below_next (HW9.out.alloc HW9.out.size _) hb)
  clear hb
  go_wp2_with fail
  refine (HAW.out _ HW10.out).mono ?_
  rintro e w11 ⟨rfl, hb⟩
  have HW11 := Lib.hid (below_next HW10.out hb)
  clear hb
  go_wp2
  go_ret
  exact bool_done rfl HW11.out
theorem numbers24_law (w : World) (hw : Spaces w) (hg : Glob w) (hB : Bruijn w) (p q : Int) (x : Nat) (hx : x ≤ 255) : Calls Tryz.prog 4 #[.agg #[.int .i64 p, .int .i64 q], .int .u8 x] w (BoolPost w true) := by
  cases hv : validN (p, q) with
  | false => exact numbers_bad w hw p q x hv
  | true => exact numbers_good w hw hg hB p q x hx hv
end Go.Proofs.YtalfoihffnlelaaGreatDoor
