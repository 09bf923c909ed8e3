import Derived.Test.YtalfoihffnlelaaGreatDoorBh
set_option linter.unusedVariables false
set_option linter.unusedSimpArgs false
set_option maxRecDepth 100000
set_option maxHeartbeats 2000000
namespace Go.Proofs.YtalfoihffnlelaaGreatDoor
open Go.RowKit Go.Proofs.Lexi
set_option maxRecDepth 100000 in
set_option maxHeartbeats 2000000 in
theorem selects_pos_nil (w : World) (hw : Spaces w)  (A : List V) (hA : Vals w (.slice none A.length 0) A) (p : Int) (hl : A.length ≤ 100) (hall : A.all validV = true) (h1 : -2147483647 ≤ p) (h2 : p ≤ 2147483647) (hp : 0 < p) (hA1 : A.length = 0) :
    Calls Tryz.prog 3 #[.slice none A.length 0, .int .i64 p] w (BoolPost w true) := by
  have hcap : A.length ≤ 0 := by obtain ⟨_, _, e, h, _⟩ := hA; injection e with _ _ e; omega
  have HSP := Lib.hid (fun W (hb : Below w.heap.size w W) => Spaces.stays hw hb)
  have HV := Lib.hid (fun W (hb : Below w.heap.size w W) => Vals.below hA hb)
  have HAW := Lib.hid (fun W (hb : Below w.heap.size w W) => awake24_c W (Spaces.stays hw hb))
  have d1 : decide ((A.length : Int) > 100) = false := decide_eq_false (by omega)
  have d2 : (A.length : Int) ≤ 100 := by omega
  have d3 : decide (p < -2147483647) = false := decide_eq_false (by omega)
  have d4 : decide (p > 2147483647) = false := decide_eq_false (by omega)
  have e1 : (p != 0) = true := bne_iff_ne.2 (by omega)
  have e2 : decide (p ≥ -(A.length : Int)) = true := decide_eq_true (by omega)
  have e3 : decide (p > 0) = true := decide_eq_true hp
  have e4 : decide (-(A.length : Int) ≤ p) = true := decide_eq_true (by omega)
  obtain ⟨lo, hlo, hle⟩ : ∃ lo : Nat, min (p - 1) (A.length : Int) = lo ∧ lo ≤ A.length := ⟨(min (p - 1) (A.length : Int)).toNat, by omega, by omega⟩
  have hge : A.length ≤ lo := by omega
  have HGE := Lib.hid (hge)
  have HLE := Lib.hid (hle)
  have hcl2 : (lo : Int) ≤ (A.length : Int) := by omega
  have hcl : (lo : Int) ≤ 0 := by omega
  have HA1 := Lib.hid (hA1)
  clear hA1 hge hle
  have HLV := Lib.hid ((show Calls Tryz.prog 5 #[.slice none A.length 0] w (fun e w' => e = .returned (.bool true) ∧ Below w.heap.size w w') from hall ▸ lvalid_c w none A.length 0 A hA (by omega)))
  clear hw hA hall
  go_enter Tryz.func3, Tryz.ntmps3
  go_wp2_with fail
  refine (HLV.out).mono ?_
  rintro e w1 ⟨rfl, hb⟩
  have HW1 := Lib.hid (hb)
  clear hb
  go_wp2_with fail
  refine (lstr_x _ _).mono ?_
  rintro e w2 ⟨rfl, hb⟩
  have HW2 := Lib.hid (below_next HW1.out hb)
  clear hb
  go_wp2_with (at_builtin; refine wpList_append_vals rfl (.tmp 28) (.tmp 29) rfl w2.heap.size (.slice (some ⟨w2.heap.size, 0, none⟩) 1 1) 1 (rowV [strV ⟨#[35]⟩]) rfl (row_lit w2 [strV ⟨#[35]⟩] (by decide)) (.slice none A.length 0) A rfl (HV.out _ (HW2.out.alloc HW2.out.size _)) (by omega) (by simp) ?_)
  intro sx cx w3 hown hgrow
  have HO3 := Lib.hid (hown)
  have HW3 := Lib.hid (below_grown (HW2.out.alloc HW2.out.size _) hgrow (by have := HW2.out.size; simp; omega) (fun g h => by cases h; exact HW2.out.size))
  clear hown hgrow
  have HX3 := Lib.hid (row_cons (x := strV ⟨#[35]⟩) HO3.out)
  obtain ⟨g3, o3, hsx⟩ := Vals.some_of HX3.out (by simp)
  subst hsx
  go_wp2_with fail
  refine (sel_hash _ g3 o3 (1 + A.length) cx A HX3.out (by omega) (HSP.out _ HW3.out)).mono ?_
  rintro e w4 ⟨sa, ca, rfl, hrow, hb⟩
  have HW4 := Lib.hid (below_next HW3.out hb)
  have HVa := Lib.hid (Vals.of_row hrow)
  clear hb hrow
  go_wp2_with fail
  refine (lnum_x _ _).mono ?_
  rintro e w5 ⟨rfl, hb⟩
  have HW5 := Lib.hid (below_next HW4.out hb)
  have HVa5 := Lib.hid (Vals.below HVa.out hb)
  clear hb
  go_wp2_with (at_builtin; refine wpList_append_vals rfl (.tmp 37) (.tmp 38) rfl w5.heap.size (.slice (some ⟨w5.heap.size, 0, none⟩) 1 1) 1 (rowV [nV p]) rfl (row_lit w5 [nV p] (by simp)) (.slice none A.length 0) A rfl (HV.out _ (HW5.out.alloc HW5.out.size _)) (by omega) (by simp) ?_)
  intro sy cy w6 hown hgrow
  have HO6 := Lib.hid (hown)
  have HQ6 := Lib.hid (below_grown (below1 w5 _) hgrow (by simp) (fun g h => by cases h; exact Nat.le_refl _))
  have HW6 := Lib.hid (below_next HW5.out HQ6.out)
  have HVa6 := Lib.hid (Vals.below HVa5.out HQ6.out)
  clear hown hgrow
  have HX6 := Lib.hid (row_cons (x := nV p) HO6.out)
  obtain ⟨g6, o6, hsy⟩ := Vals.some_of HX6.out (by simp)
  subst hsy
  go_wp2_with fail
  refine (sel_pos _ g6 o6 (1 + A.length) cy p A HX6.out (by omega) h1 h2 hp lo hlo (HSP.out _ HW6.out)).mono ?_
  rintro e w7 ⟨sb, cb, rfl, hrow, hb⟩
  have HW7 := Lib.hid (below_next HW6.out hb)
  have HVa7 := Lib.hid (Vals.below HVa6.out hb)
  have HVb7 := Lib.hid (Vals.of_row hrow)
  clear hb hrow
  go_wp2_with fail
  refine (lnum_x _ _).mono ?_
  rintro e w8 ⟨rfl, hb⟩
  have HW8 := Lib.hid (below_next HW7.out hb)
  have HVa8 := Lib.hid (Vals.below HVa7.out hb)
  have HVb8 := Lib.hid (Vals.below HVb7.out hb)
  clear hb
  go_wp2_with fail
  refine (same_true _ _ _ _ _ _ _ [nV (A.length : Nat)] (Vals.below HVa8.out (below1 _ _)) (vals_one w8 (nV (A.length : Nat))) (by simp)).mono ?_
  rintro e w9 ⟨rfl, hb⟩
  have HW9 := Lib.hid (below_next (HW8.out.alloc HW8.out.size _) hb)
  have HVb9 := Lib.hid (Vals.below (Vals.below HVb8.out (below1 _ _)) hb)
  clear hb
  go_wp2_with fail
  refine (same_true _ _ _ _ _ _ _ (A.drop lo) (vals_len HVb9.out List.length_drop) (vals_gone0 _ HGE.out) (by rw [List.length_drop]; omega)).mono ?_
  rintro e w10 ⟨rfl, hb⟩
  have HW10 := Lib.hid (below_next HW9.out hb)
  clear hb
  go_wp2_with fail
  refine (HAW.out _ HW10.out).mono ?_
  rintro e w11 ⟨rfl, hb⟩
  have HW11 := Lib.hid (below_next HW10.out hb)
  clear hb
  go_wp2
  go_ret
  exact bool_done rfl HW11.out
set_option maxRecDepth 100000 in
set_option maxHeartbeats 2000000 in
theorem selects_pos_empa (w : World) (hw : Spaces w) (ad : Addr) (A : List V) (hA : Vals w (.slice (some ad) A.length 0) A) (p : Int) (hl : A.length ≤ 100) (hall : A.all validV = true) (h1 : -2147483647 ≤ p) (h2 : p ≤ 2147483647) (hp : 0 < p) (hA1 : A.length = 0) :
    Calls Tryz.prog 3 #[.slice (some ad) A.length 0, .int .i64 p] w (BoolPost w true) := by
  have hcap : A.length ≤ 0 := by obtain ⟨_, _, e, h, _⟩ := hA; injection e with _ _ e; omega
  have HSP := Lib.hid (fun W (hb : Below w.heap.size w W) => Spaces.stays hw hb)
  have HV := Lib.hid (fun W (hb : Below w.heap.size w W) => Vals.below hA hb)
  have HAW := Lib.hid (fun W (hb : Below w.heap.size w W) => awake24_c W (Spaces.stays hw hb))
  have d1 : decide ((A.length : Int) > 100) = false := decide_eq_false (by omega)
  have d2 : (A.length : Int) ≤ 100 := by omega
  have d3 : decide (p < -2147483647) = false := decide_eq_false (by omega)
  have d4 : decide (p > 2147483647) = false := decide_eq_false (by omega)
  have e1 : (p != 0) = true := bne_iff_ne.2 (by omega)
  have e2 : decide (p ≥ -(A.length : Int)) = true := decide_eq_true (by omega)
  have e3 : decide (p > 0) = true := decide_eq_true hp
  have e4 : decide (-(A.length : Int) ≤ p) = true := decide_eq_true (by omega)
  obtain ⟨lo, hlo, hle⟩ : ∃ lo : Nat, min (p - 1) (A.length : Int) = lo ∧ lo ≤ A.length := ⟨(min (p - 1) (A.length : Int)).toNat, by omega, by omega⟩
  have hge : A.length ≤ lo := by omega
  have HGE := Lib.hid (hge)
  have HLE := Lib.hid (hle)
  have hcl2 : (lo : Int) ≤ (A.length : Int) := by omega
  have hcl : (lo : Int) ≤ 0 := by omega
  have HA1 := Lib.hid (hA1)
  clear hA1 hge hle
  have HLV := Lib.hid ((show Calls Tryz.prog 5 #[.slice (some ad) A.length 0] w (fun e w' => e = .returned (.bool true) ∧ Below w.heap.size w w') from hall ▸ lvalid_c w (some ad) A.length 0 A hA (by omega)))
  clear hw hA hall
  go_enter Tryz.func3, Tryz.ntmps3
  go_wp2_with fail
  refine (HLV.out).mono ?_
  rintro e w1 ⟨rfl, hb⟩
  have HW1 := Lib.hid (hb)
  clear hb
  go_wp2_with fail
  refine (lstr_x _ _).mono ?_
  rintro e w2 ⟨rfl, hb⟩
  have HW2 := Lib.hid (below_next HW1.out hb)
  clear hb
  go_wp2_with (at_builtin; refine wpList_append_vals rfl (.tmp 28) (.tmp 29) rfl w2.heap.size (.slice (some ⟨w2.heap.size, 0, none⟩) 1 1) 1 (rowV [strV ⟨#[35]⟩]) rfl (row_lit w2 [strV ⟨#[35]⟩] (by decide)) (.slice (some ad) A.length 0) A rfl (HV.out _ (HW2.out.alloc HW2.out.size _)) (by omega) (by simp) ?_)
  intro sx cx w3 hown hgrow
  have HO3 := Lib.hid (hown)
  have HW3 := Lib.hid (below_grown (HW2.out.alloc HW2.out.size _) hgrow (by have := HW2.out.size; simp; omega) (fun g h => by cases h; exact HW2.out.size))
  clear hown hgrow
  have HX3 := Lib.hid (row_cons (x := strV ⟨#[35]⟩) HO3.out)
  obtain ⟨g3, o3, hsx⟩ := Vals.some_of HX3.out (by simp)
  subst hsx
  go_wp2_with fail
  refine (sel_hash _ g3 o3 (1 + A.length) cx A HX3.out (by omega) (HSP.out _ HW3.out)).mono ?_
  rintro e w4 ⟨sa, ca, rfl, hrow, hb⟩
  have HW4 := Lib.hid (below_next HW3.out hb)
  have HVa := Lib.hid (Vals.of_row hrow)
  clear hb hrow
  go_wp2_with fail
  refine (lnum_x _ _).mono ?_
  rintro e w5 ⟨rfl, hb⟩
  have HW5 := Lib.hid (below_next HW4.out hb)
  have HVa5 := Lib.hid (Vals.below HVa.out hb)
  clear hb
  go_wp2_with (at_builtin; refine wpList_append_vals rfl (.tmp 37) (.tmp 38) rfl w5.heap.size (.slice (some ⟨w5.heap.size, 0, none⟩) 1 1) 1 (rowV [nV p]) rfl (row_lit w5 [nV p] (by simp)) (.slice (some ad) A.length 0) A rfl (HV.out _ (HW5.out.alloc HW5.out.size _)) (by omega) (by simp) ?_)
  intro sy cy w6 hown hgrow
  have HO6 := Lib.hid (hown)
  have HQ6 := Lib.hid (below_grown (below1 w5 _) hgrow (by simp) (fun g h => by cases h; exact Nat.le_refl _))
  have HW6 := Lib.hid (below_next HW5.out HQ6.out)
  have HVa6 := Lib.hid (Vals.below HVa5.out HQ6.out)
  clear hown hgrow
  have HX6 := Lib.hid (row_cons (x := nV p) HO6.out)
  obtain ⟨g6, o6, hsy⟩ := Vals.some_of HX6.out (by simp)
  subst hsy
  go_wp2_with fail
  refine (sel_pos _ g6 o6 (1 + A.length) cy p A HX6.out (by omega) h1 h2 hp lo hlo (HSP.out _ HW6.out)).mono ?_
  rintro e w7 ⟨sb, cb, rfl, hrow, hb⟩
  have HW7 := Lib.hid (below_next HW6.out hb)
  have HVa7 := Lib.hid (Vals.below HVa6.out hb)
  have HVb7 := Lib.hid (Vals.of_row hrow)
  clear hb hrow
  go_wp2_with fail
  refine (lnum_x _ _).mono ?_
  rintro e w8 ⟨rfl, hb⟩
  have HW8 := Lib.hid (below_next HW7.out hb)
  have HVa8 := Lib.hid (Vals.below HVa7.out hb)
  have HVb8 := Lib.hid (Vals.below HVb7.out hb)
  clear hb
  go_wp2_with fail
  refine (same_true _ _ _ _ _ _ _ [nV (A.length : Nat)] (Vals.below HVa8.out (below1 _ _)) (vals_one w8 (nV (A.length : Nat))) (by simp)).mono ?_
  rintro e w9 ⟨rfl, hb⟩
  have HW9 := Lib.hid (below_next (HW8.out.alloc HW8.out.size _) hb)
  have HVb9 := Lib.hid (Vals.below (Vals.below HVb8.out (below1 _ _)) hb)
  clear hb
  go_wp2_with fail
  refine (same_true _ _ _ _ _ _ _ (A.drop lo) (vals_len HVb9.out List.length_drop) (vals_gone _ HGE.out _ _) (by rw [List.length_drop]; omega)).mono ?_
  rintro e w10 ⟨rfl, hb⟩
  have HW10 := Lib.hid (below_next HW9.out hb)
  clear hb
  go_wp2_with fail
  refine (HAW.out _ HW10.out).mono ?_
  rintro e w11 ⟨rfl, hb⟩
  have HW11 := Lib.hid (below_next HW10.out hb)
  clear hb
  go_wp2
  go_ret
  exact bool_done rfl HW11.out
set_option maxRecDepth 100000 in
set_option maxHeartbeats 2000000 in
theorem selects_pos_empb (w : World) (hw : Spaces w) (ad : Addr) (cap : Nat) (A : List V) (hA : Vals w (.slice (some ad) A.length cap) A) (p : Int) (hl : A.length ≤ 100) (hall : A.all validV = true) (h1 : -2147483647 ≤ p) (h2 : p ≤ 2147483647) (hp : 0 < p) (hA1 : A.length = 0) (hq : ¬ cap = 0) :
    Calls Tryz.prog 3 #[.slice (some ad) A.length cap, .int .i64 p] w (BoolPost w true) := by
  have hcap : A.length ≤ cap := by obtain ⟨_, _, e, h, _⟩ := hA; injection e with _ _ e; omega
  have HSP := Lib.hid (fun W (hb : Below w.heap.size w W) => Spaces.stays hw hb)
  have HV := Lib.hid (fun W (hb : Below w.heap.size w W) => Vals.below hA hb)
  have HAW := Lib.hid (fun W (hb : Below w.heap.size w W) => awake24_c W (Spaces.stays hw hb))
  have d1 : decide ((A.length : Int) > 100) = false := decide_eq_false (by omega)
  have d2 : (A.length : Int) ≤ 100 := by omega
  have d3 : decide (p < -2147483647) = false := decide_eq_false (by omega)
  have d4 : decide (p > 2147483647) = false := decide_eq_false (by omega)
  have e1 : (p != 0) = true := bne_iff_ne.2 (by omega)
  have e2 : decide (p ≥ -(A.length : Int)) = true := decide_eq_true (by omega)
  have e3 : decide (p > 0) = true := decide_eq_true hp
  have e4 : decide (-(A.length : Int) ≤ p) = true := decide_eq_true (by omega)
  obtain ⟨lo, hlo, hle⟩ : ∃ lo : Nat, min (p - 1) (A.length : Int) = lo ∧ lo ≤ A.length := ⟨(min (p - 1) (A.length : Int)).toNat, by omega, by omega⟩
  have hge : A.length ≤ lo := by omega
  have HGE := Lib.hid (hge)
  have HLE := Lib.hid (hle)
  have hcl2 : (lo : Int) ≤ (A.length : Int) := by omega
  have hcl : (lo : Int) ≤ 0 := by omega
  have HA1 := Lib.hid (hA1)
  clear hA1 hge hle
  have hq2 : ¬ cap = lo := by have := HA1.out; have := HLE.out; omega
  have HLV := Lib.hid ((show Calls Tryz.prog 5 #[.slice (some ad) A.length cap] w (fun e w' => e = .returned (.bool true) ∧ Below w.heap.size w w') from hall ▸ lvalid_c w (some ad) A.length cap A hA (by omega)))
  clear hw hA hall
  go_enter Tryz.func3, Tryz.ntmps3
  go_wp2_with fail
  refine (HLV.out).mono ?_
  rintro e w1 ⟨rfl, hb⟩
  have HW1 := Lib.hid (hb)
  clear hb
  go_wp2_with fail
  refine (lstr_x _ _).mono ?_
  rintro e w2 ⟨rfl, hb⟩
  have HW2 := Lib.hid (below_next HW1.out hb)
  clear hb
  go_wp2_with (at_builtin; refine wpList_append_vals rfl (.tmp 28) (.tmp 29) rfl w2.heap.size (.slice (some ⟨w2.heap.size, 0, none⟩) 1 1) 1 (rowV [strV ⟨#[35]⟩]) rfl (row_lit w2 [strV ⟨#[35]⟩] (by decide)) (.slice (some ad) A.length cap) A rfl (HV.out _ (HW2.out.alloc HW2.out.size _)) (by omega) (by simp) ?_)
  intro sx cx w3 hown hgrow
  have HO3 := Lib.hid (hown)
  have HW3 := Lib.hid (below_grown (HW2.out.alloc HW2.out.size _) hgrow (by have := HW2.out.size; simp; omega) (fun g h => by cases h; exact HW2.out.size))
  clear hown hgrow
  have HX3 := Lib.hid (row_cons (x := strV ⟨#[35]⟩) HO3.out)
  obtain ⟨g3, o3, hsx⟩ := Vals.some_of HX3.out (by simp)
  subst hsx
  go_wp2_with fail
  refine (sel_hash _ g3 o3 (1 + A.length) cx A HX3.out (by omega) (HSP.out _ HW3.out)).mono ?_
  rintro e w4 ⟨sa, ca, rfl, hrow, hb⟩
  have HW4 := Lib.hid (below_next HW3.out hb)
  have HVa := Lib.hid (Vals.of_row hrow)
  clear hb hrow
  go_wp2_with fail
  refine (lnum_x _ _).mono ?_
  rintro e w5 ⟨rfl, hb⟩
  have HW5 := Lib.hid (below_next HW4.out hb)
  have HVa5 := Lib.hid (Vals.below HVa.out hb)
  clear hb
  go_wp2_with (at_builtin; refine wpList_append_vals rfl (.tmp 37) (.tmp 38) rfl w5.heap.size (.slice (some ⟨w5.heap.size, 0, none⟩) 1 1) 1 (rowV [nV p]) rfl (row_lit w5 [nV p] (by simp)) (.slice (some ad) A.length cap) A rfl (HV.out _ (HW5.out.alloc HW5.out.size _)) (by omega) (by simp) ?_)
  intro sy cy w6 hown hgrow
  have HO6 := Lib.hid (hown)
  have HQ6 := Lib.hid (below_grown (below1 w5 _) hgrow (by simp) (fun g h => by cases h; exact Nat.le_refl _))
  have HW6 := Lib.hid (below_next HW5.out HQ6.out)
  have HVa6 := Lib.hid (Vals.below HVa5.out HQ6.out)
  clear hown hgrow
  have HX6 := Lib.hid (row_cons (x := nV p) HO6.out)
  obtain ⟨g6, o6, hsy⟩ := Vals.some_of HX6.out (by simp)
  subst hsy
  go_wp2_with fail
  refine (sel_pos _ g6 o6 (1 + A.length) cy p A HX6.out (by omega) h1 h2 hp lo hlo (HSP.out _ HW6.out)).mono ?_
  rintro e w7 ⟨sb, cb, rfl, hrow, hb⟩
  have HW7 := Lib.hid (below_next HW6.out hb)
  have HVa7 := Lib.hid (Vals.below HVa6.out hb)
  have HVb7 := Lib.hid (Vals.of_row hrow)
  clear hb hrow
  go_wp2_with fail
  refine (lnum_x _ _).mono ?_
  rintro e w8 ⟨rfl, hb⟩
  have HW8 := Lib.hid (below_next HW7.out hb)
  have HVa8 := Lib.hid (Vals.below HVa7.out hb)
  have HVb8 := Lib.hid (Vals.below HVb7.out hb)
  clear hb
  go_wp2_with fail
  refine (same_true _ _ _ _ _ _ _ [nV (A.length : Nat)] (Vals.below HVa8.out (below1 _ _)) (vals_one w8 (nV (A.length : Nat))) (by simp)).mono ?_
  rintro e w9 ⟨rfl, hb⟩
  have HW9 := Lib.hid (below_next (HW8.out.alloc HW8.out.size _) hb)
  have HVb9 := Lib.hid (Vals.below (Vals.below HVb8.out (below1 _ _)) hb)
  clear hb
  go_wp2_with fail
  refine (same_true _ _ _ _ _ _ _ (A.drop lo) (vals_len HVb9.out List.length_drop) (vals_gone _ HGE.out _ _) (by rw [List.length_drop]; omega)).mono ?_
  rintro e w10 ⟨rfl, hb⟩
  have HW10 := Lib.hid (below_next HW9.out hb)
  clear hb
  go_wp2_with fail
  refine (HAW.out _ HW10.out).mono ?_
  rintro e w11 ⟨rfl, hb⟩
  have HW11 := Lib.hid (below_next HW10.out hb)
  clear hb
  go_wp2
  go_ret
  exact bool_done rfl HW11.out
set_option maxRecDepth 100000 in
set_option maxHeartbeats 2000000 in
theorem selects_pos_eq (w : World) (hw : Spaces w) (g o : Nat) (A : List V) (hA : Vals w (.slice (some ⟨g, o, none⟩) A.length A.length) A) (p : Int) (hl : A.length ≤ 100) (hall : A.all validV = true) (h1 : -2147483647 ≤ p) (h2 : p ≤ 2147483647) (hp : 0 < p) (hle1 : (A.length : Int) ≤ p - 1) :
    Calls Tryz.prog 3 #[.slice (some ⟨g, o, none⟩) A.length A.length, .int .i64 p] w (BoolPost w true) := by
  have hcap : A.length ≤ A.length := by obtain ⟨_, _, e, h, _⟩ := hA; injection e with _ _ e; omega
  have HSP := Lib.hid (fun W (hb : Below w.heap.size w W) => Spaces.stays hw hb)
  have HV := Lib.hid (fun W (hb : Below w.heap.size w W) => Vals.below hA hb)
  have HAW := Lib.hid (fun W (hb : Below w.heap.size w W) => awake24_c W (Spaces.stays hw hb))
  have d1 : decide ((A.length : Int) > 100) = false := decide_eq_false (by omega)
  have d2 : (A.length : Int) ≤ 100 := by omega
  have d3 : decide (p < -2147483647) = false := decide_eq_false (by omega)
  have d4 : decide (p > 2147483647) = false := decide_eq_false (by omega)
  have e1 : (p != 0) = true := bne_iff_ne.2 (by omega)
  have e2 : decide (p ≥ -(A.length : Int)) = true := decide_eq_true (by omega)
  have e3 : decide (p > 0) = true := decide_eq_true hp
  have e4 : decide (-(A.length : Int) ≤ p) = true := decide_eq_true (by omega)
  have hlo : min (p - 1) (A.length : Int) = (A.length : Int) := by omega
  have HLV := Lib.hid ((show Calls Tryz.prog 5 #[.slice (some ⟨g, o, none⟩) A.length A.length] w (fun e w' => e = .returned (.bool true) ∧ Below w.heap.size w w') from hall ▸ lvalid_c w (some ⟨g, o, none⟩) A.length A.length A hA (by omega)))
  clear hw hA hall
  go_enter Tryz.func3, Tryz.ntmps3
  go_wp2_with fail
  refine (HLV.out).mono ?_
  rintro e w1 ⟨rfl, hb⟩
  have HW1 := Lib.hid (hb)
  clear hb
  go_wp2_with fail
  refine (lstr_x _ _).mono ?_
  rintro e w2 ⟨rfl, hb⟩
  have HW2 := Lib.hid (below_next HW1.out hb)
  clear hb
  go_wp2_with (at_builtin; refine wpList_append_vals rfl (.tmp 28) (.tmp 29) rfl w2.heap.size (.slice (some ⟨w2.heap.size, 0, none⟩) 1 1) 1 (rowV [strV ⟨#[35]⟩]) rfl (row_lit w2 [strV ⟨#[35]⟩] (by decide)) (.slice (some ⟨g, o, none⟩) A.length A.length) A rfl (HV.out _ (HW2.out.alloc HW2.out.size _)) (by omega) (by simp) ?_)
  intro sx cx w3 hown hgrow
  have HO3 := Lib.hid (hown)
  have HW3 := Lib.hid (below_grown (HW2.out.alloc HW2.out.size _) hgrow (by have := HW2.out.size; simp; omega) (fun g h => by cases h; exact HW2.out.size))
  clear hown hgrow
  have HX3 := Lib.hid (row_cons (x := strV ⟨#[35]⟩) HO3.out)
  obtain ⟨g3, o3, hsx⟩ := Vals.some_of HX3.out (by simp)
  subst hsx
  go_wp2_with fail
  refine (sel_hash _ g3 o3 (1 + A.length) cx A HX3.out (by omega) (HSP.out _ HW3.out)).mono ?_
  rintro e w4 ⟨sa, ca, rfl, hrow, hb⟩
  have HW4 := Lib.hid (below_next HW3.out hb)
  have HVa := Lib.hid (Vals.of_row hrow)
  clear hb hrow
  go_wp2_with fail
  refine (lnum_x _ _).mono ?_
  rintro e w5 ⟨rfl, hb⟩
  have HW5 := Lib.hid (below_next HW4.out hb)
  have HVa5 := Lib.hid (Vals.below HVa.out hb)
  clear hb
  go_wp2_with (at_builtin; refine wpList_append_vals rfl (.tmp 37) (.tmp 38) rfl w5.heap.size (.slice (some ⟨w5.heap.size, 0, none⟩) 1 1) 1 (rowV [nV p]) rfl (row_lit w5 [nV p] (by simp)) (.slice (some ⟨g, o, none⟩) A.length A.length) A rfl (HV.out _ (HW5.out.alloc HW5.out.size _)) (by omega) (by simp) ?_)
  intro sy cy w6 hown hgrow
  have HO6 := Lib.hid (hown)
  have HQ6 := Lib.hid (below_grown (below1 w5 _) hgrow (by simp) (fun g h => by cases h; exact Nat.le_refl _))
  have HW6 := Lib.hid (below_next HW5.out HQ6.out)
  have HVa6 := Lib.hid (Vals.below HVa5.out HQ6.out)
  clear hown hgrow
  have HX6 := Lib.hid (row_cons (x := nV p) HO6.out)
  obtain ⟨g6, o6, hsy⟩ := Vals.some_of HX6.out (by simp)
  subst hsy
  go_wp2_with fail
  refine (sel_pos _ g6 o6 (1 + A.length) cy p A HX6.out (by omega) h1 h2 hp A.length hlo (HSP.out _ HW6.out)).mono ?_
  rintro e w7 ⟨sb, cb, rfl, hrow, hb⟩
  have HW7 := Lib.hid (below_next HW6.out hb)
  have HVa7 := Lib.hid (Vals.below HVa6.out hb)
  have HVb7 := Lib.hid (Vals.of_row hrow)
  clear hb hrow
  go_wp2_with fail
  refine (lnum_x _ _).mono ?_
  rintro e w8 ⟨rfl, hb⟩
  have HW8 := Lib.hid (below_next HW7.out hb)
  have HVa8 := Lib.hid (Vals.below HVa7.out hb)
  have HVb8 := Lib.hid (Vals.below HVb7.out hb)
  clear hb
  go_wp2_with fail
  refine (same_true _ _ _ _ _ _ _ [nV (A.length : Nat)] (Vals.below HVa8.out (below1 _ _)) (vals_one w8 (nV (A.length : Nat))) (by simp)).mono ?_
  rintro e w9 ⟨rfl, hb⟩
  have HW9 := Lib.hid (below_next (HW8.out.alloc HW8.out.size _) hb)
  have HVb9 := Lib.hid (Vals.below (Vals.below HVb8.out (below1 _ _)) hb)
  clear hb
  go_wp2_with fail
  refine (same_true _ _ _ _ _ _ _ [] (vals_zero HVb9.out) (Vals.empty _ _ _) (by simp)).mono ?_
  rintro e w10 ⟨rfl, hb⟩
  have HW10 := Lib.hid (below_next HW9.out hb)
  clear hb
  go_wp2_with fail
  refine (HAW.out _ HW10.out).mono ?_
  rintro e w11 ⟨rfl, hb⟩
  have HW11 := Lib.hid (below_next HW10.out hb)
  clear hb
  go_wp2
  go_ret
  exact bool_done rfl HW11.out
set_option maxRecDepth 100000 in
set_option maxHeartbeats 2000000 in
theorem selects_pos_ne (w : World) (hw : Spaces w) (g o cap : Nat) (A : List V) (hA : Vals w (.slice (some ⟨g, o, none⟩) A.length cap) A) (p : Int) (hl : A.length ≤ 100) (hall : A.all validV = true) (h1 : -2147483647 ≤ p) (h2 : p ≤ 2147483647) (hp : 0 < p) (hq : ¬ (cap = A.length ∧ (A.length : Int) ≤ p - 1)) :
    Calls Tryz.prog 3 #[.slice (some ⟨g, o, none⟩) A.length cap, .int .i64 p] w (BoolPost w true) := by
  have hcap : A.length ≤ cap := by obtain ⟨_, _, e, h, _⟩ := hA; injection e with _ _ e; omega
  have HSP := Lib.hid (fun W (hb : Below w.heap.size w W) => Spaces.stays hw hb)
  have HV := Lib.hid (fun W (hb : Below w.heap.size w W) => Vals.below hA hb)
  have HAW := Lib.hid (fun W (hb : Below w.heap.size w W) => awake24_c W (Spaces.stays hw hb))
  have d1 : decide ((A.length : Int) > 100) = false := decide_eq_false (by omega)
  have d2 : (A.length : Int) ≤ 100 := by omega
  have d3 : decide (p < -2147483647) = false := decide_eq_false (by omega)
  have d4 : decide (p > 2147483647) = false := decide_eq_false (by omega)
  have e1 : (p != 0) = true := bne_iff_ne.2 (by omega)
  have e2 : decide (p ≥ -(A.length : Int)) = true := decide_eq_true (by omega)
  have e3 : decide (p > 0) = true := decide_eq_true hp
  have e4 : decide (-(A.length : Int) ≤ p) = true := decide_eq_true (by omega)
  obtain ⟨lo, hlo, hle⟩ : ∃ lo : Nat, min (p - 1) (A.length : Int) = lo ∧ lo ≤ A.length := ⟨(min (p - 1) (A.length : Int)).toNat, by omega, by omega⟩
  have hq2 : ¬ cap = lo := by omega
  have HLE := Lib.hid (hle)
  have hcl2 : (lo : Int) ≤ (A.length : Int) := by omega
  clear hle
  have HLV := Lib.hid ((show Calls Tryz.prog 5 #[.slice (some ⟨g, o, none⟩) A.length cap] w (fun e w' => e = .returned (.bool true) ∧ Below w.heap.size w w') from hall ▸ lvalid_c w (some ⟨g, o, none⟩) A.length cap A hA (by omega)))
  clear hw hA hall
  go_enter Tryz.func3, Tryz.ntmps3
  go_wp2_with fail
  refine (HLV.out).mono ?_
  rintro e w1 ⟨rfl, hb⟩
  have HW1 := Lib.hid (hb)
  clear hb
  go_wp2_with fail
  refine (lstr_x _ _).mono ?_
  rintro e w2 ⟨rfl, hb⟩
  have HW2 := Lib.hid (below_next HW1.out hb)
  clear hb
  go_wp2_with (at_builtin; refine wpList_append_vals rfl (.tmp 28) (.tmp 29) rfl w2.heap.size (.slice (some ⟨w2.heap.size, 0, none⟩) 1 1) 1 (rowV [strV ⟨#[35]⟩]) rfl (row_lit w2 [strV ⟨#[35]⟩] (by decide)) (.slice (some ⟨g, o, none⟩) A.length cap) A rfl (HV.out _ (HW2.out.alloc HW2.out.size _)) (by omega) (by simp) ?_)
  intro sx cx w3 hown hgrow
  have HO3 := Lib.hid (hown)
  have HW3 := Lib.hid (below_grown (HW2.out.alloc HW2.out.size _) hgrow (by have := HW2.out.size; simp; omega) (fun g h => by cases h; exact HW2.out.size))
  clear hown hgrow
  have HX3 := Lib.hid (row_cons (x := strV ⟨#[35]⟩) HO3.out)
  obtain ⟨g3, o3, hsx⟩ := Vals.some_of HX3.out (by simp)
  subst hsx
  go_wp2_with fail
  refine (sel_hash _ g3 o3 (1 + A.length) cx A HX3.out (by omega) (HSP.out _ HW3.out)).mono ?_
  rintro e w4 ⟨sa, ca, rfl, hrow, hb⟩
  have HW4 := Lib.hid (below_next HW3.out hb)
  have HVa := Lib.hid (Vals.of_row hrow)
  clear hb hrow
  go_wp2_with fail
  refine (lnum_x _ _).mono ?_
  rintro e w5 ⟨rfl, hb⟩
  have HW5 := Lib.hid (below_next HW4.out hb)
  have HVa5 := Lib.hid (Vals.below HVa.out hb)
  clear hb
  go_wp2_with (at_builtin; refine wpList_append_vals rfl (.tmp 37) (.tmp 38) rfl w5.heap.size (.slice (some ⟨w5.heap.size, 0, none⟩) 1 1) 1 (rowV [nV p]) rfl (row_lit w5 [nV p] (by simp)) (.slice (some ⟨g, o, none⟩) A.length cap) A rfl (HV.out _ (HW5.out.alloc HW5.out.size _)) (by omega) (by simp) ?_)
  intro sy cy w6 hown hgrow
  have HO6 := Lib.hid (hown)
  have HQ6 := Lib.hid (below_grown (below1 w5 _) hgrow (by simp) (fun g h => by cases h; exact Nat.le_refl _))
  have HW6 := Lib.hid (below_next HW5.out HQ6.out)
  have HVa6 := Lib.hid (Vals.below HVa5.out HQ6.out)
  clear hown hgrow
  have HX6 := Lib.hid (row_cons (x := nV p) HO6.out)
  obtain ⟨g6, o6, hsy⟩ := Vals.some_of HX6.out (by simp)
  subst hsy
  go_wp2_with fail
  refine (sel_pos _ g6 o6 (1 + A.length) cy p A HX6.out (by omega) h1 h2 hp lo hlo (HSP.out _ HW6.out)).mono ?_
  rintro e w7 ⟨sb, cb, rfl, hrow, hb⟩
  have HW7 := Lib.hid (below_next HW6.out hb)
  have HVa7 := Lib.hid (Vals.below HVa6.out hb)
  have HVb7 := Lib.hid (Vals.of_row hrow)
  clear hb hrow
  go_wp2_with fail
  refine (lnum_x _ _).mono ?_
  rintro e w8 ⟨rfl, hb⟩
  have HW8 := Lib.hid (below_next HW7.out hb)
  have HVa8 := Lib.hid (Vals.below HVa7.out hb)
  have HVb8 := Lib.hid (Vals.below HVb7.out hb)
  clear hb
  go_wp2_with fail
  refine (same_true _ _ _ _ _ _ _ [nV (A.length : Nat)] (Vals.below HVa8.out (below1 _ _)) (vals_one w8 (nV (A.length : Nat))) (by simp)).mono ?_
  rintro e w9 ⟨rfl, hb⟩
  have HW9 := Lib.hid (below_next (HW8.out.alloc HW8.out.size _) hb)
  have HVb9 := Lib.hid (Vals.below (Vals.below HVb8.out (below1 _ _)) hb)
  clear hb
  go_wp2_with fail
  refine (same_true _ _ _ _ _ _ _ (A.drop lo) (vals_len HVb9.out List.length_drop) (Vals.drop (HV.out _ HW9.out) lo HLE.out) (by rw [List.length_drop]; omega)).mono ?_
  rintro e w10 ⟨rfl, hb⟩
  have HW10 := Lib.hid (below_next HW9.out hb)
  clear hb
  go_wp2_with fail
  refine (HAW.out _ HW10.out).mono ?_
  rintro e w11 ⟨rfl, hb⟩
  have HW11 := Lib.hid (below_next HW10.out hb)
  clear hb
  go_wp2
  go_ret
  exact bool_done rfl HW11.out
set_option maxRecDepth 100000 in
set_option maxHeartbeats 2000000 in
theorem selects_neg (w : World) (hw : Spaces w) (g o cap : Nat) (A : List V) (hA : Vals w (.slice (some ⟨g, o, none⟩) A.length cap) A) (p : Int) (hl : A.length ≤ 100) (hall : A.all validV = true) (h1 : -2147483647 ≤ p) (h2 : p ≤ 2147483647) (hp : p < 0) (hpl : -(A.length : Int) ≤ p) :
    Calls Tryz.prog 3 #[.slice (some ⟨g, o, none⟩) A.length cap, .int .i64 p] w (BoolPost w true) := by
  have hcap : A.length ≤ cap := by obtain ⟨_, _, e, h, _⟩ := hA; injection e with _ _ e; omega
  have HSP := Lib.hid (fun W (hb : Below w.heap.size w W) => Spaces.stays hw hb)
  have HV := Lib.hid (fun W (hb : Below w.heap.size w W) => Vals.below hA hb)
  have HAW := Lib.hid (fun W (hb : Below w.heap.size w W) => awake24_c W (Spaces.stays hw hb))
  have d1 : decide ((A.length : Int) > 100) = false := decide_eq_false (by omega)
  have d2 : (A.length : Int) ≤ 100 := by omega
  have d3 : decide (p < -2147483647) = false := decide_eq_false (by omega)
  have d4 : decide (p > 2147483647) = false := decide_eq_false (by omega)
  have e1 : (p != 0) = true := bne_iff_ne.2 (by omega)
  have e2 : decide (p ≥ -(A.length : Int)) = true := decide_eq_true (by omega)
  have e3 : decide (p > 0) = false := decide_eq_false (by omega)
  have e4 : decide (-(A.length : Int) ≤ p) = true := decide_eq_true (by omega)
  obtain ⟨lo, hlo, hle⟩ : ∃ lo : Nat, (A.length : Int) + p = lo ∧ lo ≤ A.length := ⟨((A.length : Int) + p).toNat, by omega, by omega⟩
  have hq2 : ¬ cap = lo := by omega
  have HLE := Lib.hid (hle)
  have hcl2 : (lo : Int) ≤ (A.length : Int) := by omega
  clear hle
  have HLV := Lib.hid ((show Calls Tryz.prog 5 #[.slice (some ⟨g, o, none⟩) A.length cap] w (fun e w' => e = .returned (.bool true) ∧ Below w.heap.size w w') from hall ▸ lvalid_c w (some ⟨g, o, none⟩) A.length cap A hA (by omega)))
  clear hw hA hall
  go_enter Tryz.func3, Tryz.ntmps3
  go_wp2_with fail
  refine (HLV.out).mono ?_
  rintro e w1 ⟨rfl, hb⟩
  have HW1 := Lib.hid (hb)
  clear hb
  go_wp2_with fail
  refine (lstr_x _ _).mono ?_
  rintro e w2 ⟨rfl, hb⟩
  have HW2 := Lib.hid (below_next HW1.out hb)
  clear hb
  go_wp2_with (at_builtin; refine wpList_append_vals rfl (.tmp 28) (.tmp 29) rfl w2.heap.size (.slice (some ⟨w2.heap.size, 0, none⟩) 1 1) 1 (rowV [strV ⟨#[35]⟩]) rfl (row_lit w2 [strV ⟨#[35]⟩] (by decide)) (.slice (some ⟨g, o, none⟩) A.length cap) A rfl (HV.out _ (HW2.out.alloc HW2.out.size _)) (by omega) (by simp) ?_)
  intro sx cx w3 hown hgrow
  have HO3 := Lib.hid (hown)
  have HW3 := Lib.hid (below_grown (HW2.out.alloc HW2.out.size _) hgrow (by have := HW2.out.size; simp; omega) (fun g h => by cases h; exact HW2.out.size))
  clear hown hgrow
  have HX3 := Lib.hid (row_cons (x := strV ⟨#[35]⟩) HO3.out)
  obtain ⟨g3, o3, hsx⟩ := Vals.some_of HX3.out (by simp)
  subst hsx
  go_wp2_with fail
  refine (sel_hash _ g3 o3 (1 + A.length) cx A HX3.out (by omega) (HSP.out _ HW3.out)).mono ?_
  rintro e w4 ⟨sa, ca, rfl, hrow, hb⟩
  have HW4 := Lib.hid (below_next HW3.out hb)
  have HVa := Lib.hid (Vals.of_row hrow)
  clear hb hrow
  go_wp2_with fail
  refine (lnum_x _ _).mono ?_
  rintro e w5 ⟨rfl, hb⟩
  have HW5 := Lib.hid (below_next HW4.out hb)
  have HVa5 := Lib.hid (Vals.below HVa.out hb)
  clear hb
  go_wp2_with (at_builtin; refine wpList_append_vals rfl (.tmp 37) (.tmp 38) rfl w5.heap.size (.slice (some ⟨w5.heap.size, 0, none⟩) 1 1) 1 (rowV [nV p]) rfl (row_lit w5 [nV p] (by simp)) (.slice (some ⟨g, o, none⟩) A.length cap) A rfl (HV.out _ (HW5.out.alloc HW5.out.size _)) (by omega) (by simp) ?_)
  intro sy cy w6 hown hgrow
  have HO6 := Lib.hid (hown)
  have HQ6 := Lib.hid (below_grown (below1 w5 _) hgrow (by simp) (fun g h => by cases h; exact Nat.le_refl _))
  have HW6 := Lib.hid (below_next HW5.out HQ6.out)
  have HVa6 := Lib.hid (Vals.below HVa5.out HQ6.out)
  clear hown hgrow
  have HX6 := Lib.hid (row_cons (x := nV p) HO6.out)
  obtain ⟨g6, o6, hsy⟩ := Vals.some_of HX6.out (by simp)
  subst hsy
  go_wp2_with fail
  refine (sel_neg _ g6 o6 (1 + A.length) cy p A HX6.out (by omega) h1 h2 hp lo hlo (HSP.out _ HW6.out)).mono ?_
  rintro e w7 ⟨sb, cb, rfl, hrow, hb⟩
  have HW7 := Lib.hid (below_next HW6.out hb)
  have HVa7 := Lib.hid (Vals.below HVa6.out hb)
  have HVb7 := Lib.hid (Vals.of_row hrow)
  clear hb hrow
  go_wp2_with fail
  refine (lnum_x _ _).mono ?_
  rintro e w8 ⟨rfl, hb⟩
  have HW8 := Lib.hid (below_next HW7.out hb)
  have HVa8 := Lib.hid (Vals.below HVa7.out hb)
  have HVb8 := Lib.hid (Vals.below HVb7.out hb)
  clear hb
  go_wp2_with fail
  refine (same_true _ _ _ _ _ _ _ [nV (A.length : Nat)] (Vals.below HVa8.out (below1 _ _)) (vals_one w8 (nV (A.length : Nat))) (by simp)).mono ?_
  rintro e w9 ⟨rfl, hb⟩
  have HW9 := Lib.hid (below_next (HW8.out.alloc HW8.out.size _) hb)
  have HVb9 := Lib.hid (Vals.below (Vals.below HVb8.out (below1 _ _)) hb)
  clear hb
  go_wp2_with fail
  refine (same_true _ _ _ _ _ _ _ (A.drop lo) (vals_len HVb9.out List.length_drop) (Vals.drop (HV.out _ HW9.out) lo HLE.out) (by rw [List.length_drop]; omega)).mono ?_
  rintro e w10 ⟨rfl, hb⟩
  have HW10 := Lib.hid (below_next HW9.out hb)
  clear hb
  go_wp2_with fail
  refine (HAW.out _ HW10.out).mono ?_
  rintro e w11 ⟨rfl, hb⟩
  have HW11 := Lib.hid (below_next HW10.out hb)
  clear hb
  go_wp2
  go_ret
  exact bool_done rfl HW11.out
set_option maxRecDepth 100000 in
set_option maxHeartbeats 2000000 in
theorem selects_zero (w : World) (hw : Spaces w) (so : Option Addr) (cap : Nat) (A : List V) (hA : Vals w (.slice so A.length cap) A) (p : Int) (hl : A.length ≤ 100) (hall : A.all validV = true) (h1 : -2147483647 ≤ p) (h2 : p ≤ 2147483647) (hp : p = 0) :
    Calls Tryz.prog 3 #[.slice so A.length cap, .int .i64 p] w (BoolPost w true) := by
  have hcap : A.length ≤ cap := by obtain ⟨_, _, e, h, _⟩ := hA; injection e with _ _ e; omega
  have HSP := Lib.hid (fun W (hb : Below w.heap.size w W) => Spaces.stays hw hb)
  have HV := Lib.hid (fun W (hb : Below w.heap.size w W) => Vals.below hA hb)
  have HAW := Lib.hid (fun W (hb : Below w.heap.size w W) => awake24_c W (Spaces.stays hw hb))
  have d1 : decide ((A.length : Int) > 100) = false := decide_eq_false (by omega)
  have d2 : (A.length : Int) ≤ 100 := by omega
  have d3 : decide (p < -2147483647) = false := decide_eq_false (by omega)
  have d4 : decide (p > 2147483647) = false := decide_eq_false (by omega)
  have hbad : (p == 0) = true ∨ (p == 0) = false ∧ p < 0 ∧ (A.length : Int) < -p := .inl (beq_iff_eq.2 hp)
  have e1 : (p != 0) = false := by rw [hp]; rfl
  have e3 : decide (p > 0) = false := decide_eq_false (by omega)
  have HBAD := Lib.hid (hbad)
  clear hbad hp
  have HLV := Lib.hid ((show Calls Tryz.prog 5 #[.slice so A.length cap] w (fun e w' => e = .returned (.bool true) ∧ Below w.heap.size w w') from hall ▸ lvalid_c w so A.length cap A hA (by omega)))
  clear hw hA hall
  go_enter Tryz.func3, Tryz.ntmps3
  go_wp2_with fail
  refine (HLV.out).mono ?_
  rintro e w1 ⟨rfl, hb⟩
  have HW1 := Lib.hid (hb)
  clear hb
  go_wp2_with fail
  refine (lstr_x _ _).mono ?_
  rintro e w2 ⟨rfl, hb⟩
  have HW2 := Lib.hid (below_next HW1.out hb)
  clear hb
  go_wp2_with (at_builtin; refine wpList_append_vals rfl (.tmp 28) (.tmp 29) rfl w2.heap.size (.slice (some ⟨w2.heap.size, 0, none⟩) 1 1) 1 (rowV [strV ⟨#[35]⟩]) rfl (row_lit w2 [strV ⟨#[35]⟩] (by decide)) (.slice so A.length cap) A rfl (HV.out _ (HW2.out.alloc HW2.out.size _)) (by omega) (by simp) ?_)
  intro sx cx w3 hown hgrow
  have HO3 := Lib.hid (hown)
  have HW3 := Lib.hid (below_grown (HW2.out.alloc HW2.out.size _) hgrow (by have := HW2.out.size; simp; omega) (fun g h => by cases h; exact HW2.out.size))
  clear hown hgrow
  have HX3 := Lib.hid (row_cons (x := strV ⟨#[35]⟩) HO3.out)
  obtain ⟨g3, o3, hsx⟩ := Vals.some_of HX3.out (by simp)
  subst hsx
  go_wp2_with fail
  refine (sel_hash _ g3 o3 (1 + A.length) cx A HX3.out (by omega) (HSP.out _ HW3.out)).mono ?_
  rintro e w4 ⟨sa, ca, rfl, hrow, hb⟩
  have HW4 := Lib.hid (below_next HW3.out hb)
  have HVa := Lib.hid (Vals.of_row hrow)
  clear hb hrow
  go_wp2_with fail
  refine (lnum_x _ _).mono ?_
  rintro e w5 ⟨rfl, hb⟩
  have HW5 := Lib.hid (below_next HW4.out hb)
  have HVa5 := Lib.hid (Vals.below HVa.out hb)
  clear hb
  go_wp2_with (at_builtin; refine wpList_append_vals rfl (.tmp 37) (.tmp 38) rfl w5.heap.size (.slice (some ⟨w5.heap.size, 0, none⟩) 1 1) 1 (rowV [nV p]) rfl (row_lit w5 [nV p] (by simp)) (.slice so A.length cap) A rfl (HV.out _ (HW5.out.alloc HW5.out.size _)) (by omega) (by simp) ?_)
  intro sy cy w6 hown hgrow
  have HO6 := Lib.hid (hown)
  have HQ6 := Lib.hid (below_grown (below1 w5 _) hgrow (by simp) (fun g h => by cases h; exact Nat.le_refl _))
  have HW6 := Lib.hid (below_next HW5.out HQ6.out)
  have HVa6 := Lib.hid (Vals.below HVa5.out HQ6.out)
  clear hown hgrow
  have HX6 := Lib.hid (row_cons (x := nV p) HO6.out)
  obtain ⟨g6, o6, hsy⟩ := Vals.some_of HX6.out (by simp)
  subst hsy
  go_wp2_with fail
  refine (sel_bad _ g6 o6 (1 + A.length) cy p A HX6.out (by omega) h1 h2 HBAD.out (HSP.out _ HW6.out)).mono ?_
  rintro e w7 ⟨sb, cb, rfl, hrow, hb⟩
  have HW7 := Lib.hid (below_next HW6.out hb)
  have HVa7 := Lib.hid (Vals.below HVa6.out hb)
  have HVb7 := Lib.hid (Vals.of_row hrow)
  clear hb hrow
  go_wp2_with fail
  refine (lnum_x _ _).mono ?_
  rintro e w8 ⟨rfl, hb⟩
  have HW8 := Lib.hid (below_next HW7.out hb)
  have HVa8 := Lib.hid (Vals.below HVa7.out hb)
  have HVb8 := Lib.hid (Vals.below HVb7.out hb)
  clear hb
  go_wp2_with fail
  refine (same_true _ _ _ _ _ _ _ [nV (A.length : Nat)] (Vals.below HVa8.out (below1 _ _)) (vals_one w8 (nV (A.length : Nat))) (by simp)).mono ?_
  rintro e w9 ⟨rfl, hb⟩
  have HW9 := Lib.hid (below_next (HW8.out.alloc HW8.out.size _) hb)
  have HVb9 := Lib.hid (Vals.below (Vals.below HVb8.out (below1 _ _)) hb)
  clear hb
  go_wp2_with fail
  refine (HAW.out _ HW9.out).mono ?_
  rintro e w11 ⟨rfl, hb⟩
  have HW11 := Lib.hid (below_next HW9.out hb)
  clear hb
  go_wp2
  go_ret
  exact bool_done rfl HW11.out
set_option maxRecDepth 100000 in
set_option maxHeartbeats 2000000 in
theorem selects_far (w : World) (hw : Spaces w) (so : Option Addr) (cap : Nat) (A : List V) (hA : Vals w (.slice so A.length cap) A) (p : Int) (hl : A.length ≤ 100) (hall : A.all validV = true) (h1 : -2147483647 ≤ p) (h2 : p ≤ 2147483647) (hp : p < -(A.length : Int)) :
    Calls Tryz.prog 3 #[.slice so A.length cap, .int .i64 p] w (BoolPost w true) := by
  have hcap : A.length ≤ cap := by obtain ⟨_, _, e, h, _⟩ := hA; injection e with _ _ e; omega
  have HSP := Lib.hid (fun W (hb : Below w.heap.size w W) => Spaces.stays hw hb)
  have HV := Lib.hid (fun W (hb : Below w.heap.size w W) => Vals.below hA hb)
  have HAW := Lib.hid (fun W (hb : Below w.heap.size w W) => awake24_c W (Spaces.stays hw hb))
  have d1 : decide ((A.length : Int) > 100) = false := decide_eq_false (by omega)
  have d2 : (A.length : Int) ≤ 100 := by omega
  have d3 : decide (p < -2147483647) = false := decide_eq_false (by omega)
  have d4 : decide (p > 2147483647) = false := decide_eq_false (by omega)
  have hbad : (p == 0) = true ∨ (p == 0) = false ∧ p < 0 ∧ (A.length : Int) < -p := .inr ⟨beq_eq_false_iff_ne.2 (by omega), by omega, by omega⟩
  have e1 : (p != 0) = true := bne_iff_ne.2 (by omega)
  have e2 : decide (p ≥ -(A.length : Int)) = false := decide_eq_false (by omega)
  have e3 : decide (p > 0) = false := decide_eq_false (by omega)
  have e4 : decide (-(A.length : Int) ≤ p) = false := decide_eq_false (by omega)
  have HBAD := Lib.hid (hbad)
  clear hbad
  have HLV := Lib.hid ((show Calls Tryz.prog 5 #[.slice so A.length cap] w (fun e w' => e = .returned (.bool true) ∧ Below w.heap.size w w') from hall ▸ lvalid_c w so A.length cap A hA (by omega)))
  clear hw hA hall
  go_enter Tryz.func3, Tryz.ntmps3
  go_wp2_with fail
  refine (HLV.out).mono ?_
  rintro e w1 ⟨rfl, hb⟩
  have HW1 := Lib.hid (hb)
  clear hb
  go_wp2_with fail
  refine (lstr_x _ _).mono ?_
  rintro e w2 ⟨rfl, hb⟩
  have HW2 := Lib.hid (below_next HW1.out hb)
  clear hb
  go_wp2_with (at_builtin; refine wpList_append_vals rfl (.tmp 28) (.tmp 29) rfl w2.heap.size (.slice (some ⟨w2.heap.size, 0, none⟩) 1 1) 1 (rowV [strV ⟨#[35]⟩]) rfl (row_lit w2 [strV ⟨#[35]⟩] (by decide)) (.slice so A.length cap) A rfl (HV.out _ (HW2.out.alloc HW2.out.size _)) (by omega) (by simp) ?_)
  intro sx cx w3 hown hgrow
  have HO3 := Lib.hid (hown)
  have HW3 := Lib.hid (below_grown (HW2.out.alloc HW2.out.size _) hgrow (by have := HW2.out.size; simp; omega) (fun g h => by cases h; exact HW2.out.size))
  clear hown hgrow
  have HX3 := Lib.hid (row_cons (x := strV ⟨#[35]⟩) HO3.out)
  obtain ⟨g3, o3, hsx⟩ := Vals.some_of HX3.out (by simp)
  subst hsx
  go_wp2_with fail
  refine (sel_hash _ g3 o3 (1 + A.length) cx A HX3.out (by omega) (HSP.out _ HW3.out)).mono ?_
  rintro e w4 ⟨sa, ca, rfl, hrow, hb⟩
  have HW4 := Lib.hid (below_next HW3.out hb)
  have HVa := Lib.hid (Vals.of_row hrow)
  clear hb hrow
  go_wp2_with fail
  refine (lnum_x _ _).mono ?_
  rintro e w5 ⟨rfl, hb⟩
  have HW5 := Lib.hid (below_next HW4.out hb)
  have HVa5 := Lib.hid (Vals.below HVa.out hb)
  clear hb
  go_wp2_with (at_builtin; refine wpList_append_vals rfl (.tmp 37) (.tmp 38) rfl w5.heap.size (.slice (some ⟨w5.heap.size, 0, none⟩) 1 1) 1 (rowV [nV p]) rfl (row_lit w5 [nV p] (by simp)) (.slice so A.length cap) A rfl (HV.out _ (HW5.out.alloc HW5.out.size _)) (by omega) (by simp) ?_)
  intro sy cy w6 hown hgrow
  have HO6 := Lib.hid (hown)
  have HQ6 := Lib.hid (below_grown (below1 w5 _) hgrow (by simp) (fun g h => by cases h; exact Nat.le_refl _))
  have HW6 := Lib.hid (below_next HW5.out HQ6.out)
  have HVa6 := Lib.hid (Vals.below HVa5.out HQ6.out)
  clear hown hgrow
  have HX6 := Lib.hid (row_cons (x := nV p) HO6.out)
  obtain ⟨g6, o6, hsy⟩ := Vals.some_of HX6.out (by simp)
  subst hsy
  go_wp2_with fail
  refine (sel_bad _ g6 o6 (1 + A.length) cy p A HX6.out (by omega) h1 h2 HBAD.out (HSP.out _ HW6.out)).mono ?_
  rintro e w7 ⟨sb, cb, rfl, hrow, hb⟩
  have HW7 := Lib.hid (below_next HW6.out hb)
  have HVa7 := Lib.hid (Vals.below HVa6.out hb)
  have HVb7 := Lib.hid (Vals.of_row hrow)
  clear hb hrow
  go_wp2_with fail
  refine (lnum_x _ _).mono ?_
  rintro e w8 ⟨rfl, hb⟩
  have HW8 := Lib.hid (below_next HW7.out hb)
  have HVa8 := Lib.hid (Vals.below HVa7.out hb)
  have HVb8 := Lib.hid (Vals.below HVb7.out hb)
  clear hb
  go_wp2_with fail
  refine (same_true _ _ _ _ _ _ _ [nV (A.length : Nat)] (Vals.below HVa8.out (below1 _ _)) (vals_one w8 (nV (A.length : Nat))) (by simp)).mono ?_
  rintro e w9 ⟨rfl, hb⟩
  have HW9 := Lib.hid (below_next (HW8.out.alloc HW8.out.size _) hb)
  have HVb9 := Lib.hid (Vals.below (Vals.below HVb8.out (below1 _ _)) hb)
  clear hb
  go_wp2_with fail
  refine (HAW.out _ HW9.out).mono ?_
  rintro e w11 ⟨rfl, hb⟩
  have HW11 := Lib.hid (below_next HW9.out hb)
  clear hb
  go_wp2
  go_ret
  exact bool_done rfl HW11.out
theorem selects_law (w : World) (hw : Spaces w) (so : Option Addr) (n cap : Nat) (A : List V) (hA : Vals w (.slice so n cap) A) (p : Int) :
    Calls Tryz.prog 3 #[.slice so n cap, .int .i64 p] w (BoolPost w true) := by
  have hn : n = A.length := by obtain ⟨_, _, e, _⟩ := hA; injection e
  subst hn
  by_cases hl : A.length ≤ 100
  · cases hall : A.all validV with
    | false => exact selects_wild w hw so cap A hA p hl hall
    | true =>
      by_cases h1 : -2147483647 ≤ p
      · by_cases h2 : p ≤ 2147483647
        · by_cases h0 : 0 < p
          · rcases Vals.case hA with ⟨hA0, rfl, rfl⟩ | ⟨hA0, ad, rfl⟩ | ⟨hA0, g, o, rfl⟩
            · exact selects_pos_nil w hw A hA p hl hall h1 h2 h0 (by rw [hA0]; rfl)
            · by_cases hc : cap = 0
              · subst hc
                exact selects_pos_empa w hw ad A hA p hl hall h1 h2 h0 (by rw [hA0]; rfl)
              · exact selects_pos_empb w hw ad cap A hA p hl hall h1 h2 h0 (by rw [hA0]; rfl) hc
            · by_cases hq : cap = A.length ∧ (A.length : Int) ≤ p - 1
              · obtain ⟨rfl, hq⟩ := hq
                exact selects_pos_eq w hw g o A hA p hl hall h1 h2 h0 hq
              · exact selects_pos_ne w hw g o cap A hA p hl hall h1 h2 h0 hq
          · by_cases hz : p = 0
            · exact selects_zero w hw so cap A hA p hl hall h1 h2 hz
            · by_cases hf : p < -(A.length : Int)
              · exact selects_far w hw so cap A hA p hl hall h1 h2 hf
              · obtain ⟨g, o, rfl⟩ := Vals.some_of hA (fun h => by rw [h] at hf; simp at hf; omega)
                exact selects_neg w hw g o cap A hA p hl hall h1 h2 (by omega) (by omega)
        · exact selects_high w hw so cap A hA p hl hall (by omega)
      · exact selects_low w hw so cap A hA p hl hall (by omega)
  · exact selects_long w hw so cap A hA p (by omega)
end Go.Proofs.YtalfoihffnlelaaGreatDoor
