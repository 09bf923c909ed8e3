import Derived.Test.YtpbcmlnjiocmoaaGreatDoorRLexB
set_option linter.unusedVariables false
set_option linter.unusedSimpArgs false
set_option maxRecDepth 100000
set_option maxHeartbeats 4000000
namespace Go.Proofs.YtpbcmlnjiocmoaaGreatDoorR
open Go.RowKit Go.Proofs.Lexi
set_option maxRecDepth 100000 in
set_option maxHeartbeats 1000000 in
theorem rvalid_c (w : World) (p q : Int) : Calls Tryz.prog 80 #[.agg #[.int .i64 p, .int .i64 q]] w (BoolPost w (validN (p, q))) := by
  have HB := Lib.hid (below_num0 w (.cells #[.int .i64 p, .int .i64 q] 28))
  by_cases h : 1 ≤ q ∧ q ≤ 2147483647 ∧ -2147483647 ≤ p ∧ p ≤ 2147483647
  · obtain ⟨h1, h2, h3, h4⟩ := h
    have HGC := Lib.hid (fun W x y hx hy => gcd_c W x y p.natAbs q.natAbs hx hy (by omega) (by omega))
    obtain ⟨D, hD⟩ : ∃ D, D = Nat.gcd p.natAbs q.natAbs := ⟨_, rfl⟩
    have HV := Lib.hid (validN_good h1 h2 h3 h4 hD.symm)
    have HDD := Lib.hid hD.symm
    clear hD
    go_enter Tryz.func80, Tryz.ntmps80
    go_wp2_with fail
    all_goals
      refine (HGC.out _ _ _ (by omega) (by omega)).mono ?_
      rw [HDD.out]
      rintro e w1 ⟨rfl, n, rfl⟩
      go_wp2
      go_ret
      exact bool_done HV.out.symm (bdn HB.out n)
  · have HV := Lib.hid (validN_bad (p := p) (q := q) (by omega))
    have hc : q < 1 ∨ (1 ≤ q ∧ 2147483647 < q) ∨ (1 ≤ q ∧ q ≤ 2147483647 ∧ p < -2147483647) ∨ (1 ≤ q ∧ q ≤ 2147483647 ∧ -2147483647 ≤ p ∧ 2147483647 < p) := by omega
    clear h
    rcases hc with k1 | ⟨k1, k2⟩ | ⟨k1, k2, k3⟩ | ⟨k1, k2, k3, k4⟩
    all_goals
      go_enter Tryz.func80, Tryz.ntmps80
      go_wp2
      go_ret
      exact bool_done HV.out.symm HB.out
set_option maxHeartbeats 400000 in
theorem rorder_c (w : World) (x y : Int) : Calls Tryz.prog 176 #[.int .i64 x, .int .i64 y] w fun e w' => e = .returned (.int .i64 (orderN x y)) ∧ w = w' := by
  have hc : x < y ∨ y < x ∨ x = y := by omega
  rcases hc with h | h | rfl
  · have HR := Lib.hid (show orderN x y = -1 from by unfold orderN; rw [if_pos h])
    go_enter Tryz.func176, Tryz.ntmps176
    go_wp2
    go_ret
    exact ⟨ret_int HR.out.symm, rfl⟩
  · have HR := Lib.hid (show orderN x y = 1 from by unfold orderN; rw [if_neg (by omega), if_pos h])
    have h' : ¬ x < y := by omega
    go_enter Tryz.func176, Tryz.ntmps176
    go_wp2
    go_ret
    exact ⟨ret_int HR.out.symm, rfl⟩
  · have HR := Lib.hid (show orderN x x = 0 from by unfold orderN; rw [if_neg (by omega), if_neg (by omega)])
    go_enter Tryz.func176, Tryz.ntmps176
    go_wp2
    go_ret
    exact ⟨ret_int HR.out.symm, rfl⟩
end Go.Proofs.YtpbcmlnjiocmoaaGreatDoorR
namespace Go.Proofs
open Go.Shelf
open Go.RowKit in
/-- (*strings.Builder).Len: "Len returns the number of accumulated bytes; b.Len() == len(b.String()).": the world is as it was. (LAID: no walk: one application.) -/
theorem Tryz.Builder_Len (B b : Nat) (bs : List Value) (w : World) (h : Lib.IsBuilder 74 5 B b bs w) :
    Calls Tryz.prog 59 #[.pointer (some ⟨b, 0, none⟩)] w fun e w' => e = .returned (.int .i64 bs.length) ∧ w' = w := Any.Builder_Len Tryz.lays170 B b bs w h
open Go.RowKit in
/-- (*strings.Builder).String: "String returns the accumulated string.": WHATEVER THE BUILDER HOLDS. (LAID: no walk: one application.) -/
theorem Tryz.Builder_String_any (B b : Nat) (l : List UInt8) (w : World) (h : Lib.IsBuilder 74 5 B b (Lib.byteCells l) w) (hBw : B ≤ w.heap.size) :
    Calls Tryz.prog 35 #[.pointer (some ⟨b, 0, none⟩)] w fun e w' => e = .returned (.string ⟨l.toArray⟩) ∧ Below B w w' := Any.Builder_String_any Tryz.lays169 Tryz.Builder_Extra_169 B b l w h hBw
open Go.RowKit Go.Sort Go.Lib in
/-- strconv.Itoa: "Itoa is equivalent to FormatInt(int64(i), 10).": i's DECIMAL NUMERAL ('Lib.itoa': a '-' where i is negative, then the digits), FOR EVERY int. The world behind the call: the world before it, new blocks behind the heap (the library's 'var a [24]byte'), draws. (LAID: no walk: one application.) -/
theorem Tryz.strconv_Itoa (n : Int) (h0 : -9223372036854775808 ≤ n) (h1 : n ≤ 9223372036854775807) (w : World) (htab : Lib.TabIs Tryz.prog w "internal/strconv.uint64pow10" .u64 Lib.pow10Tab) :
    Calls Tryz.prog 58 #[.int .i64 n] w fun e w' => e = .returned (.string ⟨(Lib.itoa n).toArray⟩) ∧ ∃ k os, w' = grow (w.drewN k) os := Any.strconv_Itoa Tryz.laysM171 n h0 h1 w htab
open Go.RowKit Go.Lib in
/-- strings.TrimPrefix: "TrimPrefix returns s without the provided leading prefix string. If s doesn't start with prefix, s is returned unchanged.": IT RETURNS 'Lib.trimPrefix s prefix'; the world is as it was. (LAID: no walk: one application.) -/
theorem Tryz.strings_TrimPrefix (s p : ByteArray) (w : World) :
    Calls Tryz.prog 24 #[.string s, .string p] w fun e w' => e = .returned (.string ⟨(Lib.trimPrefix s.data.toList p.data.toList).toArray⟩) ∧ w' = w := Any.strings_TrimPrefix Tryz.lays101 s p w
end Go.Proofs
namespace Go.Proofs.YtpbcmlnjiocmoaaGreatDoorR
open Go.RowKit Go.Proofs.Lexi
set_option maxRecDepth 100000 in
set_option maxHeartbeats 1000000 in
theorem rcmp_c (w : World) (p q p' q' : Int) : Calls Tryz.prog 158 #[.agg #[.int .i64 p, .int .i64 q], .agg #[.int .i64 p', .int .i64 q']] w (IntPost w (cmpN (p, q) (p', q'))) := by
  have HB := Lib.hid (below2w w (o2 p q) (o2 p' q'))
  have HV1 := Lib.hid (rvalid_c ((w.alloc (o2 p q)).alloc (o2 p' q')) p q)
  have HV2 := Lib.hid (fun W => rvalid_c W p' q')
  obtain ⟨R, hR⟩ : ∃ R, R = cmpN (p, q) (p', q') := ⟨_, rfl⟩
  rw [← hR]
  have low : (validN (p, q) && validN (p', q')) = false → (p = p' ∧ R = orderN q q') ∨ (p ≠ p' ∧ R = orderN p p' ∧ orderN p p' ≠ 0) := fun h => by
    unfold cmpN at hR
    rw [h] at hR
    by_cases e : p = p'
    · exact .inl ⟨e, by rw [hR]; simp [e]⟩
    · refine .inr ⟨e, by rw [hR]; simp [e], ?_⟩
      unfold orderN
      split
      · omega
      · split <;> omega
  have HL := Lib.hid low
  have HR0 := Lib.hid hR
  clear low hR
  cases hv : validN (p, q) with
  | false =>
    have HVV := Lib.hid hv
    have hoc := HL.out (by rw [hv]; rfl)
    clear hv HL HR0
    rcases hoc with ⟨e, hR⟩ | ⟨e, hR, hne⟩
    · have HRR := Lib.hid hR
      have he : orderN p p' = 0 := by rw [e]; unfold orderN; rw [if_neg (by omega), if_neg (by omega)]
      clear hR e
      go_enter Tryz.func158, Tryz.ntmps158
      go_wp2_with fail
      refine HV1.out.mono ?_
      rw [HVV.out]
      rintro e w1 ⟨rfl, hb⟩
      have HB1 := Lib.hid (below_next HB.out hb)
      have HW1 := Lib.hid hb
      obtain ⟨hc, hf⟩ := bcell hb
      have hz := hb.size
      simp at hz
      clear hb
      go_wp2_with fail
      refine (rorder_c _ _ _).mono ?_
      rw [he]
      rintro e w3 ⟨rfl, rfl⟩
      go_wp2_with fail
      refine (rorder_c _ _ _).mono ?_
      rintro e w3 ⟨rfl, rfl⟩
      go_wp2
      go_ret
      exact int_done HRR.out.symm HB1.out
    · have HRR := Lib.hid hR
      obtain ⟨o, ho⟩ : ∃ o, o = orderN p p' := ⟨_, rfl⟩
      rw [← ho] at hne HRR
      have HOO := Lib.hid ho.symm
      have hn2 : (o != 0) = true := by rw [bne_iff_ne]; exact hne
      clear hR e hne ho
      go_enter Tryz.func158, Tryz.ntmps158
      go_wp2_with fail
      refine HV1.out.mono ?_
      rw [HVV.out]
      rintro e w1 ⟨rfl, hb⟩
      have HB1 := Lib.hid (below_next HB.out hb)
      have HW1 := Lib.hid hb
      obtain ⟨hc, hf⟩ := bcell hb
      have hz := hb.size
      simp at hz
      clear hb
      go_wp2_with fail
      refine (rorder_c _ _ _).mono ?_
      rw [HOO.out]
      rintro e w3 ⟨rfl, rfl⟩
      go_wp2
      go_ret
      exact int_done HRR.out.symm HB1.out
  | true =>
    cases hv2 : validN (p', q') with
    | false =>
      have HVV := Lib.hid hv
      have HVV2 := Lib.hid hv2
      have hoc := HL.out (by rw [hv, hv2]; rfl)
      clear hv hv2 HL HR0
      rcases hoc with ⟨e, hR⟩ | ⟨e, hR, hne⟩
      · have HRR := Lib.hid hR
        have he : orderN p p' = 0 := by rw [e]; unfold orderN; rw [if_neg (by omega), if_neg (by omega)]
        clear hR e
        go_enter Tryz.func158, Tryz.ntmps158
        go_wp2_with fail
        refine HV1.out.mono ?_
        rw [HVV.out]
        rintro e w1 ⟨rfl, hb⟩
        have HB1 := Lib.hid (below_next HB.out hb)
        have HW1 := Lib.hid hb
        obtain ⟨hc, hf⟩ := bcell hb
        have hz := hb.size
        simp at hz
        clear hb
        go_wp2_with fail
        refine (HV2.out _).mono ?_
        rw [HVV2.out]
        rintro e w2 ⟨rfl, hb⟩
        have HB2 := Lib.hid (below_next HB1.out hb)
        clear hc hf
        obtain ⟨hc, hf⟩ := bcell (below_next HW1.out hb)
        have hz2 := hb.size
        clear hb
        go_wp2_with fail
        refine (rorder_c _ _ _).mono ?_
        rw [he]
        rintro e w3 ⟨rfl, rfl⟩
        go_wp2_with fail
        refine (rorder_c _ _ _).mono ?_
        rintro e w3 ⟨rfl, rfl⟩
        go_wp2
        go_ret
        exact int_done HRR.out.symm HB2.out
      · have HRR := Lib.hid hR
        obtain ⟨o, ho⟩ : ∃ o, o = orderN p p' := ⟨_, rfl⟩
        rw [← ho] at hne HRR
        have HOO := Lib.hid ho.symm
        have hn2 : (o != 0) = true := by rw [bne_iff_ne]; exact hne
        clear hR e hne ho
        go_enter Tryz.func158, Tryz.ntmps158
        go_wp2_with fail
        refine HV1.out.mono ?_
        rw [HVV.out]
        rintro e w1 ⟨rfl, hb⟩
        have HB1 := Lib.hid (below_next HB.out hb)
        have HW1 := Lib.hid hb
        obtain ⟨hc, hf⟩ := bcell hb
        have hz := hb.size
        simp at hz
        clear hb
        go_wp2_with fail
        refine (HV2.out _).mono ?_
        rw [HVV2.out]
        rintro e w2 ⟨rfl, hb⟩
        have HB2 := Lib.hid (below_next HB1.out hb)
        clear hc hf
        obtain ⟨hc, hf⟩ := bcell (below_next HW1.out hb)
        have hz2 := hb.size
        clear hb
        go_wp2_with fail
        refine (rorder_c _ _ _).mono ?_
        rw [HOO.out]
        rintro e w3 ⟨rfl, rfl⟩
        go_wp2
        go_ret
        exact int_done HRR.out.symm HB2.out
    | true =>
      have hb1 := validN_bounds hv
      have hb2 := validN_bounds hv2
      simp only [] at hb1 hb2
      obtain ⟨a1, a2, a3, a4⟩ := hb1
      obtain ⟨b1, b2, b3, b4⟩ := hb2
      have m1 := mul_bounds a3 a4 (show -2147483647 ≤ q' by omega) b2
      have m2 := mul_bounds b3 b4 (show -2147483647 ≤ q by omega) a2
      have HRR := Lib.hid (show R = orderN (p * q') (p' * q) from by rw [HR0.out]; unfold cmpN; rw [hv, hv2]; rfl)
      have HVV := Lib.hid hv
      have HVV2 := Lib.hid hv2
      clear hv hv2 HL HR0
      go_enter Tryz.func158, Tryz.ntmps158
      go_wp2_with fail
      refine HV1.out.mono ?_
      rw [HVV.out]
      rintro e w1 ⟨rfl, hb⟩
      have HB1 := Lib.hid (below_next HB.out hb)
      have HW1 := Lib.hid hb
      obtain ⟨hc, hf⟩ := bcell hb
      have hz := hb.size
      simp at hz
      clear hb
      go_wp2_with fail
      refine (HV2.out _).mono ?_
      rw [HVV2.out]
      rintro e w2 ⟨rfl, hb⟩
      have HB2 := Lib.hid (below_next HB1.out hb)
      clear hc hf
      obtain ⟨hc, hf⟩ := bcell (below_next HW1.out hb)
      have hz2 := hb.size
      clear hb
      go_wp2_with fail
      refine (rorder_c _ _ _).mono ?_
      rintro e w3 ⟨rfl, rfl⟩
      go_wp2
      go_ret
      exact int_done HRR.out.symm HB2.out
theorem pitoa_c (w : World) (htab : Pow10 w) (n : Int) (h1 : -9223372036854775807 ≤ n) (h2 : n ≤ 9223372036854775807) (W : World) (hW : Below w.heap.size w W) :
    Calls Tryz.prog 58 #[.int .i64 n] W (fun e w' => e = .returned (.string (itoaB n)) ∧ Below W.heap.size W w') := by
  refine (Tryz.strconv_Itoa n (by omega) h2 W (htab.stays hW)).mono ?_
  rintro e w' ⟨rfl, k, os, rfl⟩
  exact ⟨rfl, below_growN _ _ _⟩
set_option maxRecDepth 100000 in
set_option maxHeartbeats 2000000 in
theorem ptext_c (w : World) (p q : Int) (htab : Pow10 w) : Calls Tryz.prog 86 #[.agg #[.int .i64 p, .int .i64 q]] w (StrB w (textB (p, q))) := by
  have HB := Lib.hid (below_num0 w (o2 p q))
  obtain ⟨R, hR⟩ : ∃ R, R = textB (p, q) := ⟨_, rfl⟩
  rw [← hR]
  have HV := Lib.hid (fun W => rvalid_c W p q)
  obtain ⟨V, hV⟩ : ∃ V, validN (p, q) = V := ⟨_, rfl⟩
  rw [hV] at HV
  cases V with
  | false =>
    have HR := Lib.hid (show R = ⟨#[110, 97, 110]⟩ from by rw [hR]; unfold textB; rw [hV]; rfl)
    clear hR hV
    go_enter Tryz.func86, Tryz.ntmps86
    go_wp2_with fail
    refine (HV.out _).mono ?_
    rintro e w1 ⟨rfl, hb⟩
    have HB1 := Lib.hid (below_next HB.out hb)
    clear hb
    go_wp2
    go_ret
    exact str_done HR.out HB1.out
  | true =>
    obtain ⟨b1, b2, b3, b4⟩ := validN_bounds hV
    have HDP := Lib.hid (fun W hW => pitoa_c w htab p (by omega) (by omega) W hW)
    have HDQ := Lib.hid (fun W hW => pitoa_c w htab q (by omega) (by omega) W hW)
    have hzp := itoaB_size (n := p) b3 b4
    have hzq := itoaB_size (n := q) (by omega) b2
    by_cases h1 : q = 1
    · have HR := Lib.hid (show R = itoaB p from by rw [hR]; unfold textB; rw [hV, if_pos rfl, if_pos h1])
      have hq1 : (q == 1) = true := by rw [beq_iff_eq]; exact h1
      clear hR hV h1
      go_enter Tryz.func86, Tryz.ntmps86
      go_wp2_with fail
      refine (HV.out _).mono ?_
      rintro e w1 ⟨rfl, hb⟩
      obtain ⟨hc, hf⟩ := bcell hb
      have c0 : w1.cell? ⟨w.heap.size, 0, none⟩ = some (.int .i64 p) := (hc _ _ (by simp)).trans (by simp [go_sem])
      have c1 : w1.cell? ⟨w.heap.size, 1, none⟩ = some (.int .i64 q) := (hc _ _ (by simp)).trans (by simp [go_sem])
      have HB1 := Lib.hid (below_next HB.out hb)
      clear hb hc hf
      go_wp2_with fail
      refine (HDP.out _ HB1.out).mono ?_
      rintro e w2 ⟨rfl, hb⟩
      have HB2 := Lib.hid (below_next HB1.out hb)
      clear hb
      go_wp2
      go_ret
      exact str_done HR.out HB2.out
    · have HR := Lib.hid (show R = itoaB p ++ slashB ++ itoaB q from by rw [hR]; unfold textB; rw [hV, if_pos rfl, if_neg h1])
      have hq1 : (q == 1) = false := by rw [beq_eq_false_iff_ne]; exact h1
      have hss : slashB.size = 1 := rfl
      have had1 := add_run (itoaB p) slashB (by omega)
      have had2 := add_run (itoaB p ++ slashB) (itoaB q) (by rw [ByteArray.size_append]; omega)
      obtain ⟨A, hA⟩ : ∃ A, itoaB p = A := ⟨_, rfl⟩
      obtain ⟨B, hB⟩ : ∃ B, itoaB q = B := ⟨_, rfl⟩
      rw [hA] at HDP
      rw [hB] at HDQ
      rw [hA] at had1 had2 HR hzp
      rw [hB] at had2 HR hzq
      obtain ⟨X, hX⟩ : ∃ X, A ++ slashB = X := ⟨_, rfl⟩
      obtain ⟨Y, hY⟩ : ∃ Y, X ++ B = Y := ⟨_, rfl⟩
      rw [hX] at had1 had2 HR
      rw [hY] at had2 HR
      have had1 : ∀ W, (Op.stringOp .add A ⟨#[47]⟩).run Tryz.prog W = .ok (.string X) W := had1
      clear hR hV h1 hA hB hX hY hss
      go_enter Tryz.func86, Tryz.ntmps86
      go_wp2_with fail
      refine (HV.out _).mono ?_
      rintro e w1 ⟨rfl, hb⟩
      obtain ⟨hc, hf⟩ := bcell hb
      have c0 : w1.cell? ⟨w.heap.size, 0, none⟩ = some (.int .i64 p) := (hc _ _ (by simp)).trans (by simp [go_sem])
      have c1 : w1.cell? ⟨w.heap.size, 1, none⟩ = some (.int .i64 q) := (hc _ _ (by simp)).trans (by simp [go_sem])
      have HB1 := Lib.hid (below_next HB.out hb)
      have SOF := Lib.hid (fun (W : World) (h : Below w1.heap.size w1 W) => (⟨keepCell h c0, keepCell h c1⟩ : W.cell? ⟨w.heap.size, 0, none⟩ = some (.int .i64 p) ∧ W.cell? ⟨w.heap.size, 1, none⟩ = some (.int .i64 q)))
      have D0 := Lib.hid (show Below w1.heap.size w1 w1.drew from (Below.refl _ _).drew)
      have NXT := Lib.hid (fun (V W : World) (h1 : Below w1.heap.size w1 V) (h2 : Below V.heap.size V W) => h1.trans (h2.mono h1.size))
      have LAST := Lib.hid (fun (W : World) (h : Below w1.heap.size w1 W) => below_next HB1.out h)
      clear hb hc hf
      go_wp2
      go_region_held3 (fun W => W.cell? ⟨w.heap.size, 0, none⟩ = some (.int .i64 p) ∧ W.cell? ⟨w.heap.size, 1, none⟩ = some (.int .i64 q)) (first | exact SOF.out _ (by assumption) | exact SOF.out _ D0.out) (first | ((go_at_call 58; (with_reducible refine (HDP.out _ (LAST.out _ (by first | assumption | exact D0.out))).mono ?_); rintro e W ⟨rfl, hbn⟩; have hW := NXT.out _ _ (by first | assumption | exact D0.out) hbn; clear hbn)) | ((go_at_call 58; (with_reducible refine (HDQ.out _ (LAST.out _ (by first | assumption | exact D0.out))).mono ?_); rintro e W ⟨rfl, hbn⟩; have hW := NXT.out _ _ (by first | assumption | exact D0.out) hbn; clear hbn)))
      go_wp2
      go_ret
      exact str_done HR.out (LAST.out _ (by assumption))
set_option maxRecDepth 100000 in
set_option maxHeartbeats 4000000 in
theorem pvalidV_c (w : World) (k p q : Int) (s : ByteArray) (r : Int) : Calls Tryz.prog 43 #[.agg #[.int .i64 k, .int .i64 p, .int .i64 q, .string s, .int .i64 r]] w (BoolPost w (validV ⟨k, p, q, s, r⟩)) := by
  obtain ⟨R, hR⟩ : ∃ R, R = validV ⟨k, p, q, s, r⟩ := ⟨_, rfl⟩
  rw [← hR]
  have HR := Lib.hid hR
  clear hR
  go_enter Tryz.func43, Tryz.ntmps43
  go_wp2_with (first | (go_at_call 80; refine (rvalid_c _ _ _).mono ?_; rintro e w1 ⟨rfl, hb⟩; obtain ⟨hc, hf⟩ := bcell hb))
  all_goals
    go_ret
    have h := HR.out
    clear HR
    first
    | (refine bool_done ?_ (below2w _ _ _); subst h; simp_all [validV, noNum, noStr, isRef, V.num, toList_size, sz_le, sz_ge, sz_lt, sz_lt1] <;> omega)
    | (refine bool_done ?_ (below_next (below2w _ _ _) (by assumption)); subst h; simp_all [validV, noNum, noStr, isRef, V.num, toList_size, sz_le, sz_ge, sz_lt, sz_lt1] <;> omega)
    | trace_state
set_option maxRecDepth 100000 in
set_option maxHeartbeats 2000000 in
theorem pOfBool_c (w : World) (b : Bool) : Calls Tryz.prog 132 #[.bool b] w (ValPost w (boolV b)) := by
  cases b
  all_goals
    go_enter Tryz.func132, Tryz.ntmps132
    go_wp2
    refine bodyPost_ret (by simp [results, Tryz.results132, go_sem]; first | done | rfl) rfl ?_
    exact val_done rfl (below_num0 _ _)
set_option maxRecDepth 100000 in
set_option maxHeartbeats 2000000 in
theorem pOfString_c (w : World) (s : ByteArray) : Calls Tryz.prog 52 #[.string s] w (ValPost w (strV s)) := by
  go_enter Tryz.func52, Tryz.ntmps52
  go_wp2
  refine bodyPost_ret (by simp [results, Tryz.results52, go_sem]; first | done | rfl) rfl ?_
  exact val_done rfl (below_num0 _ _)
set_option maxRecDepth 100000 in
set_option maxHeartbeats 2000000 in
theorem pOfInt_c (w : World) (n : Int) : Calls Tryz.prog 54 #[.int .i64 n] w (ValPost w (intV n)) := by
  have hw : n < -2147483647 ∨ (¬ n < -2147483647 ∧ 2147483647 < n) ∨ (¬ n < -2147483647 ∧ ¬ 2147483647 < n) := by omega
  rcases hw with h | ⟨h, h2⟩ | ⟨h, h2⟩
  · have HR := Lib.hid (show intV n = V.nil from by unfold intV; rw [if_neg]; rw [inTop_iff]; omega)
    go_enter Tryz.func54, Tryz.ntmps54
    go_wp2
    refine bodyPost_ret (by simp [results, Tryz.results54, go_sem]; first | done | rfl) rfl ?_
    exact val_done HR.out (below_num0 _ _)
  · have HR := Lib.hid (show intV n = V.nil from by unfold intV; rw [if_neg]; rw [inTop_iff]; omega)
    go_enter Tryz.func54, Tryz.ntmps54
    go_wp2
    refine bodyPost_ret (by simp [results, Tryz.results54, go_sem]; first | done | rfl) rfl ?_
    exact val_done HR.out (below_num0 _ _)
  · have HR := Lib.hid (show intV n = ⟨2, n, 1, ⟨#[]⟩, 0⟩ from by unfold intV; rw [if_pos]; rw [inTop_iff]; omega)
    go_enter Tryz.func54, Tryz.ntmps54
    go_wp2
    refine bodyPost_ret (by simp [results, Tryz.results54, go_sem]; first | done | rfl) rfl ?_
    exact val_done HR.out (below_num0 _ _)
set_option maxRecDepth 100000 in
set_option maxHeartbeats 2000000 in
theorem pTrue_c (w : World) (k p q : Int) (s : ByteArray) (r : Int) : Calls Tryz.prog 106 #[.agg #[.int .i64 k, .int .i64 p, .int .i64 q, .string s, .int .i64 r]] w (BoolPost w (trueV ⟨k, p, q, s, r⟩)) := by
  obtain ⟨R, hR⟩ : ∃ R, R = trueV ⟨k, p, q, s, r⟩ := ⟨_, rfl⟩
  rw [← hR]
  have HR := Lib.hid hR
  clear hR
  go_enter Tryz.func106, Tryz.ntmps106
  go_wp2
  all_goals
    go_ret
    have h := HR.out
    clear HR
    refine bool_done ?_ (by first | exact below_num0 _ _ | exact (below_num0 _ _).drew | exact bdn (below_num0 _ _) _)
    subst h
    simp_all [trueV, bne]
set_option maxRecDepth 100000 in
set_option maxHeartbeats 2000000 in
theorem pStr_c (w : World) (k p q : Int) (s : ByteArray) (r : Int) (htab : Pow10 w) : Calls Tryz.prog 50 #[.agg #[.int .i64 k, .int .i64 p, .int .i64 q, .string s, .int .i64 r]] w (SrPost w (strOf ⟨k, p, q, s, r⟩)) := by
  have HTAB := Lib.hid htab
  clear htab
  by_cases h3 : k = 3
  · subst h3
    go_enter Tryz.func50, Tryz.ntmps50
    go_wp2
    go_ret2
    exact sr_ok rfl (below_num0 _ _)
  · have k3 : (k == 3) = false := by rw [beq_eq_false_iff_ne]; exact h3
    by_cases h2 : k = 2
    · subst h2
      cases hv : validN (p, q)
      · have HV := Lib.hid (fun W => (hv ▸ rvalid_c W p q : Calls Tryz.prog 80 #[.agg #[.int .i64 p, .int .i64 q]] W (BoolPost W _)))
        have HR := Lib.hid (show strOf ⟨2, p, q, s, r⟩ = .error 8 from by show (if validN (p, q) then _ else _) = _; rw [hv]; rfl)
        clear hv h3 k3
        go_enter Tryz.func50, Tryz.ntmps50
        go_wp2_with fail
        refine (HV.out _).mono ?_
        rintro e w1 ⟨rfl, hb⟩
        have HB1 := Lib.hid (below_next (below_num0 _ _) hb)
        go_wp2
        go_ret2
        exact sr_err HR.out HB1.out
      · have HV := Lib.hid (fun W => (hv ▸ rvalid_c W p q : Calls Tryz.prog 80 #[.agg #[.int .i64 p, .int .i64 q]] W (BoolPost W _)))
        have HR := Lib.hid (show strOf ⟨2, p, q, s, r⟩ = .ok (textB (p, q)) from by show (if validN (p, q) then _ else _) = _; rw [hv]; rfl)
        clear hv h3 k3
        go_enter Tryz.func50, Tryz.ntmps50
        go_wp2_with fail
        refine (HV.out _).mono ?_
        rintro e w1 ⟨rfl, hb⟩
        obtain ⟨hc, hf⟩ := bcell hb
        have HB1 := Lib.hid (below_next (below_num0 _ _) hb)
        go_wp2_with fail
        refine (ptext_c w1 p q (HTAB.out.stays HB1.out)).mono ?_
        rintro e w2 ⟨rfl, hb2⟩
        have HB2 := Lib.hid (below_next HB1.out hb2)
        clear hc hf hb hb2
        go_wp2
        go_ret2
        exact sr_ok HR.out HB2.out
    · have k2 : (k == 2) = false := by rw [beq_eq_false_iff_ne]; exact h2
      have HR := Lib.hid (show strOf ⟨k, p, q, s, r⟩ = .error 8 from by unfold strOf; rw [if_neg h3, if_neg h2])
      clear h2 h3
      go_enter Tryz.func50, Tryz.ntmps50
      go_wp2
      go_ret2
      exact sr_err HR.out (below_num0 _ _)
set_option maxRecDepth 100000 in
set_option maxHeartbeats 2000000 in
theorem pLess_num (w : World) (p q : Int) (s : ByteArray) (r : Int) (p2 q2 : Int) (s2 : ByteArray) (r2 : Int) : Calls Tryz.prog 143 #[.agg #[.int .i64 2, .int .i64 p, .int .i64 q, .string s, .int .i64 r], .agg #[.int .i64 2, .int .i64 p2, .int .i64 q2, .string s2, .int .i64 r2]] w (BrPost w (if validN (p, q) && validN (p2, q2) then .ok (decide (cmpN (p, q) (p2, q2) < 0)) else .error 8)) := by
  obtain ⟨R, hR⟩ : ∃ R : BR, R = if validN (p, q) && validN (p2, q2) then .ok (decide (cmpN (p, q) (p2, q2) < 0)) else .error 8 := ⟨_, rfl⟩
  rw [← hR]
  cases h1 : validN (p, q)
  · have HR := Lib.hid (show R = .error 8 from by rw [hR, h1]; rfl)
    have HV := Lib.hid (fun W => (h1 ▸ rvalid_c W p q : Calls Tryz.prog 80 #[.agg #[.int .i64 p, .int .i64 q]] W (BoolPost W _)))
    clear h1 hR
    go_enter Tryz.func143, Tryz.ntmps143
    go_wp2_with fail
    refine (HV.out _).mono ?_
    rintro e w1 ⟨rfl, hb⟩
    obtain ⟨hc, hf⟩ := bcell hb
    have hz := hb.size
    simp at hz
    have HB1 := Lib.hid (below_next (below2w _ _ _) hb)
    have a0 : w1.cell? ⟨w.heap.size, 0, none⟩ = some (.int .i64 2) := (hc _ _ (by simp <;> omega)).trans (by simp [go_sem])
    have a1 : w1.cell? ⟨w.heap.size, 1, none⟩ = some (.int .i64 p) := (hc _ _ (by simp <;> omega)).trans (by simp [go_sem])
    have a2 : w1.cell? ⟨w.heap.size, 2, none⟩ = some (.int .i64 q) := (hc _ _ (by simp <;> omega)).trans (by simp [go_sem])
    have b0 : w1.cell? ⟨w.heap.size + 1, 0, none⟩ = some (.int .i64 2) := (hc _ _ (by simp <;> omega)).trans (by simp [go_sem])
    have b1 : w1.cell? ⟨w.heap.size + 1, 1, none⟩ = some (.int .i64 p2) := (hc _ _ (by simp <;> omega)).trans (by simp [go_sem])
    have b2 : w1.cell? ⟨w.heap.size + 1, 2, none⟩ = some (.int .i64 q2) := (hc _ _ (by simp <;> omega)).trans (by simp [go_sem])
    clear hb hc hf
    go_wp2
    go_ret2
    exact br_err HR.out HB1.out
  · cases h2 : validN (p2, q2)
    · have HR := Lib.hid (show R = .error 8 from by rw [hR, h1, h2]; rfl)
      have HV := Lib.hid (fun W => (h1 ▸ rvalid_c W p q : Calls Tryz.prog 80 #[.agg #[.int .i64 p, .int .i64 q]] W (BoolPost W _)))
      have HV2 := Lib.hid (fun W => (h2 ▸ rvalid_c W p2 q2 : Calls Tryz.prog 80 #[.agg #[.int .i64 p2, .int .i64 q2]] W (BoolPost W _)))
      clear h1 h2 hR
      go_enter Tryz.func143, Tryz.ntmps143
      go_wp2_with fail
      refine (HV.out _).mono ?_
      rintro e w1 ⟨rfl, hb⟩
      obtain ⟨hc, hf⟩ := bcell hb
      have hz := hb.size
      simp at hz
      have HB1 := Lib.hid (below_next (below2w _ _ _) hb)
      have a0 : w1.cell? ⟨w.heap.size, 0, none⟩ = some (.int .i64 2) := (hc _ _ (by simp <;> omega)).trans (by simp [go_sem])
      have a1 : w1.cell? ⟨w.heap.size, 1, none⟩ = some (.int .i64 p) := (hc _ _ (by simp <;> omega)).trans (by simp [go_sem])
      have a2 : w1.cell? ⟨w.heap.size, 2, none⟩ = some (.int .i64 q) := (hc _ _ (by simp <;> omega)).trans (by simp [go_sem])
      have b0 : w1.cell? ⟨w.heap.size + 1, 0, none⟩ = some (.int .i64 2) := (hc _ _ (by simp <;> omega)).trans (by simp [go_sem])
      have b1 : w1.cell? ⟨w.heap.size + 1, 1, none⟩ = some (.int .i64 p2) := (hc _ _ (by simp <;> omega)).trans (by simp [go_sem])
      have b2 : w1.cell? ⟨w.heap.size + 1, 2, none⟩ = some (.int .i64 q2) := (hc _ _ (by simp <;> omega)).trans (by simp [go_sem])
      clear hb hc hf
      go_wp2_with fail
      refine (HV2.out _).mono ?_
      rintro e w2 ⟨rfl, hb⟩
      obtain ⟨hc, hf⟩ := bcell hb
      have hz2 := hb.size
      have HB2 := Lib.hid (below_next HB1.out hb)
      have ca0 : w2.cell? ⟨w.heap.size, 0, none⟩ = some (.int .i64 2) := (hc _ _ (by omega)).trans a0
      have ca1 : w2.cell? ⟨w.heap.size, 1, none⟩ = some (.int .i64 p) := (hc _ _ (by omega)).trans a1
      have ca2 : w2.cell? ⟨w.heap.size, 2, none⟩ = some (.int .i64 q) := (hc _ _ (by omega)).trans a2
      have cb0 : w2.cell? ⟨w.heap.size + 1, 0, none⟩ = some (.int .i64 2) := (hc _ _ (by omega)).trans b0
      have cb1 : w2.cell? ⟨w.heap.size + 1, 1, none⟩ = some (.int .i64 p2) := (hc _ _ (by omega)).trans b1
      have cb2 : w2.cell? ⟨w.heap.size + 1, 2, none⟩ = some (.int .i64 q2) := (hc _ _ (by omega)).trans b2
      clear hb hc hf a0 a1 a2 b0 b1 b2
      go_wp2
      go_ret2
      exact br_err HR.out HB2.out
    · have HR := Lib.hid (show R = .ok (decide (cmpN (p, q) (p2, q2) < 0)) from by rw [hR, h1, h2]; rfl)
      have HV := Lib.hid (fun W => (h1 ▸ rvalid_c W p q : Calls Tryz.prog 80 #[.agg #[.int .i64 p, .int .i64 q]] W (BoolPost W _)))
      have HV2 := Lib.hid (fun W => (h2 ▸ rvalid_c W p2 q2 : Calls Tryz.prog 80 #[.agg #[.int .i64 p2, .int .i64 q2]] W (BoolPost W _)))
      clear h1 h2 hR
      go_enter Tryz.func143, Tryz.ntmps143
      go_wp2_with fail
      refine (HV.out _).mono ?_
      rintro e w1 ⟨rfl, hb⟩
      obtain ⟨hc, hf⟩ := bcell hb
      have hz := hb.size
      simp at hz
      have HB1 := Lib.hid (below_next (below2w _ _ _) hb)
      have a0 : w1.cell? ⟨w.heap.size, 0, none⟩ = some (.int .i64 2) := (hc _ _ (by simp <;> omega)).trans (by simp [go_sem])
      have a1 : w1.cell? ⟨w.heap.size, 1, none⟩ = some (.int .i64 p) := (hc _ _ (by simp <;> omega)).trans (by simp [go_sem])
      have a2 : w1.cell? ⟨w.heap.size, 2, none⟩ = some (.int .i64 q) := (hc _ _ (by simp <;> omega)).trans (by simp [go_sem])
      have b0 : w1.cell? ⟨w.heap.size + 1, 0, none⟩ = some (.int .i64 2) := (hc _ _ (by simp <;> omega)).trans (by simp [go_sem])
      have b1 : w1.cell? ⟨w.heap.size + 1, 1, none⟩ = some (.int .i64 p2) := (hc _ _ (by simp <;> omega)).trans (by simp [go_sem])
      have b2 : w1.cell? ⟨w.heap.size + 1, 2, none⟩ = some (.int .i64 q2) := (hc _ _ (by simp <;> omega)).trans (by simp [go_sem])
      clear hb hc hf
      go_wp2_with fail
      refine (HV2.out _).mono ?_
      rintro e w2 ⟨rfl, hb⟩
      obtain ⟨hc, hf⟩ := bcell hb
      have hz2 := hb.size
      have HB2 := Lib.hid (below_next HB1.out hb)
      have ca0 : w2.cell? ⟨w.heap.size, 0, none⟩ = some (.int .i64 2) := (hc _ _ (by omega)).trans a0
      have ca1 : w2.cell? ⟨w.heap.size, 1, none⟩ = some (.int .i64 p) := (hc _ _ (by omega)).trans a1
      have ca2 : w2.cell? ⟨w.heap.size, 2, none⟩ = some (.int .i64 q) := (hc _ _ (by omega)).trans a2
      have cb0 : w2.cell? ⟨w.heap.size + 1, 0, none⟩ = some (.int .i64 2) := (hc _ _ (by omega)).trans b0
      have cb1 : w2.cell? ⟨w.heap.size + 1, 1, none⟩ = some (.int .i64 p2) := (hc _ _ (by omega)).trans b1
      have cb2 : w2.cell? ⟨w.heap.size + 1, 2, none⟩ = some (.int .i64 q2) := (hc _ _ (by omega)).trans b2
      clear hb hc hf a0 a1 a2 b0 b1 b2
      go_wp2_with fail
      refine (rcmp_c _ _ _ _ _).mono ?_
      rintro e w3 ⟨rfl, hb⟩
      have HB3 := Lib.hid (below_next HB2.out hb)
      clear hb
      go_wp2
      go_ret2
      exact br_ok HR.out HB3.out
set_option maxRecDepth 100000 in
set_option maxHeartbeats 2000000 in
theorem pLess_str (w : World) (p q : Int) (s : ByteArray) (r : Int) (p2 q2 : Int) (s2 : ByteArray) (r2 : Int) (hs : s.size ≤ 2000000000) (hs2 : s2.size ≤ 2000000000) : Calls Tryz.prog 143 #[.agg #[.int .i64 3, .int .i64 p, .int .i64 q, .string s, .int .i64 r], .agg #[.int .i64 3, .int .i64 p2, .int .i64 q2, .string s2, .int .i64 r2]] w (BrPost w (.ok (beforeB s s2))) := by
  go_enter Tryz.func143, Tryz.ntmps143
  go_wp2
  go_ret2
  exact br_ok (congrArg _ (before_less s s2)) (below2w _ _ _)
set_option maxRecDepth 100000 in
set_option maxHeartbeats 2000000 in
theorem pLess_other (w : World) (k : Int) (k2 : Int) (p q : Int) (s : ByteArray) (r : Int) (p2 q2 : Int) (s2 : ByteArray) (r2 : Int) (h : (((k == 2) = true ∧ (k2 == 2) = false ∧ (k == 3) = false) ∨ ((k == 2) = false ∧ (k == 3) = true ∧ (k2 == 3) = false) ∨ ((k == 2) = false ∧ (k == 3) = false))) : Calls Tryz.prog 143 #[.agg #[.int .i64 k, .int .i64 p, .int .i64 q, .string s, .int .i64 r], .agg #[.int .i64 k2, .int .i64 p2, .int .i64 q2, .string s2, .int .i64 r2]] w (BrPost w (.error 8)) := by
  rcases h with ⟨h, h2, h3⟩ | ⟨h, h2, h3⟩ | ⟨h, h2⟩
  all_goals
    go_enter Tryz.func143, Tryz.ntmps143
    go_wp2
    go_ret2
    exact br_err rfl (below2w _ _ _)
theorem pLess_c (w : World) (k : Int) (k2 : Int) (p q : Int) (s : ByteArray) (r : Int) (p2 q2 : Int) (s2 : ByteArray) (r2 : Int) (hs : s.size ≤ 2000000000) (hs2 : s2.size ≤ 2000000000) : Calls Tryz.prog 143 #[.agg #[.int .i64 k, .int .i64 p, .int .i64 q, .string s, .int .i64 r], .agg #[.int .i64 k2, .int .i64 p2, .int .i64 q2, .string s2, .int .i64 r2]] w (BrPost w (lessOf ⟨k, p, q, s, r⟩ ⟨k2, p2, q2, s2, r2⟩)) := by
  obtain ⟨R, hR⟩ : ∃ R, R = lessOf ⟨k, p, q, s, r⟩ ⟨k2, p2, q2, s2, r2⟩ := ⟨_, rfl⟩
  rw [← hR]
  unfold lessOf at hR
  have hR : R = if k = 2 ∧ k2 = 2 then (if validN (p, q) && validN (p2, q2) then .ok (decide (cmpN (p, q) (p2, q2) < 0)) else .error 8) else if k = 3 ∧ k2 = 3 then .ok (beforeB s s2) else .error 8 := hR
  have tf : ∀ a b : Int, a ≠ b → (a == b) = false := fun a b h => by rw [beq_eq_false_iff_ne]; exact h
  by_cases h2 : k = 2
  · by_cases h22 : k2 = 2
    · subst h2 h22
      rw [if_pos ⟨rfl, rfl⟩] at hR
      rw [hR]
      exact pLess_num w p q s r p2 q2 s2 r2
    · rw [if_neg (fun h => h22 h.2), if_neg (fun h => by omega)] at hR
      rw [hR]
      exact pLess_other w k k2 p q s r p2 q2 s2 r2 (.inl ⟨by rw [h2]; rfl, tf _ _ h22, tf _ _ (by omega)⟩)
  · rw [if_neg (fun h => h2 h.1)] at hR
    by_cases h3 : k = 3
    · by_cases h33 : k2 = 3
      · subst h3 h33
        rw [if_pos ⟨rfl, rfl⟩] at hR
        rw [hR]
        exact pLess_str w p q s r p2 q2 s2 r2 hs hs2
      · rw [if_neg (fun h => h33 h.2)] at hR
        rw [hR]
        exact pLess_other w k k2 p q s r p2 q2 s2 r2 (.inr (.inl ⟨tf _ _ h2, by rw [h3]; rfl, tf _ _ h33⟩))
    · rw [if_neg (fun h => h3 h.1)] at hR
      rw [hR]
      exact pLess_other w k k2 p q s r p2 q2 s2 r2 (.inr (.inr ⟨tf _ _ h2, tf _ _ h3⟩))
set_option maxRecDepth 100000 in
set_option maxHeartbeats 2000000 in
theorem pcompare16_w (w : World) (k1 p1 q1 : Int) (s1 : ByteArray) (r1 : Int) (k2 p2 q2 : Int) (s2 : ByteArray) (r2 : Int) (l : Bool) (c : Nat) (M : BR) (hl : ∀ W, Calls Tryz.prog 143 #[.agg #[.int .i64 k1, .int .i64 p1, .int .i64 q1, .string s1, .int .i64 r1], .agg #[.int .i64 k2, .int .i64 p2, .int .i64 q2, .string s2, .int .i64 r2]] W (fun e w' => e = .returned (.tuple #[.bool l, .int .i64 (c : Int)]) ∧ Below W.heap.size W w')) (hM : LessOut M l c) (R : VR)
    (hR : R = cmpFin false M) : Calls Tryz.prog 133 #[.int .i64 16, .agg #[.int .i64 k1, .int .i64 p1, .int .i64 q1, .string s1, .int .i64 r1], .agg #[.int .i64 k2, .int .i64 p2, .int .i64 q2, .string s2, .int .i64 r2]] w (VrPost w R) := by
  have HL := Lib.hid hl
  clear hl
  rcases hM with ⟨e1, rfl⟩ | ⟨e1, rfl⟩
  all_goals
    have HR := Lib.hid hR
    clear hR
    go_enter Tryz.func133, Tryz.ntmps133
    go_wp2_with fail
    refine (HL.out _).mono ?_
    rintro e w1 ⟨rfl, hb⟩
    have HB := Lib.hid (hkeep hb (heap3_c _ _ _ _))
    have HW1 := Lib.hid (below_next (below3w _ _ _ _) hb)
    have hz := hb.size
    simp at hz
    clear hb
  · have c0 : w1.cell? ⟨w.heap.size + 1 + 1, 0, none⟩ = some (.int .i64 0) := by rw [cell_of_heap HB.out]; rfl
    have c1 : w1.cell? ⟨w.heap.size + 1 + 1, 1, none⟩ = some (.int .i64 0) := by rw [cell_of_heap HB.out]; rfl
    have c2 : w1.cell? ⟨w.heap.size + 1 + 1, 2, none⟩ = some (.int .i64 0) := by rw [cell_of_heap HB.out]; rfl
    have c3 : w1.cell? ⟨w.heap.size + 1 + 1, 3, none⟩ = some (.string ⟨#[]⟩) := by rw [cell_of_heap HB.out]; rfl
    have c4 : w1.cell? ⟨w.heap.size + 1 + 1, 4, none⟩ = some (.int .i64 0) := by rw [cell_of_heap HB.out]; rfl
    have fc0 : w1.frozen? ⟨w.heap.size + 1 + 1, 0, none⟩ = false := frozen_of_heap HB.out _
    have fc1 : w1.frozen? ⟨w.heap.size + 1 + 1, 1, none⟩ = false := frozen_of_heap HB.out _
    have fc2 : w1.frozen? ⟨w.heap.size + 1 + 1, 2, none⟩ = false := frozen_of_heap HB.out _
    have fc3 : w1.frozen? ⟨w.heap.size + 1 + 1, 3, none⟩ = false := frozen_of_heap HB.out _
    have fc4 : w1.frozen? ⟨w.heap.size + 1 + 1, 4, none⟩ = false := frozen_of_heap HB.out _
    go_wp2
    refine bodyPost_ret (by simp [results, Tryz.results133, go_sem, c0, c1, c2, c3, c4]; first | done | rfl) rfl ?_
    exact vr_err HR.out (below_five HW1.out (by omega) _ _ _ _ _)
  · go_wp2_with fail
    refine (pOfBool_c _ _).mono ?_
    rintro e w2 ⟨rfl, hb⟩
    have HB2 := Lib.hid (hkeep hb HB.out)
    have HW2 := Lib.hid (below_next HW1.out hb)
    clear hb
    have c0 : w2.cell? ⟨w.heap.size + 1 + 1, 0, none⟩ = some (.int .i64 0) := by rw [cell_of_heap HB2.out]; rfl
    have c1 : w2.cell? ⟨w.heap.size + 1 + 1, 1, none⟩ = some (.int .i64 0) := by rw [cell_of_heap HB2.out]; rfl
    have c2 : w2.cell? ⟨w.heap.size + 1 + 1, 2, none⟩ = some (.int .i64 0) := by rw [cell_of_heap HB2.out]; rfl
    have c3 : w2.cell? ⟨w.heap.size + 1 + 1, 3, none⟩ = some (.string ⟨#[]⟩) := by rw [cell_of_heap HB2.out]; rfl
    have c4 : w2.cell? ⟨w.heap.size + 1 + 1, 4, none⟩ = some (.int .i64 0) := by rw [cell_of_heap HB2.out]; rfl
    have fc0 : w2.frozen? ⟨w.heap.size + 1 + 1, 0, none⟩ = false := frozen_of_heap HB2.out _
    have fc1 : w2.frozen? ⟨w.heap.size + 1 + 1, 1, none⟩ = false := frozen_of_heap HB2.out _
    have fc2 : w2.frozen? ⟨w.heap.size + 1 + 1, 2, none⟩ = false := frozen_of_heap HB2.out _
    have fc3 : w2.frozen? ⟨w.heap.size + 1 + 1, 3, none⟩ = false := frozen_of_heap HB2.out _
    have fc4 : w2.frozen? ⟨w.heap.size + 1 + 1, 4, none⟩ = false := frozen_of_heap HB2.out _
    go_wp2
    refine bodyPost_ret (by simp [results, Tryz.results133, go_sem, c0, c1, c2, c3, c4]; first | done | rfl) rfl ?_
    exact vr_ok (HR.out.trans (by cases l <;> rfl)) rfl (below_five HW2.out (by omega) _ _ _ _ _)
set_option maxRecDepth 100000 in
set_option maxHeartbeats 2000000 in
theorem pcompare17_w (w : World) (k1 p1 q1 : Int) (s1 : ByteArray) (r1 : Int) (k2 p2 q2 : Int) (s2 : ByteArray) (r2 : Int) (l : Bool) (c : Nat) (M : BR) (hl : ∀ W, Calls Tryz.prog 143 #[.agg #[.int .i64 k2, .int .i64 p2, .int .i64 q2, .string s2, .int .i64 r2], .agg #[.int .i64 k1, .int .i64 p1, .int .i64 q1, .string s1, .int .i64 r1]] W (fun e w' => e = .returned (.tuple #[.bool l, .int .i64 (c : Int)]) ∧ Below W.heap.size W w')) (hM : LessOut M l c) (R : VR)
    (hR : R = cmpFin true M) : Calls Tryz.prog 133 #[.int .i64 17, .agg #[.int .i64 k1, .int .i64 p1, .int .i64 q1, .string s1, .int .i64 r1], .agg #[.int .i64 k2, .int .i64 p2, .int .i64 q2, .string s2, .int .i64 r2]] w (VrPost w R) := by
  have HL := Lib.hid hl
  clear hl
  rcases hM with ⟨e1, rfl⟩ | ⟨e1, rfl⟩
  all_goals
    have HR := Lib.hid hR
    clear hR
    go_enter Tryz.func133, Tryz.ntmps133
    go_wp2_with fail
    refine (HL.out _).mono ?_
    rintro e w1 ⟨rfl, hb⟩
    have HB := Lib.hid (hkeep hb (heap3_c _ _ _ _))
    have HW1 := Lib.hid (below_next (below3w _ _ _ _) hb)
    have hz := hb.size
    simp at hz
    clear hb
  · have c0 : w1.cell? ⟨w.heap.size + 1 + 1, 0, none⟩ = some (.int .i64 0) := by rw [cell_of_heap HB.out]; rfl
    have c1 : w1.cell? ⟨w.heap.size + 1 + 1, 1, none⟩ = some (.int .i64 0) := by rw [cell_of_heap HB.out]; rfl
    have c2 : w1.cell? ⟨w.heap.size + 1 + 1, 2, none⟩ = some (.int .i64 0) := by rw [cell_of_heap HB.out]; rfl
    have c3 : w1.cell? ⟨w.heap.size + 1 + 1, 3, none⟩ = some (.string ⟨#[]⟩) := by rw [cell_of_heap HB.out]; rfl
    have c4 : w1.cell? ⟨w.heap.size + 1 + 1, 4, none⟩ = some (.int .i64 0) := by rw [cell_of_heap HB.out]; rfl
    have fc0 : w1.frozen? ⟨w.heap.size + 1 + 1, 0, none⟩ = false := frozen_of_heap HB.out _
    have fc1 : w1.frozen? ⟨w.heap.size + 1 + 1, 1, none⟩ = false := frozen_of_heap HB.out _
    have fc2 : w1.frozen? ⟨w.heap.size + 1 + 1, 2, none⟩ = false := frozen_of_heap HB.out _
    have fc3 : w1.frozen? ⟨w.heap.size + 1 + 1, 3, none⟩ = false := frozen_of_heap HB.out _
    have fc4 : w1.frozen? ⟨w.heap.size + 1 + 1, 4, none⟩ = false := frozen_of_heap HB.out _
    go_wp2
    refine bodyPost_ret (by simp [results, Tryz.results133, go_sem, c0, c1, c2, c3, c4]; first | done | rfl) rfl ?_
    exact vr_err HR.out (below_five HW1.out (by omega) _ _ _ _ _)
  · go_wp2_with fail
    refine (pOfBool_c _ _).mono ?_
    rintro e w2 ⟨rfl, hb⟩
    have HB2 := Lib.hid (hkeep hb HB.out)
    have HW2 := Lib.hid (below_next HW1.out hb)
    clear hb
    have c0 : w2.cell? ⟨w.heap.size + 1 + 1, 0, none⟩ = some (.int .i64 0) := by rw [cell_of_heap HB2.out]; rfl
    have c1 : w2.cell? ⟨w.heap.size + 1 + 1, 1, none⟩ = some (.int .i64 0) := by rw [cell_of_heap HB2.out]; rfl
    have c2 : w2.cell? ⟨w.heap.size + 1 + 1, 2, none⟩ = some (.int .i64 0) := by rw [cell_of_heap HB2.out]; rfl
    have c3 : w2.cell? ⟨w.heap.size + 1 + 1, 3, none⟩ = some (.string ⟨#[]⟩) := by rw [cell_of_heap HB2.out]; rfl
    have c4 : w2.cell? ⟨w.heap.size + 1 + 1, 4, none⟩ = some (.int .i64 0) := by rw [cell_of_heap HB2.out]; rfl
    have fc0 : w2.frozen? ⟨w.heap.size + 1 + 1, 0, none⟩ = false := frozen_of_heap HB2.out _
    have fc1 : w2.frozen? ⟨w.heap.size + 1 + 1, 1, none⟩ = false := frozen_of_heap HB2.out _
    have fc2 : w2.frozen? ⟨w.heap.size + 1 + 1, 2, none⟩ = false := frozen_of_heap HB2.out _
    have fc3 : w2.frozen? ⟨w.heap.size + 1 + 1, 3, none⟩ = false := frozen_of_heap HB2.out _
    have fc4 : w2.frozen? ⟨w.heap.size + 1 + 1, 4, none⟩ = false := frozen_of_heap HB2.out _
    go_wp2
    refine bodyPost_ret (by simp [results, Tryz.results133, go_sem, c0, c1, c2, c3, c4]; first | done | rfl) rfl ?_
    exact vr_ok (HR.out.trans (by cases l <;> rfl)) rfl (below_five HW2.out (by omega) _ _ _ _ _)
set_option maxRecDepth 100000 in
set_option maxHeartbeats 2000000 in
theorem pcompare18_w (w : World) (k1 p1 q1 : Int) (s1 : ByteArray) (r1 : Int) (k2 p2 q2 : Int) (s2 : ByteArray) (r2 : Int) (l : Bool) (c : Nat) (M : BR) (hl : ∀ W, Calls Tryz.prog 143 #[.agg #[.int .i64 k2, .int .i64 p2, .int .i64 q2, .string s2, .int .i64 r2], .agg #[.int .i64 k1, .int .i64 p1, .int .i64 q1, .string s1, .int .i64 r1]] W (fun e w' => e = .returned (.tuple #[.bool l, .int .i64 (c : Int)]) ∧ Below W.heap.size W w')) (hM : LessOut M l c) (R : VR)
    (hR : R = cmpFin false M) : Calls Tryz.prog 133 #[.int .i64 18, .agg #[.int .i64 k1, .int .i64 p1, .int .i64 q1, .string s1, .int .i64 r1], .agg #[.int .i64 k2, .int .i64 p2, .int .i64 q2, .string s2, .int .i64 r2]] w (VrPost w R) := by
  have HL := Lib.hid hl
  clear hl
  rcases hM with ⟨e1, rfl⟩ | ⟨e1, rfl⟩
  all_goals
    have HR := Lib.hid hR
    clear hR
    go_enter Tryz.func133, Tryz.ntmps133
    go_wp2_with fail
    refine (HL.out _).mono ?_
    rintro e w1 ⟨rfl, hb⟩
    have HB := Lib.hid (hkeep hb (heap3_c _ _ _ _))
    have HW1 := Lib.hid (below_next (below3w _ _ _ _) hb)
    have hz := hb.size
    simp at hz
    clear hb
  · have c0 : w1.cell? ⟨w.heap.size + 1 + 1, 0, none⟩ = some (.int .i64 0) := by rw [cell_of_heap HB.out]; rfl
    have c1 : w1.cell? ⟨w.heap.size + 1 + 1, 1, none⟩ = some (.int .i64 0) := by rw [cell_of_heap HB.out]; rfl
    have c2 : w1.cell? ⟨w.heap.size + 1 + 1, 2, none⟩ = some (.int .i64 0) := by rw [cell_of_heap HB.out]; rfl
    have c3 : w1.cell? ⟨w.heap.size + 1 + 1, 3, none⟩ = some (.string ⟨#[]⟩) := by rw [cell_of_heap HB.out]; rfl
    have c4 : w1.cell? ⟨w.heap.size + 1 + 1, 4, none⟩ = some (.int .i64 0) := by rw [cell_of_heap HB.out]; rfl
    have fc0 : w1.frozen? ⟨w.heap.size + 1 + 1, 0, none⟩ = false := frozen_of_heap HB.out _
    have fc1 : w1.frozen? ⟨w.heap.size + 1 + 1, 1, none⟩ = false := frozen_of_heap HB.out _
    have fc2 : w1.frozen? ⟨w.heap.size + 1 + 1, 2, none⟩ = false := frozen_of_heap HB.out _
    have fc3 : w1.frozen? ⟨w.heap.size + 1 + 1, 3, none⟩ = false := frozen_of_heap HB.out _
    have fc4 : w1.frozen? ⟨w.heap.size + 1 + 1, 4, none⟩ = false := frozen_of_heap HB.out _
    go_wp2
    refine bodyPost_ret (by simp [results, Tryz.results133, go_sem, c0, c1, c2, c3, c4]; first | done | rfl) rfl ?_
    exact vr_err HR.out (below_five HW1.out (by omega) _ _ _ _ _)
  · go_wp2_with fail
    refine (pOfBool_c _ _).mono ?_
    rintro e w2 ⟨rfl, hb⟩
    have HB2 := Lib.hid (hkeep hb HB.out)
    have HW2 := Lib.hid (below_next HW1.out hb)
    clear hb
    have c0 : w2.cell? ⟨w.heap.size + 1 + 1, 0, none⟩ = some (.int .i64 0) := by rw [cell_of_heap HB2.out]; rfl
    have c1 : w2.cell? ⟨w.heap.size + 1 + 1, 1, none⟩ = some (.int .i64 0) := by rw [cell_of_heap HB2.out]; rfl
    have c2 : w2.cell? ⟨w.heap.size + 1 + 1, 2, none⟩ = some (.int .i64 0) := by rw [cell_of_heap HB2.out]; rfl
    have c3 : w2.cell? ⟨w.heap.size + 1 + 1, 3, none⟩ = some (.string ⟨#[]⟩) := by rw [cell_of_heap HB2.out]; rfl
    have c4 : w2.cell? ⟨w.heap.size + 1 + 1, 4, none⟩ = some (.int .i64 0) := by rw [cell_of_heap HB2.out]; rfl
    have fc0 : w2.frozen? ⟨w.heap.size + 1 + 1, 0, none⟩ = false := frozen_of_heap HB2.out _
    have fc1 : w2.frozen? ⟨w.heap.size + 1 + 1, 1, none⟩ = false := frozen_of_heap HB2.out _
    have fc2 : w2.frozen? ⟨w.heap.size + 1 + 1, 2, none⟩ = false := frozen_of_heap HB2.out _
    have fc3 : w2.frozen? ⟨w.heap.size + 1 + 1, 3, none⟩ = false := frozen_of_heap HB2.out _
    have fc4 : w2.frozen? ⟨w.heap.size + 1 + 1, 4, none⟩ = false := frozen_of_heap HB2.out _
    go_wp2
    refine bodyPost_ret (by simp [results, Tryz.results133, go_sem, c0, c1, c2, c3, c4]; first | done | rfl) rfl ?_
    exact vr_ok (HR.out.trans (by cases l <;> rfl)) rfl (below_five HW2.out (by omega) _ _ _ _ _)
set_option maxRecDepth 100000 in
set_option maxHeartbeats 2000000 in
theorem pcompare19_w (w : World) (k1 p1 q1 : Int) (s1 : ByteArray) (r1 : Int) (k2 p2 q2 : Int) (s2 : ByteArray) (r2 : Int) (l : Bool) (c : Nat) (M : BR) (hl : ∀ W, Calls Tryz.prog 143 #[.agg #[.int .i64 k1, .int .i64 p1, .int .i64 q1, .string s1, .int .i64 r1], .agg #[.int .i64 k2, .int .i64 p2, .int .i64 q2, .string s2, .int .i64 r2]] W (fun e w' => e = .returned (.tuple #[.bool l, .int .i64 (c : Int)]) ∧ Below W.heap.size W w')) (hM : LessOut M l c) (R : VR)
    (hR : R = cmpFin true M) : Calls Tryz.prog 133 #[.int .i64 19, .agg #[.int .i64 k1, .int .i64 p1, .int .i64 q1, .string s1, .int .i64 r1], .agg #[.int .i64 k2, .int .i64 p2, .int .i64 q2, .string s2, .int .i64 r2]] w (VrPost w R) := by
  have HL := Lib.hid hl
  clear hl
  rcases hM with ⟨e1, rfl⟩ | ⟨e1, rfl⟩
  all_goals
    have HR := Lib.hid hR
    clear hR
    go_enter Tryz.func133, Tryz.ntmps133
    go_wp2_with fail
    refine (HL.out _).mono ?_
    rintro e w1 ⟨rfl, hb⟩
    have HB := Lib.hid (hkeep hb (heap3_c _ _ _ _))
    have HW1 := Lib.hid (below_next (below3w _ _ _ _) hb)
    have hz := hb.size
    simp at hz
    clear hb
  · have c0 : w1.cell? ⟨w.heap.size + 1 + 1, 0, none⟩ = some (.int .i64 0) := by rw [cell_of_heap HB.out]; rfl
    have c1 : w1.cell? ⟨w.heap.size + 1 + 1, 1, none⟩ = some (.int .i64 0) := by rw [cell_of_heap HB.out]; rfl
    have c2 : w1.cell? ⟨w.heap.size + 1 + 1, 2, none⟩ = some (.int .i64 0) := by rw [cell_of_heap HB.out]; rfl
    have c3 : w1.cell? ⟨w.heap.size + 1 + 1, 3, none⟩ = some (.string ⟨#[]⟩) := by rw [cell_of_heap HB.out]; rfl
    have c4 : w1.cell? ⟨w.heap.size + 1 + 1, 4, none⟩ = some (.int .i64 0) := by rw [cell_of_heap HB.out]; rfl
    have fc0 : w1.frozen? ⟨w.heap.size + 1 + 1, 0, none⟩ = false := frozen_of_heap HB.out _
    have fc1 : w1.frozen? ⟨w.heap.size + 1 + 1, 1, none⟩ = false := frozen_of_heap HB.out _
    have fc2 : w1.frozen? ⟨w.heap.size + 1 + 1, 2, none⟩ = false := frozen_of_heap HB.out _
    have fc3 : w1.frozen? ⟨w.heap.size + 1 + 1, 3, none⟩ = false := frozen_of_heap HB.out _
    have fc4 : w1.frozen? ⟨w.heap.size + 1 + 1, 4, none⟩ = false := frozen_of_heap HB.out _
    go_wp2
    refine bodyPost_ret (by simp [results, Tryz.results133, go_sem, c0, c1, c2, c3, c4]; first | done | rfl) rfl ?_
    exact vr_err HR.out (below_five HW1.out (by omega) _ _ _ _ _)
  · go_wp2_with fail
    refine (pOfBool_c _ _).mono ?_
    rintro e w2 ⟨rfl, hb⟩
    have HB2 := Lib.hid (hkeep hb HB.out)
    have HW2 := Lib.hid (below_next HW1.out hb)
    clear hb
    have c0 : w2.cell? ⟨w.heap.size + 1 + 1, 0, none⟩ = some (.int .i64 0) := by rw [cell_of_heap HB2.out]; rfl
    have c1 : w2.cell? ⟨w.heap.size + 1 + 1, 1, none⟩ = some (.int .i64 0) := by rw [cell_of_heap HB2.out]; rfl
    have c2 : w2.cell? ⟨w.heap.size + 1 + 1, 2, none⟩ = some (.int .i64 0) := by rw [cell_of_heap HB2.out]; rfl
    have c3 : w2.cell? ⟨w.heap.size + 1 + 1, 3, none⟩ = some (.string ⟨#[]⟩) := by rw [cell_of_heap HB2.out]; rfl
    have c4 : w2.cell? ⟨w.heap.size + 1 + 1, 4, none⟩ = some (.int .i64 0) := by rw [cell_of_heap HB2.out]; rfl
    have fc0 : w2.frozen? ⟨w.heap.size + 1 + 1, 0, none⟩ = false := frozen_of_heap HB2.out _
    have fc1 : w2.frozen? ⟨w.heap.size + 1 + 1, 1, none⟩ = false := frozen_of_heap HB2.out _
    have fc2 : w2.frozen? ⟨w.heap.size + 1 + 1, 2, none⟩ = false := frozen_of_heap HB2.out _
    have fc3 : w2.frozen? ⟨w.heap.size + 1 + 1, 3, none⟩ = false := frozen_of_heap HB2.out _
    have fc4 : w2.frozen? ⟨w.heap.size + 1 + 1, 4, none⟩ = false := frozen_of_heap HB2.out _
    go_wp2
    refine bodyPost_ret (by simp [results, Tryz.results133, go_sem, c0, c1, c2, c3, c4]; first | done | rfl) rfl ?_
    exact vr_ok (HR.out.trans (by cases l <;> rfl)) rfl (below_five HW2.out (by omega) _ _ _ _ _)
theorem pcompare_c (w : World) (o : Int) (k1 p1 q1 : Int) (s1 : ByteArray) (r1 : Int) (k2 p2 q2 : Int) (s2 : ByteArray) (r2 : Int) (h1 : s1.size ≤ 4096) (h2 : s2.size ≤ 4096) (ho : 16 ≤ o) (ho2 : o ≤ 19) :
    Calls Tryz.prog 133 #[.int .i64 o, .agg #[.int .i64 k1, .int .i64 p1, .int .i64 q1, .string s1, .int .i64 r1], .agg #[.int .i64 k2, .int .i64 p2, .int .i64 q2, .string s2, .int .i64 r2]] w (VrPost w (compareV o ⟨k1, p1, q1, s1, r1⟩ ⟨k2, p2, q2, s2, r2⟩)) := by
  have hc : o = 16 ∨ o = 17 ∨ o = 18 ∨ o = 19 := by omega
  rcases hc with rfl | rfl | rfl | rfl
  · exact pcompare16_w w k1 p1 q1 s1 r1 k2 p2 q2 s2 r2 _ _ _ (fun W => pLess_c W k1 k2 p1 q1 s1 r1 p2 q2 s2 r2 (by omega) (by omega)) (less_out ⟨k1, p1, q1, s1, r1⟩ ⟨k2, p2, q2, s2, r2⟩) _ rfl
  · exact pcompare17_w w k1 p1 q1 s1 r1 k2 p2 q2 s2 r2 _ _ _ (fun W => pLess_c W k2 k1 p2 q2 s2 r2 p1 q1 s1 r1 (by omega) (by omega)) (less_out ⟨k2, p2, q2, s2, r2⟩ ⟨k1, p1, q1, s1, r1⟩) _ rfl
  · exact pcompare18_w w k1 p1 q1 s1 r1 k2 p2 q2 s2 r2 _ _ _ (fun W => pLess_c W k2 k1 p2 q2 s2 r2 p1 q1 s1 r1 (by omega) (by omega)) (less_out ⟨k2, p2, q2, s2, r2⟩ ⟨k1, p1, q1, s1, r1⟩) _ rfl
  · exact pcompare19_w w k1 p1 q1 s1 r1 k2 p2 q2 s2 r2 _ _ _ (fun W => pLess_c W k1 k2 p1 q1 s1 r1 p2 q2 s2 r2 (by omega) (by omega)) (less_out ⟨k1, p1, q1, s1, r1⟩ ⟨k2, p2, q2, s2, r2⟩) _ rfl
set_option maxRecDepth 100000 in
theorem neq_run (W : World) (k p q : Int) (s : ByteArray) (r : Int) (k2 p2 q2 : Int) (s2 : ByteArray) (r2 : Int) :
    (binOp .neq 30 (.agg #[.int .i64 k, .int .i64 p, .int .i64 q, .string s, .int .i64 r]) (.agg #[.int .i64 k2, .int .i64 p2, .int .i64 q2, .string s2, .int .i64 r2])).run Tryz.prog W = .ok (.bool (!eqV ⟨k, p, q, s, r⟩ ⟨k2, p2, q2, s2, r2⟩)) W := by
  by_cases h1 : k = k2 <;> by_cases h2 : p = p2 <;> by_cases h3 : q = q2 <;> by_cases h4 : s = s2 <;> by_cases h5 : r = r2 <;> simp [go_sem, eqV, h1, h2, h3, h4, h5]
  have h6 : ¬ s.toList = s2.toList := fun e => h4 (ByteArray.ext (Array.toList_inj.1 (by rw [← ByteArray.toList_eq, ← ByteArray.toList_eq]; exact e)))
  have h7 : (bytesOf s == bytesOf s2) = false := beq_eq_false_iff_ne.2 (fun e => h4 (bytesOf_inj e))
  first
  | (rw [if_neg h6]; simp [h7]; done)
  | (simp [h6, h7]; done)
  | (have h8 : ¬ bytesOf s = bytesOf s2 := fun e => h4 (bytesOf_inj e); simp [h6, h8])
theorem pOfInt_top (w : World) (n : Int) (h1 : -2147483647 ≤ n) (h2 : n ≤ 2147483647) : Calls Tryz.prog 54 #[.int .i64 n] w (fun e w' => e = .returned (.agg #[.int .i64 2, .int .i64 n, .int .i64 1, .string ⟨#[]⟩, .int .i64 0]) ∧ Below w.heap.size w w') := by
  have := pOfInt_c w n
  unfold intV at this
  rw [if_pos (inTop_iff.2 ⟨h1, h2⟩)] at this
  exact this
end Go.Proofs.YtpbcmlnjiocmoaaGreatDoorR
