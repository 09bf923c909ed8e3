import Derived.Test.YtpbcmlnjiocmoaaGreatDoorROmG
import Derived.Test.YtpbcmlnjiocmoaaGreatDoorRRgf
set_option linter.unusedVariables false
set_option linter.unusedSimpArgs false
set_option maxRecDepth 100000
set_option maxHeartbeats 4000000
namespace Go.Proofs.YtpbcmlnjiocmoaaGreatDoorR
open Go.RowKit Go.Proofs.Lexi
set_option maxRecDepth 100000 in
set_option maxHeartbeats 1000000 in
theorem svalid_c (w : World) (p q : Int) : Calls Tryz.prog 39 #[.agg #[.int .i64 p, .int .i64 q]] w (BoolPost w (validN (p, q))) := by
  have HB := Lib.hid (below_num0 w (.cells #[.int .i64 p, .int .i64 q] 28))
  by_cases h : 1 ≤ q ∧ q ≤ 2147483647 ∧ -2147483647 ≤ p ∧ p ≤ 2147483647
  · obtain ⟨h1, h2, h3, h4⟩ := h
    have HGC := Lib.hid (fun W x y hx hy => sgcd_c W x y p.natAbs q.natAbs hx hy (by omega) (by omega))
    have HA1 := Lib.hid (fun W => sabs_c W p (by omega) (by omega))
    obtain ⟨D, hD⟩ : ∃ D, D = Nat.gcd p.natAbs q.natAbs := ⟨_, rfl⟩
    have HV := Lib.hid (validN_good h1 h2 h3 h4 hD.symm)
    rw [← hD] at HGC
    have hq : q = (q.natAbs : Int) := by omega
    have HQ := Lib.hid hq
    have d1 : decide (1 ≤ q) = true := decide_eq_true h1
    have d2 : decide (q ≤ 2147483647) = true := decide_eq_true h2
    have d3 : decide (-2147483647 ≤ p) = true := decide_eq_true h3
    have d4 : decide (p ≤ 2147483647) = true := decide_eq_true h4
    clear hD hq
    go_enter Tryz.func39, Tryz.ntmps39
    go_wp2
    go_quiet (first | ((go_at_call 76; exact Calls.quiet_of_same (HA1.out _))) | ((go_at_call 75; exact Calls.quiet_of (HGC.out _ _ _ rfl HQ.out))))
    go_wp2
    go_ret
    exact bool_done HV.out.symm (bdn HB.out _)
  · have HV := Lib.hid (validN_bad (p := p) (q := q) (by omega))
    have hc : q < 1 ∨ (1 ≤ q ∧ 2147483647 < q) ∨ (1 ≤ q ∧ q ≤ 2147483647 ∧ 2147483647 < p) ∨ (1 ≤ q ∧ q ≤ 2147483647 ∧ p ≤ 2147483647 ∧ p < -2147483647) := by omega
    clear h
    rcases hc with k1 | ⟨k1, k2⟩ | ⟨k1, k2, k3⟩ | ⟨k1, k2, k3, k4⟩
    · have d1 : decide (1 ≤ q) = false := decide_eq_false (by omega)
      go_enter Tryz.func39, Tryz.ntmps39
      go_wp2
      go_quiet (fail)
      go_wp2
      go_ret
      exact bool_done HV.out.symm (bdn HB.out _)
    · have d1 : decide (1 ≤ q) = true := decide_eq_true k1
      have d2 : decide (q ≤ 2147483647) = false := decide_eq_false (by omega)
      go_enter Tryz.func39, Tryz.ntmps39
      go_wp2
      go_quiet (fail)
      go_wp2
      go_ret
      exact bool_done HV.out.symm (bdn HB.out _)
    · have d1 : decide (1 ≤ q) = true := decide_eq_true k1
      have d2 : decide (q ≤ 2147483647) = true := decide_eq_true k2
      have d4 : decide (p ≤ 2147483647) = false := decide_eq_false (by omega)
      go_enter Tryz.func39, Tryz.ntmps39
      go_wp2
      go_quiet (fail)
      go_wp2
      go_ret
      exact bool_done HV.out.symm (bdn HB.out _)
    · have d1 : decide (1 ≤ q) = true := decide_eq_true k1
      have d2 : decide (q ≤ 2147483647) = true := decide_eq_true k2
      have d4 : decide (p ≤ 2147483647) = true := decide_eq_true k3
      have d3 : decide (-2147483647 ≤ p) = false := decide_eq_false (by omega)
      go_enter Tryz.func39, Tryz.ntmps39
      go_wp2
      go_quiet (fail)
      go_wp2
      go_ret
      exact bool_done HV.out.symm (bdn HB.out _)
theorem pitoa_c (w : World) (htab : Pow10 w) (n : Int) (h1 : -9223372036854775807 ≤ n) (h2 : n ≤ 9223372036854775807) (W : World) (hW : Below w.heap.size w W) :
    Calls Tryz.prog 58 #[.int .i64 n] W (fun e w' => e = .returned (.string (itoaB n)) ∧ Below W.heap.size W w') := by
  refine (Tryz.strconv_Itoa n (by omega) h2 W (htab.stays hW)).mono ?_
  rintro e w' ⟨rfl, k, os, rfl⟩
  exact ⟨rfl, below_growN _ _ _⟩
set_option maxRecDepth 100000 in
set_option maxHeartbeats 2000000 in
theorem ptext_c (w : World) (p q : Int) (htab : Pow10 w) : Calls Tryz.prog 86 #[.agg #[.int .i64 p, .int .i64 q]] w (StrB w (textB (p, q))) := by
  have HB := Lib.hid (below_num0 w (o2 p q))
  obtain ⟨R, hR⟩ : ∃ R, R = textB (p, q) := ⟨_, rfl⟩
  rw [← hR]
  have HV := Lib.hid (fun W => rvalid_c W p q)
  obtain ⟨V, hV⟩ : ∃ V, validN (p, q) = V := ⟨_, rfl⟩
  rw [hV] at HV
  cases V with
  | false =>
    have HR := Lib.hid (show R = ⟨#[110, 97, 110]⟩ from by rw [hR]; unfold textB; rw [hV]; rfl)
    clear hR hV
    go_enter Tryz.func86, Tryz.ntmps86
    go_wp2_with fail
    refine (HV.out _).mono ?_
    rintro e w1 ⟨rfl, hb⟩
    have HB1 := Lib.hid (below_next HB.out hb)
    clear hb
    go_wp2
    go_ret
    exact str_done HR.out HB1.out
  | true =>
    obtain ⟨b1, b2, b3, b4⟩ := validN_bounds hV
    have HDP := Lib.hid (fun W hW => pitoa_c w htab p (by omega) (by omega) W hW)
    have HDQ := Lib.hid (fun W hW => pitoa_c w htab q (by omega) (by omega) W hW)
    have hzp := itoaB_size (n := p) b3 b4
    have hzq := itoaB_size (n := q) (by omega) b2
    by_cases h1 : q = 1
    · have HR := Lib.hid (show R = itoaB p from by rw [hR]; unfold textB; rw [hV, if_pos rfl, if_pos h1])
      have hq1 : (q == 1) = true := by rw [beq_iff_eq]; exact h1
      clear hR hV h1
      go_enter Tryz.func86, Tryz.ntmps86
      go_wp2_with fail
      refine (HV.out _).mono ?_
      rintro e w1 ⟨rfl, hb⟩
      obtain ⟨hc, hf⟩ := bcell hb
      have c0 : w1.cell? ⟨w.heap.size, 0, none⟩ = some (.int .i64 p) := (hc _ _ (by simp)).trans (by simp [go_sem])
      have c1 : w1.cell? ⟨w.heap.size, 1, none⟩ = some (.int .i64 q) := (hc _ _ (by simp)).trans (by simp [go_sem])
      have HB1 := Lib.hid (below_next HB.out hb)
      clear hb hc hf
      go_wp2_with fail
      refine (HDP.out _ HB1.out).mono ?_
      rintro e w2 ⟨rfl, hb⟩
      have HB2 := Lib.hid (below_next HB1.out hb)
      clear hb
      go_wp2
      go_ret
      exact str_done HR.out HB2.out
    · have HR := Lib.hid (show R = itoaB p ++ slashB ++ itoaB q from by rw [hR]; unfold textB; rw [hV, if_pos rfl, if_neg h1])
      have hq1 : (q == 1) = false := by rw [beq_eq_false_iff_ne]; exact h1
      have hss : slashB.size = 1 := rfl
      have had1 := add_run (itoaB p) slashB (by omega)
      have had2 := add_run (itoaB p ++ slashB) (itoaB q) (by rw [ByteArray.size_append]; omega)
      obtain ⟨A, hA⟩ : ∃ A, itoaB p = A := ⟨_, rfl⟩
      obtain ⟨B, hB⟩ : ∃ B, itoaB q = B := ⟨_, rfl⟩
      rw [hA] at HDP
      rw [hB] at HDQ
      rw [hA] at had1 had2 HR hzp
      rw [hB] at had2 HR hzq
      obtain ⟨X, hX⟩ : ∃ X, A ++ slashB = X := ⟨_, rfl⟩
      obtain ⟨Y, hY⟩ : ∃ Y, X ++ B = Y := ⟨_, rfl⟩
      rw [hX] at had1 had2 HR
      rw [hY] at had2 HR
      have had1 : ∀ W, (Op.stringOp .add A ⟨#[47]⟩).run Tryz.prog W = .ok (.string X) W := had1
      clear hR hV h1 hA hB hX hY hss
      go_enter Tryz.func86, Tryz.ntmps86
      go_wp2_with fail
      refine (HV.out _).mono ?_
      rintro e w1 ⟨rfl, hb⟩
      obtain ⟨hc, hf⟩ := bcell hb
      have c0 : w1.cell? ⟨w.heap.size, 0, none⟩ = some (.int .i64 p) := (hc _ _ (by simp)).trans (by simp [go_sem])
      have c1 : w1.cell? ⟨w.heap.size, 1, none⟩ = some (.int .i64 q) := (hc _ _ (by simp)).trans (by simp [go_sem])
      have HB1 := Lib.hid (below_next HB.out hb)
      have SOF := Lib.hid (fun (W : World) (h : Below w1.heap.size w1 W) => (⟨keepCell h c0, keepCell h c1⟩ : W.cell? ⟨w.heap.size, 0, none⟩ = some (.int .i64 p) ∧ W.cell? ⟨w.heap.size, 1, none⟩ = some (.int .i64 q)))
      have D0 := Lib.hid (show Below w1.heap.size w1 w1.drew from (Below.refl _ _).drew)
      have NXT := Lib.hid (fun (V W : World) (h1 : Below w1.heap.size w1 V) (h2 : Below V.heap.size V W) => h1.trans (h2.mono h1.size))
      have LAST := Lib.hid (fun (W : World) (h : Below w1.heap.size w1 W) => below_next HB1.out h)
      clear hb hc hf
      go_wp2
      go_region_held3 (fun W => W.cell? ⟨w.heap.size, 0, none⟩ = some (.int .i64 p) ∧ W.cell? ⟨w.heap.size, 1, none⟩ = some (.int .i64 q)) (first | exact SOF.out _ (by assumption) | exact SOF.out _ D0.out) (first | ((go_at_call 58; (with_reducible refine (HDP.out _ (LAST.out _ (by first | assumption | exact D0.out))).mono ?_); rintro e W ⟨rfl, hbn⟩; have hW := NXT.out _ _ (by first | assumption | exact D0.out) hbn; clear hbn)) | ((go_at_call 58; (with_reducible refine (HDQ.out _ (LAST.out _ (by first | assumption | exact D0.out))).mono ?_); rintro e W ⟨rfl, hbn⟩; have hW := NXT.out _ _ (by first | assumption | exact D0.out) hbn; clear hbn)))
      go_wp2
      go_ret
      exact str_done HR.out (LAST.out _ (by assumption))
set_option maxRecDepth 100000 in
set_option maxHeartbeats 4000000 in
theorem svalidV_c (w : World) (k p q : Int) (s : ByteArray) (r : Int) : Calls Tryz.prog 20 #[.agg #[.int .i64 k, .int .i64 p, .int .i64 q, .string s, .int .i64 r]] w (BoolPost w (validV ⟨k, p, q, s, r⟩)) := by
  obtain ⟨R, hR⟩ : ∃ R, R = validV ⟨k, p, q, s, r⟩ := ⟨_, rfl⟩
  rw [← hR]
  have HR := Lib.hid hR
  clear hR
  go_enter Tryz.func20, Tryz.ntmps20
  go_wp2_with (first | (go_at_call 39; refine (svalid_c _ _ _).mono ?_; rintro e w1 ⟨rfl, hb⟩))
  all_goals
    go_ret
    have h := HR.out
    clear HR
    first
    | (refine bool_done ?_ (below_num0 _ _); subst h; simp_all [validV, noNum, noStr, isRef, V.num, toList_size, sz_le, sz_ge, sz_lt, sz_lt1] <;> omega)
    | (refine bool_done ?_ (below_next (below_num0 _ _) (by assumption)); subst h; simp_all [validV, noNum, noStr, isRef, V.num, toList_size, sz_le, sz_ge, sz_lt, sz_lt1] <;> omega)
    | trace_state
set_option maxRecDepth 100000 in
set_option maxHeartbeats 4000000 in
theorem pvalidV_c (w : World) (k p q : Int) (s : ByteArray) (r : Int) : Calls Tryz.prog 43 #[.agg #[.int .i64 k, .int .i64 p, .int .i64 q, .string s, .int .i64 r]] w (BoolPost w (validV ⟨k, p, q, s, r⟩)) := by
  obtain ⟨R, hR⟩ : ∃ R, R = validV ⟨k, p, q, s, r⟩ := ⟨_, rfl⟩
  rw [← hR]
  have HR := Lib.hid hR
  clear hR
  go_enter Tryz.func43, Tryz.ntmps43
  go_wp2_with (first | (go_at_call 80; refine (rvalid_c _ _ _).mono ?_; rintro e w1 ⟨rfl, hb⟩; obtain ⟨hc, hf⟩ := bcell hb))
  all_goals
    go_ret
    have h := HR.out
    clear HR
    first
    | (refine bool_done ?_ (below2w _ _ _); subst h; simp_all [validV, noNum, noStr, isRef, V.num, toList_size, sz_le, sz_ge, sz_lt, sz_lt1] <;> omega)
    | (refine bool_done ?_ (below_next (below2w _ _ _) (by assumption)); subst h; simp_all [validV, noNum, noStr, isRef, V.num, toList_size, sz_le, sz_ge, sz_lt, sz_lt1] <;> omega)
    | trace_state
set_option maxRecDepth 100000 in
set_option maxHeartbeats 2000000 in
theorem pStr_c (w : World) (k p q : Int) (s : ByteArray) (r : Int) (htab : Pow10 w) : Calls Tryz.prog 50 #[.agg #[.int .i64 k, .int .i64 p, .int .i64 q, .string s, .int .i64 r]] w (SrPost w (strOf ⟨k, p, q, s, r⟩)) := by
  have HTAB := Lib.hid htab
  clear htab
  by_cases h3 : k = 3
  · subst h3
    go_enter Tryz.func50, Tryz.ntmps50
    go_wp2
    go_ret2
    exact sr_ok rfl (below_num0 _ _)
  · have k3 : (k == 3) = false := by rw [beq_eq_false_iff_ne]; exact h3
    by_cases h2 : k = 2
    · subst h2
      cases hv : validN (p, q)
      · have HV := Lib.hid (fun W => (hv ▸ rvalid_c W p q : Calls Tryz.prog 80 #[.agg #[.int .i64 p, .int .i64 q]] W (BoolPost W _)))
        have HR := Lib.hid (show strOf ⟨2, p, q, s, r⟩ = .error 8 from by show (if validN (p, q) then _ else _) = _; rw [hv]; rfl)
        clear hv h3 k3
        go_enter Tryz.func50, Tryz.ntmps50
        go_wp2_with fail
        refine (HV.out _).mono ?_
        rintro e w1 ⟨rfl, hb⟩
        have HB1 := Lib.hid (below_next (below_num0 _ _) hb)
        go_wp2
        go_ret2
        exact sr_err HR.out HB1.out
      · have HV := Lib.hid (fun W => (hv ▸ rvalid_c W p q : Calls Tryz.prog 80 #[.agg #[.int .i64 p, .int .i64 q]] W (BoolPost W _)))
        have HR := Lib.hid (show strOf ⟨2, p, q, s, r⟩ = .ok (textB (p, q)) from by show (if validN (p, q) then _ else _) = _; rw [hv]; rfl)
        clear hv h3 k3
        go_enter Tryz.func50, Tryz.ntmps50
        go_wp2_with fail
        refine (HV.out _).mono ?_
        rintro e w1 ⟨rfl, hb⟩
        obtain ⟨hc, hf⟩ := bcell hb
        have HB1 := Lib.hid (below_next (below_num0 _ _) hb)
        go_wp2_with fail
        refine (ptext_c w1 p q (HTAB.out.stays HB1.out)).mono ?_
        rintro e w2 ⟨rfl, hb2⟩
        have HB2 := Lib.hid (below_next HB1.out hb2)
        clear hc hf hb hb2
        go_wp2
        go_ret2
        exact sr_ok HR.out HB2.out
    · have k2 : (k == 2) = false := by rw [beq_eq_false_iff_ne]; exact h2
      have HR := Lib.hid (show strOf ⟨k, p, q, s, r⟩ = .error 8 from by unfold strOf; rw [if_neg h3, if_neg h2])
      clear h2 h3
      go_enter Tryz.func50, Tryz.ntmps50
      go_wp2
      go_ret2
      exact sr_err HR.out (below_num0 _ _)
set_option maxRecDepth 100000 in
set_option maxHeartbeats 2000000 in
theorem pomNew_c (w : World) : Calls Tryz.prog 79 #[] w (fun e w' => e = .returned (.pointer (some ⟨w.heap.size + 1, 0, none⟩)) ∧ OMap w' (w.heap.size + 1) w.heap.size (.slice none 0 0) [] ∧ Below w.heap.size w w') := by
  have hmm := @run_makeMap Tryz.prog
  go_enter Tryz.func79, Tryz.ntmps79
  go_wp2
  go_ret
  refine ⟨by first | rfl | simp, ⟨?_, World.ownsRow_nil _ _ _ _, fun s h => (by cases h), [], fun _ => none, (mapAt_new 30 w).keep (Below.heap_alloc _ _ _ (by simp)), fun p => ⟨fun h => (by cases h), fun ⟨v, n, _, h⟩ => (by cases h)⟩, idx_nil⟩, below2w _ _ _⟩
  exact heap2_b _ _ _
set_option maxRecDepth 100000 in
set_option maxHeartbeats 2000000 in
theorem ptabNew_c (w : World) : Calls Tryz.prog 42 #[] w (fun e w' => e = .returned (.pointer (some ⟨w'.heap.size - 1, 0, none⟩)) ∧ (∃ m g, TabAt w' (w'.heap.size - 1) m g (.slice none 0 0) [] ∧ w.heap.size ≤ m ∧ w.heap.size ≤ g ∧ w.heap.size ≤ w'.heap.size - 1) ∧ Below w.heap.size w w') := by
  go_enter Tryz.func42, Tryz.ntmps42
  go_wp2_with fail
  refine (pomNew_c _).mono ?_
  rintro e w1 ⟨rfl, hO, hb⟩
  have HO := Lib.hid hO
  have HB := Lib.hid hb
  have hz := hb.size
  clear hO hb
  go_wp2
  go_ret
  have hb2 : Below w1.heap.size w1 (w1.alloc (.cells #[.slice none 0 0, .pointer (some ⟨w.heap.size + 1, 0, none⟩)] 126)) := (Below.refl _ _).alloc (Nat.le_refl _) _
  refine ⟨by simp, ⟨_, _, ⟨?_, om_keep_below HO.out hb2⟩, by omega, by omega, by simp; omega⟩, below_next HB.out hb2⟩
  have := heap_new w1 (.cells #[.slice none 0 0, .pointer (some ⟨w.heap.size + 1, 0, none⟩)] 126)
  simpa using this
set_option maxRecDepth 100000 in
set_option maxHeartbeats 2000000 in
theorem tint_c (w : World) (k p q : Int) (s : ByteArray) (r : Int) : Calls Tryz.prog 77 #[.agg #[.int .i64 k, .int .i64 p, .int .i64 q, .string s, .int .i64 r]] w (IntBool w p (intB ⟨k, p, q, s, r⟩)) := by
  have HV := Lib.hid (fun W => pvalidV_c W k p q s r)
  obtain ⟨T, hT⟩ : ∃ T, T = validV ⟨k, p, q, s, r⟩ := ⟨_, rfl⟩
  rw [← hT] at HV
  have hI : intB ⟨k, p, q, s, r⟩ = ((k == 2) && ((q == 1) && T)) := by unfold intB; rw [hT]
  obtain ⟨R, hR⟩ : ∃ R, R = intB ⟨k, p, q, s, r⟩ := ⟨_, rfl⟩
  rw [← hR]
  rw [← hR] at hI
  have HI := Lib.hid (hI)
  clear hT hI hR
  by_cases hk : k = 2
  · have ek : (k == 2) = true := beq_iff_eq.2 hk
    by_cases hq : q = 1
    · have eq : (q == 1) = true := beq_iff_eq.2 hq
      clear hk hq
      go_enter Tryz.func77, Tryz.ntmps77
      go_wp2
      obtain ⟨B, hB⟩ : ∃ B, B = w.alloc (oV k p q s r) := ⟨_, rfl⟩
      rw [← hB]
      have HW0 := Lib.hid (show Below w.heap.size w B by rw [hB]; exact below1 _ _)
      have Hf0 := Lib.hid (show B.heap[w.heap.size]? = some (oV k p q s r) by rw [hB]; exact heap1 _ _)
      clear hB
      have SO := Lib.hid (fun (W : World) (hb : Below B.heap.size B W) => (show W.cell? ⟨w.heap.size, 0, none⟩ = some (.int .i64 k) ∧ W.cell? ⟨w.heap.size, 1, none⟩ = some (.int .i64 p) ∧ W.cell? ⟨w.heap.size, 2, none⟩ = some (.int .i64 q) ∧ W.cell? ⟨w.heap.size, 3, none⟩ = some (.string s) ∧ W.cell? ⟨w.heap.size, 4, none⟩ = some (.int .i64 r) ∧ Hid (Below B.heap.size B W) from ⟨(cells5 (hkeep hb Hf0.out)).1, (cells5 (hkeep hb Hf0.out)).2.1, (cells5 (hkeep hb Hf0.out)).2.2.1, (cells5 (hkeep hb Hf0.out)).2.2.2.1, (cells5 (hkeep hb Hf0.out)).2.2.2.2, Lib.hid hb⟩))
      have hbR : Below B.heap.size B B := Below.refl _ _
      have hbD : Below B.heap.size B B.drew := (Below.refl _ _).drew
      go_region_held3 (fun w' => w'.cell? ⟨w.heap.size, 0, none⟩ = some (.int .i64 k) ∧ w'.cell? ⟨w.heap.size, 1, none⟩ = some (.int .i64 p) ∧ w'.cell? ⟨w.heap.size, 2, none⟩ = some (.int .i64 q) ∧ w'.cell? ⟨w.heap.size, 3, none⟩ = some (.string s) ∧ w'.cell? ⟨w.heap.size, 4, none⟩ = some (.int .i64 r) ∧ Hid (Below B.heap.size B w'))
        (with_reducible exact SO.out _ (by assumption))
        (first | (go_at_call 43; (with_reducible refine (HV.out _).mono ?_); rintro e w1 ⟨rfl, hb⟩; have hb1 := below_next (prj5a (by assumption)) hb; clear hb))
      go_wp2
      go_ret2
      exact ⟨by rw [HI.out]; simp [ek, eq], below_next HW0.out hb1⟩
    · have eq : (q == 1) = false := beq_eq_false_iff_ne.2 hq
      clear hk hq
      go_enter Tryz.func77, Tryz.ntmps77
      go_wp2
      go_quiet (fail)
      go_wp2
      go_ret2
      exact ⟨by rw [HI.out]; simp [ek, eq], bdn (below1 _ _) _⟩
  · have ek : (k == 2) = false := beq_eq_false_iff_ne.2 hk
    clear hk
    go_enter Tryz.func77, Tryz.ntmps77
    go_wp2
    go_quiet (fail)
    go_wp2
    go_ret2
    exact ⟨by rw [HI.out]; simp [ek], bdn (below1 _ _) _⟩
end Go.Proofs.YtpbcmlnjiocmoaaGreatDoorR
