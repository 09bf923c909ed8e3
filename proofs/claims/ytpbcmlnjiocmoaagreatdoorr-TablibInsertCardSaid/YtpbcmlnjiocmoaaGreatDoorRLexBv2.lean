import Derived.Test.YtpbcmlnjiocmoaaGreatDoorRLexB
import Derived.Deep.MidRow
import Derived.Deep.DeepCutAuto
import Derived.Laws.AppendOwnNone
set_option linter.unusedVariables false
set_option linter.unusedSimpArgs false
set_option maxRecDepth 100000
set_option maxHeartbeats 4000000
namespace Go.Proofs.Lexi
open Go
section
variable {P : Program} {ops : Array Oper} {Q : Exit → Act → World → Prop}
/-- A REGION THAT DRAWS, WALKED IN THE ORDER OF ITS TEXT. -/
theorem wp_region_lex {id : Nat} {l : List Oper} {a : Act} {w : World} (hm : P.follows .mixedOrders = true) (hB : lexCheck P l.toArray (Region.before l.toArray) = true)
    (h : wpList P l.toArray (Behind l.toArray Q) l a w.drew) : (Code.region id l.toArray true).wp P Q a w := by
  have hQ : OnlyN (Behind l.toArray Q) := fun e a w h => by cases e <;> first | rfl | exact h.elim
  refine Code.wp_mono (Q := Behind l.toArray Q) (fun e a w h => by cases e <;> first | exact h.2 | exact h.elim) ?_
  refine wp_region_any hm ?_
  refine any_of_lex (lexed_of hB) hQ (fun a w h => h.1) l.toArray.size 0 _ a _ (by simp) (by simp) (fun x hx => by
    simp only [Array.getD_eq_getD_getElem?, Array.getElem?_replicate, Nat.not_lt_zero, decide_false]
    split <;> rfl) ?_
  have := wpOps_eq_wpList (P := P) (ops := l.toArray) (Q := Behind l.toArray Q) l 0 (by simp)
  simp only [List.size_toArray]
  rw [this]
  exact h
end
end Go.Proofs.Lexi
namespace Go.Proofs.YtpbcmlnjiocmoaaGreatDoorR
open Go.RowKit Go.Proofs.Lexi
set_option maxHeartbeats 400000 in
theorem gcd_c (w : World) (x y : Int) (a b : Nat) (hx : x = a) (hy : y = b) (ha : a ≤ 9223372036854775807) (hb : b ≤ 9223372036854775807) :
    Calls Tryz.prog 98 #[.int .i64 x, .int .i64 y] w (PureP w (.int .i64 (Nat.gcd a b : Nat))) := by
  subst hx hy
  obtain ⟨G, hG⟩ : ∃ G, G = Nat.gcd a b := ⟨_, rfl⟩
  rw [← hG]
  have HG := Lib.hid hG.symm
  clear hG
  go_enter Tryz.func98, Tryz.ntmps98
  go_wp2
  go_loopg [0, 1] b (fun gg u v wr => ∃ x y n : Nat, wr = w.drewN n ∧ y = gg ∧ u = .int .i64 (x : Int) ∧ v = .int .i64 (y : Int) ∧ x ≤ 9223372036854775807 ∧ y ≤ 9223372036854775807 ∧ Hid (Nat.gcd x y = G))
  case atStart => exact ⟨a, b, 0, rfl, rfl, rfl, rfl, ha, hb, HG⟩
  case round =>
    obtain ⟨x, y, n, rfl, rfl, rfl, rfl, h1, h2, h3⟩ := hrel
    by_cases h0 : y = 0
    · subst h0
      have HX := Lib.hid (show (x : Int) = G from by have := h3.out; rw [Nat.gcd_zero_right] at this; omega)
      go_wp2
      go_ret
      exact ⟨ret_int HX.out, n, rfl⟩
    · have t0 : ((y : Int) != 0) = true := by rw [bne_iff_ne]; omega
      have hy0 : 0 < y := by omega
      have hm := Nat.mod_lt x hy0
      have HN := Lib.hid (show Nat.gcd y (x % y) = G from by rw [← h3.out, Nat.gcd_comm x y]; exact (Nat.gcd_rec y x).symm ▸ (Nat.gcd_comm _ _))
      clear h0
      go_wp2
      refine wp_region_lex mixed (by kernel_rfl) ?_
      go_wp2
      refine ⟨by kernel_rfl, ?_⟩
      go_wp2
      go_roundg (x % y)
      case measure => omega
      case rel => exact ⟨y, x % y, _, rfl, rfl, rfl, (by first | rfl | simp), h2, by omega, HN⟩
set_option maxRecDepth 100000 in
set_option maxHeartbeats 1000000 in
theorem rvalid_c (w : World) (p q : Int) : Calls Tryz.prog 80 #[.agg #[.int .i64 p, .int .i64 q]] w (BoolPost w (validN (p, q))) := by
  have HB := Lib.hid (below_num0 w (.cells #[.int .i64 p, .int .i64 q] 28))
  by_cases h : 1 ≤ q ∧ q ≤ 2147483647 ∧ -2147483647 ≤ p ∧ p ≤ 2147483647
  · obtain ⟨h1, h2, h3, h4⟩ := h
    have HGC := Lib.hid (fun W x y hx hy => gcd_c W x y p.natAbs q.natAbs hx hy (by omega) (by omega))
    obtain ⟨D, hD⟩ : ∃ D, D = Nat.gcd p.natAbs q.natAbs := ⟨_, rfl⟩
    have HV := Lib.hid (validN_good h1 h2 h3 h4 hD.symm)
    have HDD := Lib.hid hD.symm
    clear hD
    go_enter Tryz.func80, Tryz.ntmps80
    go_wp2_with fail
    all_goals
      refine (HGC.out _ _ _ (by omega) (by omega)).mono ?_
      rw [HDD.out]
      rintro e w1 ⟨rfl, n, rfl⟩
      go_wp2
      go_ret
      exact bool_done HV.out.symm (bdn HB.out n)
  · have HV := Lib.hid (validN_bad (p := p) (q := q) (by omega))
    have hc : q < 1 ∨ (1 ≤ q ∧ 2147483647 < q) ∨ (1 ≤ q ∧ q ≤ 2147483647 ∧ p < -2147483647) ∨ (1 ≤ q ∧ q ≤ 2147483647 ∧ -2147483647 ≤ p ∧ 2147483647 < p) := by omega
    clear h
    rcases hc with k1 | ⟨k1, k2⟩ | ⟨k1, k2, k3⟩ | ⟨k1, k2, k3, k4⟩
    all_goals
      go_enter Tryz.func80, Tryz.ntmps80
      go_wp2
      go_ret
      exact bool_done HV.out.symm HB.out
end Go.Proofs.YtpbcmlnjiocmoaaGreatDoorR
namespace Go.Proofs
open Go.Shelf
open Go.RowKit in
/-- (*strings.Builder).Len: "Len returns the number of accumulated bytes; b.Len() == len(b.String()).": the world is as it was. (LAID: no walk: one application.) -/
theorem Tryz.Builder_Len (B b : Nat) (bs : List Value) (w : World) (h : Lib.IsBuilder 74 5 B b bs w) :
    Calls Tryz.prog 59 #[.pointer (some ⟨b, 0, none⟩)] w fun e w' => e = .returned (.int .i64 bs.length) ∧ w' = w := Any.Builder_Len Tryz.lays170 B b bs w h
open Go.RowKit in
/-- (*strings.Builder).String: "String returns the accumulated string.": WHATEVER THE BUILDER HOLDS. (LAID: no walk: one application.) -/
theorem Tryz.Builder_String_any (B b : Nat) (l : List UInt8) (w : World) (h : Lib.IsBuilder 74 5 B b (Lib.byteCells l) w) (hBw : B ≤ w.heap.size) :
    Calls Tryz.prog 35 #[.pointer (some ⟨b, 0, none⟩)] w fun e w' => e = .returned (.string ⟨l.toArray⟩) ∧ Below B w w' := Any.Builder_String_any Tryz.lays169 Tryz.Builder_Extra_169 B b l w h hBw
open Go.RowKit Go.Sort Go.Lib in
/-- strconv.Itoa: "Itoa is equivalent to FormatInt(int64(i), 10).": i's DECIMAL NUMERAL ('Lib.itoa': a '-' where i is negative, then the digits), FOR EVERY int. The world behind the call: the world before it, new blocks behind the heap (the library's 'var a [24]byte'), draws. (LAID: no walk: one application.) -/
theorem Tryz.strconv_Itoa (n : Int) (h0 : -9223372036854775808 ≤ n) (h1 : n ≤ 9223372036854775807) (w : World) (htab : Lib.TabIs Tryz.prog w "internal/strconv.uint64pow10" .u64 Lib.pow10Tab) :
    Calls Tryz.prog 58 #[.int .i64 n] w fun e w' => e = .returned (.string ⟨(Lib.itoa n).toArray⟩) ∧ ∃ k os, w' = grow (w.drewN k) os := Any.strconv_Itoa Tryz.laysM171 n h0 h1 w htab
open Go.RowKit Go.Lib in
/-- strings.TrimPrefix: "TrimPrefix returns s without the provided leading prefix string. If s doesn't start with prefix, s is returned unchanged.": IT RETURNS 'Lib.trimPrefix s prefix'; the world is as it was. (LAID: no walk: one application.) -/
theorem Tryz.strings_TrimPrefix (s p : ByteArray) (w : World) :
    Calls Tryz.prog 24 #[.string s, .string p] w fun e w' => e = .returned (.string ⟨(Lib.trimPrefix s.data.toList p.data.toList).toArray⟩) ∧ w' = w := Any.strings_TrimPrefix Tryz.lays101 s p w
end Go.Proofs
namespace Go.Proofs.YtpbcmlnjiocmoaaGreatDoorR
open Go.RowKit Go.Proofs.Lexi
theorem pitoa_c (w : World) (htab : Pow10 w) (n : Int) (h1 : -9223372036854775807 ≤ n) (h2 : n ≤ 9223372036854775807) (W : World) (hW : Below w.heap.size w W) :
    Calls Tryz.prog 58 #[.int .i64 n] W (fun e w' => e = .returned (.string (itoaB n)) ∧ Below W.heap.size W w') := by
  refine (Tryz.strconv_Itoa n (by omega) h2 W (htab.stays hW)).mono ?_
  rintro e w' ⟨rfl, k, os, rfl⟩
  exact ⟨rfl, below_growN _ _ _⟩
set_option maxRecDepth 100000 in
set_option maxHeartbeats 2000000 in
theorem ptext_c (w : World) (p q : Int) (htab : Pow10 w) : Calls Tryz.prog 86 #[.agg #[.int .i64 p, .int .i64 q]] w (StrB w (textB (p, q))) := by
  have HB := Lib.hid (below_num0 w (o2 p q))
  obtain ⟨R, hR⟩ : ∃ R, R = textB (p, q) := ⟨_, rfl⟩
  rw [← hR]
  have HV := Lib.hid (fun W => rvalid_c W p q)
  obtain ⟨V, hV⟩ : ∃ V, validN (p, q) = V := ⟨_, rfl⟩
  rw [hV] at HV
  cases V with
  | false =>
    have HR := Lib.hid (show R = ⟨#[110, 97, 110]⟩ from by rw [hR]; unfold textB; rw [hV]; rfl)
    clear hR hV
    go_enter Tryz.func86, Tryz.ntmps86
    go_wp2_with fail
    refine (HV.out _).mono ?_
    rintro e w1 ⟨rfl, hb⟩
    have HB1 := Lib.hid (below_next HB.out hb)
    clear hb
    go_wp2
    go_ret
    exact str_done HR.out HB1.out
  | true =>
    obtain ⟨b1, b2, b3, b4⟩ := validN_bounds hV
    have HDP := Lib.hid (fun W hW => pitoa_c w htab p (by omega) (by omega) W hW)
    have HDQ := Lib.hid (fun W hW => pitoa_c w htab q (by omega) (by omega) W hW)
    have hzp := itoaB_size (n := p) b3 b4
    have hzq := itoaB_size (n := q) (by omega) b2
    by_cases h1 : q = 1
    · have HR := Lib.hid (show R = itoaB p from by rw [hR]; unfold textB; rw [hV, if_pos rfl, if_pos h1])
      have hq1 : (q == 1) = true := by rw [beq_iff_eq]; exact h1
      clear hR hV h1
      go_enter Tryz.func86, Tryz.ntmps86
      go_wp2_with fail
      refine (HV.out _).mono ?_
      rintro e w1 ⟨rfl, hb⟩
      obtain ⟨hc, hf⟩ := bcell hb
      have c0 : w1.cell? ⟨w.heap.size, 0, none⟩ = some (.int .i64 p) := (hc _ _ (by simp)).trans (by simp [go_sem])
      have c1 : w1.cell? ⟨w.heap.size, 1, none⟩ = some (.int .i64 q) := (hc _ _ (by simp)).trans (by simp [go_sem])
      have HB1 := Lib.hid (below_next HB.out hb)
      clear hb hc hf
      go_wp2_with fail
      refine (HDP.out _ HB1.out).mono ?_
      rintro e w2 ⟨rfl, hb⟩
      have HB2 := Lib.hid (below_next HB1.out hb)
      clear hb
      go_wp2
      go_ret
      exact str_done HR.out HB2.out
    · have HR := Lib.hid (show R = itoaB p ++ slashB ++ itoaB q from by rw [hR]; unfold textB; rw [hV, if_pos rfl, if_neg h1])
      have hq1 : (q == 1) = false := by rw [beq_eq_false_iff_ne]; exact h1
      have hss : slashB.size = 1 := rfl
      have had1 := add_run (itoaB p) slashB (by omega)
      have had2 := add_run (itoaB p ++ slashB) (itoaB q) (by rw [ByteArray.size_append]; omega)
      obtain ⟨A, hA⟩ : ∃ A, itoaB p = A := ⟨_, rfl⟩
      obtain ⟨B, hB⟩ : ∃ B, itoaB q = B := ⟨_, rfl⟩
      rw [hA] at HDP
      rw [hB] at HDQ
      rw [hA] at had1 had2 HR hzp
      rw [hB] at had2 HR hzq
      obtain ⟨X, hX⟩ : ∃ X, A ++ slashB = X := ⟨_, rfl⟩
      obtain ⟨Y, hY⟩ : ∃ Y, X ++ B = Y := ⟨_, rfl⟩
      rw [hX] at had1 had2 HR
      rw [hY] at had2 HR
      have had1 : ∀ W, (Op.stringOp .add A ⟨#[47]⟩).run Tryz.prog W = .ok (.string X) W := had1
      clear hR hV h1 hA hB hX hY hss
      go_enter Tryz.func86, Tryz.ntmps86
      go_wp2_with fail
      refine (HV.out _).mono ?_
      rintro e w1 ⟨rfl, hb⟩
      obtain ⟨hc, hf⟩ := bcell hb
      have c0 : w1.cell? ⟨w.heap.size, 0, none⟩ = some (.int .i64 p) := (hc _ _ (by simp)).trans (by simp [go_sem])
      have c1 : w1.cell? ⟨w.heap.size, 1, none⟩ = some (.int .i64 q) := (hc _ _ (by simp)).trans (by simp [go_sem])
      have HB1 := Lib.hid (below_next HB.out hb)
      have SOF := Lib.hid (fun (W : World) (h : Below w1.heap.size w1 W) => (⟨keepCell h c0, keepCell h c1⟩ : W.cell? ⟨w.heap.size, 0, none⟩ = some (.int .i64 p) ∧ W.cell? ⟨w.heap.size, 1, none⟩ = some (.int .i64 q)))
      have D0 := Lib.hid (show Below w1.heap.size w1 w1.drew from (Below.refl _ _).drew)
      have NXT := Lib.hid (fun (V W : World) (h1 : Below w1.heap.size w1 V) (h2 : Below V.heap.size V W) => h1.trans (h2.mono h1.size))
      have LAST := Lib.hid (fun (W : World) (h : Below w1.heap.size w1 W) => below_next HB1.out h)
      clear hb hc hf
      go_wp2
      go_region_held3 (fun W => W.cell? ⟨w.heap.size, 0, none⟩ = some (.int .i64 p) ∧ W.cell? ⟨w.heap.size, 1, none⟩ = some (.int .i64 q)) (first | exact SOF.out _ (by assumption) | exact SOF.out _ D0.out) (first | ((go_at_call 58; (with_reducible refine (HDP.out _ (LAST.out _ (by first | assumption | exact D0.out))).mono ?_); rintro e W ⟨rfl, hbn⟩; have hW := NXT.out _ _ (by first | assumption | exact D0.out) hbn; clear hbn)) | ((go_at_call 58; (with_reducible refine (HDQ.out _ (LAST.out _ (by first | assumption | exact D0.out))).mono ?_); rintro e W ⟨rfl, hbn⟩; have hW := NXT.out _ _ (by first | assumption | exact D0.out) hbn; clear hbn)))
      go_wp2
      go_ret
      exact str_done HR.out (LAST.out _ (by assumption))
set_option maxRecDepth 100000 in
set_option maxHeartbeats 4000000 in
theorem pvalidV_c (w : World) (k p q : Int) (s : ByteArray) (r : Int) : Calls Tryz.prog 43 #[.agg #[.int .i64 k, .int .i64 p, .int .i64 q, .string s, .int .i64 r]] w (BoolPost w (validV ⟨k, p, q, s, r⟩)) := by
  obtain ⟨R, hR⟩ : ∃ R, R = validV ⟨k, p, q, s, r⟩ := ⟨_, rfl⟩
  rw [← hR]
  have HR := Lib.hid hR
  clear hR
  go_enter Tryz.func43, Tryz.ntmps43
  go_wp2_with (first | (go_at_call 80; refine (rvalid_c _ _ _).mono ?_; rintro e w1 ⟨rfl, hb⟩; obtain ⟨hc, hf⟩ := bcell hb))
  all_goals
    go_ret
    have h := HR.out
    clear HR
    first
    | (refine bool_done ?_ (below2w _ _ _); subst h; simp_all [validV, noNum, noStr, isRef, V.num, toList_size, sz_le, sz_ge, sz_lt, sz_lt1] <;> omega)
    | (refine bool_done ?_ (below_next (below2w _ _ _) (by assumption)); subst h; simp_all [validV, noNum, noStr, isRef, V.num, toList_size, sz_le, sz_ge, sz_lt, sz_lt1] <;> omega)
    | trace_state
set_option maxRecDepth 100000 in
set_option maxHeartbeats 2000000 in
theorem pOfString_c (w : World) (s : ByteArray) : Calls Tryz.prog 52 #[.string s] w (ValPost w (strV s)) := by
  go_enter Tryz.func52, Tryz.ntmps52
  go_wp2
  refine bodyPost_ret (by simp [results, Tryz.results52, go_sem]; first | done | rfl) rfl ?_
  exact val_done rfl (below_num0 _ _)
set_option maxRecDepth 100000 in
set_option maxHeartbeats 2000000 in
theorem pOfInt_c (w : World) (n : Int) : Calls Tryz.prog 54 #[.int .i64 n] w (ValPost w (intV n)) := by
  have hw : n < -2147483647 ∨ (¬ n < -2147483647 ∧ 2147483647 < n) ∨ (¬ n < -2147483647 ∧ ¬ 2147483647 < n) := by omega
  rcases hw with h | ⟨h, h2⟩ | ⟨h, h2⟩
  · have HR := Lib.hid (show intV n = V.nil from by unfold intV; rw [if_neg]; rw [inTop_iff]; omega)
    go_enter Tryz.func54, Tryz.ntmps54
    go_wp2
    refine bodyPost_ret (by simp [results, Tryz.results54, go_sem]; first | done | rfl) rfl ?_
    exact val_done HR.out (below_num0 _ _)
  · have HR := Lib.hid (show intV n = V.nil from by unfold intV; rw [if_neg]; rw [inTop_iff]; omega)
    go_enter Tryz.func54, Tryz.ntmps54
    go_wp2
    refine bodyPost_ret (by simp [results, Tryz.results54, go_sem]; first | done | rfl) rfl ?_
    exact val_done HR.out (below_num0 _ _)
  · have HR := Lib.hid (show intV n = ⟨2, n, 1, ⟨#[]⟩, 0⟩ from by unfold intV; rw [if_pos]; rw [inTop_iff]; omega)
    go_enter Tryz.func54, Tryz.ntmps54
    go_wp2
    refine bodyPost_ret (by simp [results, Tryz.results54, go_sem]; first | done | rfl) rfl ?_
    exact val_done HR.out (below_num0 _ _)
set_option maxRecDepth 100000 in
set_option maxHeartbeats 2000000 in
theorem pStr_c (w : World) (k p q : Int) (s : ByteArray) (r : Int) (htab : Pow10 w) : Calls Tryz.prog 50 #[.agg #[.int .i64 k, .int .i64 p, .int .i64 q, .string s, .int .i64 r]] w (SrPost w (strOf ⟨k, p, q, s, r⟩)) := by
  have HTAB := Lib.hid htab
  clear htab
  by_cases h3 : k = 3
  · subst h3
    go_enter Tryz.func50, Tryz.ntmps50
    go_wp2
    go_ret2
    exact sr_ok rfl (below_num0 _ _)
  · have k3 : (k == 3) = false := by rw [beq_eq_false_iff_ne]; exact h3
    by_cases h2 : k = 2
    · subst h2
      cases hv : validN (p, q)
      · have HV := Lib.hid (fun W => (hv ▸ rvalid_c W p q : Calls Tryz.prog 80 #[.agg #[.int .i64 p, .int .i64 q]] W (BoolPost W _)))
        have HR := Lib.hid (show strOf ⟨2, p, q, s, r⟩ = .error 8 from by show (if validN (p, q) then _ else _) = _; rw [hv]; rfl)
        clear hv h3 k3
        go_enter Tryz.func50, Tryz.ntmps50
        go_wp2_with fail
        refine (HV.out _).mono ?_
        rintro e w1 ⟨rfl, hb⟩
        have HB1 := Lib.hid (below_next (below_num0 _ _) hb)
        go_wp2
        go_ret2
        exact sr_err HR.out HB1.out
      · have HV := Lib.hid (fun W => (hv ▸ rvalid_c W p q : Calls Tryz.prog 80 #[.agg #[.int .i64 p, .int .i64 q]] W (BoolPost W _)))
        have HR := Lib.hid (show strOf ⟨2, p, q, s, r⟩ = .ok (textB (p, q)) from by show (if validN (p, q) then _ else _) = _; rw [hv]; rfl)
        clear hv h3 k3
        go_enter Tryz.func50, Tryz.ntmps50
        go_wp2_with fail
        refine (HV.out _).mono ?_
        rintro e w1 ⟨rfl, hb⟩
        obtain ⟨hc, hf⟩ := bcell hb
        have HB1 := Lib.hid (below_next (below_num0 _ _) hb)
        go_wp2_with fail
        refine (ptext_c w1 p q (HTAB.out.stays HB1.out)).mono ?_
        rintro e w2 ⟨rfl, hb2⟩
        have HB2 := Lib.hid (below_next HB1.out hb2)
        clear hc hf hb hb2
        go_wp2
        go_ret2
        exact sr_ok HR.out HB2.out
    · have k2 : (k == 2) = false := by rw [beq_eq_false_iff_ne]; exact h2
      have HR := Lib.hid (show strOf ⟨k, p, q, s, r⟩ = .error 8 from by unfold strOf; rw [if_neg h3, if_neg h2])
      clear h2 h3
      go_enter Tryz.func50, Tryz.ntmps50
      go_wp2
      go_ret2
      exact sr_err HR.out (below_num0 _ _)
end Go.Proofs.YtpbcmlnjiocmoaaGreatDoorR
namespace Go.Proofs.YtpbcmlnjiocmoaaGreatDoorR
open Go.RowKit Go.Proofs.Lexi Go.ChangeMaps Go.MapKept
open Go.Maps (Keyed)
variable {P : Program}
theorem wpList_look_map (w : World) {ops : Array Oper} {rest : List Oper} {o : Oper} {a : Act} {Q : Exit → Act → World → Prop}
    (hg : o.guard = none) (m x : Operand) (t : TypeId) (c : Bool) (hop : o.op = Op.lookup t m x c) (M K v : Value) (hm : a.eval m = M) (hx : a.eval x = K)
    (hrun : (Instr.lookup t M K c).run P w = .ok v w) (hK : wpList P ops Q rest (a.put o.dst v) w) : wpList P ops Q (o :: rest) a w := by
  refine wpList_plain hg fun K' hK' => ?_
  unfold Oper.wp
  simp [execOp, hop, hm, hx, hrun, Result.andThen]
  exact hK' _ _ hK
theorem wpList_store_map (w : World) {ops : Array Oper} {rest : List Oper} {o : Oper} {a : Act} {Q : Exit → Act → World → Prop}
    (hg : o.guard = none) (m x v : Operand) (t : TypeId) (hop : o.op = Op.mapUpdate t m x v) (M K V' : Value) (hm : a.eval m = M) (hx : a.eval x = K) (hv : a.eval v = V') (R : World → Prop)
    (hrun : ∃ w', (Instr.mapUpdate t M K V').run P w = .ok () w' ∧ R w') (hK : ∀ w', R w' → wpList P ops Q rest (a.put o.dst undef) w') : wpList P ops Q (o :: rest) a w := by
  refine wpList_plain hg fun K' hK' => ?_
  obtain ⟨w', hrun, r⟩ := hrun
  unfold Oper.wp
  simp [execOp, hop, hm, hx, hv, hrun, Result.andThen]
  exact hK' _ _ (hK w' r)
end Go.Proofs.YtpbcmlnjiocmoaaGreatDoorR
namespace Go.Proofs.YtpbcmlnjiocmoaaGreatDoorR
open Go.RowKit Go.Proofs.Lexi
set_option maxRecDepth 100000 in
theorem neq_run (W : World) (k p q : Int) (s : ByteArray) (r : Int) (k2 p2 q2 : Int) (s2 : ByteArray) (r2 : Int) :
    (binOp .neq 30 (.agg #[.int .i64 k, .int .i64 p, .int .i64 q, .string s, .int .i64 r]) (.agg #[.int .i64 k2, .int .i64 p2, .int .i64 q2, .string s2, .int .i64 r2])).run Tryz.prog W = .ok (.bool (!eqV ⟨k, p, q, s, r⟩ ⟨k2, p2, q2, s2, r2⟩)) W := by
  by_cases h1 : k = k2 <;> by_cases h2 : p = p2 <;> by_cases h3 : q = q2 <;> by_cases h4 : s = s2 <;> by_cases h5 : r = r2 <;> simp [go_sem, eqV, h1, h2, h3, h4, h5]
  have h6 : ¬ s.toList = s2.toList := fun e => h4 (ByteArray.ext (Array.toList_inj.1 (by rw [← ByteArray.toList_eq, ← ByteArray.toList_eq]; exact e)))
  have h7 : (bytesOf s == bytesOf s2) = false := beq_eq_false_iff_ne.2 (fun e => h4 (bytesOf_inj e))
  first
  | (rw [if_neg h6]; simp [h7]; done)
  | (simp [h6, h7]; done)
  | (have h8 : ¬ bytesOf s = bytesOf s2 := fun e => h4 (bytesOf_inj e); simp [h6, h8])
theorem pOfInt_top (w : World) (n : Int) (h1 : -2147483647 ≤ n) (h2 : n ≤ 2147483647) : Calls Tryz.prog 54 #[.int .i64 n] w (fun e w' => e = .returned (.agg #[.int .i64 2, .int .i64 n, .int .i64 1, .string ⟨#[]⟩, .int .i64 0]) ∧ Below w.heap.size w w') := by
  have := pOfInt_c w n
  unfold intV at this
  rw [if_pos (inTop_iff.2 ⟨h1, h2⟩)] at this
  exact this
theorem neqs_run (W : World) (v : V) : (binOp .neq 30 (.agg #[.int .i64 v.k, .int .i64 v.p, .int .i64 v.q, .string v.s, .int .i64 v.r]) (.agg #[.int .i64 v.k, .int .i64 v.p, .int .i64 v.q, .string v.s, .int .i64 v.r])).run Tryz.prog W = .ok (.bool false) W := by
  have := neq_run W v.k v.p v.q v.s v.r v.k v.p v.q v.s v.r
  rw [this]
  simp [eqV]
end Go.Proofs.YtpbcmlnjiocmoaaGreatDoorR
