import Derived.Test.YtpbhncmaamedhaaDoorEscN
namespace Go.Proofs.YtpbhncmaamedhaaDoor
open Go.RowKit Go.Proofs.Lexi

set_option maxRecDepth 100000 in
set_option maxHeartbeats 4000000 in
theorem escapes_law (s t : ByteArray) (a : Int) (w : World) (ht : Tab w) : Calls Tryd.prog 7 #[.string s, .string t, .int .i64 a] w (ExT w) := by
  have HT := Lib.hid ht
  clear ht
  by_cases hin : s.size ≤ 2000 ∧ t.size ≤ 5000
  · obtain ⟨h1, h2⟩ := hin
    have tail : ∀ W, Below w.heap.size w W → Hid (Calls Tryd.prog 12 #[] W (ExT W)) := fun W h => awake_c W (HT.out.mono h (Nat.le_refl _))
    have AW := Lib.hid tail
    clear tail
    have HES := Lib.hid (Escape_c s (by omega) w)
    have CHK := Lib.hid (check_esc (bytesOf s))
    have hel := esc_len (bytesOf s)
    rw [bytesOf_length] at hel
    have HEL := Lib.hid hel
    clear hel
    by_cases hr : 0 ≤ a ∧ a ≤ t.size
    · obtain ⟨h3, h4⟩ := hr
      obtain ⟨i, rfl⟩ : ∃ i : Nat, a = i := ⟨a.toNat, by omega⟩
      have hi : i ≤ t.size := by omega
      have hat := at_esc (bytesOf t) (bytesOf s) i (by rw [bytesOf_length]; exact hi) (by rw [bytesOf_length]; exact h1)
      rw [bytesOf_length] at hat
      clear h3 h4
      cases hP : (bytesOf s).isPrefixOf ((bytesOf t).drop i) with
      | true =>
        rw [hP] at hat
        have hfit : i + s.size ≤ t.size := by
          have := prefix_len hP
          rw [bytesOf_length, List.length_drop, bytesOf_length] at this
          omega
        have hsl := slice_run t (i : Int) ((i : Int) + (s.size : Int)) i (i + s.size) rfl (by omega) (by omega) hfit
        have tcmp : ((t.extract i (i + s.size)).toList == s.toList) = true := by rw [str_eq_there s t i hfit]; exact hP
        have tle : (s.size : Int) ≤ (t.size : Int) - (i : Int) := by omega
        have HAT := Lib.hid (show atM (bytesOf t) (escapeM (bytesOf s)) (i : Int) = .ok (some ⟨i, ((i + s.size : Nat) : Int), []⟩) from hat)
        clear hat hP
        go_enter Tryd.func7, Tryd.ntmps7
        go_wp2_with fail
        refine HES.out.mono ?_
        rintro e w1 ⟨hb1, r, hr, rfl⟩
        have hrs : r.size ≤ 4000 := by rw [← bytesOf_length, hr]; exact Nat.le_trans HEL.out (by omega)
        have HB1 := Lib.hid hb1
        have HR := Lib.hid hr
        clear hb1 hr
        go_wp2_with fail
        refine (rescape_c s (by omega) _).mono ?_
        rintro e w1' ⟨rfl, r2, hr2, rfl⟩
        have hrr : r2 = r := bytesOf_inj (hr2.trans HR.out.symm)
        subst hrr
        clear hr2
        have CKC := Lib.hid (Check_c r2 w1 (by omega))
        rw [HR.out, CHK.out] at CKC
        go_wp2_with fail
        refine CKC.out.mono ?_
        rintro e w2 ⟨rfl, hb2⟩
        have HB2 := Lib.hid (HB1.out.trans (hb2.mono HB1.out.size))
        clear hb2
        have ATI := Lib.hid (At_c t r2 (i : Int) w2 (by omega) (by omega) (atM (bytesOf t) (bytesOf r2) (i : Int)) rfl)
        rw [HR.out, HAT.out] at ATI
        go_wp2_with fail
        refine ATI.out.mono ?_
        intro e w3 hpo
        obtain ⟨f, t', ao, n, cap, b, c, rfl, ⟨g2, g3, g4, g5⟩, hcr, hb3⟩ := hpo.open
        have g2' : f = (i : Int) := g2
        have g3' : t' = ((i + s.size : Nat) : Int) := g3
        have g4' : b = true := g4
        have g5' : c = 0 := g5
        have hcr' : CapsR w3 (.slice ao n cap) [] := hcr
        obtain ⟨_, _, hv, _⟩ := hcr'
        injection hv with hva hvn hvc
        have hv' : n = 0 := hvn
        clear hva hvc hvn
        rw [show ((i + s.size : Nat) : Int) = (i : Int) + (s.size : Int) from by omega] at g3'
        subst g2' g3' g4' g5' hv'
        have HB3 := Lib.hid (HB2.out.trans (hb3.mono HB2.out.size))
        have HM := Lib.hid (heap_new w3 (mcell (i : Int) ((i : Int) + (s.size : Int)) ao 0 cap))
        have HB4 := Lib.hid (HB3.out.alloc HB3.out.size (mcell (i : Int) ((i : Int) + (s.size : Int)) ao 0 cap))
        clear hpo hb3 hcr g2 g3 g4 g5
        go_wp2
        obtain ⟨W0, hW0⟩ : ∃ W0, W0 = w3.alloc (mcell (i : Int) ((i : Int) + (s.size : Int)) ao 0 cap) := ⟨_, rfl⟩
        rw [← hW0] at HM HB4 ⊢
        obtain ⟨p0, p1, p2⟩ := mcell_read HM.out
        have SOF := Lib.hid (fun (W : World) (hb : Below W0.heap.size W0 W) => (⟨keepCell hb p0, keepCell hb p1, keepCell hb p2⟩ : W.cell? ⟨w3.heap.size, 0, none⟩ = some (.int .i64 (i : Int)) ∧ W.cell? ⟨w3.heap.size, 1, none⟩ = some (.int .i64 ((i : Int) + (s.size : Int))) ∧ W.cell? ⟨w3.heap.size, 2, none⟩ = some (.slice ao 0 cap)))
        have D0 := Lib.hid (show Below W0.heap.size W0 W0.drew from (Below.refl _ _).drew)
        have NXT := Lib.hid (fun (V W : World) (h1 : Below W0.heap.size W0 V) (h2 : Below V.heap.size V W) => h1.trans (h2.mono h1.size))
        have LAST := Lib.hid (fun (W : World) (h : Below W0.heap.size W0 W) => HB4.out.trans (h.mono HB4.out.size))
        have AWK := Lib.hid (fun (W : World) (h : Below W0.heap.size W0 W) => (AW.out W (LAST.out W h)).out)
        have HW0 := Lib.hid hW0
        clear hW0
        have hwr : IntKind.i64.wrap ((i : Int) + (s.size : Int)) = (i : Int) + (s.size : Int) := IntWalk.i64_in _ (by omega)
        go_region_held3 (fun W => W.cell? ⟨w3.heap.size, 0, none⟩ = some (.int .i64 (i : Int)) ∧ W.cell? ⟨w3.heap.size, 1, none⟩ = some (.int .i64 ((i : Int) + (s.size : Int))) ∧ W.cell? ⟨w3.heap.size, 2, none⟩ = some (.slice ao 0 cap)) (first | exact SOF.out _ (by assumption) | exact SOF.out _ D0.out) (first | ((go_at_call 24; (with_reducible refine (lm_nil _ _ _).mono ?_); rintro e W ⟨hbn, am, cm, rfl, hcm⟩; have hW := NXT.out _ _ D0.out hbn; clear hbn hcm)) | ((go_at_call 17; (with_reducible refine (same_nil _ _ _ _ _ _ _).mono ?_); rintro e W ⟨rfl, hbn⟩; have hW := NXT.out _ _ (by assumption) hbn; clear hbn)) | ((go_at_call 12; refine (AWK.out _ (by assumption)).mono ?_; rintro e W ⟨rfl, hbn⟩; have hW := NXT.out _ _ (by assumption) hbn; clear hbn)))
        go_wp2
        go_ret
        exact ⟨rfl, LAST.out _ (by assumption)⟩
      | false =>
        rw [hP] at hat
        exact escapes_no s t i w HT.out h1 h2 hi hP hat
    · have hrange : a < 0 ∨ (0 ≤ a ∧ (t.size : Int) < a) := by omega
      clear hr
      rcases hrange with k1 | ⟨k1, k2⟩
      all_goals
        go_enter Tryd.func7, Tryd.ntmps7
        go_wp2_with fail
        refine HES.out.mono ?_
        rintro e w1 ⟨hb1, r, hr, rfl⟩
        have hrs : r.size ≤ 4000 := by rw [← bytesOf_length, hr]; exact Nat.le_trans HEL.out (by omega)
        have HB1 := Lib.hid hb1
        have HR := Lib.hid hr
        clear hb1 hr
        go_wp2_with fail
        refine (rescape_c s (by omega) _).mono ?_
        rintro e w1' ⟨rfl, r2, hr2, rfl⟩
        have hrr : r2 = r := bytesOf_inj (hr2.trans HR.out.symm)
        subst hrr
        clear hr2
        have CKC := Lib.hid (Check_c r2 w1 (by omega))
        rw [HR.out, CHK.out] at CKC
        go_wp2_with fail
        refine CKC.out.mono ?_
        rintro e w2 ⟨rfl, hb2⟩
        have HB2 := Lib.hid (HB1.out.trans (hb2.mono HB1.out.size))
        clear hb2
        go_wp2_with fail
        refine (AW.out _ HB2.out).out.mono ?_
        rintro e w4 ⟨rfl, hb4⟩
        have HB4 := Lib.hid (HB2.out.trans (hb4.mono HB2.out.size))
        clear hb4
        go_wp2
        go_ret
        exact ⟨rfl, HB4.out⟩
  · have hout : 2000 < s.size ∨ (s.size ≤ 2000 ∧ 5000 < t.size) := by omega
    clear hin
    have AW := Lib.hid (awake_c w HT.out)
    rcases hout with k1 | ⟨k1, k2⟩
    all_goals
      go_enter Tryd.func7, Tryd.ntmps7
      go_wp2_with fail
      refine AW.out.mono ?_
      rintro e w4 ⟨rfl, hb4⟩
      have HB4 := Lib.hid hb4
      clear hb4
      go_wp2
      go_ret
      exact ⟨rfl, HB4.out⟩
end Go.Proofs.YtpbhncmaamedhaaDoor
