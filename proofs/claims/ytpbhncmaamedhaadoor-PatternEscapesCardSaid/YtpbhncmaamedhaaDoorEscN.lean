import Derived.Test.YtpbhncmaamedhaaDoorEscW
namespace Go.Proofs.YtpbhncmaamedhaaDoor
open Go.RowKit Go.Proofs.Lexi

theorem wpStill_skip {P : Program} {ops : Array Oper} {w : World} {Q : Act → Prop} {a : Act} {o : Oper} {rest : List Oper} (hw : Region.wanted o (yielded ops a.tmps) = false) (h : wpStill P ops w Q rest (a.put o.dst undef)) : wpStill P ops w Q (o :: rest) a := by
  simp only [wpStill, hw]; exact h
set_option maxRecDepth 100000 in
set_option maxHeartbeats 4000000 in
theorem escapes_no (s t : ByteArray) (i : Nat) (w : World) (ht : Tab w) (h1 : s.size ≤ 2000) (h2 : t.size ≤ 5000) (hi : i ≤ t.size) (hP : (bytesOf s).isPrefixOf ((bytesOf t).drop i) = false) (hat : atM (bytesOf t) (escapeM (bytesOf s)) (i : Int) = .ok none) : Calls Tryd.prog 7 #[.string s, .string t, .int .i64 i] w (ExT w) := by
  have HT := Lib.hid ht
  clear ht
  have tail : ∀ W, Below w.heap.size w W → Hid (Calls Tryd.prog 12 #[] W (ExT W)) := fun W h => awake_c W (HT.out.mono h (Nat.le_refl _))
  have AW := Lib.hid tail
  clear tail
  have HES := Lib.hid (Escape_c s (by omega) w)
  have CHK := Lib.hid (check_esc (bytesOf s))
  have hel := esc_len (bytesOf s)
  rw [bytesOf_length] at hel
  have HEL := Lib.hid hel
  clear hel
  have HAT := Lib.hid (show atM (bytesOf t) (escapeM (bytesOf s)) (i : Int) = .ok none from hat)
  by_cases hfit : i + s.size ≤ t.size
  · have hsl := slice_run t (i : Int) ((i : Int) + (s.size : Int)) i (i + s.size) rfl (by omega) (by omega) hfit
    have tcmp : ((t.extract i (i + s.size)).toList == s.toList) = false := by rw [str_eq_there s t i hfit]; exact hP
    have tle : (s.size : Int) ≤ (t.size : Int) - (i : Int) := by omega
    clear hat hP
    go_enter Tryd.func7, Tryd.ntmps7
    go_wp2_with fail
    refine HES.out.mono ?_
    rintro e w1 ⟨hb1, r, hr, rfl⟩
    have hrs : r.size ≤ 4000 := by rw [← bytesOf_length, hr]; exact Nat.le_trans HEL.out (by omega)
    have HB1 := Lib.hid hb1
    have HR := Lib.hid hr
    clear hb1 hr
    go_wp2_with fail
    refine (rescape_c s (by omega) _).mono ?_
    rintro e w1' ⟨rfl, r2, hr2, rfl⟩
    have hrr : r2 = r := bytesOf_inj (hr2.trans HR.out.symm)
    subst hrr
    clear hr2
    have CKC := Lib.hid (Check_c r2 w1 (by omega))
    rw [HR.out, CHK.out] at CKC
    go_wp2_with fail
    refine CKC.out.mono ?_
    rintro e w2 ⟨rfl, hb2⟩
    have HB2 := Lib.hid (HB1.out.trans (hb2.mono HB1.out.size))
    clear hb2
    have ATI := Lib.hid (At_c t r2 (i : Int) w2 (by omega) (by omega) (atM (bytesOf t) (bytesOf r2) (i : Int)) rfl)
    rw [HR.out, HAT.out] at ATI
    go_wp2_with fail
    refine ATI.out.mono ?_
    intro e w3 hpo
    obtain ⟨f, t', ao, n, cap, b, c, rfl, ⟨g2, g3, g4, g5⟩, hcr, hb3⟩ := hpo.open
    have g4' : b = false := g4
    have g5' : c = 0 := g5
    subst g4' g5'
    have HB3 := Lib.hid (HB2.out.trans (hb3.mono HB2.out.size))
    have HB4 := Lib.hid (HB3.out.alloc HB3.out.size (mcell f t' ao n cap))
    clear hpo hb3 hcr g2 g3 g4 g5
    go_wp2
    obtain ⟨W0, hW0⟩ : ∃ W0, W0 = w3.alloc (mcell f t' ao n cap) := ⟨_, rfl⟩
    rw [← hW0] at HB4 ⊢
    have D0 := Lib.hid (show Below W0.heap.size W0 W0.drew from (Below.refl _ _).drew)
    have LAST := Lib.hid (fun (W : World) (h : Below W0.heap.size W0 W) => HB4.out.trans (h.mono HB4.out.size))
    have AWK := Lib.hid (fun (W : World) (h : Below W0.heap.size W0 W) => (AW.out W (LAST.out W h)).out)
    have NXT := Lib.hid (fun (V W : World) (h1 : Below W0.heap.size W0 V) (h2 : Below V.heap.size V W) => h1.trans (h2.mono h1.size))
    clear hW0
    refine wp_region_still_tail 13 mixed (by kernel_rfl) ?_
    simp only [List.take_succ_cons, List.take_zero, List.drop_succ_cons, List.drop_zero]
    iterate 3 (with_reducible refine wpStill_step (fun K hK => ?_)
               go_simp
               with_reducible refine hK _ ?_
               clear hK K)
    iterate 8 with_reducible refine wpStill_skip (by kernel_rfl) ?_
    iterate 2 (with_reducible refine wpStill_step (fun K hK => ?_)
               go_simp
               with_reducible refine hK _ ?_
               clear hK K)
    with_reducible refine wpStill_nil ?_
    go_wp2_with (go_at_call 12; refine (AWK.out _ D0.out).mono ?_; rintro e W ⟨rfl, hbn⟩; have hW := NXT.out _ _ D0.out hbn; clear hbn)
    go_ret
    exact ⟨rfl, LAST.out _ (by assumption)⟩
  · have tle : ¬ ((s.size : Int) ≤ (t.size : Int) - (i : Int)) := by omega
    clear hat hP
    go_enter Tryd.func7, Tryd.ntmps7
    go_wp2_with fail
    refine HES.out.mono ?_
    rintro e w1 ⟨hb1, r, hr, rfl⟩
    have hrs : r.size ≤ 4000 := by rw [← bytesOf_length, hr]; exact Nat.le_trans HEL.out (by omega)
    have HB1 := Lib.hid hb1
    have HR := Lib.hid hr
    clear hb1 hr
    go_wp2_with fail
    refine (rescape_c s (by omega) _).mono ?_
    rintro e w1' ⟨rfl, r2, hr2, rfl⟩
    have hrr : r2 = r := bytesOf_inj (hr2.trans HR.out.symm)
    subst hrr
    clear hr2
    have CKC := Lib.hid (Check_c r2 w1 (by omega))
    rw [HR.out, CHK.out] at CKC
    go_wp2_with fail
    refine CKC.out.mono ?_
    rintro e w2 ⟨rfl, hb2⟩
    have HB2 := Lib.hid (HB1.out.trans (hb2.mono HB1.out.size))
    clear hb2
    have ATI := Lib.hid (At_c t r2 (i : Int) w2 (by omega) (by omega) (atM (bytesOf t) (bytesOf r2) (i : Int)) rfl)
    rw [HR.out, HAT.out] at ATI
    go_wp2_with fail
    refine ATI.out.mono ?_
    intro e w3 hpo
    obtain ⟨f, t', ao, n, cap, b, c, rfl, ⟨g2, g3, g4, g5⟩, hcr, hb3⟩ := hpo.open
    have g4' : b = false := g4
    have g5' : c = 0 := g5
    subst g4' g5'
    have HB3 := Lib.hid (HB2.out.trans (hb3.mono HB2.out.size))
    have HB4 := Lib.hid (HB3.out.alloc HB3.out.size (mcell f t' ao n cap))
    clear hpo hb3 hcr g2 g3 g4 g5
    go_wp2
    obtain ⟨W0, hW0⟩ : ∃ W0, W0 = w3.alloc (mcell f t' ao n cap) := ⟨_, rfl⟩
    rw [← hW0] at HB4 ⊢
    have D0 := Lib.hid (show Below W0.heap.size W0 W0.drew from (Below.refl _ _).drew)
    have LAST := Lib.hid (fun (W : World) (h : Below W0.heap.size W0 W) => HB4.out.trans (h.mono HB4.out.size))
    have AWK := Lib.hid (fun (W : World) (h : Below W0.heap.size W0 W) => (AW.out W (LAST.out W h)).out)
    have NXT := Lib.hid (fun (V W : World) (h1 : Below W0.heap.size W0 V) (h2 : Below V.heap.size V W) => h1.trans (h2.mono h1.size))
    clear hW0
    refine wp_region_still_tail 13 mixed (by kernel_rfl) ?_
    simp only [List.take_succ_cons, List.take_zero, List.drop_succ_cons, List.drop_zero]
    iterate 3 (with_reducible refine wpStill_step (fun K hK => ?_)
               go_simp
               with_reducible refine hK _ ?_
               clear hK K)
    iterate 8 with_reducible refine wpStill_skip (by kernel_rfl) ?_
    iterate 2 (with_reducible refine wpStill_step (fun K hK => ?_)
               go_simp
               with_reducible refine hK _ ?_
               clear hK K)
    with_reducible refine wpStill_nil ?_
    go_wp2_with (go_at_call 12; refine (AWK.out _ D0.out).mono ?_; rintro e W ⟨rfl, hbn⟩; have hW := NXT.out _ _ D0.out hbn; clear hbn)
    go_ret
    exact ⟨rfl, LAST.out _ (by assumption)⟩
end Go.Proofs.YtpbhncmaamedhaaDoor
