import Derived.Test.YtpbhncmaamedhaaDoorRA1
import Derived.Test.YtpbhncmaamedhaaDoorFill
namespace Go.Proofs.YtpbhncmaamedhaaDoor
open Go.RowKit Go.Proofs.Lexi

set_option maxRecDepth 100000 in
set_option maxHeartbeats 4000000 in
theorem rmatch_last {E : MEnv} (ok : RMOK E) : RMatchOK E E.items.length := by
  intro w n cs a b i h hn hi hco ha hb
  subst ha hb
  obtain ⟨p, cap, hv⟩ := ok.vi_shape
  obtain ⟨hpl, hpat⟩ := ok.pat
  have hl := ok.len
  have hsl := ok.sl
  have tj : ((E.items.length : Int) == (E.items.length : Int)) = true := by simp
  obtain ⟨R, hR⟩ : ∃ R, R = matchM (bytesOf E.s) E.fin (E.items.drop E.items.length) i (n, cs) := ⟨_, rfl⟩
  rw [← hR]
  have hR2 : R = if n + 1 ≤ maxSteps then some (if (!E.fin || i == (bytesOf E.s).length) then some i else none, (n + 1, cs)) else none := by rw [hR, List.drop_length]; rfl
  rw [bytesOf_length] at hR2
  have HP2 := Lib.hid (rstep_c ok h hn)
  have HPAT := Lib.hid hpat
  clear hR hco hpat
  by_cases hlim : n + 1 ≤ maxSteps
  · rw [if_pos hlim] at hR2
    have HR := Lib.hid hR2
    clear hR2
    have HV := Lib.hid hv
    clear hv h
    go_enter Tryd.func55, Tryd.ntmps55
    go_wp2_with fail
    refine HP2.out.mono ?_
    rintro e w1 ⟨rfl, h1, hF1⟩
    rw [decide_eq_false (show ¬ maxSteps < n + 1 by omega)]
    have m1 : w1.cell? ⟨E.nb, 1, none⟩ = some (.pointer (some ⟨E.mb, 0, none⟩)) := by rw [cell_of_heap h1.hm]; rfl
    have m4 : w1.cell? ⟨E.nb, 0, none⟩ = some (.string E.s) := by rw [cell_of_heap h1.hm]; rfl
    have p0 : w1.cell? ⟨E.mb, 0, none⟩ = some (.slice p E.items.length cap) := by rw [(HPAT.out w1 _ cs h1).1, HV.out]
    have H1 := Lib.hid h1
    have HF1 := Lib.hid hF1
    cases hfin : E.fin with
    | false =>
      have m3 : w1.cell? ⟨E.mb, 2, none⟩ = some (.bool false) := by rw [(HPAT.out w1 _ cs h1).2, hfin]
      have HG := Lib.hid (show R = some (if true then some i else none, (n + 1, cs)) from by rw [HR.out, hfin]; rfl)
      clear hfin h1 hF1
      go_wp2
      refine wp_region_lex mixed (by kernel_rfl) ?_
      go_wp2
      refine ⟨by kernel_rfl, ?_⟩
      go_wp2
      go_ret2
      exact rmatch_end HG.out HF1.out.drew hlim hi H1.out.drew
    | true =>
      have m3 : w1.cell? ⟨E.mb, 2, none⟩ = some (.bool true) := by rw [(HPAT.out w1 _ cs h1).2, hfin]
      by_cases hz : i = E.s.size
      · have tz : ((i : Int) == (E.s.size : Int)) = true := by simp [hz]
        have tz' : (i == E.s.size) = true := by simp [hz]
        have HG := Lib.hid (show R = some (if true then some i else none, (n + 1, cs)) from by rw [HR.out, hfin, tz']; rfl)
        clear hfin h1 hF1 hz
        go_wp2
        refine wp_region_lex mixed (by kernel_rfl) ?_
        go_wp2
        refine ⟨by kernel_rfl, ?_⟩
        go_wp2
        go_ret2
        exact rmatch_end HG.out HF1.out.drew hlim hi H1.out.drew
      · have tz : ((i : Int) == (E.s.size : Int)) = false := by rw [beq_eq_false_iff_ne]; omega
        have tz' : (i == E.s.size) = false := by rw [beq_eq_false_iff_ne]; exact hz
        have HG := Lib.hid (show R = some (if false then some i else none, (n + 1, cs)) from by rw [HR.out, hfin, tz']; rfl)
        clear hfin h1 hF1 hz
        go_wp2
        refine wp_region_lex mixed (by kernel_rfl) ?_
        go_wp2
        refine ⟨by kernel_rfl, ?_⟩
        go_wp2
        go_ret2
        exact rmatch_end HG.out HF1.out.drew hlim hi H1.out.drew
  · rw [if_neg hlim] at hR2
    have HR := Lib.hid hR2
    clear hR2 hv h
    go_enter Tryd.func55, Tryd.ntmps55
    go_wp2_with fail
    refine HP2.out.mono ?_
    rintro e w1 ⟨rfl, h1, hF1⟩
    rw [decide_eq_true (show maxSteps < n + 1 by omega)]
    have H1 := Lib.hid h1
    have HF1 := Lib.hid hF1
    clear h1 hF1
    go_wp2
    go_ret2
    exact rp_over HR.out HF1.out (by omega) (by omega) H1.out

set_option maxRecDepth 100000 in
set_option maxHeartbeats 4000000 in
theorem rmatch_open {E : MEnv} (ok : RMOK E) (hwf : WfItems E.K st0 E.items) {j : Nat} (hj : j < E.items.length) (hm : RMatchOK E (j + 1)) (hk : (itemAt E j).kind = 1) : RMatchOK E j := by
  intro w n cs a b i h hn hi hco ha hb
  subst ha hb
  obtain ⟨g, cap, hv, hg, hcell⟩ := ok.row hj
  obtain ⟨hpl, hpat⟩ := ok.pat
  have hl := ok.len
  have hsl := ok.sl
  have hkk := ok.kk
  have tj : ((j : Int) == (E.items.length : Int)) = false := by rw [beq_eq_false_iff_ne]; omega
  obtain ⟨R, hR⟩ : ∃ R, R = matchM (bytesOf E.s) E.fin (E.items.drop j) i (n, cs) := ⟨_, rfl⟩
  rw [← hR]
  obtain ⟨it, hit⟩ : ∃ it, it = itemAt E j := ⟨_, rfl⟩
  have hR2 : R = if n + 1 ≤ maxSteps then itemRun (bytesOf E.s) it (nextM E j) i (n + 1, cs) else none := by
    rw [hR, List.drop_eq_getElem_cons hj, ← itemAt_eq E j hj, hit]; rfl
  have hiw := item_wf hwf j hj
  have hst := st_next E j hj
  have HP2 := Lib.hid (rstep_c ok h hn)
  have HM := Lib.hid hm
  rw [← hit] at hiw hst hk
  have HC := Lib.hid hcell
  have HV := Lib.hid hv
  have HPAT := Lib.hid hpat
  have HK := Lib.hid hk
  clear hR hcell hv h hm hpat
  by_cases hlim : n + 1 ≤ maxSteps
  · rw [if_pos hlim] at hR2
    have hss : (itemAt E j).sets = false := by rw [← hit]; unfold Item.sets; rw [hk]; rfl
    have HVAL := Lib.hid (ok.noset hj hss)
    have HSS := Lib.hid hss
    clear hss
    obtain ⟨hnK, hst1⟩ := hiw.h1 hk
    have HR := Lib.hid (show R = keepM it.n ⟨i, 0, true⟩ (nextM E j i) (n + 1, cs) from by rw [hR2]; unfold itemRun; rw [if_pos hk])
    have HCO := Lib.hid (show CapW E (j + 1) i (cs.set it.n ⟨i, 0, true⟩) from by
      unfold CapW; rw [hst]
      exact hco.set (c := ⟨i, 0, true⟩) hnK (.inl hk) (fun _ => ⟨rfl, (show ((0 : Nat) : Int) ≤ (i : Int) by omega), Int.le_refl _⟩) (fun h => by omega) (fun h => by omega))
    have HIT := Lib.hid hit
    clear hR2 hit hk hco hst hiw
    go_enter Tryd.func55, Tryd.ntmps55
    go_wp2_with fail
    refine HP2.out.mono ?_
    rintro e w1 ⟨rfl, h1, hF1⟩
    rw [decide_eq_false (show ¬ maxSteps < n + 1 by omega)]
    have m1 : w1.cell? ⟨E.nb, 1, none⟩ = some (.pointer (some ⟨E.mb, 0, none⟩)) := by rw [cell_of_heap h1.hm]; rfl
    have p0 : w1.cell? ⟨E.mb, 0, none⟩ = some (.slice (some ⟨g, 0, none⟩) E.items.length cap) := by rw [(HPAT.out w1 _ cs h1).1, HV.out]
    have c0 : w1.cell? ⟨g, j * 6, none⟩ = some (.int .i64 2) := by have := HC.out w1 _ cs h1 0 (by omega); rw [HVAL.out, ← HIT.out] at this; rw [show (cellsR it (.slice none 0 0))[0]? = some (.int .i64 (refKind it.kind : Nat)) from rfl, HK.out] at this; exact this
    have c1 : w1.cell? ⟨g, j * 6 + 1, none⟩ = some (.slice none 0 0) := by have := HC.out w1 _ cs h1 1 (by omega); rw [HVAL.out, ← HIT.out] at this; exact this
    have c2 : w1.cell? ⟨g, j * 6 + 2, none⟩ = some (.int .u8 it.how) := by have := HC.out w1 _ cs h1 2 (by omega); rw [HVAL.out, ← HIT.out] at this; exact this
    have c3 : w1.cell? ⟨g, j * 6 + 3, none⟩ = some (.int .u8 it.x) := by have := HC.out w1 _ cs h1 3 (by omega); rw [HVAL.out, ← HIT.out] at this; exact this
    have c4 : w1.cell? ⟨g, j * 6 + 4, none⟩ = some (.int .u8 it.y) := by have := HC.out w1 _ cs h1 4 (by omega); rw [HVAL.out, ← HIT.out] at this; exact this
    have c5 : w1.cell? ⟨g, j * 6 + 5, none⟩ = some (.int .i64 it.n) := by have := HC.out w1 _ cs h1 5 (by omega); rw [HVAL.out, ← HIT.out] at this; exact this
    obtain ⟨hnb, hcb⟩ := h1.lts
    have hpl1 : E.mb < w1.heap.size := Nat.lt_of_lt_of_le hpl h1.below.size
    have hg1 : g < w1.heap.size := Nat.lt_of_lt_of_le hg h1.below.size
    have hbw : Below w1.heap.size w1 (w1.alloc (.cells #[.int .i64 2, (.slice none 0 0), .int .u8 it.how, .int .u8 it.x, .int .u8 it.y, .int .i64 it.n] 114)) := (Below.refl _ _).alloc (Nat.le_refl _) _
    have H2 := Lib.hid (h1.grow hbw)
    have HF2 := Lib.hid (hF1.trans (Fr.below hbw))
    clear h1 hF1 hbw
    go_wp2_with fail
    refine (with_c ok hj HM.out H2.out hlim _ _ i hi rfl rfl it.n hnK ⟨i, 0, true⟩ (-2) rfl HCO.out).mono ?_
    intro e w9 hpost
    obtain ⟨x, bb, rfl⟩ := hpost.shape
    have HPO := Lib.hid hpost
    clear hpost
    go_wp2
    go_ret2
    exact (by rw [HR.out]; exact HPO.out.after HF2.out)
  · rw [if_neg hlim] at hR2
    have HR := Lib.hid hR2
    clear hR2 hit hk hco hst hiw
    go_enter Tryd.func55, Tryd.ntmps55
    go_wp2_with fail
    refine HP2.out.mono ?_
    rintro e w1 ⟨rfl, h1, hF1⟩
    rw [decide_eq_true (show maxSteps < n + 1 by omega)]
    have H1 := Lib.hid h1
    have HF1 := Lib.hid hF1
    clear h1 hF1
    go_wp2
    go_ret2
    exact rp_over HR.out HF1.out (by omega) (by omega) H1.out

set_option maxRecDepth 100000 in
set_option maxHeartbeats 4000000 in
theorem rmatch_shut {E : MEnv} (ok : RMOK E) (hwf : WfItems E.K st0 E.items) {j : Nat} (hj : j < E.items.length) (hm : RMatchOK E (j + 1)) (hk : (itemAt E j).kind = 2) : RMatchOK E j := by
  intro w n cs a b i h hn hi hco ha hb
  subst ha hb
  obtain ⟨g, cap, hv, hg, hcell⟩ := ok.row hj
  obtain ⟨hpl, hpat⟩ := ok.pat
  have hl := ok.len
  have hsl := ok.sl
  have hkk := ok.kk
  have tj : ((j : Int) == (E.items.length : Int)) = false := by rw [beq_eq_false_iff_ne]; omega
  obtain ⟨R, hR⟩ : ∃ R, R = matchM (bytesOf E.s) E.fin (E.items.drop j) i (n, cs) := ⟨_, rfl⟩
  rw [← hR]
  obtain ⟨it, hit⟩ : ∃ it, it = itemAt E j := ⟨_, rfl⟩
  have hR2 : R = if n + 1 ≤ maxSteps then itemRun (bytesOf E.s) it (nextM E j) i (n + 1, cs) else none := by
    rw [hR, List.drop_eq_getElem_cons hj, ← itemAt_eq E j hj, hit]; rfl
  have hiw := item_wf hwf j hj
  have hst := st_next E j hj
  have HP2 := Lib.hid (rstep_c ok h hn)
  have HM := Lib.hid hm
  rw [← hit] at hiw hst hk
  have HC := Lib.hid hcell
  have HV := Lib.hid hv
  have HPAT := Lib.hid hpat
  have HK := Lib.hid hk
  clear hR hcell hv h hm hpat
  by_cases hlim : n + 1 ≤ maxSteps
  · rw [if_pos hlim] at hR2
    have hss : (itemAt E j).sets = false := by rw [← hit]; unfold Item.sets; rw [hk]; rfl
    have HVAL := Lib.hid (ok.noset hj hss)
    have HSS := Lib.hid hss
    clear hss
    obtain ⟨hnK, hst1⟩ := hiw.h2 hk
    obtain ⟨ho, hf0, hf1⟩ := hco.c1 _ hst1
    obtain ⟨f0, hf⟩ : ∃ f0, f0 = (cs.getD it.n zeroCap).f := ⟨_, rfl⟩
    have HR := Lib.hid (show R = keepM it.n ⟨f0, i, false⟩ (nextM E j i) (n + 1, cs) from by rw [hR2, hf]; unfold itemRun; rw [if_neg (by omega), if_pos hk])
    have HCO := Lib.hid (show CapW E (j + 1) i (cs.set it.n ⟨f0, i, false⟩) from by
      unfold CapW; rw [hst]
      exact hco.set (c := ⟨f0, i, false⟩) hnK (.inr (.inl hk)) (fun h => by omega) (fun _ => ⟨rfl, by rw [hf]; exact hf0, by rw [hf]; exact hf1, Int.le_refl _⟩) (fun h => by omega))
    have HF := Lib.hid hf
    clear hf hf0 hf1 ho
    have HIT := Lib.hid hit
    clear hR2 hit hk hco hst hiw
    go_enter Tryd.func55, Tryd.ntmps55
    go_wp2_with fail
    refine HP2.out.mono ?_
    rintro e w1 ⟨rfl, h1, hF1⟩
    rw [decide_eq_false (show ¬ maxSteps < n + 1 by omega)]
    have m1 : w1.cell? ⟨E.nb, 1, none⟩ = some (.pointer (some ⟨E.mb, 0, none⟩)) := by rw [cell_of_heap h1.hm]; rfl
    have p0 : w1.cell? ⟨E.mb, 0, none⟩ = some (.slice (some ⟨g, 0, none⟩) E.items.length cap) := by rw [(HPAT.out w1 _ cs h1).1, HV.out]
    have c0 : w1.cell? ⟨g, j * 6, none⟩ = some (.int .i64 3) := by have := HC.out w1 _ cs h1 0 (by omega); rw [HVAL.out, ← HIT.out] at this; rw [show (cellsR it (.slice none 0 0))[0]? = some (.int .i64 (refKind it.kind : Nat)) from rfl, HK.out] at this; exact this
    have c1 : w1.cell? ⟨g, j * 6 + 1, none⟩ = some (.slice none 0 0) := by have := HC.out w1 _ cs h1 1 (by omega); rw [HVAL.out, ← HIT.out] at this; exact this
    have c2 : w1.cell? ⟨g, j * 6 + 2, none⟩ = some (.int .u8 it.how) := by have := HC.out w1 _ cs h1 2 (by omega); rw [HVAL.out, ← HIT.out] at this; exact this
    have c3 : w1.cell? ⟨g, j * 6 + 3, none⟩ = some (.int .u8 it.x) := by have := HC.out w1 _ cs h1 3 (by omega); rw [HVAL.out, ← HIT.out] at this; exact this
    have c4 : w1.cell? ⟨g, j * 6 + 4, none⟩ = some (.int .u8 it.y) := by have := HC.out w1 _ cs h1 4 (by omega); rw [HVAL.out, ← HIT.out] at this; exact this
    have c5 : w1.cell? ⟨g, j * 6 + 5, none⟩ = some (.int .i64 it.n) := by have := HC.out w1 _ cs h1 5 (by omega); rw [HVAL.out, ← HIT.out] at this; exact this
    obtain ⟨hnb, hcb⟩ := h1.lts
    have hpl1 : E.mb < w1.heap.size := Nat.lt_of_lt_of_le hpl h1.below.size
    have m5 : w1.cell? ⟨E.nb, 2, none⟩ = some (.slice (some ⟨E.cb, 0, none⟩) E.K E.K) := by rw [cell_of_heap h1.hm]; rfl
    obtain ⟨p1, p2⟩ := h1.capf it.n hnK
    rw [← HF.out] at p1
    clear p2
    have hg1 : g < w1.heap.size := Nat.lt_of_lt_of_le hg h1.below.size
    have hbw : Below w1.heap.size w1 (w1.alloc (.cells #[.int .i64 3, (.slice none 0 0), .int .u8 it.how, .int .u8 it.x, .int .u8 it.y, .int .i64 it.n] 114)) := (Below.refl _ _).alloc (Nat.le_refl _) _
    have H2 := Lib.hid (h1.grow hbw)
    have HF2 := Lib.hid (hF1.trans (Fr.below hbw))
    clear h1 hF1 hbw
    go_wp2
    refine wp_region_lex mixed (by kernel_rfl) ?_
    go_wp2_with fail
    refine (with_c ok hj HM.out H2.out.drew hlim _ _ i hi rfl rfl it.n hnK ⟨f0, i, false⟩ i rfl HCO.out).mono ?_
    intro e w9 hpost
    obtain ⟨x, bb, rfl⟩ := hpost.shape
    have HPO := Lib.hid hpost
    clear hpost
    go_wp2
    refine ⟨by kernel_rfl, ?_⟩
    go_wp2
    go_ret2
    exact (by rw [HR.out]; exact HPO.out.after HF2.out.drew)
  · rw [if_neg hlim] at hR2
    have HR := Lib.hid hR2
    clear hR2 hit hk hco hst hiw
    go_enter Tryd.func55, Tryd.ntmps55
    go_wp2_with fail
    refine HP2.out.mono ?_
    rintro e w1 ⟨rfl, h1, hF1⟩
    rw [decide_eq_true (show maxSteps < n + 1 by omega)]
    have H1 := Lib.hid h1
    have HF1 := Lib.hid hF1
    clear h1 hF1
    go_wp2
    go_ret2
    exact rp_over HR.out HF1.out (by omega) (by omega) H1.out

set_option maxRecDepth 100000 in
set_option maxHeartbeats 4000000 in
theorem rmatch_place {E : MEnv} (ok : RMOK E) (hwf : WfItems E.K st0 E.items) {j : Nat} (hj : j < E.items.length) (hm : RMatchOK E (j + 1)) (hk : (itemAt E j).kind = 3) : RMatchOK E j := by
  intro w n cs a b i h hn hi hco ha hb
  subst ha hb
  obtain ⟨g, cap, hv, hg, hcell⟩ := ok.row hj
  obtain ⟨hpl, hpat⟩ := ok.pat
  have hl := ok.len
  have hsl := ok.sl
  have hkk := ok.kk
  have tj : ((j : Int) == (E.items.length : Int)) = false := by rw [beq_eq_false_iff_ne]; omega
  obtain ⟨R, hR⟩ : ∃ R, R = matchM (bytesOf E.s) E.fin (E.items.drop j) i (n, cs) := ⟨_, rfl⟩
  rw [← hR]
  obtain ⟨it, hit⟩ : ∃ it, it = itemAt E j := ⟨_, rfl⟩
  have hR2 : R = if n + 1 ≤ maxSteps then itemRun (bytesOf E.s) it (nextM E j) i (n + 1, cs) else none := by
    rw [hR, List.drop_eq_getElem_cons hj, ← itemAt_eq E j hj, hit]; rfl
  have hiw := item_wf hwf j hj
  have hst := st_next E j hj
  have HP2 := Lib.hid (rstep_c ok h hn)
  have HM := Lib.hid hm
  rw [← hit] at hiw hst hk
  have HC := Lib.hid hcell
  have HV := Lib.hid hv
  have HPAT := Lib.hid hpat
  have HK := Lib.hid hk
  clear hR hcell hv h hm hpat
  by_cases hlim : n + 1 ≤ maxSteps
  · rw [if_pos hlim] at hR2
    have hss : (itemAt E j).sets = false := by rw [← hit]; unfold Item.sets; rw [hk]; rfl
    have HVAL := Lib.hid (ok.noset hj hss)
    have HSS := Lib.hid hss
    clear hss
    obtain ⟨hnK, hst1⟩ := hiw.h3 hk
    have HR := Lib.hid (show R = keepM it.n ⟨i, -1, false⟩ (nextM E j i) (n + 1, cs) from by rw [hR2]; unfold itemRun; rw [if_neg (by omega), if_neg (by omega), if_pos hk])
    have HCO := Lib.hid (show CapW E (j + 1) i (cs.set it.n ⟨i, -1, false⟩) from by
      unfold CapW; rw [hst]
      exact hco.set (c := ⟨i, -1, false⟩) hnK (.inr (.inr hk)) (fun h => by omega) (fun h => by omega) (fun _ => ⟨rfl, (show ((0 : Nat) : Int) ≤ (i : Int) by omega), Int.le_refl _, rfl⟩))
    have HIT := Lib.hid hit
    clear hR2 hit hk hco hst hiw
    go_enter Tryd.func55, Tryd.ntmps55
    go_wp2_with fail
    refine HP2.out.mono ?_
    rintro e w1 ⟨rfl, h1, hF1⟩
    rw [decide_eq_false (show ¬ maxSteps < n + 1 by omega)]
    have m1 : w1.cell? ⟨E.nb, 1, none⟩ = some (.pointer (some ⟨E.mb, 0, none⟩)) := by rw [cell_of_heap h1.hm]; rfl
    have p0 : w1.cell? ⟨E.mb, 0, none⟩ = some (.slice (some ⟨g, 0, none⟩) E.items.length cap) := by rw [(HPAT.out w1 _ cs h1).1, HV.out]
    have c0 : w1.cell? ⟨g, j * 6, none⟩ = some (.int .i64 4) := by have := HC.out w1 _ cs h1 0 (by omega); rw [HVAL.out, ← HIT.out] at this; rw [show (cellsR it (.slice none 0 0))[0]? = some (.int .i64 (refKind it.kind : Nat)) from rfl, HK.out] at this; exact this
    have c1 : w1.cell? ⟨g, j * 6 + 1, none⟩ = some (.slice none 0 0) := by have := HC.out w1 _ cs h1 1 (by omega); rw [HVAL.out, ← HIT.out] at this; exact this
    have c2 : w1.cell? ⟨g, j * 6 + 2, none⟩ = some (.int .u8 it.how) := by have := HC.out w1 _ cs h1 2 (by omega); rw [HVAL.out, ← HIT.out] at this; exact this
    have c3 : w1.cell? ⟨g, j * 6 + 3, none⟩ = some (.int .u8 it.x) := by have := HC.out w1 _ cs h1 3 (by omega); rw [HVAL.out, ← HIT.out] at this; exact this
    have c4 : w1.cell? ⟨g, j * 6 + 4, none⟩ = some (.int .u8 it.y) := by have := HC.out w1 _ cs h1 4 (by omega); rw [HVAL.out, ← HIT.out] at this; exact this
    have c5 : w1.cell? ⟨g, j * 6 + 5, none⟩ = some (.int .i64 it.n) := by have := HC.out w1 _ cs h1 5 (by omega); rw [HVAL.out, ← HIT.out] at this; exact this
    obtain ⟨hnb, hcb⟩ := h1.lts
    have hpl1 : E.mb < w1.heap.size := Nat.lt_of_lt_of_le hpl h1.below.size
    have hg1 : g < w1.heap.size := Nat.lt_of_lt_of_le hg h1.below.size
    have hbw : Below w1.heap.size w1 (w1.alloc (.cells #[.int .i64 4, (.slice none 0 0), .int .u8 it.how, .int .u8 it.x, .int .u8 it.y, .int .i64 it.n] 114)) := (Below.refl _ _).alloc (Nat.le_refl _) _
    have H2 := Lib.hid (h1.grow hbw)
    have HF2 := Lib.hid (hF1.trans (Fr.below hbw))
    clear h1 hF1 hbw
    go_wp2_with fail
    refine (with_c ok hj HM.out H2.out hlim _ _ i hi rfl rfl it.n hnK ⟨i, -1, false⟩ (-1) rfl HCO.out).mono ?_
    intro e w9 hpost
    obtain ⟨x, bb, rfl⟩ := hpost.shape
    have HPO := Lib.hid hpost
    clear hpost
    go_wp2
    go_ret2
    exact (by rw [HR.out]; exact HPO.out.after HF2.out)
  · rw [if_neg hlim] at hR2
    have HR := Lib.hid hR2
    clear hR2 hit hk hco hst hiw
    go_enter Tryd.func55, Tryd.ntmps55
    go_wp2_with fail
    refine HP2.out.mono ?_
    rintro e w1 ⟨rfl, h1, hF1⟩
    rw [decide_eq_true (show maxSteps < n + 1 by omega)]
    have H1 := Lib.hid h1
    have HF1 := Lib.hid hF1
    clear h1 hF1
    go_wp2
    go_ret2
    exact rp_over HR.out HF1.out (by omega) (by omega) H1.out

set_option maxRecDepth 100000 in
set_option maxHeartbeats 4000000 in
theorem rmatch_bal {E : MEnv} (ok : RMOK E) (hwf : WfItems E.K st0 E.items) {j : Nat} (hj : j < E.items.length) (hm : RMatchOK E (j + 1)) (hk : (itemAt E j).kind = 4) : RMatchOK E j := by
  intro w n cs a b i h hn hi hco ha hb
  subst ha hb
  obtain ⟨g, cap, hv, hg, hcell⟩ := ok.row hj
  obtain ⟨hpl, hpat⟩ := ok.pat
  have hl := ok.len
  have hsl := ok.sl
  have hkk := ok.kk
  have tj : ((j : Int) == (E.items.length : Int)) = false := by rw [beq_eq_false_iff_ne]; omega
  obtain ⟨R, hR⟩ : ∃ R, R = matchM (bytesOf E.s) E.fin (E.items.drop j) i (n, cs) := ⟨_, rfl⟩
  rw [← hR]
  obtain ⟨it, hit⟩ : ∃ it, it = itemAt E j := ⟨_, rfl⟩
  have hR2 : R = if n + 1 ≤ maxSteps then itemRun (bytesOf E.s) it (nextM E j) i (n + 1, cs) else none := by
    rw [hR, List.drop_eq_getElem_cons hj, ← itemAt_eq E j hj, hit]; rfl
  have hiw := item_wf hwf j hj
  have hst := st_next E j hj
  have HP2 := Lib.hid (rstep_c ok h hn)
  have HM := Lib.hid hm
  rw [← hit] at hiw hst hk
  have HC := Lib.hid hcell
  have HV := Lib.hid hv
  have HPAT := Lib.hid hpat
  have HK := Lib.hid hk
  clear hR hcell hv h hm hpat
  by_cases hlim : n + 1 ≤ maxSteps
  · rw [if_pos hlim] at hR2
    have hss : (itemAt E j).sets = false := by rw [← hit]; unfold Item.sets; rw [hk]; rfl
    have HVAL := Lib.hid (ok.noset hj hss)
    have HSS := Lib.hid hss
    clear hss
    have HCO := Lib.hid (show CapW E (j + 1) i cs from by unfold CapW; rw [hst]; exact hco.other (by omega))
    have HR := Lib.hid (show R = match (bytesOf E.s).drop i with | c :: r => if c = (itemAt E j).x then balM (itemAt E j).x (itemAt E j).y (nextM E j) r (i + 1) 1 (n + 1, cs) else some (none, (n + 1, cs)) | [] => some (none, (n + 1, cs)) from by rw [hR2]; unfold itemRun; rw [if_neg (by omega), if_neg (by omega), if_neg (by omega), if_pos hk, hit]; cases (bytesOf E.s).drop i <;> rfl)
    have HIT := Lib.hid hit
    clear hR2 hit hk hco hst hiw
    go_enter Tryd.func55, Tryd.ntmps55
    go_wp2_with fail
    refine HP2.out.mono ?_
    rintro e w1 ⟨rfl, h1, hF1⟩
    rw [decide_eq_false (show ¬ maxSteps < n + 1 by omega)]
    have m1 : w1.cell? ⟨E.nb, 1, none⟩ = some (.pointer (some ⟨E.mb, 0, none⟩)) := by rw [cell_of_heap h1.hm]; rfl
    have p0 : w1.cell? ⟨E.mb, 0, none⟩ = some (.slice (some ⟨g, 0, none⟩) E.items.length cap) := by rw [(HPAT.out w1 _ cs h1).1, HV.out]
    have c0 : w1.cell? ⟨g, j * 6, none⟩ = some (.int .i64 5) := by have := HC.out w1 _ cs h1 0 (by omega); rw [HVAL.out, ← HIT.out] at this; rw [show (cellsR it (.slice none 0 0))[0]? = some (.int .i64 (refKind it.kind : Nat)) from rfl, HK.out] at this; exact this
    have c1 : w1.cell? ⟨g, j * 6 + 1, none⟩ = some (.slice none 0 0) := by have := HC.out w1 _ cs h1 1 (by omega); rw [HVAL.out, ← HIT.out] at this; exact this
    have c2 : w1.cell? ⟨g, j * 6 + 2, none⟩ = some (.int .u8 it.how) := by have := HC.out w1 _ cs h1 2 (by omega); rw [HVAL.out, ← HIT.out] at this; exact this
    have c3 : w1.cell? ⟨g, j * 6 + 3, none⟩ = some (.int .u8 it.x) := by have := HC.out w1 _ cs h1 3 (by omega); rw [HVAL.out, ← HIT.out] at this; exact this
    have c4 : w1.cell? ⟨g, j * 6 + 4, none⟩ = some (.int .u8 it.y) := by have := HC.out w1 _ cs h1 4 (by omega); rw [HVAL.out, ← HIT.out] at this; exact this
    have c5 : w1.cell? ⟨g, j * 6 + 5, none⟩ = some (.int .i64 it.n) := by have := HC.out w1 _ cs h1 5 (by omega); rw [HVAL.out, ← HIT.out] at this; exact this
    obtain ⟨hnb, hcb⟩ := h1.lts
    have hpl1 : E.mb < w1.heap.size := Nat.lt_of_lt_of_le hpl h1.below.size
    have hg1 : g < w1.heap.size := Nat.lt_of_lt_of_le hg h1.below.size
    have hbw : Below w1.heap.size w1 (w1.alloc (.cells #[.int .i64 5, (.slice none 0 0), .int .u8 it.how, .int .u8 it.x, .int .u8 it.y, .int .i64 it.n] 114)) := (Below.refl _ _).alloc (Nat.le_refl _) _
    have H2 := Lib.hid (h1.grow hbw)
    have HF2 := Lib.hid (hF1.trans (Fr.below hbw))
    clear h1 hF1 hbw
    go_wp2_with fail
    refine (balanced_c ok hj HM.out H2.out hlim _ _ i hi rfl rfl HCO.out R HR.out it HIT.out _ _ _ _).mono ?_
    intro e w9 hpost
    obtain ⟨x, bb, rfl⟩ := hpost.shape
    have HPO := Lib.hid hpost
    clear hpost
    go_wp2
    go_ret2
    exact HPO.out.after HF2.out
  · rw [if_neg hlim] at hR2
    have HR := Lib.hid hR2
    clear hR2 hit hk hco hst hiw
    go_enter Tryd.func55, Tryd.ntmps55
    go_wp2_with fail
    refine HP2.out.mono ?_
    rintro e w1 ⟨rfl, h1, hF1⟩
    rw [decide_eq_true (show maxSteps < n + 1 by omega)]
    have H1 := Lib.hid h1
    have HF1 := Lib.hid hF1
    clear h1 hF1
    go_wp2
    go_ret2
    exact rp_over HR.out HF1.out (by omega) (by omega) H1.out

set_option maxRecDepth 100000 in
set_option maxHeartbeats 4000000 in
theorem rmatch_front {E : MEnv} (ok : RMOK E) (hwf : WfItems E.K st0 E.items) {j : Nat} (hj : j < E.items.length) (hm : RMatchOK E (j + 1)) (hk : (itemAt E j).kind = 5) : RMatchOK E j := by
  intro w n cs a b i h hn hi hco ha hb
  subst ha hb
  obtain ⟨g, cap, hv, hg, hcell⟩ := ok.row hj
  obtain ⟨hpl, hpat⟩ := ok.pat
  have hl := ok.len
  have hsl := ok.sl
  have hkk := ok.kk
  have tj : ((j : Int) == (E.items.length : Int)) = false := by rw [beq_eq_false_iff_ne]; omega
  obtain ⟨R, hR⟩ : ∃ R, R = matchM (bytesOf E.s) E.fin (E.items.drop j) i (n, cs) := ⟨_, rfl⟩
  rw [← hR]
  obtain ⟨it, hit⟩ : ∃ it, it = itemAt E j := ⟨_, rfl⟩
  have hR2 : R = if n + 1 ≤ maxSteps then itemRun (bytesOf E.s) it (nextM E j) i (n + 1, cs) else none := by
    rw [hR, List.drop_eq_getElem_cons hj, ← itemAt_eq E j hj, hit]; rfl
  have hiw := item_wf hwf j hj
  have hst := st_next E j hj
  have HP2 := Lib.hid (rstep_c ok h hn)
  have HM := Lib.hid hm
  rw [← hit] at hiw hst hk
  have HC := Lib.hid hcell
  have HV := Lib.hid hv
  have HPAT := Lib.hid hpat
  have HK := Lib.hid hk
  clear hR hcell hv h hm hpat
  by_cases hlim : n + 1 ≤ maxSteps
  · rw [if_pos hlim] at hR2
    have hss : (itemAt E j).sets = true := by rw [← hit]; unfold Item.sets; rw [hk]; rfl
    obtain ⟨sb, hval, hset⟩ := ok.set hj hss
    have HVAL := Lib.hid hval
    have HSS := Lib.hid hss
    have HSET := Lib.hid hset
    clear hval hss hset
    have HCO := Lib.hid (show CapW E (j + 1) i cs from by unfold CapW; rw [hst]; exact hco.other (by omega))
    have HR := Lib.hid (show R = if frontM (bytesOf E.s) (itemAt E j).one i then nextM E j i (n + 1, cs) else some (none, (n + 1, cs)) from by rw [hR2]; unfold itemRun; rw [if_neg (by omega), if_neg (by omega), if_neg (by omega), if_neg (by omega), if_pos hk, hit])
    have HIT := Lib.hid hit
    clear hR2 hit hk hco hst hiw
    go_enter Tryd.func55, Tryd.ntmps55
    go_wp2_with fail
    refine HP2.out.mono ?_
    rintro e w1 ⟨rfl, h1, hF1⟩
    rw [decide_eq_false (show ¬ maxSteps < n + 1 by omega)]
    have m1 : w1.cell? ⟨E.nb, 1, none⟩ = some (.pointer (some ⟨E.mb, 0, none⟩)) := by rw [cell_of_heap h1.hm]; rfl
    have p0 : w1.cell? ⟨E.mb, 0, none⟩ = some (.slice (some ⟨g, 0, none⟩) E.items.length cap) := by rw [(HPAT.out w1 _ cs h1).1, HV.out]
    have c0 : w1.cell? ⟨g, j * 6, none⟩ = some (.int .i64 6) := by have := HC.out w1 _ cs h1 0 (by omega); rw [HVAL.out, ← HIT.out] at this; rw [show (cellsR it (.slice (some ⟨sb, 0, none⟩) 256 256))[0]? = some (.int .i64 (refKind it.kind : Nat)) from rfl, HK.out] at this; exact this
    have c1 : w1.cell? ⟨g, j * 6 + 1, none⟩ = some (.slice (some ⟨sb, 0, none⟩) 256 256) := by have := HC.out w1 _ cs h1 1 (by omega); rw [HVAL.out, ← HIT.out] at this; exact this
    have c2 : w1.cell? ⟨g, j * 6 + 2, none⟩ = some (.int .u8 it.how) := by have := HC.out w1 _ cs h1 2 (by omega); rw [HVAL.out, ← HIT.out] at this; exact this
    have c3 : w1.cell? ⟨g, j * 6 + 3, none⟩ = some (.int .u8 it.x) := by have := HC.out w1 _ cs h1 3 (by omega); rw [HVAL.out, ← HIT.out] at this; exact this
    have c4 : w1.cell? ⟨g, j * 6 + 4, none⟩ = some (.int .u8 it.y) := by have := HC.out w1 _ cs h1 4 (by omega); rw [HVAL.out, ← HIT.out] at this; exact this
    have c5 : w1.cell? ⟨g, j * 6 + 5, none⟩ = some (.int .i64 it.n) := by have := HC.out w1 _ cs h1 5 (by omega); rw [HVAL.out, ← HIT.out] at this; exact this
    obtain ⟨hnb, hcb⟩ := h1.lts
    have hpl1 : E.mb < w1.heap.size := Nat.lt_of_lt_of_le hpl h1.below.size
    have hg1 : g < w1.heap.size := Nat.lt_of_lt_of_le hg h1.below.size
    have hbw : Below w1.heap.size w1 (w1.alloc (.cells #[.int .i64 6, (.slice (some ⟨sb, 0, none⟩) 256 256), .int .u8 it.how, .int .u8 it.x, .int .u8 it.y, .int .i64 it.n] 114)) := (Below.refl _ _).alloc (Nat.le_refl _) _
    have H2 := Lib.hid (h1.grow hbw)
    have HF2 := Lib.hid (hF1.trans (Fr.below hbw))
    clear h1 hF1 hbw
    have HPL := Lib.hid (rplace_c ok H2.out sb _ (HSET.out _ H2.out.below) (i : Int) i rfl hi)
    cases hfr : frontM (bytesOf E.s) (itemAt E j).one i with
    | true =>
      rw [hfr] at HPL
      have HQ := Lib.hid (show R = nextM E j i (n + 1, cs) from by rw [HR.out, hfr]; rfl)
      clear hfr
      go_wp2_with (go_at_call 77; refine HPL.out.mono ?_; rintro e w' ⟨rfl, rfl⟩)
      refine (HM.out _ (n + 1) cs _ _ i H2.out hlim hi HCO.out (by omega) rfl).mono ?_
      intro e w9 hpost
      obtain ⟨x, bb, rfl⟩ := hpost.shape
      have HPO := Lib.hid hpost
      clear hpost
      go_wp2
      go_ret2
      exact (by rw [HQ.out]; exact HPO.out.after HF2.out)
    | false =>
      rw [hfr] at HPL
      have HQ := Lib.hid (show R = some (none, (n + 1, cs)) from by rw [HR.out, hfr]; rfl)
      clear hfr
      go_wp2_with (go_at_call 77; refine HPL.out.mono ?_; rintro e w' ⟨rfl, rfl⟩)
      go_ret2
      exact rp_no HQ.out HF2.out hlim H2.out
  · rw [if_neg hlim] at hR2
    have HR := Lib.hid hR2
    clear hR2 hit hk hco hst hiw
    go_enter Tryd.func55, Tryd.ntmps55
    go_wp2_with fail
    refine HP2.out.mono ?_
    rintro e w1 ⟨rfl, h1, hF1⟩
    rw [decide_eq_true (show maxSteps < n + 1 by omega)]
    have H1 := Lib.hid h1
    have HF1 := Lib.hid hF1
    clear h1 hF1
    go_wp2
    go_ret2
    exact rp_over HR.out HF1.out (by omega) (by omega) H1.out
end Go.Proofs.YtpbhncmaamedhaaDoor

namespace Go.Proofs.YtpbhncmaamedhaaDoor
open Go.RowKit Go.Proofs.Lexi

/-! match over the limit: it counts no more. -/
set_option maxRecDepth 100000 in
set_option maxHeartbeats 1000000 in
theorem rstep_over {E : MEnv} {w : World} {n : Nat} {cs : List ACap} (h : RMSt E w n cs) (hn : maxSteps < n) : Calls Tryd.prog 74 #[.pointer (some ⟨E.nb, 0, none⟩)] w fun e w' => e = .returned (.bool true) ∧ w = w' := by
  have h1 : w.cell? ⟨E.nb, 3, none⟩ = some (.int .i64 n) := by rw [cell_of_heap h.hm]; rfl
  have tn : ¬ (n : Int) ≤ 100000 := by unfold maxSteps at hn; omega
  have tn2 : (100000 : Int) < (n : Int) := by omega
  clear h
  go_enter Tryd.func74, Tryd.ntmps74
  go_wp2
  go_ret
  exact ⟨ret_bool (by first | rfl | (simp; done) | (simp; omega)), rfl⟩
set_option maxRecDepth 100000 in
set_option maxHeartbeats 1000000 in
theorem rover_c {E : MEnv} {w : World} {n : Nat} {cs : List ACap} (h : RMSt E w n cs) (hn : maxSteps < n) (_hn2 : n ≤ maxSteps + 1) (j i : Nat) (a b : Int) (ha : a = j) (hb : b = i) : Calls Tryd.prog 55 #[.pointer (some ⟨E.nb, 0, none⟩), .int .i64 a, .int .i64 b] w fun e w' => e = .returned (.tuple #[.int .i64 0, .bool false]) ∧ w = w' := by
  subst ha hb
  have HS := Lib.hid (rstep_over h hn)
  clear h
  go_enter Tryd.func55, Tryd.ntmps55
  go_wp2_with (go_at_call 74; refine HS.out.mono ?_; rintro e w' ⟨rfl, rfl⟩)
  go_ret2
  exact ⟨rfl, rfl⟩

set_option maxRecDepth 100000 in
set_option maxHeartbeats 4000000 in
theorem rmatch_single {E : MEnv} (ok : RMOK E) (hwf : WfItems E.K st0 E.items) {j : Nat} (hj : j < E.items.length) (hm : RMatchOK E (j + 1)) (hk : (itemAt E j).kind = 7) : RMatchOK E j := by
  intro w n cs a b i h hn hi hco ha hb
  subst ha hb
  obtain ⟨g, cap, hv, hg, hcell⟩ := ok.row hj
  obtain ⟨hpl, hpat⟩ := ok.pat
  have hl := ok.len
  have hsl := ok.sl
  have hkk := ok.kk
  have tj : ((j : Int) == (E.items.length : Int)) = false := by rw [beq_eq_false_iff_ne]; omega
  obtain ⟨R, hR⟩ : ∃ R, R = matchM (bytesOf E.s) E.fin (E.items.drop j) i (n, cs) := ⟨_, rfl⟩
  rw [← hR]
  obtain ⟨it, hit⟩ : ∃ it, it = itemAt E j := ⟨_, rfl⟩
  have hR2 : R = if n + 1 ≤ maxSteps then itemRun (bytesOf E.s) it (nextM E j) i (n + 1, cs) else none := by
    rw [hR, List.drop_eq_getElem_cons hj, ← itemAt_eq E j hj, hit]; rfl
  have hiw := item_wf hwf j hj
  have hst := st_next E j hj
  have HP2 := Lib.hid (rstep_c ok h hn)
  have HM := Lib.hid hm
  rw [← hit] at hiw hst hk
  have HC := Lib.hid hcell
  have HV := Lib.hid hv
  have HPAT := Lib.hid hpat
  have HK := Lib.hid hk
  clear hR hcell hv h hm hpat
  by_cases hlim : n + 1 ≤ maxSteps
  · rw [if_pos hlim] at hR2
    have hss : (itemAt E j).sets = true := by rw [← hit]; unfold Item.sets; rw [hk]; rfl
    obtain ⟨sb, hval, hset⟩ := ok.set hj hss
    have HVAL := Lib.hid hval
    have HSS := Lib.hid hss
    have HSET := Lib.hid hset
    clear hval hss hset
    have HCO := Lib.hid (show CapW E (j + 1) i cs from by unfold CapW; rw [hst]; exact hco.other (by omega))
    have HR := Lib.hid (show R = singleRun (bytesOf E.s) (itemAt E j).one (itemAt E j).how (nextM E j) i (n + 1, cs) from by rw [hR2]; unfold itemRun; rw [if_neg (by omega), if_neg (by omega), if_neg (by omega), if_neg (by omega), if_neg (by omega), if_neg (by omega), hit])
    have HIT := Lib.hid hit
    clear hR2 hit hk hco hst hiw
    go_enter Tryd.func55, Tryd.ntmps55
    go_wp2_with fail
    refine HP2.out.mono ?_
    rintro e w1 ⟨rfl, h1, hF1⟩
    rw [decide_eq_false (show ¬ maxSteps < n + 1 by omega)]
    have m1 : w1.cell? ⟨E.nb, 1, none⟩ = some (.pointer (some ⟨E.mb, 0, none⟩)) := by rw [cell_of_heap h1.hm]; rfl
    have p0 : w1.cell? ⟨E.mb, 0, none⟩ = some (.slice (some ⟨g, 0, none⟩) E.items.length cap) := by rw [(HPAT.out w1 _ cs h1).1, HV.out]
    have c0 : w1.cell? ⟨g, j * 6, none⟩ = some (.int .i64 1) := by have := HC.out w1 _ cs h1 0 (by omega); rw [HVAL.out, ← HIT.out] at this; rw [show (cellsR it (.slice (some ⟨sb, 0, none⟩) 256 256))[0]? = some (.int .i64 (refKind it.kind : Nat)) from rfl, HK.out] at this; exact this
    have c1 : w1.cell? ⟨g, j * 6 + 1, none⟩ = some (.slice (some ⟨sb, 0, none⟩) 256 256) := by have := HC.out w1 _ cs h1 1 (by omega); rw [HVAL.out, ← HIT.out] at this; exact this
    have c2 : w1.cell? ⟨g, j * 6 + 2, none⟩ = some (.int .u8 it.how) := by have := HC.out w1 _ cs h1 2 (by omega); rw [HVAL.out, ← HIT.out] at this; exact this
    have c3 : w1.cell? ⟨g, j * 6 + 3, none⟩ = some (.int .u8 it.x) := by have := HC.out w1 _ cs h1 3 (by omega); rw [HVAL.out, ← HIT.out] at this; exact this
    have c4 : w1.cell? ⟨g, j * 6 + 4, none⟩ = some (.int .u8 it.y) := by have := HC.out w1 _ cs h1 4 (by omega); rw [HVAL.out, ← HIT.out] at this; exact this
    have c5 : w1.cell? ⟨g, j * 6 + 5, none⟩ = some (.int .i64 it.n) := by have := HC.out w1 _ cs h1 5 (by omega); rw [HVAL.out, ← HIT.out] at this; exact this
    obtain ⟨hnb, hcb⟩ := h1.lts
    have hpl1 : E.mb < w1.heap.size := Nat.lt_of_lt_of_le hpl h1.below.size
    have hg1 : g < w1.heap.size := Nat.lt_of_lt_of_le hg h1.below.size
    have hbw : Below w1.heap.size w1 (w1.alloc (.cells #[.int .i64 1, (.slice (some ⟨sb, 0, none⟩) 256 256), .int .u8 it.how, .int .u8 it.x, .int .u8 it.y, .int .i64 it.n] 114)) := (Below.refl _ _).alloc (Nat.le_refl _) _
    have H2 := Lib.hid (h1.grow hbw)
    have HF2 := Lib.hid (hF1.trans (Fr.below hbw))
    clear h1 hF1 hbw
    have HB := Lib.hid (rin_c ok H2.out sb _ (HSET.out _ H2.out.below) (i : Int) i rfl)
    obtain ⟨hw, hhw⟩ : ∃ hw, hw = it.how := ⟨_, rfl⟩
    rw [← HIT.out, ← hhw] at HR
    rw [← hhw] at c2 H2 HF2 HB
    have HHW := Lib.hid hhw
    have hR := HR.out
    rw [HIT.out] at hR
    clear hhw
    by_cases e42 : hw = 42
    · have HRR := Lib.hid (show R = manyM (bytesOf E.s) (itemAt E j).one (nextM E j) i 0 (n + 1, cs) from by rw [hR]; unfold singleRun; rw [if_pos e42])
      have t42 : ((hw : Int) == 42) = true := by rw [e42]; rfl
      have HCS := Lib.hid e42
      clear hR e42
      go_wp2_with fail
      refine (rmany_c ok hwf hj HM.out H2.out hlim _ _ i 0 hi rfl rfl hw (.inl ⟨HCS.out, rfl⟩) HCO.out R HRR.out sb HSET.out _ _ _ _).mono ?_
      intro e w9 hpost
      obtain ⟨x, bb, rfl⟩ := hpost.shape
      have HPO := Lib.hid hpost
      clear hpost
      go_wp2
      go_ret2
      exact HPO.out.after HF2.out
    · have t42 : ((hw : Int) == 42) = false := by rw [beq_eq_false_iff_ne]; omega
      by_cases e43 : hw = 43
      · have HRR := Lib.hid (show R = manyM (bytesOf E.s) (itemAt E j).one (nextM E j) i 1 (n + 1, cs) from by rw [hR]; unfold singleRun; rw [if_neg e42, if_pos e43])
        have t43 : ((hw : Int) == 43) = true := by rw [e43]; rfl
        have HCS := Lib.hid e43
        clear hR e42 e43
        go_wp2_with fail
        refine (rmany_c ok hwf hj HM.out H2.out hlim _ _ i 1 hi rfl rfl hw (.inr ⟨HCS.out, rfl⟩) HCO.out R HRR.out sb HSET.out _ _ _ _).mono ?_
        intro e w9 hpost
        obtain ⟨x, bb, rfl⟩ := hpost.shape
        have HPO := Lib.hid hpost
        clear hpost
        go_wp2
        go_ret2
        exact HPO.out.after HF2.out
      · have t43 : ((hw : Int) == 43) = false := by rw [beq_eq_false_iff_ne]; omega
        by_cases e45 : hw = 45
        · have HRR := Lib.hid (show R = fewM (itemAt E j).one (nextM E j) ((bytesOf E.s).drop i) i (n + 1, cs) from by rw [hR]; unfold singleRun; rw [if_neg e42, if_neg e43, if_pos e45])
          have t45 : ((hw : Int) == 45) = true := by rw [e45]; rfl
          clear hR e42 e43 e45
          go_wp2_with fail
          refine (rfew_c ok hwf hj HM.out H2.out hlim _ _ i hi rfl rfl HCO.out R HRR.out sb HSET.out _ _ _ _ _).mono ?_
          intro e w9 hpost
          obtain ⟨x, bb, rfl⟩ := hpost.shape
          have HPO := Lib.hid hpost
          clear hpost
          go_wp2
          go_ret2
          exact HPO.out.after HF2.out
        · have t45 : ((hw : Int) == 45) = false := by rw [beq_eq_false_iff_ne]; omega
          by_cases e63 : hw = 63
          · have HRR := Lib.hid (show R = optM (bytesOf E.s) (itemAt E j).one (nextM E j) i (n + 1, cs) from by rw [hR]; unfold singleRun; rw [if_neg e42, if_neg e43, if_neg e45, if_pos e63])
            have t63 : ((hw : Int) == 63) = true := by rw [e63]; rfl
            clear hR e42 e43 e45 e63
            cases hbl : belongsM (bytesOf E.s) (itemAt E j).one i with
            | true =>
              rw [hbl] at HB
              have hlt : i < E.s.size := by have := belongsM_lt hbl; rw [bytesOf_length] at this; exact this
              have HBL := Lib.hid hbl
              clear hbl
              go_wp2_with (go_at_call 80; refine HB.out.mono ?_; rintro e w' ⟨rfl, rfl⟩)
              refine (HM.out _ (n + 1) cs _ _ (i + 1) H2.out hlim (by omega) (HCO.out.mono (by omega)) (by omega) (by omega)).mono ?_
              rintro e w3 ⟨hF3, hp⟩
              have HF3 := Lib.hid (HF2.out.trans hF3)
              clear hF3
              cases hr : nextM E j (i + 1) (n + 1, cs) with
              | none =>
                rw [show matchM (bytesOf E.s) E.fin (E.items.drop (j + 1)) (i + 1) (n + 1, cs) = none from hr] at hp
                obtain ⟨x, n', cs', rfl, hn3, hn4, h2⟩ := hp
                have HG := Lib.hid (show R = none from by rw [HRR.out]; unfold optM; rw [HBL.out, hr]; rfl)
                have HOV := Lib.hid (rover_c h2 hn3 hn4 (j + 1) i)
                have H3 := Lib.hid h2
                clear hr h2
                go_wp2_with fail
                refine (HOV.out _ _ (by omega) rfl).mono ?_
                rintro e w9 ⟨rfl, rfl⟩
                go_wp2
                go_ret2
                exact rp_over HG.out HF3.out hn3 hn4 H3.out
              | some qq =>
                obtain ⟨o, n', cs'⟩ := qq
                rw [show matchM (bytesOf E.s) E.fin (E.items.drop (j + 1)) (i + 1) (n + 1, cs) = some (o, (n', cs')) from hr] at hp
                cases o with
                | some e =>
                  obtain ⟨rfl, hn3, hk2, h2⟩ := hp
                  have HG := Lib.hid (show R = some (some e, (n', cs')) from by rw [HRR.out]; unfold optM; rw [HBL.out, hr]; rfl)
                  have H3 := Lib.hid h2
                  clear hr h2
                  go_wp2
                  go_ret2
                  exact rp_yes HG.out HF3.out hn3 hk2 H3.out
                | none =>
                  obtain ⟨x, rfl, hn3, h2⟩ := hp
                  have hcs := next_same hwf (by omega) (HCO.out.mono (by omega)) hr
                  subst hcs
                  have HG := Lib.hid (show R = nextM E j i (n', cs) from by rw [HRR.out]; unfold optM; rw [HBL.out, hr]; rfl)
                  have H3 := Lib.hid h2
                  clear hr h2
                  go_wp2_with fail
                  refine (HM.out _ n' cs _ _ i H3.out hn3 hi HCO.out (by omega) rfl).mono ?_
                  intro e w9 hpost
                  obtain ⟨x, bb, rfl⟩ := hpost.shape
                  have HPO := Lib.hid hpost
                  clear hpost
                  go_wp2
                  go_ret2
                  exact (by rw [HG.out]; exact HPO.out.after HF3.out)
            | false =>
              rw [hbl] at HB
              have HG := Lib.hid (show R = nextM E j i (n + 1, cs) from by rw [HRR.out]; unfold optM; rw [hbl]; rfl)
              clear hbl
              go_wp2_with (go_at_call 80; refine HB.out.mono ?_; rintro e w' ⟨rfl, rfl⟩)
              refine (HM.out _ (n + 1) cs _ _ i H2.out hlim hi HCO.out (by omega) rfl).mono ?_
              intro e w9 hpost
              obtain ⟨x, bb, rfl⟩ := hpost.shape
              have HPO := Lib.hid hpost
              clear hpost
              go_wp2
              go_ret2
              exact (by rw [HG.out]; exact HPO.out.after HF2.out)
          · have t63 : ((hw : Int) == 63) = false := by rw [beq_eq_false_iff_ne]; omega
            have HRR := Lib.hid (show R = if belongsM (bytesOf E.s) (itemAt E j).one i then nextM E j (i + 1) (n + 1, cs) else some (none, (n + 1, cs)) from by rw [hR]; unfold singleRun; rw [if_neg e42, if_neg e43, if_neg e45, if_neg e63])
            clear hR e42 e43 e45 e63
            cases hbl : belongsM (bytesOf E.s) (itemAt E j).one i with
            | true =>
              rw [hbl] at HB
              have hlt : i < E.s.size := by have := belongsM_lt hbl; rw [bytesOf_length] at this; exact this
              have HG := Lib.hid (show R = nextM E j (i + 1) (n + 1, cs) from by rw [HRR.out, hbl]; rfl)
              clear hbl
              go_wp2_with (go_at_call 80; refine HB.out.mono ?_; rintro e w' ⟨rfl, rfl⟩)
              refine (HM.out _ (n + 1) cs _ _ (i + 1) H2.out hlim (by omega) (HCO.out.mono (by omega)) (by omega) (by omega)).mono ?_
              intro e w9 hpost
              obtain ⟨x, bb, rfl⟩ := hpost.shape
              have HPO := Lib.hid hpost
              clear hpost
              go_wp2
              go_ret2
              exact (by rw [HG.out]; exact HPO.out.after HF2.out)
            | false =>
              rw [hbl] at HB
              have HG := Lib.hid (show R = some (none, (n + 1, cs)) from by rw [HRR.out, hbl]; rfl)
              clear hbl
              go_wp2_with (go_at_call 80; refine HB.out.mono ?_; rintro e w' ⟨rfl, rfl⟩)
              go_ret2
              exact rp_no HG.out HF2.out hlim H2.out
  · rw [if_neg hlim] at hR2
    have HR := Lib.hid hR2
    clear hR2 hit hk hco hst hiw
    go_enter Tryd.func55, Tryd.ntmps55
    go_wp2_with fail
    refine HP2.out.mono ?_
    rintro e w1 ⟨rfl, h1, hF1⟩
    rw [decide_eq_true (show maxSteps < n + 1 by omega)]
    have H1 := Lib.hid h1
    have HF1 := Lib.hid hF1
    clear h1 hF1
    go_wp2
    go_ret2
    exact rp_over HR.out HF1.out (by omega) (by omega) H1.out
end Go.Proofs.YtpbhncmaamedhaaDoor

namespace Go.Proofs.YtpbhncmaamedhaaDoor
open Go.RowKit Go.Proofs.Lexi

theorem str_eq_at (s t : ByteArray) (i : Nat) (_h : i + s.size ≤ t.size) : ((t.extract i (i + s.size)).toList == s.toList) = (bytesOf s).isPrefixOf ((bytesOf t).drop i) := by
  rw [Lib.toList_data, Lib.toList_data]
  have h1 : (bytesOf s).isPrefixOf ((bytesOf t).drop i) = decide (bytesOf (t.extract i (i + s.size)) = bytesOf s) := by
    rw [bytesOf_extract, show i + s.size - i = s.size by omega, Bool.eq_iff_iff, List.isPrefixOf_iff_prefix, List.prefix_iff_eq_take, bytesOf_length, decide_eq_true_eq]
    exact eq_comm
  rw [h1, Bool.eq_iff_iff, beq_iff_eq, decide_eq_true_eq]
  constructor
  · intro h; unfold bytesOf; rw [h]
  · intro h; rw [bytesOf_inj h]

set_option maxRecDepth 100000 in
set_option maxHeartbeats 4000000 in
theorem rmatch_back {E : MEnv} (ok : RMOK E) (hwf : WfItems E.K st0 E.items) {j : Nat} (hj : j < E.items.length) (hm : RMatchOK E (j + 1)) (hk : (itemAt E j).kind = 6) : RMatchOK E j := by
  intro w n cs a b i h hn hi hco ha hb
  subst ha hb
  obtain ⟨g, cap, hv, hg, hcell⟩ := ok.row hj
  obtain ⟨hpl, hpat⟩ := ok.pat
  have hl := ok.len
  have hsl := ok.sl
  have hkk := ok.kk
  have tj : ((j : Int) == (E.items.length : Int)) = false := by rw [beq_eq_false_iff_ne]; omega
  obtain ⟨R, hR⟩ : ∃ R, R = matchM (bytesOf E.s) E.fin (E.items.drop j) i (n, cs) := ⟨_, rfl⟩
  rw [← hR]
  obtain ⟨it, hit⟩ : ∃ it, it = itemAt E j := ⟨_, rfl⟩
  have hR2 : R = if n + 1 ≤ maxSteps then itemRun (bytesOf E.s) it (nextM E j) i (n + 1, cs) else none := by
    rw [hR, List.drop_eq_getElem_cons hj, ← itemAt_eq E j hj, hit]; rfl
  have hiw := item_wf hwf j hj
  have hst := st_next E j hj
  have HP2 := Lib.hid (rstep_c ok h hn)
  have HM := Lib.hid hm
  rw [← hit] at hiw hst hk
  have HC := Lib.hid hcell
  have HV := Lib.hid hv
  have HPAT := Lib.hid hpat
  have HK := Lib.hid hk
  clear hR hcell hv h hm hpat
  by_cases hlim : n + 1 ≤ maxSteps
  · rw [if_pos hlim] at hR2
    have hss : (itemAt E j).sets = false := by rw [← hit]; unfold Item.sets; rw [hk]; rfl
    have HVAL := Lib.hid (ok.noset hj hss)
    have HSS := Lib.hid hss
    clear hss
    have HCO := Lib.hid (show CapW E (j + 1) i cs from by unfold CapW; rw [hst]; exact hco.other (by omega))
    obtain ⟨hnK, hst1⟩ := hiw.h6 hk
    obtain ⟨ho, hf0, hf1, hf2⟩ := hco.c2 _ hst1
    obtain ⟨f0, hf⟩ : ∃ f0 : Nat, (f0 : Int) = (cs.getD it.n zeroCap).f := ⟨(cs.getD it.n zeroCap).f.toNat, by omega⟩
    obtain ⟨t0, ht⟩ : ∃ t0 : Nat, (t0 : Int) = (cs.getD it.n zeroCap).t := ⟨(cs.getD it.n zeroCap).t.toNat, by omega⟩
    have hft : f0 ≤ t0 := by omega
    have hti : t0 ≤ i := by omega
    have hti' : t0 ≤ E.s.size := by omega
    have hback : backM (bytesOf E.s) (cs.getD it.n zeroCap) = bytesOf (E.s.extract f0 t0) := by
      unfold backM
      rw [bytesOf_extract, show (cs.getD it.n zeroCap).f.toNat = f0 by omega, show ((cs.getD it.n zeroCap).t - (cs.getD it.n zeroCap).f).toNat = t0 - f0 by omega]
    have hpre : (bytesOf (E.s.extract f0 t0)).isPrefixOf ((bytesOf E.s).drop i) = prefB (E.s.extract i E.s.size) (E.s.extract f0 t0) := by
      unfold prefB
      rw [bytesOf_extract E.s i E.s.size, List.take_of_length_le (by rw [List.length_drop, bytesOf_length]; omega)]
    have hlen : (bytesOf (E.s.extract f0 t0)).length = t0 - f0 := by rw [bytesOf_extract, List.length_take, List.length_drop, bytesOf_length]; omega
    have HR := Lib.hid (show R = if prefB (E.s.extract i E.s.size) (E.s.extract f0 t0) then nextM E j (i + (t0 - f0)) (n + 1, cs) else some (none, (n + 1, cs)) from by
      rw [hR2]; unfold itemRun; rw [if_neg (by omega), if_neg (by omega), if_neg (by omega), if_neg (by omega), if_neg (by omega), if_pos hk]
      simp only []
      rw [hback, hpre, hlen])
    have hfit : prefB (E.s.extract i E.s.size) (E.s.extract f0 t0) = true → i + (t0 - f0) ≤ E.s.size := fun h => by
      have := prefix_len h
      rw [hlen, bytesOf_extract, List.length_take, List.length_drop, bytesOf_length] at this
      omega
    have HFIT := Lib.hid hfit
    have HF := Lib.hid hf
    have HT := Lib.hid ht
    have HO := Lib.hid ho
    have hsz : (E.s.extract f0 t0).size = t0 - f0 := by rw [← bytesOf_length]; exact hlen
    have HSZ := Lib.hid hsz
    clear hback hpre hlen hfit hf ht ho hf0 hf1 hf2 hsz
    have HIT := Lib.hid hit
    clear hR2 hit hk hco hst hiw
    go_enter Tryd.func55, Tryd.ntmps55
    go_wp2_with fail
    refine HP2.out.mono ?_
    rintro e w1 ⟨rfl, h1, hF1⟩
    rw [decide_eq_false (show ¬ maxSteps < n + 1 by omega)]
    have m1 : w1.cell? ⟨E.nb, 1, none⟩ = some (.pointer (some ⟨E.mb, 0, none⟩)) := by rw [cell_of_heap h1.hm]; rfl
    have p0 : w1.cell? ⟨E.mb, 0, none⟩ = some (.slice (some ⟨g, 0, none⟩) E.items.length cap) := by rw [(HPAT.out w1 _ cs h1).1, HV.out]
    have c0 : w1.cell? ⟨g, j * 6, none⟩ = some (.int .i64 7) := by have := HC.out w1 _ cs h1 0 (by omega); rw [HVAL.out, ← HIT.out] at this; rw [show (cellsR it (.slice none 0 0))[0]? = some (.int .i64 (refKind it.kind : Nat)) from rfl, HK.out] at this; exact this
    have c1 : w1.cell? ⟨g, j * 6 + 1, none⟩ = some (.slice none 0 0) := by have := HC.out w1 _ cs h1 1 (by omega); rw [HVAL.out, ← HIT.out] at this; exact this
    have c2 : w1.cell? ⟨g, j * 6 + 2, none⟩ = some (.int .u8 it.how) := by have := HC.out w1 _ cs h1 2 (by omega); rw [HVAL.out, ← HIT.out] at this; exact this
    have c3 : w1.cell? ⟨g, j * 6 + 3, none⟩ = some (.int .u8 it.x) := by have := HC.out w1 _ cs h1 3 (by omega); rw [HVAL.out, ← HIT.out] at this; exact this
    have c4 : w1.cell? ⟨g, j * 6 + 4, none⟩ = some (.int .u8 it.y) := by have := HC.out w1 _ cs h1 4 (by omega); rw [HVAL.out, ← HIT.out] at this; exact this
    have c5 : w1.cell? ⟨g, j * 6 + 5, none⟩ = some (.int .i64 it.n) := by have := HC.out w1 _ cs h1 5 (by omega); rw [HVAL.out, ← HIT.out] at this; exact this
    obtain ⟨hnb, hcb⟩ := h1.lts
    have hpl1 : E.mb < w1.heap.size := Nat.lt_of_lt_of_le hpl h1.below.size
    have m5 : w1.cell? ⟨E.nb, 2, none⟩ = some (.slice (some ⟨E.cb, 0, none⟩) E.K E.K) := by rw [cell_of_heap h1.hm]; rfl
    obtain ⟨p1, p2⟩ := h1.capf it.n hnK
    rw [← HF.out] at p1
    rw [HO.out] at p2
    rw [if_neg (by decide)] at p2
    rw [← HT.out] at p2
    have m4 : w1.cell? ⟨E.nb, 0, none⟩ = some (.string E.s) := by rw [cell_of_heap h1.hm]; rfl
    have hg1 : g < w1.heap.size := Nat.lt_of_lt_of_le hg h1.below.size
    have hbw : Below w1.heap.size w1 (w1.alloc (.cells #[.int .i64 7, (.slice none 0 0), .int .u8 it.how, .int .u8 it.x, .int .u8 it.y, .int .i64 it.n] 114)) := (Below.refl _ _).alloc (Nat.le_refl _) _
    have H2 := Lib.hid (h1.grow hbw)
    have HF2 := Lib.hid (hF1.trans (Fr.below hbw))
    clear h1 hF1 hbw
    obtain ⟨C, hC⟩ : ∃ C, C = E.s.extract f0 t0 := ⟨_, rfl⟩
    have hs1 := slice_run E.s (f0 : Int) (t0 : Int) f0 t0 rfl rfl hft hti'
    rw [← hC] at hs1
    have hCL : C.size = t0 - f0 := by rw [hC]; exact HSZ.out
    have hR3 : R = if (bytesOf C).isPrefixOf ((bytesOf E.s).drop i) then nextM E j (i + C.size) (n + 1, cs) else some (none, (n + 1, cs)) := by
      rw [HR.out, hCL, hC]
      unfold prefB
      rw [bytesOf_extract E.s i E.s.size, List.take_of_length_le (by rw [List.length_drop, bytesOf_length]; omega)]
    clear hC hCL
    by_cases hfit : i + C.size ≤ E.s.size
    · have tle : (C.size : Int) ≤ (E.s.size : Int) - (i : Int) := by omega
      have hs2 := slice_run E.s (i : Int) ((i : Int) + (C.size : Int)) i (i + C.size) rfl (by omega) (by omega) hfit
      cases hP : (bytesOf C).isPrefixOf ((bytesOf E.s).drop i) with
      | true =>
        have tcmp : ((E.s.extract i (i + C.size)).toList == C.toList) = true := by rw [str_eq_at C E.s i hfit]; exact hP
        have HRR := Lib.hid (show R = nextM E j (i + C.size) (n + 1, cs) from by rw [hR3, hP]; rfl)
        clear hP hR3
        go_wp2
        refine wp_region_lex mixed (by kernel_rfl) ?_
        go_wp2
        refine ⟨by kernel_rfl, ?_⟩
        go_wp2_with fail
        refine (HM.out _ (n + 1) cs _ _ (i + C.size) H2.out.drew hlim hfit (HCO.out.mono (by omega)) (by omega) (by omega)).mono ?_
        intro e w9 hpost
        obtain ⟨x, bb, rfl⟩ := hpost.shape
        have HPO := Lib.hid hpost
        clear hpost
        go_wp2
        go_ret2
        exact (by rw [HRR.out]; exact HPO.out.after HF2.out.drew)
      | false =>
        have tcmp : ((E.s.extract i (i + C.size)).toList == C.toList) = false := by rw [str_eq_at C E.s i hfit]; exact hP
        have HRR := Lib.hid (show R = some (none, (n + 1, cs)) from by rw [hR3, hP]; rfl)
        clear hP hR3
        go_wp2
        refine wp_region_lex mixed (by kernel_rfl) ?_
        go_wp2
        refine ⟨by kernel_rfl, ?_⟩
        go_wp2
        go_ret2
        exact rp_no HRR.out HF2.out.drew hlim H2.out.drew
    · have tle : ¬ (C.size : Int) ≤ (E.s.size : Int) - (i : Int) := by omega
      have hP : (bytesOf C).isPrefixOf ((bytesOf E.s).drop i) = false := by
        cases h : (bytesOf C).isPrefixOf ((bytesOf E.s).drop i) with
        | false => rfl
        | true =>
          have := prefix_len h
          rw [List.length_drop, bytesOf_length, bytesOf_length] at this
          omega
      have HRR := Lib.hid (show R = some (none, (n + 1, cs)) from by rw [hR3, hP]; rfl)
      clear hP hR3
      go_wp2
      refine wp_region_lex mixed (by kernel_rfl) ?_
      go_wp2
      refine ⟨by kernel_rfl, ?_⟩
      go_wp2
      go_ret2
      exact rp_no HRR.out HF2.out.drew hlim H2.out.drew
  · rw [if_neg hlim] at hR2
    have HR := Lib.hid hR2
    clear hR2 hit hk hco hst hiw
    go_enter Tryd.func55, Tryd.ntmps55
    go_wp2_with fail
    refine HP2.out.mono ?_
    rintro e w1 ⟨rfl, h1, hF1⟩
    rw [decide_eq_true (show maxSteps < n + 1 by omega)]
    have H1 := Lib.hid h1
    have HF1 := Lib.hid hF1
    clear h1 hF1
    go_wp2
    go_ret2
    exact rp_over HR.out HF1.out (by omega) (by omega) H1.out

theorem rmatch_c {E : MEnv} (ok : RMOK E) (hwf : WfItems E.K st0 E.items) : ∀ (d j : Nat), j + d = E.items.length → RMatchOK E j
  | 0, j, h => by
    obtain rfl : E.items.length = j := by omega
    exact rmatch_last ok
  | d + 1, j, h => by
    have hj : j < E.items.length := by omega
    have hm := rmatch_c ok hwf d (j + 1) (by omega)
    have hw := item_wf hwf j hj
    have k1 := hw.k1
    have k7 := hw.k7
    rcases (show (itemAt E j).kind = 1 ∨ (itemAt E j).kind = 2 ∨ (itemAt E j).kind = 3 ∨ (itemAt E j).kind = 4 ∨ (itemAt E j).kind = 5 ∨ (itemAt E j).kind = 6 ∨ (itemAt E j).kind = 7 by omega) with k | k | k | k | k | k | k
    · exact rmatch_open ok hwf hj hm k
    · exact rmatch_shut ok hwf hj hm k
    · exact rmatch_place ok hwf hj hm k
    · exact rmatch_bal ok hwf hj hm k
    · exact rmatch_front ok hwf hj hm k
    · exact rmatch_back ok hwf hj hm k
    · exact rmatch_single ok hwf hj hm k
end Go.Proofs.YtpbhncmaamedhaaDoor
