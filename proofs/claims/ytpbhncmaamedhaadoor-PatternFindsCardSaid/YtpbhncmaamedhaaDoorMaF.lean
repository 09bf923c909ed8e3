import Derived.Test.YtpbhncmaamedhaaDoorMaE
namespace Go.Proofs.YtpbhncmaamedhaaDoor
open Go.RowKit Go.Proofs.Lexi

theorem vi_shape {E : MEnv} (ok : MOK E) : ∃ p cap, E.vi = .slice p E.items.length cap := by
  obtain ⟨A, ho, _⟩ := ok.A
  rcases ho.2 with ⟨h1, h2⟩ | ⟨g, cap, cur, hv, _⟩
  · exact ⟨none, 0, by rw [h1, h2]⟩
  · exact ⟨_, _, hv⟩
theorem item_nil {E : MEnv} (ok : MOK E) {j : Nat} (hj : j < E.items.length) (hs : (itemAt E j).sets = false) : E.vs.getD j .nilFunc = .nilFunc := by
  obtain ⟨A, _, hi⟩ := ok.A
  have := hi j hj
  rw [← itemAt_eq E j hj] at this
  unfold ItemOK at this
  rw [if_neg (by rw [hs]; decide)] at this
  exact this
theorem item_val {E : MEnv} (ok : MOK E) {j : Nat} (hj : j < E.items.length) : E.vs.getD j .nilFunc = .nilFunc ∨ ∃ f caps, E.vs.getD j .nilFunc = .func (.func f) #[] caps := by
  by_cases hs : (itemAt E j).sets = true
  · obtain ⟨f, caps, h, _⟩ := ok.pred hj hs (Below.refl _ _)
    exact .inr ⟨f, caps, h⟩
  · exact .inl (item_nil ok hj (by simpa using hs))
theorem match_end {E : MEnv} {w : World} {R : MR} {n : Nat} {cs : List ACap} {i : Nat} {b : Bool} {w' : World} (hR : R = some (if b then some i else none, (n, cs))) (hf : Fr E w w') (hn : n ≤ maxSteps) (hi : i ≤ E.s.size) (h : MSt E w' n cs) : MPost E w R (.returned (.tuple #[.int .i64 (i : Int), .bool b])) w' := by
  cases b with
  | true => exact mp_yes hR hf hn hi h
  | false => exact mp_no hR hf hn h
set_option maxRecDepth 100000 in
set_option maxHeartbeats 4000000 in
theorem match_last {E : MEnv} (ok : MOK E) : MatchOK E E.items.length := by
  intro w n cs a b i h hn hi hco ha hb
  subst ha hb
  obtain ⟨p, cap, hv⟩ := vi_shape ok
  have hl := ok.len
  have hsl := ok.sl
  have m6 : w.cell? ⟨E.mb, 6, none⟩ = some (.func (.func 52) #[] #[.pointer (some ⟨E.nb, 0, none⟩)]) := by rw [cell_of_heap h.hm]; rfl
  have tj : ((E.items.length : Int) == (E.items.length : Int)) = true := by simp
  obtain ⟨R, hR⟩ : ∃ R, R = matchM (bytesOf E.s) E.fin (E.items.drop E.items.length) i (n, cs) := ⟨_, rfl⟩
  rw [← hR]
  have hR2 : R = if n + 1 ≤ maxSteps then some (if (!E.fin || i == (bytesOf E.s).length) then some i else none, (n + 1, cs)) else none := by rw [hR, List.drop_length]; rfl
  rw [bytesOf_length] at hR2
  have HP2 := Lib.hid (spend_m ok h hn)
  clear hR hco
  by_cases hlim : n + 1 ≤ maxSteps
  · rw [if_pos hlim] at hR2
    have HR := Lib.hid hR2
    clear hR2
    have HV := Lib.hid hv
    clear hv h
    go_enter Tryd.func54, Tryd.ntmps54
    go_wp2_with fail
    refine HP2.out.mono ?_
    rintro e w1 ⟨rfl, h1, hF1⟩
    rw [decide_eq_true hlim]
    have m0 : w1.cell? ⟨E.mb, 0, none⟩ = some (.slice p E.items.length cap) := by rw [cell_of_heap h1.hm, HV.out]; rfl
    have m4 : w1.cell? ⟨E.mb, 4, none⟩ = some (.string E.s) := by rw [cell_of_heap h1.hm]; rfl
    have H1 := Lib.hid h1
    have HF1 := Lib.hid hF1
    cases hfin : E.fin with
    | false =>
      have m3 : w1.cell? ⟨E.mb, 3, none⟩ = some (.bool false) := by rw [cell_of_heap h1.hm, ← hfin]; rfl
      have HG := Lib.hid (show R = some (if true then some i else none, (n + 1, cs)) from by rw [HR.out, hfin]; rfl)
      clear hfin h1 hF1
      go_wp2
      refine wp_region_lex mixed (by kernel_rfl) ?_
      go_wp2
      refine ⟨by kernel_rfl, ?_⟩
      go_wp2
      go_ret2
      exact match_end HG.out HF1.out.drew hlim hi H1.out.drew
    | true =>
      have m3 : w1.cell? ⟨E.mb, 3, none⟩ = some (.bool true) := by rw [cell_of_heap h1.hm, ← hfin]; rfl
      by_cases hz : i = E.s.size
      · have tz : ((i : Int) == (E.s.size : Int)) = true := by simp [hz]
        have tz' : (i == E.s.size) = true := by simp [hz]
        have HG := Lib.hid (show R = some (if true then some i else none, (n + 1, cs)) from by rw [HR.out, hfin, tz']; rfl)
        clear hfin h1 hF1 hz
        go_wp2
        refine wp_region_lex mixed (by kernel_rfl) ?_
        go_wp2
        refine ⟨by kernel_rfl, ?_⟩
        go_wp2
        go_ret2
        exact match_end HG.out HF1.out.drew hlim hi H1.out.drew
      · have tz : ((i : Int) == (E.s.size : Int)) = false := by rw [beq_eq_false_iff_ne]; omega
        have tz' : (i == E.s.size) = false := by rw [beq_eq_false_iff_ne]; exact hz
        have HG := Lib.hid (show R = some (if false then some i else none, (n + 1, cs)) from by rw [HR.out, hfin, tz']; rfl)
        clear hfin h1 hF1 hz
        go_wp2
        refine wp_region_lex mixed (by kernel_rfl) ?_
        go_wp2
        refine ⟨by kernel_rfl, ?_⟩
        go_wp2
        go_ret2
        exact match_end HG.out HF1.out.drew hlim hi H1.out.drew
  · rw [if_neg hlim] at hR2
    have HR := Lib.hid hR2
    clear hR2 hv h
    go_enter Tryd.func54, Tryd.ntmps54
    go_wp2_with fail
    refine HP2.out.mono ?_
    rintro e w1 ⟨rfl, h1, hF1⟩
    rw [decide_eq_false hlim]
    have H1 := Lib.hid h1
    have HF1 := Lib.hid hF1
    clear h1 hF1
    go_wp2
    go_ret2
    exact mp_over HR.out HF1.out (by omega) (by omega) H1.out

theorem take_snoc_item (E : MEnv) (j : Nat) (hj : j < E.items.length) : E.items.take (j + 1) = E.items.take j ++ [itemAt E j] := by
  rw [itemAt_eq E j hj, List.take_succ_eq_append_getElem hj]
theorem st_next (E : MEnv) (j : Nat) (hj : j < E.items.length) : stEnd st0 (E.items.take (j + 1)) = stNext (stEnd st0 (E.items.take j)) (itemAt E j) := by
  rw [take_snoc_item E j hj, stEnd_append]; rfl
theorem item_wf {E : MEnv} (hwf : WfItems E.K st0 E.items) (j : Nat) (hj : j < E.items.length) : ItemWf E.K (stEnd st0 (E.items.take j)) (itemAt E j) := by
  have := WfItems.drop (a := E.items.take j) (b := E.items.drop j) (by rw [List.take_append_drop]; exact hwf)
  rw [List.drop_eq_getElem_cons hj, ← itemAt_eq E j hj] at this
  exact this.1

set_option maxRecDepth 100000 in
set_option maxHeartbeats 4000000 in
theorem match_open {E : MEnv} (ok : MOK E) (hwf : WfItems E.K st0 E.items) {j : Nat} (hj : j < E.items.length) (hm : MatchOK E (j + 1)) (hk : (itemAt E j).kind = 1) : MatchOK E j := by
  intro w n cs a b i h hn hi hco ha hb
  subst ha hb
  obtain ⟨g, cap, hv, hg, hcell⟩ := ok.row hj
  have hl := ok.len
  have hsl := ok.sl
  have hkk := ok.kk
  have m6 : w.cell? ⟨E.mb, 6, none⟩ = some (.func (.func 52) #[] #[.pointer (some ⟨E.nb, 0, none⟩)]) := by rw [cell_of_heap h.hm]; rfl
  have tj : ((j : Int) == (E.items.length : Int)) = false := by rw [beq_eq_false_iff_ne]; omega
  obtain ⟨R, hR⟩ : ∃ R, R = matchM (bytesOf E.s) E.fin (E.items.drop j) i (n, cs) := ⟨_, rfl⟩
  rw [← hR]
  obtain ⟨it, hit⟩ : ∃ it, it = itemAt E j := ⟨_, rfl⟩
  have hR2 : R = if n + 1 ≤ maxSteps then itemRun (bytesOf E.s) it (nextM E j) i (n + 1, cs) else none := by
    rw [hR, List.drop_eq_getElem_cons hj, ← itemAt_eq E j hj, hit]; rfl
  have hiw := item_wf hwf j hj
  have hst := st_next E j hj
  have HP2 := Lib.hid (spend_m ok h hn)
  have HM := Lib.hid hm
  rw [← hit] at hiw hst hk
  have HC := Lib.hid hcell
  have HV := Lib.hid hv
  clear hR hcell hv h hm
  by_cases hlim : n + 1 ≤ maxSteps
  · rw [if_pos hlim] at hR2
    have hss : (itemAt E j).sets = false := by rw [← hit]; unfold Item.sets; rw [hk]; rfl
    have HVAL := Lib.hid (item_nil ok hj hss)
    have HSS := Lib.hid hss
    clear hss
    obtain ⟨hnK, hst1⟩ := hiw.h1 hk
    have HR := Lib.hid (show R = keepM it.n ⟨i, 0, true⟩ (nextM E j i) (n + 1, cs) from by rw [hR2]; unfold itemRun; rw [if_pos hk])
    have HCO := Lib.hid (show CapW E (j + 1) i (cs.set it.n ⟨i, 0, true⟩) from by
      unfold CapW; rw [hst]
      exact hco.set (c := ⟨i, 0, true⟩) hnK (.inl hk) (fun _ => ⟨rfl, (show ((0 : Nat) : Int) ≤ (i : Int) by omega), Int.le_refl _⟩) (fun h => by omega) (fun h => by omega))
    have t1 : ((it.kind : Int) == 1) = true := by rw [hk]; rfl
    have HIT := Lib.hid hit
    clear hR2 hit hk hco hst hiw
    go_enter Tryd.func54, Tryd.ntmps54
    go_wp2_with fail
    refine HP2.out.mono ?_
    rintro e w1 ⟨rfl, h1, hF1⟩
    rw [decide_eq_true hlim]
    have m0 : w1.cell? ⟨E.mb, 0, none⟩ = some (.slice (some ⟨g, 0, none⟩) E.items.length cap) := by rw [cell_of_heap h1.hm, HV.out]; rfl
    have c0 : w1.cell? ⟨g, j * 6, none⟩ = some (.int .i64 it.kind) := by have := HC.out w1 _ cs h1 0 (by omega); rw [HVAL.out, ← HIT.out] at this; exact this
    have c1 : w1.cell? ⟨g, j * 6 + 1, none⟩ = some (.int .i64 it.n) := by have := HC.out w1 _ cs h1 1 (by omega); rw [HVAL.out, ← HIT.out] at this; exact this
    have c2 : w1.cell? ⟨g, j * 6 + 2, none⟩ = some (.int .u8 it.x) := by have := HC.out w1 _ cs h1 2 (by omega); rw [HVAL.out, ← HIT.out] at this; exact this
    have c3 : w1.cell? ⟨g, j * 6 + 3, none⟩ = some (.int .u8 it.y) := by have := HC.out w1 _ cs h1 3 (by omega); rw [HVAL.out, ← HIT.out] at this; exact this
    have c4 : w1.cell? ⟨g, j * 6 + 4, none⟩ = some .nilFunc := by have := HC.out w1 _ cs h1 4 (by omega); rw [HVAL.out, ← HIT.out] at this; exact this
    have c5 : w1.cell? ⟨g, j * 6 + 5, none⟩ = some (.int .u8 it.how) := by have := HC.out w1 _ cs h1 5 (by omega); rw [HVAL.out, ← HIT.out] at this; exact this
    have hmb : E.mb < w1.heap.size := (Array.getElem?_eq_some_iff.1 h1.hm).1
    have hg1 : g < w1.heap.size := Nat.lt_of_lt_of_le hg h1.below.size
    have hbw : Below w1.heap.size w1 (w1.alloc (.cells #[.int .i64 it.kind, .int .i64 it.n, .int .u8 it.x, .int .u8 it.y, .nilFunc, .int .u8 it.how] 106)) := (Below.refl _ _).alloc (Nat.le_refl _) _
    have H2 := Lib.hid (h1.grow hbw)
    have HF2 := Lib.hid (hF1.trans (Fr.below hbw))
    clear h1 hF1 hbw
    go_wp2_with fail
    refine (keep_c ok hj HM.out H2.out hlim _ _ i hi rfl rfl it.n hnK ⟨i, 0, true⟩ 0 rfl HCO.out).mono ?_
    intro e w9 hpost
    obtain ⟨x, bb, rfl⟩ := hpost.shape
    have HPO := Lib.hid hpost
    clear hpost
    go_wp2
    go_ret2
    exact (by rw [HR.out]; exact HPO.out.after HF2.out)
  · rw [if_neg hlim] at hR2
    have HR := Lib.hid hR2
    clear hR2 hit hk hco hst hiw
    go_enter Tryd.func54, Tryd.ntmps54
    go_wp2_with fail
    refine HP2.out.mono ?_
    rintro e w1 ⟨rfl, h1, hF1⟩
    rw [decide_eq_false hlim]
    have H1 := Lib.hid h1
    have HF1 := Lib.hid hF1
    clear h1 hF1
    go_wp2
    go_ret2
    exact mp_over HR.out HF1.out (by omega) (by omega) H1.out

set_option maxRecDepth 100000 in
set_option maxHeartbeats 4000000 in
theorem match_shut {E : MEnv} (ok : MOK E) (hwf : WfItems E.K st0 E.items) {j : Nat} (hj : j < E.items.length) (hm : MatchOK E (j + 1)) (hk : (itemAt E j).kind = 2) : MatchOK E j := by
  intro w n cs a b i h hn hi hco ha hb
  subst ha hb
  obtain ⟨g, cap, hv, hg, hcell⟩ := ok.row hj
  have hl := ok.len
  have hsl := ok.sl
  have hkk := ok.kk
  have m6 : w.cell? ⟨E.mb, 6, none⟩ = some (.func (.func 52) #[] #[.pointer (some ⟨E.nb, 0, none⟩)]) := by rw [cell_of_heap h.hm]; rfl
  have tj : ((j : Int) == (E.items.length : Int)) = false := by rw [beq_eq_false_iff_ne]; omega
  obtain ⟨R, hR⟩ : ∃ R, R = matchM (bytesOf E.s) E.fin (E.items.drop j) i (n, cs) := ⟨_, rfl⟩
  rw [← hR]
  obtain ⟨it, hit⟩ : ∃ it, it = itemAt E j := ⟨_, rfl⟩
  have hR2 : R = if n + 1 ≤ maxSteps then itemRun (bytesOf E.s) it (nextM E j) i (n + 1, cs) else none := by
    rw [hR, List.drop_eq_getElem_cons hj, ← itemAt_eq E j hj, hit]; rfl
  have hiw := item_wf hwf j hj
  have hst := st_next E j hj
  have HP2 := Lib.hid (spend_m ok h hn)
  have HM := Lib.hid hm
  rw [← hit] at hiw hst hk
  have HC := Lib.hid hcell
  have HV := Lib.hid hv
  clear hR hcell hv h hm
  by_cases hlim : n + 1 ≤ maxSteps
  · rw [if_pos hlim] at hR2
    have hss : (itemAt E j).sets = false := by rw [← hit]; unfold Item.sets; rw [hk]; rfl
    have HVAL := Lib.hid (item_nil ok hj hss)
    have HSS := Lib.hid hss
    clear hss
    obtain ⟨hnK, hst1⟩ := hiw.h2 hk
    obtain ⟨ho, hf0, hf1⟩ := hco.c1 _ hst1
    obtain ⟨f0, hf⟩ : ∃ f0, f0 = (cs.getD it.n zeroCap).f := ⟨_, rfl⟩
    have HR := Lib.hid (show R = keepM it.n ⟨f0, i, false⟩ (nextM E j i) (n + 1, cs) from by rw [hR2, hf]; unfold itemRun; rw [if_neg (by omega), if_pos hk])
    have HCO := Lib.hid (show CapW E (j + 1) i (cs.set it.n ⟨f0, i, false⟩) from by
      unfold CapW; rw [hst]
      exact hco.set (c := ⟨f0, i, false⟩) hnK (.inr (.inl hk)) (fun h => by omega) (fun _ => ⟨rfl, by rw [hf]; exact hf0, by rw [hf]; exact hf1, Int.le_refl _⟩) (fun h => by omega))
    have HF := Lib.hid hf
    clear hf hf0 hf1 ho
    have t1 : ((it.kind : Int) == 1) = false := by rw [hk]; rfl
    have t2 : ((it.kind : Int) == 2) = true := by rw [hk]; rfl
    have HIT := Lib.hid hit
    clear hR2 hit hk hco hst hiw
    go_enter Tryd.func54, Tryd.ntmps54
    go_wp2_with fail
    refine HP2.out.mono ?_
    rintro e w1 ⟨rfl, h1, hF1⟩
    rw [decide_eq_true hlim]
    have m0 : w1.cell? ⟨E.mb, 0, none⟩ = some (.slice (some ⟨g, 0, none⟩) E.items.length cap) := by rw [cell_of_heap h1.hm, HV.out]; rfl
    have c0 : w1.cell? ⟨g, j * 6, none⟩ = some (.int .i64 it.kind) := by have := HC.out w1 _ cs h1 0 (by omega); rw [HVAL.out, ← HIT.out] at this; exact this
    have c1 : w1.cell? ⟨g, j * 6 + 1, none⟩ = some (.int .i64 it.n) := by have := HC.out w1 _ cs h1 1 (by omega); rw [HVAL.out, ← HIT.out] at this; exact this
    have c2 : w1.cell? ⟨g, j * 6 + 2, none⟩ = some (.int .u8 it.x) := by have := HC.out w1 _ cs h1 2 (by omega); rw [HVAL.out, ← HIT.out] at this; exact this
    have c3 : w1.cell? ⟨g, j * 6 + 3, none⟩ = some (.int .u8 it.y) := by have := HC.out w1 _ cs h1 3 (by omega); rw [HVAL.out, ← HIT.out] at this; exact this
    have c4 : w1.cell? ⟨g, j * 6 + 4, none⟩ = some .nilFunc := by have := HC.out w1 _ cs h1 4 (by omega); rw [HVAL.out, ← HIT.out] at this; exact this
    have c5 : w1.cell? ⟨g, j * 6 + 5, none⟩ = some (.int .u8 it.how) := by have := HC.out w1 _ cs h1 5 (by omega); rw [HVAL.out, ← HIT.out] at this; exact this
    have m5 : w1.cell? ⟨E.mb, 5, none⟩ = some (.slice (some ⟨E.cb, 0, none⟩) E.K E.K) := by rw [cell_of_heap h1.hm]; rfl
    obtain ⟨p1, p2⟩ := h1.capf it.n hnK
    rw [← HF.out] at p1
    clear p2
    have hcb : E.cb < w1.heap.size := (Array.getElem?_eq_some_iff.1 h1.hc).1
    have hmb : E.mb < w1.heap.size := (Array.getElem?_eq_some_iff.1 h1.hm).1
    have hg1 : g < w1.heap.size := Nat.lt_of_lt_of_le hg h1.below.size
    have hbw : Below w1.heap.size w1 (w1.alloc (.cells #[.int .i64 it.kind, .int .i64 it.n, .int .u8 it.x, .int .u8 it.y, .nilFunc, .int .u8 it.how] 106)) := (Below.refl _ _).alloc (Nat.le_refl _) _
    have H2 := Lib.hid (h1.grow hbw)
    have HF2 := Lib.hid (hF1.trans (Fr.below hbw))
    clear h1 hF1 hbw
    go_wp2
    refine wp_region_lex mixed (by kernel_rfl) ?_
    go_wp2_with fail
    refine (keep_c ok hj HM.out H2.out.drew hlim _ _ i hi rfl rfl it.n hnK ⟨f0, i, false⟩ i rfl HCO.out).mono ?_
    intro e w9 hpost
    obtain ⟨x, bb, rfl⟩ := hpost.shape
    have HPO := Lib.hid hpost
    clear hpost
    go_wp2
    refine ⟨by kernel_rfl, ?_⟩
    go_wp2
    go_ret2
    exact (by rw [HR.out]; exact HPO.out.after HF2.out.drew)
  · rw [if_neg hlim] at hR2
    have HR := Lib.hid hR2
    clear hR2 hit hk hco hst hiw
    go_enter Tryd.func54, Tryd.ntmps54
    go_wp2_with fail
    refine HP2.out.mono ?_
    rintro e w1 ⟨rfl, h1, hF1⟩
    rw [decide_eq_false hlim]
    have H1 := Lib.hid h1
    have HF1 := Lib.hid hF1
    clear h1 hF1
    go_wp2
    go_ret2
    exact mp_over HR.out HF1.out (by omega) (by omega) H1.out

set_option maxRecDepth 100000 in
set_option maxHeartbeats 4000000 in
theorem match_place {E : MEnv} (ok : MOK E) (hwf : WfItems E.K st0 E.items) {j : Nat} (hj : j < E.items.length) (hm : MatchOK E (j + 1)) (hk : (itemAt E j).kind = 3) : MatchOK E j := by
  intro w n cs a b i h hn hi hco ha hb
  subst ha hb
  obtain ⟨g, cap, hv, hg, hcell⟩ := ok.row hj
  have hl := ok.len
  have hsl := ok.sl
  have hkk := ok.kk
  have m6 : w.cell? ⟨E.mb, 6, none⟩ = some (.func (.func 52) #[] #[.pointer (some ⟨E.nb, 0, none⟩)]) := by rw [cell_of_heap h.hm]; rfl
  have tj : ((j : Int) == (E.items.length : Int)) = false := by rw [beq_eq_false_iff_ne]; omega
  obtain ⟨R, hR⟩ : ∃ R, R = matchM (bytesOf E.s) E.fin (E.items.drop j) i (n, cs) := ⟨_, rfl⟩
  rw [← hR]
  obtain ⟨it, hit⟩ : ∃ it, it = itemAt E j := ⟨_, rfl⟩
  have hR2 : R = if n + 1 ≤ maxSteps then itemRun (bytesOf E.s) it (nextM E j) i (n + 1, cs) else none := by
    rw [hR, List.drop_eq_getElem_cons hj, ← itemAt_eq E j hj, hit]; rfl
  have hiw := item_wf hwf j hj
  have hst := st_next E j hj
  have HP2 := Lib.hid (spend_m ok h hn)
  have HM := Lib.hid hm
  rw [← hit] at hiw hst hk
  have HC := Lib.hid hcell
  have HV := Lib.hid hv
  clear hR hcell hv h hm
  by_cases hlim : n + 1 ≤ maxSteps
  · rw [if_pos hlim] at hR2
    have hss : (itemAt E j).sets = false := by rw [← hit]; unfold Item.sets; rw [hk]; rfl
    have HVAL := Lib.hid (item_nil ok hj hss)
    have HSS := Lib.hid hss
    clear hss
    obtain ⟨hnK, hst1⟩ := hiw.h3 hk
    have HR := Lib.hid (show R = keepM it.n ⟨i, -1, false⟩ (nextM E j i) (n + 1, cs) from by rw [hR2]; unfold itemRun; rw [if_neg (by omega), if_neg (by omega), if_pos hk])
    have HCO := Lib.hid (show CapW E (j + 1) i (cs.set it.n ⟨i, -1, false⟩) from by
      unfold CapW; rw [hst]
      exact hco.set (c := ⟨i, -1, false⟩) hnK (.inr (.inr hk)) (fun h => by omega) (fun h => by omega) (fun _ => ⟨rfl, (show ((0 : Nat) : Int) ≤ (i : Int) by omega), Int.le_refl _, rfl⟩))
    have t1 : ((it.kind : Int) == 1) = false := by rw [hk]; rfl
    have t2 : ((it.kind : Int) == 2) = false := by rw [hk]; rfl
    have t3 : ((it.kind : Int) == 3) = true := by rw [hk]; rfl
    have HIT := Lib.hid hit
    clear hR2 hit hk hco hst hiw
    go_enter Tryd.func54, Tryd.ntmps54
    go_wp2_with fail
    refine HP2.out.mono ?_
    rintro e w1 ⟨rfl, h1, hF1⟩
    rw [decide_eq_true hlim]
    have m0 : w1.cell? ⟨E.mb, 0, none⟩ = some (.slice (some ⟨g, 0, none⟩) E.items.length cap) := by rw [cell_of_heap h1.hm, HV.out]; rfl
    have c0 : w1.cell? ⟨g, j * 6, none⟩ = some (.int .i64 it.kind) := by have := HC.out w1 _ cs h1 0 (by omega); rw [HVAL.out, ← HIT.out] at this; exact this
    have c1 : w1.cell? ⟨g, j * 6 + 1, none⟩ = some (.int .i64 it.n) := by have := HC.out w1 _ cs h1 1 (by omega); rw [HVAL.out, ← HIT.out] at this; exact this
    have c2 : w1.cell? ⟨g, j * 6 + 2, none⟩ = some (.int .u8 it.x) := by have := HC.out w1 _ cs h1 2 (by omega); rw [HVAL.out, ← HIT.out] at this; exact this
    have c3 : w1.cell? ⟨g, j * 6 + 3, none⟩ = some (.int .u8 it.y) := by have := HC.out w1 _ cs h1 3 (by omega); rw [HVAL.out, ← HIT.out] at this; exact this
    have c4 : w1.cell? ⟨g, j * 6 + 4, none⟩ = some .nilFunc := by have := HC.out w1 _ cs h1 4 (by omega); rw [HVAL.out, ← HIT.out] at this; exact this
    have c5 : w1.cell? ⟨g, j * 6 + 5, none⟩ = some (.int .u8 it.how) := by have := HC.out w1 _ cs h1 5 (by omega); rw [HVAL.out, ← HIT.out] at this; exact this
    have hmb : E.mb < w1.heap.size := (Array.getElem?_eq_some_iff.1 h1.hm).1
    have hg1 : g < w1.heap.size := Nat.lt_of_lt_of_le hg h1.below.size
    have hbw : Below w1.heap.size w1 (w1.alloc (.cells #[.int .i64 it.kind, .int .i64 it.n, .int .u8 it.x, .int .u8 it.y, .nilFunc, .int .u8 it.how] 106)) := (Below.refl _ _).alloc (Nat.le_refl _) _
    have H2 := Lib.hid (h1.grow hbw)
    have HF2 := Lib.hid (hF1.trans (Fr.below hbw))
    clear h1 hF1 hbw
    go_wp2_with fail
    refine (keep_c ok hj HM.out H2.out hlim _ _ i hi rfl rfl it.n hnK ⟨i, -1, false⟩ (-1) rfl HCO.out).mono ?_
    intro e w9 hpost
    obtain ⟨x, bb, rfl⟩ := hpost.shape
    have HPO := Lib.hid hpost
    clear hpost
    go_wp2
    go_ret2
    exact (by rw [HR.out]; exact HPO.out.after HF2.out)
  · rw [if_neg hlim] at hR2
    have HR := Lib.hid hR2
    clear hR2 hit hk hco hst hiw
    go_enter Tryd.func54, Tryd.ntmps54
    go_wp2_with fail
    refine HP2.out.mono ?_
    rintro e w1 ⟨rfl, h1, hF1⟩
    rw [decide_eq_false hlim]
    have H1 := Lib.hid h1
    have HF1 := Lib.hid hF1
    clear h1 hF1
    go_wp2
    go_ret2
    exact mp_over HR.out HF1.out (by omega) (by omega) H1.out

set_option maxRecDepth 100000 in
set_option maxHeartbeats 4000000 in
theorem match_bal {E : MEnv} (ok : MOK E) (hwf : WfItems E.K st0 E.items) {j : Nat} (hj : j < E.items.length) (hm : MatchOK E (j + 1)) (hk : (itemAt E j).kind = 4) : MatchOK E j := by
  intro w n cs a b i h hn hi hco ha hb
  subst ha hb
  obtain ⟨g, cap, hv, hg, hcell⟩ := ok.row hj
  have hl := ok.len
  have hsl := ok.sl
  have hkk := ok.kk
  have m6 : w.cell? ⟨E.mb, 6, none⟩ = some (.func (.func 52) #[] #[.pointer (some ⟨E.nb, 0, none⟩)]) := by rw [cell_of_heap h.hm]; rfl
  have tj : ((j : Int) == (E.items.length : Int)) = false := by rw [beq_eq_false_iff_ne]; omega
  obtain ⟨R, hR⟩ : ∃ R, R = matchM (bytesOf E.s) E.fin (E.items.drop j) i (n, cs) := ⟨_, rfl⟩
  rw [← hR]
  obtain ⟨it, hit⟩ : ∃ it, it = itemAt E j := ⟨_, rfl⟩
  have hR2 : R = if n + 1 ≤ maxSteps then itemRun (bytesOf E.s) it (nextM E j) i (n + 1, cs) else none := by
    rw [hR, List.drop_eq_getElem_cons hj, ← itemAt_eq E j hj, hit]; rfl
  have hiw := item_wf hwf j hj
  have hst := st_next E j hj
  have HP2 := Lib.hid (spend_m ok h hn)
  have HM := Lib.hid hm
  rw [← hit] at hiw hst hk
  have HC := Lib.hid hcell
  have HV := Lib.hid hv
  clear hR hcell hv h hm
  by_cases hlim : n + 1 ≤ maxSteps
  · rw [if_pos hlim] at hR2
    have hss : (itemAt E j).sets = false := by rw [← hit]; unfold Item.sets; rw [hk]; rfl
    have HVAL := Lib.hid (item_nil ok hj hss)
    have HSS := Lib.hid hss
    clear hss
    have HCO := Lib.hid (show CapW E (j + 1) i cs from by unfold CapW; rw [hst]; exact hco.other (by omega))
    have HR := Lib.hid (show R = match (bytesOf E.s).drop i with | c :: r => if c = (itemAt E j).x then balM (itemAt E j).x (itemAt E j).y (nextM E j) r (i + 1) 1 (n + 1, cs) else some (none, (n + 1, cs)) | [] => some (none, (n + 1, cs)) from by rw [hR2]; unfold itemRun; rw [if_neg (by omega), if_neg (by omega), if_neg (by omega), if_pos hk, hit]; cases (bytesOf E.s).drop i <;> rfl)
    have t1 : ((it.kind : Int) == 1) = false := by rw [hk]; rfl
    have t2 : ((it.kind : Int) == 2) = false := by rw [hk]; rfl
    have t3 : ((it.kind : Int) == 3) = false := by rw [hk]; rfl
    have t4 : ((it.kind : Int) == 4) = true := by rw [hk]; rfl
    have HIT := Lib.hid hit
    clear hR2 hit hk hco hst hiw
    go_enter Tryd.func54, Tryd.ntmps54
    go_wp2_with fail
    refine HP2.out.mono ?_
    rintro e w1 ⟨rfl, h1, hF1⟩
    rw [decide_eq_true hlim]
    have m0 : w1.cell? ⟨E.mb, 0, none⟩ = some (.slice (some ⟨g, 0, none⟩) E.items.length cap) := by rw [cell_of_heap h1.hm, HV.out]; rfl
    have c0 : w1.cell? ⟨g, j * 6, none⟩ = some (.int .i64 it.kind) := by have := HC.out w1 _ cs h1 0 (by omega); rw [HVAL.out, ← HIT.out] at this; exact this
    have c1 : w1.cell? ⟨g, j * 6 + 1, none⟩ = some (.int .i64 it.n) := by have := HC.out w1 _ cs h1 1 (by omega); rw [HVAL.out, ← HIT.out] at this; exact this
    have c2 : w1.cell? ⟨g, j * 6 + 2, none⟩ = some (.int .u8 it.x) := by have := HC.out w1 _ cs h1 2 (by omega); rw [HVAL.out, ← HIT.out] at this; exact this
    have c3 : w1.cell? ⟨g, j * 6 + 3, none⟩ = some (.int .u8 it.y) := by have := HC.out w1 _ cs h1 3 (by omega); rw [HVAL.out, ← HIT.out] at this; exact this
    have c4 : w1.cell? ⟨g, j * 6 + 4, none⟩ = some .nilFunc := by have := HC.out w1 _ cs h1 4 (by omega); rw [HVAL.out, ← HIT.out] at this; exact this
    have c5 : w1.cell? ⟨g, j * 6 + 5, none⟩ = some (.int .u8 it.how) := by have := HC.out w1 _ cs h1 5 (by omega); rw [HVAL.out, ← HIT.out] at this; exact this
    have hmb : E.mb < w1.heap.size := (Array.getElem?_eq_some_iff.1 h1.hm).1
    have hg1 : g < w1.heap.size := Nat.lt_of_lt_of_le hg h1.below.size
    have hbw : Below w1.heap.size w1 (w1.alloc (.cells #[.int .i64 it.kind, .int .i64 it.n, .int .u8 it.x, .int .u8 it.y, .nilFunc, .int .u8 it.how] 106)) := (Below.refl _ _).alloc (Nat.le_refl _) _
    have H2 := Lib.hid (h1.grow hbw)
    have HF2 := Lib.hid (hF1.trans (Fr.below hbw))
    clear h1 hF1 hbw
    go_wp2_with fail
    refine (balance_c ok hj HSS.out HM.out H2.out hlim _ _ i hi rfl rfl HCO.out R HR.out HVAL.out).mono ?_
    intro e w9 hpost
    obtain ⟨x, bb, rfl⟩ := hpost.shape
    have HPO := Lib.hid hpost
    clear hpost
    go_wp2
    go_ret2
    exact HPO.out.after HF2.out
  · rw [if_neg hlim] at hR2
    have HR := Lib.hid hR2
    clear hR2 hit hk hco hst hiw
    go_enter Tryd.func54, Tryd.ntmps54
    go_wp2_with fail
    refine HP2.out.mono ?_
    rintro e w1 ⟨rfl, h1, hF1⟩
    rw [decide_eq_false hlim]
    have H1 := Lib.hid h1
    have HF1 := Lib.hid hF1
    clear h1 hF1
    go_wp2
    go_ret2
    exact mp_over HR.out HF1.out (by omega) (by omega) H1.out

set_option maxRecDepth 100000 in
set_option maxHeartbeats 4000000 in
theorem match_front {E : MEnv} (ok : MOK E) (hwf : WfItems E.K st0 E.items) {j : Nat} (hj : j < E.items.length) (hm : MatchOK E (j + 1)) (hk : (itemAt E j).kind = 5) : MatchOK E j := by
  intro w n cs a b i h hn hi hco ha hb
  subst ha hb
  obtain ⟨g, cap, hv, hg, hcell⟩ := ok.row hj
  have hl := ok.len
  have hsl := ok.sl
  have hkk := ok.kk
  have m6 : w.cell? ⟨E.mb, 6, none⟩ = some (.func (.func 52) #[] #[.pointer (some ⟨E.nb, 0, none⟩)]) := by rw [cell_of_heap h.hm]; rfl
  have tj : ((j : Int) == (E.items.length : Int)) = false := by rw [beq_eq_false_iff_ne]; omega
  obtain ⟨R, hR⟩ : ∃ R, R = matchM (bytesOf E.s) E.fin (E.items.drop j) i (n, cs) := ⟨_, rfl⟩
  rw [← hR]
  obtain ⟨it, hit⟩ : ∃ it, it = itemAt E j := ⟨_, rfl⟩
  have hR2 : R = if n + 1 ≤ maxSteps then itemRun (bytesOf E.s) it (nextM E j) i (n + 1, cs) else none := by
    rw [hR, List.drop_eq_getElem_cons hj, ← itemAt_eq E j hj, hit]; rfl
  have hiw := item_wf hwf j hj
  have hst := st_next E j hj
  have HP2 := Lib.hid (spend_m ok h hn)
  have HM := Lib.hid hm
  rw [← hit] at hiw hst hk
  have HC := Lib.hid hcell
  have HV := Lib.hid hv
  clear hR hcell hv h hm
  by_cases hlim : n + 1 ≤ maxSteps
  · rw [if_pos hlim] at hR2
    have hss : (itemAt E j).sets = true := by rw [← hit]; unfold Item.sets; rw [hk]; rfl
    obtain ⟨fv, caps, hval, hcf, hp⟩ := ok.pred hj hss (Below.refl _ _)
    have HVAL := Lib.hid hval
    have HSS := Lib.hid hss
    clear hcf hp hval hss
    have HCO := Lib.hid (show CapW E (j + 1) i cs from by unfold CapW; rw [hst]; exact hco.other (by omega))
    have HR := Lib.hid (show R = if frontM (bytesOf E.s) (itemAt E j).one i then nextM E j i (n + 1, cs) else some (none, (n + 1, cs)) from by rw [hR2]; unfold itemRun; rw [if_neg (by omega), if_neg (by omega), if_neg (by omega), if_neg (by omega), if_pos hk, hit])
    have t1 : ((it.kind : Int) == 1) = false := by rw [hk]; rfl
    have t2 : ((it.kind : Int) == 2) = false := by rw [hk]; rfl
    have t3 : ((it.kind : Int) == 3) = false := by rw [hk]; rfl
    have t4 : ((it.kind : Int) == 4) = false := by rw [hk]; rfl
    have t5 : ((it.kind : Int) == 5) = true := by rw [hk]; rfl
    have HIT := Lib.hid hit
    clear hR2 hit hk hco hst hiw
    go_enter Tryd.func54, Tryd.ntmps54
    go_wp2_with fail
    refine HP2.out.mono ?_
    rintro e w1 ⟨rfl, h1, hF1⟩
    rw [decide_eq_true hlim]
    have m0 : w1.cell? ⟨E.mb, 0, none⟩ = some (.slice (some ⟨g, 0, none⟩) E.items.length cap) := by rw [cell_of_heap h1.hm, HV.out]; rfl
    have c0 : w1.cell? ⟨g, j * 6, none⟩ = some (.int .i64 it.kind) := by have := HC.out w1 _ cs h1 0 (by omega); rw [HVAL.out, ← HIT.out] at this; exact this
    have c1 : w1.cell? ⟨g, j * 6 + 1, none⟩ = some (.int .i64 it.n) := by have := HC.out w1 _ cs h1 1 (by omega); rw [HVAL.out, ← HIT.out] at this; exact this
    have c2 : w1.cell? ⟨g, j * 6 + 2, none⟩ = some (.int .u8 it.x) := by have := HC.out w1 _ cs h1 2 (by omega); rw [HVAL.out, ← HIT.out] at this; exact this
    have c3 : w1.cell? ⟨g, j * 6 + 3, none⟩ = some (.int .u8 it.y) := by have := HC.out w1 _ cs h1 3 (by omega); rw [HVAL.out, ← HIT.out] at this; exact this
    have c4 : w1.cell? ⟨g, j * 6 + 4, none⟩ = some (.func (.func fv) #[] caps) := by have := HC.out w1 _ cs h1 4 (by omega); rw [HVAL.out, ← HIT.out] at this; exact this
    have c5 : w1.cell? ⟨g, j * 6 + 5, none⟩ = some (.int .u8 it.how) := by have := HC.out w1 _ cs h1 5 (by omega); rw [HVAL.out, ← HIT.out] at this; exact this
    have hmb : E.mb < w1.heap.size := (Array.getElem?_eq_some_iff.1 h1.hm).1
    have hg1 : g < w1.heap.size := Nat.lt_of_lt_of_le hg h1.below.size
    have hbw : Below w1.heap.size w1 (w1.alloc (.cells #[.int .i64 it.kind, .int .i64 it.n, .int .u8 it.x, .int .u8 it.y, (.func (.func fv) #[] caps), .int .u8 it.how] 106)) := (Below.refl _ _).alloc (Nat.le_refl _) _
    have H2 := Lib.hid (h1.grow hbw)
    have HF2 := Lib.hid (hF1.trans (Fr.below hbw))
    clear h1 hF1 hbw
    go_wp2_with fail
    refine (frontier_c ok hj HSS.out HM.out H2.out hlim _ _ i hi rfl rfl HCO.out R HR.out).mono ?_
    intro e w9 hpost
    obtain ⟨x, bb, rfl⟩ := hpost.shape
    have HPO := Lib.hid hpost
    clear hpost
    go_wp2
    go_ret2
    exact HPO.out.after HF2.out
  · rw [if_neg hlim] at hR2
    have HR := Lib.hid hR2
    clear hR2 hit hk hco hst hiw
    go_enter Tryd.func54, Tryd.ntmps54
    go_wp2_with fail
    refine HP2.out.mono ?_
    rintro e w1 ⟨rfl, h1, hF1⟩
    rw [decide_eq_false hlim]
    have H1 := Lib.hid h1
    have HF1 := Lib.hid hF1
    clear h1 hF1
    go_wp2
    go_ret2
    exact mp_over HR.out HF1.out (by omega) (by omega) H1.out

set_option maxRecDepth 100000 in
set_option maxHeartbeats 4000000 in
theorem match_back {E : MEnv} (ok : MOK E) (hwf : WfItems E.K st0 E.items) {j : Nat} (hj : j < E.items.length) (hm : MatchOK E (j + 1)) (hk : (itemAt E j).kind = 6) : MatchOK E j := by
  intro w n cs a b i h hn hi hco ha hb
  subst ha hb
  obtain ⟨g, cap, hv, hg, hcell⟩ := ok.row hj
  have hl := ok.len
  have hsl := ok.sl
  have hkk := ok.kk
  have m6 : w.cell? ⟨E.mb, 6, none⟩ = some (.func (.func 52) #[] #[.pointer (some ⟨E.nb, 0, none⟩)]) := by rw [cell_of_heap h.hm]; rfl
  have tj : ((j : Int) == (E.items.length : Int)) = false := by rw [beq_eq_false_iff_ne]; omega
  obtain ⟨R, hR⟩ : ∃ R, R = matchM (bytesOf E.s) E.fin (E.items.drop j) i (n, cs) := ⟨_, rfl⟩
  rw [← hR]
  obtain ⟨it, hit⟩ : ∃ it, it = itemAt E j := ⟨_, rfl⟩
  have hR2 : R = if n + 1 ≤ maxSteps then itemRun (bytesOf E.s) it (nextM E j) i (n + 1, cs) else none := by
    rw [hR, List.drop_eq_getElem_cons hj, ← itemAt_eq E j hj, hit]; rfl
  have hiw := item_wf hwf j hj
  have hst := st_next E j hj
  have HP2 := Lib.hid (spend_m ok h hn)
  have HM := Lib.hid hm
  rw [← hit] at hiw hst hk
  have HC := Lib.hid hcell
  have HV := Lib.hid hv
  clear hR hcell hv h hm
  by_cases hlim : n + 1 ≤ maxSteps
  · rw [if_pos hlim] at hR2
    have hss : (itemAt E j).sets = false := by rw [← hit]; unfold Item.sets; rw [hk]; rfl
    have HVAL := Lib.hid (item_nil ok hj hss)
    have HSS := Lib.hid hss
    clear hss
    have HCO := Lib.hid (show CapW E (j + 1) i cs from by unfold CapW; rw [hst]; exact hco.other (by omega))
    obtain ⟨hnK, hst1⟩ := hiw.h6 hk
    obtain ⟨ho, hf0, hf1, hf2⟩ := hco.c2 _ hst1
    obtain ⟨f0, hf⟩ : ∃ f0 : Nat, (f0 : Int) = (cs.getD it.n zeroCap).f := ⟨(cs.getD it.n zeroCap).f.toNat, by omega⟩
    obtain ⟨t0, ht⟩ : ∃ t0 : Nat, (t0 : Int) = (cs.getD it.n zeroCap).t := ⟨(cs.getD it.n zeroCap).t.toNat, by omega⟩
    have hft : f0 ≤ t0 := by omega
    have hti : t0 ≤ i := by omega
    have hti' : t0 ≤ E.s.size := by omega
    have hback : backM (bytesOf E.s) (cs.getD it.n zeroCap) = bytesOf (E.s.extract f0 t0) := by
      unfold backM
      rw [bytesOf_extract, show (cs.getD it.n zeroCap).f.toNat = f0 by omega, show ((cs.getD it.n zeroCap).t - (cs.getD it.n zeroCap).f).toNat = t0 - f0 by omega]
    have hpre : (bytesOf (E.s.extract f0 t0)).isPrefixOf ((bytesOf E.s).drop i) = prefB (E.s.extract i E.s.size) (E.s.extract f0 t0) := by
      unfold prefB
      rw [bytesOf_extract E.s i E.s.size, List.take_of_length_le (by rw [List.length_drop, bytesOf_length]; omega)]
    have hlen : (bytesOf (E.s.extract f0 t0)).length = t0 - f0 := by rw [bytesOf_extract, List.length_take, List.length_drop, bytesOf_length]; omega
    have HR := Lib.hid (show R = if prefB (E.s.extract i E.s.size) (E.s.extract f0 t0) then nextM E j (i + (t0 - f0)) (n + 1, cs) else some (none, (n + 1, cs)) from by
      rw [hR2]; unfold itemRun; rw [if_neg (by omega), if_neg (by omega), if_neg (by omega), if_neg (by omega), if_neg (by omega), if_pos hk]
      simp only []
      rw [hback, hpre, hlen])
    have hfit : prefB (E.s.extract i E.s.size) (E.s.extract f0 t0) = true → i + (t0 - f0) ≤ E.s.size := fun h => by
      have := prefix_len h
      rw [hlen, bytesOf_extract, List.length_take, List.length_drop, bytesOf_length] at this
      omega
    have HFIT := Lib.hid hfit
    have HF := Lib.hid hf
    have HT := Lib.hid ht
    have HO := Lib.hid ho
    have hsz : (E.s.extract f0 t0).size = t0 - f0 := by rw [← bytesOf_length]; exact hlen
    have HSZ := Lib.hid hsz
    clear hback hpre hlen hfit hf ht ho hf0 hf1 hf2 hsz
    have t1 : ((it.kind : Int) == 1) = false := by rw [hk]; rfl
    have t2 : ((it.kind : Int) == 2) = false := by rw [hk]; rfl
    have t3 : ((it.kind : Int) == 3) = false := by rw [hk]; rfl
    have t4 : ((it.kind : Int) == 4) = false := by rw [hk]; rfl
    have t5 : ((it.kind : Int) == 5) = false := by rw [hk]; rfl
    have t6 : ((it.kind : Int) == 6) = true := by rw [hk]; rfl
    have HIT := Lib.hid hit
    clear hR2 hit hk hco hst hiw
    go_enter Tryd.func54, Tryd.ntmps54
    go_wp2_with fail
    refine HP2.out.mono ?_
    rintro e w1 ⟨rfl, h1, hF1⟩
    rw [decide_eq_true hlim]
    have m0 : w1.cell? ⟨E.mb, 0, none⟩ = some (.slice (some ⟨g, 0, none⟩) E.items.length cap) := by rw [cell_of_heap h1.hm, HV.out]; rfl
    have c0 : w1.cell? ⟨g, j * 6, none⟩ = some (.int .i64 it.kind) := by have := HC.out w1 _ cs h1 0 (by omega); rw [HVAL.out, ← HIT.out] at this; exact this
    have c1 : w1.cell? ⟨g, j * 6 + 1, none⟩ = some (.int .i64 it.n) := by have := HC.out w1 _ cs h1 1 (by omega); rw [HVAL.out, ← HIT.out] at this; exact this
    have c2 : w1.cell? ⟨g, j * 6 + 2, none⟩ = some (.int .u8 it.x) := by have := HC.out w1 _ cs h1 2 (by omega); rw [HVAL.out, ← HIT.out] at this; exact this
    have c3 : w1.cell? ⟨g, j * 6 + 3, none⟩ = some (.int .u8 it.y) := by have := HC.out w1 _ cs h1 3 (by omega); rw [HVAL.out, ← HIT.out] at this; exact this
    have c4 : w1.cell? ⟨g, j * 6 + 4, none⟩ = some .nilFunc := by have := HC.out w1 _ cs h1 4 (by omega); rw [HVAL.out, ← HIT.out] at this; exact this
    have c5 : w1.cell? ⟨g, j * 6 + 5, none⟩ = some (.int .u8 it.how) := by have := HC.out w1 _ cs h1 5 (by omega); rw [HVAL.out, ← HIT.out] at this; exact this
    have m5 : w1.cell? ⟨E.mb, 5, none⟩ = some (.slice (some ⟨E.cb, 0, none⟩) E.K E.K) := by rw [cell_of_heap h1.hm]; rfl
    obtain ⟨p1, p2⟩ := h1.capf it.n hnK
    rw [← HF.out] at p1
    rw [HO.out] at p2
    rw [if_neg (by decide)] at p2
    rw [← HT.out] at p2
    have m4 : w1.cell? ⟨E.mb, 4, none⟩ = some (.string E.s) := by rw [cell_of_heap h1.hm]; rfl
    have hcb : E.cb < w1.heap.size := (Array.getElem?_eq_some_iff.1 h1.hc).1
    have hmb : E.mb < w1.heap.size := (Array.getElem?_eq_some_iff.1 h1.hm).1
    have hg1 : g < w1.heap.size := Nat.lt_of_lt_of_le hg h1.below.size
    have hbw : Below w1.heap.size w1 (w1.alloc (.cells #[.int .i64 it.kind, .int .i64 it.n, .int .u8 it.x, .int .u8 it.y, .nilFunc, .int .u8 it.how] 106)) := (Below.refl _ _).alloc (Nat.le_refl _) _
    have H2 := Lib.hid (h1.grow hbw)
    have HF2 := Lib.hid (hF1.trans (Fr.below hbw))
    clear h1 hF1 hbw
    cases hpf : prefB (E.s.extract i E.s.size) (E.s.extract f0 t0) with
    | true =>
      have HPF := Lib.hid hpf
      have HRR := Lib.hid (show R = nextM E j (i + (t0 - f0)) (n + 1, cs) from by rw [HR.out, hpf]; rfl)
      clear hpf
      go_wp2
      refine wp_region_lex mixed (by kernel_rfl) ?_
      go_wp2
      refine ⟨by kernel_rfl, ?_⟩
      go_wp2_with (go_at_call 72; refine (prefix_c _ _ _).mono ?_; rintro e w' ⟨rfl, rfl⟩; rw [HPF.out])
      refine (HM.out _ (n + 1) cs _ _ (i + (t0 - f0)) H2.out.drew hlim (HFIT.out HPF.out) (HCO.out.mono (by omega)) (by omega) (by omega)).mono ?_
      intro e w9 hpost
      obtain ⟨x, bb, rfl⟩ := hpost.shape
      have HPO := Lib.hid hpost
      clear hpost
      go_wp2
      go_ret2
      exact (by rw [HRR.out]; exact HPO.out.after HF2.out.drew)
    | false =>
      have HPF := Lib.hid hpf
      have HRR := Lib.hid (show R = some (none, (n + 1, cs)) from by rw [HR.out, hpf]; rfl)
      clear hpf
      go_wp2
      refine wp_region_lex mixed (by kernel_rfl) ?_
      go_wp2
      refine ⟨by kernel_rfl, ?_⟩
      go_wp2_with (go_at_call 72; refine (prefix_c _ _ _).mono ?_; rintro e w' ⟨rfl, rfl⟩; rw [HPF.out])
      go_ret2
      exact mp_no HRR.out HF2.out.drew hlim H2.out.drew
  · rw [if_neg hlim] at hR2
    have HR := Lib.hid hR2
    clear hR2 hit hk hco hst hiw
    go_enter Tryd.func54, Tryd.ntmps54
    go_wp2_with fail
    refine HP2.out.mono ?_
    rintro e w1 ⟨rfl, h1, hF1⟩
    rw [decide_eq_false hlim]
    have H1 := Lib.hid h1
    have HF1 := Lib.hid hF1
    clear h1 hF1
    go_wp2
    go_ret2
    exact mp_over HR.out HF1.out (by omega) (by omega) H1.out

set_option maxRecDepth 100000 in
set_option maxHeartbeats 4000000 in
theorem match_single {E : MEnv} (ok : MOK E) (hwf : WfItems E.K st0 E.items) {j : Nat} (hj : j < E.items.length) (hm : MatchOK E (j + 1)) (hk : (itemAt E j).kind = 7) : MatchOK E j := by
  intro w n cs a b i h hn hi hco ha hb
  subst ha hb
  obtain ⟨g, cap, hv, hg, hcell⟩ := ok.row hj
  have hl := ok.len
  have hsl := ok.sl
  have hkk := ok.kk
  have m6 : w.cell? ⟨E.mb, 6, none⟩ = some (.func (.func 52) #[] #[.pointer (some ⟨E.nb, 0, none⟩)]) := by rw [cell_of_heap h.hm]; rfl
  have tj : ((j : Int) == (E.items.length : Int)) = false := by rw [beq_eq_false_iff_ne]; omega
  obtain ⟨R, hR⟩ : ∃ R, R = matchM (bytesOf E.s) E.fin (E.items.drop j) i (n, cs) := ⟨_, rfl⟩
  rw [← hR]
  obtain ⟨it, hit⟩ : ∃ it, it = itemAt E j := ⟨_, rfl⟩
  have hR2 : R = if n + 1 ≤ maxSteps then itemRun (bytesOf E.s) it (nextM E j) i (n + 1, cs) else none := by
    rw [hR, List.drop_eq_getElem_cons hj, ← itemAt_eq E j hj, hit]; rfl
  have hiw := item_wf hwf j hj
  have hst := st_next E j hj
  have HP2 := Lib.hid (spend_m ok h hn)
  have HM := Lib.hid hm
  rw [← hit] at hiw hst hk
  have HC := Lib.hid hcell
  have HV := Lib.hid hv
  clear hR hcell hv h hm
  by_cases hlim : n + 1 ≤ maxSteps
  · rw [if_pos hlim] at hR2
    have hss : (itemAt E j).sets = true := by rw [← hit]; unfold Item.sets; rw [hk]; rfl
    obtain ⟨fv, caps, hval, hcf, hp⟩ := ok.pred hj hss (Below.refl _ _)
    have HVAL := Lib.hid hval
    have HSS := Lib.hid hss
    clear hcf hp hval hss
    have HCO := Lib.hid (show CapW E (j + 1) i cs from by unfold CapW; rw [hst]; exact hco.other (by omega))
    have HR := Lib.hid (show R = singleRun (bytesOf E.s) (itemAt E j).one (itemAt E j).how (nextM E j) i (n + 1, cs) from by rw [hR2]; unfold itemRun; rw [if_neg (by omega), if_neg (by omega), if_neg (by omega), if_neg (by omega), if_neg (by omega), if_neg (by omega), hit])
    have t1 : ((it.kind : Int) == 1) = false := by rw [hk]; rfl
    have t2 : ((it.kind : Int) == 2) = false := by rw [hk]; rfl
    have t3 : ((it.kind : Int) == 3) = false := by rw [hk]; rfl
    have t4 : ((it.kind : Int) == 4) = false := by rw [hk]; rfl
    have t5 : ((it.kind : Int) == 5) = false := by rw [hk]; rfl
    have t6 : ((it.kind : Int) == 6) = false := by rw [hk]; rfl
    have HIT := Lib.hid hit
    clear hR2 hit hk hco hst hiw
    go_enter Tryd.func54, Tryd.ntmps54
    go_wp2_with fail
    refine HP2.out.mono ?_
    rintro e w1 ⟨rfl, h1, hF1⟩
    rw [decide_eq_true hlim]
    have m0 : w1.cell? ⟨E.mb, 0, none⟩ = some (.slice (some ⟨g, 0, none⟩) E.items.length cap) := by rw [cell_of_heap h1.hm, HV.out]; rfl
    have c0 : w1.cell? ⟨g, j * 6, none⟩ = some (.int .i64 it.kind) := by have := HC.out w1 _ cs h1 0 (by omega); rw [HVAL.out, ← HIT.out] at this; exact this
    have c1 : w1.cell? ⟨g, j * 6 + 1, none⟩ = some (.int .i64 it.n) := by have := HC.out w1 _ cs h1 1 (by omega); rw [HVAL.out, ← HIT.out] at this; exact this
    have c2 : w1.cell? ⟨g, j * 6 + 2, none⟩ = some (.int .u8 it.x) := by have := HC.out w1 _ cs h1 2 (by omega); rw [HVAL.out, ← HIT.out] at this; exact this
    have c3 : w1.cell? ⟨g, j * 6 + 3, none⟩ = some (.int .u8 it.y) := by have := HC.out w1 _ cs h1 3 (by omega); rw [HVAL.out, ← HIT.out] at this; exact this
    have c4 : w1.cell? ⟨g, j * 6 + 4, none⟩ = some (.func (.func fv) #[] caps) := by have := HC.out w1 _ cs h1 4 (by omega); rw [HVAL.out, ← HIT.out] at this; exact this
    have c5 : w1.cell? ⟨g, j * 6 + 5, none⟩ = some (.int .u8 it.how) := by have := HC.out w1 _ cs h1 5 (by omega); rw [HVAL.out, ← HIT.out] at this; exact this
    have hmb : E.mb < w1.heap.size := (Array.getElem?_eq_some_iff.1 h1.hm).1
    have hg1 : g < w1.heap.size := Nat.lt_of_lt_of_le hg h1.below.size
    have hbw : Below w1.heap.size w1 (w1.alloc (.cells #[.int .i64 it.kind, .int .i64 it.n, .int .u8 it.x, .int .u8 it.y, (.func (.func fv) #[] caps), .int .u8 it.how] 106)) := (Below.refl _ _).alloc (Nat.le_refl _) _
    have H2 := Lib.hid (h1.grow hbw)
    have HF2 := Lib.hid (hF1.trans (Fr.below hbw))
    clear h1 hF1 hbw
    go_wp2_with fail
    refine (single_m ok hwf hj HSS.out HM.out H2.out hlim _ _ i hi rfl rfl HCO.out R HR.out).mono ?_
    intro e w9 hpost
    obtain ⟨x, bb, rfl⟩ := hpost.shape
    have HPO := Lib.hid hpost
    clear hpost
    go_wp2
    go_ret2
    exact HPO.out.after HF2.out
  · rw [if_neg hlim] at hR2
    have HR := Lib.hid hR2
    clear hR2 hit hk hco hst hiw
    go_enter Tryd.func54, Tryd.ntmps54
    go_wp2_with fail
    refine HP2.out.mono ?_
    rintro e w1 ⟨rfl, h1, hF1⟩
    rw [decide_eq_false hlim]
    have H1 := Lib.hid h1
    have HF1 := Lib.hid hF1
    clear h1 hF1
    go_wp2
    go_ret2
    exact mp_over HR.out HF1.out (by omega) (by omega) H1.out

theorem match_c {E : MEnv} (ok : MOK E) (hwf : WfItems E.K st0 E.items) : ∀ (d j : Nat), j + d = E.items.length → MatchOK E j
  | 0, j, h => by
    obtain rfl : E.items.length = j := by omega
    exact match_last ok
  | d + 1, j, h => by
    have hj : j < E.items.length := by omega
    have hm := match_c ok hwf d (j + 1) (by omega)
    have hw := item_wf hwf j hj
    have k1 := hw.k1
    have k7 := hw.k7
    rcases (show (itemAt E j).kind = 1 ∨ (itemAt E j).kind = 2 ∨ (itemAt E j).kind = 3 ∨ (itemAt E j).kind = 4 ∨ (itemAt E j).kind = 5 ∨ (itemAt E j).kind = 6 ∨ (itemAt E j).kind = 7 by omega) with k | k | k | k | k | k | k
    · exact match_open ok hwf hj hm k
    · exact match_shut ok hwf hj hm k
    · exact match_place ok hwf hj hm k
    · exact match_bal ok hwf hj hm k
    · exact match_front ok hwf hj hm k
    · exact match_back ok hwf hj hm k
    · exact match_single ok hwf hj hm k
end Go.Proofs.YtpbhncmaamedhaaDoor

