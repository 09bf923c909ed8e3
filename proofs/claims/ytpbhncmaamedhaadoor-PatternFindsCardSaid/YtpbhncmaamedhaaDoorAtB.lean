import Derived.Test.YtpbhncmaamedhaaDoorNew
import Derived.Test.YtpbhncmaamedhaaDoorMaF
namespace Go.Proofs.YtpbhncmaamedhaaDoor
open Go.RowKit Go.Proofs.Lexi

theorem capInv0 (E : MEnv) (i : Nat) : CapW E 0 i (List.replicate E.K zeroCap) :=
  ⟨by simp, fun k h => by simp [stEnd, st0] at h, fun k h => by simp [stEnd, st0] at h, fun k h => by simp [stEnd, st0] at h⟩
theorem flat_len : ∀ cs : List ACap, (cs.flatMap capP).length = cs.length * 2
  | [] => rfl
  | c :: cs => by simp only [List.flatMap_cons, List.length_append, flat_len cs, List.length_cons]; simp [capP]; omega
theorem cap_one (cs : List ACap) : ∀ u ∈ cs.flatMap capP, u.oneCell' = true := by
  intro u hu
  simp only [List.mem_flatMap] at hu
  obtain ⟨c, _, hu⟩ := hu
  simp only [capP, List.mem_cons, List.not_mem_nil, or_false] at hu
  rcases hu with rfl | rfl <;> rfl
theorem caps_cells {E : MEnv} {w : World} {n : Nat} {cs : List ACap} (h : MSt E w n cs) : ∀ j u, (cs.flatMap capP)[j]? = some u → w.cell? ((⟨E.cb, 0, none⟩ : Addr).add j) = some u := by
  intro j u hj
  have e : (⟨E.cb, 0, none⟩ : Addr).add j = ⟨E.cb, j, none⟩ := by unfold Addr.add; split <;> simp_all
  rw [e, cell_of_heap h.hc]
  simpa [capCells] using hj
theorem Fr.grown {E : MEnv} {w w' : World} (hg : w.grownBy w' none) : Fr E w w' := ⟨hg.size, fun b hb _ _ => hg.block b hb (by simp)⟩
theorem MSt.grown {E : MEnv} {w w' : World} {n : Nat} {cs : List ACap} (h : MSt E w n cs) (hg : w.grownBy w' none) : MSt E w' n cs :=
  h.grow ⟨hg.os, hg.tape, hg.output, hg.size, fun k hk => hg.block k hk (by simp)⟩
theorem AtPost.after {E : MEnv} {w w0 w' : World} {i : Nat} {R : MR} {e : Ending} (hf : Fr E w w0) (h : AtPost E w0 i R e w') (hs : w.heap.size ≤ w0.heap.size) : AtPost E w i R e w' := by
  refine ⟨hf.trans h.1, ?_⟩
  have h2 := h.2
  match R, h2 with
  | none, h2 => exact h2
  | some (some k, (n, cs)), ⟨v, h1, h2, h3, h4, h5⟩ =>
    refine ⟨v, h1, h2, h3, ⟨h4.1, ?_⟩, h5⟩
    rcases h4.2 with h | ⟨g, cap, cur, a, b, c⟩
    · exact .inl h
    · exact .inr ⟨g, cap, cur, a, by omega, c⟩
  | some (none, (n, cs)), h2 => exact h2
theorem MSt.seto {E : MEnv} {w : World} {n : Nat} {cs : List ACap} (h : MSt E w n cs) {b : Nat} (hb : E.w0.heap.size ≤ b) (h1 : E.mb ≠ b) (h2 : E.nb ≠ b) (h3 : E.cb ≠ b) (k : Nat) (v : Value) : MSt E (w.setCell ⟨b, k, none⟩ v) n cs :=
  ⟨h.below.setCell hb _, by rw [Below.heap_setCell _ _ _ _ h1]; exact h.hm, by rw [Below.heap_setCell _ _ _ _ h2]; exact h.hn, by rw [Below.heap_setCell _ _ _ _ h3]; exact h.hc, h.cl⟩
theorem Fr.seto {E : MEnv} {w w' : World} (h : Fr E w w') {b : Nat} (hb : w.heap.size ≤ b) (k : Nat) (v : Value) : Fr E w (w'.setCell ⟨b, k, none⟩ v) :=
  ⟨by simpa using h.size, fun i hi h1 h2 => by rw [Below.heap_setCell _ _ _ _ (show i ≠ b by omega)]; exact h.block i hi h1 h2⟩
/-- Three stores into a block of the call's own. -/
abbrev set3 (w : World) (b : Nat) (x y z : Value) : World := ((w.setCell ⟨b, 0, none⟩ x).setCell ⟨b, 1, none⟩ y).setCell ⟨b, 2, none⟩ z
theorem MSt.set3 {E : MEnv} {w : World} {n : Nat} {cs : List ACap} (h : MSt E w n cs) {b : Nat} (hb : E.w0.heap.size ≤ b) (h1 : E.mb ≠ b) (h2 : E.nb ≠ b) (h3 : E.cb ≠ b) (x y z : Value) : MSt E (set3 w b x y z) n cs := ((h.seto hb h1 h2 h3 _ _).seto hb h1 h2 h3 _ _).seto hb h1 h2 h3 _ _
theorem Fr.set3 {E : MEnv} {w w' : World} (h : Fr E w w') {b : Nat} (hb : w.heap.size ≤ b) (x y z : Value) : Fr E w (set3 w' b x y z) := ((h.seto hb _ _).seto hb _ _).seto hb _ _
theorem at_over {E : MEnv} {w w' : World} {i : Nat} {R : MR} {n : Nat} {cs : List ACap} (hR : R = none) (hf : Fr E w w') (h1 : maxSteps < n) (h2 : n ≤ maxSteps + 1) (h : MSt E w' n cs) : AtPost E w i R (.returned (.tuple #[zeroMatch, .bool false, .int .i64 3])) w' := by
  subst hR; exact ⟨hf, n, cs, rfl, h1, h2, h⟩
theorem at_no {E : MEnv} {w w' : World} {i : Nat} {R : MR} {n : Nat} {cs : List ACap} (hR : R = some (none, (n, cs))) (hf : Fr E w w') (h1 : n ≤ maxSteps) (h : MSt E w' n cs) : AtPost E w i R (.returned (.tuple #[zeroMatch, .bool false, .int .i64 0])) w' := by
  subst hR; exact ⟨hf, rfl, h1, h⟩
theorem at_yes {E : MEnv} {w w' : World} {i : Nat} {R : MR} {k n : Nat} {cs : List ACap} {v : Value} (hR : R = some (some k, (n, cs))) (hf : Fr E w w') (h1 : n ≤ maxSteps) (hk : k ≤ E.s.size) (hv : CapsIn w' w.heap.size v cs) (h : MSt E w' n cs) : AtPost E w i R (.returned (.tuple #[.agg #[.int .i64 (i : Int), .int .i64 (k : Int), v], .bool true, .int .i64 0])) w' := by
  subst hR; exact ⟨hf, v, rfl, h1, hk, hv, h⟩
set_option maxRecDepth 100000 in
set_option maxHeartbeats 4000000 in
theorem at_c {E : MEnv} (ok : MOK E) (hwf : WfItems E.K st0 E.items) {w : World} {n : Nat} {cs : List ACap} (h : MSt E w n cs) (hn : n ≤ maxSteps) (a : Int) (i : Nat) (ha : a = i) (hi : i ≤ E.s.size) (R : MR) (hR : R = runM E i n) :
    Calls Tryd.prog 30 #[.pointer (some ⟨E.mb, 0, none⟩), .int .i64 a] w (AtPost E w i R) := by
  subst ha
  obtain ⟨i0, hi0, hz0, hz1, hz2⟩ := info_parts Tryd.info43
  have hkk := ok.kk
  have hw1 : MSt E (w.alloc (.cells #[.int .i64 0, .int .i64 0, .slice none 0 0] 29)) n cs := h.grow ((Below.refl _ _).alloc (Nat.le_refl _) _)
  obtain ⟨wc, hcl, hwc, hFc, hsz⟩ := clear_caps ok hw1
  have m5 : w.cell? ⟨E.mb, 5, none⟩ = some (.slice (some ⟨E.cb, 0, none⟩) E.K E.K) := by rw [cell_of_heap h.hm]; rfl
  have hmb : E.mb < w.heap.size := (Array.getElem?_eq_some_iff.1 h.hm).1
  have hnb : E.nb < w.heap.size := (Array.getElem?_eq_some_iff.1 h.hn).1
  have hcb : E.cb < w.heap.size := (Array.getElem?_eq_some_iff.1 h.hc).1
  have HM := Lib.hid (match_c ok hwf E.items.length 0 (by omega) wc n _ 0 (i : Int) i hwc hn hi (capInv0 E i) rfl rfl)
  have HR := Lib.hid (show R = matchM (bytesOf E.s) E.fin (E.items.drop 0) i (n, List.replicate E.K zeroCap) from hR)
  have hF0 : Fr E w wc := (Fr.below ((Below.refl _ _).alloc (Nat.le_refl _) _)).trans hFc
  have hcell : wc.heap[w.heap.size]? = some (.cells #[.int .i64 0, .int .i64 0, .slice none 0 0] 29) := by
    rw [hFc.block _ (by simp) (by omega) (by omega)]; exact heap_new _ _
  have HCELL := Lib.hid hcell
  have HF0 := Lib.hid hF0
  have hszc : w.heap.size + 1 = wc.heap.size := by rw [hsz]; simp
  have HSZ := Lib.hid hszc
  clear hR hwc hFc h hw1 hF0 hcell hsz hszc
  go_enter Tryd.func30, Tryd.ntmps30
  go_wp2_with (simp only [hcl])
  clear hcl m5
  go_wp2_with fail
  refine HM.out.mono ?_
  rintro e w1 ⟨hF1, hp⟩
  rw [← HR.out] at hp
  have hs1 := hF1.size
  have hsw := HSZ.out
  have hcell1 : w1.heap[w.heap.size]? = some (.cells #[.int .i64 0, .int .i64 0, .slice none 0 0] 29) := (hF1.block _ (by omega) (by omega) (by omega)).trans HCELL.out
  have q0 : w1.cell? ⟨w.heap.size, 0, none⟩ = some (.int .i64 0) := by rw [cell_of_heap hcell1]; rfl
  have q1 : w1.cell? ⟨w.heap.size, 1, none⟩ = some (.int .i64 0) := by rw [cell_of_heap hcell1]; rfl
  have q2 : w1.cell? ⟨w.heap.size, 2, none⟩ = some (.slice none 0 0) := by rw [cell_of_heap hcell1]; rfl
  have z0 : ∀ k, w1.frozen? ⟨w.heap.size, k, none⟩ = false := fun k => by simp [World.frozen?, hcell1]
  have z00 := z0 0
  have z01 := z0 1
  have z02 := z0 2
  have HF1 := Lib.hid (HF0.out.trans hF1)
  have HC1 := Lib.hid hcell1
  have hlt : w.heap.size < w1.heap.size := by omega
  have hw0 := ok.mb0
  have hb0 : E.w0.heap.size ≤ w.heap.size := by omega
  have n1 : E.mb ≠ w.heap.size := by omega
  have n2 : E.nb ≠ w.heap.size := by omega
  have n3 : E.cb ≠ w.heap.size := by omega
  clear hF1 z0 hcell1 hsw HM HR HF0 HCELL
  cases hr : R with
  | none =>
    rw [hr] at hp
    have HRR := Lib.hid hr
    obtain ⟨x, n', cs', rfl, hn3, hn4, h2⟩ := hp
    have m7 : w1.cell? ⟨E.mb, 7, none⟩ = some (.func (.func 53) #[] #[.pointer (some ⟨E.nb, 0, none⟩)]) := by rw [cell_of_heap h2.hm]; rfl
    have H2 := Lib.hid h2
    have HV := Lib.hid (over_c h2)
    have HDD := Lib.hid (decide_eq_true hn3)
    clear hr h2
    go_wp2_with (go_at_call 53; refine HV.out.mono ?_; rintro e w' ⟨rfl, rfl⟩; rw [HDD.out])
    refine bodyPost_ret (v := .tuple #[zeroMatch, .bool false, .int .i64 3]) (by simp [results, Tryd.results30, go_sem, q0, q1, q2, zeroMatch]) rfl ?_
    exact at_over HRR.out (HF1.out.set3 (Nat.le_refl _) _ _ _) hn3 hn4 (H2.out.set3 hb0 n1 n2 n3 _ _ _)
  | some qq =>
    obtain ⟨o, n', cs'⟩ := qq
    rw [hr] at hp
    have HRR := Lib.hid hr
    cases o with
    | none =>
      obtain ⟨x, rfl, hn3, h2⟩ := hp
      have m7 : w1.cell? ⟨E.mb, 7, none⟩ = some (.func (.func 53) #[] #[.pointer (some ⟨E.nb, 0, none⟩)]) := by rw [cell_of_heap h2.hm]; rfl
      have H2 := Lib.hid h2
      have HV := Lib.hid (over_c h2)
      have HDD := Lib.hid (decide_eq_false (show ¬ maxSteps < n' by omega))
      clear hr h2
      go_wp2_with (go_at_call 53; refine HV.out.mono ?_; rintro e w' ⟨rfl, rfl⟩; rw [HDD.out])
      refine bodyPost_ret (v := .tuple #[zeroMatch, .bool false, .int .i64 0]) (by simp [results, Tryd.results30, go_sem, q0, q1, q2, zeroMatch]) rfl ?_
      exact at_no HRR.out (HF1.out.set3 (Nat.le_refl _) _ _ _) hn3 (H2.out.set3 hb0 n1 n2 n3 _ _ _)
    | some k =>
      obtain ⟨rfl, hn3, hk2, h2⟩ := hp
      have m7 : w1.cell? ⟨E.mb, 7, none⟩ = some (.func (.func 53) #[] #[.pointer (some ⟨E.nb, 0, none⟩)]) := by rw [cell_of_heap h2.hm]; rfl
      have m5 : w1.cell? ⟨E.mb, 5, none⟩ = some (.slice (some ⟨E.cb, 0, none⟩) E.K E.K) := by rw [cell_of_heap h2.hm]; rfl
      have H2 := Lib.hid h2
      have HV := Lib.hid (over_c h2)
      have HDD := Lib.hid (decide_eq_false (show ¬ maxSteps < n' by omega))
      have HCC := Lib.hid (caps_cells h2)
      have HCL := Lib.hid h2.cl
      clear hr h2
      go_wp2_with (first | (go_at_call 53; refine HV.out.mono ?_; rintro e w' ⟨rfl, rfl⟩; rw [HDD.out]) | (at_builtin; refine wpList_append_own_at _ rfl (.const (.slice none 0 0)) (.tmp 33) 27 rfl (w.heap.size + 1) 43 i0 _ 2 16 Tryd.underlying27 hi0 hz0 hz1 hz2 rfl (by decide) (.slice none 0 0) 0 [] rfl (World.ownsRow_nil _ _ _ _) ⟨E.cb, 0, none⟩ E.K E.K (cs'.flatMap capP) rfl ?_ HCC.out (cap_one _) ?_ ?_ ?_ ?_))
      · rw [flat_len, HCL.out]
      · unfold maxLen; omega
      · omega
      · omega
      · intro v' w2 hown hgrow _ hat
        have hown2 : w2.ownsRow (w.heap.size + 1) 43 2 v' cs'.length (cs'.flatMap capP) := by have := hown; rw [HCL.out]; simpa using this
        have hgr : w1.grownBy w2 none := hgrow
        have hcell2 : w2.heap[w.heap.size]? = some (.cells #[.int .i64 0, .int .i64 0, .slice none 0 0] 29) := (hgr.block _ hlt (by simp)).trans HC1.out
        have r0 : w2.cell? ⟨w.heap.size, 0, none⟩ = some (.int .i64 0) := by rw [cell_of_heap hcell2]; rfl
        have r1 : w2.cell? ⟨w.heap.size, 1, none⟩ = some (.int .i64 0) := by rw [cell_of_heap hcell2]; rfl
        have r2 : w2.cell? ⟨w.heap.size, 2, none⟩ = some (.slice none 0 0) := by rw [cell_of_heap hcell2]; rfl
        have y0 : w2.frozen? ⟨w.heap.size, 0, none⟩ = false := by simp [World.frozen?, hcell2]
        have y1 : w2.frozen? ⟨w.heap.size, 1, none⟩ = false := by simp [World.frozen?, hcell2]
        have y2 : w2.frozen? ⟨w.heap.size, 2, none⟩ = false := by simp [World.frozen?, hcell2]
        have hnb : v'.ownBlock ≠ some w.heap.size := fun e => by have := (ownBlock_lt hown2 e).1; omega
        have HOWN := Lib.hid (show CapsIn (set3 w2 w.heap.size (.int .i64 (i : Int)) (.int .i64 (k : Int)) v') w.heap.size v' cs' from ownsRow_base (ownsRow_set (ownsRow_set (ownsRow_set hown2 (a := ⟨w.heap.size, 0, none⟩) hnb _) (a := ⟨w.heap.size, 1, none⟩) hnb _) (a := ⟨w.heap.size, 2, none⟩) hnb _) (Nat.le_succ _))
        have HFR := Lib.hid (HF1.out.trans (Fr.grown hgr))
        have HST := Lib.hid (H2.out.grown hgr)
        obtain ⟨ao, n'', cap, rfl⟩ : ∃ ao n' cap, v' = .slice ao n' cap := by
          rcases hown2.2 with ⟨hv, _⟩ | ⟨g, cap, cur, hv, _⟩
          · exact ⟨_, _, _, hv⟩
          · exact ⟨_, _, _, hv⟩
        clear hown hown2 hgrow hgr hat hcell2 hnb q0 q1 q2 z00 z01 z02
        go_wp2
        refine bodyPost_ret (v := .tuple #[.agg #[.int .i64 (i : Int), .int .i64 (k : Int), .slice ao n'' cap], .bool true, .int .i64 0]) (by simp [results, Tryd.results30, go_sem, r0, r1, r2]) rfl ?_
        exact at_yes HRR.out (HFR.out.set3 (Nat.le_refl _) _ _ _) hn3 hk2 HOWN.out (HST.out.set3 hb0 n1 n2 n3 _ _ _)
end Go.Proofs.YtpbhncmaamedhaaDoor
