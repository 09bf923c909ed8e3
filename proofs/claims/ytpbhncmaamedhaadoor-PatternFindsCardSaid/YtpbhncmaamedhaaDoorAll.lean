import Derived.Test.YtpbhncmaamedhaaDoorAllM
namespace Go.Proofs.YtpbhncmaamedhaaDoor
open Go.RowKit Go.Proofs.Lexi

theorem Tryd.info29 : (Tryd.prog.info? 29).map (fun i => (i.zero, i.size, i.bytes)) = some (some (.agg #[.int .i64 0, .int .i64 0, .slice none 0 0]), 3, 40) := by kernel_rfl
theorem cells_three (w : World) (x0 x1 x2 : Value) (t : TypeId) (B : Nat) (hB : B = w.heap.size) : ∀ j u, [x0, x1, x2][j]? = some u → (w.alloc (.cells #[x0, x1, x2] t)).cell? ((⟨B, 0, none⟩ : Addr).add j) = some u := by
  intro j u hj
  subst hB
  have e : (⟨w.heap.size, 0, none⟩ : Addr).add j = ⟨w.heap.size, j, none⟩ := by unfold Addr.add; split <;> simp_all
  rw [e, cell_of_heap (heap_new _ _)]
  simpa using hj
set_option maxRecDepth 100000 in
set_option maxHeartbeats 4000000 in
theorem All_c (s p : ByteArray) (w : World) (hp : p.size ≤ 5000) (hs : s.size ≤ 100000000) (R : Except Nat (List AM)) (hR : R = allM (bytesOf s) (bytesOf p)) :
    Calls Tryd.prog 25 #[.string s, .string p] w (AllPost w R) := by
  cases hq : parseM (bytesOf p) with
  | error c =>
    have hc : ((c : Int) != 0) = true := by have := parseM_err hq; rw [bne_iff_ne]; omega
    have HR := Lib.hid (show R = .error c from by rw [hR]; unfold allM; rw [hq])
    have HQ := Lib.hid hq
    clear hR hq
    go_enter Tryd.func25, Tryd.ntmps25
    go_wp2_with fail
    refine (parse_c p hp _).mono ?_
    intro e w1 hpo
    obtain ⟨hb1, rfl⟩ := parse_err hpo HQ.out
    have HB := Lib.hid (hb1.alloc hb1.size (.cells #[.slice none 0 0, .int .i64 0, .bool false, .bool false] 49))
    clear hpo hb1
    go_wp2
    go_ret2
    exact all_err HR.out HB.out
  | ok q =>
    obtain ⟨hwf, -, hcap, hil, -⟩ := parseM_inv (s := q.1) (anc := q.2.1) (fin := q.2.2) hq
    rw [bytesOf_length] at hil
    obtain ⟨i29, hi29, hz0, hz1, hz2⟩ := info_parts Tryd.info29
    have HQ := Lib.hid hq
    have HWF := Lib.hid hwf
    have HR := Lib.hid (show allGo (runP (bytesOf s) q) q.2.1 s.size (allFuel s.size 0 (-1)) 0 (-1) 0 [] = R from by rw [hR]; unfold allM; rw [hq, ← bytesOf_length s])
    clear hR hq hwf
    go_enter Tryd.func25, Tryd.ntmps25
    go_wp2_with fail
    refine (parse_c p hp _).mono ?_
    intro e w1 hpo
    obtain ⟨hb1, ao, cap, vs, rfl, hvl, ho, hio⟩ := parse_ok hpo HQ.out
    have hba : Below w1.heap.size w1 (w1.alloc (parsedCell ao cap q)) := (Below.refl _ _).alloc (Nat.le_refl _) _
    obtain ⟨E, hE⟩ : ∃ E, E = envOf (w1.alloc (parsedCell ao cap q)) s (.slice ao q.1.items.length cap) vs q.1.items q.1.caps q.2.1 q.2.2 := ⟨_, rfl⟩
    have hsz1 := hb1.size
    have HB := Lib.hid (hb1.trans (hba.mono hsz1))
    have hok : MOK E := by rw [hE]; exact mok_new (s := s) (anc := q.2.1) (fin := q.2.2) hvl (ownsRow_ext (below_ext hba (Nat.le_refl _)) ho) (itemsOK_ext hio hba) (by omega) hs hcap
    have HOK := Lib.hid hok
    have hw0 : E.w0 = w1.alloc (parsedCell ao cap q) := by rw [hE]; rfl
    have hEs : E.s = s := by rw [hE]; rfl
    have hEwf : WfItems E.K st0 E.items := by rw [hE]; exact HWF.out
    have hEmb : E.mb = w1.heap.size + 4 := by rw [hE]; show (w1.alloc (parsedCell ao cap q)).heap.size + 3 = _; simp
    have hEnb : E.nb = w1.heap.size + 2 := by rw [hE]; show (w1.alloc (parsedCell ao cap q)).heap.size + 1 = _; simp
    have hEcb : E.cb = w1.heap.size + 3 := by rw [hE]; show (w1.alloc (parsedCell ao cap q)).heap.size + 2 = _; simp
    have hErun : ∀ i n, runP (bytesOf s) q i n = runM E i n := by intro i n; rw [hE]; rfl
    have HX := Lib.hid (heap_new w1 (parsedCell ao cap q))
    have HE := Lib.hid hE
    have HW0 := Lib.hid hw0
    have HES := Lib.hid hEs
    have HEWF := Lib.hid hEwf
    have HEMB := Lib.hid hEmb
    have HENB := Lib.hid hEnb
    have HECB := Lib.hid hEcb
    have HERUN := Lib.hid hErun
    clear hpo hb1 hvl ho hio hba hok hE hw0 hEs hEwf hEmb hErun hEnb hEcb
    go_wp2_with fail
    refine (new_c _ s _ vs q.1.items q.1.caps q.2.1 q.2.2 hcap ⟨_, _, rfl⟩).mono ?_
    rintro e w3 ⟨rfl, hb3, hms⟩
    rw [← HE.out] at hms
    have hmb := (Array.getElem?_eq_some_iff.1 hms.hm).1
    rw [HEMB.out] at hmb
    have HS0 := Lib.hid (show AllRel E s.size (w1.heap.size + 5) (runP (bytesOf s) q) q.2.1 R (allFuel s.size 0 (-1)) (.slice none 0 0) (.int .i64 (-1)) (.int .i64 0) w3 from
      ⟨_, 0, -1, 0, _, [], [], rfl, rfl, rfl, Nat.zero_le _, hms, Nat.zero_le _, hmb, MatchesV.nil _ _, by unfold allFuel; simp; omega, Nat.le_refl _, HR.out⟩)
    clear hb3 hms hmb
    go_wp2
    go_loopg [9, 10, 11] (allFuel s.size 0 (-1)) (fun gg vo vl vi wr => AllRel E s.size (w1.heap.size + 5) (runP (bytesOf s) q) q.2.1 R gg vo vl vi wr)
    case atStart => exact HS0.out
    case round =>
      clear HS0 HR HE
      obtain ⟨d, i, last, n, cs, acc, us, rfl, rfl, rfl, hi1, hms, hn, hB, hmv, hal, hfu, hgo⟩ := hrel
      have hb4 := hms.below
      rw [HW0.out] at hb4
      have HBr := Lib.hid (HB.out.trans (hb4.mono (by simp; omega)))
      obtain ⟨ao3, cap3, rfl⟩ := hmv.slice
      have HMV := Lib.hid hmv
      have HGO := Lib.hid hgo
      have HFU := Lib.hid hfu
      have hd1 : 1 ≤ d := Nat.le_trans (fuel_pos _ _ _) hfu
      clear hgo hfu hb4 hmv
      by_cases hle : i ≤ s.size
      · obtain ⟨d', rfl⟩ : ∃ d', d = d' + 1 := ⟨d - 1, by omega⟩
        obtain ⟨Rn, hRn⟩ : ∃ Rn, Rn = runP (bytesOf s) q i n := ⟨_, rfl⟩
        have HMS := Lib.hid hms
        have HRN := Lib.hid hRn
        clear hms hRn
        go_wp2_with fail
        refine (at_i HOK.out HEWF.out HMS.out hn _ _ i (by rw [HEMB.out]) rfl (by rw [HES.out]; exact hle) Rn (by rw [HRN.out]; exact HERUN.out i n)).mono ?_
        intro e w4 hpo
        obtain ⟨f, t, ao4, n4, cap4, b, c, n', cs', rfl, ⟨e1, e2, e3, e4⟩, hcv, hms4, hst, hF4⟩ := hpo.out
        have hsr := hF4.size
        have hmv4 : MatchesV w4 (w1.heap.size + 5) (.slice ao3 acc.length cap3) acc us := HMV.out.keep (fun bb h1 h2 => hF4.block bb h2 (by rw [HENB.out]; omega) (by rw [HECB.out]; omega))
        have hb4 := hms4.below
        rw [HW0.out] at hb4
        have hx : w4.heap[w1.heap.size]? = some (parsedCell ao cap q) := (hb4.block _ (by simp)).trans HX.out
        have x2 : w4.cell? ⟨w1.heap.size, 2, none⟩ = some (.bool q.2.1) := by rw [cell_of_heap hx]; rfl
        have HB4 := Lib.hid (HB.out.trans (hb4.mono (by simp; omega)))
        have hw14 : w1.heap.size < w4.heap.size := by omega
        have hB4 : w1.heap.size + 5 ≤ w4.heap.size := by omega
        have HCV := Lib.hid (ownsRow_base hcv hB)
        have HMV4 := Lib.hid hmv4
        have HMS4 := Lib.hid hms4
        have HST := Lib.hid hst
        have HE1 := Lib.hid e1
        have HE2 := Lib.hid e2
        have HE3 := Lib.hid e3
        have HE4 := Lib.hid e4
        have HFRESH := Lib.hid (fun g (h : (Value.slice ao4 n4 cap4).ownBlock = some g) => (ownBlock_lt hcv h).1)
        clear hpo hcv hms4 hF4 hb4 hx e1 e2 e3 e4 hst hmv4
        by_cases hc : c = 0
        · obtain ⟨o, st, hRs⟩ : ∃ o st, Rn = some (o, st) := by
            match hR : Rn, HE4.out with
            | none, h => rw [hc] at h; cases h
            | some (o, st), _ => exact ⟨o, st, rfl⟩
          obtain ⟨hn', rfl⟩ := HST.out o st hRs
          have hrun : runP (bytesOf s) q i n = some (o, (n', cs')) := by rw [← HRN.out]; exact hRs
          subst hc
          by_cases hhit : b = true ∧ t ≠ last
          · obtain ⟨rfl, htl⟩ := hhit
            have hbnd : i ≤ t.toNat ∧ t.toNat ≤ s.size ∧ t = t.toNat := by
              have h3 := HE3.out
              have h2 := HE2.out
              rw [hRs] at h3 h2
              cases o with
              | none => cases h3
              | some k =>
                have := run_bounds HQ.out (by rw [bytesOf_length]; exact hle) hrun
                rw [bytesOf_length] at this
                have h2' : t = (k : Int) := h2
                rw [h2']
                exact ⟨by omega, by omega, by omega⟩
            have hstep := allGo_hit (anc := q.2.1) (d := d') (last := last) (acc := acc) hle hrun (by rw [← HRN.out]; exact HE3.out.symm) (by rw [← HRN.out, ← HE2.out]; exact htl)
            rw [← HRN.out, ← HE2.out, HGO.out] at hstep
            have tt : (t != last) = true := by rw [bne_iff_ne]; exact htl
            have hfuel := fuel_hit hle hbnd.1 hbnd.2.1 (by rw [← hbnd.2.2]; exact htl) HFU.out
            rw [← hbnd.2.2] at hfuel
            have HBND := Lib.hid hbnd
            have HSTEP := Lib.hid hstep
            have HFUEL := Lib.hid hfuel
            have htl2 : t.toNat ≤ s.size := hbnd.2.1
            have ht0 : 0 ≤ t := by have := hbnd.2.2; omega
            clear hbnd hstep hfuel hRs hrun htl
            go_wp2_with (at_builtin; refine wpList_append_own_at _ rfl (.tmp 47) (.tmp 49) 39 rfl (w1.heap.size + 5) 29 i29 _ 3 40 Tryd.underlying39 hi29 hz0 hz1 hz2 rfl (by decide) (.slice ao3 acc.length cap3) acc.length (mrow acc us) rfl ?_ ⟨_, 0, none⟩ 1 1 [_, _, _] rfl rfl (cells_three _ _ _ _ _ _ (by simp)) ?_ ?_ ?_ ?_ ?_)
            · exact ownsRow_ext (below_ext (((Below.refl _ _).alloc (Nat.le_refl _) _).alloc (by simp) _) (Nat.le_refl _)) HMV4.out.own
            · intro u hu
              simp only [List.mem_cons, List.not_mem_nil, or_false] at hu
              rcases hu with rfl | rfl | rfl <;> rfl
            · unfold maxLen; omega
            · omega
            · simp; omega
            · intro v' w2 hown hgrow _ hat
              have hbl : Below w4.heap.size w4 ((w4.alloc (.cells #[.int .i64 f, .int .i64 t, .slice ao4 n4 cap4] 29)).alloc (.cells #[.int .i64 f, .int .i64 t, .slice ao4 n4 cap4] 29)) := ((Below.refl _ _).alloc (Nat.le_refl _) _).alloc (by simp) _
              have hvb : ∀ g, (Value.slice ao3 acc.length cap3).ownBlock = some g → w1.heap.size + 5 ≤ g ∧ g < wr.heap.size := fun g h => ownBlock_lt HMV.out.own h
              have hr2 : w2.heap[w4.heap.size]? = some (.cells #[.int .i64 f, .int .i64 t, .slice ao4 n4 cap4] 29) := by
                rw [hgrow.block _ (by simp only [World.size_alloc]; omega) (fun e => by have := (hvb _ e.symm).2; omega), Below.heap_alloc _ _ _ (by simp)]; exact heap_new _ _
              have hx2 : w2.heap[w1.heap.size]? = some (parsedCell ao cap q) := by
                rw [hgrow.block _ (by simp; omega) (fun e => by have := (hvb _ e.symm).1; omega), hbl.block _ hw14]
                have hb4 := HMS4.out.below
                rw [HW0.out] at hb4
                exact (hb4.block _ (by simp)).trans HX.out
              have y1 : w2.cell? ⟨w4.heap.size, 1, none⟩ = some (.int .i64 t) := by rw [cell_of_heap hr2]; rfl
              have y2 : w2.cell? ⟨w1.heap.size, 2, none⟩ = some (.bool q.2.1) := by rw [cell_of_heap hx2]; rfl
              have hsz2 := hgrow.size
              simp only [World.size_alloc] at hsz2
              have hmvn : MatchesV w2 (w1.heap.size + 5) v' (acc ++ [outM (ofRun i Rn)]) (us ++ [.slice ao4 n4 cap4]) := by
                refine MatchesV.push (HMV4.out.keep (fun bb h1 h2 => hbl.block bb h2)) (ownsRow_ext (below_ext hbl (Nat.le_refl _)) HCV.out) (fun g h1 h2 => by have := (hvb g h1).2; have := HFRESH.out g h2; omega) ?_ hgrow ?_
                · rw [← HE1.out, ← HE2.out]; exact hown
                · rcases hat with h | h
                  · exact .inl h
                  · exact .inr ⟨_, by simp, h⟩
              have hmsn : MSt E w2 n' cs' := (HMS4.out.grow hbl).grownRow hgrow (fun g hg => by
                have := (hvb g hg).1
                rw [HW0.out, HEMB.out, HENB.out, HECB.out]
                simp; omega)
              have hbn : Below w.heap.size w w2 := by
                have hb5 := hmsn.below
                rw [HW0.out] at hb5
                exact HB.out.trans (hb5.mono (by simp; omega))
              obtain ⟨ao5, cap5, rfl⟩ := hmvn.slice
              have HMVN := Lib.hid hmvn
              have HMSN := Lib.hid hmsn
              have HBN := Lib.hid hbn
              clear hown hgrow hat hbl hvb hr2 hx2 hmvn hmsn hbn x2
              rcases Bool.eq_false_or_eq_true q.2.1 with hanc | hanc
              · skip
                rw [hanc] at y2
                have HRR := Lib.hid (show R = .ok (acc ++ [outM (ofRun i Rn)]) from by have := HSTEP.out; rw [hanc] at this; exact this)
                clear hanc
                go_wp2
                go_ret2
                exact all_ok HRR.out HBN.out (HMVN.out.base (by omega))
              · skip
                have HNX := Lib.hid (show AllRel E s.size (w1.heap.size + 5) (runP (bytesOf s) q) q.2.1 R d' (.slice ao5 (acc ++ [outM (ofRun i Rn)]).length cap5) (.int .i64 t) (.int .i64 t) w2 from
                  ⟨d', t.toNat, t, n', cs', acc ++ [outM (ofRun i Rn)], us ++ [.slice ao4 n4 cap4], rfl, rfl, by rw [← HBND.out.2.2], by omega, HMSN.out, hn', by omega, HMVN.out, by simp; omega, HFUEL.out, by have := HSTEP.out; rw [hanc] at this; rw [hanc]; exact this.symm⟩)
                rw [hanc] at y2
                clear hanc
                go_wp2
                go_roundg d'
                case measure => omega
                case rel => exact HNX.out
          · have htest : b = false ∨ (b = true ∧ t = last) := by
              cases b
              · exact .inl rfl
              · exact .inr ⟨rfl, Classical.byContradiction fun h => hhit ⟨rfl, h⟩⟩
            have hstep := allGo_miss (anc := q.2.1) (d := d') (last := last) (acc := acc) hle hrun (by
              rw [← HRN.out, ← HE2.out, ← HE3.out]
              rcases htest with h | h
              · exact .inl h
              · exact .inr h.2)
            rw [HGO.out] at hstep
            have HSTEP := Lib.hid hstep
            have HMVA := Lib.hid (HMV4.out.keep (w' := w4.alloc (.cells #[.int .i64 f, .int .i64 t, .slice ao4 n4 cap4] 29)) (fun bb h1 h2 => ((Below.refl w4.heap.size w4).alloc (Nat.le_refl _) _).block bb h2))
            have HMSA := Lib.hid (HMS4.out.grow ((Below.refl w4.heap.size w4).alloc (Nat.le_refl _) (.cells #[.int .i64 f, .int .i64 t, .slice ao4 n4 cap4] 29)))
            have HFUEL := Lib.hid (fuel_miss hle HFU.out)
            clear hstep hRs hrun hhit
            rcases Bool.eq_false_or_eq_true q.2.1 with hanc | hanc
            · skip
              rw [hanc] at x2
              have HRR := Lib.hid (show R = .ok acc from by have := HSTEP.out; rw [hanc] at this; exact this)
              clear hanc
              rcases htest with rfl | ⟨rfl, htl⟩
              · go_wp2
                go_ret2
                exact all_ok HRR.out (HB4.out.alloc (by omega) _) (HMVA.out.base (by omega))
              · have tt : (t != last) = false := by rw [htl]; simp
                clear htl
                go_wp2
                go_ret2
                exact all_ok HRR.out (HB4.out.alloc (by omega) _) (HMVA.out.base (by omega))
            · skip
              have HNX := Lib.hid (show AllRel E s.size (w1.heap.size + 5) (runP (bytesOf s) q) q.2.1 R d' (.slice ao3 acc.length cap3) (.int .i64 last) (.int .i64 ((i : Int) + 1)) (w4.alloc (.cells #[.int .i64 f, .int .i64 t, .slice ao4 n4 cap4] 29)) from
                ⟨d', i + 1, last, n', cs', acc, us, rfl, rfl, rfl, by omega, HMSA.out, hn', by simp; omega, HMVA.out, by omega, HFUEL.out, by have := HSTEP.out; rw [hanc] at this; rw [hanc]; exact this.symm⟩)
              rw [hanc] at x2
              clear hanc
              rcases htest with rfl | ⟨rfl, htl⟩
              · go_wp2
                go_roundg d'
                case measure => omega
                case rel => exact HNX.out
              · have tt : (t != last) = false := by rw [htl]; simp
                clear htl
                go_wp2
                go_roundg d'
                case measure => omega
                case rel => exact HNX.out
        · have tc : ((c : Int) != 0) = true := by rw [bne_iff_ne]; omega
          have HRR := Lib.hid (show R = .error c from by
            rw [← HGO.out, allGo_err hle (by rw [← HRN.out, ← HE4.out]; exact hc), ← HRN.out, ← HE4.out])
          clear hc
          go_wp2
          go_ret2
          exact all_err HRR.out (HB4.out.alloc (by omega) _)
      · have HRR := Lib.hid (show R = .ok acc from by rw [← HGO.out]; exact allGo_end hle)
        have hnle : ¬ ((i : Int) ≤ (s.size : Int)) := by omega
        clear hms
        go_wp2
        go_ret2
        exact all_ok HRR.out HBr.out (HMV.out.base (by omega))
end Go.Proofs.YtpbhncmaamedhaaDoor
