import Derived.Test.YtpbhncmaamedhaaDoorAtC
namespace Go.Proofs.YtpbhncmaamedhaaDoor
open Go.RowKit Go.Proofs.Lexi

def FindRel (E : MEnv) (len : Nat) (run : Nat → Nat → MR) (anc : Bool) (R : Out) (gg : Nat) (v : Value) (wr : World) : Prop := ∃ (i n : Nat) (cs : List ACap), gg = len + 1 - i ∧ v = .int .i64 (i : Int) ∧ i ≤ len + 1 ∧ MSt E wr n cs ∧ n ≤ maxSteps ∧ findGo run anc (len + 1 - i) i n = R
theorem ofRun_fail {i : Nat} {R : MR} (h1 : outB (ofRun i R) = false) (h2 : outE (ofRun i R) = 0) : ∃ st, R = some (none, st) := by
  match R, h1, h2 with
  | none, _, h2 => cases h2
  | some (some k, (n, cs)), h1, _ => cases h1
  | some (none, st), _, _ => exact ⟨st, rfl⟩
theorem findGo_stop {run : Nat → Nat → MR} {anc : Bool} {d i n : Nat} (h : outB (ofRun i (run i n)) = true ∨ outE (ofRun i (run i n)) ≠ 0 ∨ anc = true) : findGo run anc (d + 1) i n = ofRun i (run i n) := by
  unfold findGo
  cases hr : run i n with
  | none => rfl
  | some q =>
    obtain ⟨o, n', cs⟩ := q
    cases o with
    | some k => rfl
    | none =>
      rw [hr] at h
      rcases h with h | h | h
      · cases h
      · exact absurd rfl h
      · simp only [h, if_true]; rfl
theorem findGo_on {run : Nat → Nat → MR} {d i n n' : Nat} {cs : List ACap} (h : run i n = some (none, (n', cs))) : findGo run false (d + 1) i n = findGo run false d (i + 1) n' := by
  conv => lhs; unfold findGo
  rw [h]; rfl
abbrev parsedCell (ao : Option Addr) (cap : Nat) (q : St × Bool × Bool) : Obj := .cells #[.slice ao q.1.items.length cap, .int .i64 q.1.caps, .bool q.2.1, .bool q.2.2] 49

set_option maxRecDepth 100000 in
set_option maxHeartbeats 4000000 in
theorem Find_c (s p : ByteArray) (a : Int) (w : World) (hp : p.size ≤ 5000) (hs : s.size ≤ 100000000) (R : Out) (hR : R = findM (bytesOf s) (bytesOf p) a) :
    Calls Tryd.prog 18 #[.string s, .string p, .int .i64 a] w (OutPost w R) := by
  have hb0 : Below w.heap.size w (w.alloc resMatch) := (Below.refl _ _).alloc (Nat.le_refl _) _
  cases hq : parseM (bytesOf p) with
  | error c =>
    have hc : ((c : Int) != 0) = true := by have := parseM_err hq; rw [bne_iff_ne]; omega
    have HR := Lib.hid (show R = .error c from by rw [hR]; unfold findM; rw [hq])
    have HQ := Lib.hid hq
    clear hR hq
    go_enter Tryd.func18, Tryd.ntmps18
    go_wp2_with fail
    refine (parse_c p hp _).mono ?_
    intro e w1 hpo
    obtain ⟨hb1, rfl⟩ := parse_err hpo HQ.out
    have hcell : w1.heap[w.heap.size]? = some resMatch := (hb1.block _ (by simp)).trans (heap_new _ _)
    have hlt : w.heap.size < w1.heap.size := (Array.getElem?_eq_some_iff.1 hcell).1
    obtain ⟨q0, q1, q2, z0, z1, z2⟩ := cell3 hcell
    have HB := Lib.hid (hb0.trans (hb1.mono (by simp)))
    clear hpo hb1 hcell hb0
    go_wp2
    obtain ⟨r0, r1, r2⟩ := read3a q0 q1 q2 (.int .i64 0) (.int .i64 0) (.slice none 0 0) (.cells #[.slice none 0 0, .int .i64 0, .bool false, .bool false] 49)
    refine bodyPost_ret (v := .tuple #[zeroMatch, .bool false, .int .i64 c]) (by simp [results, Tryd.results18, go_sem, r0, r1, r2, zeroMatch]) rfl ?_
    exact out_err HR.out ((below_set3 HB.out (Nat.le_refl _) _ _ _).alloc (by simp; omega) _)
  | ok q =>
    obtain ⟨hwf, -, hcap, hil, -⟩ := parseM_inv (s := q.1) (anc := q.2.1) (fin := q.2.2) hq
    rw [bytesOf_length] at hil
    have HQ := Lib.hid hq
    have HWF := Lib.hid hwf
    have hR2 : R = if a < 0 ∨ ((bytesOf s).length : Int) < a then .error 6 else findGo (runP (bytesOf s) q) q.2.1 ((bytesOf s).length + 1 - a.toNat) a.toNat 0 := by rw [hR]; unfold findM; rw [hq]
    rw [bytesOf_length] at hR2
    clear hR hq hwf
    by_cases h0 : a < 0
    · have t0 : decide (a < 0) = true := decide_eq_true h0
      have HR := Lib.hid (show R = .error 6 from by rw [hR2, if_pos (.inl h0)])
      clear hR2
      go_enter Tryd.func18, Tryd.ntmps18
      go_wp2_with fail
      refine (parse_c p hp _).mono ?_
      intro e w1 hpo
      obtain ⟨hb1, ao, cap, vs, rfl, hvl, ho, hi⟩ := parse_ok hpo HQ.out
      have hcell : w1.heap[w.heap.size]? = some resMatch := (hb1.block _ (by simp)).trans (heap_new _ _)
      have hlt : w.heap.size < w1.heap.size := (Array.getElem?_eq_some_iff.1 hcell).1
      obtain ⟨q0, q1, q2, z0, z1, z2⟩ := cell3 hcell
      have HB := Lib.hid (hb0.trans (hb1.mono (by simp)))
      clear hpo hb1 hcell hb0 hvl ho hi
      go_wp2
      obtain ⟨r0, r1, r2⟩ := read3a q0 q1 q2 (.int .i64 0) (.int .i64 0) (.slice none 0 0) (parsedCell ao cap q)
      refine bodyPost_ret (v := .tuple #[zeroMatch, .bool false, .int .i64 6]) (by simp [results, Tryd.results18, go_sem, r0, r1, r2, zeroMatch]) rfl ?_
      exact out_err HR.out ((below_set3 HB.out (Nat.le_refl _) _ _ _).alloc (by simp; omega) _)
    · by_cases h1 : (s.size : Int) < a
      · have HR := Lib.hid (show R = .error 6 from by rw [hR2, if_pos (.inr h1)])
        have t0 : decide (a < 0) = false := decide_eq_false h0
        have t1 : decide ((s.size : Int) < a) = true := decide_eq_true h1
        clear hR2
        go_enter Tryd.func18, Tryd.ntmps18
        go_wp2_with fail
        refine (parse_c p hp _).mono ?_
        intro e w1 hpo
        obtain ⟨hb1, ao, cap, vs, rfl, hvl, ho, hi⟩ := parse_ok hpo HQ.out
        have hcell : w1.heap[w.heap.size]? = some resMatch := (hb1.block _ (by simp)).trans (heap_new _ _)
        have hlt : w.heap.size < w1.heap.size := (Array.getElem?_eq_some_iff.1 hcell).1
        obtain ⟨q0, q1, q2, z0, z1, z2⟩ := cell3 hcell
        have HB := Lib.hid (hb0.trans (hb1.mono (by simp)))
        clear hpo hb1 hcell hb0 hvl ho hi
        go_wp2
        obtain ⟨r0, r1, r2⟩ := read3a q0 q1 q2 (.int .i64 0) (.int .i64 0) (.slice none 0 0) (parsedCell ao cap q)
        refine bodyPost_ret (v := .tuple #[zeroMatch, .bool false, .int .i64 6]) (by simp [results, Tryd.results18, go_sem, r0, r1, r2, zeroMatch]) rfl ?_
        exact out_err HR.out ((below_set3 HB.out (Nat.le_refl _) _ _ _).alloc (by simp; omega) _)
      · obtain ⟨i0, rfl⟩ : ∃ i : Nat, a = i := ⟨a.toNat, by omega⟩
        have hi : i0 ≤ s.size := by omega
        have HR := Lib.hid (show findGo (runP (bytesOf s) q) q.2.1 (s.size + 1 - i0) i0 0 = R from by rw [hR2, if_neg (by omega)]; rfl)
        clear hR2 h0 h1
        go_enter Tryd.func18, Tryd.ntmps18
        go_wp2_with fail
        refine (parse_c p hp _).mono ?_
        intro e w1 hpo
        obtain ⟨hb1, ao, cap, vs, rfl, hvl, ho, hio⟩ := parse_ok hpo HQ.out
        have hcell : w1.heap[w.heap.size]? = some resMatch := (hb1.block _ (by simp)).trans (heap_new _ _)
        have hlt : w.heap.size < w1.heap.size := (Array.getElem?_eq_some_iff.1 hcell).1
        have hba : Below w1.heap.size w1 (w1.alloc (parsedCell ao cap q)) := (Below.refl _ _).alloc (Nat.le_refl _) _
        obtain ⟨E, hE⟩ : ∃ E, E = envOf (w1.alloc (parsedCell ao cap q)) s (.slice ao q.1.items.length cap) vs q.1.items q.1.caps q.2.1 q.2.2 := ⟨_, rfl⟩
        have HB := Lib.hid ((hb0.trans (hb1.mono (by simp))).trans (hba.mono (by omega)))
        have hok : MOK E := by rw [hE]; exact mok_new (s := s) (anc := q.2.1) (fin := q.2.2) hvl (ownsRow_ext (below_ext hba (Nat.le_refl _)) ho) (itemsOK_ext hio hba) (by omega) hs hcap
        have HOK := Lib.hid hok
        have hw0 : E.w0 = w1.alloc (parsedCell ao cap q) := by rw [hE]; rfl
        have hEs : E.s = s := by rw [hE]; rfl
        have hEwf : WfItems E.K st0 E.items := by rw [hE]; exact HWF.out
        have hEmb : E.mb = w1.heap.size + 4 := by rw [hE]; show (w1.alloc (parsedCell ao cap q)).heap.size + 3 = _; simp
        have hErun : ∀ i n, runP (bytesOf s) q i n = runM E i n := by intro i n; rw [hE]; rfl
        have HCELL := Lib.hid ((hba.block _ hlt).trans hcell)
        have HX := Lib.hid (heap_new w1 (parsedCell ao cap q))
        have HE := Lib.hid hE
        have HW0 := Lib.hid hw0
        have HES := Lib.hid hEs
        have HEWF := Lib.hid hEwf
        have HEMB := Lib.hid hEmb
        have HERUN := Lib.hid hErun
        clear hpo hb1 hcell hb0 hvl ho hio hba hok hE hw0 hEs hEwf hEmb hErun
        go_wp2_with fail
        refine (new_c _ s _ vs q.1.items q.1.caps q.2.1 q.2.2 hcap ⟨_, _, rfl⟩).mono ?_
        rintro e w3 ⟨rfl, hb3, hms⟩
        rw [← HE.out] at hms
        have HS0 := Lib.hid (show FindRel E s.size (runP (bytesOf s) q) q.2.1 R (s.size + 1 - i0) (.int .i64 (i0 : Int)) w3 from ⟨i0, 0, _, rfl, rfl, by omega, hms, Nat.zero_le _, HR.out⟩)
        clear hb3 hms
        go_wp2
        go_loopg [12] (s.size + 1 - i0) (fun gg v wr => FindRel E s.size (runP (bytesOf s) q) q.2.1 R gg v wr)
        case atStart => exact HS0.out
        case round =>
          clear HS0 HR HE
          obtain ⟨i, n, cs, rfl, rfl, hi1, hms, hn, hgo⟩ := hrel
          have hb4 := hms.below
          rw [HW0.out] at hb4
          have hsz := hb4.size
          simp only [World.size_alloc] at hsz
          have hcell : wr.heap[w.heap.size]? = some resMatch := (hb4.block _ (by simp; omega)).trans HCELL.out
          have hx : wr.heap[w1.heap.size]? = some (parsedCell ao cap q) := (hb4.block _ (by simp)).trans HX.out
          by_cases hlt2 : i ≤ s.size
          · obtain ⟨d, hd⟩ : ∃ d, s.size + 1 - i = d + 1 := ⟨s.size - i, by omega⟩
            obtain ⟨Rn, hRn⟩ : ∃ Rn, Rn = runP (bytesOf s) q i n := ⟨_, rfl⟩
            have HMS := Lib.hid hms
            have HRN := Lib.hid hRn
            have HGO := Lib.hid hgo
            have HD := Lib.hid hd
            clear hms hRn hgo hd hb4 hcell hx
            go_wp2_with fail
            refine (at_i HOK.out HEWF.out HMS.out hn _ _ i (by rw [HEMB.out]) rfl (by rw [HES.out]; exact hlt2) Rn (by rw [HRN.out]; exact HERUN.out i n)).mono ?_
            intro e w4 hpo
            obtain ⟨f, t, ao4, n4, cap4, b, c, n', cs', rfl, ⟨e1, e2, e3, e4⟩, hcv, hms4, hst, hF4⟩ := hpo.out
            have hb4 := hms4.below
            rw [HW0.out] at hb4
            have hsz4 := hb4.size
            simp only [World.size_alloc] at hsz4
            have hcell : w4.heap[w.heap.size]? = some resMatch := (hb4.block _ (by simp; omega)).trans HCELL.out
            have hx : w4.heap[w1.heap.size]? = some (parsedCell ao cap q) := (hb4.block _ (by simp)).trans HX.out
            obtain ⟨q0, q1, q2, z0, z1, z2⟩ := cell3 hcell
            have x2 : w4.cell? ⟨w1.heap.size, 2, none⟩ = some (.bool q.2.1) := by rw [cell_of_heap hx]; rfl
            have HB4 := Lib.hid (HB.out.trans (hb4.mono (by simp; omega)))
            have hnb : (Value.slice ao4 n4 cap4).ownBlock ≠ some w.heap.size := fun e => by have := (ownBlock_lt hcv e).1; omega
            have HCV := Lib.hid (ownsRow_ext (below_ext ((Below.refl _ _).alloc (Nat.le_refl _) (.cells #[.int .i64 f, .int .i64 t, .slice ao4 n4 cap4] 29)) (Nat.le_refl _)) (ownsRow_set3 (ownsRow_base hcv (show w.heap.size ≤ wr.heap.size by omega)) hnb (.int .i64 f) (.int .i64 t) (.slice ao4 n4 cap4)))
            have HSTOP := Lib.hid (fun h => (HGO.out.symm.trans (by rw [HD.out, findGo_stop h, ← HRN.out]) : R = ofRun i Rn))
            rw [← HRN.out, ← e3, ← e4] at HSTOP
            have HE1 := Lib.hid e1
            have HE2 := Lib.hid e2
            have HE3 := Lib.hid e3
            have HE4 := Lib.hid e4
            have HMS4 := Lib.hid hms4
            have HST := Lib.hid hst
            have hw4 : w.heap.size < w4.heap.size := by omega
            have hw14 : w1.heap.size < w4.heap.size := by omega
            clear hpo hcv hms4 hF4 hb4 hcell hx hnb e1 e2 e3 e4 hst
            by_cases hret : b = true ∨ c ≠ 0 ∨ q.2.1 = true
            · have HRR := Lib.hid (HSTOP.out hret)
              have fin : ∀ w', Below w.heap.size w w' → CapsV w' w.heap.size (.slice ao4 n4 cap4) (outM (ofRun i Rn)).caps → OutPost w R (.returned (.tuple #[.agg #[.int .i64 f, .int .i64 t, .slice ao4 n4 cap4], .bool b, .int .i64 (c : Int)])) w' := fun w' h1 h2 => by
                rw [HRR.out]; exact ⟨h1, _, by rw [← HE3.out, ← HE4.out], _, by rw [← HE1.out, ← HE2.out], h2⟩
              have FIN := Lib.hid fin
              clear fin
              obtain ⟨r0, r1, r2⟩ := read3a q0 q1 q2 (.int .i64 f) (.int .i64 t) (.slice ao4 n4 cap4) (.cells #[.int .i64 f, .int .i64 t, .slice ao4 n4 cap4] 29)
              have HR0 := Lib.hid r0
              have HR1 := Lib.hid r1
              have HR2 := Lib.hid r2
              clear r0 r1 r2 HE3 HE4 HSTOP HRR
              cases b with
              | true =>
                clear hret
                go_wp2
                refine bodyPost_ret (v := .tuple #[.agg #[.int .i64 f, .int .i64 t, .slice ao4 n4 cap4], .bool true, .int .i64 (c : Int)]) (by simp [results, Tryd.results18, go_sem, HR0.out, HR1.out, HR2.out]) rfl ?_
                exact FIN.out _ ((below_set3 HB4.out (Nat.le_refl _) _ _ _).alloc (by simp; omega) _) HCV.out
              | false =>
                by_cases hc : c = 0
                · subst hc
                  have hanc : q.2.1 = true := by rcases hret with h | h | h; · cases h
                                                 · exact absurd rfl h
                                                 · exact h
                  rw [hanc] at x2
                  clear hret hanc
                  go_wp2
                  refine bodyPost_ret (v := .tuple #[.agg #[.int .i64 f, .int .i64 t, .slice ao4 n4 cap4], .bool false, .int .i64 0]) (by simp [results, Tryd.results18, go_sem, HR0.out, HR1.out, HR2.out]) rfl ?_
                  exact FIN.out _ ((below_set3 HB4.out (Nat.le_refl _) _ _ _).alloc (by simp; omega) _) HCV.out
                · have tc : ((c : Int) != 0) = true := by rw [bne_iff_ne]; omega
                  clear hret
                  go_wp2
                  refine bodyPost_ret (v := .tuple #[.agg #[.int .i64 f, .int .i64 t, .slice ao4 n4 cap4], .bool false, .int .i64 (c : Int)]) (by simp [results, Tryd.results18, go_sem, HR0.out, HR1.out, HR2.out]) rfl ?_
                  exact FIN.out _ ((below_set3 HB4.out (Nat.le_refl _) _ _ _).alloc (by simp; omega) _) HCV.out
            · have hb : b = false := by cases b; · rfl
                                        · exact absurd (.inl rfl) hret
              have hc : c = 0 := Classical.byContradiction fun h => hret (.inr (.inl h))
              have hanc : q.2.1 = false := by cases h : q.2.1; · rfl
                                              · exact absurd (.inr (.inr h)) hret
              have hfail := ofRun_fail (i := i) (R := Rn) (by rw [← HE3.out]; exact hb) (by rw [← HE4.out]; exact hc)
              obtain ⟨st, hst⟩ := hfail
              obtain ⟨hn', rfl⟩ := HST.out none st hst
              have HN := Lib.hid (show FindRel E s.size (runP (bytesOf s) q) q.2.1 R (s.size + 1 - (i + 1)) (.int .i64 ((i : Int) + 1)) (w4.alloc (.cells #[.int .i64 f, .int .i64 t, .slice ao4 n4 cap4] 29)) from
                ⟨i + 1, n', cs', rfl, rfl, by omega, HMS4.out.grow ((Below.refl _ _).alloc (Nat.le_refl _) _), hn', by
                  rw [← HGO.out, HD.out, hanc, findGo_on (by rw [← HRN.out]; exact hst)]
                  have := HD.out
                  rw [show s.size + 1 - (i + 1) = d by omega]⟩)
              subst hb hc
              rw [hanc] at x2
              clear hret hanc hst HSTOP HE1 HE2 HE3 HE4
              go_wp2
              go_roundg (s.size + 1 - (i + 1))
              case measure => omega
              case rel => exact HN.out
          · have HF := Lib.hid (show R = .ok none from by rw [← hgo, show s.size + 1 - i = 0 by omega]; rfl)
            obtain ⟨q0, q1, q2, z0, z1, z2⟩ := cell3 hcell
            have HB4 := Lib.hid (HB.out.trans (hb4.mono (by simp; omega)))
            have hnle : ¬ ((i : Int) ≤ (s.size : Int)) := by omega
            obtain ⟨r0, r1, r2⟩ := read3 q0 q1 q2 (.int .i64 0) (.int .i64 0) (.slice none 0 0)
            have HR0 := Lib.hid r0
            have HR1 := Lib.hid r1
            have HR2 := Lib.hid r2
            clear r0 r1 r2 hgo hms hb4 hcell hx
            go_wp2
            refine bodyPost_ret (v := .tuple #[zeroMatch, .bool false, .int .i64 0]) (by simp [results, Tryd.results18, go_sem, HR0.out, HR1.out, HR2.out, zeroMatch]) rfl ?_
            exact out_none HF.out (below_set3 HB4.out (Nat.le_refl _) _ _ _)
end Go.Proofs.YtpbhncmaamedhaaDoor
