import Derived.Test.YtpbhncmaamedhaaDoorAwB
namespace Go.Proofs.YtpbhncmaamedhaaDoor
open Go.RowKit Go.Proofs.Lexi

/-! PatternFirst: the plain law and the walk. -/
theorem atM_run {l p : List Nat} {q : St × Bool × Bool} (hq : parseM p = .ok q) {i : Nat} (hi : i ≤ l.length) : atM l p (i : Int) = ofRun i (runP l q i 0) := by
  unfold atM
  rw [hq]
  simp only []
  rw [if_neg (by omega)]; rfl
theorem run_shift {l p : List Nat} {q : St × Bool × Bool} (hq : parseM p = .ok q) {i n n' : Nat} {o : Option Nat} {cs : List ACap} (hi : i ≤ l.length) (h : runP l q i n = some (o, (n', cs))) : ofRun i (runP l q i 0) = ofRun i (runP l q i n) := by
  have := (run_good hq hi n o n' cs h).2.1 0 (Nat.zero_le _)
  rw [h, show runP l q i 0 = _ from this]
  cases o <;> rfl
theorem first_step {l p : List Nat} {q : St × Bool × Bool} (hq : parseM p = .ok q) {i n d : Nat} {R : Out} (hi : i ≤ l.length) (h : findGo (runP l q) false (d + 1) i n = R) (hR : outE R = 0) :
    (atM l p (i : Int) = R ∧ outB R = true ∧ (outM R).f = i) ∨ (∃ n', atM l p (i : Int) = .ok none ∧ findGo (runP l q) false d (i + 1) n' = R) := by
  rw [atM_run hq hi]
  cases hr : runP l q i n with
  | none =>
    rw [findGo_stop (.inr (.inl (by rw [hr]; show (3 : Nat) ≠ 0; decide))), hr] at h
    subst h
    cases hR
  | some st =>
    obtain ⟨o, n', cs⟩ := st
    rw [run_shift hq hi hr, hr]
    cases o with
    | some k =>
      rw [findGo_stop (.inl (by rw [hr]; rfl)), hr] at h
      exact .inl ⟨h, by rw [← h]; rfl, by rw [← h]; rfl⟩
    | none =>
      rw [findGo_on hr] at h
      exact .inr ⟨n', rfl, h⟩
theorem find_anchor {l p : List Nat} {q : St × Bool × Bool} (hq : parseM p = .ok q) (ha : q.2.1 = true) {i : Nat} (hi : i ≤ l.length) : findM l p (i : Int) = atM l p (i : Int) := by
  rw [atM_run hq hi]
  unfold findM
  rw [hq]
  simp only []
  rw [if_neg (by omega), Int.toNat_natCast, show l.length + 1 - i = (l.length - i) + 1 by omega]
  exact findGo_stop (.inr (.inr ha))
theorem findGo_err {run : Nat → Nat → MR} {anc : Bool} : ∀ (d i n : Nat) (c : Nat), findGo run anc d i n = .error c → c = 3
  | 0, _, _, _, h => by cases h
  | d + 1, i, n, c, h => by
    unfold findGo at h
    split at h
    · split at h
      · cases h
      · exact findGo_err d _ _ c h
    · rename_i R hR
      cases hr : run i n with
      | none => rw [hr] at h; injection h with h; exact h.symm
      | some st =>
        obtain ⟨o, n', cs⟩ := st
        rw [hr] at h
        cases o <;> cases h
theorem find_err {l p : List Nat} {i : Nat} (hi : i ≤ l.length) {c : Nat} (h : findM l p (i : Int) = .error c) : c ≠ 0 ∧ (CheckE p = c ∨ c = 3) := by
  unfold findM at h
  unfold CheckE
  cases hq : parseM p with
  | error e =>
    rw [hq] at h
    injection h with h
    have := parseM_err hq
    exact ⟨by omega, .inl h⟩
  | ok q =>
    rw [hq] at h
    simp only [] at h
    rw [if_neg (by omega)] at h
    have := findGo_err _ _ _ _ h
    exact ⟨by omega, .inr this⟩
theorem out_cases (R : Out) : (∃ c, R = .error c) ∨ outE R = 0 := by
  cases R with
  | error c => exact .inl ⟨c, rfl⟩
  | ok o => exact .inr rfl
theorem at_caps (l p : List Nat) (a : Int) : (outM (atM l p a)).caps.length ≤ 16 := by
  unfold atM
  cases hq : parseM p with
  | error e => simp [outM, zeroAM]
  | ok q =>
    simp only []
    split
    · simp [outM, zeroAM]
    · rename_i h
      cases hr : runP l q a.toNat 0 with
      | none => simp [ofRun, outM, zeroAM]
      | some st =>
        obtain ⟨o, n', cs⟩ := st
        cases o with
        | none => simp [ofRun, outM, zeroAM]
        | some k => exact (runAM_good hq ⟨a.toNat, 0, k, n', cs, by omega, hr, rfl⟩).n16
/-- At and Find, opened. -/
def OutO (w : World) (R : Out) (e : Ending) (w' : World) : Prop := ∃ (f t : Int) (ao : Option Addr) (n cap : Nat) (b : Bool) (c : Nat), e = .returned (.tuple #[.agg #[.int .i64 f, .int .i64 t, .slice ao n cap], .bool b, .int .i64 (c : Int)]) ∧
  (f = (outM R).f ∧ t = (outM R).t ∧ b = outB R ∧ c = outE R) ∧ CapsR w' (.slice ao n cap) (outM R).caps ∧ Below w.heap.size w w'
theorem OutPost.open {w : World} {R : Out} {e : Ending} {w' : World} (h : OutPost w R e w') : OutO w R e w' := by
  obtain ⟨hb, v, he, u, hv, hc⟩ := h
  subst hv
  obtain ⟨ao, cap, rfl⟩ := capsV_slice hc
  exact ⟨_, _, ao, _, cap, _, _, he, ⟨rfl, rfl, rfl, rfl⟩, capsR_of hc, hb⟩
abbrev mcell (f t : Int) (ao : Option Addr) (n cap : Nat) : Obj := .cells #[.int .i64 f, .int .i64 t, .slice ao n cap] 29
theorem mcell_read {w : World} {b : Nat} {f t : Int} {ao : Option Addr} {n cap : Nat} (h : w.heap[b]? = some (mcell f t ao n cap)) : w.cell? ⟨b, 0, none⟩ = some (.int .i64 f) ∧ w.cell? ⟨b, 1, none⟩ = some (.int .i64 t) ∧ w.cell? ⟨b, 2, none⟩ = some (.slice ao n cap) := by
  refine ⟨?_, ?_, ?_⟩ <;> (rw [cell_of_heap h]; rfl)
def FirstRel (w1 : World) (s _p : ByteArray) (q : St × Bool × Bool) (R : Out) (gg : Nat) (v : Value) (wr : World) : Prop := ∃ i n : Nat, gg = s.size + 1 - i ∧ v = .int .i64 (i : Int) ∧ i ≤ s.size + 1 ∧ Below w1.heap.size w1 wr ∧ findGo (runP (bytesOf s) q) false (s.size + 1 - i) i n = R
set_option maxRecDepth 100000 in
set_option maxHeartbeats 4000000 in
theorem first_law (s p : ByteArray) (a : Int) (w : World) (ht : Tab w) : Calls Tryd.prog 8 #[.string s, .string p, .int .i64 a] w (ExT w) := by
  have HT := Lib.hid ht
  clear ht
  by_cases hin : s.size ≤ 300 ∧ p.size ≤ 100 ∧ 0 ≤ a ∧ a ≤ s.size
  · obtain ⟨h1, h2, h3, h4⟩ := hin
    obtain ⟨i0, rfl⟩ : ∃ i : Nat, a = i := ⟨a.toNat, by omega⟩
    have hi0 : i0 ≤ s.size := by omega
    obtain ⟨R, hR⟩ : ∃ R, R = findM (bytesOf s) (bytesOf p) (i0 : Int) := ⟨_, rfl⟩
    have HF := Lib.hid (Find_c s p (i0 : Int) w (by omega) (by omega) R hR)
    have tail : ∀ W, Below w.heap.size w W → Hid (Calls Tryd.prog 12 #[] W (ExT W)) := fun W h => awake_c W (HT.out.mono h (Nat.le_refl _))
    have AW := Lib.hid tail
    clear tail
    rcases out_cases R with ⟨c, hc⟩ | hE
    · have herr := find_err (l := bytesOf s) (p := bytesOf p) (by rw [bytesOf_length]; exact hi0) (hR.symm.trans hc)
      have HRC := Lib.hid hc
      have tc : ((c : Int) != 0) = true := by rw [bne_iff_ne]; omega
      have HERR := Lib.hid herr
      have CK := Lib.hid (fun W => Check_c p W (by omega))
      clear hR hc herr
      go_enter Tryd.func8, Tryd.ntmps8
      go_wp2_with fail
      refine HF.out.mono ?_
      intro e w1 hpo
      obtain ⟨f, t, ao, n, cap, b, c', rfl, ⟨-, -, e3, e4⟩, -, hb1⟩ := hpo.open
      rw [HRC.out] at e3 e4
      have e3' : b = false := e3
      have e4' : c = c' := e4.symm
      subst e3' e4'
      have HB1 := Lib.hid (hb1.alloc hb1.size (mcell f t ao n cap))
      clear hpo hb1 e3 e4
      by_cases hck : CheckE (bytesOf p) = c
      · have tk : ((CheckE (bytesOf p) : Int) == (c : Int)) = true := by rw [hck]; simp
        clear hck
        go_wp2_with fail
        refine (CK.out _).mono ?_
        rintro e w2 ⟨rfl, hb2⟩
        have HB2 := Lib.hid (HB1.out.trans (hb2.mono HB1.out.size))
        clear hb2
        go_wp2_with fail
        refine (AW.out _ HB2.out).out.mono ?_
        rintro e w3 ⟨rfl, hb3⟩
        have HB3 := Lib.hid (HB2.out.trans (hb3.mono HB2.out.size))
        clear hb3
        go_wp2
        go_ret
        exact ⟨rfl, HB3.out⟩
      · have tk : ((CheckE (bytesOf p) : Int) == (c : Int)) = false := by rw [beq_eq_false_iff_ne]; omega
        have t3 : ((c : Int) == 3) = true := by have := HERR.out.2; rw [beq_iff_eq]; omega
        clear hck
        go_wp2_with fail
        refine (CK.out _).mono ?_
        rintro e w2 ⟨rfl, hb2⟩
        have HB2 := Lib.hid (HB1.out.trans (hb2.mono HB1.out.size))
        clear hb2
        go_wp2_with fail
        refine (AW.out _ HB2.out).out.mono ?_
        rintro e w3 ⟨rfl, hb3⟩
        have HB3 := Lib.hid (HB2.out.trans (hb3.mono HB2.out.size))
        clear hb3
        go_wp2
        go_ret
        exact ⟨rfl, HB3.out⟩
    · cases hq : parseM (bytesOf p) with
      | error e =>
        exfalso
        have : R = .error e := by rw [hR]; unfold findM; rw [hq]
        rw [this] at hE
        have := parseM_err hq
        simp [outE] at hE
        omega
      | ok q =>
        obtain ⟨-, -, -, -, hanc⟩ := parseM_inv (s := q.1) (anc := q.2.1) (fin := q.2.2) hq
        have hl0 : (bytesOf s).length = s.size := bytesOf_length s
        have hcaps : (outM (atM (bytesOf s) (bytesOf p) (i0 : Int))).caps.length ≤ 16 := at_caps _ _ _
        have HQ := Lib.hid hq
        have HE := Lib.hid hE
        have ATC := Lib.hid (fun (i : Nat) (W : World) => At_c s p (i : Int) W (by omega) (by omega) (atM (bytesOf s) (bytesOf p) (i : Int)) rfl)
        have SAME := Lib.hid (fun (f t : Int) (u1 u2 : Value) (ps : List (Int × Int)) (W : World) h1 h2 (hl : ps.length ≤ 16) => same_ex f t u1 u2 ps W h1 h2 (by omega))
        by_cases hA : q.2.1 = true
        · have hfa := find_anchor (l := bytesOf s) hq hA (by rw [bytesOf_length]; exact hi0)
          have hRa : atM (bytesOf s) (bytesOf p) (i0 : Int) = R := by rw [hR, hfa]
          rw [hRa] at hcaps
          obtain ⟨hpz, h94⟩ : ∃ h : 0 < p.size, p[0].toNat = 94 := by
            rw [hA] at hanc
            by_cases hz : 0 < p.size
            · have e := bytesOf_drop p 0 hz
              rw [List.drop_zero] at e
              rw [e] at hanc
              exact ⟨hz, by simpa using hanc.symm⟩
            · have e : bytesOf p = [] := List.eq_nil_of_length_eq_zero (by rw [bytesOf_length]; omega)
              rw [e] at hanc; cases hanc
          have t94 : ((p[0].toNat : Int) == 94) = true := by rw [h94]; rfl
          have e1 : (!p.toList.isEmpty) = true := by simpa using toList_ne hpz
          have e0 : p.toList ≠ [] := toList_ne hpz
          have AT0 := Lib.hid (ATC.out i0)
          rw [hRa] at AT0
          have HCAPS := Lib.hid hcaps
          clear hR hE hq hanc hA hfa hRa h94 hcaps hl0 ATC
          go_enter Tryd.func8, Tryd.ntmps8
          go_wp2_with fail
          refine HF.out.mono ?_
          intro e w1 hpo
          obtain ⟨f, t, ao, n, cap, b, c, rfl, ⟨e2, e3, e4, e5⟩, hcr, hb1⟩ := hpo.open
          rw [HE.out] at e5
          subst e5
          have HB1 := Lib.hid (hb1.alloc hb1.size (mcell f t ao n cap))
          have HM := Lib.hid (heap_new w1 (mcell f t ao n cap))
          have HCR := Lib.hid hcr
          have HE2 := Lib.hid e2
          have HE3 := Lib.hid e3
          have HE4 := Lib.hid e4
          clear hpo hb1 hcr e2 e3 e4
          go_wp2_with fail
          refine (AT0.out _).mono ?_
          intro e w2 hpo
          obtain ⟨f', t', ao', n', cap', b', c', rfl, ⟨g2, g3, g4, g5⟩, hcr2, hb2⟩ := hpo.open
          rw [HE.out] at g5
          subst g5
          rw [← HE2.out] at g2
          rw [← HE3.out] at g3
          rw [← HE4.out] at g4
          subst g2 g3 g4
          have hz2 := hb2.size
          simp only [World.size_alloc] at hz2
          have hm2 : w2.heap[w1.heap.size]? = some (mcell f' t' ao n cap) := (hb2.block _ (by simp)).trans HM.out
          obtain ⟨m0, m1, m2⟩ := mcell_read hm2
          have hlt2 : w1.heap.size < w2.heap.size := by omega
          have HB2 := Lib.hid ((HB1.out.trans (hb2.mono HB1.out.size)).alloc (by have := HB1.out.size; simp at this; omega) (mcell f' t' ao' n' cap'))
          have hbx : Below w1.heap.size w1 (w2.alloc (mcell f' t' ao' n' cap')) := (((Below.refl _ _).alloc (Nat.le_refl _) _).trans (hb2.mono (by simp))).alloc (by omega) _
          have HS := Lib.hid (SAME.out f' t' (.slice ao n cap) (.slice ao' n' cap') (outM R).caps (w2.alloc (mcell f' t' ao' n' cap')) (HCR.out.mono hbx (Nat.le_refl _)) (hcr2.mono ((Below.refl _ _).alloc (Nat.le_refl _) _) (Nat.le_refl _)) HCAPS.out)
          clear hpo hb2 hcr2 hm2 hbx
          cases b'
          all_goals
            go_wp2_with fail
            refine HS.out.mono ?_
            rintro e w3 ⟨rfl, hb3⟩
            have HB3 := Lib.hid (HB2.out.trans (hb3.mono HB2.out.size))
            clear hb3
            go_wp2_with fail
            refine (AW.out _ HB3.out).out.mono ?_
            rintro e w4 ⟨rfl, hb4⟩
            have HB4 := Lib.hid (HB3.out.trans (hb4.mono HB3.out.size))
            clear hb4
            go_wp2
            go_ret
            exact ⟨rfl, HB4.out⟩
        · have hAf : q.2.1 = false := by simpa using hA
          have hfg : findGo (runP (bytesOf s) q) false (s.size + 1 - i0) i0 0 = R := by
            rw [hR]; unfold findM; rw [hq]; simp only []
            rw [if_neg (by rw [bytesOf_length]; omega), hAf, bytesOf_length]; rfl
          have HFG := Lib.hid hfg
          -- the pattern does not begin with an anchor
          have hna : p.size = 0 ∨ ∃ h : 0 < p.size, ¬ p[0].toNat = 94 := by
            rw [hAf] at hanc
            by_cases hz : 0 < p.size
            · have e := bytesOf_drop p 0 hz
              rw [List.drop_zero] at e
              rw [e] at hanc
              exact .inr ⟨hz, by simpa using hanc.symm⟩
            · exact .inl (by omega)
          clear hR hE hq hanc hA hfg hAf hcaps hl0
          rcases hna with hz | ⟨hz, h94⟩
          · have e1 : (!p.toList.isEmpty) = false := by rw [toList_nil hz]; rfl
            have e0 : p.toList = [] := toList_nil hz
            clear hz
            go_enter Tryd.func8, Tryd.ntmps8
            go_wp2_with fail
            refine HF.out.mono ?_
            intro e w1 hpo
            obtain ⟨f, t, ao, n, cap, b, c, rfl, ⟨e2, e3, e4, e5⟩, hcr, hb1⟩ := hpo.open
            rw [HE.out] at e5
            subst e5
            have hsz1 := hb1.size
            have HB1 := Lib.hid (hb1.alloc hb1.size (mcell f t ao n cap))
            have HM := Lib.hid (heap_new w1 (mcell f t ao n cap))
            have HCR := Lib.hid (hcr.mono ((Below.refl w1.heap.size w1).alloc (Nat.le_refl _) (mcell f t ao n cap)) (Nat.le_refl _))
            have HE2 := Lib.hid e2
            have HE3 := Lib.hid e3
            have HE4 := Lib.hid e4
            have HS0 := Lib.hid (show FirstRel (w1.alloc (mcell f t ao n cap)) s p q R (s.size + 1 - i0) (.int .i64 (i0 : Int)) (w1.alloc (mcell f t ao n cap)) from ⟨i0, 0, rfl, rfl, by omega, Below.refl _ _, HFG.out⟩)
            clear hpo hb1 hcr e2 e3 e4
            go_wp2
            go_loopg [13] (s.size + 1 - i0) (fun gg v wr => FirstRel (w1.alloc (mcell f t ao n cap)) s p q R gg v wr)
            case atStart => exact HS0.out
            case round =>
              clear HS0 HFG
              obtain ⟨i, ns, rfl, rfl, hi, hb, hgo⟩ := hrel
              have hszr := hb.size
              simp only [World.size_alloc] at hszr
              have hm : wr.heap[w1.heap.size]? = some (mcell f t ao n cap) := (hb.block _ (by simp)).trans HM.out
              have HBW := Lib.hid (HB1.out.trans (hb.mono (by simp; omega)))
              have HB := Lib.hid hb
              have HMR := Lib.hid hm
              clear hb hm
              by_cases hle : i ≤ s.size
              · have hgo2 := hgo
                rw [show s.size + 1 - i = (s.size - i) + 1 by omega] at hgo2
                have hst := first_step HQ.out (by rw [bytesOf_length]; exact hle) hgo2 HE.out
                clear hgo hgo2
                rcases hst with ⟨hA, hB, hf⟩ | ⟨n2, hA, hgn⟩
                · have hcaps : (outM R).caps.length ≤ 16 := by rw [← hA]; exact at_caps _ _ _
                  have hbt : b = true := by rw [HE4.out]; exact hB
                  have tf : ((i : Int) == f) = true := by rw [HE2.out, hf]; simp
                  have HA := Lib.hid hA
                  have HCAPS := Lib.hid hcaps
                  have ATI := Lib.hid (ATC.out i wr)
                  rw [hA] at ATI
                  subst hbt
                  clear hA hB hf hcaps
                  go_wp2_with fail
                  refine ATI.out.mono ?_
                  intro e w2 hpo
                  obtain ⟨f', t', ao', n', cap', b', c', rfl, ⟨g2, g3, g4, g5⟩, hcr2, hb2⟩ := hpo.open
                  rw [HE.out] at g5
                  subst g5
                  rw [← HE2.out] at g2
                  rw [← HE3.out] at g3
                  rw [← HE4.out] at g4
                  subst g2 g3 g4
                  have hz2 := hb2.size
                  have hm2 : w2.heap[w1.heap.size]? = some (mcell f' t' ao n cap) := (hb2.block _ (by omega)).trans HMR.out
                  obtain ⟨m0, m1, m2⟩ := mcell_read hm2
                  have hlt2 : w1.heap.size < w2.heap.size := by omega
                  have hb2a : Below wr.heap.size wr (w2.alloc (mcell f' t' ao' n' cap')) := hb2.alloc hz2 _
                  have HB2 := Lib.hid (HBW.out.trans (hb2a.mono (by omega)))
                  have HS := Lib.hid (SAME.out f' t' (.slice ao n cap) (.slice ao' n' cap') (outM R).caps (w2.alloc (mcell f' t' ao' n' cap')) ((HCR.out.mono HB.out (Nat.le_refl _)).mono hb2a (Nat.le_refl _)) (hcr2.mono ((Below.refl _ _).alloc (Nat.le_refl _) _) (Nat.le_refl _)) HCAPS.out)
                  clear hpo hb2 hcr2 hm2 hb2a
                  go_wp2_with fail
                  refine HS.out.mono ?_
                  rintro e w3 ⟨rfl, hb3⟩
                  have HB3 := Lib.hid (HB2.out.trans (hb3.mono HB2.out.size))
                  clear hb3
                  go_wp2_with fail
                  refine (AW.out _ HB3.out).out.mono ?_
                  rintro e w4 ⟨rfl, hb4⟩
                  have HB4 := Lib.hid (HB3.out.trans (hb4.mono HB3.out.size))
                  clear hb4
                  go_wp2
                  go_ret
                  exact ⟨rfl, HB4.out⟩
                · have ATI := Lib.hid (ATC.out i wr)
                  rw [hA] at ATI
                  have HGN := Lib.hid hgn
                  clear hA hgn
                  go_wp2_with fail
                  refine ATI.out.mono ?_
                  intro e w2 hpo
                  obtain ⟨f', t', ao', n', cap', b', c', rfl, ⟨-, -, g4, g5⟩, -, hb2⟩ := hpo.open
                  have g4' : b' = false := g4
                  have g5' : c' = 0 := g5
                  subst g4' g5'
                  have HN := Lib.hid (show FirstRel (w1.alloc (mcell f t ao n cap)) s p q R (s.size + 1 - (i + 1)) (.int .i64 ((i : Int) + 1)) (w2.alloc (mcell f' t' ao' n' cap')) from
                    ⟨i + 1, n2, rfl, rfl, by omega, HB.out.trans ((hb2.alloc hb2.size _).mono (by simp; omega)), by rw [show s.size + 1 - (i + 1) = s.size - i by omega]; exact HGN.out⟩)
                  clear hpo hb2 g4 g5
                  go_wp2
                  go_roundg (s.size + 1 - (i + 1))
                  case measure => omega
                  case rel => exact HN.out
              · have hbf : b = false := by
                  rw [HE4.out, ← hgo, show s.size + 1 - i = 0 by omega]; rfl
                have hnle : ¬ ((i : Int) ≤ (s.size : Int)) := by omega
                subst hbf
                clear hgo
                go_wp2_with fail
                refine (AW.out _ HBW.out).out.mono ?_
                rintro e w4 ⟨rfl, hb4⟩
                have HB4 := Lib.hid (HBW.out.trans (hb4.mono HBW.out.size))
                clear hb4
                go_wp2
                go_ret
                exact ⟨rfl, HB4.out⟩
          · have t94 : ((p[0].toNat : Int) == 94) = false := by rw [beq_eq_false_iff_ne]; omega
            have e1 : (!p.toList.isEmpty) = true := by simpa using toList_ne hz
            have e0 : p.toList ≠ [] := toList_ne hz
            clear h94
            go_enter Tryd.func8, Tryd.ntmps8
            go_wp2_with fail
            refine HF.out.mono ?_
            intro e w1 hpo
            obtain ⟨f, t, ao, n, cap, b, c, rfl, ⟨e2, e3, e4, e5⟩, hcr, hb1⟩ := hpo.open
            rw [HE.out] at e5
            subst e5
            have hsz1 := hb1.size
            have HB1 := Lib.hid (hb1.alloc hb1.size (mcell f t ao n cap))
            have HM := Lib.hid (heap_new w1 (mcell f t ao n cap))
            have HCR := Lib.hid (hcr.mono ((Below.refl w1.heap.size w1).alloc (Nat.le_refl _) (mcell f t ao n cap)) (Nat.le_refl _))
            have HE2 := Lib.hid e2
            have HE3 := Lib.hid e3
            have HE4 := Lib.hid e4
            have HS0 := Lib.hid (show FirstRel (w1.alloc (mcell f t ao n cap)) s p q R (s.size + 1 - i0) (.int .i64 (i0 : Int)) (w1.alloc (mcell f t ao n cap)) from ⟨i0, 0, rfl, rfl, by omega, Below.refl _ _, HFG.out⟩)
            clear hpo hb1 hcr e2 e3 e4
            go_wp2
            go_loopg [13] (s.size + 1 - i0) (fun gg v wr => FirstRel (w1.alloc (mcell f t ao n cap)) s p q R gg v wr)
            case atStart => exact HS0.out
            case round =>
              clear HS0 HFG
              obtain ⟨i, ns, rfl, rfl, hi, hb, hgo⟩ := hrel
              have hszr := hb.size
              simp only [World.size_alloc] at hszr
              have hm : wr.heap[w1.heap.size]? = some (mcell f t ao n cap) := (hb.block _ (by simp)).trans HM.out
              have HBW := Lib.hid (HB1.out.trans (hb.mono (by simp; omega)))
              have HB := Lib.hid hb
              have HMR := Lib.hid hm
              clear hb hm
              by_cases hle : i ≤ s.size
              · have hgo2 := hgo
                rw [show s.size + 1 - i = (s.size - i) + 1 by omega] at hgo2
                have hst := first_step HQ.out (by rw [bytesOf_length]; exact hle) hgo2 HE.out
                clear hgo hgo2
                rcases hst with ⟨hA, hB, hf⟩ | ⟨n2, hA, hgn⟩
                · have hcaps : (outM R).caps.length ≤ 16 := by rw [← hA]; exact at_caps _ _ _
                  have hbt : b = true := by rw [HE4.out]; exact hB
                  have tf : ((i : Int) == f) = true := by rw [HE2.out, hf]; simp
                  have HA := Lib.hid hA
                  have HCAPS := Lib.hid hcaps
                  have ATI := Lib.hid (ATC.out i wr)
                  rw [hA] at ATI
                  subst hbt
                  clear hA hB hf hcaps
                  go_wp2_with fail
                  refine ATI.out.mono ?_
                  intro e w2 hpo
                  obtain ⟨f', t', ao', n', cap', b', c', rfl, ⟨g2, g3, g4, g5⟩, hcr2, hb2⟩ := hpo.open
                  rw [HE.out] at g5
                  subst g5
                  rw [← HE2.out] at g2
                  rw [← HE3.out] at g3
                  rw [← HE4.out] at g4
                  subst g2 g3 g4
                  have hz2 := hb2.size
                  have hm2 : w2.heap[w1.heap.size]? = some (mcell f' t' ao n cap) := (hb2.block _ (by omega)).trans HMR.out
                  obtain ⟨m0, m1, m2⟩ := mcell_read hm2
                  have hlt2 : w1.heap.size < w2.heap.size := by omega
                  have hb2a : Below wr.heap.size wr (w2.alloc (mcell f' t' ao' n' cap')) := hb2.alloc hz2 _
                  have HB2 := Lib.hid (HBW.out.trans (hb2a.mono (by omega)))
                  have HS := Lib.hid (SAME.out f' t' (.slice ao n cap) (.slice ao' n' cap') (outM R).caps (w2.alloc (mcell f' t' ao' n' cap')) ((HCR.out.mono HB.out (Nat.le_refl _)).mono hb2a (Nat.le_refl _)) (hcr2.mono ((Below.refl _ _).alloc (Nat.le_refl _) _) (Nat.le_refl _)) HCAPS.out)
                  clear hpo hb2 hcr2 hm2 hb2a
                  go_wp2_with fail
                  refine HS.out.mono ?_
                  rintro e w3 ⟨rfl, hb3⟩
                  have HB3 := Lib.hid (HB2.out.trans (hb3.mono HB2.out.size))
                  clear hb3
                  go_wp2_with fail
                  refine (AW.out _ HB3.out).out.mono ?_
                  rintro e w4 ⟨rfl, hb4⟩
                  have HB4 := Lib.hid (HB3.out.trans (hb4.mono HB3.out.size))
                  clear hb4
                  go_wp2
                  go_ret
                  exact ⟨rfl, HB4.out⟩
                · have ATI := Lib.hid (ATC.out i wr)
                  rw [hA] at ATI
                  have HGN := Lib.hid hgn
                  clear hA hgn
                  go_wp2_with fail
                  refine ATI.out.mono ?_
                  intro e w2 hpo
                  obtain ⟨f', t', ao', n', cap', b', c', rfl, ⟨-, -, g4, g5⟩, -, hb2⟩ := hpo.open
                  have g4' : b' = false := g4
                  have g5' : c' = 0 := g5
                  subst g4' g5'
                  have HN := Lib.hid (show FirstRel (w1.alloc (mcell f t ao n cap)) s p q R (s.size + 1 - (i + 1)) (.int .i64 ((i : Int) + 1)) (w2.alloc (mcell f' t' ao' n' cap')) from
                    ⟨i + 1, n2, rfl, rfl, by omega, HB.out.trans ((hb2.alloc hb2.size _).mono (by simp; omega)), by rw [show s.size + 1 - (i + 1) = s.size - i by omega]; exact HGN.out⟩)
                  clear hpo hb2 g4 g5
                  go_wp2
                  go_roundg (s.size + 1 - (i + 1))
                  case measure => omega
                  case rel => exact HN.out
              · have hbf : b = false := by
                  rw [HE4.out, ← hgo, show s.size + 1 - i = 0 by omega]; rfl
                have hnle : ¬ ((i : Int) ≤ (s.size : Int)) := by omega
                subst hbf
                clear hgo
                go_wp2_with fail
                refine (AW.out _ HBW.out).out.mono ?_
                rintro e w4 ⟨rfl, hb4⟩
                have HB4 := Lib.hid (HBW.out.trans (hb4.mono HBW.out.size))
                clear hb4
                go_wp2
                go_ret
                exact ⟨rfl, HB4.out⟩
  · have hout : 300 < s.size ∨ (s.size ≤ 300 ∧ 100 < p.size) ∨ (s.size ≤ 300 ∧ p.size ≤ 100 ∧ a < 0) ∨ (s.size ≤ 300 ∧ p.size ≤ 100 ∧ 0 ≤ a ∧ (s.size : Int) < a) := by omega
    clear hin
    have AW := Lib.hid (awake_c w HT.out)
    rcases hout with k1 | ⟨k1, k2⟩ | ⟨k1, k2, k3⟩ | ⟨k1, k2, k3, k4⟩
    all_goals
      go_enter Tryd.func8, Tryd.ntmps8
      go_wp2_with fail
      refine AW.out.mono ?_
      rintro e w4 ⟨rfl, hb4⟩
      have HB4 := Lib.hid hb4
      clear hb4
      go_wp2
      go_ret
      exact ⟨rfl, HB4.out⟩
end Go.Proofs.YtpbhncmaamedhaaDoor
