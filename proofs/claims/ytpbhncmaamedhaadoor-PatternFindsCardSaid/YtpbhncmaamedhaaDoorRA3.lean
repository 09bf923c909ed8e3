import Derived.Test.YtpbhncmaamedhaaDoorAwB
import Derived.Test.YtpbhncmaamedhaaDoorRA2
import Derived.Test.YtpbhncmaamedhaaDoorRP3
import Derived.Test.YtpbhncmaamedhaaDoorFind
namespace Go.Proofs.YtpbhncmaamedhaaDoor
open Go.RowKit Go.Proofs.Lexi

/-! PatternFirst: the plain law and the walk. -/
theorem atM_run {l p : List Nat} {q : St × Bool × Bool} (hq : parseM p = .ok q) {i : Nat} (hi : i ≤ l.length) : atM l p (i : Int) = ofRun i (runP l q i 0) := by
  unfold atM
  rw [hq]
  simp only []
  rw [if_neg (by omega)]; rfl
theorem run_shift {l p : List Nat} {q : St × Bool × Bool} (hq : parseM p = .ok q) {i n n' : Nat} {o : Option Nat} {cs : List ACap} (hi : i ≤ l.length) (h : runP l q i n = some (o, (n', cs))) : ofRun i (runP l q i 0) = ofRun i (runP l q i n) := by
  have := (run_good hq hi n o n' cs h).2.1 0 (Nat.zero_le _)
  rw [h, show runP l q i 0 = _ from this]
  cases o <;> rfl
theorem first_step {l p : List Nat} {q : St × Bool × Bool} (hq : parseM p = .ok q) {i n d : Nat} {R : Out} (hi : i ≤ l.length) (h : findGo (runP l q) false (d + 1) i n = R) (hR : outE R = 0) :
    (atM l p (i : Int) = R ∧ outB R = true ∧ (outM R).f = i) ∨ (∃ n', atM l p (i : Int) = .ok none ∧ findGo (runP l q) false d (i + 1) n' = R) := by
  rw [atM_run hq hi]
  cases hr : runP l q i n with
  | none =>
    rw [findGo_stop (.inr (.inl (by rw [hr]; show (3 : Nat) ≠ 0; decide))), hr] at h
    subst h
    cases hR
  | some st =>
    obtain ⟨o, n', cs⟩ := st
    rw [run_shift hq hi hr, hr]
    cases o with
    | some k =>
      rw [findGo_stop (.inl (by rw [hr]; rfl)), hr] at h
      exact .inl ⟨h, by rw [← h]; rfl, by rw [← h]; rfl⟩
    | none =>
      rw [findGo_on hr] at h
      exact .inr ⟨n', rfl, h⟩
theorem find_anchor {l p : List Nat} {q : St × Bool × Bool} (hq : parseM p = .ok q) (ha : q.2.1 = true) {i : Nat} (hi : i ≤ l.length) : findM l p (i : Int) = atM l p (i : Int) := by
  rw [atM_run hq hi]
  unfold findM
  rw [hq]
  simp only []
  rw [if_neg (by omega), Int.toNat_natCast, show l.length + 1 - i = (l.length - i) + 1 by omega]
  exact findGo_stop (.inr (.inr ha))
theorem findGo_err {run : Nat → Nat → MR} {anc : Bool} : ∀ (d i n : Nat) (c : Nat), findGo run anc d i n = .error c → c = 3
  | 0, _, _, _, h => by cases h
  | d + 1, i, n, c, h => by
    unfold findGo at h
    split at h
    · split at h
      · cases h
      · exact findGo_err d _ _ c h
    · rename_i R hR
      cases hr : run i n with
      | none => rw [hr] at h; injection h with h; exact h.symm
      | some st =>
        obtain ⟨o, n', cs⟩ := st
        rw [hr] at h
        cases o <;> cases h
theorem find_err {l p : List Nat} {i : Nat} (hi : i ≤ l.length) {c : Nat} (h : findM l p (i : Int) = .error c) : c ≠ 0 ∧ (CheckE p = c ∨ c = 3) := by
  unfold findM at h
  unfold CheckE
  cases hq : parseM p with
  | error e =>
    rw [hq] at h
    injection h with h
    have := parseM_err hq
    exact ⟨by omega, .inl h⟩
  | ok q =>
    rw [hq] at h
    simp only [] at h
    rw [if_neg (by omega)] at h
    have := findGo_err _ _ _ _ h
    exact ⟨by omega, .inr this⟩
theorem out_cases (R : Out) : (∃ c, R = .error c) ∨ outE R = 0 := by
  cases R with
  | error c => exact .inl ⟨c, rfl⟩
  | ok o => exact .inr rfl
theorem at_caps (l p : List Nat) (a : Int) : (outM (atM l p a)).caps.length ≤ 16 := by
  unfold atM
  cases hq : parseM p with
  | error e => simp [outM, zeroAM]
  | ok q =>
    simp only []
    split
    · simp [outM, zeroAM]
    · rename_i h
      cases hr : runP l q a.toNat 0 with
      | none => simp [ofRun, outM, zeroAM]
      | some st =>
        obtain ⟨o, n', cs⟩ := st
        cases o with
        | none => simp [ofRun, outM, zeroAM]
        | some k => exact (runAM_good hq ⟨a.toNat, 0, k, n', cs, by omega, hr, rfl⟩).n16
/-- At and Find, opened. -/
def OutO (w : World) (R : Out) (e : Ending) (w' : World) : Prop := ∃ (f t : Int) (ao : Option Addr) (n cap : Nat) (b : Bool) (c : Nat), e = .returned (.tuple #[.agg #[.int .i64 f, .int .i64 t, .slice ao n cap], .bool b, .int .i64 (c : Int)]) ∧
  (f = (outM R).f ∧ t = (outM R).t ∧ b = outB R ∧ c = outE R) ∧ CapsR w' (.slice ao n cap) (outM R).caps ∧ Below w.heap.size w w'
theorem OutPost.open {w : World} {R : Out} {e : Ending} {w' : World} (h : OutPost w R e w') : OutO w R e w' := by
  obtain ⟨hb, v, he, u, hv, hc⟩ := h
  subst hv
  obtain ⟨ao, cap, rfl⟩ := capsV_slice hc
  exact ⟨_, _, ao, _, cap, _, _, he, ⟨rfl, rfl, rfl, rfl⟩, capsR_of hc, hb⟩
abbrev mcell (f t : Int) (ao : Option Addr) (n cap : Nat) : Obj := .cells #[.int .i64 f, .int .i64 t, .slice ao n cap] 29
theorem mcell_read {w : World} {b : Nat} {f t : Int} {ao : Option Addr} {n cap : Nat} (h : w.heap[b]? = some (mcell f t ao n cap)) : w.cell? ⟨b, 0, none⟩ = some (.int .i64 f) ∧ w.cell? ⟨b, 1, none⟩ = some (.int .i64 t) ∧ w.cell? ⟨b, 2, none⟩ = some (.slice ao n cap) := by
  refine ⟨?_, ?_, ?_⟩ <;> (rw [cell_of_heap h]; rfl)
def FirstRel (w1 : World) (s _p : ByteArray) (q : St × Bool × Bool) (R : Out) (gg : Nat) (v : Value) (wr : World) : Prop := ∃ i n : Nat, gg = s.size + 1 - i ∧ v = .int .i64 (i : Int) ∧ i ≤ s.size + 1 ∧ Below w1.heap.size w1 wr ∧ findGo (runP (bytesOf s) q) false (s.size + 1 - i) i n = R
set_option maxRecDepth 100000 in
set_option maxHeartbeats 4000000 in
theorem first_law (s p : ByteArray) (a : Int) (w : World) (ht : Tab w) : Calls Tryd.prog 8 #[.string s, .string p, .int .i64 a] w (ExT w) := by
  have HT := Lib.hid ht
  clear ht
  by_cases hin : s.size ≤ 300 ∧ p.size ≤ 100 ∧ 0 ≤ a ∧ a ≤ s.size
  · obtain ⟨h1, h2, h3, h4⟩ := hin
    obtain ⟨i0, rfl⟩ : ∃ i : Nat, a = i := ⟨a.toNat, by omega⟩
    have hi0 : i0 ≤ s.size := by omega
    obtain ⟨R, hR⟩ : ∃ R, R = findM (bytesOf s) (bytesOf p) (i0 : Int) := ⟨_, rfl⟩
    have HF := Lib.hid (Find_c s p (i0 : Int) w (by omega) (by omega) R hR)
    have tail : ∀ W, Below w.heap.size w W → Hid (Calls Tryd.prog 12 #[] W (ExT W)) := fun W h => awake_c W (HT.out.mono h (Nat.le_refl _))
    have AW := Lib.hid tail
    clear tail
    rcases out_cases R with ⟨c, hc⟩ | hE
    · have herr := find_err (l := bytesOf s) (p := bytesOf p) (by rw [bytesOf_length]; exact hi0) (hR.symm.trans hc)
      have HRC := Lib.hid hc
      have tc : ((c : Int) != 0) = true := by rw [bne_iff_ne]; omega
      have HERR := Lib.hid herr
      have CK := Lib.hid (fun W => Check_c p W (by omega))
      clear hR hc herr
      go_enter Tryd.func8, Tryd.ntmps8
      go_wp2_with fail
      refine HF.out.mono ?_
      intro e w1 hpo
      obtain ⟨f, t, ao, n, cap, b, c', rfl, ⟨-, -, e3, e4⟩, -, hb1⟩ := hpo.open
      rw [HRC.out] at e3 e4
      have e3' : b = false := e3
      have e4' : c = c' := e4.symm
      subst e3' e4'
      have HB1 := Lib.hid (hb1.alloc hb1.size (mcell f t ao n cap))
      clear hpo hb1 e3 e4
      by_cases hck : CheckE (bytesOf p) = c
      · have tk : ((CheckE (bytesOf p) : Int) == (c : Int)) = true := by rw [hck]; simp
        clear hck
        go_wp2_with fail
        refine (CK.out _).mono ?_
        rintro e w2 ⟨rfl, hb2⟩
        have HB2 := Lib.hid (HB1.out.trans (hb2.mono HB1.out.size))
        clear hb2
        go_wp2_with fail
        refine (AW.out _ HB2.out).out.mono ?_
        rintro e w3 ⟨rfl, hb3⟩
        have HB3 := Lib.hid (HB2.out.trans (hb3.mono HB2.out.size))
        clear hb3
        go_wp2
        go_ret
        exact ⟨rfl, HB3.out⟩
      · have tk : ((CheckE (bytesOf p) : Int) == (c : Int)) = false := by rw [beq_eq_false_iff_ne]; omega
        have t3 : ((c : Int) == 3) = true := by have := HERR.out.2; rw [beq_iff_eq]; omega
        clear hck
        go_wp2_with fail
        refine (CK.out _).mono ?_
        rintro e w2 ⟨rfl, hb2⟩
        have HB2 := Lib.hid (HB1.out.trans (hb2.mono HB1.out.size))
        clear hb2
        go_wp2_with fail
        refine (AW.out _ HB2.out).out.mono ?_
        rintro e w3 ⟨rfl, hb3⟩
        have HB3 := Lib.hid (HB2.out.trans (hb3.mono HB2.out.size))
        clear hb3
        go_wp2
        go_ret
        exact ⟨rfl, HB3.out⟩
    · cases hq : parseM (bytesOf p) with
      | error e =>
        exfalso
        have : R = .error e := by rw [hR]; unfold findM; rw [hq]
        rw [this] at hE
        have := parseM_err hq
        simp [outE] at hE
        omega
      | ok q =>
        obtain ⟨-, -, -, -, hanc⟩ := parseM_inv (s := q.1) (anc := q.2.1) (fin := q.2.2) hq
        have hl0 : (bytesOf s).length = s.size := bytesOf_length s
        have hcaps : (outM (atM (bytesOf s) (bytesOf p) (i0 : Int))).caps.length ≤ 16 := at_caps _ _ _
        have HQ := Lib.hid hq
        have HE := Lib.hid hE
        have ATC := Lib.hid (fun (i : Nat) (W : World) => At_c s p (i : Int) W (by omega) (by omega) (atM (bytesOf s) (bytesOf p) (i : Int)) rfl)
        have SAME := Lib.hid (fun (f t : Int) (u1 u2 : Value) (ps : List (Int × Int)) (W : World) h1 h2 (hl : ps.length ≤ 16) => same_ex f t u1 u2 ps W h1 h2 (by omega))
        by_cases hA : q.2.1 = true
        · have hfa := find_anchor (l := bytesOf s) hq hA (by rw [bytesOf_length]; exact hi0)
          have hRa : atM (bytesOf s) (bytesOf p) (i0 : Int) = R := by rw [hR, hfa]
          rw [hRa] at hcaps
          obtain ⟨hpz, h94⟩ : ∃ h : 0 < p.size, p[0].toNat = 94 := by
            rw [hA] at hanc
            by_cases hz : 0 < p.size
            · have e := bytesOf_drop p 0 hz
              rw [List.drop_zero] at e
              rw [e] at hanc
              exact ⟨hz, by simpa using hanc.symm⟩
            · have e : bytesOf p = [] := List.eq_nil_of_length_eq_zero (by rw [bytesOf_length]; omega)
              rw [e] at hanc; cases hanc
          have t94 : ((p[0].toNat : Int) == 94) = true := by rw [h94]; rfl
          have e1 : (!p.toList.isEmpty) = true := by simpa using toList_ne hpz
          have e0 : p.toList ≠ [] := toList_ne hpz
          have AT0 := Lib.hid (ATC.out i0)
          rw [hRa] at AT0
          have HCAPS := Lib.hid hcaps
          clear hR hE hq hanc hA hfa hRa h94 hcaps hl0 ATC
          go_enter Tryd.func8, Tryd.ntmps8
          go_wp2_with fail
          refine HF.out.mono ?_
          intro e w1 hpo
          obtain ⟨f, t, ao, n, cap, b, c, rfl, ⟨e2, e3, e4, e5⟩, hcr, hb1⟩ := hpo.open
          rw [HE.out] at e5
          subst e5
          have HB1 := Lib.hid (hb1.alloc hb1.size (mcell f t ao n cap))
          have HM := Lib.hid (heap_new w1 (mcell f t ao n cap))
          have HCR := Lib.hid hcr
          have HE2 := Lib.hid e2
          have HE3 := Lib.hid e3
          have HE4 := Lib.hid e4
          clear hpo hb1 hcr e2 e3 e4
          go_wp2_with fail
          refine (AT0.out _).mono ?_
          intro e w2 hpo
          obtain ⟨f', t', ao', n', cap', b', c', rfl, ⟨g2, g3, g4, g5⟩, hcr2, hb2⟩ := hpo.open
          rw [HE.out] at g5
          subst g5
          rw [← HE2.out] at g2
          rw [← HE3.out] at g3
          rw [← HE4.out] at g4
          subst g2 g3 g4
          have hz2 := hb2.size
          simp only [World.size_alloc] at hz2
          have hm2 : w2.heap[w1.heap.size]? = some (mcell f' t' ao n cap) := (hb2.block _ (by simp)).trans HM.out
          obtain ⟨m0, m1, m2⟩ := mcell_read hm2
          have hlt2 : w1.heap.size < w2.heap.size := by omega
          have HB2 := Lib.hid ((HB1.out.trans (hb2.mono HB1.out.size)).alloc (by have := HB1.out.size; simp at this; omega) (mcell f' t' ao' n' cap'))
          have hbx : Below w1.heap.size w1 (w2.alloc (mcell f' t' ao' n' cap')) := (((Below.refl _ _).alloc (Nat.le_refl _) _).trans (hb2.mono (by simp))).alloc (by omega) _
          have HS := Lib.hid (SAME.out f' t' (.slice ao n cap) (.slice ao' n' cap') (outM R).caps (w2.alloc (mcell f' t' ao' n' cap')) (HCR.out.mono hbx (Nat.le_refl _)) (hcr2.mono ((Below.refl _ _).alloc (Nat.le_refl _) _) (Nat.le_refl _)) HCAPS.out)
          clear hpo hb2 hcr2 hm2 hbx
          cases b'
          all_goals
            go_wp2_with fail
            refine HS.out.mono ?_
            rintro e w3 ⟨rfl, hb3⟩
            have HB3 := Lib.hid (HB2.out.trans (hb3.mono HB2.out.size))
            clear hb3
            go_wp2_with fail
            refine (AW.out _ HB3.out).out.mono ?_
            rintro e w4 ⟨rfl, hb4⟩
            have HB4 := Lib.hid (HB3.out.trans (hb4.mono HB3.out.size))
            clear hb4
            go_wp2
            go_ret
            exact ⟨rfl, HB4.out⟩
        · have hAf : q.2.1 = false := by simpa using hA
          have hfg : findGo (runP (bytesOf s) q) false (s.size + 1 - i0) i0 0 = R := by
            rw [hR]; unfold findM; rw [hq]; simp only []
            rw [if_neg (by rw [bytesOf_length]; omega), hAf, bytesOf_length]; rfl
          have HFG := Lib.hid hfg
          -- the pattern does not begin with an anchor
          have hna : p.size = 0 ∨ ∃ h : 0 < p.size, ¬ p[0].toNat = 94 := by
            rw [hAf] at hanc
            by_cases hz : 0 < p.size
            · have e := bytesOf_drop p 0 hz
              rw [List.drop_zero] at e
              rw [e] at hanc
              exact .inr ⟨hz, by simpa using hanc.symm⟩
            · exact .inl (by omega)
          clear hR hE hq hanc hA hfg hAf hcaps hl0
          rcases hna with hz | ⟨hz, h94⟩
          · have e1 : (!p.toList.isEmpty) = false := by rw [toList_nil hz]; rfl
            have e0 : p.toList = [] := toList_nil hz
            clear hz
            go_enter Tryd.func8, Tryd.ntmps8
            go_wp2_with fail
            refine HF.out.mono ?_
            intro e w1 hpo
            obtain ⟨f, t, ao, n, cap, b, c, rfl, ⟨e2, e3, e4, e5⟩, hcr, hb1⟩ := hpo.open
            rw [HE.out] at e5
            subst e5
            have hsz1 := hb1.size
            have HB1 := Lib.hid (hb1.alloc hb1.size (mcell f t ao n cap))
            have HM := Lib.hid (heap_new w1 (mcell f t ao n cap))
            have HCR := Lib.hid (hcr.mono ((Below.refl w1.heap.size w1).alloc (Nat.le_refl _) (mcell f t ao n cap)) (Nat.le_refl _))
            have HE2 := Lib.hid e2
            have HE3 := Lib.hid e3
            have HE4 := Lib.hid e4
            have HS0 := Lib.hid (show FirstRel (w1.alloc (mcell f t ao n cap)) s p q R (s.size + 1 - i0) (.int .i64 (i0 : Int)) (w1.alloc (mcell f t ao n cap)) from ⟨i0, 0, rfl, rfl, by omega, Below.refl _ _, HFG.out⟩)
            clear hpo hb1 hcr e2 e3 e4
            go_wp2
            go_loopg [13] (s.size + 1 - i0) (fun gg v wr => FirstRel (w1.alloc (mcell f t ao n cap)) s p q R gg v wr)
            case atStart => exact HS0.out
            case round =>
              clear HS0 HFG
              obtain ⟨i, ns, rfl, rfl, hi, hb, hgo⟩ := hrel
              have hszr := hb.size
              simp only [World.size_alloc] at hszr
              have hm : wr.heap[w1.heap.size]? = some (mcell f t ao n cap) := (hb.block _ (by simp)).trans HM.out
              have HBW := Lib.hid (HB1.out.trans (hb.mono (by simp; omega)))
              have HB := Lib.hid hb
              have HMR := Lib.hid hm
              clear hb hm
              by_cases hle : i ≤ s.size
              · have hgo2 := hgo
                rw [show s.size + 1 - i = (s.size - i) + 1 by omega] at hgo2
                have hst := first_step HQ.out (by rw [bytesOf_length]; exact hle) hgo2 HE.out
                clear hgo hgo2
                rcases hst with ⟨hA, hB, hf⟩ | ⟨n2, hA, hgn⟩
                · have hcaps : (outM R).caps.length ≤ 16 := by rw [← hA]; exact at_caps _ _ _
                  have hbt : b = true := by rw [HE4.out]; exact hB
                  have tf : ((i : Int) == f) = true := by rw [HE2.out, hf]; simp
                  have HA := Lib.hid hA
                  have HCAPS := Lib.hid hcaps
                  have ATI := Lib.hid (ATC.out i wr)
                  rw [hA] at ATI
                  subst hbt
                  clear hA hB hf hcaps
                  go_wp2_with fail
                  refine ATI.out.mono ?_
                  intro e w2 hpo
                  obtain ⟨f', t', ao', n', cap', b', c', rfl, ⟨g2, g3, g4, g5⟩, hcr2, hb2⟩ := hpo.open
                  rw [HE.out] at g5
                  subst g5
                  rw [← HE2.out] at g2
                  rw [← HE3.out] at g3
                  rw [← HE4.out] at g4
                  subst g2 g3 g4
                  have hz2 := hb2.size
                  have hm2 : w2.heap[w1.heap.size]? = some (mcell f' t' ao n cap) := (hb2.block _ (by omega)).trans HMR.out
                  obtain ⟨m0, m1, m2⟩ := mcell_read hm2
                  have hlt2 : w1.heap.size < w2.heap.size := by omega
                  have hb2a : Below wr.heap.size wr (w2.alloc (mcell f' t' ao' n' cap')) := hb2.alloc hz2 _
                  have HB2 := Lib.hid (HBW.out.trans (hb2a.mono (by omega)))
                  have HS := Lib.hid (SAME.out f' t' (.slice ao n cap) (.slice ao' n' cap') (outM R).caps (w2.alloc (mcell f' t' ao' n' cap')) ((HCR.out.mono HB.out (Nat.le_refl _)).mono hb2a (Nat.le_refl _)) (hcr2.mono ((Below.refl _ _).alloc (Nat.le_refl _) _) (Nat.le_refl _)) HCAPS.out)
                  clear hpo hb2 hcr2 hm2 hb2a
                  go_wp2_with fail
                  refine HS.out.mono ?_
                  rintro e w3 ⟨rfl, hb3⟩
                  have HB3 := Lib.hid (HB2.out.trans (hb3.mono HB2.out.size))
                  clear hb3
                  go_wp2_with fail
                  refine (AW.out _ HB3.out).out.mono ?_
                  rintro e w4 ⟨rfl, hb4⟩
                  have HB4 := Lib.hid (HB3.out.trans (hb4.mono HB3.out.size))
                  clear hb4
                  go_wp2
                  go_ret
                  exact ⟨rfl, HB4.out⟩
                · have ATI := Lib.hid (ATC.out i wr)
                  rw [hA] at ATI
                  have HGN := Lib.hid hgn
                  clear hA hgn
                  go_wp2_with fail
                  refine ATI.out.mono ?_
                  intro e w2 hpo
                  obtain ⟨f', t', ao', n', cap', b', c', rfl, ⟨-, -, g4, g5⟩, -, hb2⟩ := hpo.open
                  have g4' : b' = false := g4
                  have g5' : c' = 0 := g5
                  subst g4' g5'
                  have HN := Lib.hid (show FirstRel (w1.alloc (mcell f t ao n cap)) s p q R (s.size + 1 - (i + 1)) (.int .i64 ((i : Int) + 1)) (w2.alloc (mcell f' t' ao' n' cap')) from
                    ⟨i + 1, n2, rfl, rfl, by omega, HB.out.trans ((hb2.alloc hb2.size _).mono (by simp; omega)), by rw [show s.size + 1 - (i + 1) = s.size - i by omega]; exact HGN.out⟩)
                  clear hpo hb2 g4 g5
                  go_wp2
                  go_roundg (s.size + 1 - (i + 1))
                  case measure => omega
                  case rel => exact HN.out
              · have hbf : b = false := by
                  rw [HE4.out, ← hgo, show s.size + 1 - i = 0 by omega]; rfl
                have hnle : ¬ ((i : Int) ≤ (s.size : Int)) := by omega
                subst hbf
                clear hgo
                go_wp2_with fail
                refine (AW.out _ HBW.out).out.mono ?_
                rintro e w4 ⟨rfl, hb4⟩
                have HB4 := Lib.hid (HBW.out.trans (hb4.mono HBW.out.size))
                clear hb4
                go_wp2
                go_ret
                exact ⟨rfl, HB4.out⟩
          · have t94 : ((p[0].toNat : Int) == 94) = false := by rw [beq_eq_false_iff_ne]; omega
            have e1 : (!p.toList.isEmpty) = true := by simpa using toList_ne hz
            have e0 : p.toList ≠ [] := toList_ne hz
            clear h94
            go_enter Tryd.func8, Tryd.ntmps8
            go_wp2_with fail
            refine HF.out.mono ?_
            intro e w1 hpo
            obtain ⟨f, t, ao, n, cap, b, c, rfl, ⟨e2, e3, e4, e5⟩, hcr, hb1⟩ := hpo.open
            rw [HE.out] at e5
            subst e5
            have hsz1 := hb1.size
            have HB1 := Lib.hid (hb1.alloc hb1.size (mcell f t ao n cap))
            have HM := Lib.hid (heap_new w1 (mcell f t ao n cap))
            have HCR := Lib.hid (hcr.mono ((Below.refl w1.heap.size w1).alloc (Nat.le_refl _) (mcell f t ao n cap)) (Nat.le_refl _))
            have HE2 := Lib.hid e2
            have HE3 := Lib.hid e3
            have HE4 := Lib.hid e4
            have HS0 := Lib.hid (show FirstRel (w1.alloc (mcell f t ao n cap)) s p q R (s.size + 1 - i0) (.int .i64 (i0 : Int)) (w1.alloc (mcell f t ao n cap)) from ⟨i0, 0, rfl, rfl, by omega, Below.refl _ _, HFG.out⟩)
            clear hpo hb1 hcr e2 e3 e4
            go_wp2
            go_loopg [13] (s.size + 1 - i0) (fun gg v wr => FirstRel (w1.alloc (mcell f t ao n cap)) s p q R gg v wr)
            case atStart => exact HS0.out
            case round =>
              clear HS0 HFG
              obtain ⟨i, ns, rfl, rfl, hi, hb, hgo⟩ := hrel
              have hszr := hb.size
              simp only [World.size_alloc] at hszr
              have hm : wr.heap[w1.heap.size]? = some (mcell f t ao n cap) := (hb.block _ (by simp)).trans HM.out
              have HBW := Lib.hid (HB1.out.trans (hb.mono (by simp; omega)))
              have HB := Lib.hid hb
              have HMR := Lib.hid hm
              clear hb hm
              by_cases hle : i ≤ s.size
              · have hgo2 := hgo
                rw [show s.size + 1 - i = (s.size - i) + 1 by omega] at hgo2
                have hst := first_step HQ.out (by rw [bytesOf_length]; exact hle) hgo2 HE.out
                clear hgo hgo2
                rcases hst with ⟨hA, hB, hf⟩ | ⟨n2, hA, hgn⟩
                · have hcaps : (outM R).caps.length ≤ 16 := by rw [← hA]; exact at_caps _ _ _
                  have hbt : b = true := by rw [HE4.out]; exact hB
                  have tf : ((i : Int) == f) = true := by rw [HE2.out, hf]; simp
                  have HA := Lib.hid hA
                  have HCAPS := Lib.hid hcaps
                  have ATI := Lib.hid (ATC.out i wr)
                  rw [hA] at ATI
                  subst hbt
                  clear hA hB hf hcaps
                  go_wp2_with fail
                  refine ATI.out.mono ?_
                  intro e w2 hpo
                  obtain ⟨f', t', ao', n', cap', b', c', rfl, ⟨g2, g3, g4, g5⟩, hcr2, hb2⟩ := hpo.open
                  rw [HE.out] at g5
                  subst g5
                  rw [← HE2.out] at g2
                  rw [← HE3.out] at g3
                  rw [← HE4.out] at g4
                  subst g2 g3 g4
                  have hz2 := hb2.size
                  have hm2 : w2.heap[w1.heap.size]? = some (mcell f' t' ao n cap) := (hb2.block _ (by omega)).trans HMR.out
                  obtain ⟨m0, m1, m2⟩ := mcell_read hm2
                  have hlt2 : w1.heap.size < w2.heap.size := by omega
                  have hb2a : Below wr.heap.size wr (w2.alloc (mcell f' t' ao' n' cap')) := hb2.alloc hz2 _
                  have HB2 := Lib.hid (HBW.out.trans (hb2a.mono (by omega)))
                  have HS := Lib.hid (SAME.out f' t' (.slice ao n cap) (.slice ao' n' cap') (outM R).caps (w2.alloc (mcell f' t' ao' n' cap')) ((HCR.out.mono HB.out (Nat.le_refl _)).mono hb2a (Nat.le_refl _)) (hcr2.mono ((Below.refl _ _).alloc (Nat.le_refl _) _) (Nat.le_refl _)) HCAPS.out)
                  clear hpo hb2 hcr2 hm2 hb2a
                  go_wp2_with fail
                  refine HS.out.mono ?_
                  rintro e w3 ⟨rfl, hb3⟩
                  have HB3 := Lib.hid (HB2.out.trans (hb3.mono HB2.out.size))
                  clear hb3
                  go_wp2_with fail
                  refine (AW.out _ HB3.out).out.mono ?_
                  rintro e w4 ⟨rfl, hb4⟩
                  have HB4 := Lib.hid (HB3.out.trans (hb4.mono HB3.out.size))
                  clear hb4
                  go_wp2
                  go_ret
                  exact ⟨rfl, HB4.out⟩
                · have ATI := Lib.hid (ATC.out i wr)
                  rw [hA] at ATI
                  have HGN := Lib.hid hgn
                  clear hA hgn
                  go_wp2_with fail
                  refine ATI.out.mono ?_
                  intro e w2 hpo
                  obtain ⟨f', t', ao', n', cap', b', c', rfl, ⟨-, -, g4, g5⟩, -, hb2⟩ := hpo.open
                  have g4' : b' = false := g4
                  have g5' : c' = 0 := g5
                  subst g4' g5'
                  have HN := Lib.hid (show FirstRel (w1.alloc (mcell f t ao n cap)) s p q R (s.size + 1 - (i + 1)) (.int .i64 ((i : Int) + 1)) (w2.alloc (mcell f' t' ao' n' cap')) from
                    ⟨i + 1, n2, rfl, rfl, by omega, HB.out.trans ((hb2.alloc hb2.size _).mono (by simp; omega)), by rw [show s.size + 1 - (i + 1) = s.size - i by omega]; exact HGN.out⟩)
                  clear hpo hb2 g4 g5
                  go_wp2
                  go_roundg (s.size + 1 - (i + 1))
                  case measure => omega
                  case rel => exact HN.out
              · have hbf : b = false := by
                  rw [HE4.out, ← hgo, show s.size + 1 - i = 0 by omega]; rfl
                have hnle : ¬ ((i : Int) ≤ (s.size : Int)) := by omega
                subst hbf
                clear hgo
                go_wp2_with fail
                refine (AW.out _ HBW.out).out.mono ?_
                rintro e w4 ⟨rfl, hb4⟩
                have HB4 := Lib.hid (HBW.out.trans (hb4.mono HBW.out.size))
                clear hb4
                go_wp2
                go_ret
                exact ⟨rfl, HB4.out⟩
  · have hout : 300 < s.size ∨ (s.size ≤ 300 ∧ 100 < p.size) ∨ (s.size ≤ 300 ∧ p.size ≤ 100 ∧ a < 0) ∨ (s.size ≤ 300 ∧ p.size ≤ 100 ∧ 0 ≤ a ∧ (s.size : Int) < a) := by omega
    clear hin
    have AW := Lib.hid (awake_c w HT.out)
    rcases hout with k1 | ⟨k1, k2⟩ | ⟨k1, k2, k3⟩ | ⟨k1, k2, k3, k4⟩
    all_goals
      go_enter Tryd.func8, Tryd.ntmps8
      go_wp2_with fail
      refine AW.out.mono ?_
      rintro e w4 ⟨rfl, hb4⟩
      have HB4 := Lib.hid hb4
      clear hb4
      go_wp2
      go_ret
      exact ⟨rfl, HB4.out⟩
end Go.Proofs.YtpbhncmaamedhaaDoor

namespace Go.Proofs.YtpbhncmaamedhaaDoor
open Go.RowKit Go.Proofs.Lexi

/-! The reference's at (33), result (32), begun (31), At (16). -/
/-- The matcher between two runs. -/
structure RBeg (E : MEnv) (w : World) (n : Nat) : Prop where
  below : Below E.w0.heap.size E.w0 w
  hm : ∃ p l c, w.heap[E.nb]? = some (.cells #[.string E.s, .pointer (some ⟨E.mb, 0, none⟩), .slice p l c, .int .i64 n] 70 (0, 0))
/-- What does not hang on the captures' block. -/
structure RPOK (E : MEnv) : Prop where
  nb0 : E.w0.heap.size ≤ E.nb
  il : E.vs.length = E.items.length
  hp : ∃ vo vc vp, E.w0.heap[E.mb]? = some (.cells #[E.vi, .bool E.anc, .bool E.fin, .int .i64 E.K, vo, vc, vp] 68 (0, 0))
  A : ∃ A M, E.w0.ownsRow A 114 6 E.vi E.items.length (rowR E.items E.vs) ∧ ItemsR E.w0 A M E.items E.vs
  len : E.items.length ≤ 5000
  sl : E.s.size ≤ 100000000
  kk : E.K ≤ 16
abbrev MEnv.at (E : MEnv) (b : Nat) : MEnv := { E with cb := b }
theorem RPOK.rm {E : MEnv} (h : RPOK E) {b : Nat} (h0 : E.w0.heap.size ≤ b) (h1 : E.nb ≠ b) : RMOK (E.at b) := ⟨h.nb0, h0, h1, h.il, h.hp, h.A, h.len, h.sl, h.kk⟩
theorem RMSt.beg {E : MEnv} {b : Nat} {w : World} {n : Nat} {cs : List ACap} (h : RMSt (E.at b) w n cs) : RBeg E w n := ⟨h.below, _, _, _, h.hm⟩
theorem RBeg.grow {E : MEnv} {w w' : World} {n : Nat} (h : RBeg E w n) (hb : Below w.heap.size w w') : RBeg E w' n := by
  obtain ⟨p, l, c, hm⟩ := h.hm
  exact ⟨h.below.trans (hb.mono h.below.size), p, l, c, (below_ext hb (Nat.le_refl _)).get hm⟩
theorem RBeg.drew {E : MEnv} {w : World} {n : Nat} (h : RBeg E w n) : RBeg E w.drew n := h.grow (Below.refl _ _).drew
theorem RBeg.lt {E : MEnv} {w : World} {n : Nat} (h : RBeg E w n) : E.nb < w.heap.size := by
  obtain ⟨p, l, c, hm⟩ := h.hm
  exact (Array.getElem?_eq_some_iff.1 hm).1
theorem RBeg.seto {E : MEnv} {w : World} {n : Nat} (h : RBeg E w n) {b : Nat} (hb : E.w0.heap.size ≤ b) (h1 : E.nb ≠ b) (k : Nat) (v : Value) : RBeg E (w.setCell ⟨b, k, none⟩ v) n := by
  obtain ⟨p, l, c, hm⟩ := h.hm
  exact ⟨h.below.setCell hb _, p, l, c, by rw [Below.heap_setCell _ _ _ _ h1]; exact hm⟩
theorem RBeg.set3 {E : MEnv} {w : World} {n : Nat} (h : RBeg E w n) {b : Nat} (hb : E.w0.heap.size ≤ b) (h1 : E.nb ≠ b) (x y z : Value) : RBeg E (set3 w b x y z) n := ((h.seto hb h1 _ _).seto hb h1 _ _).seto hb h1 _ _
theorem RBeg.steps {E : MEnv} {w : World} {n : Nat} (h : RBeg E w n) : w.cell? ⟨E.nb, 3, none⟩ = some (.int .i64 n) := by
  obtain ⟨p, l, c, hm⟩ := h.hm
  rw [cell_of_heap hm]; rfl
theorem flatPR_eq : ∀ (cs : List ACap), (∀ x ∈ cs, x.o = false) → cs.flatMap capPR = (cs.map capV).flatMap pairP
  | [], _ => rfl
  | c :: cs, h => by
    simp only [List.flatMap_cons, List.map_cons]
    rw [flatPR_eq cs (fun x hx => h x (List.mem_cons_of_mem _ hx))]
    have := h c List.mem_cons_self
    simp [capPR, capV, pairP, this]
theorem flatP_len : ∀ l : List (Int × Int), (l.flatMap pairP).length = l.length * 2
  | [] => rfl
  | c :: l => by simp only [List.flatMap_cons, List.length_append, flatP_len l, List.length_cons]; simp [pairP]; omega
theorem capsR_in {w : World} {c : Nat} {cs : List ACap} {K : Nat} (hl : cs.length = K) (hc : w.heap[c]? = some (.cells (capCellsR cs) 43 (0, 0))) (hK : K ≤ 16) (ho : ∀ x ∈ cs, x.o = false) {base : Nat} (hb : base ≤ c) : CapsV w base (.slice (some ⟨c, 0, none⟩) K K) (cs.map capV) := by
  subst hl
  have e := flatPR_eq cs ho
  have hlen := flatP_len (cs.map capV)
  rw [List.length_map] at hlen
  unfold CapsV
  rw [List.length_map]
  refine ⟨hlen, .inr ⟨c, cs.length, capCellsR cs, rfl, hb, hc, Nat.le_refl _, by unfold maxLen; omega, ?_, ?_⟩⟩
  · unfold capCellsR; rw [e]; simpa using hlen
  · unfold capCellsR; rw [e, List.take_of_length_le]; simp only; omega
theorem zeros_R (K : Nat) : capCells (List.replicate K zeroCap) = capCellsR (List.replicate K zeroCap) := by
  unfold capCells capCellsR
  congr 1
  induction K with
  | zero => rfl
  | succ K ih => rw [List.replicate_succ, List.flatMap_cons, List.flatMap_cons, ih]; rfl
/-- What (33) 'at' leaves. -/
def RAtOut (E : MEnv) (w : World) (i : Nat) (R : MR) (e : Ending) (w' : World) : Prop := ∃ (f t : Int) (ao : Option Addr) (l cap : Nat) (b : Bool) (n' : Nat),
  e = .returned (.tuple #[.agg #[.int .i64 f, .int .i64 t, .slice ao l cap], .bool b]) ∧
  (f = (outM (ofRun i R)).f ∧ t = (outM (ofRun i R)).t ∧ b = outB (ofRun i R)) ∧ CapsV w' w.heap.size (.slice ao l cap) (outM (ofRun i R)).caps ∧ RBeg E w' n' ∧ w.heap.size ≤ w'.heap.size ∧ n' ≤ maxSteps + 1 ∧
  (R = none ∧ maxSteps < n' ∨ ∃ o cs, R = some (o, (n', cs)) ∧ n' ≤ maxSteps)
theorem rat_over {E : MEnv} {w w' : World} {i : Nat} {R : MR} {n : Nat} (hR : R = none) (hs : w.heap.size ≤ w'.heap.size) (h1 : maxSteps < n) (h2 : n ≤ maxSteps + 1) (h : RBeg E w' n) : RAtOut E w i R (.returned (.tuple #[zeroMatch, .bool false])) w' := by
  subst hR; exact ⟨0, 0, none, 0, 0, false, n, rfl, ⟨rfl, rfl, rfl⟩, capsV_nil _ _, h, hs, h2, .inl ⟨rfl, h1⟩⟩
theorem rat_no {E : MEnv} {w w' : World} {i : Nat} {R : MR} {n : Nat} {cs : List ACap} (hR : R = some (none, (n, cs))) (hs : w.heap.size ≤ w'.heap.size) (h1 : n ≤ maxSteps) (h : RBeg E w' n) : RAtOut E w i R (.returned (.tuple #[zeroMatch, .bool false])) w' := by
  subst hR; exact ⟨0, 0, none, 0, 0, false, n, rfl, ⟨rfl, rfl, rfl⟩, capsV_nil _ _, h, hs, by omega, .inr ⟨_, _, rfl, h1⟩⟩
theorem rat_yes {E : MEnv} {w w' : World} {i : Nat} {R : MR} {k n : Nat} {cs : List ACap} {ao : Option Addr} {l cap : Nat} (hR : R = some (some k, (n, cs))) (hs : w.heap.size ≤ w'.heap.size) (h1 : n ≤ maxSteps) (hv : CapsV w' w.heap.size (.slice ao l cap) (cs.map capV)) (h : RBeg E w' n) : RAtOut E w i R (.returned (.tuple #[.agg #[.int .i64 (i : Int), .int .i64 (k : Int), .slice ao l cap], .bool true])) w' := by
  subst hR; exact ⟨_, _, _, _, _, true, n, rfl, ⟨rfl, rfl, rfl⟩, hv, h, hs, by omega, .inr ⟨_, _, rfl, h1⟩⟩
/-- At the end of a match no capture is open. -/
theorem run_closed {E : MEnv} (hwf : WfItems E.K st0 E.items) (hcl : ∀ k, k < E.K → stEnd st0 E.items k = 2 ∨ stEnd st0 E.items k = 3) {i n k n' : Nat} {cs : List ACap} (hi : i ≤ E.s.size) (h : runM E i n = some (some k, (n', cs))) : ∀ x ∈ cs, x.o = false := by
  obtain ⟨_, _, _, hd⟩ := Gd.match_ (bytesOf E.s) E.fin E.K 0 E.items st0 i (List.replicate E.K zeroCap) hwf (by rw [bytesOf_length]; exact hi) (Nat.zero_le _) (capInv0 E i) n (some k) n' cs h
  obtain ⟨_, _, _, hc⟩ := hd k rfl
  intro x hx
  obtain ⟨j, hj, rfl⟩ := List.getElem_of_mem hx
  have hjK : j < E.K := by rw [← hc.len]; exact hj
  have e : cs.getD j zeroCap = cs[j] := by simp [List.getD_eq_getElem?_getD, hj]
  rcases hcl j hjK with h | h
  · have := (hc.c2 j h).1; rwa [e] at this
  · have := (hc.c3 j h).1; rwa [e] at this
set_option maxRecDepth 100000 in
set_option maxHeartbeats 4000000 in
theorem rat_c {E : MEnv} (ok : RPOK E) (hwf : WfItems E.K st0 E.items) (hcl : ∀ k, k < E.K → stEnd st0 E.items k = 2 ∨ stEnd st0 E.items k = 3) {w : World} {n : Nat} (h : RBeg E w n) (hn : n ≤ maxSteps) (m : Nat) (a : Int) (i : Nat) (hm : m = E.nb) (ha : a = i) (hi : i ≤ E.s.size) (R : MR) (hR : R = runM E i n) :
    Calls Tryd.prog 33 #[.pointer (some ⟨m, 0, none⟩), .int .i64 a] w (RAtOut E w i R) := by
  subst hm ha
  have hkk := ok.kk
  have hlt := h.lt
  have hbl := h.below.size
  have hne : E.nb ≠ w.heap.size + 1 := by omega
  have hmk := make_caps E.K ok.kk (w.alloc resMatch)
  simp only [World.size_alloc] at hmk
  obtain ⟨p0, l0, c0, hm0⟩ := h.hm
  have hz : (w.setCell ⟨E.nb, 2, none⟩ (.slice (some ⟨w.heap.size + 1, 0, none⟩) E.K E.K)).heap.size = w.heap.size := World.size_setCell _ _ _
  have hb2 : Below w.heap.size (w.setCell ⟨E.nb, 2, none⟩ (.slice (some ⟨w.heap.size + 1, 0, none⟩) E.K E.K)) (((w.setCell ⟨E.nb, 2, none⟩ (.slice (some ⟨w.heap.size + 1, 0, none⟩) E.K E.K)).alloc resMatch).alloc (.cells (capCells (List.replicate E.K zeroCap)) 43)) := ((Below.refl _ _).alloc (by simp) _).alloc (by simp) _
  have hm1 := heap_setCell_same hm0 2 (.slice (some ⟨w.heap.size + 1, 0, none⟩) E.K E.K)
  have hrc : (((w.setCell ⟨E.nb, 2, none⟩ (.slice (some ⟨w.heap.size + 1, 0, none⟩) E.K E.K)).alloc resMatch).alloc (.cells (capCells (List.replicate E.K zeroCap)) 43)).heap[w.heap.size]? = some resMatch := by
    have := heap_new (w.setCell ⟨E.nb, 2, none⟩ (.slice (some ⟨w.heap.size + 1, 0, none⟩) E.K E.K)) resMatch
    rw [hz] at this
    rw [Below.heap_alloc _ _ _ (by simp)]; exact this
  have hst : RMSt (E.at (w.heap.size + 1)) (((w.setCell ⟨E.nb, 2, none⟩ (.slice (some ⟨w.heap.size + 1, 0, none⟩) E.K E.K)).alloc resMatch).alloc (.cells (capCells (List.replicate E.K zeroCap)) 43)) n (List.replicate E.K zeroCap) := by
    refine ⟨(h.below.setCell (p := ⟨E.nb, 2, none⟩) ok.nb0 _).trans (hb2.mono hbl), ?_, ?_, by simp⟩
    · show (((w.setCell ⟨E.nb, 2, none⟩ (.slice (some ⟨w.heap.size + 1, 0, none⟩) E.K E.K)).alloc resMatch).alloc (.cells (capCells (List.replicate E.K zeroCap)) 43)).heap[E.nb]? = _
      rw [hb2.block E.nb hlt, hm1]; rfl
    · have := heap2_b (w.setCell ⟨E.nb, 2, none⟩ (.slice (some ⟨w.heap.size + 1, 0, none⟩) E.K E.K)) resMatch (.cells (capCells (List.replicate E.K zeroCap)) 43)
      rw [hz] at this
      rw [← zeros_R]
      exact this
  have hrm : RMOK (E.at (w.heap.size + 1)) := ok.rm (by omega) hne
  have HM := Lib.hid (fun (W : World) (hW : RMSt (E.at (w.heap.size + 1)) W n (List.replicate E.K zeroCap)) => rmatch_c hrm hwf E.items.length 0 (by show 0 + E.items.length = E.items.length; omega) W n _ 0 (i : Int) i hW hn hi (capInv0 (E.at (w.heap.size + 1)) i) rfl rfl)
  have HR := Lib.hid (show R = matchM (bytesOf E.s) E.fin (E.items.drop 0) i (n, List.replicate E.K zeroCap) from hR)
  have HCL := Lib.hid (fun (k n' : Nat) (cs : List ACap) (h : R = some (some k, (n', cs))) => run_closed hwf hcl hi (hR.symm.trans h))
  have HST := Lib.hid hst
  have HRC := Lib.hid hrc
  have hpm : ∃ vo vc vp, w.heap[E.mb]? = some (.cells #[E.vi, .bool E.anc, .bool E.fin, .int .i64 E.K, vo, vc, vp] 68 (0, 0)) := by
    obtain ⟨vo, vc, vp, hp⟩ := ok.hp
    exact ⟨vo, vc, vp, (h.below.block E.mb (Array.getElem?_eq_some_iff.1 hp).1).trans hp⟩
  obtain ⟨vo, vc, vp, hpm⟩ := hpm
  have hpl : E.mb < w.heap.size := (Array.getElem?_eq_some_iff.1 hpm).1
  have k1 : w.cell? ⟨E.nb, 1, none⟩ = some (.pointer (some ⟨E.mb, 0, none⟩)) := by rw [cell_of_heap hm0]; rfl
  have k2 : w.cell? ⟨E.nb, 2, none⟩ = some (.slice p0 l0 c0) := by rw [cell_of_heap hm0]; rfl
  have k3 : w.cell? ⟨E.mb, 3, none⟩ = some (.int .i64 E.K) := by rw [cell_of_heap hpm]; rfl
  have z2 : w.frozen? ⟨E.nb, 2, none⟩ = false := by simp [World.frozen?, hm0]
  clear hR hst hrc hm1 hm0 hpm hb2 h hrm hz
  go_enter Tryd.func33, Tryd.ntmps33
  go_wp2_with (simp only [hmk])
  try (refine wp_region_lex mixed (by kernel_rfl) ?_; go_wp2_with (simp only [hmk]); refine ⟨by kernel_rfl, ?_⟩)
  go_wp2_with fail
  refine (HM.out _ HST.out).mono ?_
  rintro e w1 ⟨hF1, hp⟩
  rw [← HR.out] at hp
  have hs1 := hF1.size
  simp at hs1
  have hcell : w1.heap[w.heap.size]? = some resMatch := (hF1.block w.heap.size (by simp; omega) (by show w.heap.size ≠ E.nb; omega) (by show w.heap.size ≠ w.heap.size + 1; omega)).trans HRC.out
  obtain ⟨q0, q1, q2, z0, z1, z3⟩ := cell3 hcell
  have n1 : E.nb ≠ w.heap.size := by omega
  have hlt1 : w.heap.size < w1.heap.size := by omega
  clear hF1 hcell HM HR HST HRC k1 k2 k3 z2
  cases hr : R with
  | none =>
    rw [hr] at hp
    have HRR := Lib.hid hr
    obtain ⟨x, n', cs', rfl, hn3, hn4, h2⟩ := hp
    have H2 := Lib.hid h2.beg
    clear hr h2
    go_wp2
    try (refine wp_region_lex mixed (by kernel_rfl) ?_; go_wp2; refine ⟨by kernel_rfl, ?_⟩; go_wp2)
    refine bodyPost_ret (v := .tuple #[zeroMatch, .bool false]) (by simp [results, Tryd.results33, go_sem, q0, q1, q2, zeroMatch]) rfl ?_
    exact rat_over HRR.out (by simp; omega) hn3 hn4 (by first | exact H2.out.set3 hbl n1 _ _ _ | exact H2.out.drew.set3 hbl n1 _ _ _)
  | some qq =>
    obtain ⟨o, n', cs'⟩ := qq
    rw [hr] at hp
    have HRR := Lib.hid hr
    cases o with
    | none =>
      obtain ⟨x, rfl, hn3, h2⟩ := hp
      have H2 := Lib.hid h2.beg
      clear hr h2
      go_wp2
      try (refine wp_region_lex mixed (by kernel_rfl) ?_; go_wp2; refine ⟨by kernel_rfl, ?_⟩; go_wp2)
      refine bodyPost_ret (v := .tuple #[zeroMatch, .bool false]) (by simp [results, Tryd.results33, go_sem, q0, q1, q2, zeroMatch]) rfl ?_
      exact rat_no HRR.out (by simp; omega) hn3 (by first | exact H2.out.set3 hbl n1 _ _ _ | exact H2.out.drew.set3 hbl n1 _ _ _)
    | some k =>
      obtain ⟨rfl, hn3, hk2, h2⟩ := hp
      have y2 : w1.cell? ⟨E.nb, 2, none⟩ = some (.slice (some ⟨w.heap.size + 1, 0, none⟩) E.K E.K) := by rw [cell_of_heap h2.hm]; rfl
      have y3 : w1.cell? ⟨E.nb, 3, none⟩ = some (.int .i64 n') := by rw [cell_of_heap h2.hm]; rfl
      have hnle : ¬ (100000 : Int) < (n' : Int) := by unfold maxSteps at hn3; omega
      have hv := capsR_in (base := w.heap.size) h2.cl h2.hc ok.kk (HCL.out k n' cs' hr) (by show w.heap.size ≤ w.heap.size + 1; omega)
      have H2 := Lib.hid h2.beg
      have hnb : (Value.slice (some ⟨w.heap.size + 1, 0, none⟩) E.K E.K).ownBlock ≠ some w.heap.size := fun e => by have e2 : w.heap.size + 1 = w.heap.size := Option.some.inj e; omega
      have HV := Lib.hid (fun x y z => ownsRow_set3 hv hnb x y z)
      have HVD := Lib.hid (fun x y z => ownsRow_set3 (w := w1.drew) hv hnb x y z)
      clear hr h2 hv hnb
      go_wp2
      try (refine wp_region_lex mixed (by kernel_rfl) ?_; go_wp2; refine ⟨by kernel_rfl, ?_⟩; go_wp2)
      refine bodyPost_ret (v := .tuple #[.agg #[.int .i64 (i : Int), .int .i64 (k : Int), .slice (some ⟨w.heap.size + 1, 0, none⟩) E.K E.K], .bool true]) (by simp [results, Tryd.results33, go_sem, q0, q1, q2]) rfl ?_
      exact rat_yes HRR.out (by simp; omega) hn3 (by first | exact HV.out _ _ _ | exact HVD.out _ _ _) (by first | exact H2.out.set3 hbl n1 _ _ _ | exact H2.out.drew.set3 hbl n1 _ _ _)
end Go.Proofs.YtpbhncmaamedhaaDoor

namespace Go.Proofs.YtpbhncmaamedhaaDoor
open Go.RowKit Go.Proofs.Lexi

set_option maxRecDepth 100000 in
set_option maxHeartbeats 2000000 in
theorem rres_over {E : MEnv} {w : World} {n : Nat} (h : RBeg E w n) (hn : maxSteps < n) (m : Nat) (hm : m = E.nb) (f t : Int) (ao : Option Addr) (l cap : Nat) (b : Bool) :
    Calls Tryd.prog 32 #[.pointer (some ⟨m, 0, none⟩), .agg #[.int .i64 f, .int .i64 t, .slice ao l cap], .bool b] w fun e w' => e = .returned (.tuple #[.agg #[.int .i64 0, .int .i64 0, .slice none 0 0], .bool false, .int .i64 3]) ∧ Below w.heap.size w w' := by
  subst hm
  have k3 := h.steps
  have hlt := h.lt
  have hgt : (100000 : Int) < (n : Int) := by unfold maxSteps at hn; omega
  have hb2 : ∀ o, Below w.heap.size w ((w.alloc (.cells #[.int .i64 f, .int .i64 t, .slice ao l cap] 29)).alloc o) := fun o => ((Below.refl _ _).alloc (Nat.le_refl _) _).alloc (by simp) _
  have HB2 := Lib.hid hb2
  clear h hb2
  go_enter Tryd.func32, Tryd.ntmps32
  go_wp2
  refine bodyPost_ret (v := .tuple #[zeroMatch, .bool false, .int .i64 3]) (by simp [results, Tryd.results32, go_sem, zeroMatch]) rfl ?_
  exact ⟨rfl, HB2.out _⟩
set_option maxRecDepth 100000 in
set_option maxHeartbeats 2000000 in
theorem rres_ok {E : MEnv} {w : World} {n : Nat} (h : RBeg E w n) (hn : n ≤ maxSteps) (m : Nat) (hm : m = E.nb) (f t : Int) (ao : Option Addr) (l cap : Nat) (b : Bool) :
    Calls Tryd.prog 32 #[.pointer (some ⟨m, 0, none⟩), .agg #[.int .i64 f, .int .i64 t, .slice ao l cap], .bool b] w fun e w' => e = .returned (.tuple #[.agg #[.int .i64 f, .int .i64 t, .slice ao l cap], .bool b, .int .i64 0]) ∧ Below w.heap.size w w' := by
  subst hm
  have k3 := h.steps
  have hlt := h.lt
  have hnle : ¬ (100000 : Int) < (n : Int) := by unfold maxSteps at hn; omega
  have hb2 : ∀ o, Below w.heap.size w ((w.alloc (.cells #[.int .i64 f, .int .i64 t, .slice ao l cap] 29)).alloc o) := fun o => ((Below.refl _ _).alloc (Nat.le_refl _) _).alloc (by simp) _
  have HB2 := Lib.hid hb2
  clear h hb2
  go_enter Tryd.func32, Tryd.ntmps32
  go_wp2
  refine bodyPost_ret (v := .tuple #[.agg #[.int .i64 f, .int .i64 t, .slice ao l cap], .bool b, .int .i64 0]) (by simp [results, Tryd.results32, go_sem]) rfl ?_
  exact ⟨rfl, HB2.out _⟩
/-- What (31) begun leaves. -/
def BegPost (w : World) (s : ByteArray) (pl : List Nat) (a : Int) (e : Ending) (w' : World) : Prop := Below w.heap.size w w' ∧
  match parseM pl with
  | .error c => e = .returned (.tuple #[.pointer none, .int .i64 c])
  | .ok q => if a < 0 ∨ (s.size : Int) < a then e = .returned (.tuple #[.pointer none, .int .i64 6])
      else ∃ E : MEnv, e = .returned (.tuple #[.pointer (some ⟨E.nb, 0, none⟩), .int .i64 0]) ∧ RPOK E ∧ RBeg E w' 0 ∧ w.heap.size ≤ E.w0.heap.size ∧ Below w.heap.size w E.w0 ∧
        E.s = s ∧ E.items = q.1.items ∧ E.K = q.1.caps ∧ E.anc = q.2.1 ∧ E.fin = q.2.2
theorem beg_err {w w' : World} {s : ByteArray} {pl : List Nat} {a : Int} {c : Nat} (hq : parseM pl = .error c) (hb : Below w.heap.size w w') : BegPost w s pl a (.returned (.tuple #[.pointer none, .int .i64 c])) w' := by
  unfold BegPost; rw [hq]; exact ⟨hb, rfl⟩
theorem beg_range {w w' : World} {s : ByteArray} {pl : List Nat} {a : Int} {q : St × Bool × Bool} (hq : parseM pl = .ok q) (ha : a < 0 ∨ (s.size : Int) < a) (hb : Below w.heap.size w w') : BegPost w s pl a (.returned (.tuple #[.pointer none, .int .i64 6])) w' := by
  unfold BegPost; rw [hq]; refine ⟨hb, ?_⟩
  simp only []
  rw [if_pos ha]
  trivial
theorem beg_ok {w w1 w' : World} {s p : ByteArray} {a : Int} {q : St × Bool × Bool} (hq : parseM (bytesOf p) = .ok q) (hp : p.size ≤ 5000) (hs : s.size ≤ 100000000) (ha : ¬ (a < 0 ∨ (s.size : Int) < a)) (h1 : PPost w w.heap.size q.2.1 q.2.2 q.1 w1) (nb : Nat) (hnb : nb = w1.heap.size)
    (hw : w' = w1.alloc (.cells #[.string s, .pointer (some ⟨w.heap.size, 0, none⟩), .slice none 0 0, .int .i64 0] 70)) : BegPost w s (bytesOf p) a (.returned (.tuple #[.pointer (some ⟨nb, 0, none⟩), .int .i64 0])) w' := by
  subst hw hnb
  obtain ⟨ps, vi, vo, vc, vp, vs, h, _⟩ := h1
  obtain ⟨-, -, hcap, hil, -⟩ := parseM_inv (s := q.1) (anc := q.2.1) (fin := q.2.2) hq
  rw [bytesOf_length] at hil
  unfold BegPost
  rw [hq]
  refine ⟨h.below.alloc h.below.size _, ?_⟩
  simp only []
  rw [if_neg ha]
  refine ⟨⟨w1, w.heap.size, w1.heap.size, 0, vi, vs, q.1.items, q.1.caps, q.2.1, q.2.2, s⟩, rfl, ⟨Nat.le_refl _, h.il, ⟨vo, vc, vp, h.hr⟩, ⟨_, _, h.oi, h.its⟩, (by show q.1.items.length ≤ 5000; omega), hs, hcap⟩, ⟨(Below.refl _ _).alloc (Nat.le_refl _) _, none, 0, 0, heap_new _ _⟩, h.below.size, h.below, rfl, rfl, rfl, rfl, rfl⟩
theorem read_err {w w' : World} {p : ByteArray} {e : Ending} {c : Nat} (h : ReadPost w (parseM (bytesOf p)) e w') (hq : parseM (bytesOf p) = .error c) : Below w.heap.size w w' ∧ e = .returned (.tuple #[.pointer none, .int .i64 c]) := by
  rw [hq] at h; exact ⟨h.2, h.1⟩
theorem read_ok {w w' : World} {p : ByteArray} {e : Ending} {q : St × Bool × Bool} (h : ReadPost w (parseM (bytesOf p)) e w') (hq : parseM (bytesOf p) = .ok q) : PPost w w.heap.size q.2.1 q.2.2 q.1 w' ∧ e = .returned (.tuple #[.pointer (some ⟨w.heap.size, 0, none⟩), .int .i64 0]) := by
  obtain ⟨s, anc, fin⟩ := q
  rw [hq] at h; exact ⟨h.2, h.1⟩
theorem PPost.below {w w' : World} {ob : Nat} {anc fin : Bool} {s : St} (h : PPost w ob anc fin s w') : Below w.heap.size w w' := by
  obtain ⟨ps, vi, vo, vc, vp, vs, h, _⟩ := h
  exact h.below
set_option maxRecDepth 100000 in
set_option maxHeartbeats 2000000 in
theorem begun_c (s p : ByteArray) (a : Int) (w : World) (hp : p.size ≤ 5000) (hs : s.size ≤ 100000000) : Calls Tryd.prog 31 #[.string s, .string p, .int .i64 a] w (BegPost w s (bytesOf p) a) := by
  have HRD := Lib.hid (read_c p hp w)
  cases hq : parseM (bytesOf p) with
  | error c =>
    have hc : ((c : Int) != 0) = true := by have := parseM_err hq; rw [bne_iff_ne]; omega
    have HQ := Lib.hid hq
    clear hq
    go_enter Tryd.func31, Tryd.ntmps31
    go_wp2_with fail
    refine HRD.out.mono ?_
    intro e w1 hpo
    obtain ⟨hb1, rfl⟩ := read_err hpo HQ.out
    have HB1 := Lib.hid hb1
    clear hpo hb1
    go_wp2
    go_ret2
    exact beg_err HQ.out HB1.out
  | ok q =>
    have HQ := Lib.hid hq
    clear hq
    by_cases h0 : a < 0
    · have t0 : decide (a < 0) = true := decide_eq_true h0
      go_enter Tryd.func31, Tryd.ntmps31
      go_wp2_with fail
      refine HRD.out.mono ?_
      intro e w1 hpo
      obtain ⟨hb1, rfl⟩ := read_ok hpo HQ.out
      have HB1 := Lib.hid hb1.below
      clear hpo hb1
      go_wp2
      go_ret2
      exact beg_range HQ.out (.inl h0) HB1.out
    · by_cases h1 : (s.size : Int) < a
      · have t0 : decide (a < 0) = false := decide_eq_false h0
        have t1 : decide ((s.size : Int) < a) = true := decide_eq_true h1
        go_enter Tryd.func31, Tryd.ntmps31
        go_wp2_with fail
        refine HRD.out.mono ?_
        intro e w1 hpo
        obtain ⟨hb1, rfl⟩ := read_ok hpo HQ.out
        have HB1 := Lib.hid hb1.below
        clear hpo hb1
        go_wp2
        go_ret2
        exact beg_range HQ.out (.inr h1) HB1.out
      · have HA := Lib.hid (show ¬ (a < 0 ∨ (s.size : Int) < a) by omega)
        go_enter Tryd.func31, Tryd.ntmps31
        go_wp2_with fail
        refine HRD.out.mono ?_
        intro e w1 hpo
        obtain ⟨hb1, rfl⟩ := read_ok hpo HQ.out
        have HB1 := Lib.hid hb1
        clear hpo hb1
        go_wp2
        go_ret2
        exact beg_ok HQ.out hp hs HA.out HB1.out _ rfl rfl
end Go.Proofs.YtpbhncmaamedhaaDoor

namespace Go.Proofs.YtpbhncmaamedhaaDoor
open Go.RowKit Go.Proofs.Lexi

theorem begE_of {w w' : World} {s : ByteArray} {pl : List Nat} {a : Int} {e : Ending} {c : Nat} (h : BegPost w s pl a e w') (hq : parseM pl = .error c) : Below w.heap.size w w' ∧ e = .returned (.tuple #[.pointer none, .int .i64 c]) := by
  unfold BegPost at h; rw [hq] at h; exact h
theorem begR_of {w w' : World} {s : ByteArray} {pl : List Nat} {a : Int} {e : Ending} {q : St × Bool × Bool} (h : BegPost w s pl a e w') (hq : parseM pl = .ok q) (ha : a < 0 ∨ (s.size : Int) < a) : Below w.heap.size w w' ∧ e = .returned (.tuple #[.pointer none, .int .i64 6]) := by
  unfold BegPost at h; rw [hq] at h; obtain ⟨h1, h2⟩ := h
  simp only [] at h2
  rw [if_pos ha] at h2
  exact ⟨h1, h2⟩
structure BegOK (E : MEnv) (w w' : World) (s : ByteArray) (q : St × Bool × Bool) : Prop where
  ok : RPOK E
  beg : RBeg E w' 0
  wf : WfItems E.K st0 E.items
  cl : ∀ k, k < E.K → stEnd st0 E.items k = 2 ∨ stEnd st0 E.items k = 3
  size : w.heap.size ≤ E.w0.heap.size
  bw : Below w.heap.size w E.w0
  es : E.s = s
  run : ∀ i n, runP (bytesOf s) q i n = runM E i n
  ea : E.anc = q.2.1
theorem begO_of {w w' : World} {s : ByteArray} {pl : List Nat} {a : Int} {e : Ending} {q : St × Bool × Bool} (h : BegPost w s pl a e w') (hq : parseM pl = .ok q) (ha : ¬ (a < 0 ∨ (s.size : Int) < a)) :
    ∃ E : MEnv, e = .returned (.tuple #[.pointer (some ⟨E.nb, 0, none⟩), .int .i64 0]) ∧ BegOK E w w' s q := by
  obtain ⟨hwf, hcl, -, -, -⟩ := parseM_inv (s := q.1) (anc := q.2.1) (fin := q.2.2) hq
  unfold BegPost at h; rw [hq] at h; obtain ⟨_, h2⟩ := h
  simp only [] at h2
  rw [if_neg ha] at h2
  obtain ⟨E, h1, h2, h3, h4, h5, h6, h7, h8, h9, h10⟩ := h2
  exact ⟨E, h1, h2, h3, by rw [h8, h7]; exact hwf, by rw [h8, h7]; exact hcl, h4, h5, h6, fun i n => by unfold runP runM; rw [h6, h10, h7, h8], h9⟩
/-- The result's block, behind what lies above it. -/
theorem res_cell {E : MEnv} {w w1 w2 : World} {n : Nat} {s : ByteArray} {q : St × Bool × Bool} (h : BegOK E (w.alloc resMatch) w1 s q) (hb : RBeg E w2 n) : w2.heap[w.heap.size]? = some resMatch ∧ w.heap.size < w2.heap.size ∧ Below w.heap.size w w2 := by
  have h1 := h.size
  have h2 := hb.below.size
  rw [World.size_alloc] at h1
  refine ⟨(hb.below.block _ (by omega)).trans ((h.bw.block _ (by simp)).trans (heap_new _ _)), by omega, ?_⟩
  exact ((((Below.refl _ _).alloc (Nat.le_refl _) resMatch).trans (h.bw.mono (by simp))).trans (hb.below.mono (by omega)))
theorem out_done {w w' : World} {R : Out} {i : Nat} {Q : MR} (hR : R = ofRun i Q) {f t : Int} {b : Bool} {ao : Option Addr} {l cap : Nat} (h1 : f = (outM (ofRun i Q)).f ∧ t = (outM (ofRun i Q)).t ∧ b = outB (ofRun i Q)) (h2 : outE (ofRun i Q) = 0) (hb : Below w.heap.size w w') (hv : CapsV w' w.heap.size (.slice ao l cap) (outM (ofRun i Q)).caps) :
    OutPost w R (.returned (.tuple #[.agg #[.int .i64 f, .int .i64 t, .slice ao l cap], .bool b, .int .i64 0])) w' := by
  subst hR
  obtain ⟨rfl, rfl, rfl⟩ := h1
  exact ⟨hb, _, by rw [h2]; rfl, _, rfl, hv⟩
theorem outE_some {i : Nat} {Q : MR} {o : Option Nat} {st : MS} (h : Q = some (o, st)) : outE (ofRun i Q) = 0 := by
  subst h; obtain ⟨n, cs⟩ := st; cases o <;> rfl
set_option maxRecDepth 100000 in
set_option maxHeartbeats 4000000 in
theorem rAt_c (s p : ByteArray) (a : Int) (w : World) (hp : p.size ≤ 5000) (hs : s.size ≤ 100000000) (R : Out) (hR : R = atM (bytesOf s) (bytesOf p) a) :
    Calls Tryd.prog 16 #[.string s, .string p, .int .i64 a] w (OutPost w R) := by
  have HB0 := Lib.hid (show Below w.heap.size w (w.alloc resMatch) from (Below.refl _ _).alloc (Nat.le_refl _) _)
  have HBG := Lib.hid (begun_c s p a (w.alloc resMatch) hp hs)
  cases hq : parseM (bytesOf p) with
  | error c =>
    have hc : ((c : Int) != 0) = true := by have := parseM_err hq; rw [bne_iff_ne]; omega
    have HR := Lib.hid (show R = .error c from by rw [hR]; unfold atM; rw [hq])
    have HQ := Lib.hid hq
    clear hR hq
    go_enter Tryd.func16, Tryd.ntmps16
    go_wp2_with fail
    refine HBG.out.mono ?_
    intro e w1 hpo
    obtain ⟨hb1, rfl⟩ := begE_of hpo HQ.out
    have hcell : w1.heap[w.heap.size]? = some resMatch := (hb1.block _ (by simp)).trans (heap_new _ _)
    have hlt : w.heap.size < w1.heap.size := (Array.getElem?_eq_some_iff.1 hcell).1
    obtain ⟨q0, q1, q2, z0, z1, z2⟩ := cell3 hcell
    have HB := Lib.hid (HB0.out.trans (hb1.mono (by simp)))
    clear hpo hb1 hcell
    go_wp2
    refine bodyPost_ret (v := .tuple #[zeroMatch, .bool false, .int .i64 c]) (by simp [results, Tryd.results16, go_sem, q0, q1, q2, zeroMatch]) rfl ?_
    exact out_err HR.out (below_set3 HB.out (Nat.le_refl _) _ _ _)
  | ok q =>
    have HQ := Lib.hid hq
    have hR2 : R = if a < 0 ∨ ((bytesOf s).length : Int) < a then .error 6 else ofRun a.toNat (runP (bytesOf s) q a.toNat 0) := by rw [hR]; unfold atM; rw [hq]
    rw [bytesOf_length] at hR2
    clear hR hq
    by_cases hr : a < 0 ∨ (s.size : Int) < a
    · have HR := Lib.hid (show R = .error 6 from by rw [hR2, if_pos hr])
      have HRG := Lib.hid hr
      clear hR2 hr
      go_enter Tryd.func16, Tryd.ntmps16
      go_wp2_with fail
      refine HBG.out.mono ?_
      intro e w1 hpo
      obtain ⟨hb1, rfl⟩ := begR_of hpo HQ.out HRG.out
      have hcell : w1.heap[w.heap.size]? = some resMatch := (hb1.block _ (by simp)).trans (heap_new _ _)
      have hlt : w.heap.size < w1.heap.size := (Array.getElem?_eq_some_iff.1 hcell).1
      obtain ⟨q0, q1, q2, z0, z1, z2⟩ := cell3 hcell
      have HB := Lib.hid (HB0.out.trans (hb1.mono (by simp)))
      clear hpo hb1 hcell
      go_wp2
      refine bodyPost_ret (v := .tuple #[zeroMatch, .bool false, .int .i64 6]) (by simp [results, Tryd.results16, go_sem, q0, q1, q2, zeroMatch]) rfl ?_
      exact out_err HR.out (below_set3 HB.out (Nat.le_refl _) _ _ _)
    · have HR := Lib.hid (show R = ofRun a.toNat (runP (bytesOf s) q a.toNat 0) from by rw [hR2, if_neg hr])
      have HRG := Lib.hid hr
      obtain ⟨i, rfl⟩ : ∃ i : Nat, a = i := ⟨a.toNat, by omega⟩
      have hi : i ≤ s.size := by omega
      clear hR2 hr
      go_enter Tryd.func16, Tryd.ntmps16
      go_wp2_with fail
      refine HBG.out.mono ?_
      intro e w1 hpo
      obtain ⟨E, rfl, hbg⟩ := begO_of hpo HQ.out HRG.out
      have HG := Lib.hid hbg
      obtain ⟨Q, hQ⟩ : ∃ Q, Q = runP (bytesOf s) q i 0 := ⟨_, rfl⟩
      have HRQ := Lib.hid (show R = ofRun i Q from by rw [hQ]; exact HR.out)
      have HAT := Lib.hid (rat_c HG.out.ok HG.out.wf HG.out.cl HG.out.beg (Nat.zero_le _) E.nb (i : Int) i rfl rfl (by rw [HG.out.es]; exact hi) Q (by rw [hQ]; exact HG.out.run i 0))
      clear hpo hbg hQ HR
      go_wp2_with fail
      refine HAT.out.mono ?_
      rintro e w2 ⟨f, t, ao, l, cap, b, n', rfl, heq, hcv, hbeg2, hs2, hn2, hend⟩
      have HBEG := Lib.hid hbeg2
      obtain ⟨hcell, hlt, hbw⟩ := res_cell HG.out hbeg2
      have hb1s := (res_cell HG.out HG.out.beg).2.1
      have HBW := Lib.hid hbw
      have HCELL := Lib.hid hcell
      have HCV := Lib.hid hcv
      have HEQ := Lib.hid heq
      clear hbeg2 hcell hcv heq hbw HAT
      rcases hend with ⟨hnone, hgt⟩ | ⟨o, cs, hsome, hle⟩
      · have HRE := Lib.hid (show R = .error 3 from by rw [HRQ.out, hnone]; rfl)
        clear hnone
        go_wp2_with fail
        refine (rres_over HBEG.out hgt _ rfl f t ao l cap b).mono ?_
        rintro e w3 ⟨rfl, hb3⟩
        have hcell3 := (hb3.block _ hlt).trans HCELL.out
        obtain ⟨q0, q1, q2, z0, z1, z2⟩ := cell3 hcell3
        have hlt3 : w.heap.size < w3.heap.size := by have := hb3.size; omega
        have HB3 := Lib.hid (HBW.out.trans (hb3.mono (by omega)))
        clear hb3 hcell3
        go_wp2
        refine bodyPost_ret (v := .tuple #[zeroMatch, .bool false, .int .i64 3]) (by simp [results, Tryd.results16, go_sem, q0, q1, q2, zeroMatch]) rfl ?_
        exact out_err HRE.out (below_set3 HB3.out (Nat.le_refl _) _ _ _)
      · have HE0 := Lib.hid (outE_some (i := i) hsome)
        clear hsome
        go_wp2_with fail
        refine (rres_ok HBEG.out hle _ rfl f t ao l cap b).mono ?_
        rintro e w3 ⟨rfl, hb3⟩
        have hcell3 := (hb3.block _ hlt).trans HCELL.out
        obtain ⟨q0, q1, q2, z0, z1, z2⟩ := cell3 hcell3
        have hlt3 : w.heap.size < w3.heap.size := by have := hb3.size; omega
        have HB3 := Lib.hid (HBW.out.trans (hb3.mono (by omega)))
        have hnb : (Value.slice ao l cap).ownBlock ≠ some w.heap.size := fun e => by have := (ownBlock_lt HCV.out e).1; omega
        have HCV3 := Lib.hid (ownsRow_set3 (ownsRow_base (ownsRow_ext (below_ext hb3 (Nat.le_refl _)) HCV.out) (show w.heap.size ≤ w1.heap.size by omega)) hnb (.int .i64 f) (.int .i64 t) (.slice ao l cap))
        clear hb3 hcell3 hnb HCV
        go_wp2
        refine bodyPost_ret (v := .tuple #[.agg #[.int .i64 f, .int .i64 t, .slice ao l cap], .bool b, .int .i64 0]) (by simp [results, Tryd.results16, go_sem, q0, q1, q2]) rfl ?_
        exact out_done HRQ.out HEQ.out HE0.out (below_set3 HB3.out (Nat.le_refl _) _ _ _) HCV3.out
end Go.Proofs.YtpbhncmaamedhaaDoor

namespace Go.Proofs.YtpbhncmaamedhaaDoor
open Go.RowKit Go.Proofs.Lexi

/-! The reference's Find (19). -/
def RFindRel (E : MEnv) (len : Nat) (run : Nat → Nat → MR) (anc : Bool) (R : Out) (gg : Nat) (v : Value) (wr : World) : Prop := ∃ (i n : Nat), gg = len + 1 - i ∧ v = .int .i64 (i : Int) ∧ i ≤ len + 1 ∧ RBeg E wr n ∧ n ≤ maxSteps ∧ findGo run anc (len + 1 - i) i n = R
theorem RBeg.ptr {E : MEnv} {w : World} {n : Nat} (h : RBeg E w n) : w.cell? ⟨E.nb, 1, none⟩ = some (.pointer (some ⟨E.mb, 0, none⟩)) := by
  obtain ⟨p, l, c, hm⟩ := h.hm
  rw [cell_of_heap hm]; rfl
theorem RBeg.anc {E : MEnv} (ok : RPOK E) {w : World} {n : Nat} (h : RBeg E w n) : w.cell? ⟨E.mb, 1, none⟩ = some (.bool E.anc) ∧ E.mb < w.heap.size := by
  obtain ⟨vo, vc, vp, hp⟩ := ok.hp
  have hlt := (Array.getElem?_eq_some_iff.1 hp).1
  have h2 := (h.below.block E.mb hlt).trans hp
  exact ⟨by rw [cell_of_heap h2]; rfl, (Array.getElem?_eq_some_iff.1 h2).1⟩
theorem find_err_done {w w' : World} {R : Out} {i : Nat} {Q : MR} (hR : R = ofRun i Q) (hQ : Q = none) (hb : Below w.heap.size w w') : OutPost w R (.returned (.tuple #[zeroMatch, .bool false, .int .i64 3])) w' := out_err (c := 3) (by rw [hR, hQ]; rfl) hb
theorem none_of {i : Nat} {Q : MR} {o : Option Nat} {st : MS} (hQ : Q = some (o, st)) (hb : false = outB (ofRun i Q)) : Q = some (none, st) := by
  subst hQ; obtain ⟨n, cs⟩ := st; cases o
  · rfl
  · cases hb
theorem ret_case {b c : Bool} (h : b = true ∨ c = true) : b = true ∨ (b = false ∧ c = true) := by cases b <;> simp_all
theorem not_ret {b c : Bool} (h : ¬ (b = true ∨ c = true)) : b = false ∧ c = false := by cases b <;> cases c <;> simp_all
set_option maxRecDepth 100000 in
set_option maxHeartbeats 4000000 in
theorem rFind_c (s p : ByteArray) (a : Int) (w : World) (hp : p.size ≤ 5000) (hs : s.size ≤ 100000000) (R : Out) (hR : R = findM (bytesOf s) (bytesOf p) a) :
    Calls Tryd.prog 19 #[.string s, .string p, .int .i64 a] w (OutPost w R) := by
  have HB0 := Lib.hid (show Below w.heap.size w (w.alloc resMatch) from (Below.refl _ _).alloc (Nat.le_refl _) _)
  have HBG := Lib.hid (begun_c s p a (w.alloc resMatch) hp hs)
  cases hq : parseM (bytesOf p) with
  | error c =>
    have hc : ((c : Int) != 0) = true := by have := parseM_err hq; rw [bne_iff_ne]; omega
    have HR := Lib.hid (show R = .error c from by rw [hR]; unfold findM; rw [hq])
    have HQ := Lib.hid hq
    clear hR hq
    go_enter Tryd.func19, Tryd.ntmps19
    go_wp2_with fail
    refine HBG.out.mono ?_
    intro e w1 hpo
    obtain ⟨hb1, rfl⟩ := begE_of hpo HQ.out
    have hcell : w1.heap[w.heap.size]? = some resMatch := (hb1.block _ (by simp)).trans (heap_new _ _)
    have hlt : w.heap.size < w1.heap.size := (Array.getElem?_eq_some_iff.1 hcell).1
    obtain ⟨q0, q1, q2, z0, z1, z2⟩ := cell3 hcell
    have HB := Lib.hid (HB0.out.trans (hb1.mono (by simp)))
    clear hpo hb1 hcell
    go_wp2
    refine bodyPost_ret (v := .tuple #[zeroMatch, .bool false, .int .i64 c]) (by simp [results, Tryd.results19, go_sem, q0, q1, q2, zeroMatch]) rfl ?_
    exact out_err HR.out (below_set3 HB.out (Nat.le_refl _) _ _ _)
  | ok q =>
    have HQ := Lib.hid hq
    have hR2 : R = if a < 0 ∨ ((bytesOf s).length : Int) < a then .error 6 else findGo (runP (bytesOf s) q) q.2.1 ((bytesOf s).length + 1 - a.toNat) a.toNat 0 := by rw [hR]; unfold findM; rw [hq]
    rw [bytesOf_length] at hR2
    clear hR hq
    by_cases hr : a < 0 ∨ (s.size : Int) < a
    · have HR := Lib.hid (show R = .error 6 from by rw [hR2, if_pos hr])
      have HRG := Lib.hid hr
      clear hR2 hr
      go_enter Tryd.func19, Tryd.ntmps19
      go_wp2_with fail
      refine HBG.out.mono ?_
      intro e w1 hpo
      obtain ⟨hb1, rfl⟩ := begR_of hpo HQ.out HRG.out
      have hcell : w1.heap[w.heap.size]? = some resMatch := (hb1.block _ (by simp)).trans (heap_new _ _)
      have hlt : w.heap.size < w1.heap.size := (Array.getElem?_eq_some_iff.1 hcell).1
      obtain ⟨q0, q1, q2, z0, z1, z2⟩ := cell3 hcell
      have HB := Lib.hid (HB0.out.trans (hb1.mono (by simp)))
      clear hpo hb1 hcell
      go_wp2
      refine bodyPost_ret (v := .tuple #[zeroMatch, .bool false, .int .i64 6]) (by simp [results, Tryd.results19, go_sem, q0, q1, q2, zeroMatch]) rfl ?_
      exact out_err HR.out (below_set3 HB.out (Nat.le_refl _) _ _ _)
    · have HRG := Lib.hid hr
      have hR3 : findGo (runP (bytesOf s) q) q.2.1 (s.size + 1 - a.toNat) a.toNat 0 = R := by rw [hR2, if_neg hr]
      obtain ⟨i0, rfl⟩ : ∃ i : Nat, a = i := ⟨a.toNat, by omega⟩
      have hi : i0 ≤ s.size := by omega
      have HR := Lib.hid hR3
      clear hR2 hr hR3
      go_enter Tryd.func19, Tryd.ntmps19
      go_wp2_with fail
      refine HBG.out.mono ?_
      intro e w1 hpo
      obtain ⟨E, rfl, hbg⟩ := begO_of hpo HQ.out HRG.out
      have HG := Lib.hid hbg
      have hb1s := (res_cell HG.out HG.out.beg).2.1
      have HS0 := Lib.hid (show RFindRel E s.size (runP (bytesOf s) q) q.2.1 R (s.size + 1 - i0) (.int .i64 (i0 : Int)) w1 from ⟨i0, 0, rfl, rfl, by omega, HG.out.beg, Nat.zero_le _, HR.out⟩)
      clear hpo hbg HR
      go_wp2
      go_loopg [11] (s.size + 1 - i0) (fun gg v wr => RFindRel E s.size (runP (bytesOf s) q) q.2.1 R gg v wr)
      case atStart => exact HS0.out
      case round =>
        clear HS0
        obtain ⟨i, n, rfl, rfl, hi1, hbeg, hn, hgo⟩ := hrel
        by_cases hlt2 : i ≤ s.size
        · obtain ⟨d, hd⟩ : ∃ d, s.size + 1 - i = d + 1 := ⟨s.size - i, by omega⟩
          obtain ⟨Q, hQ⟩ : ∃ Q, Q = runP (bytesOf s) q i n := ⟨_, rfl⟩
          have hwr := (res_cell HG.out hbeg).2.1
          have HAT := Lib.hid (rat_c HG.out.ok HG.out.wf HG.out.cl hbeg hn E.nb (i : Int) i rfl rfl (by rw [HG.out.es]; exact hlt2) Q (by rw [hQ]; exact HG.out.run i n))
          have HSTOP := Lib.hid (fun h => (hgo.symm.trans (by rw [hd, findGo_stop h, ← hQ]) : R = ofRun i Q))
          rw [← hQ] at HSTOP
          have HGO := Lib.hid (show findGo (runP (bytesOf s) q) q.2.1 (d + 1) i n = R from by rw [← hd]; exact hgo)
          have HQQ := Lib.hid hQ
          have HD := Lib.hid hd
          clear hbeg hgo hQ hd
          go_wp2_with fail
          refine HAT.out.mono ?_
          rintro e w4 ⟨f, t, ao, l, cap, b, n', rfl, heq, hcv, hbeg4, hs4, hn4, hend⟩
          obtain ⟨hcell, hlt4, hbw⟩ := res_cell HG.out hbeg4
          obtain ⟨hanc, hmb4⟩ := RBeg.anc HG.out.ok hbeg4
          rw [HG.out.ea] at hanc
          have hptr := hbeg4.ptr
          have hst := hbeg4.steps
          have hnb4 := hbeg4.lt
          have HBEG := Lib.hid hbeg4
          have HBW := Lib.hid hbw
          have HCELL := Lib.hid hcell
          have HCV := Lib.hid hcv
          have HEQ := Lib.hid heq
          have HA4 := Lib.hid (show Below w4.heap.size w4 (w4.alloc (.cells #[.int .i64 f, .int .i64 t, .slice ao l cap] 29)) from (Below.refl _ _).alloc (Nat.le_refl _) _)
          clear hbeg4 hcell hcv heq hbw HAT
          rcases hend with ⟨hnone, hgt⟩ | ⟨o, cs, hsome, hle⟩
          · have hbf : b = false := by rw [HEQ.out.2.2, hnone]; rfl
            subst hbf
            have HNONE := Lib.hid hnone
            have HRR := Lib.hid (HSTOP.out (.inr (.inl (by rw [hnone]; exact (show (3 : Nat) ≠ 0 by decide)))))
            have hgt' : (100000 : Int) < (n' : Int) := by unfold maxSteps at hgt; omega
            clear hnone
            cases hqa : q.2.1
            all_goals
              rw [hqa] at hanc
              go_wp2_with fail
              refine (rres_over (HBEG.out.grow HA4.out) hgt _ rfl f t ao l cap false).mono ?_
              rintro e w5 ⟨rfl, hb5⟩
              have hcell5 := (hb5.block w.heap.size (by simp; omega)).trans ((HA4.out.block _ hlt4).trans HCELL.out)
              obtain ⟨q0, q1, q2, z0, z1, z2⟩ := cell3 hcell5
              have hlt5 : w.heap.size < w5.heap.size := (Array.getElem?_eq_some_iff.1 hcell5).1
              have HB5 := Lib.hid ((HBW.out.trans (HA4.out.mono (by omega))).trans (hb5.mono (by simp; omega)))
              clear hb5 hcell5
              go_wp2
              refine bodyPost_ret (v := .tuple #[zeroMatch, .bool false, .int .i64 3]) (by simp [results, Tryd.results19, go_sem, q0, q1, q2, zeroMatch]) rfl ?_
              exact find_err_done HRR.out HNONE.out (below_set3 HB5.out (Nat.le_refl _) _ _ _)
          · have HE0 := Lib.hid (outE_some (i := i) hsome)
            have hnle : ¬ (100000 : Int) < (n' : Int) := by unfold maxSteps at hle; omega
            by_cases hret : b = true ∨ q.2.1 = true
            · have HRR := Lib.hid (HSTOP.out (hret.elim (fun h => .inl (by rw [← HEQ.out.2.2]; exact h)) (fun h => .inr (.inr h))))
              clear hsome
              have hcase := ret_case hret
              clear hret
              rcases hcase with hb | ⟨hb, hqa⟩
              all_goals
                subst hb
                try rw [hqa] at hanc
                go_wp2_with fail
                refine (rres_ok (HBEG.out.grow HA4.out) hle _ rfl f t ao l cap _).mono ?_
                rintro e w5 ⟨rfl, hb5⟩
                have hcell5 := (hb5.block w.heap.size (by simp; omega)).trans ((HA4.out.block _ hlt4).trans HCELL.out)
                obtain ⟨q0, q1, q2, z0, z1, z2⟩ := cell3 hcell5
                have hlt5 : w.heap.size < w5.heap.size := (Array.getElem?_eq_some_iff.1 hcell5).1
                have HB5 := Lib.hid ((HBW.out.trans (HA4.out.mono (by omega))).trans (hb5.mono (by simp; omega)))
                have hnb : (Value.slice ao l cap).ownBlock ≠ some w.heap.size := fun e => by have := (ownBlock_lt HCV.out e).1; omega
                have HCV5 := Lib.hid (ownsRow_set3 (ownsRow_base (ownsRow_ext (below_ext hb5 (Nat.le_refl _)) (ownsRow_ext (below_ext HA4.out (Nat.le_refl _)) HCV.out)) (show w.heap.size ≤ wr.heap.size by omega)) hnb (.int .i64 f) (.int .i64 t) (.slice ao l cap))
                clear hb5 hcell5 hnb
                go_wp2
                refine bodyPost_ret (by simp [results, Tryd.results19, go_sem, q0, q1, q2]; first | done | rfl) rfl ?_
                exact out_done HRR.out HEQ.out HE0.out (below_set3 HB5.out (Nat.le_refl _) _ _ _) HCV5.out
            · obtain ⟨hb, hqa⟩ := not_ret hret
              subst hb
              have hQn := none_of hsome HEQ.out.2.2
              have HN := Lib.hid (show RFindRel E s.size (runP (bytesOf s) q) q.2.1 R (s.size + 1 - (i + 1)) (.int .i64 ((i : Int) + 1)) (w4.alloc (.cells #[.int .i64 f, .int .i64 t, .slice ao l cap] 29)) from
                ⟨i + 1, n', rfl, rfl, by omega, HBEG.out.grow HA4.out, hle, by
                  have hg := HGO.out
                  rw [hqa, findGo_on (by rw [← HQQ.out]; exact hQn)] at hg
                  rw [hqa, show s.size + 1 - (i + 1) = d by have := HD.out; omega]
                  exact hg⟩)
              rw [hqa] at hanc
              clear hret hsome hQn hqa
              go_wp2
              go_roundg (s.size + 1 - (i + 1))
              case measure => omega
              case rel => exact HN.out
        · have HF := Lib.hid (show R = .ok none from by rw [← hgo, show s.size + 1 - i = 0 by omega]; rfl)
          obtain ⟨hcell, hltr, hbw⟩ := res_cell HG.out hbeg
          have hnle : ¬ ((i : Int) ≤ (s.size : Int)) := by omega
          have HBEG := Lib.hid hbeg
          have HBW := Lib.hid hbw
          have HCELL := Lib.hid hcell
          clear hgo hbeg hcell hbw
          go_wp2_with fail
          refine (rres_ok HBEG.out hn _ rfl 0 0 none 0 0 false).mono ?_
          rintro e w5 ⟨rfl, hb5⟩
          have hcell5 := (hb5.block w.heap.size hltr).trans HCELL.out
          obtain ⟨q0, q1, q2, z0, z1, z2⟩ := cell3 hcell5
          have hlt5 : w.heap.size < w5.heap.size := (Array.getElem?_eq_some_iff.1 hcell5).1
          have HB5 := Lib.hid (HBW.out.trans (hb5.mono (by omega)))
          clear hb5 hcell5
          go_wp2
          refine bodyPost_ret (v := .tuple #[zeroMatch, .bool false, .int .i64 0]) (by simp [results, Tryd.results19, go_sem, q0, q1, q2, zeroMatch]) rfl ?_
          exact out_none HF.out (below_set3 HB5.out (Nat.le_refl _) _ _ _)
end Go.Proofs.YtpbhncmaamedhaaDoor

namespace Go.Proofs.YtpbhncmaamedhaaDoor
open Go.RowKit Go.Proofs.Lexi

/-! PatternAts (4), PatternFinds (5). -/
theorem findGo_caps {l p : List Nat} {q : St × Bool × Bool} (hq : parseM p = .ok q) : ∀ (d i n : Nat), i + d = l.length + 1 → (outM (findGo (runP l q) q.2.1 d i n)).caps.length ≤ 16
  | 0, _, _, _ => by simp [findGo, outM, zeroAM]
  | d + 1, i, n, h => by
    unfold findGo
    cases hr : runP l q i n with
    | none => simp [ofRun, outM, zeroAM]
    | some st =>
      obtain ⟨o, n', cs⟩ := st
      cases o with
      | none =>
        simp only []
        split
        · simp [outM, zeroAM]
        · exact findGo_caps hq d (i + 1) n' (by omega)
      | some k => exact (runAM_good hq ⟨i, n, k, n', cs, by omega, hr, rfl⟩).n16
theorem find_caps (l p : List Nat) (a : Int) : (outM (findM l p a)).caps.length ≤ 16 := by
  unfold findM
  cases hq : parseM p with
  | error e => simp [outM, zeroAM]
  | ok q =>
    simp only []
    split
    · simp [outM, zeroAM]
    · rename_i h
      exact findGo_caps hq _ _ _ (by omega)
set_option maxRecDepth 100000 in
set_option maxHeartbeats 4000000 in
theorem ats_law (s p : ByteArray) (a : Int) (w : World) (ht : Tab w) : Calls Tryd.prog 4 #[.string s, .string p, .int .i64 a] w (ExT w) := by
  have HT := Lib.hid ht
  have AW := Lib.hid (fun W (h : Below w.heap.size w W) => awake_c W (ht.mono h (Nat.le_refl _)))
  have L := Lib.hid (large_c s p w)
  clear ht
  cases hl : largeM s p with
  | true =>
    rw [hl] at L
    clear hl
    go_enter Tryd.func4, Tryd.ntmps4
    go_wp2_with fail
    refine L.out.mono ?_
    rintro e w1 ⟨rfl, rfl⟩
    go_wp2_with fail
    refine (AW.out _ (Below.refl _ _)).mono ?_
    rintro e w3 ⟨rfl, hb3⟩
    have HB3 := Lib.hid hb3
    clear hb3
    go_wp2
    go_ret
    exact ⟨rfl, HB3.out⟩
  | false =>
    have h1 : s.size ≤ 5000 ∧ p.size ≤ 600 := by unfold largeM at hl; simp at hl; omega
    obtain ⟨h1, h2⟩ := h1
    rw [hl] at L
    clear hl
    obtain ⟨R, hR⟩ : ∃ R, R = atM (bytesOf s) (bytesOf p) a := ⟨_, rfl⟩
    have A1 := Lib.hid (At_c s p a w (by omega) (by omega) R hR)
    have A2 := Lib.hid (fun W => rAt_c s p a W (by omega) (by omega) R hR)
    have HCAPS := Lib.hid (show (outM R).caps.length ≤ 16 by rw [hR]; exact at_caps _ _ _)
    have SAME := Lib.hid (fun (f t : Int) (u1 u2 : Value) (ps : List (Int × Int)) (W : World) h1 h2 (hl : ps.length ≤ 16) => same_ex f t u1 u2 ps W h1 h2 (by omega))
    clear hR
    go_enter Tryd.func4, Tryd.ntmps4
    go_wp2_with fail
    refine L.out.mono ?_
    rintro e w1 ⟨rfl, rfl⟩
    go_wp2_with fail
    refine A1.out.mono ?_
    intro e w1 hpo
    obtain ⟨f, t, ao, n, cap, b, c, rfl, ⟨e2, e3, e4, e5⟩, hcr, hb1⟩ := hpo.open
    have HB1 := Lib.hid (hb1.alloc hb1.size (mcell f t ao n cap))
    have HM := Lib.hid (heap_new w1 (mcell f t ao n cap))
    have HCR := Lib.hid hcr
    have HE2 := Lib.hid e2
    have HE3 := Lib.hid e3
    have HE4 := Lib.hid e4
    have HE5 := Lib.hid e5
    clear hpo hb1 hcr e2 e3 e4 e5
    go_wp2_with fail
    refine (A2.out _).mono ?_
    intro e w2 hpo
    obtain ⟨f', t', ao', n', cap', b', c', rfl, ⟨g2, g3, g4, g5⟩, hcr2, hb2⟩ := hpo.open
    rw [← HE2.out] at g2
    rw [← HE3.out] at g3
    rw [← HE4.out] at g4
    rw [← HE5.out] at g5
    subst g2 g3 g4 g5
    have hz2 := hb2.size
    simp only [World.size_alloc] at hz2
    have hm2 : w2.heap[w1.heap.size]? = some (mcell f' t' ao n cap) := (hb2.block _ (by simp)).trans HM.out
    obtain ⟨m0, m1, m2⟩ := mcell_read hm2
    have hlt2 : w1.heap.size < w2.heap.size := by omega
    have HB2 := Lib.hid ((HB1.out.trans (hb2.mono HB1.out.size)).alloc (by have := HB1.out.size; simp at this; omega) (mcell f' t' ao' n' cap'))
    have hbx : Below w1.heap.size w1 (w2.alloc (mcell f' t' ao' n' cap')) := (((Below.refl _ _).alloc (Nat.le_refl _) _).trans (hb2.mono (by simp))).alloc (by omega) _
    have HS := Lib.hid (SAME.out f' t' (.slice ao n cap) (.slice ao' n' cap') (outM R).caps (w2.alloc (mcell f' t' ao' n' cap')) (HCR.out.mono hbx (Nat.le_refl _)) (hcr2.mono ((Below.refl _ _).alloc (Nat.le_refl _) _) (Nat.le_refl _)) HCAPS.out)
    have tb : (b' == b') = true := by cases b' <;> rfl
    have tc : ((c' : Int) == (c' : Int)) = true := by simp
    clear hpo hb2 hcr2 hm2 hbx
    go_wp2_with fail
    refine HS.out.mono ?_
    rintro e w3 ⟨rfl, hb3⟩
    have HB3 := Lib.hid (HB2.out.trans (hb3.mono HB2.out.size))
    clear hb3
    go_wp2_with fail
    refine (AW.out _ HB3.out).mono ?_
    rintro e w4 ⟨rfl, hb4⟩
    have HB4 := Lib.hid (HB3.out.trans (hb4.mono HB3.out.size))
    clear hb4
    go_wp2
    go_ret
    exact ⟨rfl, HB4.out⟩
set_option maxRecDepth 100000 in
set_option maxHeartbeats 4000000 in
theorem finds_law (s p : ByteArray) (a : Int) (w : World) (ht : Tab w) : Calls Tryd.prog 5 #[.string s, .string p, .int .i64 a] w (ExT w) := by
  have HT := Lib.hid ht
  have AW := Lib.hid (fun W (h : Below w.heap.size w W) => awake_c W (ht.mono h (Nat.le_refl _)))
  have L := Lib.hid (large_c s p w)
  clear ht
  cases hl : largeM s p with
  | true =>
    rw [hl] at L
    clear hl
    go_enter Tryd.func5, Tryd.ntmps5
    go_wp2_with fail
    refine L.out.mono ?_
    rintro e w1 ⟨rfl, rfl⟩
    go_wp2_with fail
    refine (AW.out _ (Below.refl _ _)).mono ?_
    rintro e w3 ⟨rfl, hb3⟩
    have HB3 := Lib.hid hb3
    clear hb3
    go_wp2
    go_ret
    exact ⟨rfl, HB3.out⟩
  | false =>
    have h1 : s.size ≤ 5000 ∧ p.size ≤ 600 := by unfold largeM at hl; simp at hl; omega
    obtain ⟨h1, h2⟩ := h1
    rw [hl] at L
    clear hl
    obtain ⟨R, hR⟩ : ∃ R, R = findM (bytesOf s) (bytesOf p) a := ⟨_, rfl⟩
    have A1 := Lib.hid (Find_c s p a w (by omega) (by omega) R hR)
    have A2 := Lib.hid (fun W => rFind_c s p a W (by omega) (by omega) R hR)
    have HCAPS := Lib.hid (show (outM R).caps.length ≤ 16 by rw [hR]; exact find_caps _ _ _)
    have SAME := Lib.hid (fun (f t : Int) (u1 u2 : Value) (ps : List (Int × Int)) (W : World) h1 h2 (hl : ps.length ≤ 16) => same_ex f t u1 u2 ps W h1 h2 (by omega))
    clear hR
    go_enter Tryd.func5, Tryd.ntmps5
    go_wp2_with fail
    refine L.out.mono ?_
    rintro e w1 ⟨rfl, rfl⟩
    go_wp2_with fail
    refine A1.out.mono ?_
    intro e w1 hpo
    obtain ⟨f, t, ao, n, cap, b, c, rfl, ⟨e2, e3, e4, e5⟩, hcr, hb1⟩ := hpo.open
    have HB1 := Lib.hid (hb1.alloc hb1.size (mcell f t ao n cap))
    have HM := Lib.hid (heap_new w1 (mcell f t ao n cap))
    have HCR := Lib.hid hcr
    have HE2 := Lib.hid e2
    have HE3 := Lib.hid e3
    have HE4 := Lib.hid e4
    have HE5 := Lib.hid e5
    clear hpo hb1 hcr e2 e3 e4 e5
    go_wp2_with fail
    refine (A2.out _).mono ?_
    intro e w2 hpo
    obtain ⟨f', t', ao', n', cap', b', c', rfl, ⟨g2, g3, g4, g5⟩, hcr2, hb2⟩ := hpo.open
    rw [← HE2.out] at g2
    rw [← HE3.out] at g3
    rw [← HE4.out] at g4
    rw [← HE5.out] at g5
    subst g2 g3 g4 g5
    have hz2 := hb2.size
    simp only [World.size_alloc] at hz2
    have hm2 : w2.heap[w1.heap.size]? = some (mcell f' t' ao n cap) := (hb2.block _ (by simp)).trans HM.out
    obtain ⟨m0, m1, m2⟩ := mcell_read hm2
    have hlt2 : w1.heap.size < w2.heap.size := by omega
    have HB2 := Lib.hid ((HB1.out.trans (hb2.mono HB1.out.size)).alloc (by have := HB1.out.size; simp at this; omega) (mcell f' t' ao' n' cap'))
    have hbx : Below w1.heap.size w1 (w2.alloc (mcell f' t' ao' n' cap')) := (((Below.refl _ _).alloc (Nat.le_refl _) _).trans (hb2.mono (by simp))).alloc (by omega) _
    have HS := Lib.hid (SAME.out f' t' (.slice ao n cap) (.slice ao' n' cap') (outM R).caps (w2.alloc (mcell f' t' ao' n' cap')) (HCR.out.mono hbx (Nat.le_refl _)) (hcr2.mono ((Below.refl _ _).alloc (Nat.le_refl _) _) (Nat.le_refl _)) HCAPS.out)
    have tb : (b' == b') = true := by cases b' <;> rfl
    have tc : ((c' : Int) == (c' : Int)) = true := by simp
    clear hpo hb2 hcr2 hm2 hbx
    go_wp2_with fail
    refine HS.out.mono ?_
    rintro e w3 ⟨rfl, hb3⟩
    have HB3 := Lib.hid (HB2.out.trans (hb3.mono HB2.out.size))
    clear hb3
    go_wp2_with fail
    refine (AW.out _ HB3.out).mono ?_
    rintro e w4 ⟨rfl, hb4⟩
    have HB4 := Lib.hid (HB3.out.trans (hb4.mono HB3.out.size))
    clear hb4
    go_wp2
    go_ret
    exact ⟨rfl, HB4.out⟩
end Go.Proofs.YtpbhncmaamedhaaDoor
