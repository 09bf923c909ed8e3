import Derived.Test.YtpbhncmaamedhaaDoorFirst
namespace Go.Proofs.YtpbhncmaamedhaaDoor
open Go.RowKit Go.Proofs.Lexi

/-! PatternOrder: the plain law and the walk. -/
def OrdN (len : Int) : Int → List AM → Prop
  | _, [] => True
  | prev, m :: r => prev ≤ m.f ∧ m.t ≠ prev ∧ m.f ≤ m.t ∧ m.t ≤ len ∧ OrdN len m.t r
def lastT : Int → List AM → Int
  | a, [] => a
  | _, m :: r => lastT m.t r
theorem lastT_snoc : ∀ (l : List AM) (a : Int) (m : AM), lastT a (l ++ [m]) = m.t
  | [], _, _ => rfl
  | x :: l, a, m => lastT_snoc l x.t m
theorem OrdN.snoc {len : Int} : ∀ {l : List AM} {a : Int} {m : AM}, OrdN len a l → lastT a l ≤ m.f → m.t ≠ lastT a l → m.f ≤ m.t → m.t ≤ len → OrdN len a (l ++ [m])
  | [], a, m, _, h1, h2, h3, h4 => ⟨h1, h2, h3, h4, trivial⟩
  | x :: l, a, m, h, h1, h2, h3, h4 => ⟨h.1, h.2.1, h.2.2.1, h.2.2.2.1, OrdN.snoc h.2.2.2.2 h1 h2 h3 h4⟩
theorem allGo_ordN {l p : List Nat} {q : St × Bool × Bool} (hq : parseM p = .ok q) : ∀ (f i : Nat) (last : Int) (n : Nat) (acc ms : List AM), allGo (runP l q) q.2.1 l.length f i last n acc = .ok ms →
    OrdN l.length (-1) acc → lastT (-1) acc = last → last ≤ i → OrdN l.length (-1) ms
  | 0, i, last, n, acc, ms, h, ho, _, _ => by
    simp only [allGo] at h
    injection h with h; subst h; exact ho
  | f + 1, i, last, n, acc, ms, h, ho, hl, hi0 => by
    unfold allGo at h
    split at h
    · rename_i hi
      split at h
      · cases h
      · rename_i k n' cs hr
        have hb := run_bounds hq hi hr
        split at h
        · split at h
          · injection h with h; subst h; exact ho
          · exact allGo_ordN hq f (i + 1) last n' acc ms h ho hl (by omega)
        · rename_i hne
          have ho' : OrdN l.length (-1) (acc ++ [⟨i, k, cs.map capV⟩]) := ho.snoc (by rw [hl]; exact hi0) (by rw [hl]; exact hne) (by show (i : Int) ≤ (k : Int); omega) (by show (k : Int) ≤ _; omega)
          split at h
          · injection h with h; subst h; exact ho'
          · exact allGo_ordN hq f k k n' _ ms h ho' (lastT_snoc _ _ _) (Int.le_refl _)
      · split at h
        · injection h with h; subst h; exact ho
        · exact allGo_ordN hq f (i + 1) last _ acc ms h ho hl (by omega)
    · injection h with h; subst h; exact ho
theorem allM_order {l p : List Nat} {ms : List AM} (h : allM l p = .ok ms) : OrdN l.length (-1) ms ∧ ∀ m ∈ ms, GoodAM l.length m ∧ atM l p m.f = .ok (some m) := by
  have hg := allM_good h
  unfold allM at h
  split at h
  · cases h
  · rename_i q hq
    refine ⟨allGo_ordN hq _ _ _ _ _ _ h trivial rfl (by omega), fun m hm => ⟨hg m hm, ?_⟩⟩
    obtain ⟨i, n, k, n', cs, hi, hr, rfl⟩ := allGo_mem _ _ _ _ _ _ h (fun m hm => by cases hm) m hm
    show atM l p (i : Int) = _
    rw [atM_run hq hi, run_shift hq hi hr, hr]
    rfl
def OrdRel (w1 : World) (s : ByteArray) (ms : List AM) (gg : Nat) (ve vi : Value) (wr : World) : Prop := ∃ (i : Nat) (e : Int), gg = ms.length - i ∧ ve = .int .i64 e ∧ vi = .int .i64 (i : Int) ∧ i ≤ ms.length ∧ Below w1.heap.size w1 wr ∧ OrdN s.size e (ms.drop i)
def CapRel (w2 : World) (N : Nat) (gg : Nat) (v : Value) (wr : World) : Prop := ∃ k : Nat, gg = N - k ∧ v = .int .i64 (k : Int) ∧ k ≤ N ∧ Below w2.heap.size w2 wr
set_option maxRecDepth 100000 in
set_option maxHeartbeats 4000000 in
theorem order_law (s p : ByteArray) (w : World) (ht : Tab w) : Calls Tryd.prog 9 #[.string s, .string p] w (ExT w) := by
  have HT := Lib.hid ht
  clear ht
  by_cases hin : s.size ≤ 300 ∧ p.size ≤ 100
  · obtain ⟨h1, h2⟩ := hin
    obtain ⟨RA, hRA⟩ : ∃ RA, RA = allM (bytesOf s) (bytesOf p) := ⟨_, rfl⟩
    have HA := Lib.hid (All_c s p w (by omega) (by omega) RA hRA)
    have tail : ∀ W, Below w.heap.size w W → Hid (Calls Tryd.prog 12 #[] W (ExT W)) := fun W h => awake_c W (HT.out.mono h (Nat.le_refl _))
    have AW := Lib.hid tail
    clear tail
    cases hra : RA with
    | error c =>
      have hc : ((c : Int) != 0) = true := by rw [hra] at hRA; have := allM_err hRA.symm; rw [bne_iff_ne]; omega
      have HRA := Lib.hid hra
      clear hRA hra
      go_enter Tryd.func9, Tryd.ntmps9
      go_wp2_with fail
      refine HA.out.mono ?_
      intro e w1 hpo
      obtain ⟨hb1, rfl⟩ := all_err_of hpo HRA.out
      have HB1 := Lib.hid hb1
      clear hpo hb1
      go_wp2_with fail
      refine (AW.out _ HB1.out).out.mono ?_
      rintro e w4 ⟨rfl, hb4⟩
      have HB4 := Lib.hid (HB1.out.trans (hb4.mono HB1.out.size))
      clear hb4
      go_wp2
      go_ret
      exact ⟨rfl, HB4.out⟩
    | ok ms =>
      have hord := allM_order (l := bytesOf s) (p := bytesOf p) (ms := ms) (hRA.symm.trans hra)
      have hml := (allM_ord (l := bytesOf s) (p := bytesOf p) (ms := ms) (hRA.symm.trans hra)).2
      rw [bytesOf_length] at hord hml
      have HRA := Lib.hid hra
      have HORD := Lib.hid hord
      have ATC := Lib.hid (fun (i : Int) (W : World) => At_c s p i W (by omega) (by omega) (atM (bytesOf s) (bytesOf p) i) rfl)
      have SAME := Lib.hid (fun (f t : Int) (u1 u2 : Value) (ps : List (Int × Int)) (W : World) h1 h2 (hl : ps.length ≤ 16) => same_ex f t u1 u2 ps W h1 h2 (by omega))
      clear hRA hra hord
      go_enter Tryd.func9, Tryd.ntmps9
      go_wp2_with fail
      refine HA.out.mono ?_
      intro e w1 hpo
      obtain ⟨hb1, ao, cap, us, rfl, hmv⟩ := all_ok_of hpo HRA.out
      have hsz1 := hb1.size
      have HB1 := Lib.hid hb1
      have HMV := Lib.hid hmv
      have HS0 := Lib.hid (show OrdRel w1 s ms ms.length (.int .i64 (-1)) (.int .i64 0) w1 from ⟨0, -1, rfl, rfl, rfl, Nat.zero_le _, Below.refl _ _, HORD.out.1⟩)
      clear hpo hb1 hmv
      go_wp2
      go_loopg [7, 8] ms.length (fun gg ve vi wr => OrdRel w1 s ms gg ve vi wr)
      case atStart => exact HS0.out
      case round =>
        clear HS0
        obtain ⟨i, en, rfl, rfl, rfl, hi, hb, hon⟩ := hrel
        have hszr := hb.size
        have HB := Lib.hid hb
        have HBW := Lib.hid (HB1.out.trans (hb.mono hsz1))
        have hmvr := HMV.out.keep (w' := wr) (fun b _ h2 => hb.block b h2)
        by_cases hlt : i < ms.length
        · rw [drop_getD hlt] at hon
          obtain ⟨m, hm⟩ : ∃ m, m = ms.getD i zeroAM := ⟨_, rfl⟩
          obtain ⟨g, ao', cap', hao, hg, _, c0, c1, c2, hcr⟩ := hmvr.read hlt
          subst hao
          rw [← hm] at c0 c1 c2 hcr hon
          obtain ⟨hgm, hat⟩ := HORD.out.2 m (by rw [hm]; simp [List.getD_eq_getElem?_getD, hlt])
          obtain ⟨o1, o2, o3, o4, o5⟩ := hon
          obtain ⟨f, hf⟩ : ∃ f, f = m.f := ⟨_, rfl⟩
          obtain ⟨t, ht⟩ : ∃ t, t = m.t := ⟨_, rfl⟩
          have hcapf := hgm.cap
          rw [← hf, ← ht] at hcapf
          rw [← hf] at c0 o1 o3 hat
          rw [← ht] at c1 o2 o3 o4 o5
          have hf0 : 0 ≤ f := by rw [hf]; exact hgm.f0
          have hn16 := hgm.n16
          have ATI := Lib.hid (ATC.out f (wr.alloc (mcell f t ao' m.caps.length cap')))
          rw [hat] at ATI
          have hba : Below wr.heap.size wr (wr.alloc (mcell f t ao' m.caps.length cap')) := (Below.refl _ _).alloc (Nat.le_refl _) _
          have HCR := Lib.hid (hcr.mono hba (Nat.le_refl _))
          have HMN := Lib.hid (heap_new wr (mcell f t ao' m.caps.length cap'))
          have HF := Lib.hid hf
          have HTT := Lib.hid ht
          have HO5 := Lib.hid o5
          have HCAP := Lib.hid hcapf
          have x1 : ¬ t < f := by omega
          have x2 : ¬ (s.size : Int) < t := by omega
          have x3 : ¬ f < en := by omega
          have x4 : (t == en) = false := by rw [beq_eq_false_iff_ne]; exact o2
          have HBA := Lib.hid hba
          clear hm hgm hat hcapf hf ht o5 hb hmvr hcr hba o2
          go_wp2_with fail
          refine ATI.out.mono ?_
          intro e w2 hpo
          obtain ⟨f', t', ao2, n2, cap2, b', c', rfl, ⟨g2, g3, g4, g5⟩, hcr2, hb2⟩ := hpo.open
          have g2' : f' = m.f := g2
          have g3' : t' = m.t := g3
          have g4' : b' = true := g4
          have g5' : c' = 0 := g5
          rw [← HF.out] at g2'
          rw [← HTT.out] at g3'
          subst g2' g3' g4' g5'
          have hcr2' : CapsR w2 (.slice ao2 n2 cap2) m.caps := hcr2
          have hz2 := hb2.size
          simp only [World.size_alloc] at hz2
          have hm2 : w2.heap[wr.heap.size]? = some (mcell f' t' ao' m.caps.length cap') := (hb2.block _ (by simp)).trans HMN.out
          obtain ⟨m0, m1, m2⟩ := mcell_read hm2
          have hlt2 : wr.heap.size < w2.heap.size := by omega
          have hb2a : Below (wr.alloc (mcell f' t' ao' m.caps.length cap')).heap.size (wr.alloc (mcell f' t' ao' m.caps.length cap')) (w2.alloc (mcell f' t' ao2 n2 cap2)) := hb2.alloc hb2.size _
          have HB2 := Lib.hid (HBA.out.trans (hb2a.mono (by simp)))
          have HS := Lib.hid (SAME.out f' t' (.slice ao' m.caps.length cap') (.slice ao2 n2 cap2) m.caps (w2.alloc (mcell f' t' ao2 n2 cap2)) (HCR.out.mono hb2a (Nat.le_refl _)) (hcr2'.mono ((Below.refl _ _).alloc (Nat.le_refl _) _) (Nat.le_refl _)) hn16)
          have HCA := Lib.hid (HCR.out.mono hb2a (Nat.le_refl _))
          have HM2 := Lib.hid ((((Below.refl w2.heap.size w2).alloc (Nat.le_refl _) (mcell f' t' ao2 n2 cap2)).block _ hlt2).trans hm2)
          clear hpo hb2 hcr2 hcr2' hm2 hb2a g2 g3 g4 g5
          go_wp2_with fail
          refine HS.out.mono ?_
          rintro e w3 ⟨rfl, hb3⟩
          have hz3 := hb3.size
          simp only [World.size_alloc] at hz3
          have hm3 : w3.heap[wr.heap.size]? = some (mcell f' t' ao' m.caps.length cap') := (hb3.block _ (by simp; omega)).trans HM2.out
          obtain ⟨m0, m1, m2⟩ := mcell_read hm3
          have HB3 := Lib.hid (HB2.out.trans (hb3.mono (by have := HB2.out.size; omega)))
          have HM3 := Lib.hid hm3
          have HC3 := Lib.hid (HCA.out.mono hb3 (Nat.le_refl _))
          have hl3 : wr.heap.size < w3.heap.size := by omega
          have HC0 := Lib.hid (show CapRel w3 m.caps.length m.caps.length (.int .i64 0) w3 from ⟨0, rfl, rfl, Nat.zero_le _, Below.refl _ _⟩)
          clear hb3 hm3
          go_wp2
          go_loopg [13] m.caps.length (fun gg v wc => CapRel w3 m.caps.length gg v wc)
          case atStart => exact HC0.out
          case round =>
            clear HC0 m0 m1 m2
            obtain ⟨k, rfl, rfl, hk, hbc⟩ := hrel
            have hszc := hbc.size
            have hmc := (hbc.block _ hl3).trans HM3.out
            obtain ⟨m0, m1, m2⟩ := mcell_read hmc
            have hlc := Nat.lt_of_lt_of_le hl3 hszc
            have HBC := Lib.hid hbc
            clear hmc hbc
            by_cases hkl : k < m.caps.length
            · obtain ⟨aoX, capX, hv, hcc⟩ := HC3.out
              injection hv with hv1 hv2 hv3
              subst hv1 hv3
              obtain ⟨gc, oc, hao, hgc, hx⟩ := hcc (by omega)
              subst hao
              obtain ⟨x, y, hxy⟩ : ∃ x y, m.caps.getD k (0, 0) = (x, y) := ⟨_, _, rfl⟩
              have hxk := hx k hkl
              have hcp := HCAP.out (m.caps.getD k (0, 0)) (by simp [List.getD_eq_getElem?_getD, hkl])
              rw [hxy] at hxk hcp
              have d0 : wr.cell? ⟨gc, oc + k * 2, none⟩ = some (.int .i64 x) := by rw [HBC.out.cell (p := ⟨gc, oc + k * 2, none⟩) hgc]; exact hxk.1
              have d1 : wr.cell? ⟨gc, oc + k * 2 + 1, none⟩ = some (.int .i64 y) := by rw [HBC.out.cell (p := ⟨gc, oc + k * 2 + 1, none⟩) hgc]; exact hxk.2
              have hcp1 : f' ≤ x := hcp.1
              have hcp2 : x ≤ t' := hcp.2.1
              have hcp3 : y = -1 ∨ (x ≤ y ∧ y ≤ t') := hcp.2.2
              have HN := Lib.hid (show CapRel w3 m.caps.length (m.caps.length - (k + 1)) (.int .i64 ((k : Int) + 1)) (wr.alloc (.cells #[.int .i64 x, .int .i64 y] 43)) from ⟨k + 1, rfl, rfl, by omega, HBC.out.alloc hszc _⟩)
              clear hcc hx hxy hxk hcp hv2
              have y1 : ¬ x < f' := by omega
              have y2 : ¬ t' < x := by omega
              rcases hcp3 with hy | ⟨hy1, hy2⟩
              · have ty : (y != -1) = false := by rw [hy]; rfl
                clear hy
                go_wp2
                go_roundg (m.caps.length - (k + 1))
                case measure => omega
                case rel => exact HN.out
              · have ty : (y != -1) = true := by rw [bne_iff_ne]; omega
                have y3 : ¬ y < x := by omega
                have y4 : ¬ t' < y := by omega
                go_wp2
                go_roundg (m.caps.length - (k + 1))
                case measure => omega
                case rel => exact HN.out
            · have hnk : ¬ ((k : Int) < (m.caps.length : Int)) := by omega
              have HN := Lib.hid (show OrdRel w1 s ms (ms.length - (i + 1)) (.int .i64 t') (.int .i64 ((i : Int) + 1)) wr from
                ⟨i + 1, t', rfl, rfl, rfl, by omega, HB.out.trans ((HB3.out.trans (HBC.out.mono (by have := HB3.out.size; omega))).mono hszr), HO5.out⟩)
              go_wp2
              go_roundg (ms.length - (i + 1))
              case measure => omega
              case rel => exact HN.out
        · have hnl : ¬ ((i : Int) < (ms.length : Int)) := by omega
          clear hon hmvr hb
          go_wp2_with fail
          refine (AW.out _ HBW.out).out.mono ?_
          rintro e w4 ⟨rfl, hb4⟩
          have HB4 := Lib.hid (HBW.out.trans (hb4.mono HBW.out.size))
          clear hb4
          go_wp2
          go_ret
          exact ⟨rfl, HB4.out⟩
  · have hout : 300 < s.size ∨ (s.size ≤ 300 ∧ 100 < p.size) := by omega
    clear hin
    have AW := Lib.hid (awake_c w HT.out)
    rcases hout with k1 | ⟨k1, k2⟩
    all_goals
      go_enter Tryd.func9, Tryd.ntmps9
      go_wp2_with fail
      refine AW.out.mono ?_
      rintro e w4 ⟨rfl, hb4⟩
      have HB4 := Lib.hid hb4
      clear hb4
      go_wp2
      go_ret
      exact ⟨rfl, HB4.out⟩
end Go.Proofs.YtpbhncmaamedhaaDoor
