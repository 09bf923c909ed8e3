import Derived.Test.YtpbhncmaamedhaaDoorMaC
namespace Go.Proofs.YtpbhncmaamedhaaDoor
open Go.RowKit Go.Proofs.Lexi

theorem count_step {p : ByteArray} {S : Nat → Bool} {k q n : Nat} {cs : List ACap} {C : Option (Nat × MS)} (h : countM S ((bytesOf p).drop k) q (n, cs) = C) :
    C = if belongsM (bytesOf p) S k then (if n + 1 ≤ maxSteps then countM S ((bytesOf p).drop (k + 1)) (q + 1) (n + 1, cs) else none) else some (q, (n, cs)) := by
  rw [← h]
  by_cases hl : k < p.size
  · rw [bytesOf_drop p k hl, belongs_yes p S k hl]; rfl
  · rw [bytesOf_end p k (by omega), belongs_no p S k (by omega)]; rfl
theorem down_low (f : Nat → MS → MR) (i least m : Nat) (st : MS) (h : m < least) : downM f i least m st = some (none, st) := by unfold downM; rw [if_pos h]
theorem down_over (f : Nat → MS → MR) (i least m : Nat) (st : MS) (h : least ≤ m) (hf : f (i + m) st = none) : downM f i least m st = none := by unfold downM; rw [if_neg (by omega), hf]
theorem down_some (f : Nat → MS → MR) (i least m e : Nat) (st st' : MS) (h : least ≤ m) (hf : f (i + m) st = some (some e, st')) : downM f i least m st = some (some e, st') := by unfold downM; rw [if_neg (by omega), hf]
theorem down_zero (f : Nat → MS → MR) (i least : Nat) (st st' : MS) (h : least ≤ 0) (hf : f (i + 0) st = some (none, st')) : downM f i least 0 st = some (none, st') := by unfold downM; rw [if_neg (by omega), hf]
theorem down_succ (f : Nat → MS → MR) (i least m : Nat) (st st' : MS) (h : least ≤ m + 1) (hf : f (i + (m + 1)) st = some (none, st')) : downM f i least (m + 1) st = downM f i least m st' := by
  conv => lhs; unfold downM
  rw [if_neg (by omega), hf]
def afterC (f : Nat → MS → MR) (i least : Nat) : Option (Nat × MS) → MR
  | none => none
  | some q => downM f i least q.1 q.2
def CntRel (E : MEnv) (w : World) (S : Nat → Bool) (i : Nat) (C : Option (Nat × MS)) (cs : List ACap) (gg : Nat) (v : Value) (wr : World) : Prop :=
  ∃ (q n : Nat), gg = E.s.size - (i + q) ∧ v = .int .i64 (q : Int) ∧ i + q ≤ E.s.size ∧ MSt E wr n cs ∧ n ≤ maxSteps ∧ Fr E w wr ∧ countM S ((bytesOf E.s).drop (i + q)) q (n, cs) = C
def DownRel (E : MEnv) (w : World) (f : Nat → MS → MR) (i least : Nat) (R : MR) (cs : List ACap) (gg : Nat) (v : Value) (wr : World) : Prop :=
  ∃ (u : Int) (n : Nat), gg = (u + 1).toNat ∧ v = .int .i64 u ∧ -1 ≤ u ∧ u ≤ E.s.size ∧ MSt E wr n cs ∧ n ≤ maxSteps ∧ Fr E w wr ∧
    ((∃ m : Nat, u = m ∧ i + m ≤ E.s.size ∧ downM f i least m (n, cs) = R) ∨ (u < least ∧ R = some (none, (n, cs))))

set_option maxRecDepth 100000 in
set_option maxHeartbeats 4000000 in
theorem many_c {E : MEnv} (ok : MOK E) (hwf : WfItems E.K st0 E.items) {j : Nat} (hj : j < E.items.length) (hs : (itemAt E j).sets = true) (hm : MatchOK E (j + 1)) {w : World} {n : Nat} {cs : List ACap} (h : MSt E w n cs) (hn : n ≤ maxSteps) (a b c : Int) (i least : Nat) (hi : i ≤ E.s.size) (ha : a = j) (hb : b = i) (hc : c = least) (hle : least ≤ 1)
    (hco : CapW E (j + 1) i cs)
    (R : MR) (hR : R = manyM (bytesOf E.s) (itemAt E j).one (nextM E j) i least (n, cs)) :
    Calls Tryd.prog 92 #[.pointer (some ⟨E.mb, 0, none⟩), .int .i64 a, .int .i64 b, .int .i64 c] w (MPost E w R) := by
  subst ha hb hc
  have hl := ok.len
  have hsl := ok.sl
  obtain ⟨S, hS⟩ : ∃ S, S = (itemAt E j).one := ⟨_, rfl⟩
  obtain ⟨C, hC⟩ : ∃ C, C = countM S ((bytesOf E.s).drop i) 0 (n, cs) := ⟨_, rfl⟩
  have HRC := Lib.hid (show R = afterC (nextM E j) i least C from by rw [hR, hC, hS]; unfold manyM; cases countM (itemAt E j).one ((bytesOf E.s).drop i) 0 (n, cs) <;> rfl)
  have HS0 := Lib.hid (show CntRel E w S i C cs (E.s.size - i) (.int .i64 0) w from ⟨0, n, rfl, rfl, by omega, h, hn, Fr.refl _ _, by rw [hC]; rfl⟩)
  have HSS := Lib.hid hS
  have HS := Lib.hid hs
  clear hR h hS hs hC
  go_enter Tryd.func92, Tryd.ntmps92
  go_wp2
  go_loopg [10] (E.s.size - i) (fun gg v wr => CntRel E w S i C cs gg v wr)
  case atStart => exact HS0.out
  case round =>
    clear HS0
    obtain ⟨q, n1, rfl, rfl, hq, h1, hn1, hF1, hgo⟩ := hrel
    have hst := count_step hgo
    have HF1 := Lib.hid hF1
    have H1 := Lib.hid h1
    have HB := Lib.hid (fun (b : Int) hb => belongs_c ok hj HS.out h1 (j : Int) b (i + q) rfl hb)
    rw [← HSS.out] at HB
    clear hgo hF1 h1
    cases hbl : belongsM (bytesOf E.s) S (i + q) with
    | true =>
      rw [hbl] at hst HB
      have hlt : i + q < E.s.size := by
        apply Classical.byContradiction
        intro hc
        rw [belongs_no E.s S (i + q) (by omega)] at hbl
        cases hbl
      have HP2 := Lib.hid (spend_m ok H1.out.drew hn1)
      have m6 : wr.cell? ⟨E.mb, 6, none⟩ = some (.func (.func 52) #[] #[.pointer (some ⟨E.nb, 0, none⟩)]) := by rw [cell_of_heap H1.out.hm]; rfl
      by_cases hlim : n1 + 1 ≤ maxSteps
      · have HDL := Lib.hid (decide_eq_true hlim)
        have HG := Lib.hid (show countM S ((bytesOf E.s).drop (i + (q + 1))) (q + 1) (n1 + 1, cs) = C from by rw [hst]; simp only [if_true, hlim]; rfl)
        clear hst hbl
        go_wp2_with (go_at_call 94; refine (HB.out _ (by omega)).mono ?_; rintro e w' ⟨rfl, rfl⟩)
        refine HP2.out.mono ?_
        rintro e w3 ⟨rfl, h3, hF3⟩
        rw [HDL.out]
        have HN := Lib.hid (show CntRel E w S i C cs (E.s.size - (i + (q + 1))) (.int .i64 ((q : Int) + 1)) w3 from ⟨q + 1, n1 + 1, rfl, rfl, by omega, h3, hlim, HF1.out.drew.trans hF3, HG.out⟩)
        clear h3 hF3
        go_wp2
        go_roundg (E.s.size - (i + (q + 1)))
        case measure => omega
        case rel => exact HN.out
      · have HDL := Lib.hid (decide_eq_false hlim)
        have HG := Lib.hid (show R = none from by rw [HRC.out, hst]; simp only [if_true, hlim, if_false]; rfl)
        clear hst hbl
        go_wp2_with (go_at_call 94; refine (HB.out _ (by omega)).mono ?_; rintro e w' ⟨rfl, rfl⟩)
        refine HP2.out.mono ?_
        rintro e w3 ⟨rfl, h3, hF3⟩
        rw [HDL.out]
        have H3 := Lib.hid h3
        have HF3 := Lib.hid (HF1.out.drew.trans hF3)
        clear h3 hF3
        go_wp2
        go_ret2
        exact mp_over HG.out HF3.out (by omega) (by omega) H3.out
    | false =>
      rw [hbl] at hst HB
      have HD0 := Lib.hid (show DownRel E w (nextM E j) i least R cs (q + 1) (.int .i64 (q : Int)) wr.drew from ⟨q, n1, by omega, rfl, by omega, by omega, H1.out.drew, hn1, HF1.out.drew, .inl ⟨q, rfl, by omega, by rw [HRC.out, hst]; rfl⟩⟩)
      clear hst hbl
      go_wp2_with (go_at_call 94; refine (HB.out _ (by omega)).mono ?_; rintro e w' ⟨rfl, rfl⟩)
      clear HB HF1 H1
      go_loopg [10] (q + 1) (fun gg v wr => DownRel E w (nextM E j) i least R cs gg v wr)
      case atStart => exact HD0.out
      case round =>
        clear HD0
        obtain ⟨u, n2, rfl, rfl, hu1, hu2, h1, hn2, hF1, hcase⟩ := hrel
        have HF1 := Lib.hid hF1
        have H1 := Lib.hid h1
        clear hF1 h1
        by_cases hlow : u < least
        · have HG := Lib.hid (show R = some (none, (n2, cs)) from hcase.elim (fun ⟨m, e1, _, e2⟩ => by rw [← e2]; exact down_low _ _ _ _ _ (by omega)) (fun h => h.2))
          clear hcase
          go_wp2
          go_ret2
          exact mp_no HG.out HF1.out hn2 H1.out
        · obtain ⟨m, rfl, him, hgo⟩ : ∃ m : Nat, u = m ∧ i + m ≤ E.s.size ∧ downM (nextM E j) i least m (n2, cs) = R := hcase.elim id (fun h => absurd h.1 hlow)
          have HGO := Lib.hid hgo
          clear hcase hgo
          go_wp2_with fail
          refine (hm _ n2 cs _ _ (i + m) H1.out hn2 him (hco.mono (by omega)) (by omega) (by omega)).mono ?_
          rintro e w1 ⟨hF2, hp⟩
          have HF2 := Lib.hid (HF1.out.trans hF2)
          clear hF2
          cases hr : nextM E j (i + m) (n2, cs) with
          | none =>
            rw [show matchM (bytesOf E.s) E.fin (E.items.drop (j + 1)) (i + m) (n2, cs) = none from hr] at hp
            obtain ⟨x, n', cs', rfl, hn3, hn4, h2⟩ := hp
            have HG := Lib.hid (HGO.out.symm.trans (down_over _ _ _ _ _ (by omega) hr))
            have m7 : w1.cell? ⟨E.mb, 7, none⟩ = some (.func (.func 53) #[] #[.pointer (some ⟨E.nb, 0, none⟩)]) := by rw [cell_of_heap h2.hm]; rfl
            have H2 := Lib.hid h2
            have HV := Lib.hid (over_c h2)
            have HDD := Lib.hid (decide_eq_true hn3)
            clear hr h2
            go_wp2_with (go_at_call 53; refine HV.out.mono ?_; rintro e w' ⟨rfl, rfl⟩; rw [HDD.out])
            go_ret2
            exact mp_over HG.out HF2.out hn3 hn4 H2.out
          | some qq =>
            obtain ⟨o, n', cs'⟩ := qq
            rw [show matchM (bytesOf E.s) E.fin (E.items.drop (j + 1)) (i + m) (n2, cs) = some (o, (n', cs')) from hr] at hp
            cases o with
            | some e =>
              obtain ⟨rfl, hn3, hk2, h2⟩ := hp
              have HG := Lib.hid (HGO.out.symm.trans (down_some _ _ _ _ _ _ _ (by omega) hr))
              have H2 := Lib.hid h2
              clear hr h2
              go_wp2
              go_ret2
              exact mp_yes HG.out HF2.out hn3 hk2 H2.out
            | none =>
              obtain ⟨x, rfl, hn3, h2⟩ := hp
              have hcs := next_same hwf him (hco.mono (by omega)) hr
              subst hcs
              have m7 : w1.cell? ⟨E.mb, 7, none⟩ = some (.func (.func 53) #[] #[.pointer (some ⟨E.nb, 0, none⟩)]) := by rw [cell_of_heap h2.hm]; rfl
              have HV := Lib.hid (over_c h2)
              have HDD := Lib.hid (decide_eq_false (show ¬ maxSteps < n' by omega))
              have HN := Lib.hid (show DownRel E w (nextM E j) i least R cs m (.int .i64 ((m : Int) - 1)) w1 from by
                refine ⟨(m : Int) - 1, n', by omega, rfl, by omega, by omega, h2, hn3, HF2.out, ?_⟩
                cases m with
                | zero => exact .inr ⟨by omega, HGO.out.symm.trans (down_zero _ _ _ _ _ (by omega) hr)⟩
                | succ m' => exact .inl ⟨m', by omega, by omega, (down_succ _ _ _ _ _ _ (by omega) hr).symm.trans HGO.out⟩)
              clear hr h2
              go_wp2_with (go_at_call 53; refine HV.out.mono ?_; rintro e w' ⟨rfl, rfl⟩; rw [HDD.out])
              go_roundg m
              case measure => omega
              case rel => exact HN.out
end Go.Proofs.YtpbhncmaamedhaaDoor
