import Derived.Test.YtpbhncmaamedhaaDoorMaB
namespace Go.Proofs.YtpbhncmaamedhaaDoor
open Go.RowKit Go.Proofs.Lexi

theorem few_cons (S : Nat → Bool) (f : Nat → MS → MR) (c : Nat) (r : List Nat) (i : Nat) (st : MS) : fewM S f (c :: r) i st = match f i st with
    | none => none
    | some (some e, st') => some (some e, st')
    | some (none, st') => if S c then (if st'.1 + 1 ≤ maxSteps then fewM S f r (i + 1) (st'.1 + 1, st'.2) else none) else some (none, st') := rfl
theorem few_nil (S : Nat → Bool) (f : Nat → MS → MR) (i : Nat) (st : MS) : fewM S f [] i st = f i st := rfl
def FewRel (E : MEnv) (w : World) (S : Nat → Bool) (f : Nat → MS → MR) (R : MR) (i : Nat) (cs : List ACap) (gg : Nat) (iv : Value) (wr : World) : Prop :=
  ∃ (q n : Nat), i ≤ q ∧ gg = E.s.size - q ∧ iv = .int .i64 (q : Int) ∧ q ≤ E.s.size ∧ MSt E wr n cs ∧ n ≤ maxSteps ∧ Fr E w wr ∧ fewM S f ((bytesOf E.s).drop q) q (n, cs) = R
/-- What one round of few comes to, by what the next items gave. -/
theorem few_over {E : MEnv} {S : Nat → Bool} {f : Nat → MS → MR} {R : MR} {q : Nat} {st : MS} (h : fewM S f ((bytesOf E.s).drop q) q st = R) (hq : q ≤ E.s.size) (hr : f q st = none) : R = none := by
  rw [← h]
  by_cases hl : q < E.s.size
  · rw [bytesOf_drop E.s q hl, few_cons, hr]
  · rw [bytesOf_end E.s q (by omega), few_nil, hr]
theorem few_some {E : MEnv} {S : Nat → Bool} {f : Nat → MS → MR} {R : MR} {q e : Nat} {st st' : MS} (h : fewM S f ((bytesOf E.s).drop q) q st = R) (hq : q ≤ E.s.size) (hr : f q st = some (some e, st')) : R = some (some e, st') := by
  rw [← h]
  by_cases hl : q < E.s.size
  · rw [bytesOf_drop E.s q hl, few_cons, hr]
  · rw [bytesOf_end E.s q (by omega), few_nil, hr]
theorem few_none {E : MEnv} {S : Nat → Bool} {f : Nat → MS → MR} {R : MR} {q : Nat} {st st' : MS} (h : fewM S f ((bytesOf E.s).drop q) q st = R) (hr : f q st = some (none, st')) :
    R = if belongsM (bytesOf E.s) S q then (if st'.1 + 1 ≤ maxSteps then fewM S f ((bytesOf E.s).drop (q + 1)) (q + 1) (st'.1 + 1, st'.2) else none) else some (none, st') := by
  rw [← h]
  by_cases hl : q < E.s.size
  · rw [bytesOf_drop E.s q hl, few_cons, hr, belongs_yes E.s S q hl]
  · rw [bytesOf_end E.s q (by omega), few_nil, hr, belongs_no E.s S q (by omega)]; rfl

set_option maxRecDepth 100000 in
set_option maxHeartbeats 2000000 in
theorem few_c {E : MEnv} (ok : MOK E) (hwf : WfItems E.K st0 E.items) {j : Nat} (hj : j < E.items.length) (hs : (itemAt E j).sets = true) (hm : MatchOK E (j + 1)) {w : World} {n : Nat} {cs : List ACap} (h : MSt E w n cs) (hn : n ≤ maxSteps) (a b : Int) (i : Nat) (hi : i ≤ E.s.size) (ha : a = j) (hb : b = i)
    (hco : CapW E (j + 1) i cs)
    (R : MR) (hR : R = fewM (itemAt E j).one (nextM E j) ((bytesOf E.s).drop i) i (n, cs)) :
    Calls Tryd.prog 93 #[.pointer (some ⟨E.mb, 0, none⟩), .int .i64 a, .int .i64 b] w (MPost E w R) := by
  subst ha hb
  have hl := ok.len
  have hsl := ok.sl
  obtain ⟨S, hS⟩ : ∃ S, S = (itemAt E j).one := ⟨_, rfl⟩
  have HS0 := Lib.hid (show FewRel E w S (nextM E j) R i cs (E.s.size - i) (.int .i64 (i : Int)) w from ⟨i, n, Nat.le_refl _, rfl, rfl, hi, h, hn, Fr.refl _ _, by rw [hR, hS]⟩)
  have HSS := Lib.hid hS
  have HS := Lib.hid hs
  clear hR h hS hs
  go_enter Tryd.func93, Tryd.ntmps93
  go_wp2
  go_loopg [2] (E.s.size - i) (fun gg iv wr => FewRel E w S (nextM E j) R i cs gg iv wr)
  case atStart => exact HS0.out
  case round =>
    clear HS0
    obtain ⟨q, n1, hiq, rfl, rfl, hq, h1, hn1, hF1, hgo⟩ := hrel
    have HGO := Lib.hid hgo
    have HF1 := Lib.hid hF1
    have H1 := Lib.hid h1
    clear hgo hF1 h1
    go_wp2_with fail
    refine (hm _ n1 cs _ _ q H1.out hn1 hq (hco.mono hiq) (by omega) rfl).mono ?_
    rintro e w1 ⟨hF2, hp⟩
    have HF2 := Lib.hid (HF1.out.trans hF2)
    clear hF2
    cases hr : nextM E j q (n1, cs) with
    | none =>
      rw [show matchM (bytesOf E.s) E.fin (E.items.drop (j + 1)) q (n1, cs) = none from hr] at hp
      obtain ⟨x, n', cs', rfl, hn2, hn3, h2⟩ := hp
      have HG := Lib.hid (few_over HGO.out hq hr)
      have m7 : w1.cell? ⟨E.mb, 7, none⟩ = some (.func (.func 53) #[] #[.pointer (some ⟨E.nb, 0, none⟩)]) := by rw [cell_of_heap h2.hm]; rfl
      have H2 := Lib.hid h2
      have HV := Lib.hid (over_c h2)
      have HDD := Lib.hid (decide_eq_true hn2)
      clear hr h2
      go_wp2_with (go_at_call 53; refine HV.out.mono ?_; rintro e w' ⟨rfl, rfl⟩; rw [HDD.out])
      go_ret2
      exact mp_over HG.out HF2.out hn2 hn3 H2.out
    | some qq =>
      obtain ⟨o, n', cs'⟩ := qq
      rw [show matchM (bytesOf E.s) E.fin (E.items.drop (j + 1)) q (n1, cs) = some (o, (n', cs')) from hr] at hp
      cases o with
      | some e =>
        obtain ⟨rfl, hn2, hk2, h2⟩ := hp
        have HG := Lib.hid (few_some HGO.out hq hr)
        have H2 := Lib.hid h2
        clear hr h2
        go_wp2
        go_ret2
        exact mp_yes HG.out HF2.out hn2 hk2 H2.out
      | none =>
        obtain ⟨x, rfl, hn2, h2⟩ := hp
        have hG := few_none HGO.out hr
        have hcs := next_same hwf hq (hco.mono hiq) hr
        subst hcs
        have m7 : w1.cell? ⟨E.mb, 7, none⟩ = some (.func (.func 53) #[] #[.pointer (some ⟨E.nb, 0, none⟩)]) := by rw [cell_of_heap h2.hm]; rfl
        have m6 : w1.cell? ⟨E.mb, 6, none⟩ = some (.func (.func 52) #[] #[.pointer (some ⟨E.nb, 0, none⟩)]) := by rw [cell_of_heap h2.hm]; rfl
        have H2 := Lib.hid h2
        have HV := Lib.hid (over_c h2)
        have HDD := Lib.hid (decide_eq_false (show ¬ maxSteps < n' by omega))
        have HB := Lib.hid (belongs_c ok hj HS.out h2 (j : Int) (q : Int) q rfl rfl)
        have HP2 := Lib.hid (spend_m ok h2.drew hn2)
        rw [← HSS.out] at HB
        clear hr h2
        cases hbl : belongsM (bytesOf E.s) S q with
        | false =>
          rw [hbl] at hG HB
          have HG := Lib.hid (show R = some (none, (n', cs)) from hG)
          clear hG hbl
          go_wp2_with (first | (go_at_call 53; refine HV.out.mono ?_; rintro e w' ⟨rfl, rfl⟩; rw [HDD.out]) | (go_at_call 94; refine HB.out.mono ?_; rintro e w' ⟨rfl, rfl⟩))
          go_ret2
          exact mp_no HG.out HF2.out.drew hn2 H2.out.drew
        | true =>
          rw [hbl] at hG HB
          by_cases hlim : n' + 1 ≤ maxSteps
          · have HDL := Lib.hid (decide_eq_true hlim)
            have HG := Lib.hid (show fewM S (nextM E j) ((bytesOf E.s).drop (q + 1)) (q + 1) (n' + 1, cs) = R from by rw [hG]; simp only [if_true, hlim])
            have hlt : q < E.s.size := by
              apply Classical.byContradiction
              intro hc
              rw [belongs_no E.s S q (by omega)] at hbl
              cases hbl
            clear hG hbl
            go_wp2_with (first | (go_at_call 53; refine HV.out.mono ?_; rintro e w' ⟨rfl, rfl⟩; rw [HDD.out]) | (go_at_call 94; refine HB.out.mono ?_; rintro e w' ⟨rfl, rfl⟩))
            refine HP2.out.mono ?_
            rintro e w3 ⟨rfl, h3, hF3⟩
            rw [HDL.out]
            have HN := Lib.hid (show FewRel E w S (nextM E j) R i cs (E.s.size - (q + 1)) (.int .i64 ((q : Int) + 1)) w3 from ⟨q + 1, n' + 1, by omega, rfl, rfl, by omega, h3, hlim, HF2.out.drew.trans hF3, HG.out⟩)
            clear h3 hF3
            go_wp2
            go_roundg (E.s.size - (q + 1))
            case measure => omega
            case rel => exact HN.out
          · have HDL := Lib.hid (decide_eq_false hlim)
            have HG := Lib.hid (show R = none from by rw [hG]; simp only [if_true, hlim, if_false])
            clear hG hbl
            go_wp2_with (first | (go_at_call 53; refine HV.out.mono ?_; rintro e w' ⟨rfl, rfl⟩; rw [HDD.out]) | (go_at_call 94; refine HB.out.mono ?_; rintro e w' ⟨rfl, rfl⟩))
            refine HP2.out.mono ?_
            rintro e w3 ⟨rfl, h3, hF3⟩
            rw [HDL.out]
            have H3 := Lib.hid h3
            have HF3 := Lib.hid (HF2.out.drew.trans hF3)
            clear h3 hF3
            go_wp2
            go_ret2
            exact mp_over HG.out HF3.out (by omega) (by omega) H3.out
end Go.Proofs.YtpbhncmaamedhaaDoor
