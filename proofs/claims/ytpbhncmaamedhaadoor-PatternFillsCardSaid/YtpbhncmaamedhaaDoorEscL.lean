import Derived.Test.YtpbhncmaamedhaaDoorFirst
namespace Go.Proofs.YtpbhncmaamedhaaDoor
open Go.RowKit Go.Proofs.Lexi

/-! PatternEscapes: the plain law: the escaped string as a pattern. -/
def litItem (c : Nat) : Item := ⟨7, 0, 0, 0, eqS c, 0⟩
def NotQ (r : List Nat) : Prop := quantM r = (0, 0)
theorem esc_head (l : List Nat) : NotQ (escapeM l) := by
  unfold NotQ
  cases l with
  | nil => rfl
  | cons c l =>
    show quantM (escC c ++ escapeM l) = _
    unfold escC
    by_cases h : plainC c = true
    · rw [if_pos h]
      have hq : isQ c = false := by
        cases hq : isQ c with
        | false => rfl
        | true =>
          exfalso
          unfold isQ at hq
          simp only [Bool.or_eq_true, beq_iff_eq] at hq
          rcases hq with ((hq | hq) | hq) | hq <;> subst hq <;> revert h <;> decide
      simp [quantM, hq]
    · rw [if_neg h]
      simp [quantM, isQ]
theorem pair_plain {c : Nat} (h : plainC c = false) : pairS c = some (eqS c) := by
  unfold plainC at h
  rw [Bool.or_eq_false_iff] at h
  simp only [pairS, h.1, h.2, Bool.not_false, Bool.and_self, if_true]
  rfl
theorem step_esc (c : Nat) (l : List Nat) (s : St) : ∃ m, stepM ((escC c).headD 0) ((escC c).tail ++ escapeM l) s = .ok ({ s with items := s.items ++ [litItem c] }, m) ∧ m = (escC c).length := by
  unfold escC
  by_cases h : plainC c = true
  · rw [if_pos h]
    simp only [List.headD_cons, List.tail_cons, List.nil_append, List.length_cons, List.length_nil, Nat.zero_add]
    have hc : c ≠ 40 ∧ c ≠ 41 ∧ c ≠ 37 ∧ c ≠ 46 ∧ c ≠ 91 := by
      refine ⟨?_, ?_, ?_, ?_, ?_⟩ <;> (intro e; subst e; revert h; decide)
    refine ⟨1, ?_, rfl⟩
    unfold stepM
    rw [if_neg (by omega), if_neg (by omega)]
    unfold singleM baseM
    rw [if_neg (by omega), if_neg (by omega), if_neg (by omega)]
    simp only []
    rw [show quantM (escapeM l) = (0, 0) from esc_head l]
    simp only [Nat.add_zero, litItem]
    rw [show 1 + (escapeM l).length - (escapeM l).length = 1 by omega]
  · rw [if_neg h]
    simp only [List.headD_cons, List.tail_cons, List.cons_append, List.nil_append, List.length_cons, List.length_nil]
    have hp : plainC c = false := by simpa using h
    have hc : c ≠ 98 ∧ c ≠ 102 := by
      refine ⟨?_, ?_⟩ <;> (intro e; subst e; revert hp; decide)
    have hd : isDigit c = false := by unfold plainC at hp; rw [Bool.or_eq_false_iff] at hp; exact hp.2
    refine ⟨2, ?_, rfl⟩
    unfold stepM
    rw [if_neg (by omega), if_pos rfl]
    have hpm : percentM (c :: escapeM l) s = none := by
      unfold percentM
      simp only [hc.1, hc.2, hd, if_false]
      rfl
    rw [hpm]
    simp only []
    unfold singleM baseM
    rw [if_neg (by omega), if_pos rfl]
    simp only [pair_plain hp, Option.map_some]
    rw [show quantM (escapeM l) = (0, 0) from esc_head l]
    simp only [Nat.add_zero, litItem, List.length_cons]
    rw [show 1 + ((escapeM l).length + 1) - (escapeM l).length = 2 by omega]
theorem escC_cons (c : Nat) : escC c = (escC c).headD 0 :: (escC c).tail := by unfold escC; split <;> rfl
theorem esc_head36 (c : Nat) : (escC c).headD 0 ≠ 36 := by
  unfold escC
  by_cases h : plainC c = true
  · rw [if_pos h]; intro e; simp at e; subst e; revert h; decide
  · rw [if_neg h]; show (37 : Nat) ≠ 36; decide
theorem parse_esc : ∀ (l : List Nat) (s : St), parseGo (escapeM l).length (escapeM l) s = .ok ({ s with items := s.items ++ l.map litItem }, false)
  | [], s => by simp [escapeM, parseGo]
  | c :: l, s => by
    have e : escapeM (c :: l) = (escC c).headD 0 :: ((escC c).tail ++ escapeM l) := by
      show escC c ++ escapeM l = _
      conv => lhs; rw [escC_cons c]
      rfl
    obtain ⟨m, hs, hm⟩ := step_esc c l s
    rw [e, parseGo_next (fun h => esc_head36 c h.1) hs]
    have hd : ((escC c).headD 0 :: ((escC c).tail ++ escapeM l)).drop m = escapeM l := by
      have e2 : (escC c).headD 0 :: ((escC c).tail ++ escapeM l) = escC c ++ escapeM l := by
        conv => rhs; rw [escC_cons c]
        rfl
      rw [e2, hm, List.drop_left]
    rw [hd, parse_esc l]
    simp
theorem parseM_esc (l : List Nat) : parseM (escapeM l) = .ok (⟨l.map litItem, 0, [], []⟩, false, false) := by
  have hh : ((escapeM l).head? == some 94) = false := by
    cases l with
    | nil => rfl
    | cons c l =>
      show ((escC c ++ escapeM l).head? == some 94) = false
      rw [escC_cons c]
      simp only [List.cons_append, List.head?_cons]
      rw [beq_eq_false_iff_ne]
      intro e
      injection e with e
      unfold escC at e
      by_cases h : plainC c = true
      · rw [if_pos h] at e; simp at e; subst e; revert h; decide
      · rw [if_neg h] at e; simp at e
  unfold parseM
  simp only [hh]
  have := parse_esc l St.zero
  simp only [Bool.false_eq_true, if_false]
  rw [this]
  simp [St.zero]
theorem match_lit (t : List Nat) : ∀ (l : List Nat) (i n : Nat), n + l.length + 1 ≤ maxSteps → ∃ n', matchM t false (l.map litItem) i (n, []) = some (if l.isPrefixOf (t.drop i) then some (i + l.length) else none, (n', []))
  | [], i, n, hn => by
    refine ⟨n + 1, ?_⟩
    simp only [List.map_nil, matchM, spendM]
    rw [if_pos (by simpa using hn)]
    simp
  | c :: l, i, n, hn => by
    simp only [List.length_cons] at hn
    simp only [List.map_cons, matchM, spendM]
    rw [if_pos (by omega)]
    have hi : itemRun t (litItem c) (matchM t false (l.map litItem)) i (n + 1, []) = if belongsM t (eqS c) i then matchM t false (l.map litItem) (i + 1) (n + 1, []) else some (none, (n + 1, [])) := rfl
    rw [hi]
    cases hd : t.drop i with
    | nil =>
      have hb : belongsM t (eqS c) i = false := by unfold belongsM; rw [hd]
      rw [hb]
      exact ⟨n + 1, by simp [List.isPrefixOf]⟩
    | cons d r =>
      have hb : belongsM t (eqS c) i = (d == c) := by unfold belongsM; rw [hd]; rfl
      have hr : t.drop (i + 1) = r := by rw [← List.drop_drop, hd]; rfl
      rw [hb]
      obtain ⟨n', hm⟩ := match_lit t l (i + 1) (n + 1) (by omega)
      rw [hr] at hm
      by_cases hdc : d = c
      · subst hdc
        refine ⟨n', ?_⟩
        simp only [beq_self_eq_true, if_true, hm, List.isPrefixOf, Bool.true_and, List.length_cons]
        congr 2
        rw [show i + 1 + l.length = i + (l.length + 1) by omega]
      · refine ⟨n + 1, ?_⟩
        have h1 : (d == c) = false := beq_eq_false_iff_ne.2 hdc
        have h2 : (c == d) = false := beq_eq_false_iff_ne.2 (Ne.symm hdc)
        simp [h1, h2, List.isPrefixOf]
/-- What At gives for the escaped string. -/
theorem at_esc (t l : List Nat) (i : Nat) (hi : i ≤ t.length) (hl : l.length ≤ 2000) : atM t (escapeM l) (i : Int) = if l.isPrefixOf (t.drop i) then .ok (some ⟨i, ((i + l.length : Nat) : Int), []⟩) else .ok none := by
  rw [atM_run (parseM_esc l) hi]
  obtain ⟨n', hm⟩ := match_lit t l i 0 (by unfold maxSteps; omega)
  have : runP t (⟨l.map litItem, 0, [], []⟩, false, false) i 0 = matchM t false (l.map litItem) i (0, []) := rfl
  rw [this, hm]
  split <;> rfl
theorem check_esc (l : List Nat) : CheckE (escapeM l) = 0 := by unfold CheckE; rw [parseM_esc]
theorem esc_len : ∀ l : List Nat, (escapeM l).length ≤ 2 * l.length
  | [] => by simp [escapeM]
  | c :: l => by
    have := esc_len l
    have h2 := escC_len c
    show (escC c ++ escapeM l).length ≤ _
    simp only [List.length_append, List.length_cons]
    omega
end Go.Proofs.YtpbhncmaamedhaaDoor
