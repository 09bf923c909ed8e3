import Derived.Test.YtpbhncmaamedhaaDoorSingle
namespace Go.Proofs.YtpbhncmaamedhaaDoor
open Go.RowKit Go.Proofs.Lexi

def stepM (c : Nat) (r : List Nat) (s : St) : Except Nat (St × Nat) :=
  if c = 40 ∨ c = 41 then bracketM c r s
  else if c = 37 then
    match percentM r s with
    | some R => R
    | none => singleM c r s
  else singleM c r s
def parseGo : Nat → List Nat → St → Except Nat (St × Bool)
  | _, [], s => .ok (s, false)
  | 0, _ :: _, _ => .error 0
  | f + 1, c :: r, s =>
    if c = 36 ∧ r = [] then .ok (s, true)
    else match stepM c r s with
      | .error e => .error e
      | .ok q => parseGo f ((c :: r).drop q.2) q.1
def St.zero : St := ⟨[], 0, [], []⟩
/-- The pattern that is read: its state, the two anchors. -/
def parseM (l : List Nat) : Except Nat (St × Bool × Bool) :=
  let anc := l.head? == some 94
  let r := if anc then l.tail else l
  match parseGo r.length r St.zero with
  | .error e => .error e
  | .ok q => if q.1.opened = [] then .ok (q.1, anc, q.2) else .error 4

/-- What every step does. -/
structure StepOK (c : Nat) (r : List Nat) (s : St) (s' : St) (m : Nat) : Prop where
  wf : Wf s → Wf s'
  il : s'.items.length = s.items.length + 1
  m1 : 1 ≤ m
  m2 : m ≤ 1 + r.length
theorem bracket_step {c : Nat} {r : List Nat} {s s' : St} {m : Nat} (h : bracketM c r s = .ok (s', m)) : StepOK c r s s' m := by
  unfold bracketM at h
  split at h
  · split at h
    · cases h
    · rename_i n l hl
      injection h with h; injection h with h1 h2; subst h1; subst h2
      have ho : s.opened = l.reverse ++ [n] := by have := congrArg List.reverse hl; simpa using this
      refine ⟨fun hw => ⟨by simp [hw.el], hw.c16, fun x hx => hw.op x (by rw [ho]; simp at hx ⊢; exact .inl hx), by have := hw.ol; rw [ho] at this; simp at this ⊢; omega⟩, by simp, Nat.le_refl _, by omega⟩
  · split at h
    · cases h
    · rename_i hlim
      split at h
      · rename_i hh
        injection h with h; injection h with h1 h2; subst h1; subst h2
        refine ⟨fun hw => ⟨by simp [hw.el], by simp; omega, fun x hx => by have := hw.op x hx; simp; omega, by have := hw.ol; simp; omega⟩, by simp, by omega, ?_⟩
        cases r with
        | nil => cases hh
        | cons a r => simp; omega
      · injection h with h; injection h with h1 h2; subst h1; subst h2
        refine ⟨fun hw => ⟨by simp [hw.el], by simp; omega, fun x hx => ?_, by have := hw.ol; simp; omega⟩, by simp, by omega, by omega⟩
        simp at hx
        rcases hx with hx | rfl
        · have := hw.op x hx; simp; omega
        · simp
theorem wf_items {s : St} (hw : Wf s) (l : List Item) : Wf { s with items := l } := ⟨hw.el, hw.c16, hw.op, hw.ol⟩
theorem percent_step {r : List Nat} {s s' : St} {m : Nat} (h : percentM r s = some (.ok (s', m))) : StepOK 37 r s s' m := by
  unfold percentM at h
  split at h
  · cases h
  · rename_i d r1
    split at h
    · split at h
      · injection h with h; injection h with h; injection h with h1 h2; subst h1; subst h2
        exact ⟨fun hw => wf_items hw _, by simp, by omega, by simp; omega⟩
      · cases h
    · split at h
      · split at h
        · rename_i b r2
          split at h
          · split at h
            · cases h
            · rename_i q hq
              injection h with h; injection h with h; injection h with h1 h2; subst h1; subst h2
              have := setM_len' hq
              exact ⟨fun hw => wf_items hw _, by simp, by simp; omega, by simp; omega⟩
          · cases h
        · cases h
      · split at h
        · split at h
          · cases h
          · injection h with h; injection h with h; injection h with h1 h2; subst h1; subst h2
            exact ⟨fun hw => wf_items hw _, by simp, by omega, by simp; omega⟩
        · cases h
theorem quant_le (r : List Nat) : (quantM r).2 ≤ r.length := by
  unfold quantM
  split
  · split <;> simp
  · simp
theorem base_len {c : Nat} {r : List Nat} {q : (Nat → Bool) × List Nat} (h : baseM c r = some q) : q.2.length ≤ r.length := by
  unfold baseM at h
  split at h
  · injection h with h; subst h; exact Nat.le_refl _
  · split at h
    · split at h
      · cases h
      · obtain ⟨S, _, rfl⟩ := Option.map_eq_some_iff.1 h; simp
    · split at h
      · have := setM_len' h; omega
      · injection h with h; subst h; exact Nat.le_refl _
theorem single_step {c : Nat} {r : List Nat} {s s' : St} {m : Nat} (h : singleM c r s = .ok (s', m)) : StepOK c r s s' m := by
  unfold singleM at h
  split at h
  · cases h
  · rename_i q hq
    injection h with h; injection h with h1 h2; subst h1; subst h2
    have h1 := base_len hq
    have h2 := quant_le q.2
    exact ⟨fun hw => wf_items hw _, by simp, by omega, by omega⟩
theorem step_ok {c : Nat} {r : List Nat} {s s' : St} {m : Nat} (h : stepM c r s = .ok (s', m)) : StepOK c r s s' m := by
  unfold stepM at h
  split at h
  · exact bracket_step h
  · split at h
    · rename_i h37
      subst h37
      split at h
      · rename_i R hR; subst h; exact percent_step hR
      · exact single_step h
    · exact single_step h
theorem bracket_e {c : Nat} {r : List Nat} {s : St} {e : Nat} (h : bracketM c r s = .error e) : e = 3 ∨ e = 4 := by
  unfold bracketM at h
  split at h
  · split at h
    · injection h with h; exact .inr h.symm
    · cases h
  · split at h
    · injection h with h; exact .inl h.symm
    · split at h <;> cases h
theorem single_e {c : Nat} {r : List Nat} {s : St} {e : Nat} (h : singleM c r s = .error e) : e = 4 := by
  unfold singleM at h
  split at h
  · injection h with h; exact h.symm
  · cases h
theorem percent_e {r : List Nat} {s : St} {e : Nat} (h : percentM r s = some (.error e)) : e = 4 := by
  unfold percentM at h
  repeat' (split at h)
  all_goals first | (cases h; done) | (injection h with h; injection h with h; exact h.symm) | skip
theorem parseGo_fuel : ∀ (n f : Nat) (r : List Nat) (s : St), r.length ≤ n → r.length ≤ f → parseGo f r s = parseGo r.length r s
  | _, _, [], s, _, _ => by simp [parseGo]
  | 0, _, c :: r, s, hn, _ => by simp at hn
  | n + 1, 0, c :: r, s, _, hf => by simp at hf
  | n + 1, f + 1, c :: r, s, hn, hf => by
    simp only [List.length_cons] at hn hf ⊢
    simp only [parseGo]
    split
    · rfl
    · cases hs : stepM c r s with
      | error e => rfl
      | ok q =>
        obtain ⟨s', m⟩ := q
        have h := step_ok hs
        have m1 := h.m1
        have hl : ((c :: r).drop m).length ≤ r.length := by simp; omega
        simp only []
        rw [parseGo_fuel n f _ _ (by omega) (by omega), parseGo_fuel n r.length _ _ (by omega) hl]
theorem parseGo_next {c : Nat} {r : List Nat} {s s' : St} {m : Nat} (hd : ¬ (c = 36 ∧ r = [])) (h : stepM c r s = .ok (s', m)) : parseGo (c :: r).length (c :: r) s = parseGo ((c :: r).drop m).length ((c :: r).drop m) s' := by
  have h1 := step_ok h
  have m1 := h1.m1
  simp only [List.length_cons, parseGo, if_neg hd, h]
  have hl : ((c :: r).drop m).length ≤ r.length := by simp; omega
  exact parseGo_fuel _ _ _ _ hl hl
theorem parseGo_err {c : Nat} {r : List Nat} {s : St} {e : Nat} (hd : ¬ (c = 36 ∧ r = [])) (h : stepM c r s = .error e) : parseGo (c :: r).length (c :: r) s = .error e := by
  simp only [List.length_cons, parseGo, if_neg hd, h]
end Go.Proofs.YtpbhncmaamedhaaDoor
