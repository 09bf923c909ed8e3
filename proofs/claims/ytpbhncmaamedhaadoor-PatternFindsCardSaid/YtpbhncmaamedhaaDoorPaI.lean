import Derived.Test.YtpbhncmaamedhaaDoorMaI
namespace Go.Proofs.YtpbhncmaamedhaaDoor
open Go.RowKit Go.Proofs.Lexi

/-! What parseM gives is well formed: every capture begins and ends in order. -/
structure PInv (s : St) : Prop where
  wf : WfItems s.caps st0 s.items
  op : ∀ k, k ∈ s.opened ↔ stEnd st0 s.items k = 1
  nd : s.opened.Nodup
  lo : ∀ k, k < s.caps → stEnd st0 s.items k ≠ 0
  le : ∀ k, stEnd st0 s.items k ≤ 3
  hi : ∀ k, s.caps ≤ k → stEnd st0 s.items k = 0
  en : ∀ k, s.ended.getD k false = true → stEnd st0 s.items k = 2
theorem stEnd_snoc (l : List Item) (it : Item) (st : Nat → Nat) : stEnd st (l ++ [it]) = stNext (stEnd st l) it := by rw [stEnd_append]; rfl
theorem PInv.zero : PInv St.zero := ⟨trivial, fun k => by simp [St.zero, stEnd, st0], by simp [St.zero], fun k h => by simp [St.zero] at h, fun k => by simp [St.zero, stEnd, st0], fun k _ => rfl, fun k h => by simp [St.zero] at h⟩
/-- An item without a capture of its own. -/
theorem PInv.plain {s : St} (h : PInv s) {it : Item} (hk : 4 ≤ it.kind) (hk7 : it.kind ≤ 7) (h6 : it.kind = 6 → it.n < s.caps ∧ stEnd st0 s.items it.n = 2) : PInv { s with items := s.items ++ [it] } := by
  have e : stEnd st0 (s.items ++ [it]) = stEnd st0 s.items := by
    rw [stEnd_snoc]; funext k; unfold stNext
    rw [if_neg (show ¬ it.kind = 1 by omega), if_neg (show ¬ it.kind = 2 by omega), if_neg (show ¬ it.kind = 3 by omega)]
    split <;> rfl
  refine ⟨h.wf.append ⟨⟨by omega, hk7, fun h => by omega, fun h => by omega, fun h => by omega, h6⟩, trivial⟩, ?_, h.nd, ?_, ?_, ?_, ?_⟩
  all_goals simp only [e]
  · exact h.op
  · exact h.lo
  · exact h.le
  · exact h.hi
  · exact h.en
theorem stNext_mk (st : Nat → Nat) (kind n k : Nat) (hk : kind = 1 ∨ kind = 2 ∨ kind = 3) : stNext st (mkItem kind n) k = if n = k then kind else st k := by
  unfold stNext mkItem
  rcases hk with h | h | h <;> subst h <;> rfl
theorem getD_append_false (l : List Bool) (k : Nat) (h : (l ++ [false]).getD k false = true) : l.getD k false = true := by
  simp only [List.getD_eq_getElem?_getD] at *
  by_cases hk : k < l.length
  · rw [List.getElem?_append_left hk] at h; exact h
  · rw [List.getElem?_append_right (by omega)] at h
    cases hd : k - l.length with
    | zero => rw [hd] at h; simp at h
    | succ m => rw [hd] at h; simp at h
theorem bracket_inv {c : Nat} {r : List Nat} {s s' : St} {m : Nat} (h : bracketM c r s = .ok (s', m)) (hw : Wf s) (hp : PInv s) : PInv s' := by
  unfold bracketM at h
  split at h
  · split at h
    · cases h
    · rename_i n l hl
      injection h with h; injection h with h1 h2; subst h1
      have ho : s.opened = l.reverse ++ [n] := by have := congrArg List.reverse hl; simpa using this
      have hmem : n ∈ s.opened := by rw [ho]; simp
      have hn1 := (hp.op n).1 hmem
      have hnc := hw.op n hmem
      have hnd := hp.nd
      rw [ho] at hnd
      have hnl : n ∉ l.reverse := fun hc => by
        rw [List.nodup_append] at hnd
        exact hnd.2.2 n hc n (by simp) rfl
      have e : ∀ k, stEnd st0 (s.items ++ [mkItem 2 n]) k = if n = k then 2 else stEnd st0 s.items k := fun k => by rw [stEnd_snoc]; exact stNext_mk _ 2 n k (by omega)
      refine ⟨hp.wf.append ⟨⟨by simp [mkItem], by simp [mkItem], fun h => by simp [mkItem] at h, fun _ => ⟨hnc, hn1⟩, fun h => by simp [mkItem] at h, fun h => by simp [mkItem] at h⟩, trivial⟩, ?_, ?_, ?_, ?_, ?_, ?_⟩
      · intro k
        rw [e]
        by_cases hk : n = k
        · subst hk; simp only [if_true]; exact ⟨fun h => absurd h hnl, fun h => by cases h⟩
        · rw [if_neg hk, ← hp.op k, ho]
          simp [Ne.symm hk]
      · rw [List.nodup_append] at hnd; exact hnd.1
      · intro k hk
        rw [e]
        split
        · omega
        · exact hp.lo k hk
      · intro k; rw [e]; split
        · omega
        · exact hp.le k
      · intro k hk
        rw [e]
        have hk' : s.caps ≤ k := hk
        rw [if_neg (by omega)]
        exact hp.hi k hk
      · intro k hk
        rw [e]
        split
        · rfl
        · rename_i hne
          refine hp.en k ?_
          simp only [List.getD_eq_getElem?_getD, List.getElem?_set_ne hne] at hk ⊢
          exact hk
  · split at h
    · cases h
    · split at h
      all_goals
        injection h with h; injection h with h1 h2; subst h1
      · have e : ∀ k, stEnd st0 (s.items ++ [mkItem 3 s.caps]) k = if s.caps = k then 3 else stEnd st0 s.items k := fun k => by rw [stEnd_snoc]; exact stNext_mk _ 3 s.caps k (by omega)
        have h0 := hp.hi s.caps (Nat.le_refl _)
        refine ⟨(hp.wf.mono (Nat.le_succ _)).append ⟨⟨by simp [mkItem], by simp [mkItem], fun h => by simp [mkItem] at h, fun h => by simp [mkItem] at h, fun _ => ⟨Nat.lt_succ_self _, h0⟩, fun h => by simp [mkItem] at h⟩, trivial⟩, ?_, hp.nd, ?_, ?_, ?_, ?_⟩
        · intro k
          rw [e]
          by_cases hk : s.caps = k
          · subst hk; simp only [if_true]; exact ⟨fun h => by have := (hp.op _).1 h; omega, fun h => by cases h⟩
          · rw [if_neg hk]; exact hp.op k
        · intro k hk
          have hk' : k < s.caps + 1 := hk
          rw [e]; split
          · omega
          · exact hp.lo k (by omega)
        · intro k; rw [e]; split
          · omega
          · exact hp.le k
        · intro k hk
          have hk' : s.caps + 1 ≤ k := hk
          rw [e, if_neg (by omega)]; exact hp.hi k (by omega)
        · intro k hk
          have := hp.en k (getD_append_false _ _ hk)
          rw [e, if_neg (fun hc => by subst hc; omega)]; exact this
      · have e : ∀ k, stEnd st0 (s.items ++ [mkItem 1 s.caps]) k = if s.caps = k then 1 else stEnd st0 s.items k := fun k => by rw [stEnd_snoc]; exact stNext_mk _ 1 s.caps k (by omega)
        have h0 := hp.hi s.caps (Nat.le_refl _)
        refine ⟨(hp.wf.mono (Nat.le_succ _)).append ⟨⟨by simp [mkItem], by simp [mkItem], fun _ => ⟨Nat.lt_succ_self _, h0⟩, fun h => by simp [mkItem] at h, fun h => by simp [mkItem] at h, fun h => by simp [mkItem] at h⟩, trivial⟩, ?_, ?_, ?_, ?_, ?_, ?_⟩
        · intro k
          rw [e]
          by_cases hk : s.caps = k
          · subst hk; simp
          · rw [if_neg hk, ← hp.op k]
            simp [Ne.symm hk]
        · rw [List.nodup_append]
          refine ⟨hp.nd, by simp, fun a ha b hb => ?_⟩
          simp at hb; subst hb
          intro hc; subst hc
          have := (hp.op _).1 ha; omega
        · intro k hk
          have hk' : k < s.caps + 1 := hk
          rw [e]; split
          · omega
          · exact hp.lo k (by omega)
        · intro k; rw [e]; split
          · omega
          · exact hp.le k
        · intro k hk
          have hk' : s.caps + 1 ≤ k := hk
          rw [e, if_neg (by omega)]; exact hp.hi k (by omega)
        · intro k hk
          have := hp.en k (getD_append_false _ _ hk)
          rw [e, if_neg (fun hc => by subst hc; omega)]; exact this
theorem percent_inv {r : List Nat} {s s' : St} {m : Nat} (h : percentM r s = some (.ok (s', m))) (hw : Wf s) (hp : PInv s) : PInv s' := by
  unfold percentM at h
  split at h
  · cases h
  · rename_i d r1
    split at h
    · split at h
      · injection h with h; injection h with h; injection h with h1 h2; subst h1
        exact hp.plain (by simp) (by simp) (fun h => by simp at h)
      · cases h
    · split at h
      · split at h
        · split at h
          · split at h
            · cases h
            · injection h with h; injection h with h; injection h with h1 h2; subst h1
              exact hp.plain (by simp) (by simp) (fun h => by simp at h)
          · cases h
        · cases h
      · split at h
        · split at h
          · cases h
          · rename_i hn
            injection h with h; injection h with h; injection h with h1 h2; subst h1
            have hen : s.ended.getD (d - 49) false = true := by
              cases hx : s.ended.getD (d - 49) false with
              | true => rfl
              | false => exact absurd (.inr hx) hn
            refine hp.plain (by simp [mkItem]) (by simp [mkItem]) (fun _ => ⟨?_, hp.en _ hen⟩)
            show d - 49 < s.caps
            rw [← hw.el]
            apply Classical.byContradiction
            intro hc
            rw [List.getD_eq_getElem?_getD, List.getElem?_eq_none (by omega)] at hen
            cases hen
        · cases h
theorem single_inv {c : Nat} {r : List Nat} {s s' : St} {m : Nat} (h : singleM c r s = .ok (s', m)) (hp : PInv s) : PInv s' := by
  unfold singleM at h
  split at h
  · cases h
  · injection h with h; injection h with h1 h2; subst h1
    exact hp.plain (by simp) (by simp) (fun h => by simp at h)
theorem step_inv {c : Nat} {r : List Nat} {s s' : St} {m : Nat} (h : stepM c r s = .ok (s', m)) (hw : Wf s) (hp : PInv s) : PInv s' := by
  unfold stepM at h
  split at h
  · exact bracket_inv h hw hp
  · split at h
    · split at h
      · rename_i R hR; subst h; exact percent_inv hR hw hp
      · exact single_inv h hp
    · exact single_inv h hp
theorem parseGo_inv : ∀ (f : Nat) (r : List Nat) (s : St) (q : St × Bool), parseGo f r s = .ok q → Wf s → PInv s → Wf q.1 ∧ PInv q.1 ∧ q.1.items.length ≤ s.items.length + r.length
  | _, [], s, q, h, hw, hp => by
    simp only [parseGo] at h
    injection h with h; subst h
    exact ⟨hw, hp, by simp⟩
  | 0, c :: r, s, q, h, _, _ => by simp [parseGo] at h
  | f + 1, c :: r, s, q, h, hw, hp => by
    simp only [parseGo] at h
    split at h
    · injection h with h; subst h; exact ⟨hw, hp, by simp⟩
    · split at h
      · cases h
      · rename_i q' hs
        obtain ⟨s', m⟩ := q'
        have h1 := step_ok hs
        obtain ⟨a, b, cc⟩ := parseGo_inv f _ _ q h (h1.wf hw) (step_inv hs hw hp)
        refine ⟨a, b, ?_⟩
        have := h1.il
        have := h1.m1
        simp only [List.length_drop, List.length_cons] at cc ⊢
        omega
theorem Wf.zero : Wf St.zero := ⟨rfl, by simp [St.zero], fun n h => by simp [St.zero] at h, by simp [St.zero]⟩
/-- A pattern that was read: its items are in order, and every capture has ended or is a position. -/
theorem parseM_inv {l : List Nat} {s : St} {anc fin : Bool} (h : parseM l = .ok (s, anc, fin)) : WfItems s.caps st0 s.items ∧ (∀ k, k < s.caps → stEnd st0 s.items k = 2 ∨ stEnd st0 s.items k = 3) ∧ s.caps ≤ 16 ∧ s.items.length ≤ l.length ∧ anc = (l.head? == some 94) := by
  unfold parseM at h
  simp only [] at h
  split at h
  · cases h
  · rename_i q hq
    split at h
    · rename_i ho
      injection h with h; injection h with h1 h2; injection h2 with h2 h3
      subst h1
      obtain ⟨a, b, c⟩ := parseGo_inv _ _ _ _ hq Wf.zero PInv.zero
      refine ⟨b.wf, fun k hk => ?_, a.c16, ?_, h2.symm⟩
      · have h1 := b.lo k hk
        have h3 := b.le k
        have h2 : stEnd st0 q.1.items k ≠ 1 := fun hc => by
          have := (b.op k).2 hc
          rw [ho] at this
          cases this
        omega
      · have : St.zero.items.length = 0 := rfl
        have hle : (if (l.head? == some 94) = true then l.tail else l).length ≤ l.length := by split <;> simp
        omega
    · cases h
theorem parseM_err {l : List Nat} {e : Nat} (h : parseM l = .error e) : e = 3 ∨ e = 4 := by
  have go : ∀ (f : Nat) (r : List Nat) (s : St) (e : Nat), r.length ≤ f → parseGo f r s = .error e → e = 3 ∨ e = 4 := by
    intro f
    induction f with
    | zero => intro r s e hl h; cases r with
      | nil => simp [parseGo] at h
      | cons c r => simp at hl
    | succ f ih =>
      intro r s e hl h
      cases r with
      | nil => simp [parseGo] at h
      | cons c r =>
        simp only [parseGo] at h
        split at h
        · cases h
        · split at h
          · rename_i e' hs
            injection h with h; subst h
            unfold stepM at hs
            split at hs
            · exact bracket_e hs
            · split at hs
              · split at hs
                · rename_i R hR; subst hs; exact .inr (percent_e hR)
                · exact .inr (single_e hs)
              · exact .inr (single_e hs)
          · rename_i q hs
            have := (step_ok (m := q.2) (s' := q.1) hs).m1
            refine ih _ _ _ ?_ h
            simp at hl ⊢; omega
  unfold parseM at h
  simp only [] at h
  split at h
  · rename_i e' hq
    injection h with h; subst h
    exact go _ _ _ _ (Nat.le_refl _) hq
  · split at h
    · cases h
    · injection h with h; exact .inr h.symm
end Go.Proofs.YtpbhncmaamedhaaDoor
