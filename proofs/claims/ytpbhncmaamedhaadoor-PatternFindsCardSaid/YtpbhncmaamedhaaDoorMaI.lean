import Derived.Test.YtpbhncmaamedhaaDoorMaM
namespace Go.Proofs.YtpbhncmaamedhaaDoor
open Go.RowKit Go.Proofs.Lexi

/-! Plain laws of the matcher's model: what has become of each capture behind some items (0 not begun, 1 open, 2 closed, 3 a position). -/
def stNext (st : Nat → Nat) (it : Item) : Nat → Nat := fun k =>
  if it.n = k then (if it.kind = 1 then 1 else if it.kind = 2 then 2 else if it.kind = 3 then 3 else st k) else st k
def stEnd : (Nat → Nat) → List Item → Nat → Nat
  | st, [] => st
  | st, it :: r => stEnd (stNext st it) r
def st0 : Nat → Nat := fun _ => 0
structure ItemWf (K : Nat) (st : Nat → Nat) (it : Item) : Prop where
  k1 : 1 ≤ it.kind
  k7 : it.kind ≤ 7
  h1 : it.kind = 1 → it.n < K ∧ st it.n = 0
  h2 : it.kind = 2 → it.n < K ∧ st it.n = 1
  h3 : it.kind = 3 → it.n < K ∧ st it.n = 0
  h6 : it.kind = 6 → it.n < K ∧ st it.n = 2
def WfItems (K : Nat) : (Nat → Nat) → List Item → Prop
  | _, [] => True
  | st, it :: r => ItemWf K st it ∧ WfItems K (stNext st it) r
theorem stEnd_append : ∀ (a b : List Item) (st : Nat → Nat), stEnd st (a ++ b) = stEnd (stEnd st a) b
  | [], _, _ => rfl
  | it :: a, b, st => stEnd_append a b (stNext st it)
theorem WfItems.append {K : Nat} : ∀ {a b : List Item} {st : Nat → Nat}, WfItems K st a → WfItems K (stEnd st a) b → WfItems K st (a ++ b)
  | [], _, _, _, h => h
  | _ :: _, _, _, h, h' => ⟨h.1, WfItems.append h.2 h'⟩
theorem WfItems.drop {K : Nat} : ∀ {a b : List Item} {st : Nat → Nat}, WfItems K st (a ++ b) → WfItems K (stEnd st a) b
  | [], _, _, h => h
  | _ :: a, b, _, h => WfItems.drop (a := a) (b := b) h.2
theorem ItemWf.mono {K K' : Nat} {st : Nat → Nat} {it : Item} (h : ItemWf K st it) (hk : K ≤ K') : ItemWf K' st it :=
  ⟨h.k1, h.k7, fun e => ⟨by have := (h.h1 e).1; omega, (h.h1 e).2⟩, fun e => ⟨by have := (h.h2 e).1; omega, (h.h2 e).2⟩, fun e => ⟨by have := (h.h3 e).1; omega, (h.h3 e).2⟩, fun e => ⟨by have := (h.h6 e).1; omega, (h.h6 e).2⟩⟩
theorem WfItems.mono {K K' : Nat} (hk : K ≤ K') : ∀ {a : List Item} {st : Nat → Nat}, WfItems K st a → WfItems K' st a
  | [], _, _ => trivial
  | _ :: _, _, h => ⟨h.1.mono hk, WfItems.mono hk h.2⟩

/-- The captures are those that the items behind allow, between lo and i. -/
structure CapInv (K : Nat) (st : Nat → Nat) (lo i : Nat) (cs : List ACap) : Prop where
  len : cs.length = K
  c1 : ∀ k, st k = 1 → (cs.getD k zeroCap).o = true ∧ (lo : Int) ≤ (cs.getD k zeroCap).f ∧ (cs.getD k zeroCap).f ≤ i
  c2 : ∀ k, st k = 2 → (cs.getD k zeroCap).o = false ∧ (lo : Int) ≤ (cs.getD k zeroCap).f ∧ (cs.getD k zeroCap).f ≤ (cs.getD k zeroCap).t ∧ (cs.getD k zeroCap).t ≤ i
  c3 : ∀ k, st k = 3 → (cs.getD k zeroCap).o = false ∧ (lo : Int) ≤ (cs.getD k zeroCap).f ∧ (cs.getD k zeroCap).f ≤ i ∧ (cs.getD k zeroCap).t = -1
theorem CapInv.mono {K : Nat} {st : Nat → Nat} {lo i i' : Nat} {cs : List ACap} (h : CapInv K st lo i cs) (hi : i ≤ i') : CapInv K st lo i' cs :=
  ⟨h.len, fun k e => by have := h.c1 k e; exact ⟨this.1, this.2.1, by omega⟩, fun k e => by have := h.c2 k e; exact ⟨this.1, this.2.1, this.2.2.1, by omega⟩, fun k e => by have := h.c3 k e; exact ⟨this.1, this.2.1, by omega, this.2.2.2⟩⟩
theorem getD_set {α : Type} (l : List α) (k j : Nat) (x d : α) (hk : k < l.length) : (l.set k x).getD j d = if k = j then x else l.getD j d := by
  simp only [List.getD_eq_getElem?_getD, List.getElem?_set]
  split
  · rename_i h; subst h; simp
  · rfl
theorem CapInv.set {K : Nat} {st : Nat → Nat} {lo i : Nat} {cs : List ACap} (h : CapInv K st lo i cs) {it : Item} (hn : it.n < K) {c : ACap} (hk : it.kind = 1 ∨ it.kind = 2 ∨ it.kind = 3)
    (h1 : it.kind = 1 → c.o = true ∧ (lo : Int) ≤ c.f ∧ c.f ≤ i) (h2 : it.kind = 2 → c.o = false ∧ (lo : Int) ≤ c.f ∧ c.f ≤ c.t ∧ c.t ≤ i) (h3 : it.kind = 3 → c.o = false ∧ (lo : Int) ≤ c.f ∧ c.f ≤ i ∧ c.t = -1) :
    CapInv K (stNext st it) lo i (cs.set it.n c) := by
  have e : ∀ k, (cs.set it.n c).getD k zeroCap = if it.n = k then c else cs.getD k zeroCap := fun k => getD_set _ _ _ _ _ (by rw [h.len]; exact hn)
  refine ⟨by simp [h.len], fun k hs => ?_, fun k hs => ?_, fun k hs => ?_⟩
  all_goals
    rw [e]
    unfold stNext at hs
    by_cases hk' : it.n = k
    · simp only [hk', if_true] at hs ⊢
      rcases hk with a | a | a <;> simp only [a, if_true] at hs <;> first | exact h1 a | exact h2 a | exact h3 a | (simp at hs)
    · simp only [hk', if_false] at hs ⊢
      first | exact h.c1 k hs | exact h.c2 k hs | exact h.c3 k hs
theorem CapInv.other {K : Nat} {st : Nat → Nat} {lo i : Nat} {cs : List ACap} (h : CapInv K st lo i cs) {it : Item} (hk : 4 ≤ it.kind) : CapInv K (stNext st it) lo i cs := by
  have : stNext st it = st := by
    funext k; unfold stNext
    rw [if_neg (show ¬ it.kind = 1 by omega), if_neg (show ¬ it.kind = 2 by omega), if_neg (show ¬ it.kind = 3 by omega)]
    split <;> rfl
  rw [this]; exact h

/-- A run from any number of steps: it goes the same way from fewer steps, fails with the captures as they were, ends at i or behind. -/
def Gd (i : Nat) (Q : Nat → List ACap → Prop) (cs : List ACap) (g : Nat → MR) : Prop := ∀ m o m' cs', g m = some (o, (m', cs')) →
  m ≤ m' ∧ (∀ n, n ≤ m → g n = some (o, (n + (m' - m), cs'))) ∧ (o = none → cs' = cs) ∧ (∀ e, o = some e → i ≤ e ∧ Q e cs')
theorem Gd.weak {i i' : Nat} {Q : Nat → List ACap → Prop} {cs : List ACap} {g : Nat → MR} (h : Gd i' Q cs g) (hi : i ≤ i') : Gd i Q cs g := fun m o m' cs' he => by
  obtain ⟨a, b, c, d⟩ := h m o m' cs' he
  exact ⟨a, b, c, fun e he => ⟨by have := (d e he).1; omega, (d e he).2⟩⟩
theorem Gd.fail {i : Nat} {Q : Nat → List ACap → Prop} {cs : List ACap} : Gd i Q cs (fun m => some (none, (m, cs))) := fun m o m' cs' he => by
  simp only [Option.some.injEq, Prod.mk.injEq] at he
  obtain ⟨rfl, rfl, rfl⟩ := he
  exact ⟨Nat.le_refl _, fun n _ => by simp, fun _ => rfl, fun e he => by cases he⟩
theorem Gd.spend {i : Nat} {Q : Nat → List ACap → Prop} {cs : List ACap} {g : MS → MR} (h : Gd i Q cs (fun m => g (m, cs))) : Gd i Q cs (fun m => spendM (m, cs) g) := fun m o m' cs' he => by
  simp only [spendM] at he
  split at he
  · rename_i hl
    obtain ⟨a, b, c, d⟩ := h (m + 1) o m' cs' he
    refine ⟨by omega, fun n hn => ?_, c, d⟩
    simp only [spendM]
    rw [if_pos (by omega), show g (n + 1, cs) = _ from b (n + 1) (by omega), show n + 1 + (m' - (m + 1)) = n + (m' - m) by omega]
  · cases he
theorem Gd.seq {i : Nat} {Q : Nat → List ACap → Prop} {cs : List ACap} {g1 : Nat → MR} {g2 : MS → MR} (h1 : Gd i Q cs g1) (h2 : Gd i Q cs (fun m => g2 (m, cs))) :
    Gd i Q cs (fun m => match g1 m with | none => none | some (some e, st') => some (some e, st') | some (none, st') => g2 st') := fun m o m' cs' he => by
  simp only [] at he
  cases hg : g1 m with
  | none => rw [hg] at he; cases he
  | some q =>
    obtain ⟨o1, m1, cs1⟩ := q
    obtain ⟨a, b, c, d⟩ := h1 m o1 m1 cs1 hg
    rw [hg] at he
    cases o1 with
    | some e =>
      simp only [Option.some.injEq, Prod.mk.injEq] at he
      obtain ⟨rfl, rfl, rfl⟩ := he
      refine ⟨a, fun n hn => ?_, (fun h => by cases h), d⟩
      simp only [b n hn]
    | none =>
      have := c rfl
      subst this
      simp only [] at he
      obtain ⟨a', b', c', d'⟩ := h2 m1 o m' cs' he
      refine ⟨by omega, fun n hn => ?_, c', d'⟩
      simp only [b n hn]
      rw [show g2 (n + (m1 - m), cs1) = _ from b' (n + (m1 - m)) (by omega), show n + (m1 - m) + (m' - m1) = n + (m' - m) by omega]
theorem Gd.keep {i k : Nat} {c : ACap} {Q : Nat → List ACap → Prop} {cs : List ACap} {g : MS → MR} (h : Gd i Q (cs.set k c) (fun m => g (m, cs.set k c))) : Gd i Q cs (fun m => keepM k c g (m, cs)) := fun m o m' cs' he => by
  simp only [keepM] at he
  cases hg : g (m, cs.set k c) with
  | none => rw [hg] at he; cases he
  | some q =>
    obtain ⟨o1, m1, cs1⟩ := q
    obtain ⟨a, b, cc, d⟩ := h m o1 m1 cs1 hg
    rw [hg] at he
    cases o1 with
    | some e =>
      simp only [Option.some.injEq, Prod.mk.injEq] at he
      obtain ⟨rfl, rfl, rfl⟩ := he
      refine ⟨a, fun n hn => ?_, (fun h => by cases h), d⟩
      simp only [keepM]
      rw [show g (n, cs.set k c) = _ from b n hn]
    | none =>
      have := cc rfl
      subst this
      simp only [Option.some.injEq, Prod.mk.injEq] at he
      obtain ⟨rfl, rfl, rfl⟩ := he
      have back : (cs.set k c).set k (cs.getD k zeroCap) = cs := by
        rw [List.set_set]
        apply List.ext_getElem?
        intro j
        rw [List.getElem?_set]
        split
        · rename_i hk; subst hk
          split
          · rename_i hlt; simp [List.getD_eq_getElem?_getD, List.getElem?_eq_getElem hlt]
          · rename_i hlt; rw [List.getElem?_eq_none (by omega)]
        · rfl
      refine ⟨a, fun n hn => ?_, fun _ => back, (fun e h => by cases h)⟩
      simp only [keepM]
      rw [show g (n, cs.set k c) = _ from b n hn]

section
variable {L : Nat} {Q : Nat → List ACap → Prop} {cs : List ACap} {f : Nat → MS → MR} {i : Nat}
theorem Gd.bal (x y : Nat) (hf : ∀ i', i ≤ i' → i' ≤ L → Gd i' Q cs (fun m => f i' (m, cs))) : ∀ (r : List Nat) (k count : Nat), i ≤ k → k + r.length = L → Gd i Q cs (fun m => balM x y f r k count (m, cs))
  | [], k, count, _, _ => Gd.fail
  | c :: r, k, count, hk, hl => by
    simp only [List.length_cons] at hl
    have e : (fun m => balM x y f (c :: r) k count (m, cs)) = fun m => spendM (m, cs) fun st' =>
      if c = y then (if count = 1 then f (k + 1) st' else balM x y f r (k + 1) (count - 1) st') else if c = x then balM x y f r (k + 1) (count + 1) st' else balM x y f r (k + 1) count st' := rfl
    rw [e]
    refine Gd.spend ?_
    by_cases h1 : c = y
    · simp only [h1, if_true]
      by_cases h2 : count = 1
      · simp only [h2, if_true]; exact (hf (k + 1) (by omega) (by omega)).weak (by omega)
      · simp only [h2, if_false]; exact Gd.bal x y hf r (k + 1) _ (by omega) (by omega)
    · simp only [h1, if_false]
      by_cases h2 : c = x
      · simp only [h2, if_true]; exact Gd.bal x y hf r (k + 1) _ (by omega) (by omega)
      · simp only [h2, if_false]; exact Gd.bal x y hf r (k + 1) _ (by omega) (by omega)
theorem Gd.down (least : Nat) (hf : ∀ i', i ≤ i' → i' ≤ L → Gd i' Q cs (fun m => f i' (m, cs))) : ∀ (q : Nat), i + q ≤ L → Gd i Q cs (fun m => downM f i least q (m, cs))
  | 0, hq => by
    by_cases h : 0 < least
    · have e : (fun m => downM f i least 0 (m, cs)) = fun m => some (none, (m, cs)) := by funext m; unfold downM; rw [if_pos h]
      rw [e]; exact Gd.fail
    · have e : (fun m => downM f i least 0 (m, cs)) = fun m => match f (i + 0) (m, cs) with | none => none | some (some e, st') => some (some e, st') | some (none, st') => some (none, st') := by
        funext m; unfold downM; rw [if_neg h]; rcases f (i + 0) (m, cs) with _ | ⟨_ | _, _⟩ <;> rfl
      rw [e]
      exact Gd.seq (g1 := fun m => f (i + 0) (m, cs)) (g2 := fun st' => some (none, st')) ((hf _ (by omega) hq)) Gd.fail
  | q + 1, hq => by
    by_cases h : q + 1 < least
    · have e : (fun m => downM f i least (q + 1) (m, cs)) = fun m => some (none, (m, cs)) := by funext m; unfold downM; rw [if_pos h]
      rw [e]; exact Gd.fail
    · have e : (fun m => downM f i least (q + 1) (m, cs)) = fun m => match f (i + (q + 1)) (m, cs) with | none => none | some (some e, st') => some (some e, st') | some (none, st') => downM f i least q st' := by
        funext m; conv => lhs; unfold downM
        rw [if_neg h]; rcases f (i + (q + 1)) (m, cs) with _ | ⟨_ | _, _⟩ <;> rfl
      rw [e]
      exact Gd.seq (g1 := fun m => f (i + (q + 1)) (m, cs)) (g2 := fun st' => downM f i least q st') ((hf _ (by omega) hq).weak (by omega)) (Gd.down least hf q (by omega))
theorem Gd.count (S : Nat → Bool) (least : Nat) (hf : ∀ i', i ≤ i' → i' ≤ L → Gd i' Q cs (fun m => f i' (m, cs))) : ∀ (r : List Nat) (q : Nat), i + q + r.length ≤ L →
    Gd i Q cs (fun m => match countM S r q (m, cs) with | none => none | some (q', st') => downM f i least q' st')
  | [], q, hq => Gd.down least hf q (by simpa using hq)
  | c :: r, q, hq => by
    simp only [List.length_cons] at hq
    by_cases h : S c = true
    · have e : (fun m => match countM S (c :: r) q (m, cs) with | none => none | some (q', st') => downM f i least q' st') = fun m => spendM (m, cs) fun st => match countM S r (q + 1) st with | none => none | some (q', st') => downM f i least q' st' := by
        funext m; simp only [countM, spendM, h, if_true]
        by_cases hl : m + 1 ≤ maxSteps
        · rw [if_pos hl, if_pos hl]
        · rw [if_neg hl, if_neg hl]
      rw [e]
      exact Gd.spend (Gd.count S least hf r (q + 1) (by omega))
    · have e : (fun m => match countM S (c :: r) q (m, cs) with | none => none | some (q', st') => downM f i least q' st') = fun m => downM f i least q (m, cs) := by
        funext m; simp only [countM, h]; rfl
      rw [e]
      exact Gd.down least hf q (by omega)
theorem Gd.few (S : Nat → Bool) (hf : ∀ i', i ≤ i' → i' ≤ L → Gd i' Q cs (fun m => f i' (m, cs))) : ∀ (r : List Nat) (k : Nat), i ≤ k → k + r.length = L → Gd i Q cs (fun m => fewM S f r k (m, cs))
  | [], k, hk, hl => (hf k hk (by simp at hl; omega)).weak hk
  | c :: r, k, hk, hl => by
    simp only [List.length_cons] at hl
    have e : (fun m => fewM S f (c :: r) k (m, cs)) = fun m => match f k (m, cs) with | none => none | some (some e, st') => some (some e, st') | some (none, st') => if S c then (spendM st' fun st'' => fewM S f r (k + 1) st'') else some (none, st') := rfl
    rw [e]
    refine Gd.seq (g1 := fun m => f k (m, cs)) (g2 := fun st' => if S c then (spendM st' fun st'' => fewM S f r (k + 1) st'') else some (none, st')) ((hf k hk (by omega)).weak hk) ?_
    by_cases h : S c = true
    · simp only [h, if_true]; exact Gd.spend (Gd.few S hf r (k + 1) (by omega) (by omega))
    · simp only [h]; exact Gd.fail
end
theorem belongsM_lt {l : List Nat} {S : Nat → Bool} {i : Nat} (h : belongsM l S i = true) : i < l.length := by
  apply Classical.byContradiction
  intro hc
  unfold belongsM at h
  rw [List.drop_eq_nil_of_le (by omega)] at h
  cases h
theorem Gd.opt {l : List Nat} {Q : Nat → List ACap → Prop} {cs : List ACap} {f : Nat → MS → MR} {i : Nat} (S : Nat → Bool) (hi : i ≤ l.length) (hf : ∀ i', i ≤ i' → i' ≤ l.length → Gd i' Q cs (fun m => f i' (m, cs))) : Gd i Q cs (fun m => optM l S f i (m, cs)) := by
  by_cases h : belongsM l S i = true
  · have := belongsM_lt h
    have e : (fun m => optM l S f i (m, cs)) = fun m => match f (i + 1) (m, cs) with | none => none | some (some e, st') => some (some e, st') | some (none, st') => f i st' := by funext m; simp only [optM, h, if_true]; rcases f (i + 1) (m, cs) with _ | ⟨_ | _, _⟩ <;> rfl
    rw [e]
    exact Gd.seq (g1 := fun m => f (i + 1) (m, cs)) (g2 := fun st' => f i st') ((hf _ (by omega) (by omega)).weak (by omega)) (hf i (Nat.le_refl _) hi)
  · have e : (fun m => optM l S f i (m, cs)) = fun m => f i (m, cs) := by funext m; simp only [optM, h]; rfl
    rw [e]; exact hf i (Nat.le_refl _) hi
theorem Gd.single {l : List Nat} {Q : Nat → List ACap → Prop} {cs : List ACap} {f : Nat → MS → MR} {i : Nat} (S : Nat → Bool) (how : Nat) (hi : i ≤ l.length) (hf : ∀ i', i ≤ i' → i' ≤ l.length → Gd i' Q cs (fun m => f i' (m, cs))) : Gd i Q cs (fun m => singleRun l S how f i (m, cs)) := by
  unfold singleRun
  split
  · unfold manyM; exact Gd.count S 0 hf (l.drop i) 0 (by simp; omega)
  · split
    · unfold manyM; exact Gd.count S 1 hf (l.drop i) 0 (by simp; omega)
    · split
      · exact Gd.few S hf (l.drop i) i (Nat.le_refl _) (by simp; omega)
      · split
        · exact Gd.opt S hi hf
        · by_cases h : belongsM l S i = true
          · have := belongsM_lt h
            simp only [h, if_true]; exact (hf (i + 1) (by omega) (by omega)).weak (by omega)
          · simp only [h]; exact Gd.fail
theorem prefix_len {a b : List Nat} (h : a.isPrefixOf b = true) : a.length ≤ b.length := (List.isPrefixOf_iff_prefix.1 h).length_le
theorem Gd.item {l : List Nat} {Q : Nat → List ACap → Prop} {K : Nat} {st : Nat → Nat} {lo : Nat} {it : Item} {f : Nat → MS → MR} (hw : ItemWf K st it) {i : Nat} {cs : List ACap} (hi : i ≤ l.length) (hlo : lo ≤ i) (hc : CapInv K st lo i cs)
    (hf : ∀ i' cs', i ≤ i' → i' ≤ l.length → CapInv K (stNext st it) lo i' cs' → Gd i' Q cs' (fun m => f i' (m, cs'))) : Gd i Q cs (fun m => itemRun l it f i (m, cs)) := by
  have hlo' : (lo : Int) ≤ i := by omega
  have hf4 : 4 ≤ it.kind → ∀ i', i ≤ i' → i' ≤ l.length → Gd i' Q cs (fun m => f i' (m, cs)) := fun h i' h1 h2 => hf i' cs h1 h2 ((hc.mono h1).other h)
  unfold itemRun
  split
  · rename_i hk
    have := hw.h1 hk
    exact Gd.keep (hf i _ (Nat.le_refl _) hi (hc.set (c := ⟨i, 0, true⟩) this.1 (.inl hk) (fun _ => ⟨rfl, hlo', Int.le_refl _⟩) (fun h => by omega) (fun h => by omega)))
  · split
    · rename_i hk
      have h2 := hw.h2 hk
      have := hc.c1 _ h2.2
      exact Gd.keep (hf i _ (Nat.le_refl _) hi (hc.set (c := ⟨(cs.getD it.n zeroCap).f, i, false⟩) h2.1 (.inr (.inl hk)) (fun h => by omega) (fun _ => ⟨rfl, this.2.1, this.2.2, Int.le_refl _⟩) (fun h => by omega)))
    · split
      · rename_i hk
        have := hw.h3 hk
        exact Gd.keep (hf i _ (Nat.le_refl _) hi (hc.set (c := ⟨i, -1, false⟩) this.1 (.inr (.inr hk)) (fun h => by omega) (fun h => by omega) (fun _ => ⟨rfl, hlo', Int.le_refl _, rfl⟩)))
      · have k1 := hw.k1
        have hf4 := hf4 (by omega)
        split
        · cases hd : l.drop i with
          | nil => exact Gd.fail
          | cons c r =>
            simp only []
            have hl : (l.drop i).length = r.length + 1 := by rw [hd]; rfl
            rw [List.length_drop] at hl
            split
            · exact Gd.bal it.x it.y hf4 r (i + 1) 1 (by omega) (by omega)
            · exact Gd.fail
        · split
          · split
            · exact hf4 i (Nat.le_refl _) hi
            · exact Gd.fail
          · split
            · simp only []
              split
              · rename_i hp
                have := prefix_len hp
                rw [List.length_drop] at this
                exact (hf4 _ (by omega) (by omega)).weak (by omega)
              · exact Gd.fail
            · exact Gd.single it.one it.how hi hf4
theorem Gd.match_ (l : List Nat) (fin : Bool) (K lo : Nat) : ∀ (r : List Item) (st : Nat → Nat) (i : Nat) (cs : List ACap), WfItems K st r → i ≤ l.length → lo ≤ i → CapInv K st lo i cs →
    Gd i (fun e cs' => e ≤ l.length ∧ (fin = true → e = l.length) ∧ CapInv K (stEnd st r) lo e cs') cs (fun m => matchM l fin r i (m, cs))
  | [], st, i, cs, _, hi, _, hc => by
    refine Gd.spend ?_
    intro m o m' cs' he
    simp only [Option.some.injEq, Prod.mk.injEq] at he
    obtain ⟨rfl, rfl, rfl⟩ := he
    refine ⟨Nat.le_refl _, fun n _ => by simp, fun _ => rfl, fun e he => ?_⟩
    split at he
    · rename_i hb
      injection he with he
      subst he
      exact ⟨Nat.le_refl _, hi, fun hf => by rw [hf] at hb; simpa using hb, hc⟩
    · cases he
  | it :: r, st, i, cs, hw, hi, hlo, hc => by
    refine Gd.spend (g := fun st' => itemRun l it (matchM l fin r) i st') ?_
    exact Gd.item hw.1 hi hlo hc fun i' cs' h1 h2 h3 => Gd.match_ l fin K lo r (stNext st it) i' cs' hw.2 h2 (by omega) h3
end Go.Proofs.YtpbhncmaamedhaaDoor
