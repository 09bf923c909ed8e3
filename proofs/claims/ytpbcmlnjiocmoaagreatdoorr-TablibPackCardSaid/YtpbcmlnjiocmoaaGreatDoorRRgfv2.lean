import Derived.Test.YtpbcmlnjiocmoaaGreatDoorRRgf
set_option linter.unusedVariables false
set_option linter.unusedSimpArgs false
namespace Go.Proofs.Lexi
open Go Go.RowKit
section
variable {P : Program} {E : Type} {ops : Array Oper} {Q : Exit → Act → World → Prop}
section
variable {I : Option E → World → Prop} {Fr : Option E → Nat → Prop} {Safe : Obj → Prop} {base : Nat} {m : Array Nat} {h : Nat} {fin : E → Option E}
/-- A REGION THAT DRAWS, WALKED ONCE. -/
theorem wp_region_free {id : Nat} {l : List Oper} {a0 : Act} {w : World} (I : Option E → World → Prop) (Fr : Option E → Nat → Prop) (Safe : Obj → Prop) (base h : Nat) (fin : E → Option E) {ks : List (Kd E)} (p0 : Nat → Nat) (e0 : E)
    (hm : P.follows .mixedOrders = true) (hB : freeCheck l.toArray (Region.before l.toArray) a0.tmps.size = true) (hI : I none w.drew) (hfin : ∀ e, fin e = if h < l.length then some e else none)
    (c1 : ∀ oo W W', I oo W → Below W.heap.size W W' → I oo W')
    (c2 : ∀ oo W W' n, I oo W → base ≤ n → Fr oo n → (∃ c, W.heap[n]? = some c ∧ Safe c) → (∃ c, W'.heap[n]? = some c ∧ Safe c) → Only n W W' → I oo W')
    (c3 : ∀ oo W n, I oo W → W.heap.size ≤ n → Fr oo n) (c4 : ∀ oo W, I oo W → base ≤ W.heap.size)
    (hw : WalkG P l.toArray I Fr Safe base (Region.before l.toArray) h fin Q l [] (fun _ _ => a0) ks)
    (hK : kindsCheck ks (Region.before l.toArray) h l.length = true) (hL : (decide (h < l.length) || (Region.before l.toArray).toList.all fun x => !x.testBit h) = true) : (Code.region id l.toArray true).wp P Q a0 w := by
  refine Code.wp_mono (Q := Norm Q) (fun e a w h => by cases e <;> first | exact h | exact h.elim) ?_
  refine wp_region_any hm ?_
  obtain ⟨_, hg2, hg3⟩ := hw.good a0 [] (by simp) rfl (fun _ _ => rfl)
  simp only [List.nil_append] at hg2 hg3
  have hsz : l.toArray.size = l.length := by simp
  refine free_any (freed_of hB) (h := h) (fin := fin) (kinded_of (by rw [hsz]; exact hK)) ?_ rfl (fun i o k ho hk => hg2 i o k (Nat.zero_le _) ho hk) hg3 (by rw [hsz]; exact hfin) c1 c2 c3 c4 l.toArray.size _ a0 _ (by simp) ?_ (by simp) ⟨p0, e0, ⟨rfl, rfl, fun _ _ => rfl, fun x o k t _ _ hl => ?_⟩, ⟨?_, fun x k o _ _ hl => ?_, fun x y k k' _ _ _ _ hl => ?_⟩⟩
  · rw [Bool.or_eq_true] at hL
    rcases hL with hL | hL
    · exact .inl (by rw [hsz]; exact of_decide_eq_true hL)
    · right
      intro i
      cases hb : (Region.before l.toArray)[i]? with
      | none => simp [Array.getD_eq_getD_getElem?, hb]
      | some x =>
        have := List.all_eq_true.1 hL x (by simpa using Array.mem_of_getElem? hb)
        simp only [Array.getD_eq_getD_getElem?, hb, Option.getD_some]
        simpa using this
  · intro x o hl
    exact absurd hl (by simp only [Array.getD_eq_getD_getElem?, Array.getElem?_replicate]; split <;> simp)
  · exact absurd hl (by simp only [Array.getD_eq_getD_getElem?, Array.getElem?_replicate]; split <;> simp)
  · have : now (Array.replicate l.toArray.size false) h e0 = none := by
      unfold now
      rw [if_neg]
      simp only [Array.getD_eq_getD_getElem?, Array.getElem?_replicate]
      split <;> simp
    rw [this]
    exact hI
  · exact absurd hl (by simp only [Array.getD_eq_getD_getElem?, Array.getElem?_replicate]; split <;> simp)
  · exact absurd hl (by simp only [Array.getD_eq_getD_getElem?, Array.getElem?_replicate]; split <;> simp)
end
end
end Go.Proofs.Lexi
