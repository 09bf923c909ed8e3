import Derived.Test.YtalfoihffnlelaaGreatDoorOmA
import Derived.Test.YtalfoihffnlelaaGreatDoorValB
set_option linter.unusedVariables false
set_option linter.unusedSimpArgs false
set_option maxRecDepth 100000
set_option maxHeartbeats 2000000
namespace Go.Proofs.YtalfoihffnlelaaGreatDoor
open Go.RowKit Go.Proofs.Lexi
set_option maxRecDepth 100000 in
theorem eq_run (W : World) (k p q : Int) (s : ByteArray) (r : Int) (k2 p2 q2 : Int) (s2 : ByteArray) (r2 : Int) :
    (binOp .eql 30 (.agg #[.int .i64 k, .int .i64 p, .int .i64 q, .string s, .int .i64 r]) (.agg #[.int .i64 k2, .int .i64 p2, .int .i64 q2, .string s2, .int .i64 r2])).run Tryz.prog W = .ok (.bool (eqV ⟨k, p, q, s, r⟩ ⟨k2, p2, q2, s2, r2⟩)) W := by
  by_cases h1 : k = k2 <;> by_cases h2 : p = p2 <;> by_cases h3 : q = q2 <;> by_cases h4 : s = s2 <;> by_cases h5 : r = r2 <;> simp [go_sem, eqV, h1, h2, h3, h4, h5]
  have h6 : ¬ s.toList = s2.toList := fun e => h4 (ByteArray.ext (Array.toList_inj.1 (by rw [← ByteArray.toList_eq, ← ByteArray.toList_eq]; exact e)))
  have h7 : (bytesOf s == bytesOf s2) = false := beq_eq_false_iff_ne.2 (fun e => h4 (bytesOf_inj e))
  rw [if_neg h6, h7]
theorem neqs_run (W : World) (v : V) : (binOp .neq 30 (.agg #[.int .i64 v.k, .int .i64 v.p, .int .i64 v.q, .string v.s, .int .i64 v.r]) (.agg #[.int .i64 v.k, .int .i64 v.p, .int .i64 v.q, .string v.s, .int .i64 v.r])).run Tryz.prog W = .ok (.bool false) W := by
  have := neq_run W v.k v.p v.q v.s v.r v.k v.p v.q v.s v.r
  rw [this]
  simp [eqV]
set_option maxRecDepth 100000 in
set_option maxHeartbeats 2000000 in
theorem same_true (w : World) (so sp : Option Addr) (n m cap cap2 : Nat) (A : List V) (hA : Vals w (.slice so n cap) A) (hB : Vals w (.slice sp m cap2) A) (hl : A.length ≤ 1000) :
    Calls Tryz.prog 10 #[.slice so n cap, .slice sp m cap2] w (BoolPost w true) := by
  have hn : n = A.length := by obtain ⟨_, _, e, _⟩ := hA; injection e
  have hm : m = A.length := by obtain ⟨_, _, e, _⟩ := hB; injection e
  subst hn
  subst hm
  have HA := Lib.hid hA
  have HB := Lib.hid hB
  clear hA hB
  go_enter Tryz.func10, Tryz.ntmps10
  go_wp2
  go_loopg [13] A.length (fun gg iv wr => ∃ i k : Nat, gg = A.length - i ∧ iv = .int .i64 (i : Int) ∧ wr = w.drewN k ∧ i ≤ A.length)
  case atStart => exact ⟨0, 0, rfl, rfl, rfl, Nat.zero_le _⟩
  obtain ⟨i, k, rfl, rfl, rfl, hi⟩ := hrel
  by_cases hlt : i < A.length
  · obtain ⟨v, hv⟩ : ∃ v, A[i]? = some v := ⟨_, List.getElem?_eq_getElem hlt⟩
    have hne : A ≠ [] := fun h => by rw [h] at hlt; simp at hlt
    obtain ⟨g1, o1, rfl⟩ := Vals.some_of HA.out hne
    obtain ⟨g2, o2, rfl⟩ := Vals.some_of HB.out hne
    clear hne
    obtain ⟨hg1, b0, b1, b2, b3, b4⟩ := Vals.at_ HA.out hv
    obtain ⟨hg2, d0, d1, d2, d3, d4⟩ := Vals.at_ HB.out hv
    have NE := fun W => neqs_run W v
    clear hv
    go_wp2
    go_quiet (fail)
    go_wp2
    go_roundg (A.length - (i + 1))
    case measure => omega
    case rel => exact ⟨i + 1, _, rfl, by push_cast; rfl, by first | rfl | exact World.drewN_drewN .. | simp, by omega⟩
  · go_wp2
    go_ret
    exact ⟨rfl, bdn (Below.refl _ _) _⟩
set_option maxRecDepth 100000 in
set_option maxHeartbeats 2000000 in
theorem wpList_append_vals {w : World} {ops : Array Oper} {rest : List Oper} {o : Oper} {a : Act} {Q : Exit → Act → World → Prop} (hgd : o.guard = none) (s x : Operand)
    (ho : o.op = .call { callee := .builtin .append, args := #[s, x], argTypes := #[22, 22] }) (base : Nat) (v : Value) (n : Nat) (xs : List Value) (hs : a.eval s = v) (hown : w.ownsRow base 30 5 v n xs)
    (sv : Value) (A : List V) (hx : a.eval x = sv) (hA : Vals w sv A) (hl : n + A.length ≤ 1000000) (hbase : base ≤ w.heap.size)
    (h : ∀ so cap w', w'.ownsRow base 30 5 (.slice so (n + A.length) cap) (n + A.length) (xs ++ rowV A) → w.grownBy w' v.ownBlock → wpList Tryz.prog ops Q rest (a.put o.dst (.slice so (n + A.length) cap)) w') :
    wpList Tryz.prog ops Q (o :: rest) a w := by
  obtain ⟨i5, hi5, hi5a, hi5b, hi5c⟩ := info_parts info25p
  obtain ⟨so, cap, rfl, hcap, hnone, hc⟩ := hA
  rcases so with _ | ad
  · have hnil : A = [] := by
      rcases hc with hc | ⟨g, o, h, _⟩
      · exact hc
      · cases h
    subst hnil
    obtain rfl := hnone rfl
    refine wpList_append_own_none hgd s x 22 ho base 30 i5 5 Tryz.underlying22 hi5 v n xs hs hown hx ?_
    obtain ⟨so2, cap2, rfl⟩ := row_shape hown
    refine h so2 cap2 w ?_ (grown_refl _ _)
    rw [show rowV [] = [] from rfl, List.append_nil]
    exact hown
  · have hcell : ∀ j u, (rowV A)[j]? = some u → w.cell? (ad.add j) = some u := by
      intro j u hj
      rcases hc with rfl | ⟨g, o, h, _, hq⟩
      · simp [rowV] at hj
      · injection h with h
        subst h
        rw [add_none]
        exact hq j u hj
    refine wpList_append_own_at _ hgd s x 22 ho base 30 i5 _ 5 48 Tryz.underlying22 hi5 hi5a hi5b hi5c rfl (by decide) v n xs hs hown ad A.length cap (rowV A) hx (rowV_len A) hcell (fun u hu => rowV_one u hu) (by unfold maxLen; omega) (by omega) hbase ?_
    intro v' w' hown' hgrow _ _
    obtain ⟨so', cap', rfl⟩ := row_shape hown'
    exact h so' cap' w' hown' hgrow
end Go.Proofs.YtalfoihffnlelaaGreatDoor
