import Derived.Test.YtpbcmlnjiocmoaaGreatDoorRKx
set_option linter.unusedVariables false
set_option linter.unusedSimpArgs false
set_option maxRecDepth 100000
set_option maxHeartbeats 2000000
namespace Go.Proofs.YtpbcmlnjiocmoaaGreatDoorR
open Go.RowKit Go.Proofs.Lexi
set_option maxRecDepth 100000 in
set_option maxHeartbeats 2000000 in
theorem lvalues_true (w : World) (so sp : Option Addr) (n m cap cap2 : Nat) (A : List V) (hA : Vals w (.slice so n cap) A) (hB : Vals w (.slice sp m cap2) A) (hl : A.length ≤ 1000) :
    Calls Tryz.prog 17 #[.slice so n cap, .slice sp m cap2] w (BoolPost w true) := by
  have hn : n = A.length := by obtain ⟨_, _, e, _⟩ := hA; injection e
  have hm : m = A.length := by obtain ⟨_, _, e, _⟩ := hB; injection e
  subst hn
  subst hm
  have HA := Lib.hid hA
  have HB := Lib.hid hB
  clear hA hB
  go_enter Tryz.func17, Tryz.ntmps17
  go_wp2
  go_loopg [5] A.length (fun gg iv wr => ∃ i k : Nat, gg = A.length - i ∧ iv = .int .i64 (i : Int) ∧ wr = w.drewN k ∧ i ≤ A.length)
  case atStart => exact ⟨0, 0, rfl, rfl, rfl, Nat.zero_le _⟩
  obtain ⟨i, k, rfl, rfl, rfl, hi⟩ := hrel
  by_cases hlt : i < A.length
  · obtain ⟨v, hv⟩ : ∃ v, A[i]? = some v := ⟨_, List.getElem?_eq_getElem hlt⟩
    have hne : A ≠ [] := fun h => by rw [h] at hlt; simp at hlt
    obtain ⟨g1, o1, rfl⟩ := Vals.some_of HA.out hne
    obtain ⟨g2, o2, rfl⟩ := Vals.some_of HB.out hne
    clear hne
    obtain ⟨hg1, b0, b1, b2, b3, b4⟩ := Vals.at_ HA.out hv
    obtain ⟨hg2, d0, d1, d2, d3, d4⟩ := Vals.at_ HB.out hv
    have NE := fun W => neqs_run W v
    clear hv
    go_wp2
    go_quiet (fail)
    go_wp2
    go_roundg (A.length - (i + 1))
    case measure => omega
    case rel => exact ⟨i + 1, _, rfl, by push_cast; rfl, by first | rfl | exact World.drewN_drewN .. | simp, by omega⟩
  · go_wp2
    go_ret
    exact ⟨rfl, bdn (Below.refl _ _) _⟩
end Go.Proofs.YtpbcmlnjiocmoaaGreatDoorR
