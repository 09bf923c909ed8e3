import Derived.Test.YtpbhncmaamedhaaDoorPair
namespace Go.Proofs.YtpbhncmaamedhaaDoor
open Go.RowKit Go.Proofs.Lexi

/-! The reference's small functions: digit, lower, upper, member. -/
set_option maxHeartbeats 400000 in
theorem rdigit_c (c : Nat) (w : World) : Calls Tryd.prog 40 #[.int .u8 c] w fun e w' => e = .returned (.bool (isDigit c)) ∧ w = w' := by
  go_enter Tryd.func40, Tryd.ntmps40
  go_wp2
  all_goals (go_ret; exact ⟨ret_bool (by rw [Bool.eq_iff_iff]; simp [isDigit]; omega), rfl⟩)
set_option maxHeartbeats 400000 in
theorem rlower_c (c : Nat) (w : World) : Calls Tryd.prog 45 #[.int .u8 c] w fun e w' => e = .returned (.bool (isLower c)) ∧ w = w' := by
  go_enter Tryd.func45, Tryd.ntmps45
  go_wp2
  all_goals (go_ret; exact ⟨ret_bool (by rw [Bool.eq_iff_iff]; simp [isLower]; omega), rfl⟩)
set_option maxHeartbeats 400000 in
theorem rupper_c (c : Nat) (w : World) : Calls Tryd.prog 46 #[.int .u8 c] w fun e w' => e = .returned (.bool (isUpper c)) ∧ w = w' := by
  go_enter Tryd.func46, Tryd.ntmps46
  go_wp2
  all_goals (go_ret; exact ⟨ret_bool (by rw [Bool.eq_iff_iff]; simp [isUpper]; omega), rfl⟩)
def memB (k c : Nat) : Bool := match classS k with | some S => S c | none => false
def MemPost (w : World) (k c : Nat) (e : Ending) (w' : World) : Prop := e = .returned (.tuple #[.bool (memB k c), .bool (classS k).isSome]) ∧ w = w'
theorem mem_ret {w : World} {k c : Nat} {a b : Bool} (h1 : a = memB k c) (h2 : b = (classS k).isSome) : MemPost w k c (.returned (.tuple #[.bool a, .bool b])) w := by
  subst h1 h2; exact ⟨rfl, rfl⟩
theorem mem_none {w : World} {k c : Nat} (h : classS k = none) : MemPost w k c (.returned (.tuple #[.bool false, .bool false])) w := by
  refine mem_ret ?_ ?_
  · unfold memB; rw [h]
  · rw [h]; rfl
set_option maxHeartbeats 4000000 in
theorem member_nat (k c : Nat) (w : World) : Calls Tryd.prog 90 #[.int .u8 k, .int .u8 c] w (MemPost w k c) := by
  by_cases hk : k = 97 ∨ k = 100 ∨ k = 108 ∨ k = 117 ∨ k = 119 ∨ k = 115 ∨ k = 120 ∨ k = 112 ∨ k = 99
  · rcases hk with rfl | rfl | rfl | rfl | rfl | rfl | rfl | rfl | rfl
    all_goals
      go_enter Tryd.func90, Tryd.ntmps90
      go_wp2_with (first | (go_at_call 45; refine (rlower_c _ _).mono ?_; rintro e w' ⟨rfl, rfl⟩) | (go_at_call 46; refine (rupper_c _ _).mono ?_; rintro e w' ⟨rfl, rfl⟩) | (go_at_call 40; refine (rdigit_c _ _).mono ?_; rintro e w' ⟨rfl, rfl⟩))
      all_goals
        go_ret2
        refine mem_ret ?_ rfl
        simp only [memB, classS, reduceIte, Nat.reduceEqDiff]
        try (simp_all [isLower, isUpper, isDigit, isLetter, isSpace, isHex, isPunct, isCtl]; done)
        try (rw [Bool.eq_iff_iff]; simp_all [isLower, isUpper, isDigit, isLetter, isSpace, isHex, isPunct, isCtl] <;> omega)
  · have hn : classS k = none := by unfold classS; simp only [not_or] at hk; simp [hk]
    have t1 : ((k : Int) == 97) = false := by rw [beq_eq_false_iff_ne]; omega
    have t2 : ((k : Int) == 100) = false := by rw [beq_eq_false_iff_ne]; omega
    have t3 : ((k : Int) == 108) = false := by rw [beq_eq_false_iff_ne]; omega
    have t4 : ((k : Int) == 117) = false := by rw [beq_eq_false_iff_ne]; omega
    have t5 : ((k : Int) == 119) = false := by rw [beq_eq_false_iff_ne]; omega
    have t6 : ((k : Int) == 115) = false := by rw [beq_eq_false_iff_ne]; omega
    have t7 : ((k : Int) == 120) = false := by rw [beq_eq_false_iff_ne]; omega
    have t8 : ((k : Int) == 112) = false := by rw [beq_eq_false_iff_ne]; omega
    have t9 : ((k : Int) == 99) = false := by rw [beq_eq_false_iff_ne]; omega
    have HN := Lib.hid hn
    clear hn hk
    go_enter Tryd.func90, Tryd.ntmps90
    go_wp2_with (first | (go_at_call 45; refine (rlower_c _ _).mono ?_; rintro e w' ⟨rfl, rfl⟩) | (go_at_call 46; refine (rupper_c _ _).mono ?_; rintro e w' ⟨rfl, rfl⟩) | (go_at_call 40; refine (rdigit_c _ _).mono ?_; rintro e w' ⟨rfl, rfl⟩))
    all_goals
      go_ret2
      exact mem_none HN.out
theorem member_c (a b : Int) (k c : Nat) (ha : a = k) (hb : b = c) (w : World) : Calls Tryd.prog 90 #[.int .u8 a, .int .u8 b] w (MemPost w k c) := by
  subst ha hb; exact member_nat k c w
end Go.Proofs.YtpbhncmaamedhaaDoor
