import Derived.Test.YtpbhncmaamedhaaDoorProg
import Derived.Test.YtpbhncmaamedhaaDoorLexB
import Derived.WalkKit
import Derived.KernelRfl
import Derived.Lib.Hide
namespace Go.Proofs.YtpbhncmaamedhaaDoor
open Go.RowKit Go.Proofs.Lexi

def isLetter (c : Nat) : Bool := (97 ≤ c && c ≤ 122) || (65 ≤ c && c ≤ 90)
def isDigit (c : Nat) : Bool := 48 ≤ c && c ≤ 57
def isPunct (c : Nat) : Bool := (33 ≤ c && c ≤ 47) || (58 ≤ c && c ≤ 64) || (91 ≤ c && c ≤ 96) || (123 ≤ c && c ≤ 126)
def isHex (c : Nat) : Bool := isDigit c || (97 ≤ c && c ≤ 102) || (65 ≤ c && c ≤ 70)
def isLower (c : Nat) : Bool := 97 ≤ c && c ≤ 122
def isUpper (c : Nat) : Bool := 65 ≤ c && c ≤ 90
def isSpace (c : Nat) : Bool := (9 ≤ c && c ≤ 13) || c == 32
def isCtl (c : Nat) : Bool := c < 32 || c == 127
theorem ret_bool {a b : Bool} (h : a = b) : Ending.returned (.bool a) = .returned (.bool b) := by rw [h]

set_option maxHeartbeats 400000 in
theorem letter_c (c : Nat) (w : World) : Calls Tryd.prog 42 #[.int .u8 c] w fun e w' => e = .returned (.bool (isLetter c)) ∧ w = w' := by
  go_enter Tryd.func42, Tryd.ntmps42
  go_wp2
  all_goals (go_ret; exact ⟨ret_bool (by rw [Bool.eq_iff_iff]; simp [isLetter]; omega), rfl⟩)
set_option maxHeartbeats 400000 in
theorem digit_c (c : Nat) (w : World) : Calls Tryd.prog 43 #[.int .u8 c] w fun e w' => e = .returned (.bool (isDigit c)) ∧ w = w' := by
  go_enter Tryd.func43, Tryd.ntmps43
  go_wp2
  all_goals (go_ret; exact ⟨ret_bool (by rw [Bool.eq_iff_iff]; simp [isDigit]; omega), rfl⟩)
set_option maxHeartbeats 400000 in
theorem punct_c (c : Nat) (w : World) : Calls Tryd.prog 101 #[.int .u8 c] w fun e w' => e = .returned (.bool (isPunct c)) ∧ w = w' := by
  go_enter Tryd.func101, Tryd.ntmps101
  go_wp2
  all_goals (go_ret; exact ⟨ret_bool (by rw [Bool.eq_iff_iff]; simp [isPunct]; omega), rfl⟩)
set_option maxHeartbeats 400000 in
theorem hex_c (c : Nat) (w : World) : Calls Tryd.prog 100 #[.int .u8 c] w fun e w' => e = .returned (.bool (isHex c)) ∧ w = w' := by
  go_enter Tryd.func100, Tryd.ntmps100
  go_wp2_with (go_at_call 43; refine (digit_c _ _).mono ?_; rintro e w' ⟨rfl, rfl⟩)
  all_goals (go_ret; exact ⟨ret_bool (by rw [Bool.eq_iff_iff]; simp_all [isHex, isDigit] <;> omega), rfl⟩)
set_option maxHeartbeats 400000 in
theorem low_c (c : Nat) (w : World) : Calls Tryd.prog 96 #[.int .u8 c] w fun e w' => e = .returned (.bool (isLower c)) ∧ w = w' := by
  go_enter Tryd.func96, Tryd.ntmps96
  go_wp2
  all_goals (go_ret; exact ⟨ret_bool (by rw [Bool.eq_iff_iff]; simp [isLower]; omega), rfl⟩)
set_option maxHeartbeats 400000 in
theorem space_c (c : Nat) (w : World) : Calls Tryd.prog 97 #[.int .u8 c] w fun e w' => e = .returned (.bool (isSpace c)) ∧ w = w' := by
  go_enter Tryd.func97, Tryd.ntmps97
  go_wp2
  all_goals (go_ret; exact ⟨ret_bool (by rw [Bool.eq_iff_iff]; simp [isSpace]; omega), rfl⟩)
set_option maxHeartbeats 400000 in
theorem up_c (c : Nat) (w : World) : Calls Tryd.prog 98 #[.int .u8 c] w fun e w' => e = .returned (.bool (isUpper c)) ∧ w = w' := by
  go_enter Tryd.func98, Tryd.ntmps98
  go_wp2
  all_goals (go_ret; exact ⟨ret_bool (by rw [Bool.eq_iff_iff]; simp [isUpper]; omega), rfl⟩)
set_option maxHeartbeats 400000 in
theorem alnum_c (c : Nat) (w : World) : Calls Tryd.prog 99 #[.int .u8 c] w fun e w' => e = .returned (.bool (isLetter c || isDigit c)) ∧ w = w' := by
  go_enter Tryd.func99, Tryd.ntmps99
  go_wp2_with (first | (go_at_call 42; refine (letter_c _ _).mono ?_; rintro e w' ⟨rfl, rfl⟩) | (go_at_call 43; refine (digit_c _ _).mono ?_; rintro e w' ⟨rfl, rfl⟩))
  all_goals (go_ret; exact ⟨ret_bool (by simp [*]), rfl⟩)
set_option maxHeartbeats 400000 in
theorem ctl_c (c : Nat) (w : World) : Calls Tryd.prog 102 #[.int .u8 c] w fun e w' => e = .returned (.bool (isCtl c)) ∧ w = w' := by
  go_enter Tryd.func102, Tryd.ntmps102
  go_wp2
  all_goals (go_ret; exact ⟨ret_bool (by rw [Bool.eq_iff_iff]; simp [isCtl]; omega), rfl⟩)

def classS (c : Nat) : Option (Nat → Bool) :=
  if c = 97 then some isLetter else if c = 100 then some isDigit else if c = 108 then some isLower else if c = 115 then some isSpace else if c = 117 then some isUpper
  else if c = 119 then some (fun c => isLetter c || isDigit c) else if c = 120 then some isHex else if c = 112 then some isPunct else if c = 99 then some isCtl else none
def classF (c : Nat) : Nat :=
  if c = 97 then 42 else if c = 100 then 43 else if c = 108 then 96 else if c = 115 then 97 else if c = 117 then 98
  else if c = 119 then 99 else if c = 120 then 100 else if c = 112 then 101 else if c = 99 then 102 else 0
def classV (c : Nat) : Value := if (classS c).isSome then .func (.func (classF c)) #[] #[] else .nilFunc
/-- v is a function value that answers, of each byte c, S c, and leaves the world W as it is. -/
def PredOf (W : World) (v : Value) (S : Nat → Bool) : Prop :=
  ∃ f caps, v = .func (.func f) #[] caps ∧ (∀ args w, (callFunc f args).run Tryd.prog w = .ok (.enter f args) w) ∧ ∀ c : Nat, c < 256 → Calls Tryd.prog f (#[.int .u8 c] ++ caps) W fun e w' => e = .returned (.bool (S c)) ∧ W = w'
theorem class_pred (c : Nat) (S : Nat → Bool) (h : classS c = some S) (W : World) : PredOf W (classV c) S := by
  refine ⟨classF c, #[], by simp [classV, h], ?_, fun b _ => ?_⟩
  · unfold classS at h
    unfold classF
    repeat' (split at h)
    all_goals first | (cases h; done) | skip
    all_goals (simp only [*, if_true]; intro args w; kernel_rfl)
  unfold classS at h
  unfold classF
  simp only [Array.append_empty]
  repeat' (split at h)
  all_goals first | (cases h; done) | skip
  all_goals injection h with h; subst h; simp only [*, if_true]
  · exact letter_c _ _
  · exact digit_c _ _
  · exact low_c _ _
  · exact space_c _ _
  · exact up_c _ _
  · exact alnum_c _ _
  · exact hex_c _ _
  · exact punct_c _ _
  · exact ctl_c _ _
set_option maxHeartbeats 400000 in
theorem class_c (c : Nat) (w : World) : Calls Tryd.prog 87 #[.int .u8 c] w fun e w' => e = .returned (.tuple #[classV c, .bool (classS c).isSome]) ∧ w = w' := by
  go_enter Tryd.func87, Tryd.ntmps87
  go_wp2
  all_goals
    go_ret2
    refine ⟨?_, rfl⟩
    have e : ∀ k : Nat, ((c : Int) == (k : Int)) = (c == k) := fun k => by rw [Bool.eq_iff_iff]; simp; omega
    simp only [show (97 : Int) = ((97 : Nat) : Int) from rfl, show (100 : Int) = ((100 : Nat) : Int) from rfl, show (108 : Int) = ((108 : Nat) : Int) from rfl, show (115 : Int) = ((115 : Nat) : Int) from rfl, show (117 : Int) = ((117 : Nat) : Int) from rfl, show (119 : Int) = ((119 : Nat) : Int) from rfl, show (120 : Int) = ((120 : Nat) : Int) from rfl, show (112 : Int) = ((112 : Nat) : Int) from rfl, show (99 : Int) = ((99 : Nat) : Int) from rfl, e] at *
    simp_all [classV, classS, classF]
end Go.Proofs.YtpbhncmaamedhaaDoor
