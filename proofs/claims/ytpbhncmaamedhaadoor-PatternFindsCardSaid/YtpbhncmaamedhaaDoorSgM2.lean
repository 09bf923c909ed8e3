import Derived.Test.YtpbhncmaamedhaaDoorSgM
namespace Go.Proofs.YtpbhncmaamedhaaDoor
open Go.RowKit Go.Proofs.Lexi

def PairPost2 (w : World) (c : Nat) (e : Ending) (w' : World) : Prop :=
  ∃ v, e = .returned (.tuple #[v, .bool (pairS c).isSome]) ∧ (v = .nilFunc ∨ ∃ f caps, v = .func (.func f) #[] caps) ∧ Below w.heap.size w w' ∧ ∀ S, pairS c = some S → IsSet w' w.heap.size w'.heap.size v S
theorem pair_fin1 (w : World) (c : Nat) (h : (!isLetter c && !isDigit c) = true) : PairPost2 w c (.returned (.tuple #[.func (.func 86) #[] #[.pointer (some ⟨w.heap.size, 0, none⟩)], .bool true])) (w.alloc (.cells #[.int .u8 c] 5)) := by
  have e : pairS c = some (fun b => b == c) := by simp only [pairS, h, if_true]
  refine ⟨_, by rw [e]; rfl, .inr ⟨_, _, rfl⟩, (Below.refl _ _).alloc (Nat.le_refl _) _, fun S hS W hW => ?_⟩
  rw [e] at hS; injection hS with hS; subst hS
  refine ⟨86, _, rfl, fun _ _ => by kernel_rfl, fun b _ => ?_⟩
  exact pair1_c w.heap.size b c W (by
    have := hW w.heap.size (Nat.le_refl _) (by simp)
    rw [heap_new] at this
    rw [cell_of_heap this]; rfl)
theorem pair_fin2 (w : World) (c : Nat) (h : (!isLetter c && !isDigit c) = false) (hu : isUpper c = true) (w' : World) (hw : w' = (w.alloc (.cells #[.int .u8 c] 5)).alloc (.cells #[classV (c + 32)] 84)) :
    PairPost2 w c (.returned (.tuple #[.func (.func 88) #[] #[.pointer (some ⟨w.heap.size + 1, 0, none⟩)], .bool (classS (c + 32)).isSome])) w' := by
  subst hw
  have e : pairS c = (classS (c + 32)).map (fun S b => !S b) := by simp only [pairS, h, hu, if_true]; rfl
  refine ⟨_, by rw [e, Option.isSome_map], .inr ⟨_, _, rfl⟩, ((Below.refl _ _).alloc (Nat.le_refl _) _).alloc (by simp) _, fun S hS W hW => ?_⟩
  rw [e] at hS
  obtain ⟨S0, h0, rfl⟩ := Option.map_eq_some_iff.1 hS
  refine ⟨88, _, rfl, fun _ _ => by kernel_rfl, fun b hb => ?_⟩
  have h1 : W.cell? ⟨w.heap.size + 1, 0, none⟩ = some (classV (c + 32)) := by
    have := hW (w.heap.size + 1) (by omega) (by simp)
    have h2 := heap_new (w.alloc (.cells #[.int .u8 c] 5)) (.cells #[classV (c + 32)] 84)
    have hs : (w.alloc (.cells #[.int .u8 c] 5)).heap.size = w.heap.size + 1 := by simp
    rw [hs] at h2
    rw [h2] at this
    rw [cell_of_heap this]; rfl
  exact pair2_c (w.heap.size + 1) b hb (classV (c + 32)) S0 W h1 (class_pred _ _ h0 W)
theorem pair_fin3 (w : World) (c : Nat) (h : (!isLetter c && !isDigit c) = false) (hu : isUpper c = false) :
    PairPost2 w c (.returned (.tuple #[classV c, .bool (classS c).isSome])) (w.alloc (.cells #[.int .u8 c] 5)) := by
  have e : pairS c = classS c := by simp only [pairS, h, hu]; rfl
  refine ⟨_, by rw [e], (classV_cases c).elim (fun h => .inr ⟨_, _, h⟩) .inl, (Below.refl _ _).alloc (Nat.le_refl _) _, fun S hS W hW => ?_⟩
  rw [e] at hS
  exact class_pred _ _ hS W

set_option maxHeartbeats 800000 in
theorem pair_c2 (c : Nat) (hc : c < 256) (w : World) : Calls Tryd.prog 64 #[.int .u8 c] w (PairPost2 w c) := by
  have hL : ∀ b, isLetter c = b → Hid (isLetter c = b) := fun _ h => h
  cases hl : isLetter c with
  | false =>
    cases hd : isDigit c with
    | false =>
      have E := Lib.hid (pair_fin1 w c (by simp [hl, hd]))
      have HL := Lib.hid hl
      have HD := Lib.hid hd
      clear hl hd hL
      go_enter Tryd.func64, Tryd.ntmps64
      go_wp2_with (first | (go_at_call 42; refine (letter_c _ _).mono ?_; rintro e w' ⟨rfl, rfl⟩; rw [HL.out]) | (go_at_call 43; refine (digit_c _ _).mono ?_; rintro e w' ⟨rfl, rfl⟩; rw [HD.out]))
      go_ret2
      exact E.out
    | true =>
      have E := Lib.hid (pair_fin3 w c (by simp [hl, hd]) (by revert hl hd; simp [isLetter, isDigit, isUpper]; omega))
      have hq : c ≤ 57 := by revert hd; simp [isDigit]
      have HL := Lib.hid hl
      have HD := Lib.hid hd
      clear hl hd hL
      go_enter Tryd.func64, Tryd.ntmps64
      go_wp2_with (first | (go_at_call 42; refine (letter_c _ _).mono ?_; rintro e w' ⟨rfl, rfl⟩; rw [HL.out]) | (go_at_call 43; refine (digit_c _ _).mono ?_; rintro e w' ⟨rfl, rfl⟩; rw [HD.out]) | (go_at_call 87; refine (class_c _ _).mono ?_; rintro e w' ⟨rfl, rfl⟩))
      go_ret2
      exact E.out
  | true =>
    cases hu : isUpper c with
    | true =>
      have E := Lib.hid (pair_fin2 w c (by simp [hl]) hu _ rfl)
      have h1 : 65 ≤ c := by revert hu; simp [isUpper]; omega
      have h2 : c ≤ 90 := by revert hu; simp [isUpper]
      have HL := Lib.hid hl
      clear hl hu hL
      have hcl := class_c (c + 32)
      rcases classV_cases (c + 32) with hv | hv
      all_goals
        rw [hv] at E hcl
        have HC := Lib.hid hcl
        clear hcl hv
        go_enter Tryd.func64, Tryd.ntmps64
        go_wp2_with (first | (go_at_call 42; refine (letter_c _ _).mono ?_; rintro e w' ⟨rfl, rfl⟩; rw [HL.out]))
        rw [show ((c : Int) + 97 - 65) = ((c + 32 : Nat) : Int) from by omega]
        refine (HC.out _).mono ?_
        rintro e w' ⟨rfl, rfl⟩
        go_wp2
        go_ret2
        exact E.out
    | false =>
      have E := Lib.hid (pair_fin3 w c (by simp [hl]) hu)
      have h1 : 97 ≤ c := by revert hl hu; simp [isLetter, isUpper]; omega
      have HL := Lib.hid hl
      clear hl hu hL
      go_enter Tryd.func64, Tryd.ntmps64
      go_wp2_with (first | (go_at_call 42; refine (letter_c _ _).mono ?_; rintro e w' ⟨rfl, rfl⟩; rw [HL.out]) | (go_at_call 87; refine (class_c _ _).mono ?_; rintro e w' ⟨rfl, rfl⟩))
      go_ret2
      exact E.out
end Go.Proofs.YtpbhncmaamedhaaDoor
