import Derived.Test.YtpbhncmaamedhaaDoorPair
import Derived.Test.YtpbhncmaamedhaaDoorSet
import Derived.Deep.LoopGhost
namespace Go.Proofs.YtpbhncmaamedhaaDoor
open Go.RowKit Go.Proofs.Lexi

/-! The reference's small functions: digit, lower, upper, member. -/
set_option maxHeartbeats 400000 in
theorem rdigit_c (c : Nat) (w : World) : Calls Tryd.prog 40 #[.int .u8 c] w fun e w' => e = .returned (.bool (isDigit c)) ∧ w = w' := by
  go_enter Tryd.func40, Tryd.ntmps40
  go_wp2
  all_goals (go_ret; exact ⟨ret_bool (by rw [Bool.eq_iff_iff]; simp [isDigit]; omega), rfl⟩)
set_option maxHeartbeats 400000 in
theorem rlower_c (c : Nat) (w : World) : Calls Tryd.prog 45 #[.int .u8 c] w fun e w' => e = .returned (.bool (isLower c)) ∧ w = w' := by
  go_enter Tryd.func45, Tryd.ntmps45
  go_wp2
  all_goals (go_ret; exact ⟨ret_bool (by rw [Bool.eq_iff_iff]; simp [isLower]; omega), rfl⟩)
set_option maxHeartbeats 400000 in
theorem rupper_c (c : Nat) (w : World) : Calls Tryd.prog 46 #[.int .u8 c] w fun e w' => e = .returned (.bool (isUpper c)) ∧ w = w' := by
  go_enter Tryd.func46, Tryd.ntmps46
  go_wp2
  all_goals (go_ret; exact ⟨ret_bool (by rw [Bool.eq_iff_iff]; simp [isUpper]; omega), rfl⟩)
def memB (k c : Nat) : Bool := match classS k with | some S => S c | none => false
def MemPost (w : World) (k c : Nat) (e : Ending) (w' : World) : Prop := e = .returned (.tuple #[.bool (memB k c), .bool (classS k).isSome]) ∧ w = w'
theorem mem_ret {w : World} {k c : Nat} {a b : Bool} (h1 : a = memB k c) (h2 : b = (classS k).isSome) : MemPost w k c (.returned (.tuple #[.bool a, .bool b])) w := by
  subst h1 h2; exact ⟨rfl, rfl⟩
theorem mem_none {w : World} {k c : Nat} (h : classS k = none) : MemPost w k c (.returned (.tuple #[.bool false, .bool false])) w := by
  refine mem_ret ?_ ?_
  · unfold memB; rw [h]
  · rw [h]; rfl
set_option maxHeartbeats 4000000 in
theorem member_nat (k c : Nat) (w : World) : Calls Tryd.prog 90 #[.int .u8 k, .int .u8 c] w (MemPost w k c) := by
  by_cases hk : k = 97 ∨ k = 100 ∨ k = 108 ∨ k = 117 ∨ k = 119 ∨ k = 115 ∨ k = 120 ∨ k = 112 ∨ k = 99
  · rcases hk with rfl | rfl | rfl | rfl | rfl | rfl | rfl | rfl | rfl
    all_goals
      go_enter Tryd.func90, Tryd.ntmps90
      go_wp2_with (first | (go_at_call 45; refine (rlower_c _ _).mono ?_; rintro e w' ⟨rfl, rfl⟩) | (go_at_call 46; refine (rupper_c _ _).mono ?_; rintro e w' ⟨rfl, rfl⟩) | (go_at_call 40; refine (rdigit_c _ _).mono ?_; rintro e w' ⟨rfl, rfl⟩))
      all_goals
        go_ret2
        refine mem_ret ?_ rfl
        simp only [memB, classS, reduceIte, Nat.reduceEqDiff]
        try (simp_all [isLower, isUpper, isDigit, isLetter, isSpace, isHex, isPunct, isCtl]; done)
        try (rw [Bool.eq_iff_iff]; simp_all [isLower, isUpper, isDigit, isLetter, isSpace, isHex, isPunct, isCtl] <;> omega)
  · have hn : classS k = none := by unfold classS; simp only [not_or] at hk; simp [hk]
    have t1 : ((k : Int) == 97) = false := by rw [beq_eq_false_iff_ne]; omega
    have t2 : ((k : Int) == 100) = false := by rw [beq_eq_false_iff_ne]; omega
    have t3 : ((k : Int) == 108) = false := by rw [beq_eq_false_iff_ne]; omega
    have t4 : ((k : Int) == 117) = false := by rw [beq_eq_false_iff_ne]; omega
    have t5 : ((k : Int) == 119) = false := by rw [beq_eq_false_iff_ne]; omega
    have t6 : ((k : Int) == 115) = false := by rw [beq_eq_false_iff_ne]; omega
    have t7 : ((k : Int) == 120) = false := by rw [beq_eq_false_iff_ne]; omega
    have t8 : ((k : Int) == 112) = false := by rw [beq_eq_false_iff_ne]; omega
    have t9 : ((k : Int) == 99) = false := by rw [beq_eq_false_iff_ne]; omega
    have HN := Lib.hid hn
    clear hn hk
    go_enter Tryd.func90, Tryd.ntmps90
    go_wp2_with (first | (go_at_call 45; refine (rlower_c _ _).mono ?_; rintro e w' ⟨rfl, rfl⟩) | (go_at_call 46; refine (rupper_c _ _).mono ?_; rintro e w' ⟨rfl, rfl⟩) | (go_at_call 40; refine (rdigit_c _ _).mono ?_; rintro e w' ⟨rfl, rfl⟩))
    all_goals
      go_ret2
      exact mem_none HN.out
theorem member_c (a b : Int) (k c : Nat) (ha : a = k) (hb : b = c) (w : World) : Calls Tryd.prog 90 #[.int .u8 a, .int .u8 b] w (MemPost w k c) := by
  subst ha hb; exact member_nat k c w
end Go.Proofs.YtpbhncmaamedhaaDoor

namespace Go.Proofs.YtpbhncmaamedhaaDoor
open Go.RowKit Go.Proofs.Lexi

/-! The reference's sets: a row of 256 marks. -/
def setC (S : Nat → Bool) : Array Value := (Array.range 256).map fun j => .bool (S j)
theorem setC_size (S : Nat → Bool) : (setC S).size = 256 := by simp [setC]
theorem setC_get (S : Nat → Bool) (j : Nat) (h : j < 256) : (setC S)[j]? = some (.bool (S j)) := by simp [setC, h]
def setAt (S : Nat → Bool) (j : Nat) (v : Bool) : Nat → Bool := fun i => if i = j then v else S i
theorem setC_set (S : Nat → Bool) (j : Nat) (v : Bool) : (setC S).setIfInBounds j (.bool v) = setC (setAt S j v) := by
  apply Array.ext
  · simp [setC]
  · intro i h1 h2
    have h3 : i < 256 := by simpa [setC] using h2
    by_cases hij : j = i
    · subst hij; simp [setC, setAt]
    · rw [Array.getElem_setIfInBounds_ne (by rw [setC_size]; exact h3) hij]
      simp [setC, setAt, Ne.symm hij]
def RSet (w : World) (b : Nat) (S : Nat → Bool) : Prop := w.heap[b]? = some (.cells (setC S) 4 (0, 0))
theorem RSet.cell {w : World} {b : Nat} {S : Nat → Bool} (h : RSet w b S) {j : Nat} (hj : j < 256) : w.cell? ⟨b, j, none⟩ = some (.bool (S j)) := by rw [cell_of_heap h, setC_get S j hj]
theorem RSet.fz {w : World} {b : Nat} {S : Nat → Bool} (h : RSet w b S) (j : Nat) : w.frozen? ⟨b, j, none⟩ = false := by simp [World.frozen?, show w.heap[b]? = _ from h]
theorem RSet.set {w : World} {b : Nat} {S : Nat → Bool} (h : RSet w b S) (j : Nat) (v : Bool) : RSet (w.setCell ⟨b, j, none⟩ (.bool v)) b (setAt S j v) := by
  unfold RSet
  rw [heap_setCell_same h, setC_set S j v]
theorem RSet.congr {w : World} {b : Nat} {S S' : Nat → Bool} (h : RSet w b S) (e : ∀ j, j < 256 → S j = S' j) : RSet w b S' := by
  unfold RSet at *
  rw [h]
  congr 2
  apply Array.ext
  · simp [setC]
  · intro i h1 h2
    simp only [setC, Array.size_map, Array.size_range] at h2
    simp [setC, e i h2]
theorem RSet.ext {w w' : World} {b : Nat} {S : Nat → Bool} (h : RSet w b S) (hb : w'.heap[b]? = w.heap[b]?) : RSet w' b S := hb.trans h
theorem RSet.lt {w : World} {b : Nat} {S : Nat → Bool} (h : RSet w b S) : b < w.heap.size := (Array.getElem?_eq_some_iff.1 h).1
theorem grown_set (w : World) (b j : Nat) (v : Value) : w.grownBy (w.setCell ⟨b, j, none⟩ v) (some b) := ⟨rfl, rfl, rfl, by simp, fun k _ hne => Below.heap_setCell _ _ _ _ (fun e => hne (by rw [e]))⟩
theorem grown_trans {w w1 w2 : World} {row : Option Nat} (h1 : w.grownBy w1 row) (h2 : w1.grownBy w2 row) : w.grownBy w2 row :=
  ⟨h2.os.trans h1.os, h2.tape.trans h1.tape, h2.output.trans h1.output, Nat.le_trans h1.size h2.size, fun k hk hne => (h2.block k (Nat.lt_of_lt_of_le hk h1.size) hne).trans (h1.block k hk hne)⟩

/-! (68) pair. -/
def RPairPost (w : World) (b : Nat) (S : Nat → Bool) (d : Nat) (e : Ending) (w' : World) : Prop := e = .returned (.bool (pairS d).isSome) ∧ w.grownBy w' (some b) ∧ ∀ T, pairS d = some T → RSet w' b (fun j => S j || T j)
theorem rpair_no {w : World} {b : Nat} {S : Nat → Bool} {d : Nat} (h : pairS d = none) : RPairPost w b S d (.returned (.bool false)) w :=
  ⟨by rw [h]; rfl, World.grownBy.refl _ _, fun T hT => by rw [h] at hT; cases hT⟩
def PairRel (w : World) (b : Nat) (S T : Nat → Bool) (gg : Nat) (v : Value) (wr : World) : Prop :=
  ∃ k : Nat, gg = 256 - k ∧ v = .int .i64 (k : Int) ∧ k ≤ 256 ∧ w.grownBy wr (some b) ∧ RSet wr b (fun j => S j || (decide (j < k) && T j))
theorem PairRel.put {w wr : World} {b : Nat} {S T : Nat → Bool} {k : Nat} (hk : k < 256) (hg : w.grownBy wr (some b)) (hs : RSet wr b (fun j => S j || (decide (j < k) && T j))) (ht : T k = true) :
    PairRel w b S T (256 - (k + 1)) (.int .i64 ((k : Int) + 1)) (wr.setCell ⟨b, k, none⟩ (.bool true)) := by
  refine ⟨k + 1, rfl, rfl, by omega, grown_trans hg (grown_set _ _ _ _), (hs.set k true).congr fun j hj => ?_⟩
  unfold setAt
  by_cases e : j = k
  · subst e; simp [ht]
  · simp only [if_neg e]
    congr 2
    rw [Bool.eq_iff_iff]; simp; omega
theorem PairRel.skip {w wr : World} {b : Nat} {S T : Nat → Bool} {k : Nat} (hk : k < 256) (hg : w.grownBy wr (some b)) (hs : RSet wr b (fun j => S j || (decide (j < k) && T j))) (ht : T k = false) :
    PairRel w b S T (256 - (k + 1)) (.int .i64 ((k : Int) + 1)) wr := by
  refine ⟨k + 1, rfl, rfl, by omega, hg, hs.congr fun j hj => ?_⟩
  by_cases e : j = k
  · subst e; simp [ht]
  · congr 2
    rw [Bool.eq_iff_iff]; simp; omega
theorem PairRel.start {w : World} {b : Nat} {S T : Nat → Bool} (h : RSet w b S) : PairRel w b S T 256 (.int .i64 0) w :=
  ⟨0, rfl, rfl, Nat.zero_le _, World.grownBy.refl _ _, h.congr fun j _ => by simp⟩
theorem rpair_fin {w wr : World} {b : Nat} {S T : Nat → Bool} {d k : Nat} (hk : ¬ k < 256) (hg : w.grownBy wr (some b)) (hs : RSet wr b (fun j => S j || (decide (j < k) && T j))) (h : pairS d = some T) : RPairPost w b S d (.returned (.bool true)) wr :=
  ⟨by rw [h]; rfl, hg, fun T' hT => by
    rw [h] at hT; injection hT with hT; subst hT
    exact hs.congr fun j hj => by rw [show decide (j < k) = true from by simp; omega]; simp⟩
theorem pairS_digit (d : Nat) (h : isDigit d = true) : pairS d = none := by
  have h2 : 48 ≤ d ∧ d ≤ 57 := by simpa [isDigit] using h
  have h3 : isUpper d = false := by simp [isUpper]; omega
  unfold pairS
  rw [h, h3]
  simp only [Bool.not_true, Bool.and_false, Bool.false_eq_true, if_false]
  unfold classS
  repeat rw [if_neg (by omega)]
theorem pairS_plain (d : Nat) (h0 : isDigit d = false) (h1 : isLower d = false) (h2 : isUpper d = false) : pairS d = some (fun b => b == d) := by
  have : isLetter d = false := by unfold isLetter; unfold isLower at h1; unfold isUpper at h2; rw [h1, h2]; rfl
  unfold pairS
  rw [this, h0]; rfl
theorem pairS_lower (d : Nat) (h1 : isLower d = true) : pairS d = classS d := by
  have h3 : 97 ≤ d ∧ d ≤ 122 := by simpa [isLower] using h1
  have h2 : isUpper d = false := by simp [isUpper]; omega
  have : isLetter d = true := by simp [isLetter]; omega
  unfold pairS
  rw [this, h2]; rfl
theorem pairS_upper (d : Nat) (h1 : isUpper d = true) : pairS d = (classS (d + 32)).map (fun S b => !S b) := by
  have : isLetter d = true := by unfold isLetter; unfold isUpper at h1; rw [h1]; simp
  unfold pairS
  rw [this, h1]; rfl
set_option maxRecDepth 100000 in
set_option maxHeartbeats 4000000 in
theorem rpair_c (b d : Nat) (hd : d < 256) (S : Nat → Bool) (w : World) (h : RSet w b S) : Calls Tryd.prog 68 #[.slice (some ⟨b, 0, none⟩) 256 256, .int .u8 d] w (RPairPost w b S d) := by
  have H := Lib.hid h
  have hc := h.cell hd
  have hf := h.fz d
  clear h
  cases hD : isDigit d with
  | true =>
    have HD := Lib.hid hD
    have E := Lib.hid (pairS_digit d hD)
    clear hD
    go_enter Tryd.func68, Tryd.ntmps68
    go_wp2_with (go_at_call 40; refine (rdigit_c _ _).mono ?_; rintro e w' ⟨rfl, rfl⟩; rw [HD.out])
    go_ret
    exact rpair_no E.out
  | false =>
    have HD := Lib.hid hD
    cases hL : isLower d with
    | true =>
      have HL := Lib.hid hL
      have hr1 : 97 ≤ d := by have : 97 ≤ d ∧ d ≤ 122 := by simpa [isLower] using hL
                              omega
      have HU := Lib.hid (show isUpper d = false by simp [isUpper]; omega)
      have E := Lib.hid (pairS_lower d hL)
      clear hD hL
      cases hC : classS (d) with
      | none =>
        have E0 := Lib.hid (show pairS d = none by rw [E.out, hC])
        have HS := Lib.hid (show (classS (d)).isSome = false by rw [hC]; rfl)
        clear hC
        go_enter Tryd.func68, Tryd.ntmps68
        go_wp2_with (first | (go_at_call 40; refine (rdigit_c _ _).mono ?_; rintro e w' ⟨rfl, rfl⟩; rw [HD.out]) | (go_at_call 45; refine (rlower_c _ _).mono ?_; rintro e w' ⟨rfl, rfl⟩; rw [HL.out]) | (go_at_call 46; refine (rupper_c _ _).mono ?_; rintro e w' ⟨rfl, rfl⟩; rw [HU.out]))
        go_loopg [6] 0 (fun gg v wr => v = .int .i64 0 ∧ w = wr)
        case atStart => exact ⟨rfl, rfl⟩
        case round =>
          obtain ⟨rfl, rfl⟩ := hrel
          go_wp2_with fail
          refine (member_c _ _ (d) 0 (by omega) (by rfl) _).mono ?_
          rintro e w' ⟨rfl, rfl⟩
          rw [HS.out]
          go_wp2
          go_ret
          exact rpair_no E0.out
      | some T0 =>
        have E0 := Lib.hid (show pairS d = some T0 by rw [E.out, hC])
        have HS := Lib.hid (show (classS (d)).isSome = true by rw [hC]; rfl)
        have HM := Lib.hid (show ∀ c, memB (d) c = T0 c from fun c => by unfold memB; rw [hC])
        clear hC
        go_enter Tryd.func68, Tryd.ntmps68
        go_wp2_with (first | (go_at_call 40; refine (rdigit_c _ _).mono ?_; rintro e w' ⟨rfl, rfl⟩; rw [HD.out]) | (go_at_call 45; refine (rlower_c _ _).mono ?_; rintro e w' ⟨rfl, rfl⟩; rw [HL.out]) | (go_at_call 46; refine (rupper_c _ _).mono ?_; rintro e w' ⟨rfl, rfl⟩; rw [HU.out]))
        go_loopg [6] 256 (fun gg v wr => PairRel w b S T0 gg v wr)
        case atStart => exact PairRel.start H.out
        case round =>
          obtain ⟨k, rfl, rfl, hk, hg, hs⟩ := hrel
          have HG := Lib.hid hg
          have HSS := Lib.hid hs
          by_cases hlt : k < 256
          · have c0 := hs.cell hlt
            have f0 := hs.fz k
            clear hs hg
            cases hT : T0 k with
            | true =>
              have HN := Lib.hid (PairRel.put hlt HG.out HSS.out (show (T0) k = true by simp [hT]))
              have HT := Lib.hid hT
              clear hT
              go_wp2_with fail
              refine (member_c _ _ (d) k (by omega) (by omega) _).mono ?_
              rintro e w' ⟨rfl, rfl⟩
              rw [HS.out, HM.out, HT.out]
              go_wp2_with (first | (go_at_call 40; refine (rdigit_c _ _).mono ?_; rintro e w' ⟨rfl, rfl⟩; rw [HD.out]) | (go_at_call 45; refine (rlower_c _ _).mono ?_; rintro e w' ⟨rfl, rfl⟩; rw [HL.out]) | (go_at_call 46; refine (rupper_c _ _).mono ?_; rintro e w' ⟨rfl, rfl⟩; rw [HU.out]))
              go_roundg (256 - (k + 1))
              case measure => omega
              case rel => exact HN.out
            | false =>
              have HN := Lib.hid (PairRel.skip hlt HG.out HSS.out (show (T0) k = false by simp [hT]))
              have HT := Lib.hid hT
              clear hT
              go_wp2_with fail
              refine (member_c _ _ (d) k (by omega) (by omega) _).mono ?_
              rintro e w' ⟨rfl, rfl⟩
              rw [HS.out, HM.out, HT.out]
              go_wp2_with (first | (go_at_call 40; refine (rdigit_c _ _).mono ?_; rintro e w' ⟨rfl, rfl⟩; rw [HD.out]) | (go_at_call 45; refine (rlower_c _ _).mono ?_; rintro e w' ⟨rfl, rfl⟩; rw [HL.out]) | (go_at_call 46; refine (rupper_c _ _).mono ?_; rintro e w' ⟨rfl, rfl⟩; rw [HU.out]))
              go_roundg (256 - (k + 1))
              case measure => omega
              case rel => exact HN.out
          · clear hs hg
            have hge : ¬ ((k : Int) < 256) := by omega
            go_wp2
            go_ret
            exact rpair_fin hlt HG.out HSS.out E0.out
    | false =>
      have HL := Lib.hid hL
      cases hU : isUpper d with
      | true =>
        have HU := Lib.hid hU
        have hr1 : 65 ≤ d := by have : 65 ≤ d ∧ d ≤ 90 := by simpa [isUpper] using hU
                                omega
        have hr2 : d ≤ 90 := by have : 65 ≤ d ∧ d ≤ 90 := by simpa [isUpper] using hU
                                omega
        have E := Lib.hid (pairS_upper d hU)
        clear hD hL hU
        cases hC : classS (d + 32) with
        | none =>
          have E0 := Lib.hid (show pairS d = none by rw [E.out, hC]; rfl)
          have HS := Lib.hid (show (classS (d + 32)).isSome = false by rw [hC]; rfl)
          clear hC
          go_enter Tryd.func68, Tryd.ntmps68
          go_wp2_with (first | (go_at_call 40; refine (rdigit_c _ _).mono ?_; rintro e w' ⟨rfl, rfl⟩; rw [HD.out]) | (go_at_call 45; refine (rlower_c _ _).mono ?_; rintro e w' ⟨rfl, rfl⟩; rw [HL.out]) | (go_at_call 46; refine (rupper_c _ _).mono ?_; rintro e w' ⟨rfl, rfl⟩; rw [HU.out]))
          go_loopg [6] 0 (fun gg v wr => v = .int .i64 0 ∧ w = wr)
          case atStart => exact ⟨rfl, rfl⟩
          case round =>
            obtain ⟨rfl, rfl⟩ := hrel
            go_wp2_with fail
            refine (member_c _ _ (d + 32) 0 (by omega) (by rfl) _).mono ?_
            rintro e w' ⟨rfl, rfl⟩
            rw [HS.out]
            go_wp2
            go_ret
            exact rpair_no E0.out
        | some T0 =>
          have E0 := Lib.hid (show pairS d = some (fun b => !T0 b) by rw [E.out, hC]; rfl)
          have HS := Lib.hid (show (classS (d + 32)).isSome = true by rw [hC]; rfl)
          have HM := Lib.hid (show ∀ c, memB (d + 32) c = T0 c from fun c => by unfold memB; rw [hC])
          clear hC
          go_enter Tryd.func68, Tryd.ntmps68
          go_wp2_with (first | (go_at_call 40; refine (rdigit_c _ _).mono ?_; rintro e w' ⟨rfl, rfl⟩; rw [HD.out]) | (go_at_call 45; refine (rlower_c _ _).mono ?_; rintro e w' ⟨rfl, rfl⟩; rw [HL.out]) | (go_at_call 46; refine (rupper_c _ _).mono ?_; rintro e w' ⟨rfl, rfl⟩; rw [HU.out]))
          go_loopg [6] 256 (fun gg v wr => PairRel w b S (fun b => !T0 b) gg v wr)
          case atStart => exact PairRel.start H.out
          case round =>
            obtain ⟨k, rfl, rfl, hk, hg, hs⟩ := hrel
            have HG := Lib.hid hg
            have HSS := Lib.hid hs
            by_cases hlt : k < 256
            · have c0 := hs.cell hlt
              have f0 := hs.fz k
              clear hs hg
              cases hT : T0 k with
              | true =>
                have HN := Lib.hid (PairRel.skip hlt HG.out HSS.out (show ((fun b => !T0 b)) k = false by simp [hT]))
                have HT := Lib.hid hT
                clear hT
                go_wp2_with fail
                refine (member_c _ _ (d + 32) k (by omega) (by omega) _).mono ?_
                rintro e w' ⟨rfl, rfl⟩
                rw [HS.out, HM.out, HT.out]
                go_wp2_with (first | (go_at_call 40; refine (rdigit_c _ _).mono ?_; rintro e w' ⟨rfl, rfl⟩; rw [HD.out]) | (go_at_call 45; refine (rlower_c _ _).mono ?_; rintro e w' ⟨rfl, rfl⟩; rw [HL.out]) | (go_at_call 46; refine (rupper_c _ _).mono ?_; rintro e w' ⟨rfl, rfl⟩; rw [HU.out]))
                go_roundg (256 - (k + 1))
                case measure => omega
                case rel => exact HN.out
              | false =>
                have HN := Lib.hid (PairRel.put hlt HG.out HSS.out (show ((fun b => !T0 b)) k = true by simp [hT]))
                have HT := Lib.hid hT
                clear hT
                go_wp2_with fail
                refine (member_c _ _ (d + 32) k (by omega) (by omega) _).mono ?_
                rintro e w' ⟨rfl, rfl⟩
                rw [HS.out, HM.out, HT.out]
                go_wp2_with (first | (go_at_call 40; refine (rdigit_c _ _).mono ?_; rintro e w' ⟨rfl, rfl⟩; rw [HD.out]) | (go_at_call 45; refine (rlower_c _ _).mono ?_; rintro e w' ⟨rfl, rfl⟩; rw [HL.out]) | (go_at_call 46; refine (rupper_c _ _).mono ?_; rintro e w' ⟨rfl, rfl⟩; rw [HU.out]))
                go_roundg (256 - (k + 1))
                case measure => omega
                case rel => exact HN.out
            · clear hs hg
              have hge : ¬ ((k : Int) < 256) := by omega
              go_wp2
              go_ret
              exact rpair_fin hlt HG.out HSS.out E0.out
      | false =>
        have HU := Lib.hid hU
        have E := Lib.hid (pairS_plain d hD hL hU)
        clear hD hL hU
        go_enter Tryd.func68, Tryd.ntmps68
        go_wp2_with (first | (go_at_call 40; refine (rdigit_c _ _).mono ?_; rintro e w' ⟨rfl, rfl⟩; rw [HD.out]) | (go_at_call 45; refine (rlower_c _ _).mono ?_; rintro e w' ⟨rfl, rfl⟩; rw [HL.out]) | (go_at_call 46; refine (rupper_c _ _).mono ?_; rintro e w' ⟨rfl, rfl⟩; rw [HU.out]))
        go_ret
        refine ⟨by rw [E.out]; rfl, grown_set _ _ _ _, fun T hT => ?_⟩
        rw [E.out] at hT; injection hT with hT; subst hT
        refine (H.out.set d true).congr fun j _ => ?_
        unfold setAt
        by_cases e : j = d
        · subst e; simp
        · simp [e]
end Go.Proofs.YtpbhncmaamedhaaDoor
