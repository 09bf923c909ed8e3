import Derived.Test.YtpbhncmaamedhaaDoorLeaf
import Derived.Laws.EntriesVeiled
namespace Go.Proofs.YtpbhncmaamedhaaDoor
open Go.RowKit Go.Proofs.Lexi

/-- v answers S as long as the blocks lo .. hi - 1 are as in w. -/
def IsSet (w : World) (lo hi : Nat) (v : Value) (S : Nat → Bool) : Prop :=
  ∀ W : World, (∀ b, lo ≤ b → b < hi → W.heap[b]? = w.heap[b]?) → PredOf W v S
theorem IsSet.mono {w w' : World} {lo hi lo' hi' : Nat} {v : Value} {S : Nat → Bool} (h : IsSet w lo hi v S) (h1 : lo' ≤ lo) (h2 : hi ≤ hi') (hw : ∀ b, lo ≤ b → b < hi → w'.heap[b]? = w.heap[b]?) : IsSet w' lo' hi' v S :=
  fun W hW => h W fun b hb hb' => (hW b (by omega) (by omega)).trans (hw b hb hb')

def pairS (c : Nat) : Option (Nat → Bool) :=
  if !isLetter c && !isDigit c then some (fun b => b == c)
  else if isUpper c then (classS (c + 32)).map (fun S b => !S b)
  else classS c

theorem cell_of_heap {w : World} {b o : Nat} {cs : Array Value} {t : TypeId} {fz : Nat × Nat} (h : w.heap[b]? = some (.cells cs t fz)) : w.cell? ⟨b, o, none⟩ = cs[o]? := by
  simp [World.cell?, h]

set_option maxHeartbeats 400000 in
theorem pair1_c (b : Nat) (c d : Nat) (w : World) (h : w.cell? ⟨b, 0, none⟩ = some (.int .u8 d)) :
    Calls Tryd.prog 86 #[.int .u8 c, .pointer (some ⟨b, 0, none⟩)] w fun e w' => e = .returned (.bool (c == d)) ∧ w = w' := by
  go_enter Tryd.func86, Tryd.ntmps86
  go_wp2
  all_goals (go_ret; exact ⟨ret_bool (by rw [Bool.eq_iff_iff]; simp; omega), rfl⟩)
set_option maxHeartbeats 400000 in
theorem pair2_c (b : Nat) (c : Nat) (hc : c < 256) (v : Value) (S : Nat → Bool) (w : World) (h : w.cell? ⟨b, 0, none⟩ = some v) (hp : PredOf w v S) :
    Calls Tryd.prog 88 #[.int .u8 c, .pointer (some ⟨b, 0, none⟩)] w fun e w' => e = .returned (.bool (!S c)) ∧ w = w' := by
  obtain ⟨f, caps, rfl, hcf, hp⟩ := hp
  have HP := Lib.hid (hp c hc); clear hp
  go_enter Tryd.func88, Tryd.ntmps88
  go_wp2_with fail
  refine HP.out.mono ?_
  rintro e w' ⟨rfl, rfl⟩
  go_wp2
  go_ret
  exact ⟨rfl, rfl⟩
set_option maxHeartbeats 400000 in
theorem set2_c (b1 b2 : Nat) (c x y : Nat) (w : World) (h1 : w.cell? ⟨b1, 0, none⟩ = some (.int .u8 x)) (h2 : w.cell? ⟨b2, 0, none⟩ = some (.int .u8 y)) :
    Calls Tryd.prog 84 #[.int .u8 c, .pointer (some ⟨b1, 0, none⟩), .pointer (some ⟨b2, 0, none⟩)] w fun e w' => e = .returned (.bool (x ≤ c && c ≤ y)) ∧ w = w' := by
  go_enter Tryd.func84, Tryd.ntmps84
  go_wp2
  all_goals (go_ret; exact ⟨ret_bool (by rw [Bool.eq_iff_iff]; simp; omega), rfl⟩)
set_option maxHeartbeats 400000 in
theorem set3_c (b : Nat) (c d : Nat) (w : World) (h : w.cell? ⟨b, 0, none⟩ = some (.int .u8 d)) :
    Calls Tryd.prog 85 #[.int .u8 c, .pointer (some ⟨b, 0, none⟩)] w fun e w' => e = .returned (.bool (c == d)) ∧ w = w' := by
  go_enter Tryd.func85, Tryd.ntmps85
  go_wp2
  all_goals (go_ret; exact ⟨ret_bool (by rw [Bool.eq_iff_iff]; simp; omega), rfl⟩)
set_option maxHeartbeats 400000 in
theorem single1_c (b : Nat) (c d : Nat) (w : World) (h : w.cell? ⟨b, 0, none⟩ = some (.int .u8 d)) :
    Calls Tryd.prog 62 #[.int .u8 c, .pointer (some ⟨b, 0, none⟩)] w fun e w' => e = .returned (.bool (c == d)) ∧ w = w' := by
  go_enter Tryd.func62, Tryd.ntmps62
  go_wp2
  all_goals (go_ret; exact ⟨ret_bool (by rw [Bool.eq_iff_iff]; simp; omega), rfl⟩)
set_option maxHeartbeats 400000 in
theorem single2_c (c : Nat) (w : World) : Calls Tryd.prog 63 #[.int .u8 c] w fun e w' => e = .returned (.bool true) ∧ w = w' := by
  go_enter Tryd.func63, Tryd.ntmps63
  go_wp2
  all_goals (go_ret; exact ⟨rfl, rfl⟩)

theorem any_take_succ (l : List (Nat → Bool)) (k c : Nat) (h : k < l.length) (h0 : ∀ j, j < k → (l.getD j (fun _ => false)) c = false) (h1 : (l.getD k (fun _ => false)) c = false) :
    ∀ j, j < k + 1 → (l.getD j (fun _ => false)) c = false := by
  intro j hj
  by_cases e : j = k
  · subst e; exact h1
  · exact h0 j (by omega)
theorem any_true (l : List (Nat → Bool)) (k c : Nat) (h : k < l.length) (h1 : (l.getD k (fun _ => false)) c = true) : (l.any fun S => S c) = true := by
  rw [List.any_eq_true]
  refine ⟨l[k], List.getElem_mem h, ?_⟩
  simpa [List.getD, h] using h1
theorem any_false (l : List (Nat → Bool)) (c : Nat) (h0 : ∀ j, j < l.length → (l.getD j (fun _ => false)) c = false) : (l.any fun S => S c) = false := by
  rw [List.any_eq_false]
  intro S hS
  obtain ⟨j, hj, rfl⟩ := List.mem_iff_getElem.1 hS
  have := h0 j hj
  simpa [List.getD, hj] using this

/-- What a set answers. -/
def setRes (Ss : List (Nat → Bool)) (nt : Bool) (c : Nat) : Bool := if Ss.any (fun S => S c) then !nt else nt
set_option maxHeartbeats 400000 in
theorem set1_c (pb nb g n cap : Nat) (c : Nat) (hc : c < 256) (nt : Bool) (vals : List Value) (Ss : List (Nat → Bool)) (w : World) (hn : vals.length = n) (hS : Ss.length = n) (hm : n ≤ 5000)
    (h1 : w.cell? ⟨pb, 0, none⟩ = some (.slice (some ⟨g, 0, none⟩) n cap)) (h2 : w.cell? ⟨nb, 0, none⟩ = some (.bool nt))
    (hv : ∀ k, k < n → w.cell? ⟨g, k, none⟩ = some (vals.getD k undef)) (hp : ∀ k, k < n → PredOf w (vals.getD k undef) (Ss.getD k (fun _ => false))) :
    Calls Tryd.prog 83 #[.int .u8 c, .pointer (some ⟨pb, 0, none⟩), .pointer (some ⟨nb, 0, none⟩)] w fun e w' => e = .returned (.bool (setRes Ss nt c)) ∧ w = w' := by
  have HV := Lib.hid hv
  have HP := Lib.hid hp
  have HN := Lib.hid hn
  have HS := Lib.hid hS
  clear hv hp hn hS
  go_enter Tryd.func83, Tryd.ntmps83
  go_wp2
  go_loop [9] (fun i => ∃ k : Nat, k ≤ n ∧ i = .int .i64 k ∧ Hid (∀ j, j < k → (Ss.getD j (fun _ => false)) c = false)) (fun i => n - (intOf i).toNat)
  case atStart => exact ⟨0, Nat.zero_le _, rfl, fun j hj => by omega⟩
  case round =>
    obtain ⟨k, hk, rfl, HF⟩ := hrel
    by_cases hlt : k < n
    · have hcell := HV.out k hlt
      obtain ⟨f, caps, hval, hcf, hp⟩ := HP.out k hlt
      rw [hval] at hcell
      have HQ := Lib.hid (hp c hc)
      clear hp hval
      go_wp2_with fail
      refine HQ.out.mono ?_
      rintro e w' ⟨rfl, rfl⟩
      cases hb : (Ss.getD k (fun _ => false)) c with
      | true =>
        have hany := Lib.hid (any_true Ss k c (by rw [HS.out]; exact hlt) hb)
        clear hb
        go_wp2
        go_ret
        exact ⟨ret_bool (by unfold setRes; rw [hany.out]; rfl), rfl⟩
      | false =>
        have hF := Lib.hid (any_take_succ Ss k c (by rw [HS.out]; exact hlt) HF.out hb)
        clear hb
        go_wp2
        go_round
        case rel => exact ⟨k + 1, by omega, by go_num, hF⟩
        case measure => simp [intOf]; omega
    · have hany := Lib.hid (any_false Ss c (fun j hj => HF.out j (by rw [HS.out] at hj; omega)))
      go_wp2
      go_ret
      exact ⟨ret_bool (by unfold setRes; rw [hany.out]; rfl), rfl⟩

def PairPost (w : World) (c : Nat) (e : Ending) (w' : World) : Prop :=
  ∃ v, e = .returned (.tuple #[v, .bool (pairS c).isSome]) ∧ Below w.heap.size w w' ∧ ∀ S, pairS c = some S → IsSet w' w.heap.size w'.heap.size v S
theorem heap_new (w : World) (o : Obj) : (w.alloc o).heap[w.heap.size]? = some o := by
  show (w.heap.push o)[w.heap.size]? = _
  simp
theorem pair_end1 (w : World) (c : Nat) (h : (!isLetter c && !isDigit c) = true) : PairPost w c (.returned (.tuple #[.func (.func 86) #[] #[.pointer (some ⟨w.heap.size, 0, none⟩)], .bool true])) (w.alloc (.cells #[.int .u8 c] 5)) := by
  have e : pairS c = some (fun b => b == c) := by simp only [pairS, h, if_true]
  refine ⟨_, by rw [e]; rfl, (Below.refl _ _).alloc (Nat.le_refl _) _, fun S hS W hW => ?_⟩
  rw [e] at hS; injection hS with hS; subst hS
  refine ⟨86, _, rfl, fun _ _ => by kernel_rfl, fun b _ => ?_⟩
  exact pair1_c w.heap.size b c W (by
    have := hW w.heap.size (Nat.le_refl _) (by simp)
    rw [heap_new] at this
    rw [cell_of_heap this]; rfl)
theorem pair_end2 (w : World) (c : Nat) (h : (!isLetter c && !isDigit c) = false) (hu : isUpper c = true) (w' : World) (hw : w' = (w.alloc (.cells #[.int .u8 c] 5)).alloc (.cells #[classV (c + 32)] 84)) :
    PairPost w c (.returned (.tuple #[.func (.func 88) #[] #[.pointer (some ⟨w.heap.size + 1, 0, none⟩)], .bool (classS (c + 32)).isSome])) w' := by
  subst hw
  have e : pairS c = (classS (c + 32)).map (fun S b => !S b) := by simp only [pairS, h, hu, if_true]; rfl
  refine ⟨_, by rw [e, Option.isSome_map], ((Below.refl _ _).alloc (Nat.le_refl _) _).alloc (by simp) _, fun S hS W hW => ?_⟩
  rw [e] at hS
  obtain ⟨S0, h0, rfl⟩ := Option.map_eq_some_iff.1 hS
  refine ⟨88, _, rfl, fun _ _ => by kernel_rfl, fun b hb => ?_⟩
  have h1 : W.cell? ⟨w.heap.size + 1, 0, none⟩ = some (classV (c + 32)) := by
    have := hW (w.heap.size + 1) (by omega) (by simp)
    have h2 := heap_new (w.alloc (.cells #[.int .u8 c] 5)) (.cells #[classV (c + 32)] 84)
    have hs : (w.alloc (.cells #[.int .u8 c] 5)).heap.size = w.heap.size + 1 := by simp
    rw [hs] at h2
    rw [h2] at this
    rw [cell_of_heap this]; rfl
  exact pair2_c (w.heap.size + 1) b hb (classV (c + 32)) S0 W h1 (class_pred _ _ h0 W)
theorem pair_end3 (w : World) (c : Nat) (h : (!isLetter c && !isDigit c) = false) (hu : isUpper c = false) :
    PairPost w c (.returned (.tuple #[classV c, .bool (classS c).isSome])) (w.alloc (.cells #[.int .u8 c] 5)) := by
  have e : pairS c = classS c := by simp only [pairS, h, hu]; rfl
  refine ⟨_, by rw [e], (Below.refl _ _).alloc (Nat.le_refl _) _, fun S hS W hW => ?_⟩
  rw [e] at hS
  exact class_pred _ _ hS W

theorem classV_cases (c : Nat) : classV c = .func (.func (classF c)) #[] #[] ∨ classV c = .nilFunc := by
  unfold classV
  split <;> simp
set_option maxHeartbeats 800000 in
theorem pair_c (c : Nat) (hc : c < 256) (w : World) : Calls Tryd.prog 64 #[.int .u8 c] w (PairPost w c) := by
  have hL : ∀ b, isLetter c = b → Hid (isLetter c = b) := fun _ h => h
  cases hl : isLetter c with
  | false =>
    cases hd : isDigit c with
    | false =>
      have E := Lib.hid (pair_end1 w c (by simp [hl, hd]))
      have HL := Lib.hid hl
      have HD := Lib.hid hd
      clear hl hd hL
      go_enter Tryd.func64, Tryd.ntmps64
      go_wp2_with (first | (go_at_call 42; refine (letter_c _ _).mono ?_; rintro e w' ⟨rfl, rfl⟩; rw [HL.out]) | (go_at_call 43; refine (digit_c _ _).mono ?_; rintro e w' ⟨rfl, rfl⟩; rw [HD.out]))
      go_ret2
      exact E.out
    | true =>
      have E := Lib.hid (pair_end3 w c (by simp [hl, hd]) (by revert hl hd; simp [isLetter, isDigit, isUpper]; omega))
      have hq : c ≤ 57 := by revert hd; simp [isDigit]
      have HL := Lib.hid hl
      have HD := Lib.hid hd
      clear hl hd hL
      go_enter Tryd.func64, Tryd.ntmps64
      go_wp2_with (first | (go_at_call 42; refine (letter_c _ _).mono ?_; rintro e w' ⟨rfl, rfl⟩; rw [HL.out]) | (go_at_call 43; refine (digit_c _ _).mono ?_; rintro e w' ⟨rfl, rfl⟩; rw [HD.out]) | (go_at_call 87; refine (class_c _ _).mono ?_; rintro e w' ⟨rfl, rfl⟩))
      go_ret2
      exact E.out
  | true =>
    cases hu : isUpper c with
    | true =>
      have E := Lib.hid (pair_end2 w c (by simp [hl]) hu _ rfl)
      have h1 : 65 ≤ c := by revert hu; simp [isUpper]; omega
      have h2 : c ≤ 90 := by revert hu; simp [isUpper]
      have HL := Lib.hid hl
      clear hl hu hL
      have hcl := class_c (c + 32)
      rcases classV_cases (c + 32) with hv | hv
      all_goals
        rw [hv] at E hcl
        have HC := Lib.hid hcl
        clear hcl hv
        go_enter Tryd.func64, Tryd.ntmps64
        go_wp2_with (first | (go_at_call 42; refine (letter_c _ _).mono ?_; rintro e w' ⟨rfl, rfl⟩; rw [HL.out]))
        rw [show ((c : Int) + 97 - 65) = ((c + 32 : Nat) : Int) from by omega]
        refine (HC.out _).mono ?_
        rintro e w' ⟨rfl, rfl⟩
        go_wp2
        go_ret2
        exact E.out
    | false =>
      have E := Lib.hid (pair_end3 w c (by simp [hl]) hu)
      have h1 : 97 ≤ c := by revert hl hu; simp [isLetter, isUpper]; omega
      have HL := Lib.hid hl
      clear hl hu hL
      go_enter Tryd.func64, Tryd.ntmps64
      go_wp2_with (first | (go_at_call 42; refine (letter_c _ _).mono ?_; rintro e w' ⟨rfl, rfl⟩; rw [HL.out]) | (go_at_call 87; refine (class_c _ _).mono ?_; rintro e w' ⟨rfl, rfl⟩))
      go_ret2
      exact E.out
end Go.Proofs.YtpbhncmaamedhaaDoor
