import Derived.Test.YtpbcmlnjiocmoaaGreatDoorRTt
import Derived.Test.YtpbcmlnjiocmoaaGreatDoorRRgfv2
set_option linter.unusedVariables false
set_option linter.unusedSimpArgs false
set_option maxRecDepth 100000
set_option maxHeartbeats 8000000
namespace Go.Proofs.YtpbcmlnjiocmoaaGreatDoorR
open Go.RowKit Go.Proofs.Lexi
/-- The number at a place (0 outside). -/
def gI (L : List Int) (a : Nat) : Int := L.getD a 0
theorem gI_some {L : List Int} {a : Nat} (h : a < L.length) : L[a]? = some (gI L a) := by
  unfold gI
  rw [List.getD_eq_getElem?_getD, List.getElem?_eq_getElem h]
  rfl
/-- The element at j is moved to i, those from i on are one further. -/
def rotL (L : List Int) (i j : Nat) : List Int := L.take i ++ gI L j :: ((L.drop i).take (j - i) ++ L.drop (j + 1))
theorem rot_len {L : List Int} {i j : Nat} (h : i ≤ j) (hj : j < L.length) : (rotL L i j).length = L.length := by
  unfold rotL
  simp only [List.length_append, List.length_cons, List.length_take, List.length_drop]
  omega
theorem rot_perm {L : List Int} {i j : Nat} (h : i ≤ j) (hj : j < L.length) : List.Perm (rotL L i j) L := by
  have e : L = L.take i ++ ((L.drop i).take (j - i) ++ gI L j :: L.drop (j + 1)) := by
    have e1 : L.drop j = gI L j :: L.drop (j + 1) := by
      rw [List.drop_eq_getElem_cons hj]
      congr 1
      unfold gI
      rw [List.getD_eq_getElem?_getD, List.getElem?_eq_getElem hj]
      rfl
    have e2 : (L.drop i).drop (j - i) = L.drop j := by rw [List.drop_drop]; congr 1; omega
    rw [← e1, ← e2, List.take_append_drop, List.take_append_drop]
  unfold rotL
  conv => rhs; rw [e]
  exact List.Perm.append_left _ List.perm_middle.symm
/-- The list where the elements from k to j - 1 are one further already. -/
def IsShf (L M : List Int) (j k : Nat) : Prop := M.length = L.length ∧ ∀ a, M[a]? = if k < a ∧ a ≤ j then L[a - 1]? else L[a]?
theorem shf_start (L : List Int) (j : Nat) : IsShf L L j j := ⟨rfl, fun a => by rw [if_neg (by omega)]⟩
theorem shf_at {L M : List Int} {j k : Nat} (h : IsShf L M j (k + 1)) (hj : k < L.length) : M[k]? = some (gI L k) := by
  rw [h.2, if_neg (by omega), gI_some hj]
theorem shf_step {L M : List Int} {j k : Nat} (h : IsShf L M j (k + 1)) (hk : k + 1 ≤ j) (hj : j < L.length) : IsShf L (M.set (k + 1) (gI L k)) j k := by
  refine ⟨by rw [List.length_set]; exact h.1, fun a => ?_⟩
  rw [List.getElem?_set]
  split
  · rename_i e
    subst e
    rw [if_pos (by rw [h.1]; omega), if_pos (by omega), Nat.add_sub_cancel, gI_some (by omega)]
  · rename_i e
    rw [h.2]
    by_cases h1 : k + 1 < a ∧ a ≤ j
    · rw [if_pos h1, if_pos (by omega)]
    · rw [if_neg h1, if_neg (by omega)]
theorem rot_get {L : List Int} {i j : Nat} (h : i ≤ j) (hj : j < L.length) (a : Nat) : (rotL L i j)[a]? = if a < i then L[a]? else if a = i then some (gI L j) else if a ≤ j then L[a - 1]? else L[a]? := by
  unfold rotL
  have hl : (L.take i).length = i := by rw [List.length_take]; omega
  split
  · rename_i h1
    rw [List.getElem?_append_left (by omega), List.getElem?_take, if_pos h1]
  · rename_i h1
    rw [List.getElem?_append_right (by omega), hl]
    split
    · rename_i h2
      subst h2
      rw [Nat.sub_self]
      rfl
    · rename_i h2
      obtain ⟨b, rfl⟩ : ∃ b, a = i + (b + 1) := ⟨a - i - 1, by omega⟩
      rw [Nat.add_sub_cancel_left, List.getElem?_cons_succ]
      have hl2 : ((L.drop i).take (j - i)).length = j - i := by rw [List.length_take, List.length_drop]; omega
      split
      · rename_i h3
        rw [List.getElem?_append_left (by omega), List.getElem?_take, if_pos (by omega), List.getElem?_drop]
        congr 1
      · rename_i h3
        rw [List.getElem?_append_right (by omega), hl2, List.getElem?_drop]
        congr 1
        omega
theorem shf_end {L M : List Int} {i j : Nat} (h : IsShf L M j i) (hi : i ≤ j) (hj : j < L.length) : M.set i (gI L j) = rotL L i j := by
  apply List.ext_getElem?
  intro a
  rw [rot_get hi hj, List.getElem?_set]
  split
  · rename_i e
    subst e
    rw [if_pos (by rw [h.1]; omega), if_neg (by omega), if_pos rfl]
  · rename_i e
    rw [h.2]
    by_cases h1 : a < i
    · rw [if_pos h1, if_neg (by omega)]
    · rw [if_neg h1, if_neg (by omega : ¬ a = i)]
      by_cases h2 : a ≤ j
      · rw [if_pos h2, if_pos (by omega)]
      · rw [if_neg h2, if_neg (by omega)]
theorem rot_gI {L : List Int} {i j : Nat} (h : i ≤ j) (hj : j < L.length) (a : Nat) : gI (rotL L i j) a = if a < i then gI L a else if a = i then gI L j else if a ≤ j then gI L (a - 1) else gI L a := by
  unfold gI
  rw [List.getD_eq_getElem?_getD, rot_get h hj]
  split
  · rw [List.getD_eq_getElem?_getD]
  · split
    · rfl
    · split
      · rw [List.getD_eq_getElem?_getD]
      · rw [List.getD_eq_getElem?_getD]
/-- Ascending between two places. -/
def Asc (L : List Int) (x y : Nat) : Prop := ∀ a b, x ≤ a → a < b → b < y → b < L.length → gI L a ≤ gI L b
/-- The state of a merge: lo is the beginning of the pair of runs p. -/
structure MInv (L : List Int) (w p lo i j : Nat) : Prop where
  hw : 1 ≤ w
  hlo : lo = p * (2 * w)
  h1 : lo ≤ i
  h2 : i ≤ j
  h3 : lo + w ≤ j
  h4 : j ≤ lo + 2 * w
  done : ∀ q, q < p → Asc L (q * (2 * w)) ((q + 1) * (2 * w))
  todo : ∀ q, 2 * p + 2 ≤ q → Asc L (q * w) ((q + 1) * w)
  s1 : Asc L lo i
  s2 : ∀ a b, lo ≤ a → a < i → i ≤ b → b < lo + 2 * w → b < L.length → gI L a ≤ gI L b
  s3 : Asc L i j
  s4 : Asc L j (lo + 2 * w)
theorem asc_rot {L : List Int} {i j x y : Nat} (h : i ≤ j) (hj : j < L.length) (ha : Asc L x y) (hd : y ≤ i ∨ j < x) : Asc (rotL L i j) x y := by
  intro a b h1 h2 h3 h4
  rw [rot_len h hj] at h4
  have := ha a b h1 h2 h3 h4
  rw [rot_gI h hj, rot_gI h hj]
  rcases hd with hd | hd
  · rw [if_pos (by omega), if_pos (by omega)]; exact this
  · rw [if_neg (by omega), if_neg (by omega), if_neg (by omega), if_neg (by omega), if_neg (by omega), if_neg (by omega)]; exact this
theorem block_le {q p w : Nat} (h : q < p) : (q + 1) * w ≤ p * w := Nat.mul_le_mul_right _ h
theorem MInv.less {L : List Int} {w p lo i j : Nat} (h : MInv L w p lo i j) (hij : i < j) (hj : j < lo + 2 * w) (hn : j < L.length) (hl : gI L j < gI L i) : MInv (rotL L i j) w p lo (i + 1) (j + 1) := by
  have hle : i ≤ j := by omega
  have hlo := h.hlo
  have b1 := h.h1
  have b3 := h.h3
  refine ⟨h.hw, h.hlo, by omega, by omega, by omega, by omega, ?_, ?_, ?_, ?_, ?_, ?_⟩
  · intro q hq
    refine asc_rot hle hn (h.done q hq) (.inl ?_)
    have := block_le (w := 2 * w) hq
    omega
  · intro q hq
    refine asc_rot hle hn (h.todo q hq) (.inr ?_)
    have : (2 * p + 2) * w ≤ q * w := Nat.mul_le_mul_right _ hq
    have e : (2 * p + 2) * w = p * (2 * w) + 2 * w := by rw [Nat.add_mul, Nat.mul_comm 2 p, Nat.mul_assoc]
    omega
  · intro a b c1 c2 c3 c4
    rw [rot_len hle hn] at c4
    rw [rot_gI hle hn, rot_gI hle hn, if_pos (by omega)]
    by_cases e : b < i
    · rw [if_pos e]; exact h.s1 a b c1 c2 e c4
    · rw [if_neg e, if_pos (by omega)]
      exact h.s2 a j c1 (by omega) (by omega) (by omega) hn
  · intro a b c1 c2 c3 c4 c5
    rw [rot_len hle hn] at c5
    rw [rot_gI hle hn, rot_gI hle hn]
    rw [if_neg (show ¬ b < i by omega), if_neg (show ¬ b = i by omega)]
    by_cases e : a < i
    · rw [if_pos e]
      split
      · exact h.s2 a (b - 1) c1 e (by omega) (by omega) (by omega)
      · exact h.s2 a b c1 e (by omega) (by omega) (by omega)
    · rw [if_neg e, if_pos (by omega)]
      split
      · by_cases e2 : b - 1 = i
        · rw [e2]; omega
        · have := h.s3 i (b - 1) (by omega) (by omega) (by omega) (by omega)
          omega
      · exact h.s4 j b (by omega) (by omega) (by omega) c5
  · intro a b c1 c2 c3 c4
    rw [rot_len hle hn] at c4
    rw [rot_gI hle hn, rot_gI hle hn, if_neg (by omega), if_neg (by omega), if_pos (by omega), if_neg (by omega), if_neg (by omega), if_pos (by omega)]
    exact h.s3 (a - 1) (b - 1) (by omega) (by omega) (by omega) (by omega)
  · exact asc_rot hle hn (fun a b c1 c2 c3 c4 => h.s4 a b (by omega) c2 c3 c4) (.inr (by omega))
theorem MInv.more {L : List Int} {w p lo i j : Nat} (h : MInv L w p lo i j) (hij : i < j) (hj : j < lo + 2 * w) (hn : j < L.length) (hl : ¬ gI L j < gI L i) : MInv L w p lo (i + 1) j := by
  have b1 := h.h1
  have b3 := h.h3
  refine ⟨h.hw, h.hlo, by omega, by omega, by omega, by omega, h.done, h.todo, ?_, ?_, ?_, h.s4⟩
  · intro a b c1 c2 c3 c4
    by_cases e : b < i
    · exact h.s1 a b c1 c2 e c4
    · have e2 : b = i := by omega
      subst e2
      exact h.s2 a b c1 c2 (by omega) (by omega) c4
  · intro a b c1 c2 c3 c4 c5
    by_cases e : a < i
    · exact h.s2 a b c1 e (by omega) c4 c5
    · have e2 : a = i := by omega
      subst e2
      by_cases e3 : b < j
      · exact h.s3 a b (by omega) (by omega) e3 c5
      · by_cases e4 : b = j
        · subst e4; omega
        · have := h.s4 j b (by omega) (by omega) c4 c5
          omega
  · intro a b c1 c2 c3 c4
    exact h.s3 a b (by omega) c2 c3 c4
theorem MInv.merged {L : List Int} {w p lo i j : Nat} (h : MInv L w p lo i j) (hij : ¬ (i < j ∧ j < lo + 2 * w ∧ j < L.length)) : Asc L lo (lo + 2 * w) := by
  intro a b c1 c2 c3 c4
  have b1 := h.h1
  have b2 := h.h2
  by_cases e : b < i
  · exact h.s1 a b c1 c2 e c4
  · by_cases e2 : a < i
    · exact h.s2 a b c1 e2 (by omega) c3 c4
    · by_cases e3 : i < j
      · exact h.s3 a b (by omega) c2 (by omega) c4
      · exact h.s4 a b (by omega) c2 c3 c4
theorem MInv.next {L : List Int} {w p lo i j : Nat} (h : MInv L w p lo i j) (hij : ¬ (i < j ∧ j < lo + 2 * w ∧ j < L.length)) : MInv L w (p + 1) (lo + 2 * w) (lo + 2 * w) (lo + 2 * w + w) := by
  have hlo := h.hlo
  have e0 : (p + 1) * (2 * w) = p * (2 * w) + 2 * w := by rw [Nat.add_mul, Nat.one_mul]
  have e1 : (2 * p + 2) * w = p * (2 * w) + 2 * w := by rw [Nat.add_mul, Nat.mul_comm 2 p, Nat.mul_assoc]
  have e2 : (2 * p + 2 + 1) * w = p * (2 * w) + 2 * w + w := by rw [Nat.add_mul (2 * p + 2), e1, Nat.one_mul]
  have e3 : (2 * p + 3 + 1) * w = p * (2 * w) + 2 * w + w + w := by rw [Nat.add_mul (2 * p + 3), show 2 * p + 3 = 2 * p + 2 + 1 from rfl, e2, Nat.one_mul]
  refine ⟨h.hw, by omega, by omega, by omega, by omega, by omega, ?_, ?_, ?_, ?_, ?_, ?_⟩
  · intro q hq
    by_cases e : q < p
    · exact h.done q e
    · have : q = p := by omega
      subst this
      rw [e0, ← hlo]
      exact h.merged hij
  · intro q hq
    exact h.todo q (by omega)
  · intro a b c1 c2 c3; omega
  · intro a b c1 c2; omega
  · have := h.todo (2 * p + 2) (by omega)
    rw [e1, e2, ← hlo] at this
    exact this
  · have := h.todo (2 * p + 3) (by omega)
    rw [show 2 * p + 3 = 2 * p + 2 + 1 from rfl, e2, show (2 * p + 2 + 1 + 1) * w = p * (2 * w) + 2 * w + w + w from e3, ← hlo] at this
    rw [show lo + 2 * w + 2 * w = lo + 2 * w + w + w by omega]
    exact this
/-- The end of a pass. -/
theorem MInv.pass {L : List Int} {w p lo : Nat} (h : MInv L w p lo lo (lo + w)) (hn : L.length ≤ lo + w) : MInv L (2 * w) 0 0 0 (2 * w) := by
  have hw := h.hw
  have hlo := h.hlo
  have all : ∀ q, Asc L (q * (2 * w)) ((q + 1) * (2 * w)) := by
    intro q
    by_cases e : q < p
    · exact h.done q e
    · by_cases e2 : q = p
      · subst e2
        intro a b c1 c2 c3 c4
        exact h.s3 a b (by omega) c2 (by omega) c4
      · intro a b c1 c2 c3 c4
        have := block_le (w := 2 * w) (show p < q by omega)
        have e0 : (p + 1) * (2 * w) = p * (2 * w) + 2 * w := by rw [Nat.add_mul, Nat.one_mul]
        omega
  refine ⟨by omega, by omega, by omega, by omega, by omega, by omega, ?_, ?_, ?_, ?_, ?_, ?_⟩
  · intro q hq; omega
  · intro q _; exact all q
  · intro a b c1 c2 c3; omega
  · intro a b c1 c2; omega
  · have := all 0
    rw [Nat.zero_mul, Nat.zero_add, Nat.one_mul] at this
    exact this
  · have := all 1
    rw [Nat.one_mul, show (1 + 1) * (2 * w) = 2 * (2 * w) from rfl] at this
    rw [Nat.zero_add]
    exact this
theorem MInv.sorted {L : List Int} {w : Nat} (h : MInv L w 0 0 0 w) (hn : L.length ≤ w) : Asc L 0 L.length := fun a b c1 c2 c3 c4 => h.s3 a b c1 c2 (by omega) c4
theorem MInv.init (L : List Int) : MInv L 1 0 0 0 1 := by
  refine ⟨by omega, by omega, by omega, by omega, by omega, by omega, ?_, ?_, ?_, ?_, ?_, ?_⟩
  · intro q hq; omega
  · intro q _ a b c1 c2 c3; omega
  · intro a b c1 c2 c3; omega
  · intro a b c1 c2; omega
  · intro a b c1 c2 c3; omega
  · intro a b c1 c2 c3; omega
/-- What belongs to a pair of runs (stability): every element's number lies in its block. -/
def Within (L : List Int) (ix : Int → Nat) (x y u v : Nat) : Prop := ∀ a, x ≤ a → a < y → a < L.length → u ≤ ix (gI L a) ∧ ix (gI L a) < v
structure BInv (L : List Int) (ix : Int → Nat) (w p lo i j : Nat) : Prop where
  done : ∀ q, q < p → Within L ix (q * (2 * w)) ((q + 1) * (2 * w)) (q * (2 * w)) ((q + 1) * (2 * w))
  todo : ∀ q, 2 * p + 2 ≤ q → Within L ix (q * w) ((q + 1) * w) (q * w) ((q + 1) * w)
  s1 : Within L ix lo i lo (lo + 2 * w)
  s3 : Within L ix i j lo (lo + w)
  s4 : Within L ix j (lo + 2 * w) (lo + w) (lo + 2 * w)
theorem within_rot {L : List Int} {ix : Int → Nat} {i j x y u v : Nat} (h : i ≤ j) (hj : j < L.length) (ha : Within L ix x y u v) (hd : y ≤ i ∨ j < x) : Within (rotL L i j) ix x y u v := by
  intro a h1 h2 h4
  rw [rot_len h hj] at h4
  have := ha a h1 h2 h4
  rw [rot_gI h hj]
  rcases hd with hd | hd
  · rw [if_pos (by omega)]; exact this
  · rw [if_neg (by omega), if_neg (by omega), if_neg (by omega)]; exact this
theorem BInv.less {L : List Int} {ix : Int → Nat} {w p lo i j : Nat} (h : MInv L w p lo i j) (b : BInv L ix w p lo i j) (hij : i < j) (hj : j < lo + 2 * w) (hn : j < L.length) : BInv (rotL L i j) ix w p lo (i + 1) (j + 1) := by
  have hle : i ≤ j := by omega
  have hlo := h.hlo
  have b1 := h.h1
  have b3 := h.h3
  refine ⟨?_, ?_, ?_, ?_, ?_⟩
  · intro q hq
    refine within_rot hle hn (b.done q hq) (.inl ?_)
    have := block_le (w := 2 * w) hq
    omega
  · intro q hq
    refine within_rot hle hn (b.todo q hq) (.inr ?_)
    have : (2 * p + 2) * w ≤ q * w := Nat.mul_le_mul_right _ hq
    have e : (2 * p + 2) * w = p * (2 * w) + 2 * w := by rw [Nat.add_mul, Nat.mul_comm 2 p, Nat.mul_assoc]
    omega
  · intro a c1 c2 c4
    rw [rot_len hle hn] at c4
    rw [rot_gI hle hn]
    by_cases e : a < i
    · rw [if_pos e]; exact b.s1 a c1 e c4
    · rw [if_neg e, if_pos (by omega)]
      have := b.s4 j (by omega) (by omega) hn
      omega
  · intro a c1 c2 c4
    rw [rot_len hle hn] at c4
    rw [rot_gI hle hn, if_neg (by omega), if_neg (by omega), if_pos (by omega)]
    exact b.s3 (a - 1) (by omega) (by omega) (by omega)
  · exact within_rot hle hn (fun a c1 c2 c4 => b.s4 a (by omega) c2 c4) (.inr (by omega))
theorem BInv.more {L : List Int} {ix : Int → Nat} {w p lo i j : Nat} (h : MInv L w p lo i j) (b : BInv L ix w p lo i j) (hij : i < j) : BInv L ix w p lo (i + 1) j := by
  have b1 := h.h1
  refine ⟨b.done, b.todo, ?_, fun a c1 c2 c3 => b.s3 a (by omega) c2 c3, b.s4⟩
  intro a c1 c2 c3
  by_cases e : a < i
  · exact b.s1 a c1 e c3
  · have := b.s3 a (by omega) (by omega) c3
    omega
theorem BInv.merged {L : List Int} {ix : Int → Nat} {w p lo i j : Nat} (b : BInv L ix w p lo i j) : Within L ix lo (lo + 2 * w) lo (lo + 2 * w) := by
  intro a c1 c2 c3
  by_cases e : a < i
  · exact b.s1 a c1 e c3
  · by_cases e2 : a < j
    · have := b.s3 a (by omega) e2 c3; omega
    · have := b.s4 a (by omega) c2 c3; omega
theorem BInv.next {L : List Int} {ix : Int → Nat} {w p lo i j : Nat} (h : MInv L w p lo i j) (b : BInv L ix w p lo i j) : BInv L ix w (p + 1) (lo + 2 * w) (lo + 2 * w) (lo + 2 * w + w) := by
  have hlo := h.hlo
  have e0 : (p + 1) * (2 * w) = p * (2 * w) + 2 * w := by rw [Nat.add_mul, Nat.one_mul]
  have e1 : (2 * p + 2) * w = p * (2 * w) + 2 * w := by rw [Nat.add_mul, Nat.mul_comm 2 p, Nat.mul_assoc]
  have e2 : (2 * p + 2 + 1) * w = p * (2 * w) + 2 * w + w := by rw [Nat.add_mul (2 * p + 2), e1, Nat.one_mul]
  have e3 : (2 * p + 3 + 1) * w = p * (2 * w) + 2 * w + w + w := by rw [Nat.add_mul (2 * p + 3), show 2 * p + 3 = 2 * p + 2 + 1 from rfl, e2, Nat.one_mul]
  refine ⟨?_, ?_, ?_, ?_, ?_⟩
  · intro q hq
    by_cases e : q < p
    · exact b.done q e
    · have : q = p := by omega
      subst this
      rw [e0, ← hlo]
      exact b.merged
  · intro q hq
    exact b.todo q (by omega)
  · intro a c1 c2; omega
  · have := b.todo (2 * p + 2) (by omega)
    rw [e1, e2, ← hlo] at this
    exact this
  · have := b.todo (2 * p + 3) (by omega)
    rw [show 2 * p + 3 = 2 * p + 2 + 1 from rfl, e2, show (2 * p + 2 + 1 + 1) * w = p * (2 * w) + 2 * w + w + w from e3, ← hlo] at this
    rw [show lo + 2 * w + 2 * w = lo + 2 * w + w + w by omega]
    exact this
theorem BInv.pass {L : List Int} {ix : Int → Nat} {w p lo : Nat} (h : MInv L w p lo lo (lo + w)) (b : BInv L ix w p lo lo (lo + w)) (hn : L.length ≤ lo + w) : BInv L ix (2 * w) 0 0 0 (2 * w) := by
  have hw := h.hw
  have hlo := h.hlo
  have all : ∀ q, Within L ix (q * (2 * w)) ((q + 1) * (2 * w)) (q * (2 * w)) ((q + 1) * (2 * w)) := by
    intro q
    by_cases e : q < p
    · exact b.done q e
    · by_cases e2 : q = p
      · subst e2
        have e0 : (q + 1) * (2 * w) = q * (2 * w) + 2 * w := by rw [Nat.add_mul, Nat.one_mul]
        rw [e0, ← hlo]
        exact b.merged
      · intro a c1 c2 c3
        have := block_le (w := 2 * w) (show p < q by omega)
        have e0 : (p + 1) * (2 * w) = p * (2 * w) + 2 * w := by rw [Nat.add_mul, Nat.one_mul]
        omega
  refine ⟨?_, ?_, ?_, ?_, ?_⟩
  · intro q hq; omega
  · intro q _; exact all q
  · intro a c1 c2; omega
  · have := all 0
    rw [Nat.zero_mul, Nat.zero_add, Nat.one_mul] at this
    rw [Nat.zero_add]
    exact this
  · have := all 1
    rw [Nat.one_mul, show (1 + 1) * (2 * w) = 2 * (2 * w) from rfl] at this
    rw [Nat.zero_add, Nat.zero_add]
    exact this
/-- In a merge the number of the left element is smaller. -/
theorem BInv.lt {L : List Int} {ix : Int → Nat} {w p lo i j : Nat} (b : BInv L ix w p lo i j) (hij : i < j) (hj : j < lo + 2 * w) (hn : j < L.length) : ix (gI L i) < ix (gI L j) := by
  have h1 := b.s3 i (by omega) hij (by omega)
  have h2 := b.s4 j (by omega) hj hn
  omega
theorem WalkG.take {E : Type} {P : Program} {ops : Array Oper} {I : Option E → World → Prop} {Fr : Option E → Nat → Prop} {Safe : Obj → Prop} {base : Nat} {m : Array Nat} {h : Nat} {fin : E → Option E} {Q : Exit → Act → World → Prop}
    {o : Oper} {rest : List Oper} {pre ks : List (Kd E)} {A : (Nat → Nat) → E → Act} (v : Value)
    (hs : ∀ p e W oo, I oo W → ((m.getD pre.length 0).testBit h = true → oo = some e) → ((m.getD h 0).testBit pre.length = true → oo = none) → Facts pre (m.getD pre.length 0) base (Fr oo) p W → Region.wanted o (yielded ops (A p e).tmps) = true ∧ (execOp (A p e).eval o).run P W = .ok (.value v) W)
    (hr : WalkG P ops I Fr Safe base m h fin Q rest (pre ++ [.val v]) (fun p e => (A p e).put o.dst v) ks) : WalkG P ops I Fr Safe base m h fin Q (o :: rest) pre A (.val v :: ks) :=
  .val v (fun p e W oo h1 h2 h2' h3 => StepK.take (hs p e W oo h1 h2 h2' h3).1 (hs p e W oo h1 h2 h2' h3).2 ⟨rfl, Below.refl _ _⟩) hr
theorem Only.below {n B : Nat} {w w' : World} (h : Only n w w') (hB : B ≤ n) (hs : B ≤ w.heap.size) : Below B w w' := ⟨h.os, h.tape, h.output, h.size, fun k hk => h.block k (by omega) (by omega)⟩
theorem Only.mods {n : Nat} {w w' : World} (h : Only n w w') : Mods (fun k => k = n) w w' := ⟨h.os, h.tape, h.output, h.size, fun k hk hn => h.block k hn hk⟩
theorem Only.of_mods {n : Nat} {w w' : World} (h : Mods (fun k => k = n) w w') : Only n w w' := ⟨h.os, h.tape, h.output, h.size, fun k hn hk => h.block k hk hn⟩
theorem only_five {W : World} {n : Nat} {a b c d e : Value} {t : TypeId} {fz : Nat × Nat} (h : W.heap[n]? = some (.cells #[a, b, c, d, e] t fz)) (x y z u v : Value) :
    Only n W (((((W.setCell ⟨n, 0, none⟩ x).setCell ⟨n, 1, none⟩ y).setCell ⟨n, 2, none⟩ z).setCell ⟨n, 3, none⟩ u).setCell ⟨n, 4, none⟩ v) ∧ (((((W.setCell ⟨n, 0, none⟩ x).setCell ⟨n, 1, none⟩ y).setCell ⟨n, 2, none⟩ z).setCell ⟨n, 3, none⟩ u).setCell ⟨n, 4, none⟩ v).heap[n]? = some (.cells #[x, y, z, u, v] t fz) :=
  ⟨Only.of_mods (mods_five (F := fun k => k = n) (Mods.refl _ _) (.inl rfl) _ _ _ _ _), heap_five_at h _ _ _ _ _⟩
set_option maxRecDepth 100000 in
set_option maxHeartbeats 2000000 in
theorem tshrink_c (w : World) (t m g : Nat) (sv : Value) (L : List Sl) (av : Value) (A : List V) (hT : TabW w t m g sv L av A) (hl : A.length ≤ 100000) : Calls Tryz.prog 81 #[.pointer (some ⟨t, 0, none⟩)] w (ShrinkPost w t m g sv L av (shrinkM A)) := by
  have htl : t < w.heap.size := (Array.getElem?_eq_some_iff.1 hT.ht).1
  have f0 : w.frozen? ⟨t, 0, none⟩ = false := frozen_of_heap hT.ht _
  obtain ⟨P, hP⟩ : ∃ P, P = shrinkM A := ⟨_, rfl⟩
  rw [← hP]
  have HP := Lib.hid (hP.symm)
  rcases hT.lw with ⟨rfl, rfl⟩ | ⟨ga, cap, cur, rfl, hcur, hcap, _⟩
  · have t0 : w.cell? ⟨t, 0, none⟩ = some (.slice none 0 0) := by rw [cell_of_heap hT.ht]; rfl
    have HT := Lib.hid (hT)
    clear hT hP
    go_enter Tryz.func81, Tryz.ntmps81
    go_wp2
    go_loopg [2] 1 (fun gg s2 wr => gg = 1 ∧ s2 = .int .i64 0 ∧ w = wr)
    case atStart => exact ⟨rfl, rfl, rfl⟩
    case round =>
      obtain ⟨rfl, rfl, rfl⟩ := hrel
      go_wp2
      refine bodyPost_ret (by simp [results, Tryz.results81, go_sem]; first | done | rfl) rfl ?_
      refine ⟨rfl, .slice none 0 0, ?_, fun b hb => hb, mods_setCell (F := (· = t)) (Mods.refl _ _) (.inl rfl) _⟩
      have hm : Mods (TbF t (.slice none 0 0)) w (w.setCell ⟨t, 0, none⟩ (.slice none 0 0)) := mods_setCell (Mods.refl _ _) (.inl (.inl rfl)) _
      have h : shrinkM [] = P := HP.out
      rw [← h]
      exact ⟨heap_setCell_same HT.out.ht 0 _, listW_nil _, fun v hv => (by cases hv), om_keepF HT.out.om HT.out.ht HT.out.lw hm⟩
  · have t0 : w.cell? ⟨t, 0, none⟩ = some (.slice (some ⟨ga, 0, none⟩) A.length cap) := by rw [cell_of_heap hT.ht]; rfl
    have HT := Lib.hid (hT)
    clear hT hP hcur
    go_enter Tryz.func81, Tryz.ntmps81
    go_wp2
    go_loopg [2] A.length (fun gg s2 wr => ∃ n : Nat, n = gg ∧ s2 = .int .i64 (n : Int) ∧ w = wr ∧ n ≤ A.length ∧ Hid (shrinkM (A.take n) = P))
    case atStart => exact ⟨A.length, rfl, rfl, rfl, Nat.le_refl _, Lib.hid (by rw [List.take_length]; exact HP.out)⟩
    case round =>
      obtain ⟨n, rfl, rfl, rfl, hn, HI⟩ := hrel
      by_cases hz : n = 0
      · subst hz
        go_wp2
        refine bodyPost_ret (by simp [results, Tryz.results81, go_sem]; first | done | rfl) rfl ?_
        have h := HI.out
        rw [List.take_zero] at h
        refine ⟨rfl, .slice (some ⟨ga, 0, none⟩) 0 0, ?_, fun b hb => hb, mods_setCell (F := (· = t)) (Mods.refl _ _) (.inl rfl) _⟩
        have hc := tabW_cut HT.out 0 (Nat.zero_le _)
        rw [List.take_zero] at hc
        rw [← h]
        exact hc
      · obtain ⟨i, rfl⟩ : ∃ i, n = i + 1 := ⟨n - 1, by omega⟩
        obtain ⟨v, hv⟩ : ∃ v, A[i]? = some v := ⟨_, List.getElem?_eq_getElem (by omega)⟩
        obtain ⟨c0, c1, c2, c3, c4⟩ := listW_five HT.out.lw hv
        have hi1 : (i : Int) < (A.length : Int) := by omega
        by_cases hk : v.k = 0
        · have ek : (v.k == 0) = true := beq_iff_eq.2 hk
          have HN := Lib.hid (shrink_nil (A := A.take i) hk)
          have HV := Lib.hid (hv)
          clear hv hk
          go_wp2
          go_roundg i
          case measure => omega
          case rel => exact ⟨i, rfl, by push_cast; first | rfl | omega, rfl, by omega, Lib.hid (by have h := HI.out; rw [take_last HV.out, HN.out] at h; exact h)⟩
        · have ek : (v.k == 0) = false := beq_eq_false_iff_ne.2 hk
          have HN := Lib.hid (shrink_stop (A := A.take i) hk)
          have HV := Lib.hid (hv)
          clear hv hk
          go_wp2
          refine bodyPost_ret (by simp [results, Tryz.results81, go_sem]; first | done | rfl) rfl ?_
          have h := HI.out
          rw [take_last HV.out, HN.out] at h
          refine ⟨rfl, .slice (some ⟨ga, 0, none⟩) (i + 1) (i + 1), ?_, fun b hb => hb, mods_setCell (F := (· = t)) (Mods.refl _ _) (.inl rfl) _⟩
          have hc := tabW_cut HT.out (i + 1) hn
          rw [take_last HV.out, h] at hc
          exact hc
set_option maxRecDepth 100000 in
set_option maxHeartbeats 2000000 in
theorem pIs_c (w : World) (k1 p1 q1 : Int) (s1 : ByteArray) (r1 : Int) : Calls Tryz.prog 124 #[.agg #[.int .i64 k1, .int .i64 p1, .int .i64 q1, .string s1, .int .i64 r1]] w (NdPost w (ndVal ⟨k1, p1, q1, s1, r1⟩)) := by
  go_enter Tryz.func124, Tryz.ntmps124
  go_wp2
  refine bodyPost_ret (by simp [results, Tryz.results124, go_sem]; first | done | rfl) rfl ?_
  exact ⟨.slice none 0 0, rfl, .inl ⟨rfl, rfl⟩, by first | exact below2w _ _ _ | trace_state⟩
set_option maxRecDepth 100000 in
set_option maxHeartbeats 8000000 in
theorem pSet_ok (w : World) (h bo bt : Nat) (H : List PO) (hH : HpAt w h bo bt H) (i : Nat) (x : PO) (hi : H[i]? = some x) (h4 : x.kind = 4) (L' : List Sl) (A' : List V) (k1 p1 q1 : Int) (s1 : ByteArray) (r1 : Int) (kk pp qq : Int) (ss : ByteArray) (rr : Int) (hk0 : (kk == 0) = false) (k2 p2 q2 : Int) (s2 : ByteArray) (r2 : Int) (T : ∀ W, Below w.heap.size w W → Calls Tryz.prog 36 #[.pointer (some ⟨h, 0, none⟩), .agg #[.int .i64 k1, .int .i64 p1, .int .i64 q1, .string s1, .int .i64 r1]] W (PtrPost W (.pointer (some ⟨x.t, 0, none⟩)))) (V : ∀ W, Calls Tryz.prog 43 #[.agg #[.int .i64 kk, .int .i64 pp, .int .i64 qq, .string ss, .int .i64 rr]] W (BoolPost W true)) (E : ∀ W, Calls Tryz.prog 44 #[.agg #[.int .i64 k2, .int .i64 p2, .int .i64 q2, .string s2, .int .i64 r2]] W (IntPost W 0))
    (S : ∀ W, Below w.heap.size w W → Calls Tryz.prog 46 #[.pointer (some ⟨x.t, 0, none⟩), .agg #[.int .i64 kk, .int .i64 pp, .int .i64 qq, .string ss, .int .i64 rr], .agg #[.int .i64 k2, .int .i64 p2, .int .i64 q2, .string s2, .int .i64 r2]] W (TWPost W x.t x.m x.g x.sv x.av L' A'))
    (U : ∀ W H', HpAt W h bo bt H' → Calls Tryz.prog 45 #[.pointer (some ⟨h, 0, none⟩), .agg #[.int .i64 k1, .int .i64 p1, .int .i64 q1, .string s1, .int .i64 r1], .int .i64 0] W (TouchPost W h bo bt H')) :
    Calls Tryz.prog 23 #[.pointer (some ⟨h, 0, none⟩), .agg #[.int .i64 k1, .int .i64 p1, .int .i64 q1, .string s1, .int .i64 r1], .agg #[.int .i64 kk, .int .i64 pp, .int .i64 qq, .string ss, .int .i64 rr], .agg #[.int .i64 k2, .int .i64 p2, .int .i64 q2, .string s2, .int .i64 r2]] w (HSetPost w h bo bt H i x L' A') := by
  have hbt : bt < w.heap.size := by obtain ⟨E, hE⟩ := hH.touched; exact hE.lt
  have HF := Lib.hid (fun b => hp_lt (b := b) hH)
  have hxm := List.mem_of_getElem? hi
  have HX := Lib.hid (fun b (hb : TwF x.t x.m x.g x.sv x.av b) => hp_lt hH (.inr (.inr (.inr ⟨x, hxm, .inr ⟨h4, hb⟩⟩))))
  have HXM := Lib.hid hxm
  have HHH := Lib.hid hH
  have HI := Lib.hid hi
  have H4 := Lib.hid h4
  have HT := Lib.hid T
  have HV := Lib.hid V
  have HE := Lib.hid E
  have HS := Lib.hid S
  have HU := Lib.hid U
  clear T V E S U hH hi h4 hxm
  go_enter Tryz.func23, Tryz.ntmps23
  go_wp2_with fail
  refine (HT.out _ ((below2w _ _ _).alloc (by simp; omega) _)).mono ?_
  rintro e w1 ⟨rfl, hb⟩
  have Ha1 := Lib.hid (hkeep hb (heap3_a _ _ _ _))
  have Hb1 := Lib.hid (hkeep hb (heap3_b _ _ _ _))
  have Hc1 := Lib.hid (hkeep hb (heap3_c _ _ _ _))
  have HW1 := Lib.hid (below_next (((below2w _ _ _).alloc (by simp; omega) _)) hb)
  have hz1 := hb.size
  try simp at hz1
  clear hb
  have hyb : w.heap.size + 1 < w1.heap.size := (Array.getElem?_eq_some_iff.1 Hb1.out).1
  have b0 : w1.cell? ⟨w.heap.size + 1, 0, none⟩ = some (.int .i64 kk) := by rw [cell_of_heap Hb1.out]; rfl
  have b1 : w1.cell? ⟨w.heap.size + 1, 1, none⟩ = some (.int .i64 pp) := by rw [cell_of_heap Hb1.out]; rfl
  have b2 : w1.cell? ⟨w.heap.size + 1, 2, none⟩ = some (.int .i64 qq) := by rw [cell_of_heap Hb1.out]; rfl
  have b3 : w1.cell? ⟨w.heap.size + 1, 3, none⟩ = some (.string ss) := by rw [cell_of_heap Hb1.out]; rfl
  have b4 : w1.cell? ⟨w.heap.size + 1, 4, none⟩ = some (.int .i64 rr) := by rw [cell_of_heap Hb1.out]; rfl
  have hyc : w.heap.size + 1 + 1 < w1.heap.size := (Array.getElem?_eq_some_iff.1 Hc1.out).1
  have c0 : w1.cell? ⟨w.heap.size + 1 + 1, 0, none⟩ = some (.int .i64 k2) := by rw [cell_of_heap Hc1.out]; rfl
  have c1 : w1.cell? ⟨w.heap.size + 1 + 1, 1, none⟩ = some (.int .i64 p2) := by rw [cell_of_heap Hc1.out]; rfl
  have c2 : w1.cell? ⟨w.heap.size + 1 + 1, 2, none⟩ = some (.int .i64 q2) := by rw [cell_of_heap Hc1.out]; rfl
  have c3 : w1.cell? ⟨w.heap.size + 1 + 1, 3, none⟩ = some (.string s2) := by rw [cell_of_heap Hc1.out]; rfl
  have c4 : w1.cell? ⟨w.heap.size + 1 + 1, 4, none⟩ = some (.int .i64 r2) := by rw [cell_of_heap Hc1.out]; rfl
  go_wp2_with fail
  refine (HV.out _).mono ?_
  rintro e w2 ⟨rfl, hb⟩
  have Ha2 := Lib.hid (hkeep hb (Ha1.out))
  have Hb2 := Lib.hid (hkeep hb (Hb1.out))
  have Hc2 := Lib.hid (hkeep hb (Hc1.out))
  have HW2 := Lib.hid (below_next (HW1.out) hb)
  have hz2 := hb.size
  try simp at hz2
  clear hb
  clear hyb b0 b1 b2 b3 b4 hyc c0 c1 c2 c3 c4
  have hyc : w.heap.size + 1 + 1 < w2.heap.size := (Array.getElem?_eq_some_iff.1 Hc2.out).1
  have c0 : w2.cell? ⟨w.heap.size + 1 + 1, 0, none⟩ = some (.int .i64 k2) := by rw [cell_of_heap Hc2.out]; rfl
  have c1 : w2.cell? ⟨w.heap.size + 1 + 1, 1, none⟩ = some (.int .i64 p2) := by rw [cell_of_heap Hc2.out]; rfl
  have c2 : w2.cell? ⟨w.heap.size + 1 + 1, 2, none⟩ = some (.int .i64 q2) := by rw [cell_of_heap Hc2.out]; rfl
  have c3 : w2.cell? ⟨w.heap.size + 1 + 1, 3, none⟩ = some (.string s2) := by rw [cell_of_heap Hc2.out]; rfl
  have c4 : w2.cell? ⟨w.heap.size + 1 + 1, 4, none⟩ = some (.int .i64 r2) := by rw [cell_of_heap Hc2.out]; rfl
  go_wp2_with fail
  refine (HE.out _).mono ?_
  rintro e w3 ⟨rfl, hb⟩
  have Ha3 := Lib.hid (hkeep hb (Ha2.out))
  have Hb3 := Lib.hid (hkeep hb (Hb2.out))
  have Hc3 := Lib.hid (hkeep hb (Hc2.out))
  have HW3 := Lib.hid (below_next (HW2.out) hb)
  have hz3 := hb.size
  try simp at hz3
  clear hb
  clear hyc c0 c1 c2 c3 c4
  have SO := Lib.hid (fun (W : World) (ha : W.heap[w.heap.size]? = some (oV k1 p1 q1 s1 r1)) (hb : W.heap[w.heap.size + 1]? = some (oV kk pp qq ss rr)) (hc : W.heap[w.heap.size + 1 + 1]? = some (oV k2 p2 q2 s2 r2)) => (show W.cell? ⟨w.heap.size, 0, none⟩ = some (.int .i64 k1) ∧ W.cell? ⟨w.heap.size, 1, none⟩ = some (.int .i64 p1) ∧ W.cell? ⟨w.heap.size, 2, none⟩ = some (.int .i64 q1) ∧ W.cell? ⟨w.heap.size, 3, none⟩ = some (.string s1) ∧ W.cell? ⟨w.heap.size, 4, none⟩ = some (.int .i64 r1) ∧ W.cell? ⟨w.heap.size + 1, 0, none⟩ = some (.int .i64 kk) ∧ W.cell? ⟨w.heap.size + 1, 1, none⟩ = some (.int .i64 pp) ∧ W.cell? ⟨w.heap.size + 1, 2, none⟩ = some (.int .i64 qq) ∧ W.cell? ⟨w.heap.size + 1, 3, none⟩ = some (.string ss) ∧ W.cell? ⟨w.heap.size + 1, 4, none⟩ = some (.int .i64 rr) ∧ W.cell? ⟨w.heap.size + 1 + 1, 0, none⟩ = some (.int .i64 k2) ∧ W.cell? ⟨w.heap.size + 1 + 1, 1, none⟩ = some (.int .i64 p2) ∧ W.cell? ⟨w.heap.size + 1 + 1, 2, none⟩ = some (.int .i64 q2) ∧ W.cell? ⟨w.heap.size + 1 + 1, 3, none⟩ = some (.string s2) ∧ W.cell? ⟨w.heap.size + 1 + 1, 4, none⟩ = some (.int .i64 r2) from ⟨by rw [cell_of_heap ha]; rfl, by rw [cell_of_heap ha]; rfl, by rw [cell_of_heap ha]; rfl, by rw [cell_of_heap ha]; rfl, by rw [cell_of_heap ha]; rfl, by rw [cell_of_heap hb]; rfl, by rw [cell_of_heap hb]; rfl, by rw [cell_of_heap hb]; rfl, by rw [cell_of_heap hb]; rfl, by rw [cell_of_heap hb]; rfl, by rw [cell_of_heap hc]; rfl, by rw [cell_of_heap hc]; rfl, by rw [cell_of_heap hc]; rfl, by rw [cell_of_heap hc]; rfl, by rw [cell_of_heap hc]; rfl⟩))
  go_wp2
  have xa : w3.drew.heap[w.heap.size]? = some (oV k1 p1 q1 s1 r1) := Ha3.out
  have xb : w3.drew.heap[w.heap.size + 1]? = some (oV kk pp qq ss rr) := Hb3.out
  have xc : w3.drew.heap[w.heap.size + 1 + 1]? = some (oV k2 p2 q2 s2 r2) := Hc3.out
  have hw3 : w.heap.size ≤ w3.heap.size := HW3.out.size
  go_region_held3 (fun w' => w'.cell? ⟨w.heap.size, 0, none⟩ = some (.int .i64 k1) ∧ w'.cell? ⟨w.heap.size, 1, none⟩ = some (.int .i64 p1) ∧ w'.cell? ⟨w.heap.size, 2, none⟩ = some (.int .i64 q1) ∧ w'.cell? ⟨w.heap.size, 3, none⟩ = some (.string s1) ∧ w'.cell? ⟨w.heap.size, 4, none⟩ = some (.int .i64 r1) ∧ w'.cell? ⟨w.heap.size + 1, 0, none⟩ = some (.int .i64 kk) ∧ w'.cell? ⟨w.heap.size + 1, 1, none⟩ = some (.int .i64 pp) ∧ w'.cell? ⟨w.heap.size + 1, 2, none⟩ = some (.int .i64 qq) ∧ w'.cell? ⟨w.heap.size + 1, 3, none⟩ = some (.string ss) ∧ w'.cell? ⟨w.heap.size + 1, 4, none⟩ = some (.int .i64 rr) ∧ w'.cell? ⟨w.heap.size + 1 + 1, 0, none⟩ = some (.int .i64 k2) ∧ w'.cell? ⟨w.heap.size + 1 + 1, 1, none⟩ = some (.int .i64 p2) ∧ w'.cell? ⟨w.heap.size + 1 + 1, 2, none⟩ = some (.int .i64 q2) ∧ w'.cell? ⟨w.heap.size + 1 + 1, 3, none⟩ = some (.string s2) ∧ w'.cell? ⟨w.heap.size + 1 + 1, 4, none⟩ = some (.int .i64 r2))
    (first | with_reducible exact SO.out _ (by assumption) (by assumption) (by assumption))
    (first | (go_at_call 46; refine (HS.out _ HW3.out.drew).mono ?_; rintro e w4 ⟨rfl, m', g', sv', av', hT4, hown4, hM4⟩; have xa4 := mods_keep hM4 xa (fun e => by have := HX.out _ e; omega); have xb4 := mods_keep hM4 xb (fun e => by have := HX.out _ e; omega); have xc4 := mods_keep hM4 xc (fun e => by have := HX.out _ e; omega); have HH4 := Lib.hid (((HHH.out.below HW3.out.drew).setTab HI.out H4.out hT4 hM4 hown4)); have HM4 := Lib.hid hM4; have HO4 := Lib.hid hown4; clear hT4 hM4 hown4 xa xb xc) | (go_at_call 45; refine (HU.out _ _ HH4.out).mono ?_; rintro e w5 ⟨rfl, hH5, hM5⟩; have xa5 := mods_keep hM5 xa4 (by omega); have xb5 := mods_keep hM5 xb4 (by omega); have xc5 := mods_keep hM5 xc4 (by omega); have HH5 := Lib.hid hH5; have HM5 := Lib.hid hM5; clear hH5 hM5 xa4 xb4 xc4))
  go_wp2
  go_ret
  have hb3 : Below w.heap.size w w3.drew := HW3.out.drew
  obtain ⟨q1, q2, q3, q4⟩ := HO4.out
  exact ⟨rfl, m', g', sv', av', HH5.out, ((Mods.of_below hb3).trans (HM4.out.mono (fun k _ e => .inr (.inr (.inr ⟨x, HXM.out, .inr ⟨H4.out, e⟩⟩))))).trans (HM5.out.mono (fun k _ e => .inr (.inr (.inl e)))), ⟨q1.imp id (Nat.le_trans hb3.size), q2.imp id (Nat.le_trans hb3.size), fun b hb => (q3 b hb).imp id (Nat.le_trans hb3.size), fun b hb => (q4 b hb).imp id (Nat.le_trans hb3.size)⟩⟩
/-- The form without a great call. -/
theorem wp_region_boxes {P : Program} {Q : Exit → Act → World → Prop} {id : Nat} {l : List Oper} {a0 : Act} {w : World} {ks : List (Kd Unit)} (hm : P.follows .mixedOrders = true) (hB : freeCheck l.toArray (Region.before l.toArray) a0.tmps.size = true)
    (hw : WalkG P l.toArray (fun (_ : Option Unit) W => Below w.heap.size w W) (fun _ n => w.heap.size ≤ n) (fun _ => True) w.heap.size (Region.before l.toArray) l.length (fun _ => none) Q l [] (fun _ _ => a0) ks)
    (hK : kindsCheck ks (Region.before l.toArray) l.length l.length = true) (hL : ((Region.before l.toArray).toList.all fun x => !x.testBit l.length) = true) : (Code.region id l.toArray true).wp P Q a0 w :=
  wp_region_free _ _ _ _ _ _ (fun _ => 0) () hm hB (Below.refl _ _).drew (fun _ => by simp) (fun _ _ _ h hb => below_next h hb) (fun _ _ _ _ h hn _ _ _ ho => h.trans (Only.below ho hn h.size)) (fun _ _ _ h hn => Nat.le_trans h.size hn) (fun _ _ h => h.size) hw hK (by rw [hL]; simp)
end Go.Proofs.YtpbcmlnjiocmoaaGreatDoorR
