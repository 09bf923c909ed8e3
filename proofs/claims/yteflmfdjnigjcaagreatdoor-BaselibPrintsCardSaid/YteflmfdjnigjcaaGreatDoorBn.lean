import Derived.Test.YteflmfdjnigjcaaGreatDoorOq
import Derived.Test.YteflmfdjnigjcaaGreatDoorHpS
set_option linter.unusedVariables false
set_option linter.unusedSimpArgs false
set_option maxRecDepth 100000
set_option maxHeartbeats 2000000
namespace Go.Proofs.YteflmfdjnigjcaaGreatDoor
open Go.RowKit Go.Proofs.Lexi
set_option maxRecDepth 100000 in
set_option maxHeartbeats 2000000 in
theorem bnames_c (w : World) (hw : Spaces w) : Calls Tryz.prog 64 #[] w (NamesPost w) := by
  have HF : ∀ s : ByteArray, s.data.toList = nbL → s.size = 300 ∨ s.size < 4294967281 → Calls Tryz.prog 116 #[.string s] w (NamesPost w) := fun s hs hz => by
    refine (Tryz.strings_Fields_laid s w ?_ ?_ hw).mono ?_
    · have : s.size = s.data.toList.length := rfl
      rw [this, hs]
      decide
    · intro j b hb
      rw [hs] at hb
      have hall : ∀ b ∈ nbL, b.toNat < 128 := by decide
      exact hall b (List.mem_of_getElem? hb)
    · rintro e w' ⟨rfl, rfl⟩
      rw [hs, nb_len]
      refine ⟨rfl, ?_⟩
      unfold namesL
      rw [List.map_map]
      rfl
  have HFF := Lib.hid HF
  clear HF hw
  go_enter Tryz.func64, Tryz.ntmps64
  go_wp2_with fail
  refine (HFF.out _ (by rfl) (.inr (by decide))).mono ?_
  rintro e w1 ⟨rfl, rfl⟩
  go_wp2
  go_ret
  exact ⟨rfl, rfl⟩
set_option maxRecDepth 100000 in
set_option maxHeartbeats 2000000 in
theorem bnumber_c (w : World) (x : ByteArray) (hw : Spaces w) : Calls Tryz.prog 33 #[.string x] w (IntPost w (Lib.idxOfS namesL x)) := by
  have HN := Lib.hid (bnames_c w hw)
  have HI : Calls Tryz.prog 63 #[.slice (some ⟨w.heap.size, 0, none⟩) 29 29, .string x] (w.alloc (.cells (namesL.map Value.string).toArray 9)) (fun e w' => e = .returned (.int .i64 (Lib.idxOfS namesL x)) ∧ w' = w.alloc (.cells (namesL.map Value.string).toArray 9)) := by
    have := Tryz.slices_Index_string w.heap.size 0 29 29 namesL x (w.alloc (.cells (namesL.map Value.string).toArray 9)) (by rw [names_len]; exact Nat.le_refl _) (by decide) (fun j hj => by
      rw [cell_of_heap (heap_new w _), Nat.zero_add]
      show (namesL.map Value.string).toArray[j]? = _
      rw [List.getElem?_toArray, List.getElem?_map, List.getD_eq_getElem?_getD, List.getElem?_eq_getElem hj]
      rfl)
    rw [show namesL.take 29 = namesL from List.take_of_length_le (by rw [names_len]; exact Nat.le_refl _)] at this
    exact this
  have HII := Lib.hid HI
  clear HI hw
  go_enter Tryz.func33, Tryz.ntmps33
  go_wp2_with fail
  refine HN.out.mono ?_
  rintro e w1 ⟨rfl, rfl⟩
  go_wp2_with fail
  refine HII.out.mono ?_
  rintro e w2 ⟨rfl, rfl⟩
  go_wp2
  go_ret
  exact ⟨rfl, below1 _ _⟩
theorem neqs_run (W : World) (v : V) : (binOp .neq 30 (.agg #[.int .i64 v.k, .int .i64 v.p, .int .i64 v.q, .string v.s, .int .i64 v.r]) (.agg #[.int .i64 v.k, .int .i64 v.p, .int .i64 v.q, .string v.s, .int .i64 v.r])).run Tryz.prog W = .ok (.bool false) W := by
  have := neq_run W v.k v.p v.q v.s v.r v.k v.p v.q v.s v.r
  rw [this]
  simp [eqV]
set_option maxRecDepth 100000 in
set_option maxHeartbeats 2000000 in
theorem same_true (w : World) (so sp : Option Addr) (n m cap cap2 : Nat) (A : List V) (hA : Vals w (.slice so n cap) A) (hB : Vals w (.slice sp m cap2) A) (hl : A.length ≤ 1000) :
    Calls Tryz.prog 13 #[.slice so n cap, .slice sp m cap2] w (BoolPost w true) := by
  have hn : n = A.length := by obtain ⟨_, _, e, _⟩ := hA; injection e
  have hm : m = A.length := by obtain ⟨_, _, e, _⟩ := hB; injection e
  subst hn
  subst hm
  have HA := Lib.hid hA
  have HB := Lib.hid hB
  clear hA hB
  go_enter Tryz.func13, Tryz.ntmps13
  go_wp2
  go_loopg [13] A.length (fun gg iv wr => ∃ i k : Nat, gg = A.length - i ∧ iv = .int .i64 (i : Int) ∧ wr = w.drewN k ∧ i ≤ A.length)
  case atStart => exact ⟨0, 0, rfl, rfl, rfl, Nat.zero_le _⟩
  obtain ⟨i, k, rfl, rfl, rfl, hi⟩ := hrel
  by_cases hlt : i < A.length
  · obtain ⟨v, hv⟩ : ∃ v, A[i]? = some v := ⟨_, List.getElem?_eq_getElem hlt⟩
    have hne : A ≠ [] := fun h => by rw [h] at hlt; simp at hlt
    obtain ⟨g1, o1, rfl⟩ := Vals.some_of HA.out hne
    obtain ⟨g2, o2, rfl⟩ := Vals.some_of HB.out hne
    clear hne
    obtain ⟨hg1, b0, b1, b2, b3, b4⟩ := Vals.at_ HA.out hv
    obtain ⟨hg2, d0, d1, d2, d3, d4⟩ := Vals.at_ HB.out hv
    have NE := fun W => neqs_run W v
    clear hv
    go_wp2
    go_quiet (fail)
    go_wp2
    go_roundg (A.length - (i + 1))
    case measure => omega
    case rel => exact ⟨i + 1, _, rfl, by push_cast; rfl, by first | rfl | exact World.drewN_drewN .. | simp, by omega⟩
  · go_wp2
    go_ret
    exact ⟨rfl, bdn (Below.refl _ _) _⟩
set_option maxRecDepth 100000 in
set_option maxHeartbeats 2000000 in
theorem begin_plain (w : World) (nm : ByteArray) (so : Option Addr) (k cap : Nat) (n : Int) (hn : n ≠ 2 ∧ n ≠ 3 ∧ n ≠ 4 ∧ n ≠ 5 ∧ n ≠ 6 ∧ n ≠ 7 ∧ n ≠ 8 ∧ n ≠ 9 ∧ n ≠ 17 ∧ n ≠ 28 ∧ n ≠ 1 ∧ n ≠ 14 ∧ n ≠ 0 ∧ n ≠ 10 ∧ n ≠ 19 ∧ n ≠ 20 ∧ n ≠ 21 ∧ n ≠ 22 ∧ n ≠ 11 ∧ n ≠ 24 ∧ n ≠ 15 ∧ 0 ≤ n) (hli : Lib.lastIndexByte nm 46 = -1) (hz : nm.size ≤ 100) (hx : Lib.idxOfS namesL nm = n) (hw : Spaces w)
    (kind op : Int) (fk fp fq : Int) (fs : ByteArray) (fr : Int) (A : List V) (s : ByteArray) (level next : Int) (K : List V)
    (HCH : ∀ W c, Below w.heap.size w W → W.heap[c]? = some (oCl nm (.slice so k cap)) → w.heap.size ≤ c → Calls Tryz.prog 37 #[.pointer (some ⟨c, 0, none⟩), .int .i64 n] W (ActPost (fun k => k = c) W kind op ⟨fk, fp, fq, fs, fr⟩ A s level next K)) :
    Calls Tryz.prog 12 #[.pointer none, .string nm, .slice so k cap] w (ActPost NoF w kind op ⟨fk, fp, fq, fs, fr⟩ A s level next K) := by
  have HL := Lib.hid (fun W => Tryz.strings_LastIndexByte nm 46 (by omega) W)
  rw [hli] at HL
  have HN := Lib.hid (fun W (hb : Below w.heap.size w W) => bnumber_c W nm (Spaces.stays hw hb))
  rw [hx] at HN
  have HP := Lib.hid (HCH)
  have q2 : (n == 2) = false := beq_eq_false_iff_ne.2 (by omega)
  have q3 : (n == 3) = false := beq_eq_false_iff_ne.2 (by omega)
  have q4 : (n == 4) = false := beq_eq_false_iff_ne.2 (by omega)
  have q5 : (n == 5) = false := beq_eq_false_iff_ne.2 (by omega)
  have q6 : (n == 6) = false := beq_eq_false_iff_ne.2 (by omega)
  have q7 : (n == 7) = false := beq_eq_false_iff_ne.2 (by omega)
  have q8 : (n == 8) = false := beq_eq_false_iff_ne.2 (by omega)
  have q9 : (n == 9) = false := beq_eq_false_iff_ne.2 (by omega)
  have q17 : (n == 17) = false := beq_eq_false_iff_ne.2 (by omega)
  have q28 : (n == 28) = false := beq_eq_false_iff_ne.2 (by omega)
  have q1 : (n == 1) = false := beq_eq_false_iff_ne.2 (by omega)
  have q14 : (n == 14) = false := beq_eq_false_iff_ne.2 (by omega)
  have q0 : (n == 0) = false := beq_eq_false_iff_ne.2 (by omega)
  have q10 : (n == 10) = false := beq_eq_false_iff_ne.2 (by omega)
  have q19 : (n == 19) = false := beq_eq_false_iff_ne.2 (by omega)
  have q20 : (n == 20) = false := beq_eq_false_iff_ne.2 (by omega)
  have q21 : (n == 21) = false := beq_eq_false_iff_ne.2 (by omega)
  have q22 : (n == 22) = false := beq_eq_false_iff_ne.2 (by omega)
  have q11 : (n == 11) = false := beq_eq_false_iff_ne.2 (by omega)
  have q24 : (n == 24) = false := beq_eq_false_iff_ne.2 (by omega)
  have q15 : (n == 15) = false := beq_eq_false_iff_ne.2 (by omega)
  have qm : (n == -1) = false := beq_eq_false_iff_ne.2 (by omega)
  have hz2 : (nm.size : Int) ≤ 100 := by omega
  clear hw HCH hli hx
  go_enter Tryz.func12, Tryz.ntmps12
  go_wp2_with fail
  refine (HL.out _).mono ?_
  rintro e w1 ⟨rfl, rfl⟩
  go_wp2_with fail
  refine (HN.out _ (below2w _ _ _)).mono ?_
  rintro e w2 ⟨rfl, hb⟩
  have Ha2 := Lib.hid (hkeep hb (heap2_a w oAc (oCl nm (.slice so k cap))))
  have Hc2 := Lib.hid (hkeep hb (heap2_b w oAc (oCl nm (.slice so k cap))))
  have HW2 := Lib.hid (below_next (below2w _ _ _) hb)
  have hz2 := hb.size
  try simp at hz2
  clear hb
  go_wp2_with fail
  refine (HP.out _ _ HW2.out Hc2.out (by omega)).mono ?_
  rintro e w3 ⟨so3, cap3, sk3, ck3, rfl, hr, hk, hm⟩
  have HR3 := Lib.hid (hr)
  have HK3 := Lib.hid (hk)
  have Ha3 := Lib.hid (mkeep hm Ha2.out (by omega))
  have HW3 := Lib.hid (Mods.below (Mods.trans (Mods.of_below HW2.out) hm) (Nat.le_refl _) (fun k hk h => by omega))
  have hlt := (Array.getElem?_eq_some_iff.1 Ha2.out).1
  clear hr hk hm
  have hya : w.heap.size < w3.heap.size := (Array.getElem?_eq_some_iff.1 Ha3.out).1
  obtain ⟨a0, a1, a2, a3, a4, a5, a6, a7, a8, a9, a10, a11⟩ := cells12 Ha3.out
  obtain ⟨fa0, fa1, fa2, fa3, fa4, fa5, fa6, fa7, fa8, fa9, fa10, fa11⟩ := froz12 Ha3.out
  go_wp2
  refine bodyPost_ret (by simp [results, Tryz.results12, go_sem, hya, a0, a1, a2, a3, a4, a5, a6, a7, a8, a9, a10, a11]; first | done | rfl) rfl ?_
  exact act_end HR3.out HK3.out (Mods.of_below HW3.out) (Nat.le_refl _) hlt _ _ _ _ _ _ _ _ _ _ _ _
set_option maxRecDepth 100000 in
set_option maxHeartbeats 2000000 in
theorem begin_pcall (w : World) (nm : ByteArray) (so : Option Addr) (k cap : Nat)  (hli : Lib.lastIndexByte nm 46 = -1) (hz : nm.size ≤ 100) (hx : Lib.idxOfS namesL nm = 17) (hw : Spaces w)
    (kind op : Int) (fk fp fq : Int) (fs : ByteArray) (fr : Int) (A : List V) (s : ByteArray) (level next : Int) (K : List V)
    (HCH : ∀ W c, Below w.heap.size w W → W.heap[c]? = some (oCl nm (.slice so k cap)) → w.heap.size ≤ c → Calls Tryz.prog 35 #[.pointer (some ⟨c, 0, none⟩), .int .i64 17] W (ActPost (fun k => k = c) W kind op ⟨fk, fp, fq, fs, fr⟩ A s level next K)) :
    Calls Tryz.prog 12 #[.pointer none, .string nm, .slice so k cap] w (ActPost NoF w kind op ⟨fk, fp, fq, fs, fr⟩ A s level next K) := by
  have HL := Lib.hid (fun W => Tryz.strings_LastIndexByte nm 46 (by omega) W)
  rw [hli] at HL
  have HN := Lib.hid (fun W (hb : Below w.heap.size w W) => bnumber_c W nm (Spaces.stays hw hb))
  rw [hx] at HN
  have HP := Lib.hid (HCH)
  have hz2 : (nm.size : Int) ≤ 100 := by omega
  clear hw HCH hli hx
  go_enter Tryz.func12, Tryz.ntmps12
  go_wp2_with fail
  refine (HL.out _).mono ?_
  rintro e w1 ⟨rfl, rfl⟩
  go_wp2_with fail
  refine (HN.out _ (below2w _ _ _)).mono ?_
  rintro e w2 ⟨rfl, hb⟩
  have Ha2 := Lib.hid (hkeep hb (heap2_a w oAc (oCl nm (.slice so k cap))))
  have Hc2 := Lib.hid (hkeep hb (heap2_b w oAc (oCl nm (.slice so k cap))))
  have HW2 := Lib.hid (below_next (below2w _ _ _) hb)
  have hz2 := hb.size
  try simp at hz2
  clear hb
  go_wp2_with fail
  refine (HP.out _ _ HW2.out Hc2.out (by omega)).mono ?_
  rintro e w3 ⟨so3, cap3, sk3, ck3, rfl, hr, hk, hm⟩
  have HR3 := Lib.hid (hr)
  have HK3 := Lib.hid (hk)
  have Ha3 := Lib.hid (mkeep hm Ha2.out (by omega))
  have HW3 := Lib.hid (Mods.below (Mods.trans (Mods.of_below HW2.out) hm) (Nat.le_refl _) (fun k hk h => by omega))
  have hlt := (Array.getElem?_eq_some_iff.1 Ha2.out).1
  clear hr hk hm
  have hya : w.heap.size < w3.heap.size := (Array.getElem?_eq_some_iff.1 Ha3.out).1
  obtain ⟨a0, a1, a2, a3, a4, a5, a6, a7, a8, a9, a10, a11⟩ := cells12 Ha3.out
  obtain ⟨fa0, fa1, fa2, fa3, fa4, fa5, fa6, fa7, fa8, fa9, fa10, fa11⟩ := froz12 Ha3.out
  go_wp2
  refine bodyPost_ret (by simp [results, Tryz.results12, go_sem, hya, a0, a1, a2, a3, a4, a5, a6, a7, a8, a9, a10, a11]; first | done | rfl) rfl ?_
  exact act_end HR3.out HK3.out (Mods.of_below HW3.out) (Nat.le_refl _) hlt _ _ _ _ _ _ _ _ _ _ _ _
set_option maxRecDepth 100000 in
set_option maxHeartbeats 2000000 in
theorem pmCalled1_c (w : World) (g : Nat) (k1 p1 q1 : Int) (s1 : ByteArray) (r1 : Int) (af : Int) (a : V) (ha : w.heap[g]? = some (oV a.k a.p a.q a.s a.r)) :
    Calls Tryz.prog 125 #[.agg #[.int .i64 k1, .int .i64 p1, .int .i64 q1, .string s1, .int .i64 r1], .int .i64 af, .slice (some ⟨g, 0, none⟩) 1 1] w (fun e w' => e = .returned (ndV (ndCall ⟨k1, p1, q1, s1, r1⟩ [a] af) (.slice (some ⟨g, 0, none⟩) 1 1)) ∧ Below w.heap.size w w') := by
  have HA := Lib.hid ha
  clear ha
  go_enter Tryz.func125, Tryz.ntmps125
  go_wp2
  refine bodyPost_ret (by simp [results, Tryz.results125, go_sem]; first | done | rfl) rfl ?_
  exact ⟨rfl, below2w _ _ _⟩
set_option maxRecDepth 100000 in
set_option maxHeartbeats 2000000 in
theorem mText_val (w : World) (hv : Value) (k p q : Int) (s : ByteArray) (r : Int) (X : ByteArray) (hX : X.size ≤ 4096)
    (HH : ∀ W x, Below w.heap.size w W → Calls Tryz.prog 123 #[hv, .agg #[.int .i64 k, .int .i64 p, .int .i64 q, .string s, .int .i64 r], .string x] W (ValPost W V.nil))
    (HN : ∀ W, Below w.heap.size w W → Calls Tryz.prog 127 #[hv, .agg #[.int .i64 k, .int .i64 p, .int .i64 q, .string s, .int .i64 r]] W (fun e w' => e = .returned (.tuple #[.string ⟨#[]⟩, .bool false]) ∧ Below W.heap.size W w'))
    (HT : ∀ W, Below w.heap.size w W → Calls Tryz.prog 126 #[.agg #[.int .i64 k, .int .i64 p, .int .i64 q, .string s, .int .i64 r]] W (fun e w' => e = .returned (.string X) ∧ Below W.heap.size W w')) :
    Calls Tryz.prog 89 #[hv, .agg #[.int .i64 k, .int .i64 p, .int .i64 q, .string s, .int .i64 r]] w (NdPost w (ndVal (strV X))) := by
  have HHH := Lib.hid (fun W x (hb : Below w.heap.size w W) => (show Calls Tryz.prog 123 #[hv, .agg #[.int .i64 k, .int .i64 p, .int .i64 q, .string s, .int .i64 r], .string x] W (fun e w' => e = .returned (.agg #[.int .i64 0, .int .i64 0, .int .i64 0, .string ⟨#[]⟩, .int .i64 0]) ∧ Below W.heap.size W w') from HH W x hb))
  have HNN := Lib.hid (HN)
  have HTT := Lib.hid (HT)
  have HO := Lib.hid (fun W => (show Calls Tryz.prog 66 #[.string X] W (fun e w' => e = .returned (.agg #[.int .i64 3, .int .i64 0, .int .i64 0, .string X, .int .i64 0]) ∧ Below W.heap.size W w') from pOfString_c W X))
  have HG := Lib.hid (fun W => pmIs_c W 3 0 0 X 0)
  have hX2 : (X.size : Int) ≤ 4096 := by omega
  have hmin : min (X.size : Int) 4096 = X.size := by omega
  clear HT hX HH HN
  go_enter Tryz.func89, Tryz.ntmps89
  go_wp2_with fail
  refine (HHH.out _ _ (below2w _ _ _)).mono ?_
  rintro e w1 ⟨rfl, hb⟩
  have Hv1 := Lib.hid (hkeep hb (heap2_a w (oV k p q s r) oNd))
  have Ha1 := Lib.hid (hkeep hb (heap2_b w (oV k p q s r) oNd))
  have HW1 := Lib.hid (below_next (below2w _ _ _) hb)
  clear hb
  have hz1 := (Array.getElem?_eq_some_iff.1 Hv1.out).1
  obtain ⟨v0, v1, v2, v3, v4⟩ := cells5 (heap1_old Hv1.out (oV 0 0 0 ⟨#[]⟩ 0))
  go_wp2_with fail
  refine (HTT.out _ (HW1.out.alloc HW1.out.size _)).mono ?_
  rintro e w2 ⟨rfl, hb⟩
  have Hv2 := Lib.hid (hkeep hb (heap1_old Hv1.out _))
  have Ha2 := Lib.hid (hkeep hb (heap1_old Ha1.out _))
  have HW2 := Lib.hid (below_next (HW1.out.alloc HW1.out.size _) hb)
  clear hb v0 v1 v2 v3 v4
  obtain ⟨v0, v1, v2, v3, v4⟩ := cells5 Hv2.out
  go_wp2_with fail
  refine (HNN.out _ HW2.out).mono ?_
  rintro e w3 ⟨rfl, hb⟩
  have Hv3 := Lib.hid (hkeep hb Hv2.out)
  have Ha3 := Lib.hid (hkeep hb Ha2.out)
  have HW3 := Lib.hid (below_next HW2.out hb)
  clear hb v0 v1 v2 v3 v4
  obtain ⟨v0, v1, v2, v3, v4⟩ := cells5 Hv3.out
  go_wp2_with fail
  refine (HHH.out _ _ HW3.out).mono ?_
  rintro e w4 ⟨rfl, hb⟩
  have Ha4 := Lib.hid (hkeep hb Ha3.out)
  have HW4 := Lib.hid (below_next HW3.out hb)
  clear hb v0 v1 v2 v3 v4
  go_wp2_with fail
  refine (HO.out _).mono ?_
  rintro e w5 ⟨rfl, hb⟩
  have Ha5 := Lib.hid (hkeep hb (heap1_old Ha4.out _))
  have HW5 := Lib.hid (below_next (HW4.out.alloc HW4.out.size _) hb)
  clear hb
  go_wp2_with fail
  refine (HG.out _).mono ?_
  rintro e w6 ⟨av, rfl, hA, hb⟩
  rcases hA with ⟨_, rfl⟩ | ⟨_, _, _, h, _⟩
  · have Ha6 := Lib.hid (hkeep hb Ha5.out)
    have HW6 := Lib.hid (below_next HW5.out hb)
    clear hb
    have hya : w.heap.size + 1 < w6.heap.size := (Array.getElem?_eq_some_iff.1 Ha6.out).1
    obtain ⟨a0, a1, a2, a3, a4, a5, a6, a7, a8, a9, a10, a11, a12, a13⟩ := cells14 Ha6.out
    obtain ⟨f0, f1, f2, f3, f4, f5, f6, f7, f8, f9, f10, f11, f12, f13⟩ := froz14 Ha6.out
    go_wp2
    refine bodyPost_ret (by simp [results, Tryz.results89, go_sem, hya, a0, a1, a2, a3, a4, a5, a6, a7, a8, a9, a10, a11, a12, a13]; first | done | rfl) rfl ?_
    exact ⟨.slice none 0 0, rfl, .inl ⟨rfl, rfl⟩, below_fourteen HW6.out (by omega) _ _ _ _ _ _ _ _ _ _ _ _ _ _⟩
  · cases h
set_option maxRecDepth 100000 in
set_option maxHeartbeats 2000000 in
theorem mText_call (w : World) (hv : Value) (k p q : Int) (s : ByteArray) (r : Int) (fk fp fq : Int) (fs : ByteArray) (fr : Int) (hf : fk ≠ 0)
    (HH : ∀ W, Below w.heap.size w W → Calls Tryz.prog 123 #[hv, .agg #[.int .i64 k, .int .i64 p, .int .i64 q, .string s, .int .i64 r], .string toStrN] W (ValPost W ⟨fk, fp, fq, fs, fr⟩)) :
    Calls Tryz.prog 89 #[hv, .agg #[.int .i64 k, .int .i64 p, .int .i64 q, .string s, .int .i64 r]] w (NdCall1 w ⟨fk, fp, fq, fs, fr⟩ ⟨k, p, q, s, r⟩) := by
  have HHH := Lib.hid (fun W (hb : Below w.heap.size w W) => (show Calls Tryz.prog 123 #[hv, .agg #[.int .i64 k, .int .i64 p, .int .i64 q, .string s, .int .i64 r], .string toStrN] W (fun e w' => e = .returned (.agg #[.int .i64 fk, .int .i64 fp, .int .i64 fq, .string fs, .int .i64 fr]) ∧ Below W.heap.size W w') from HH W hb))
  have HC := Lib.hid (fun (W : World) (g : Nat) (ha : W.heap[g]? = some (oV k p q s r)) => pmCalled1_c W g fk fp fq fs fr 1 ⟨k, p, q, s, r⟩ ha)
  have e1 : (fk != 0) = true := bne_iff_ne.2 hf
  clear HH hf
  unfold toStrN at HHH
  go_enter Tryz.func89, Tryz.ntmps89
  go_wp2_with fail
  refine (HHH.out _ (below2w _ _ _)).mono ?_
  rintro e w1 ⟨rfl, hb⟩
  have Hv1 := Lib.hid (hkeep hb (heap2_a w (oV k p q s r) oNd))
  have Ha1 := Lib.hid (hkeep hb (heap2_b w (oV k p q s r) oNd))
  have HW1 := Lib.hid (below_next (below2w _ _ _) hb)
  clear hb
  have hz1 := (Array.getElem?_eq_some_iff.1 Hv1.out).1
  obtain ⟨v0, v1, v2, v3, v4⟩ := cells5 (heap1_old Hv1.out (oV fk fp fq fs fr))
  go_wp2_with fail
  refine (HC.out _ _ (heap2_b w1 _ _)).mono ?_
  rintro e w2 ⟨rfl, hb⟩
  have Ha2 := Lib.hid (hkeep hb (heap1_old (heap1_old Ha1.out _) _))
  have Hg2 := Lib.hid (hkeep hb (heap2_b w1 (oV fk fp fq fs fr) (oV k p q s r)))
  have HW2 := Lib.hid (below_next ((HW1.out.alloc HW1.out.size _).alloc (by have := HW1.out.size; simp; omega) _) hb)
  have hsz := HW1.out.size
  clear hb v0 v1 v2 v3 v4
  have hya : w.heap.size + 1 < w2.heap.size := (Array.getElem?_eq_some_iff.1 Ha2.out).1
  have hgz := (Array.getElem?_eq_some_iff.1 Hg2.out).1
  obtain ⟨a0, a1, a2, a3, a4, a5, a6, a7, a8, a9, a10, a11, a12, a13⟩ := cells14 Ha2.out
  obtain ⟨f0, f1, f2, f3, f4, f5, f6, f7, f8, f9, f10, f11, f12, f13⟩ := froz14 Ha2.out
  go_wp2
  refine bodyPost_ret (by simp [results, Tryz.results89, go_sem, hya, a0, a1, a2, a3, a4, a5, a6, a7, a8, a9, a10, a11, a12, a13]; first | done | rfl) rfl ?_
  refine ⟨w1.heap.size + 1, rfl, ?_, by omega, below_fourteen HW2.out (by omega) _ _ _ _ _ _ _ _ _ _ _ _ _ _⟩
  have hne : ¬ w1.heap.size + 1 = w.heap.size + 1 := by omega
  exact heap14_old Hg2.out hne _ _ _ _ _ _ _ _ _ _ _ _ _ _
set_option maxRecDepth 100000 in
set_option maxHeartbeats 2000000 in
theorem plain_show (w : World) (c : Nat) {base n : Nat} {O : Nat → Prop} {h : Nat} {M : LH} {AA : List (List V)} (kind : Int) (fk fp fq : Int) (fs : ByteArray) (fr : Int) (A : List V) (s : ByteArray) (level next : Int) (K : List V) (hO : ∀ b, O b → b < w.heap.size)
    (HT : ∀ W, Below w.heap.size w W → Calls Tryz.prog 91 #[.pointer (some ⟨c, 0, none⟩)] W (PrP base n O h M AA kind ⟨fk, fp, fq, fs, fr⟩ A s level next K W)) :
    Calls Tryz.prog 37 #[.pointer (some ⟨c, 0, none⟩), .int .i64 18] w (PrP base n O h M AA kind ⟨fk, fp, fq, fs, fr⟩ A s level next K w) := by
  have HTT := Lib.hid (HT)
  have HO := Lib.hid (hO)
  clear HT hO
  go_enter Tryz.func37, Tryz.ntmps37
  go_wp2_with fail
  refine (HTT.out _ (below1 _ _)).mono ?_
  rintro e w2 ⟨so3, cap3, sk3, ck3, O3, rfl, hr, hk, hP3, hq3, hno⟩
  have HR3 := Lib.hid (hr)
  have HK3 := Lib.hid (hk)
  have HP3 := Lib.hid (hP3)
  have HQ3 := Lib.hid (hq3)
  have HNO := Lib.hid (hno)
  have Ha3 := Lib.hid ((Held.qs (O := O) ⟨heap1 w oAc, fun e => Nat.lt_irrefl _ (HO.out _ e)⟩ hq3 (npb (by decide))).1)
  clear hr hk hP3 hq3 hno
  have hya : w.heap.size < w2.heap.size := (Array.getElem?_eq_some_iff.1 Ha3.out).1
  obtain ⟨a0, a1, a2, a3, a4, a5, a6, a7, a8, a9, a10, a11⟩ := cells12 Ha3.out
  obtain ⟨fa0, fa1, fa2, fa3, fa4, fa5, fa6, fa7, fa8, fa9, fa10, fa11⟩ := froz12 Ha3.out
  go_wp2
  refine bodyPost_ret (by simp [results, Tryz.results37, go_sem, hya, a0, a1, a2, a3, a4, a5, a6, a7, a8, a9, a10, a11]; first | done | rfl) rfl ?_
  exact prP_end HR3.out HK3.out HP3.out ((QS.of_below (below1 w oAc)).trans HQ3.out) Ha3.out (Nat.le_refl _) (by simp) (by simp) HNO.out _ _ _ _ _ _ _ _ _ _ _ _
set_option maxRecDepth 100000 in
set_option maxHeartbeats 2000000 in
theorem begin_show (w : World) (so : Option Addr) (k cap : Nat) (hw : Spaces w) {base n : Nat} {O : Nat → Prop} {h : Nat} {M : LH} {AA : List (List V)} (kind : Int) (fk fp fq : Int) (fs : ByteArray) (fr : Int) (A : List V) (s : ByteArray) (level next : Int) (K : List V) (hO : ∀ b, O b → b < w.heap.size)
    (HCH : ∀ W c, Below w.heap.size w W → W.heap[c]? = some (oClH h prtN (.slice so k cap)) → w.heap.size ≤ c → Calls Tryz.prog 37 #[.pointer (some ⟨c, 0, none⟩), .int .i64 18] W (PrP base n O h M AA kind ⟨fk, fp, fq, fs, fr⟩ A s level next K W)) :
    Calls Tryz.prog 12 #[.pointer (some ⟨h, 0, none⟩), .string prtN, .slice so k cap] w (PrP base n O h M AA kind ⟨fk, fp, fq, fs, fr⟩ A s level next K w) := by
  obtain ⟨nm, hnm⟩ : ∃ nm, nm = prtN := ⟨_, rfl⟩
  rw [← hnm] at HCH ⊢
  have hz : nm.size ≤ 100 := by rw [hnm]; decide
  have HL := Lib.hid (fun W => Tryz.strings_LastIndexByte nm 46 (by omega) W)
  rw [hnm, prtN_last, ← hnm] at HL
  have HN := Lib.hid (fun W (hb : Below w.heap.size w W) => bnumber_c W nm (Spaces.stays hw hb))
  rw [show Lib.idxOfS namesL nm = 18 by rw [hnm]; exact at_print] at HN
  have HP := Lib.hid (HCH)
  have HO := Lib.hid (hO)
  have hz2 : (nm.size : Int) ≤ 100 := by omega
  clear hw HCH hnm hO
  go_enter Tryz.func12, Tryz.ntmps12
  go_wp2_with fail
  refine (HL.out _).mono ?_
  rintro e w1 ⟨rfl, rfl⟩
  go_wp2_with fail
  refine (HN.out _ (below2w _ _ _)).mono ?_
  rintro e w2 ⟨rfl, hb⟩
  have Ha2 := Lib.hid (hkeep hb (heap2_a w oAc (oClH h nm (.slice so k cap))))
  have Hc2 := Lib.hid (hkeep hb (heap2_b w oAc (oClH h nm (.slice so k cap))))
  have HW2 := Lib.hid (below_next (below2w _ _ _) hb)
  have hz2 := hb.size
  try simp at hz2
  clear hb
  go_wp2_with fail
  refine (HP.out _ _ HW2.out Hc2.out (by omega)).mono ?_
  rintro e w3 ⟨so3, cap3, sk3, ck3, O3, rfl, hr, hk, hP3, hq3, hno⟩
  have HR3 := Lib.hid (hr)
  have HK3 := Lib.hid (hk)
  have HP3 := Lib.hid (hP3)
  have HQ3 := Lib.hid (hq3)
  have HNO := Lib.hid (hno)
  have Ha3 := Lib.hid ((Held.qs (O := O) ⟨Ha2.out, fun e => Nat.lt_irrefl _ (HO.out _ e)⟩ hq3 (npb (by decide))).1)
  have hlt := (Array.getElem?_eq_some_iff.1 Ha2.out).1
  have hzw := HW2.out.size
  clear hr hk hP3 hq3 hno
  have hya : w.heap.size < w3.heap.size := (Array.getElem?_eq_some_iff.1 Ha3.out).1
  obtain ⟨a0, a1, a2, a3, a4, a5, a6, a7, a8, a9, a10, a11⟩ := cells12 Ha3.out
  obtain ⟨fa0, fa1, fa2, fa3, fa4, fa5, fa6, fa7, fa8, fa9, fa10, fa11⟩ := froz12 Ha3.out
  go_wp2
  refine bodyPost_ret (by simp [results, Tryz.results12, go_sem, hya, a0, a1, a2, a3, a4, a5, a6, a7, a8, a9, a10, a11]; first | done | rfl) rfl ?_
  exact prP_end HR3.out HK3.out HP3.out ((QS.of_below HW2.out).trans HQ3.out) Ha3.out (Nat.le_refl _) hlt hzw HNO.out _ _ _ _ _ _ _ _ _ _ _ _
set_option maxRecDepth 100000 in
set_option maxHeartbeats 2000000 in
theorem whole_num (w : World) (x : Int) (h1 : -2147483647 ≤ x) (h2 : x ≤ 2147483647) : Calls Tryz.prog 97 #[.agg #[.int .i64 2, .int .i64 x, .int .i64 1, .string ⟨#[]⟩, .int .i64 0]] w (fun e w' => e = .returned (.tuple #[.int .i64 x, .bool true]) ∧ Below w.heap.size w w') := by
  have HV := Lib.hid (fun W => (show Calls Tryz.prog 27 #[.agg #[.int .i64 2, .int .i64 x, .int .i64 1, .string ⟨#[]⟩, .int .i64 0]] W (BoolPost W true) from by have h := pvalidV_c W 2 x 1 ⟨#[]⟩ 0; rw [valid_num h1 h2] at h; exact h))
  obtain ⟨B, hB⟩ : ∃ B, B = w.alloc (oV 2 x 1 ⟨#[]⟩ 0) := ⟨_, rfl⟩
  have HW0 := Lib.hid (show Below w.heap.size w B by rw [hB]; exact below1 _ _)
  have Hf0 := Lib.hid (show B.heap[w.heap.size]? = some (oV 2 x 1 ⟨#[]⟩ 0) by rw [hB]; exact heap1 _ _)
  go_enter Tryz.func97, Tryz.ntmps97
  go_wp2
  rw [← hB]
  clear hB
  have SO := Lib.hid (fun (W : World) (hb : Below B.heap.size B W) => (show W.cell? ⟨w.heap.size, 0, none⟩ = some (.int .i64 2) ∧ W.cell? ⟨w.heap.size, 1, none⟩ = some (.int .i64 x) ∧ W.cell? ⟨w.heap.size, 2, none⟩ = some (.int .i64 1) ∧ W.cell? ⟨w.heap.size, 3, none⟩ = some (.string ⟨#[]⟩) ∧ W.cell? ⟨w.heap.size, 4, none⟩ = some (.int .i64 0) from ⟨(cells5 (hkeep hb Hf0.out)).1, (cells5 (hkeep hb Hf0.out)).2.1, (cells5 (hkeep hb Hf0.out)).2.2.1, (cells5 (hkeep hb Hf0.out)).2.2.2.1, (cells5 (hkeep hb Hf0.out)).2.2.2.2⟩))
  have HBc := Lib.hid ((Below.refl B.heap.size B).drew)
  go_region_held3 (fun w' => w'.cell? ⟨w.heap.size, 0, none⟩ = some (.int .i64 2) ∧ w'.cell? ⟨w.heap.size, 1, none⟩ = some (.int .i64 x) ∧ w'.cell? ⟨w.heap.size, 2, none⟩ = some (.int .i64 1) ∧ w'.cell? ⟨w.heap.size, 3, none⟩ = some (.string ⟨#[]⟩) ∧ w'.cell? ⟨w.heap.size, 4, none⟩ = some (.int .i64 0))
    (first | with_reducible exact SO.out _ HBc.out | with_reducible exact SO.out _ (HBc.out.alloc HBc.out.size _))
    (first | (go_at_call 27; (with_reducible refine (HV.out _).mono ?_); rintro e nw1 ⟨rfl, hb⟩; have HBc := Lib.hid (below_next HBc.out hb); clear hb))
  go_wp2
  go_ret2
  exact ⟨rfl, below_next HW0.out HBc.out⟩
set_option maxRecDepth 100000 in
set_option maxHeartbeats 2000000 in
theorem next_show (w : World) (so : Option Addr) (rn rcap : Nat) (s : ByteArray) (hR : Vals w (.slice so rn rcap) [strV s]) (sk : Option Addr) (m ck : Nat) (hw : Spaces w) {base n : Nat} {O : Nat → Prop} {h : Nat} {M : LH} {AA : List (List V)} (kind : Int) (fk fp fq : Int) (fs : ByteArray) (fr : Int) (A : List V) (s2 : ByteArray) (level next : Int) (K : List V) (hO : ∀ b, O b → b < w.heap.size)
    (HC : ∀ W, Below w.heap.size w W → Calls Tryz.prog 46 #[.pointer (some ⟨h, 0, none⟩), .int .i64 18, .slice sk m ck, .slice so rn rcap] W (PrP base n O h M AA kind ⟨fk, fp, fq, fs, fr⟩ A s2 level next K W)) :
    Calls Tryz.prog 14 #[.pointer (some ⟨h, 0, none⟩), .string prtN, .int .i64 1, .slice sk m ck, .bool true, .slice so rn rcap] w (PrP base n O h M AA kind ⟨fk, fp, fq, fs, fr⟩ A s2 level next K w) := by
  have HAr := Lib.hid (fun W (hb : Below w.heap.size w W) => (show Calls Tryz.prog 38 #[.slice so rn rcap, .int .i64 0] W (fun e w' => e = .returned (.agg #[.int .i64 3, .int .i64 0, .int .i64 0, .string s, .int .i64 0]) ∧ Below W.heap.size W w') from pArg_in W so rn rcap [strV s] (Vals.below hR hb) 0 (strV s) rfl (by simp)))
  obtain ⟨nm, hnm⟩ : ∃ nm, nm = prtN := ⟨_, rfl⟩
  rw [← hnm]
  have HN := Lib.hid (fun W (hb : Below w.heap.size w W) => bnumber_c W nm (Spaces.stays hw hb))
  rw [show Lib.idxOfS namesL nm = 18 by rw [hnm]; exact at_print] at HN
  have HCC := Lib.hid (HC)
  have HO := Lib.hid (hO)
  clear hR hw hnm HC hO
  go_enter Tryz.func14, Tryz.ntmps14
  go_wp2_with fail
  refine (HAr.out _ (below1 _ _)).mono ?_
  rintro e w1 ⟨rfl, hb⟩
  have Ha1 := Lib.hid (hkeep hb (heap1 w oAc))
  have HW1 := Lib.hid (below_next (below1 _ _) hb)
  clear hb
  go_wp2_with fail
  refine (HN.out _ (HW1.out.alloc HW1.out.size _)).mono ?_
  rintro e w2 ⟨rfl, hb⟩
  have Ha2 := Lib.hid (hkeep hb (heap1_old Ha1.out _))
  have HW2 := Lib.hid (below_next (HW1.out.alloc HW1.out.size _) hb)
  clear hb
  go_wp2_with fail
  refine (HCC.out _ HW2.out).mono ?_
  rintro e w3 ⟨so3, cap3, sk3, ck3, O3, rfl, hr, hk, hP3, hq3, hno⟩
  have HR3 := Lib.hid (hr)
  have HK3 := Lib.hid (hk)
  have HP3 := Lib.hid (hP3)
  have HQ3 := Lib.hid (hq3)
  have HNO := Lib.hid (hno)
  have Ha3 := Lib.hid ((Held.qs (O := O) ⟨Ha2.out, fun e => Nat.lt_irrefl _ (HO.out _ e)⟩ hq3 (npb (by decide))).1)
  have hlt := (Array.getElem?_eq_some_iff.1 Ha2.out).1
  have hzw := HW2.out.size
  clear hr hk hP3 hq3 hno
  have hya : w.heap.size < w3.heap.size := (Array.getElem?_eq_some_iff.1 Ha3.out).1
  obtain ⟨a0, a1, a2, a3, a4, a5, a6, a7, a8, a9, a10, a11⟩ := cells12 Ha3.out
  obtain ⟨fa0, fa1, fa2, fa3, fa4, fa5, fa6, fa7, fa8, fa9, fa10, fa11⟩ := froz12 Ha3.out
  go_wp2
  refine bodyPost_ret (by simp [results, Tryz.results14, go_sem, hya, a0, a1, a2, a3, a4, a5, a6, a7, a8, a9, a10, a11]; first | done | rfl) rfl ?_
  exact prP_end HR3.out HK3.out HP3.out ((QS.of_below HW2.out).trans HQ3.out) Ha3.out (Nat.le_refl _) hlt hzw HNO.out _ _ _ _ _ _ _ _ _ _ _ _
end Go.Proofs.YteflmfdjnigjcaaGreatDoor
