import Derived.Test.YtpbcmlnjiocmoaaGreatDoorRBp
import Derived.Test.YtpbcmlnjiocmoaaGreatDoorRRatB
import Derived.Test.YtpbcmlnjiocmoaaGreatDoorRPlnD
set_option linter.unusedVariables false
set_option linter.unusedSimpArgs false
set_option maxRecDepth 100000
set_option maxHeartbeats 2000000
namespace Go.Proofs.YtpbcmlnjiocmoaaGreatDoorR
open Go.RowKit Go.Proofs.Lexi
set_option maxRecDepth 100000 in
set_option maxHeartbeats 2000000 in
theorem pArg_out (w : World) (so : Option Addr) (n cap : Nat) (j : Int) (hj : (n : Int) ≤ j) : Calls Tryz.prog 65 #[.slice so n cap, .int .i64 j] w (fun e w' => e = .returned (.agg #[.int .i64 0, .int .i64 0, .int .i64 0, .string ⟨#[]⟩, .int .i64 0]) ∧ Below w.heap.size w w') := by
  have d0 : decide (j < 0) = false := decide_eq_false (by omega)
  have d1 : decide (j ≥ (n : Int)) = true := decide_eq_true (by omega)
  have d2 : decide ((n : Int) ≤ j) = true := decide_eq_true (by omega)
  go_enter Tryz.func65, Tryz.ntmps65
  go_wp2
  refine bodyPost_ret (by simp [results, Tryz.results65, go_sem]; first | done | rfl) rfl ?_
  exact ⟨rfl, below1 _ _⟩
set_option maxRecDepth 100000 in
set_option maxHeartbeats 2000000 in
theorem pSettled_ok (w : World) (ho : Option Addr) (o : Int) (vk vp vq : Int) (vs : ByteArray) (vr : Int) (c : Int) (base g : Nat) (hbase : base ≤ g) (k1 p1 q1 : Int) (s1 : ByteArray) (r1 : Int) (k2 p2 q2 : Int) (s2 : ByteArray) (r2 : Int) (hg : w.heap[g]? = some (.cells #[.int .i64 k1, .int .i64 p1, .int .i64 q1, .string s1, .int .i64 r1, .int .i64 k2, .int .i64 p2, .int .i64 q2, .string s2, .int .i64 r2] 30)) (h0 : (c == 0) = true) : Calls Tryz.prog 117 #[.pointer ho, .int .i64 o, .agg #[.int .i64 vk, .int .i64 vp, .int .i64 vq, .string vs, .int .i64 vr], .int .i64 c, .slice (some ⟨g, 0, none⟩) 2 2] w (NdB w base (ndVal ⟨vk, vp, vq, vs, vr⟩)) := by
  clear hg
  go_enter Tryz.func117, Tryz.ntmps117
  go_wp2_with fail
  refine (pIs_c _ _ _ _ _ _).mono ?_
  rintro e w1 ⟨av, rfl, hA, hb⟩
  obtain ⟨ao, an, ac, rfl⟩ := hA.shape
  have HA := Lib.hid hA
  clear hA
  have Hu1 := Lib.hid (hkeep hb (heap2_b _ _ _))
  have HW1 := Lib.hid (below_next (below2w _ _ _) hb)
  have hz1 := hb.size
  try simp at hz1
  clear hb
  have hyu : w.heap.size + 1 < w1.heap.size := (Array.getElem?_eq_some_iff.1 Hu1.out).1
  have u0 : w1.cell? ⟨w.heap.size + 1, 0, none⟩ = some (.int .i64 0) := by rw [cell_of_heap Hu1.out]; rfl
  have fu0 : w1.frozen? ⟨w.heap.size + 1, 0, none⟩ = false := frozen_of_heap Hu1.out _
  have u1 : w1.cell? ⟨w.heap.size + 1, 1, none⟩ = some (.int .i64 0) := by rw [cell_of_heap Hu1.out]; rfl
  have fu1 : w1.frozen? ⟨w.heap.size + 1, 1, none⟩ = false := frozen_of_heap Hu1.out _
  have u2 : w1.cell? ⟨w.heap.size + 1, 2, none⟩ = some (.int .i64 0) := by rw [cell_of_heap Hu1.out]; rfl
  have fu2 : w1.frozen? ⟨w.heap.size + 1, 2, none⟩ = false := frozen_of_heap Hu1.out _
  have u3 : w1.cell? ⟨w.heap.size + 1, 3, none⟩ = some (.int .i64 0) := by rw [cell_of_heap Hu1.out]; rfl
  have fu3 : w1.frozen? ⟨w.heap.size + 1, 3, none⟩ = false := frozen_of_heap Hu1.out _
  have u4 : w1.cell? ⟨w.heap.size + 1, 4, none⟩ = some (.string ⟨#[]⟩) := by rw [cell_of_heap Hu1.out]; rfl
  have fu4 : w1.frozen? ⟨w.heap.size + 1, 4, none⟩ = false := frozen_of_heap Hu1.out _
  have u5 : w1.cell? ⟨w.heap.size + 1, 5, none⟩ = some (.int .i64 0) := by rw [cell_of_heap Hu1.out]; rfl
  have fu5 : w1.frozen? ⟨w.heap.size + 1, 5, none⟩ = false := frozen_of_heap Hu1.out _
  have u6 : w1.cell? ⟨w.heap.size + 1, 6, none⟩ = some (.int .i64 0) := by rw [cell_of_heap Hu1.out]; rfl
  have fu6 : w1.frozen? ⟨w.heap.size + 1, 6, none⟩ = false := frozen_of_heap Hu1.out _
  have u7 : w1.cell? ⟨w.heap.size + 1, 7, none⟩ = some (.int .i64 0) := by rw [cell_of_heap Hu1.out]; rfl
  have fu7 : w1.frozen? ⟨w.heap.size + 1, 7, none⟩ = false := frozen_of_heap Hu1.out _
  have u8 : w1.cell? ⟨w.heap.size + 1, 8, none⟩ = some (.int .i64 0) := by rw [cell_of_heap Hu1.out]; rfl
  have fu8 : w1.frozen? ⟨w.heap.size + 1, 8, none⟩ = false := frozen_of_heap Hu1.out _
  have u9 : w1.cell? ⟨w.heap.size + 1, 9, none⟩ = some (.string ⟨#[]⟩) := by rw [cell_of_heap Hu1.out]; rfl
  have fu9 : w1.frozen? ⟨w.heap.size + 1, 9, none⟩ = false := frozen_of_heap Hu1.out _
  have u10 : w1.cell? ⟨w.heap.size + 1, 10, none⟩ = some (.int .i64 0) := by rw [cell_of_heap Hu1.out]; rfl
  have fu10 : w1.frozen? ⟨w.heap.size + 1, 10, none⟩ = false := frozen_of_heap Hu1.out _
  have u11 : w1.cell? ⟨w.heap.size + 1, 11, none⟩ = some (.slice none 0 0) := by rw [cell_of_heap Hu1.out]; rfl
  have fu11 : w1.frozen? ⟨w.heap.size + 1, 11, none⟩ = false := frozen_of_heap Hu1.out _
  have u12 : w1.cell? ⟨w.heap.size + 1, 12, none⟩ = some (.int .i64 0) := by rw [cell_of_heap Hu1.out]; rfl
  have fu12 : w1.frozen? ⟨w.heap.size + 1, 12, none⟩ = false := frozen_of_heap Hu1.out _
  have u13 : w1.cell? ⟨w.heap.size + 1, 13, none⟩ = some (.string ⟨#[]⟩) := by rw [cell_of_heap Hu1.out]; rfl
  have fu13 : w1.frozen? ⟨w.heap.size + 1, 13, none⟩ = false := frozen_of_heap Hu1.out _
  go_wp2
  refine bodyPost_ret (by simp [results, Tryz.results117, go_sem, hyu, u0, u1, u2, u3, u4, u5, u6, u7, u8, u9, u10, u11, u12, u13]; first | done | rfl) rfl ?_
  exact ndb_nil (r := w.heap.size + 1) rfl HW1.out HA.out (by omega) (mods_fourteen (F := fun b => b = w.heap.size + 1) (Mods.refl _ _) (.inl rfl) _ _ _ _ _ _ _ _ _ _ _ _ _ _)
set_option maxRecDepth 100000 in
set_option maxHeartbeats 2000000 in
theorem pBinary_else (w : World) (hp : Value) (o : Int) (k1 p1 q1 : Int) (s1 : ByteArray) (r1 : Int) (k2 p2 q2 : Int) (s2 : ByteArray) (r2 : Int) (hbi : PureTo 113 o true) (VA : ∀ W, Calls Tryz.prog 43 #[.agg #[.int .i64 k1, .int .i64 p1, .int .i64 q1, .string s1, .int .i64 r1]] W (BoolPost W true)) (VB : ∀ W, Calls Tryz.prog 43 #[.agg #[.int .i64 k2, .int .i64 p2, .int .i64 q2, .string s2, .int .i64 r2]] W (BoolPost W true)) (h18 : (o == 18) = false) (h19 : (o == 19) = false) (h14 : (o == 14) = false) (h15 : (o == 15) = false) (R : VR) (n : Nd) (PL : ∀ W, Below w.heap.size w W → Calls Tryz.prog 116 #[.int .i64 o, .agg #[.int .i64 k1, .int .i64 p1, .int .i64 q1, .string s1, .int .i64 r1], .agg #[.int .i64 k2, .int .i64 p2, .int .i64 q2, .string s2, .int .i64 r2]] W (VrPost W R)) (ST : ∀ W base g, Below w.heap.size w W → base ≤ g → W.heap[g]? = some (.cells #[.int .i64 k1, .int .i64 p1, .int .i64 q1, .string s1, .int .i64 r1, .int .i64 k2, .int .i64 p2, .int .i64 q2, .string s2, .int .i64 r2] 30) → Calls Tryz.prog 117 #[hp, .int .i64 o, .agg #[.int .i64 (vV R).k, .int .i64 (vV R).p, .int .i64 (vV R).q, .string (vV R).s, .int .i64 (vV R).r], .int .i64 (vE R : Nat), .slice (some ⟨g, 0, none⟩) 2 2] W (NdB W base n)) : Calls Tryz.prog 105 #[hp, .int .i64 o, .agg #[.int .i64 k1, .int .i64 p1, .int .i64 q1, .string s1, .int .i64 r1], .agg #[.int .i64 k2, .int .i64 p2, .int .i64 q2, .string s2, .int .i64 r2]] w (NdPost w (n)) := by
  have Hhbi := Lib.hid hbi
  have HVA := Lib.hid VA
  have HVB := Lib.hid VB
  have HPL := Lib.hid PL
  have HST := Lib.hid ST
  clear hbi VA VB PL ST
  go_enter Tryz.func105, Tryz.ntmps105
  go_wp2_with fail
  refine (Hhbi.out _).mono ?_
  rintro e W0 ⟨rfl, rfl⟩
  go_wp2_with fail
  refine (HVA.out _).mono ?_
  rintro e w1 ⟨rfl, hb⟩
  have Ha1 := Lib.hid (hkeep hb (heap3_a _ _ _ _))
  have Hb1 := Lib.hid (hkeep hb (heap3_b _ _ _ _))
  have Hu1 := Lib.hid (hkeep hb (heap3_c _ _ _ _))
  have HW1 := Lib.hid (below_next (((below2w _ _ _).alloc (by simp; omega) _)) hb)
  have hz1 := hb.size
  try simp at hz1
  clear hb
  have hyb : w.heap.size + 1 < w1.heap.size := (Array.getElem?_eq_some_iff.1 Hb1.out).1
  have b0 : w1.cell? ⟨w.heap.size + 1, 0, none⟩ = some (.int .i64 k2) := by rw [cell_of_heap Hb1.out]; rfl
  have b1 : w1.cell? ⟨w.heap.size + 1, 1, none⟩ = some (.int .i64 p2) := by rw [cell_of_heap Hb1.out]; rfl
  have b2 : w1.cell? ⟨w.heap.size + 1, 2, none⟩ = some (.int .i64 q2) := by rw [cell_of_heap Hb1.out]; rfl
  have b3 : w1.cell? ⟨w.heap.size + 1, 3, none⟩ = some (.string s2) := by rw [cell_of_heap Hb1.out]; rfl
  have b4 : w1.cell? ⟨w.heap.size + 1, 4, none⟩ = some (.int .i64 r2) := by rw [cell_of_heap Hb1.out]; rfl
  go_wp2_with fail
  refine (HVB.out _).mono ?_
  rintro e w2 ⟨rfl, hb⟩
  have Ha2 := Lib.hid (hkeep hb (Ha1.out))
  have Hb2 := Lib.hid (hkeep hb (Hb1.out))
  have Hu2 := Lib.hid (hkeep hb (Hu1.out))
  have HW2 := Lib.hid (below_next (HW1.out) hb)
  have hz2 := hb.size
  try simp at hz2
  clear hb
  clear hyb b0 b1 b2 b3 b4
  have hya : w.heap.size < w2.heap.size := (Array.getElem?_eq_some_iff.1 Ha2.out).1
  have a0 : w2.cell? ⟨w.heap.size, 0, none⟩ = some (.int .i64 k1) := by rw [cell_of_heap Ha2.out]; rfl
  have a1 : w2.cell? ⟨w.heap.size, 1, none⟩ = some (.int .i64 p1) := by rw [cell_of_heap Ha2.out]; rfl
  have a2 : w2.cell? ⟨w.heap.size, 2, none⟩ = some (.int .i64 q1) := by rw [cell_of_heap Ha2.out]; rfl
  have a3 : w2.cell? ⟨w.heap.size, 3, none⟩ = some (.string s1) := by rw [cell_of_heap Ha2.out]; rfl
  have a4 : w2.cell? ⟨w.heap.size, 4, none⟩ = some (.int .i64 r1) := by rw [cell_of_heap Ha2.out]; rfl
  have hyb : w.heap.size + 1 < w2.heap.size := (Array.getElem?_eq_some_iff.1 Hb2.out).1
  have b0 : w2.cell? ⟨w.heap.size + 1, 0, none⟩ = some (.int .i64 k2) := by rw [cell_of_heap Hb2.out]; rfl
  have b1 : w2.cell? ⟨w.heap.size + 1, 1, none⟩ = some (.int .i64 p2) := by rw [cell_of_heap Hb2.out]; rfl
  have b2 : w2.cell? ⟨w.heap.size + 1, 2, none⟩ = some (.int .i64 q2) := by rw [cell_of_heap Hb2.out]; rfl
  have b3 : w2.cell? ⟨w.heap.size + 1, 3, none⟩ = some (.string s2) := by rw [cell_of_heap Hb2.out]; rfl
  have b4 : w2.cell? ⟨w.heap.size + 1, 4, none⟩ = some (.int .i64 r2) := by rw [cell_of_heap Hb2.out]; rfl
  go_wp2_with fail
  refine (HPL.out _ HW2.out).mono ?_
  rintro e w5 ⟨rfl, hb⟩
  have Ha5 := Lib.hid (hkeep hb Ha2.out)
  have Hb5 := Lib.hid (hkeep hb Hb2.out)
  have Hu5 := Lib.hid (hkeep hb Hu2.out)
  have HW5 := Lib.hid (below_next HW2.out hb)
  have hz5 : w.heap.size + 1 + 1 < w5.heap.size := (Array.getElem?_eq_some_iff.1 Hu5.out).1
  have hyA : w.heap.size < w5.heap.size := by omega
  have hyB : w.heap.size + 1 < w5.heap.size := by omega
  clear hb hya a0 a1 a2 a3 a4 hyb b0 b1 b2 b3 b4
  have a0 : w5.cell? ⟨w.heap.size, 0, none⟩ = some (.int .i64 k1) := by rw [cell_of_heap Ha5.out]; rfl
  have a1 : w5.cell? ⟨w.heap.size, 1, none⟩ = some (.int .i64 p1) := by rw [cell_of_heap Ha5.out]; rfl
  have a2 : w5.cell? ⟨w.heap.size, 2, none⟩ = some (.int .i64 q1) := by rw [cell_of_heap Ha5.out]; rfl
  have a3 : w5.cell? ⟨w.heap.size, 3, none⟩ = some (.string s1) := by rw [cell_of_heap Ha5.out]; rfl
  have a4 : w5.cell? ⟨w.heap.size, 4, none⟩ = some (.int .i64 r1) := by rw [cell_of_heap Ha5.out]; rfl
  have b0 : w5.cell? ⟨w.heap.size + 1, 0, none⟩ = some (.int .i64 k2) := by rw [cell_of_heap Hb5.out]; rfl
  have b1 : w5.cell? ⟨w.heap.size + 1, 1, none⟩ = some (.int .i64 p2) := by rw [cell_of_heap Hb5.out]; rfl
  have b2 : w5.cell? ⟨w.heap.size + 1, 2, none⟩ = some (.int .i64 q2) := by rw [cell_of_heap Hb5.out]; rfl
  have b3 : w5.cell? ⟨w.heap.size + 1, 3, none⟩ = some (.string s2) := by rw [cell_of_heap Hb5.out]; rfl
  have b4 : w5.cell? ⟨w.heap.size + 1, 4, none⟩ = some (.int .i64 r2) := by rw [cell_of_heap Hb5.out]; rfl
  go_wp2_with fail
  refine (HST.out _ (w5.heap.size + 1) (w5.heap.size + 1) ((HW5.out.alloc HW5.out.size (oV (vV R).k (vV R).p (vV R).q (vV R).s (vV R).r)).alloc (by have := HW5.out.size; simp; omega) (.cells #[.int .i64 k1, .int .i64 p1, .int .i64 q1, .string s1, .int .i64 r1, .int .i64 k2, .int .i64 p2, .int .i64 q2, .string s2, .int .i64 r2] 30)) (Nat.le_refl _) (heap2_b _ _ _)).mono ?_
  rintro e w6 ⟨av, rfl, hA, hb⟩
  obtain ⟨ao, an, ac, rfl⟩ := hA.shape
  have HA := Lib.hid hA
  have Hu6 := Lib.hid (hkeep hb (heap2_old Hu5.out (oV (vV R).k (vV R).p (vV R).q (vV R).s (vV R).r) (.cells #[.int .i64 k1, .int .i64 p1, .int .i64 q1, .string s1, .int .i64 r1, .int .i64 k2, .int .i64 p2, .int .i64 q2, .string s2, .int .i64 r2] 30)))
  have HW6 := Lib.hid (below_next ((HW5.out.alloc HW5.out.size (oV (vV R).k (vV R).p (vV R).q (vV R).s (vV R).r)).alloc (by have := HW5.out.size; simp; omega) (.cells #[.int .i64 k1, .int .i64 p1, .int .i64 q1, .string s1, .int .i64 r1, .int .i64 k2, .int .i64 p2, .int .i64 q2, .string s2, .int .i64 r2] 30)) hb)
  have hyu : w.heap.size + 1 + 1 < w6.heap.size := (Array.getElem?_eq_some_iff.1 Hu6.out).1
  clear hA hb a0 a1 a2 a3 a4 b0 b1 b2 b3 b4
  have u0 : w6.cell? ⟨w.heap.size + 1 + 1, 0, none⟩ = some (.int .i64 0) := by rw [cell_of_heap Hu6.out]; rfl
  have u1 : w6.cell? ⟨w.heap.size + 1 + 1, 1, none⟩ = some (.int .i64 0) := by rw [cell_of_heap Hu6.out]; rfl
  have u2 : w6.cell? ⟨w.heap.size + 1 + 1, 2, none⟩ = some (.int .i64 0) := by rw [cell_of_heap Hu6.out]; rfl
  have u3 : w6.cell? ⟨w.heap.size + 1 + 1, 3, none⟩ = some (.int .i64 0) := by rw [cell_of_heap Hu6.out]; rfl
  have u4 : w6.cell? ⟨w.heap.size + 1 + 1, 4, none⟩ = some (.string ⟨#[]⟩) := by rw [cell_of_heap Hu6.out]; rfl
  have u5 : w6.cell? ⟨w.heap.size + 1 + 1, 5, none⟩ = some (.int .i64 0) := by rw [cell_of_heap Hu6.out]; rfl
  have u6 : w6.cell? ⟨w.heap.size + 1 + 1, 6, none⟩ = some (.int .i64 0) := by rw [cell_of_heap Hu6.out]; rfl
  have u7 : w6.cell? ⟨w.heap.size + 1 + 1, 7, none⟩ = some (.int .i64 0) := by rw [cell_of_heap Hu6.out]; rfl
  have u8 : w6.cell? ⟨w.heap.size + 1 + 1, 8, none⟩ = some (.int .i64 0) := by rw [cell_of_heap Hu6.out]; rfl
  have u9 : w6.cell? ⟨w.heap.size + 1 + 1, 9, none⟩ = some (.string ⟨#[]⟩) := by rw [cell_of_heap Hu6.out]; rfl
  have u10 : w6.cell? ⟨w.heap.size + 1 + 1, 10, none⟩ = some (.int .i64 0) := by rw [cell_of_heap Hu6.out]; rfl
  have u11 : w6.cell? ⟨w.heap.size + 1 + 1, 11, none⟩ = some (.slice none 0 0) := by rw [cell_of_heap Hu6.out]; rfl
  have u12 : w6.cell? ⟨w.heap.size + 1 + 1, 12, none⟩ = some (.int .i64 0) := by rw [cell_of_heap Hu6.out]; rfl
  have u13 : w6.cell? ⟨w.heap.size + 1 + 1, 13, none⟩ = some (.string ⟨#[]⟩) := by rw [cell_of_heap Hu6.out]; rfl
  have fu0 : w6.frozen? ⟨w.heap.size + 1 + 1, 0, none⟩ = false := frozen_of_heap Hu6.out _
  have fu1 : w6.frozen? ⟨w.heap.size + 1 + 1, 1, none⟩ = false := frozen_of_heap Hu6.out _
  have fu2 : w6.frozen? ⟨w.heap.size + 1 + 1, 2, none⟩ = false := frozen_of_heap Hu6.out _
  have fu3 : w6.frozen? ⟨w.heap.size + 1 + 1, 3, none⟩ = false := frozen_of_heap Hu6.out _
  have fu4 : w6.frozen? ⟨w.heap.size + 1 + 1, 4, none⟩ = false := frozen_of_heap Hu6.out _
  have fu5 : w6.frozen? ⟨w.heap.size + 1 + 1, 5, none⟩ = false := frozen_of_heap Hu6.out _
  have fu6 : w6.frozen? ⟨w.heap.size + 1 + 1, 6, none⟩ = false := frozen_of_heap Hu6.out _
  have fu7 : w6.frozen? ⟨w.heap.size + 1 + 1, 7, none⟩ = false := frozen_of_heap Hu6.out _
  have fu8 : w6.frozen? ⟨w.heap.size + 1 + 1, 8, none⟩ = false := frozen_of_heap Hu6.out _
  have fu9 : w6.frozen? ⟨w.heap.size + 1 + 1, 9, none⟩ = false := frozen_of_heap Hu6.out _
  have fu10 : w6.frozen? ⟨w.heap.size + 1 + 1, 10, none⟩ = false := frozen_of_heap Hu6.out _
  have fu11 : w6.frozen? ⟨w.heap.size + 1 + 1, 11, none⟩ = false := frozen_of_heap Hu6.out _
  have fu12 : w6.frozen? ⟨w.heap.size + 1 + 1, 12, none⟩ = false := frozen_of_heap Hu6.out _
  have fu13 : w6.frozen? ⟨w.heap.size + 1 + 1, 13, none⟩ = false := frozen_of_heap Hu6.out _
  go_wp2
  refine bodyPost_ret (by simp [results, Tryz.results105, go_sem, hyu, u0, u1, u2, u3, u4, u5, u6, u7, u8, u9, u10, u11, u12, u13]; first | done | rfl) rfl ?_
  exact nd_done (r := w.heap.size + 1 + 1) (base := w5.heap.size + 1) HW6.out HA.out (by omega) (by omega) (by omega) (mods_fourteen (F := fun b => b = w.heap.size + 1 + 1) (Mods.refl _ _) (.inl rfl) _ _ _ _ _ _ _ _ _ _ _ _ _ _)
theorem less_bin (w : World) (ho : Option Addr) (a b : Int) (ha : -2147483647 ≤ a ∧ a ≤ 2147483647) (hb : -2147483647 ≤ b ∧ b ≤ 2147483647) :
    Calls Tryz.prog 105 #[.pointer ho, .int .i64 16, .agg #[.int .i64 2, .int .i64 a, .int .i64 1, .string ⟨#[]⟩, .int .i64 0], .agg #[.int .i64 2, .int .i64 b, .int .i64 1, .string ⟨#[]⟩, .int .i64 0]] w (fun e w' => e = .returned (.agg #[.int .i64 1, .int .i64 1, .int .i64 0, .int .i64 0, .string ⟨#[]⟩, .int .i64 (if a < b then 1 else 0), .int .i64 0, .int .i64 0, .int .i64 0, .string ⟨#[]⟩, .int .i64 0, .slice none 0 0, .int .i64 0, .string ⟨#[]⟩]) ∧ Below w.heap.size w w') := by
  have VA : ∀ W, Calls Tryz.prog 43 #[.agg #[.int .i64 2, .int .i64 a, .int .i64 1, .string ⟨#[]⟩, .int .i64 0]] W (BoolPost W true) := fun W => by have h := pvalidV_c W 2 a 1 ⟨#[]⟩ 0; rw [valid_num ha.1 ha.2] at h; exact h
  have VB : ∀ W, Calls Tryz.prog 43 #[.agg #[.int .i64 2, .int .i64 b, .int .i64 1, .string ⟨#[]⟩, .int .i64 0]] W (BoolPost W true) := fun W => by have h := pvalidV_c W 2 b 1 ⟨#[]⟩ 0; rw [valid_num hb.1 hb.2] at h; exact h
  refine (pBinary_else w (.pointer ho) 16 2 a 1 ⟨#[]⟩ 0 2 b 1 ⟨#[]⟩ 0 (bi_to (by decide)) VA VB rfl rfl rfl rfl (.ok (boolV (decide (a < b)))) (ndVal (boolV (decide (a < b)))) (fun W hW => pplain_compare W 16 2 a 1 ⟨#[]⟩ 0 2 b 1 ⟨#[]⟩ 0 _ (un_to (by decide)) (bi_to (by decide)) (ar_to (by decide)) (bw_to (by decide)) VA VB rfl rfl rfl rfl rfl rfl (fun W2 _ => ?_)) (fun W base g hW hbase hg => ?_)).mono ?_
  · have h := pcompare_c W2 16 2 a 1 ⟨#[]⟩ 0 2 b 1 ⟨#[]⟩ 0 (by decide) (by decide) (by decide) (by decide)
    rw [cmp_int a b ha hb] at h
    exact h
  · exact pSettled_ok W ho 16 _ _ _ _ _ _ base g hbase 2 a 1 ⟨#[]⟩ 0 2 b 1 ⟨#[]⟩ 0 hg rfl
  · rintro e w' ⟨av, rfl, hA, hb⟩
    rcases hA with ⟨_, rfl⟩ | ⟨_, _, _, h, _⟩
    · refine ⟨?_, hb⟩
      by_cases h : a < b
      · simp [ndV, ndVal, boolV, V.nil, h]
      · simp [ndV, ndVal, boolV, V.nil, h]
    · cases h
set_option maxRecDepth 100000 in
set_option maxHeartbeats 2000000 in
theorem tBegin_c (W : World) (sb c ti : Nat) (f : V) (n w lo i j : Int) (h : W.heap[sb]? = some (oSo c ti f n w lo i j)) (h1 : 0 ≤ lo ∧ lo ≤ 100000) (h2 : 0 ≤ w ∧ w ≤ 100000) :
    Calls Tryz.prog 68 #[.pointer (some ⟨sb, 0, none⟩)] W (fun e w' => e = .returned (.tuple #[]) ∧ w'.heap[sb]? = some (oSo c ti f n w lo lo (lo + w)) ∧ Mods (fun k => k = sb) W w') := by
  have HH := Lib.hid (h)
  have hl := (Array.getElem?_eq_some_iff.1 h).1
  clear h
  obtain ⟨c0, c1, c2, c3, c4, c5, c6, c7, c8, c9, c10, c11, c12, c13, c14, c15⟩ := cells16 HH.out
  obtain ⟨fc0, fc1, fc2, fc3, fc4, fc5, fc6, fc7, fc8, fc9, fc10, fc11, fc12, fc13, fc14, fc15⟩ := froz16 HH.out
  go_enter Tryz.func68, Tryz.ntmps68
  refine wp_region_lex mixed (by kernel_rfl) ?_
  go_wp2
  refine ⟨by kernel_rfl, ?_⟩
  go_wp2
  go_end0
  exact ⟨rfl, heap_setCell_same (heap_setCell_same HH.out 14 _) 15 _, mods_drew (F := fun k => k = sb) (mods_setCell (F := fun k => k = sb) (b := sb) (mods_setCell (F := fun k => k = sb) (b := sb) (Mods.refl _ _) (.inl rfl) _) (.inl rfl) _)⟩
end Go.Proofs.YtpbcmlnjiocmoaaGreatDoorR
