import Derived.Test.YteflmfdjnigjcaaGreatDoorTq
import Derived.Test.YteflmfdjnigjcaaGreatDoorHpS
set_option linter.unusedVariables false
set_option linter.unusedSimpArgs false
set_option maxRecDepth 100000
set_option maxHeartbeats 2000000
namespace Go.Proofs.YteflmfdjnigjcaaGreatDoor
open Go.RowKit Go.Proofs.Lexi
set_option maxRecDepth 100000 in
set_option maxHeartbeats 2000000 in
theorem pSetMeta_none (w : World) (h : Nat) (k1 p1 q1 : Int) (s1 : ByteArray) (r1 : Int) (k2 p2 q2 : Int) (s2 : ByteArray) (r2 : Int) (F : ∀ W, Below w.heap.size w W → Calls Tryz.prog 31 #[.pointer (some ⟨h, 0, none⟩), .agg #[.int .i64 k1, .int .i64 p1, .int .i64 q1, .string s1, .int .i64 r1]] W (PtrPost W (.pointer none))) : Calls Tryz.prog 11 #[.pointer (some ⟨h, 0, none⟩), .agg #[.int .i64 k1, .int .i64 p1, .int .i64 q1, .string s1, .int .i64 r1], .agg #[.int .i64 k2, .int .i64 p2, .int .i64 q2, .string s2, .int .i64 r2]] w (IntPost w 8) := by
  have HF := Lib.hid F
  clear F
  go_enter Tryz.func11, Tryz.ntmps11
  go_wp2_with fail
  refine (HF.out _ (below2w _ _ _)).mono ?_
  rintro e w1 ⟨rfl, hb⟩
  have HW1 := Lib.hid (below_next (below2w _ _ _) hb)
  have hz1 := hb.size
  try simp at hz1
  clear hb
  go_wp2_with fail
  refine (pmissing_c _ _).mono ?_
  rintro e wm ⟨rfl, rfl⟩
  go_wp2
  go_ret
  exact int_done rfl HW1.out
set_option maxRecDepth 100000 in
set_option maxHeartbeats 2000000 in
theorem pSetMeta_func (w : World) (h : Nat) (k1 p1 q1 : Int) (s1 : ByteArray) (r1 : Int) (k2 p2 q2 : Int) (s2 : ByteArray) (r2 : Int) (x : PO) (X : w.heap[x.o]? = some (.cells x.cells 71)) (hk : x.kind = 5) (F : ∀ W, Below w.heap.size w W → Calls Tryz.prog 31 #[.pointer (some ⟨h, 0, none⟩), .agg #[.int .i64 k1, .int .i64 p1, .int .i64 q1, .string s1, .int .i64 r1]] W (PtrPost W (.pointer (some ⟨x.o, 0, none⟩)))) : Calls Tryz.prog 11 #[.pointer (some ⟨h, 0, none⟩), .agg #[.int .i64 k1, .int .i64 p1, .int .i64 q1, .string s1, .int .i64 r1], .agg #[.int .i64 k2, .int .i64 p2, .int .i64 q2, .string s2, .int .i64 r2]] w (IntPost w 8) := by
  have HX := Lib.hid X
  have HF := Lib.hid F
  clear X F
  go_enter Tryz.func11, Tryz.ntmps11
  go_wp2_with fail
  refine (HF.out _ (below2w _ _ _)).mono ?_
  rintro e w1 ⟨rfl, hb⟩
  have Hx1 := Lib.hid (hkeep hb (heap2_old HX.out _ _))
  have HW1 := Lib.hid (below_next (below2w _ _ _) hb)
  have hz1 := hb.size
  try simp at hz1
  clear hb
  have hyx : x.o < w1.heap.size := (Array.getElem?_eq_some_iff.1 Hx1.out).1
  have x0 : w1.cell? ⟨x.o, 0, none⟩ = some (.int .i64 x.kind) := by rw [cell_of_heap Hx1.out]; rfl
  have fx0 : w1.frozen? ⟨x.o, 0, none⟩ = false := frozen_of_heap Hx1.out _
  have x1 : w1.cell? ⟨x.o, 1, none⟩ = some (.int .i64 x.tag) := by rw [cell_of_heap Hx1.out]; rfl
  have fx1 : w1.frozen? ⟨x.o, 1, none⟩ = false := frozen_of_heap Hx1.out _
  have x2 : w1.cell? ⟨x.o, 2, none⟩ = some (.string x.name) := by rw [cell_of_heap Hx1.out]; rfl
  have fx2 : w1.frozen? ⟨x.o, 2, none⟩ = false := frozen_of_heap Hx1.out _
  have x3 : w1.cell? ⟨x.o, 3, none⟩ = some (x.tabv) := by rw [cell_of_heap Hx1.out]; rfl
  have fx3 : w1.frozen? ⟨x.o, 3, none⟩ = false := frozen_of_heap Hx1.out _
  have x4 : w1.cell? ⟨x.o, 4, none⟩ = some (.int .i64 x.mt.k) := by rw [cell_of_heap Hx1.out]; rfl
  have fx4 : w1.frozen? ⟨x.o, 4, none⟩ = false := frozen_of_heap Hx1.out _
  have x5 : w1.cell? ⟨x.o, 5, none⟩ = some (.int .i64 x.mt.p) := by rw [cell_of_heap Hx1.out]; rfl
  have fx5 : w1.frozen? ⟨x.o, 5, none⟩ = false := frozen_of_heap Hx1.out _
  have x6 : w1.cell? ⟨x.o, 6, none⟩ = some (.int .i64 x.mt.q) := by rw [cell_of_heap Hx1.out]; rfl
  have fx6 : w1.frozen? ⟨x.o, 6, none⟩ = false := frozen_of_heap Hx1.out _
  have x7 : w1.cell? ⟨x.o, 7, none⟩ = some (.string x.mt.s) := by rw [cell_of_heap Hx1.out]; rfl
  have fx7 : w1.frozen? ⟨x.o, 7, none⟩ = false := frozen_of_heap Hx1.out _
  have x8 : w1.cell? ⟨x.o, 8, none⟩ = some (.int .i64 x.mt.r) := by rw [cell_of_heap Hx1.out]; rfl
  have fx8 : w1.frozen? ⟨x.o, 8, none⟩ = false := frozen_of_heap Hx1.out _
  have x9 : w1.cell? ⟨x.o, 9, none⟩ = some (x.vals) := by rw [cell_of_heap Hx1.out]; rfl
  have fx9 : w1.frozen? ⟨x.o, 9, none⟩ = false := frozen_of_heap Hx1.out _
  rw [hk] at x0
  clear hk
  go_wp2_with fail
  refine (pmissing_c _ _).mono ?_
  rintro e wm ⟨rfl, rfl⟩
  go_wp2
  go_ret
  exact int_done rfl HW1.out
set_option maxRecDepth 100000 in
set_option maxHeartbeats 2000000 in
theorem pSetMeta_bad4 (w : World) (h : Nat) (k1 p1 q1 : Int) (s1 : ByteArray) (r1 : Int) (k2 p2 q2 : Int) (s2 : ByteArray) (r2 : Int) (x : PO) (X : w.heap[x.o]? = some (.cells x.cells 71)) (hk : x.kind = 4) (hne : ∀ W : World, (binOp .neq 30 (.agg #[.int .i64 k2, .int .i64 p2, .int .i64 q2, .string s2, .int .i64 r2]) (.agg #[.int .i64 0, .int .i64 0, .int .i64 0, .string ⟨#[]⟩, .int .i64 0])).run Tryz.prog W = .ok (.bool true) W) (F : ∀ W, Below w.heap.size w W → Calls Tryz.prog 31 #[.pointer (some ⟨h, 0, none⟩), .agg #[.int .i64 k1, .int .i64 p1, .int .i64 q1, .string s1, .int .i64 r1]] W (PtrPost W (.pointer (some ⟨x.o, 0, none⟩)))) (T : ∀ W, Below w.heap.size w W → Calls Tryz.prog 25 #[.pointer (some ⟨h, 0, none⟩), .agg #[.int .i64 k2, .int .i64 p2, .int .i64 q2, .string s2, .int .i64 r2]] W (PtrPost W (.pointer none))) : Calls Tryz.prog 11 #[.pointer (some ⟨h, 0, none⟩), .agg #[.int .i64 k1, .int .i64 p1, .int .i64 q1, .string s1, .int .i64 r1], .agg #[.int .i64 k2, .int .i64 p2, .int .i64 q2, .string s2, .int .i64 r2]] w (IntPost w 8) := by
  have HX := Lib.hid X
  have HF := Lib.hid F
  have HT := Lib.hid T
  clear X F T
  go_enter Tryz.func11, Tryz.ntmps11
  go_wp2_with fail
  refine (HF.out _ (below2w _ _ _)).mono ?_
  rintro e w1 ⟨rfl, hb⟩
  have Hx1 := Lib.hid (hkeep hb (heap2_old HX.out _ _))
  have Hb1 := Lib.hid (hkeep hb (heap2_b _ _ _))
  have HW1 := Lib.hid (below_next (below2w _ _ _) hb)
  have hz1 := hb.size
  try simp at hz1
  clear hb
  have hyx : x.o < w1.heap.size := (Array.getElem?_eq_some_iff.1 Hx1.out).1
  have x0 : w1.cell? ⟨x.o, 0, none⟩ = some (.int .i64 x.kind) := by rw [cell_of_heap Hx1.out]; rfl
  have fx0 : w1.frozen? ⟨x.o, 0, none⟩ = false := frozen_of_heap Hx1.out _
  have x1 : w1.cell? ⟨x.o, 1, none⟩ = some (.int .i64 x.tag) := by rw [cell_of_heap Hx1.out]; rfl
  have fx1 : w1.frozen? ⟨x.o, 1, none⟩ = false := frozen_of_heap Hx1.out _
  have x2 : w1.cell? ⟨x.o, 2, none⟩ = some (.string x.name) := by rw [cell_of_heap Hx1.out]; rfl
  have fx2 : w1.frozen? ⟨x.o, 2, none⟩ = false := frozen_of_heap Hx1.out _
  have x3 : w1.cell? ⟨x.o, 3, none⟩ = some (x.tabv) := by rw [cell_of_heap Hx1.out]; rfl
  have fx3 : w1.frozen? ⟨x.o, 3, none⟩ = false := frozen_of_heap Hx1.out _
  have x4 : w1.cell? ⟨x.o, 4, none⟩ = some (.int .i64 x.mt.k) := by rw [cell_of_heap Hx1.out]; rfl
  have fx4 : w1.frozen? ⟨x.o, 4, none⟩ = false := frozen_of_heap Hx1.out _
  have x5 : w1.cell? ⟨x.o, 5, none⟩ = some (.int .i64 x.mt.p) := by rw [cell_of_heap Hx1.out]; rfl
  have fx5 : w1.frozen? ⟨x.o, 5, none⟩ = false := frozen_of_heap Hx1.out _
  have x6 : w1.cell? ⟨x.o, 6, none⟩ = some (.int .i64 x.mt.q) := by rw [cell_of_heap Hx1.out]; rfl
  have fx6 : w1.frozen? ⟨x.o, 6, none⟩ = false := frozen_of_heap Hx1.out _
  have x7 : w1.cell? ⟨x.o, 7, none⟩ = some (.string x.mt.s) := by rw [cell_of_heap Hx1.out]; rfl
  have fx7 : w1.frozen? ⟨x.o, 7, none⟩ = false := frozen_of_heap Hx1.out _
  have x8 : w1.cell? ⟨x.o, 8, none⟩ = some (.int .i64 x.mt.r) := by rw [cell_of_heap Hx1.out]; rfl
  have fx8 : w1.frozen? ⟨x.o, 8, none⟩ = false := frozen_of_heap Hx1.out _
  have x9 : w1.cell? ⟨x.o, 9, none⟩ = some (x.vals) := by rw [cell_of_heap Hx1.out]; rfl
  have fx9 : w1.frozen? ⟨x.o, 9, none⟩ = false := frozen_of_heap Hx1.out _
  have hyb : w.heap.size + 1 < w1.heap.size := (Array.getElem?_eq_some_iff.1 Hb1.out).1
  have b0 : w1.cell? ⟨w.heap.size + 1, 0, none⟩ = some (.int .i64 k2) := by rw [cell_of_heap Hb1.out]; rfl
  have b1 : w1.cell? ⟨w.heap.size + 1, 1, none⟩ = some (.int .i64 p2) := by rw [cell_of_heap Hb1.out]; rfl
  have b2 : w1.cell? ⟨w.heap.size + 1, 2, none⟩ = some (.int .i64 q2) := by rw [cell_of_heap Hb1.out]; rfl
  have b3 : w1.cell? ⟨w.heap.size + 1, 3, none⟩ = some (.string s2) := by rw [cell_of_heap Hb1.out]; rfl
  have b4 : w1.cell? ⟨w.heap.size + 1, 4, none⟩ = some (.int .i64 r2) := by rw [cell_of_heap Hb1.out]; rfl
  rw [hk] at x0
  go_wp2_with fail
  refine (HT.out _ HW1.out).mono ?_
  rintro e w2 ⟨rfl, hb⟩
  have Hx2 := Lib.hid (hkeep hb (Hx1.out))
  have Hb2 := Lib.hid (hkeep hb (Hb1.out))
  have HW2 := Lib.hid (below_next (HW1.out) hb)
  have hz2 := hb.size
  try simp at hz2
  clear hb
  clear hyx x0 fx0 x1 fx1 x2 fx2 x3 fx3 x4 fx4 x5 fx5 x6 fx6 x7 fx7 x8 fx8 x9 fx9 hyb b0 b1 b2 b3 b4
  clear hk
  go_wp2_with fail
  refine (pmissing_c _ _).mono ?_
  rintro e wm ⟨rfl, rfl⟩
  go_wp2
  go_ret
  exact int_done rfl HW2.out
set_option maxRecDepth 100000 in
set_option maxHeartbeats 2000000 in
theorem pSetMeta_bad8 (w : World) (h : Nat) (k1 p1 q1 : Int) (s1 : ByteArray) (r1 : Int) (k2 p2 q2 : Int) (s2 : ByteArray) (r2 : Int) (x : PO) (X : w.heap[x.o]? = some (.cells x.cells 71)) (hk : x.kind = 8) (hne : ∀ W : World, (binOp .neq 30 (.agg #[.int .i64 k2, .int .i64 p2, .int .i64 q2, .string s2, .int .i64 r2]) (.agg #[.int .i64 0, .int .i64 0, .int .i64 0, .string ⟨#[]⟩, .int .i64 0])).run Tryz.prog W = .ok (.bool true) W) (F : ∀ W, Below w.heap.size w W → Calls Tryz.prog 31 #[.pointer (some ⟨h, 0, none⟩), .agg #[.int .i64 k1, .int .i64 p1, .int .i64 q1, .string s1, .int .i64 r1]] W (PtrPost W (.pointer (some ⟨x.o, 0, none⟩)))) (T : ∀ W, Below w.heap.size w W → Calls Tryz.prog 25 #[.pointer (some ⟨h, 0, none⟩), .agg #[.int .i64 k2, .int .i64 p2, .int .i64 q2, .string s2, .int .i64 r2]] W (PtrPost W (.pointer none))) : Calls Tryz.prog 11 #[.pointer (some ⟨h, 0, none⟩), .agg #[.int .i64 k1, .int .i64 p1, .int .i64 q1, .string s1, .int .i64 r1], .agg #[.int .i64 k2, .int .i64 p2, .int .i64 q2, .string s2, .int .i64 r2]] w (IntPost w 8) := by
  have HX := Lib.hid X
  have HF := Lib.hid F
  have HT := Lib.hid T
  clear X F T
  go_enter Tryz.func11, Tryz.ntmps11
  go_wp2_with fail
  refine (HF.out _ (below2w _ _ _)).mono ?_
  rintro e w1 ⟨rfl, hb⟩
  have Hx1 := Lib.hid (hkeep hb (heap2_old HX.out _ _))
  have Hb1 := Lib.hid (hkeep hb (heap2_b _ _ _))
  have HW1 := Lib.hid (below_next (below2w _ _ _) hb)
  have hz1 := hb.size
  try simp at hz1
  clear hb
  have hyx : x.o < w1.heap.size := (Array.getElem?_eq_some_iff.1 Hx1.out).1
  have x0 : w1.cell? ⟨x.o, 0, none⟩ = some (.int .i64 x.kind) := by rw [cell_of_heap Hx1.out]; rfl
  have fx0 : w1.frozen? ⟨x.o, 0, none⟩ = false := frozen_of_heap Hx1.out _
  have x1 : w1.cell? ⟨x.o, 1, none⟩ = some (.int .i64 x.tag) := by rw [cell_of_heap Hx1.out]; rfl
  have fx1 : w1.frozen? ⟨x.o, 1, none⟩ = false := frozen_of_heap Hx1.out _
  have x2 : w1.cell? ⟨x.o, 2, none⟩ = some (.string x.name) := by rw [cell_of_heap Hx1.out]; rfl
  have fx2 : w1.frozen? ⟨x.o, 2, none⟩ = false := frozen_of_heap Hx1.out _
  have x3 : w1.cell? ⟨x.o, 3, none⟩ = some (x.tabv) := by rw [cell_of_heap Hx1.out]; rfl
  have fx3 : w1.frozen? ⟨x.o, 3, none⟩ = false := frozen_of_heap Hx1.out _
  have x4 : w1.cell? ⟨x.o, 4, none⟩ = some (.int .i64 x.mt.k) := by rw [cell_of_heap Hx1.out]; rfl
  have fx4 : w1.frozen? ⟨x.o, 4, none⟩ = false := frozen_of_heap Hx1.out _
  have x5 : w1.cell? ⟨x.o, 5, none⟩ = some (.int .i64 x.mt.p) := by rw [cell_of_heap Hx1.out]; rfl
  have fx5 : w1.frozen? ⟨x.o, 5, none⟩ = false := frozen_of_heap Hx1.out _
  have x6 : w1.cell? ⟨x.o, 6, none⟩ = some (.int .i64 x.mt.q) := by rw [cell_of_heap Hx1.out]; rfl
  have fx6 : w1.frozen? ⟨x.o, 6, none⟩ = false := frozen_of_heap Hx1.out _
  have x7 : w1.cell? ⟨x.o, 7, none⟩ = some (.string x.mt.s) := by rw [cell_of_heap Hx1.out]; rfl
  have fx7 : w1.frozen? ⟨x.o, 7, none⟩ = false := frozen_of_heap Hx1.out _
  have x8 : w1.cell? ⟨x.o, 8, none⟩ = some (.int .i64 x.mt.r) := by rw [cell_of_heap Hx1.out]; rfl
  have fx8 : w1.frozen? ⟨x.o, 8, none⟩ = false := frozen_of_heap Hx1.out _
  have x9 : w1.cell? ⟨x.o, 9, none⟩ = some (x.vals) := by rw [cell_of_heap Hx1.out]; rfl
  have fx9 : w1.frozen? ⟨x.o, 9, none⟩ = false := frozen_of_heap Hx1.out _
  have hyb : w.heap.size + 1 < w1.heap.size := (Array.getElem?_eq_some_iff.1 Hb1.out).1
  have b0 : w1.cell? ⟨w.heap.size + 1, 0, none⟩ = some (.int .i64 k2) := by rw [cell_of_heap Hb1.out]; rfl
  have b1 : w1.cell? ⟨w.heap.size + 1, 1, none⟩ = some (.int .i64 p2) := by rw [cell_of_heap Hb1.out]; rfl
  have b2 : w1.cell? ⟨w.heap.size + 1, 2, none⟩ = some (.int .i64 q2) := by rw [cell_of_heap Hb1.out]; rfl
  have b3 : w1.cell? ⟨w.heap.size + 1, 3, none⟩ = some (.string s2) := by rw [cell_of_heap Hb1.out]; rfl
  have b4 : w1.cell? ⟨w.heap.size + 1, 4, none⟩ = some (.int .i64 r2) := by rw [cell_of_heap Hb1.out]; rfl
  rw [hk] at x0
  go_wp2_with fail
  refine (HT.out _ HW1.out).mono ?_
  rintro e w2 ⟨rfl, hb⟩
  have Hx2 := Lib.hid (hkeep hb (Hx1.out))
  have Hb2 := Lib.hid (hkeep hb (Hb1.out))
  have HW2 := Lib.hid (below_next (HW1.out) hb)
  have hz2 := hb.size
  try simp at hz2
  clear hb
  clear hyx x0 fx0 x1 fx1 x2 fx2 x3 fx3 x4 fx4 x5 fx5 x6 fx6 x7 fx7 x8 fx8 x9 fx9 hyb b0 b1 b2 b3 b4
  clear hk
  go_wp2_with fail
  refine (pmissing_c _ _).mono ?_
  rintro e wm ⟨rfl, rfl⟩
  go_wp2
  go_ret
  exact int_done rfl HW2.out
set_option maxRecDepth 100000 in
set_option maxHeartbeats 2000000 in
theorem pSetMeta_tab4 (w : World) (h bo bt : Nat) (H : List PO) (hH : HpAt w h bo bt H) (i : Nat) (x : PO) (hi : H[i]? = some x) (hk : x.kind = 4) (k1 p1 q1 : Int) (s1 : ByteArray) (r1 : Int) (k2 p2 q2 : Int) (s2 : ByteArray) (r2 : Int) (hw2 : WfV ⟨k2, p2, q2, s2, r2⟩) (hne : ∀ W : World, (binOp .neq 30 (.agg #[.int .i64 k2, .int .i64 p2, .int .i64 q2, .string s2, .int .i64 r2]) (.agg #[.int .i64 0, .int .i64 0, .int .i64 0, .string ⟨#[]⟩, .int .i64 0])).run Tryz.prog W = .ok (.bool true) W) (F : ∀ W, Below w.heap.size w W → Calls Tryz.prog 31 #[.pointer (some ⟨h, 0, none⟩), .agg #[.int .i64 k1, .int .i64 p1, .int .i64 q1, .string s1, .int .i64 r1]] W (PtrPost W (.pointer (some ⟨x.o, 0, none⟩)))) (tv : Addr) (T : ∀ W, Below w.heap.size w W → Calls Tryz.prog 25 #[.pointer (some ⟨h, 0, none⟩), .agg #[.int .i64 k2, .int .i64 p2, .int .i64 q2, .string s2, .int .i64 r2]] W (PtrPost W (.pointer (some tv))))
    (U : ∀ W H', HpAt W h bo bt H' → Calls Tryz.prog 29 #[.pointer (some ⟨h, 0, none⟩), .agg #[.int .i64 k1, .int .i64 p1, .int .i64 q1, .string s1, .int .i64 r1], .int .i64 0] W (TouchPost W h bo bt H')) :
    Calls Tryz.prog 11 #[.pointer (some ⟨h, 0, none⟩), .agg #[.int .i64 k1, .int .i64 p1, .int .i64 q1, .string s1, .int .i64 r1], .agg #[.int .i64 k2, .int .i64 p2, .int .i64 q2, .string s2, .int .i64 r2]] w (HMetaPost w h bo bt H i x ⟨k2, p2, q2, s2, r2⟩) := by
  have hxm := List.mem_of_getElem? hi
  have HX := Lib.hid (hH.one x hxm).ho
  have hxl : x.o < w.heap.size := (Array.getElem?_eq_some_iff.1 HX.out).1
  have hxn : x.o ≠ w.heap.size := by omega
  have hxn2 : w.heap.size ≠ x.o := by omega
  have HXM := Lib.hid hxm
  have HHH := Lib.hid hH
  have HI := Lib.hid hi
  have HK := Lib.hid hk
  have HWF := Lib.hid hw2
  have HF := Lib.hid F
  have HU := Lib.hid U
  have HT := Lib.hid T
  clear T
  clear F U hH hi hxm hw2
  go_enter Tryz.func11, Tryz.ntmps11
  go_wp2_with fail
  refine (HF.out _ (below2w _ _ _)).mono ?_
  rintro e w1 ⟨rfl, hb⟩
  have Hx1 := Lib.hid (hkeep hb (heap2_old HX.out _ _))
  have Ha1 := Lib.hid (hkeep hb (heap2_a _ _ _))
  have Hb1 := Lib.hid (hkeep hb (heap2_b _ _ _))
  have HW1 := Lib.hid (below_next (below2w _ _ _) hb)
  have hz1 := hb.size
  try simp at hz1
  clear hb
  have hyx : x.o < w1.heap.size := (Array.getElem?_eq_some_iff.1 Hx1.out).1
  have x0 : w1.cell? ⟨x.o, 0, none⟩ = some (.int .i64 x.kind) := by rw [cell_of_heap Hx1.out]; rfl
  have fx0 : w1.frozen? ⟨x.o, 0, none⟩ = false := frozen_of_heap Hx1.out _
  have x1 : w1.cell? ⟨x.o, 1, none⟩ = some (.int .i64 x.tag) := by rw [cell_of_heap Hx1.out]; rfl
  have fx1 : w1.frozen? ⟨x.o, 1, none⟩ = false := frozen_of_heap Hx1.out _
  have x2 : w1.cell? ⟨x.o, 2, none⟩ = some (.string x.name) := by rw [cell_of_heap Hx1.out]; rfl
  have fx2 : w1.frozen? ⟨x.o, 2, none⟩ = false := frozen_of_heap Hx1.out _
  have x3 : w1.cell? ⟨x.o, 3, none⟩ = some (x.tabv) := by rw [cell_of_heap Hx1.out]; rfl
  have fx3 : w1.frozen? ⟨x.o, 3, none⟩ = false := frozen_of_heap Hx1.out _
  have x4 : w1.cell? ⟨x.o, 4, none⟩ = some (.int .i64 x.mt.k) := by rw [cell_of_heap Hx1.out]; rfl
  have fx4 : w1.frozen? ⟨x.o, 4, none⟩ = false := frozen_of_heap Hx1.out _
  have x5 : w1.cell? ⟨x.o, 5, none⟩ = some (.int .i64 x.mt.p) := by rw [cell_of_heap Hx1.out]; rfl
  have fx5 : w1.frozen? ⟨x.o, 5, none⟩ = false := frozen_of_heap Hx1.out _
  have x6 : w1.cell? ⟨x.o, 6, none⟩ = some (.int .i64 x.mt.q) := by rw [cell_of_heap Hx1.out]; rfl
  have fx6 : w1.frozen? ⟨x.o, 6, none⟩ = false := frozen_of_heap Hx1.out _
  have x7 : w1.cell? ⟨x.o, 7, none⟩ = some (.string x.mt.s) := by rw [cell_of_heap Hx1.out]; rfl
  have fx7 : w1.frozen? ⟨x.o, 7, none⟩ = false := frozen_of_heap Hx1.out _
  have x8 : w1.cell? ⟨x.o, 8, none⟩ = some (.int .i64 x.mt.r) := by rw [cell_of_heap Hx1.out]; rfl
  have fx8 : w1.frozen? ⟨x.o, 8, none⟩ = false := frozen_of_heap Hx1.out _
  have x9 : w1.cell? ⟨x.o, 9, none⟩ = some (x.vals) := by rw [cell_of_heap Hx1.out]; rfl
  have fx9 : w1.frozen? ⟨x.o, 9, none⟩ = false := frozen_of_heap Hx1.out _
  have hya : w.heap.size < w1.heap.size := (Array.getElem?_eq_some_iff.1 Ha1.out).1
  have a0 : w1.cell? ⟨w.heap.size, 0, none⟩ = some (.int .i64 k1) := by rw [cell_of_heap Ha1.out]; rfl
  have a1 : w1.cell? ⟨w.heap.size, 1, none⟩ = some (.int .i64 p1) := by rw [cell_of_heap Ha1.out]; rfl
  have a2 : w1.cell? ⟨w.heap.size, 2, none⟩ = some (.int .i64 q1) := by rw [cell_of_heap Ha1.out]; rfl
  have a3 : w1.cell? ⟨w.heap.size, 3, none⟩ = some (.string s1) := by rw [cell_of_heap Ha1.out]; rfl
  have a4 : w1.cell? ⟨w.heap.size, 4, none⟩ = some (.int .i64 r1) := by rw [cell_of_heap Ha1.out]; rfl
  have hyb : w.heap.size + 1 < w1.heap.size := (Array.getElem?_eq_some_iff.1 Hb1.out).1
  have b0 : w1.cell? ⟨w.heap.size + 1, 0, none⟩ = some (.int .i64 k2) := by rw [cell_of_heap Hb1.out]; rfl
  have b1 : w1.cell? ⟨w.heap.size + 1, 1, none⟩ = some (.int .i64 p2) := by rw [cell_of_heap Hb1.out]; rfl
  have b2 : w1.cell? ⟨w.heap.size + 1, 2, none⟩ = some (.int .i64 q2) := by rw [cell_of_heap Hb1.out]; rfl
  have b3 : w1.cell? ⟨w.heap.size + 1, 3, none⟩ = some (.string s2) := by rw [cell_of_heap Hb1.out]; rfl
  have b4 : w1.cell? ⟨w.heap.size + 1, 4, none⟩ = some (.int .i64 r2) := by rw [cell_of_heap Hb1.out]; rfl
  rw [hk] at x0
  go_wp2_with fail
  refine (HT.out _ HW1.out).mono ?_
  rintro e w2 ⟨rfl, hb⟩
  have Hx2 := Lib.hid (hkeep hb (Hx1.out))
  have Ha2 := Lib.hid (hkeep hb (Ha1.out))
  have Hb2 := Lib.hid (hkeep hb (Hb1.out))
  have HW2 := Lib.hid (below_next (HW1.out) hb)
  have hz2 := hb.size
  try simp at hz2
  clear hb
  clear hyx x0 fx0 x1 fx1 x2 fx2 x3 fx3 x4 fx4 x5 fx5 x6 fx6 x7 fx7 x8 fx8 x9 fx9 hya a0 a1 a2 a3 a4 hyb b0 b1 b2 b3 b4
  have hyx : x.o < w2.heap.size := (Array.getElem?_eq_some_iff.1 Hx2.out).1
  have x0 : w2.cell? ⟨x.o, 0, none⟩ = some (.int .i64 x.kind) := by rw [cell_of_heap Hx2.out]; rfl
  have fx0 : w2.frozen? ⟨x.o, 0, none⟩ = false := frozen_of_heap Hx2.out _
  have x1 : w2.cell? ⟨x.o, 1, none⟩ = some (.int .i64 x.tag) := by rw [cell_of_heap Hx2.out]; rfl
  have fx1 : w2.frozen? ⟨x.o, 1, none⟩ = false := frozen_of_heap Hx2.out _
  have x2 : w2.cell? ⟨x.o, 2, none⟩ = some (.string x.name) := by rw [cell_of_heap Hx2.out]; rfl
  have fx2 : w2.frozen? ⟨x.o, 2, none⟩ = false := frozen_of_heap Hx2.out _
  have x3 : w2.cell? ⟨x.o, 3, none⟩ = some (x.tabv) := by rw [cell_of_heap Hx2.out]; rfl
  have fx3 : w2.frozen? ⟨x.o, 3, none⟩ = false := frozen_of_heap Hx2.out _
  have x4 : w2.cell? ⟨x.o, 4, none⟩ = some (.int .i64 x.mt.k) := by rw [cell_of_heap Hx2.out]; rfl
  have fx4 : w2.frozen? ⟨x.o, 4, none⟩ = false := frozen_of_heap Hx2.out _
  have x5 : w2.cell? ⟨x.o, 5, none⟩ = some (.int .i64 x.mt.p) := by rw [cell_of_heap Hx2.out]; rfl
  have fx5 : w2.frozen? ⟨x.o, 5, none⟩ = false := frozen_of_heap Hx2.out _
  have x6 : w2.cell? ⟨x.o, 6, none⟩ = some (.int .i64 x.mt.q) := by rw [cell_of_heap Hx2.out]; rfl
  have fx6 : w2.frozen? ⟨x.o, 6, none⟩ = false := frozen_of_heap Hx2.out _
  have x7 : w2.cell? ⟨x.o, 7, none⟩ = some (.string x.mt.s) := by rw [cell_of_heap Hx2.out]; rfl
  have fx7 : w2.frozen? ⟨x.o, 7, none⟩ = false := frozen_of_heap Hx2.out _
  have x8 : w2.cell? ⟨x.o, 8, none⟩ = some (.int .i64 x.mt.r) := by rw [cell_of_heap Hx2.out]; rfl
  have fx8 : w2.frozen? ⟨x.o, 8, none⟩ = false := frozen_of_heap Hx2.out _
  have x9 : w2.cell? ⟨x.o, 9, none⟩ = some (x.vals) := by rw [cell_of_heap Hx2.out]; rfl
  have fx9 : w2.frozen? ⟨x.o, 9, none⟩ = false := frozen_of_heap Hx2.out _
  have hya : w.heap.size < w2.heap.size := (Array.getElem?_eq_some_iff.1 Ha2.out).1
  have a0 : w2.cell? ⟨w.heap.size, 0, none⟩ = some (.int .i64 k1) := by rw [cell_of_heap Ha2.out]; rfl
  have a1 : w2.cell? ⟨w.heap.size, 1, none⟩ = some (.int .i64 p1) := by rw [cell_of_heap Ha2.out]; rfl
  have a2 : w2.cell? ⟨w.heap.size, 2, none⟩ = some (.int .i64 q1) := by rw [cell_of_heap Ha2.out]; rfl
  have a3 : w2.cell? ⟨w.heap.size, 3, none⟩ = some (.string s1) := by rw [cell_of_heap Ha2.out]; rfl
  have a4 : w2.cell? ⟨w.heap.size, 4, none⟩ = some (.int .i64 r1) := by rw [cell_of_heap Ha2.out]; rfl
  have hyb : w.heap.size + 1 < w2.heap.size := (Array.getElem?_eq_some_iff.1 Hb2.out).1
  have b0 : w2.cell? ⟨w.heap.size + 1, 0, none⟩ = some (.int .i64 k2) := by rw [cell_of_heap Hb2.out]; rfl
  have b1 : w2.cell? ⟨w.heap.size + 1, 1, none⟩ = some (.int .i64 p2) := by rw [cell_of_heap Hb2.out]; rfl
  have b2 : w2.cell? ⟨w.heap.size + 1, 2, none⟩ = some (.int .i64 q2) := by rw [cell_of_heap Hb2.out]; rfl
  have b3 : w2.cell? ⟨w.heap.size + 1, 3, none⟩ = some (.string s2) := by rw [cell_of_heap Hb2.out]; rfl
  have b4 : w2.cell? ⟨w.heap.size + 1, 4, none⟩ = some (.int .i64 r2) := by rw [cell_of_heap Hb2.out]; rfl
  clear hk
  go_wp2_with fail
  refine (HU.out _ (H.set i { x with mt := ⟨k2, p2, q2, s2, r2⟩ }) ((HHH.out.below HW2.out).setMt HI.out (by rw [HK.out]; decide) HWF.out (meta_cells Hx2.out _ _ _ _ _) (mods_setCell (mods_setCell (mods_setCell (mods_setCell (mods_setCell (F := fun b => b = x.o) (Mods.refl _ _) (.inl rfl) _) (.inl rfl) _) (.inl rfl) _) (.inl rfl) _) (.inl rfl) _))).mono ?_
  rintro e w5 ⟨rfl, hH5, hM5⟩
  have HH5 := Lib.hid hH5
  have HM5 := Lib.hid hM5
  clear hH5 hM5
  go_wp2
  go_ret
  have h1 := mods_meta w2 x.o (.int .i64 k2) (.int .i64 p2) (.int .i64 q2) (.string s2) (.int .i64 r2)
  exact ⟨⟨_, rfl⟩, HH5.out, ((Mods.of_below HW2.out).trans (h1.mono (fun k _ e => .inr (.inr (.inr ⟨x, HXM.out, .inl e⟩))))).trans (HM5.out.mono (fun k _ e => .inr (.inr (.inl e))))⟩
set_option maxRecDepth 100000 in
set_option maxHeartbeats 2000000 in
theorem pSetMeta_nil4 (w : World) (h bo bt : Nat) (H : List PO) (hH : HpAt w h bo bt H) (i : Nat) (x : PO) (hi : H[i]? = some x) (hk : x.kind = 4) (k1 p1 q1 : Int) (s1 : ByteArray) (r1 : Int) (k2 p2 q2 : Int) (s2 : ByteArray) (r2 : Int) (hw2 : WfV ⟨k2, p2, q2, s2, r2⟩) (hne : ∀ W : World, (binOp .neq 30 (.agg #[.int .i64 k2, .int .i64 p2, .int .i64 q2, .string s2, .int .i64 r2]) (.agg #[.int .i64 0, .int .i64 0, .int .i64 0, .string ⟨#[]⟩, .int .i64 0])).run Tryz.prog W = .ok (.bool false) W) (F : ∀ W, Below w.heap.size w W → Calls Tryz.prog 31 #[.pointer (some ⟨h, 0, none⟩), .agg #[.int .i64 k1, .int .i64 p1, .int .i64 q1, .string s1, .int .i64 r1]] W (PtrPost W (.pointer (some ⟨x.o, 0, none⟩)))) 
    (U : ∀ W H', HpAt W h bo bt H' → Calls Tryz.prog 29 #[.pointer (some ⟨h, 0, none⟩), .agg #[.int .i64 k1, .int .i64 p1, .int .i64 q1, .string s1, .int .i64 r1], .int .i64 0] W (TouchPost W h bo bt H')) :
    Calls Tryz.prog 11 #[.pointer (some ⟨h, 0, none⟩), .agg #[.int .i64 k1, .int .i64 p1, .int .i64 q1, .string s1, .int .i64 r1], .agg #[.int .i64 k2, .int .i64 p2, .int .i64 q2, .string s2, .int .i64 r2]] w (HMetaPost w h bo bt H i x ⟨k2, p2, q2, s2, r2⟩) := by
  have hxm := List.mem_of_getElem? hi
  have HX := Lib.hid (hH.one x hxm).ho
  have hxl : x.o < w.heap.size := (Array.getElem?_eq_some_iff.1 HX.out).1
  have hxn : x.o ≠ w.heap.size := by omega
  have hxn2 : w.heap.size ≠ x.o := by omega
  have HXM := Lib.hid hxm
  have HHH := Lib.hid hH
  have HI := Lib.hid hi
  have HK := Lib.hid hk
  have HWF := Lib.hid hw2
  have HF := Lib.hid F
  have HU := Lib.hid U
  clear F U hH hi hxm hw2
  go_enter Tryz.func11, Tryz.ntmps11
  go_wp2_with fail
  refine (HF.out _ (below2w _ _ _)).mono ?_
  rintro e w1 ⟨rfl, hb⟩
  have Hx1 := Lib.hid (hkeep hb (heap2_old HX.out _ _))
  have Ha1 := Lib.hid (hkeep hb (heap2_a _ _ _))
  have Hb1 := Lib.hid (hkeep hb (heap2_b _ _ _))
  have HW1 := Lib.hid (below_next (below2w _ _ _) hb)
  have hz1 := hb.size
  try simp at hz1
  clear hb
  have hyx : x.o < w1.heap.size := (Array.getElem?_eq_some_iff.1 Hx1.out).1
  have x0 : w1.cell? ⟨x.o, 0, none⟩ = some (.int .i64 x.kind) := by rw [cell_of_heap Hx1.out]; rfl
  have fx0 : w1.frozen? ⟨x.o, 0, none⟩ = false := frozen_of_heap Hx1.out _
  have x1 : w1.cell? ⟨x.o, 1, none⟩ = some (.int .i64 x.tag) := by rw [cell_of_heap Hx1.out]; rfl
  have fx1 : w1.frozen? ⟨x.o, 1, none⟩ = false := frozen_of_heap Hx1.out _
  have x2 : w1.cell? ⟨x.o, 2, none⟩ = some (.string x.name) := by rw [cell_of_heap Hx1.out]; rfl
  have fx2 : w1.frozen? ⟨x.o, 2, none⟩ = false := frozen_of_heap Hx1.out _
  have x3 : w1.cell? ⟨x.o, 3, none⟩ = some (x.tabv) := by rw [cell_of_heap Hx1.out]; rfl
  have fx3 : w1.frozen? ⟨x.o, 3, none⟩ = false := frozen_of_heap Hx1.out _
  have x4 : w1.cell? ⟨x.o, 4, none⟩ = some (.int .i64 x.mt.k) := by rw [cell_of_heap Hx1.out]; rfl
  have fx4 : w1.frozen? ⟨x.o, 4, none⟩ = false := frozen_of_heap Hx1.out _
  have x5 : w1.cell? ⟨x.o, 5, none⟩ = some (.int .i64 x.mt.p) := by rw [cell_of_heap Hx1.out]; rfl
  have fx5 : w1.frozen? ⟨x.o, 5, none⟩ = false := frozen_of_heap Hx1.out _
  have x6 : w1.cell? ⟨x.o, 6, none⟩ = some (.int .i64 x.mt.q) := by rw [cell_of_heap Hx1.out]; rfl
  have fx6 : w1.frozen? ⟨x.o, 6, none⟩ = false := frozen_of_heap Hx1.out _
  have x7 : w1.cell? ⟨x.o, 7, none⟩ = some (.string x.mt.s) := by rw [cell_of_heap Hx1.out]; rfl
  have fx7 : w1.frozen? ⟨x.o, 7, none⟩ = false := frozen_of_heap Hx1.out _
  have x8 : w1.cell? ⟨x.o, 8, none⟩ = some (.int .i64 x.mt.r) := by rw [cell_of_heap Hx1.out]; rfl
  have fx8 : w1.frozen? ⟨x.o, 8, none⟩ = false := frozen_of_heap Hx1.out _
  have x9 : w1.cell? ⟨x.o, 9, none⟩ = some (x.vals) := by rw [cell_of_heap Hx1.out]; rfl
  have fx9 : w1.frozen? ⟨x.o, 9, none⟩ = false := frozen_of_heap Hx1.out _
  have hya : w.heap.size < w1.heap.size := (Array.getElem?_eq_some_iff.1 Ha1.out).1
  have a0 : w1.cell? ⟨w.heap.size, 0, none⟩ = some (.int .i64 k1) := by rw [cell_of_heap Ha1.out]; rfl
  have a1 : w1.cell? ⟨w.heap.size, 1, none⟩ = some (.int .i64 p1) := by rw [cell_of_heap Ha1.out]; rfl
  have a2 : w1.cell? ⟨w.heap.size, 2, none⟩ = some (.int .i64 q1) := by rw [cell_of_heap Ha1.out]; rfl
  have a3 : w1.cell? ⟨w.heap.size, 3, none⟩ = some (.string s1) := by rw [cell_of_heap Ha1.out]; rfl
  have a4 : w1.cell? ⟨w.heap.size, 4, none⟩ = some (.int .i64 r1) := by rw [cell_of_heap Ha1.out]; rfl
  have hyb : w.heap.size + 1 < w1.heap.size := (Array.getElem?_eq_some_iff.1 Hb1.out).1
  have b0 : w1.cell? ⟨w.heap.size + 1, 0, none⟩ = some (.int .i64 k2) := by rw [cell_of_heap Hb1.out]; rfl
  have b1 : w1.cell? ⟨w.heap.size + 1, 1, none⟩ = some (.int .i64 p2) := by rw [cell_of_heap Hb1.out]; rfl
  have b2 : w1.cell? ⟨w.heap.size + 1, 2, none⟩ = some (.int .i64 q2) := by rw [cell_of_heap Hb1.out]; rfl
  have b3 : w1.cell? ⟨w.heap.size + 1, 3, none⟩ = some (.string s2) := by rw [cell_of_heap Hb1.out]; rfl
  have b4 : w1.cell? ⟨w.heap.size + 1, 4, none⟩ = some (.int .i64 r2) := by rw [cell_of_heap Hb1.out]; rfl
  rw [hk] at x0
  clear hk
  go_wp2_with fail
  refine (HU.out _ (H.set i { x with mt := ⟨k2, p2, q2, s2, r2⟩ }) ((HHH.out.below HW1.out).setMt HI.out (by rw [HK.out]; decide) HWF.out (meta_cells Hx1.out _ _ _ _ _) (mods_setCell (mods_setCell (mods_setCell (mods_setCell (mods_setCell (F := fun b => b = x.o) (Mods.refl _ _) (.inl rfl) _) (.inl rfl) _) (.inl rfl) _) (.inl rfl) _) (.inl rfl) _))).mono ?_
  rintro e w5 ⟨rfl, hH5, hM5⟩
  have HH5 := Lib.hid hH5
  have HM5 := Lib.hid hM5
  clear hH5 hM5
  go_wp2
  go_ret
  have h1 := mods_meta w1 x.o (.int .i64 k2) (.int .i64 p2) (.int .i64 q2) (.string s2) (.int .i64 r2)
  exact ⟨⟨_, rfl⟩, HH5.out, ((Mods.of_below HW1.out).trans (h1.mono (fun k _ e => .inr (.inr (.inr ⟨x, HXM.out, .inl e⟩))))).trans (HM5.out.mono (fun k _ e => .inr (.inr (.inl e))))⟩
set_option maxRecDepth 100000 in
set_option maxHeartbeats 2000000 in
theorem pSetMeta_tab8 (w : World) (h bo bt : Nat) (H : List PO) (hH : HpAt w h bo bt H) (i : Nat) (x : PO) (hi : H[i]? = some x) (hk : x.kind = 8) (k1 p1 q1 : Int) (s1 : ByteArray) (r1 : Int) (k2 p2 q2 : Int) (s2 : ByteArray) (r2 : Int) (hw2 : WfV ⟨k2, p2, q2, s2, r2⟩) (hne : ∀ W : World, (binOp .neq 30 (.agg #[.int .i64 k2, .int .i64 p2, .int .i64 q2, .string s2, .int .i64 r2]) (.agg #[.int .i64 0, .int .i64 0, .int .i64 0, .string ⟨#[]⟩, .int .i64 0])).run Tryz.prog W = .ok (.bool true) W) (F : ∀ W, Below w.heap.size w W → Calls Tryz.prog 31 #[.pointer (some ⟨h, 0, none⟩), .agg #[.int .i64 k1, .int .i64 p1, .int .i64 q1, .string s1, .int .i64 r1]] W (PtrPost W (.pointer (some ⟨x.o, 0, none⟩)))) (tv : Addr) (T : ∀ W, Below w.heap.size w W → Calls Tryz.prog 25 #[.pointer (some ⟨h, 0, none⟩), .agg #[.int .i64 k2, .int .i64 p2, .int .i64 q2, .string s2, .int .i64 r2]] W (PtrPost W (.pointer (some tv))))
    (U : ∀ W H', HpAt W h bo bt H' → Calls Tryz.prog 29 #[.pointer (some ⟨h, 0, none⟩), .agg #[.int .i64 k1, .int .i64 p1, .int .i64 q1, .string s1, .int .i64 r1], .int .i64 0] W (TouchPost W h bo bt H')) :
    Calls Tryz.prog 11 #[.pointer (some ⟨h, 0, none⟩), .agg #[.int .i64 k1, .int .i64 p1, .int .i64 q1, .string s1, .int .i64 r1], .agg #[.int .i64 k2, .int .i64 p2, .int .i64 q2, .string s2, .int .i64 r2]] w (HMetaPost w h bo bt H i x ⟨k2, p2, q2, s2, r2⟩) := by
  have hxm := List.mem_of_getElem? hi
  have HX := Lib.hid (hH.one x hxm).ho
  have hxl : x.o < w.heap.size := (Array.getElem?_eq_some_iff.1 HX.out).1
  have hxn : x.o ≠ w.heap.size := by omega
  have hxn2 : w.heap.size ≠ x.o := by omega
  have HXM := Lib.hid hxm
  have HHH := Lib.hid hH
  have HI := Lib.hid hi
  have HK := Lib.hid hk
  have HWF := Lib.hid hw2
  have HF := Lib.hid F
  have HU := Lib.hid U
  have HT := Lib.hid T
  clear T
  clear F U hH hi hxm hw2
  go_enter Tryz.func11, Tryz.ntmps11
  go_wp2_with fail
  refine (HF.out _ (below2w _ _ _)).mono ?_
  rintro e w1 ⟨rfl, hb⟩
  have Hx1 := Lib.hid (hkeep hb (heap2_old HX.out _ _))
  have Ha1 := Lib.hid (hkeep hb (heap2_a _ _ _))
  have Hb1 := Lib.hid (hkeep hb (heap2_b _ _ _))
  have HW1 := Lib.hid (below_next (below2w _ _ _) hb)
  have hz1 := hb.size
  try simp at hz1
  clear hb
  have hyx : x.o < w1.heap.size := (Array.getElem?_eq_some_iff.1 Hx1.out).1
  have x0 : w1.cell? ⟨x.o, 0, none⟩ = some (.int .i64 x.kind) := by rw [cell_of_heap Hx1.out]; rfl
  have fx0 : w1.frozen? ⟨x.o, 0, none⟩ = false := frozen_of_heap Hx1.out _
  have x1 : w1.cell? ⟨x.o, 1, none⟩ = some (.int .i64 x.tag) := by rw [cell_of_heap Hx1.out]; rfl
  have fx1 : w1.frozen? ⟨x.o, 1, none⟩ = false := frozen_of_heap Hx1.out _
  have x2 : w1.cell? ⟨x.o, 2, none⟩ = some (.string x.name) := by rw [cell_of_heap Hx1.out]; rfl
  have fx2 : w1.frozen? ⟨x.o, 2, none⟩ = false := frozen_of_heap Hx1.out _
  have x3 : w1.cell? ⟨x.o, 3, none⟩ = some (x.tabv) := by rw [cell_of_heap Hx1.out]; rfl
  have fx3 : w1.frozen? ⟨x.o, 3, none⟩ = false := frozen_of_heap Hx1.out _
  have x4 : w1.cell? ⟨x.o, 4, none⟩ = some (.int .i64 x.mt.k) := by rw [cell_of_heap Hx1.out]; rfl
  have fx4 : w1.frozen? ⟨x.o, 4, none⟩ = false := frozen_of_heap Hx1.out _
  have x5 : w1.cell? ⟨x.o, 5, none⟩ = some (.int .i64 x.mt.p) := by rw [cell_of_heap Hx1.out]; rfl
  have fx5 : w1.frozen? ⟨x.o, 5, none⟩ = false := frozen_of_heap Hx1.out _
  have x6 : w1.cell? ⟨x.o, 6, none⟩ = some (.int .i64 x.mt.q) := by rw [cell_of_heap Hx1.out]; rfl
  have fx6 : w1.frozen? ⟨x.o, 6, none⟩ = false := frozen_of_heap Hx1.out _
  have x7 : w1.cell? ⟨x.o, 7, none⟩ = some (.string x.mt.s) := by rw [cell_of_heap Hx1.out]; rfl
  have fx7 : w1.frozen? ⟨x.o, 7, none⟩ = false := frozen_of_heap Hx1.out _
  have x8 : w1.cell? ⟨x.o, 8, none⟩ = some (.int .i64 x.mt.r) := by rw [cell_of_heap Hx1.out]; rfl
  have fx8 : w1.frozen? ⟨x.o, 8, none⟩ = false := frozen_of_heap Hx1.out _
  have x9 : w1.cell? ⟨x.o, 9, none⟩ = some (x.vals) := by rw [cell_of_heap Hx1.out]; rfl
  have fx9 : w1.frozen? ⟨x.o, 9, none⟩ = false := frozen_of_heap Hx1.out _
  have hya : w.heap.size < w1.heap.size := (Array.getElem?_eq_some_iff.1 Ha1.out).1
  have a0 : w1.cell? ⟨w.heap.size, 0, none⟩ = some (.int .i64 k1) := by rw [cell_of_heap Ha1.out]; rfl
  have a1 : w1.cell? ⟨w.heap.size, 1, none⟩ = some (.int .i64 p1) := by rw [cell_of_heap Ha1.out]; rfl
  have a2 : w1.cell? ⟨w.heap.size, 2, none⟩ = some (.int .i64 q1) := by rw [cell_of_heap Ha1.out]; rfl
  have a3 : w1.cell? ⟨w.heap.size, 3, none⟩ = some (.string s1) := by rw [cell_of_heap Ha1.out]; rfl
  have a4 : w1.cell? ⟨w.heap.size, 4, none⟩ = some (.int .i64 r1) := by rw [cell_of_heap Ha1.out]; rfl
  have hyb : w.heap.size + 1 < w1.heap.size := (Array.getElem?_eq_some_iff.1 Hb1.out).1
  have b0 : w1.cell? ⟨w.heap.size + 1, 0, none⟩ = some (.int .i64 k2) := by rw [cell_of_heap Hb1.out]; rfl
  have b1 : w1.cell? ⟨w.heap.size + 1, 1, none⟩ = some (.int .i64 p2) := by rw [cell_of_heap Hb1.out]; rfl
  have b2 : w1.cell? ⟨w.heap.size + 1, 2, none⟩ = some (.int .i64 q2) := by rw [cell_of_heap Hb1.out]; rfl
  have b3 : w1.cell? ⟨w.heap.size + 1, 3, none⟩ = some (.string s2) := by rw [cell_of_heap Hb1.out]; rfl
  have b4 : w1.cell? ⟨w.heap.size + 1, 4, none⟩ = some (.int .i64 r2) := by rw [cell_of_heap Hb1.out]; rfl
  rw [hk] at x0
  go_wp2_with fail
  refine (HT.out _ HW1.out).mono ?_
  rintro e w2 ⟨rfl, hb⟩
  have Hx2 := Lib.hid (hkeep hb (Hx1.out))
  have Ha2 := Lib.hid (hkeep hb (Ha1.out))
  have Hb2 := Lib.hid (hkeep hb (Hb1.out))
  have HW2 := Lib.hid (below_next (HW1.out) hb)
  have hz2 := hb.size
  try simp at hz2
  clear hb
  clear hyx x0 fx0 x1 fx1 x2 fx2 x3 fx3 x4 fx4 x5 fx5 x6 fx6 x7 fx7 x8 fx8 x9 fx9 hya a0 a1 a2 a3 a4 hyb b0 b1 b2 b3 b4
  have hyx : x.o < w2.heap.size := (Array.getElem?_eq_some_iff.1 Hx2.out).1
  have x0 : w2.cell? ⟨x.o, 0, none⟩ = some (.int .i64 x.kind) := by rw [cell_of_heap Hx2.out]; rfl
  have fx0 : w2.frozen? ⟨x.o, 0, none⟩ = false := frozen_of_heap Hx2.out _
  have x1 : w2.cell? ⟨x.o, 1, none⟩ = some (.int .i64 x.tag) := by rw [cell_of_heap Hx2.out]; rfl
  have fx1 : w2.frozen? ⟨x.o, 1, none⟩ = false := frozen_of_heap Hx2.out _
  have x2 : w2.cell? ⟨x.o, 2, none⟩ = some (.string x.name) := by rw [cell_of_heap Hx2.out]; rfl
  have fx2 : w2.frozen? ⟨x.o, 2, none⟩ = false := frozen_of_heap Hx2.out _
  have x3 : w2.cell? ⟨x.o, 3, none⟩ = some (x.tabv) := by rw [cell_of_heap Hx2.out]; rfl
  have fx3 : w2.frozen? ⟨x.o, 3, none⟩ = false := frozen_of_heap Hx2.out _
  have x4 : w2.cell? ⟨x.o, 4, none⟩ = some (.int .i64 x.mt.k) := by rw [cell_of_heap Hx2.out]; rfl
  have fx4 : w2.frozen? ⟨x.o, 4, none⟩ = false := frozen_of_heap Hx2.out _
  have x5 : w2.cell? ⟨x.o, 5, none⟩ = some (.int .i64 x.mt.p) := by rw [cell_of_heap Hx2.out]; rfl
  have fx5 : w2.frozen? ⟨x.o, 5, none⟩ = false := frozen_of_heap Hx2.out _
  have x6 : w2.cell? ⟨x.o, 6, none⟩ = some (.int .i64 x.mt.q) := by rw [cell_of_heap Hx2.out]; rfl
  have fx6 : w2.frozen? ⟨x.o, 6, none⟩ = false := frozen_of_heap Hx2.out _
  have x7 : w2.cell? ⟨x.o, 7, none⟩ = some (.string x.mt.s) := by rw [cell_of_heap Hx2.out]; rfl
  have fx7 : w2.frozen? ⟨x.o, 7, none⟩ = false := frozen_of_heap Hx2.out _
  have x8 : w2.cell? ⟨x.o, 8, none⟩ = some (.int .i64 x.mt.r) := by rw [cell_of_heap Hx2.out]; rfl
  have fx8 : w2.frozen? ⟨x.o, 8, none⟩ = false := frozen_of_heap Hx2.out _
  have x9 : w2.cell? ⟨x.o, 9, none⟩ = some (x.vals) := by rw [cell_of_heap Hx2.out]; rfl
  have fx9 : w2.frozen? ⟨x.o, 9, none⟩ = false := frozen_of_heap Hx2.out _
  have hya : w.heap.size < w2.heap.size := (Array.getElem?_eq_some_iff.1 Ha2.out).1
  have a0 : w2.cell? ⟨w.heap.size, 0, none⟩ = some (.int .i64 k1) := by rw [cell_of_heap Ha2.out]; rfl
  have a1 : w2.cell? ⟨w.heap.size, 1, none⟩ = some (.int .i64 p1) := by rw [cell_of_heap Ha2.out]; rfl
  have a2 : w2.cell? ⟨w.heap.size, 2, none⟩ = some (.int .i64 q1) := by rw [cell_of_heap Ha2.out]; rfl
  have a3 : w2.cell? ⟨w.heap.size, 3, none⟩ = some (.string s1) := by rw [cell_of_heap Ha2.out]; rfl
  have a4 : w2.cell? ⟨w.heap.size, 4, none⟩ = some (.int .i64 r1) := by rw [cell_of_heap Ha2.out]; rfl
  have hyb : w.heap.size + 1 < w2.heap.size := (Array.getElem?_eq_some_iff.1 Hb2.out).1
  have b0 : w2.cell? ⟨w.heap.size + 1, 0, none⟩ = some (.int .i64 k2) := by rw [cell_of_heap Hb2.out]; rfl
  have b1 : w2.cell? ⟨w.heap.size + 1, 1, none⟩ = some (.int .i64 p2) := by rw [cell_of_heap Hb2.out]; rfl
  have b2 : w2.cell? ⟨w.heap.size + 1, 2, none⟩ = some (.int .i64 q2) := by rw [cell_of_heap Hb2.out]; rfl
  have b3 : w2.cell? ⟨w.heap.size + 1, 3, none⟩ = some (.string s2) := by rw [cell_of_heap Hb2.out]; rfl
  have b4 : w2.cell? ⟨w.heap.size + 1, 4, none⟩ = some (.int .i64 r2) := by rw [cell_of_heap Hb2.out]; rfl
  clear hk
  go_wp2_with fail
  refine (HU.out _ (H.set i { x with mt := ⟨k2, p2, q2, s2, r2⟩ }) ((HHH.out.below HW2.out).setMt HI.out (by rw [HK.out]; decide) HWF.out (meta_cells Hx2.out _ _ _ _ _) (mods_setCell (mods_setCell (mods_setCell (mods_setCell (mods_setCell (F := fun b => b = x.o) (Mods.refl _ _) (.inl rfl) _) (.inl rfl) _) (.inl rfl) _) (.inl rfl) _) (.inl rfl) _))).mono ?_
  rintro e w5 ⟨rfl, hH5, hM5⟩
  have HH5 := Lib.hid hH5
  have HM5 := Lib.hid hM5
  clear hH5 hM5
  go_wp2
  go_ret
  have h1 := mods_meta w2 x.o (.int .i64 k2) (.int .i64 p2) (.int .i64 q2) (.string s2) (.int .i64 r2)
  exact ⟨⟨_, rfl⟩, HH5.out, ((Mods.of_below HW2.out).trans (h1.mono (fun k _ e => .inr (.inr (.inr ⟨x, HXM.out, .inl e⟩))))).trans (HM5.out.mono (fun k _ e => .inr (.inr (.inl e))))⟩
set_option maxRecDepth 100000 in
set_option maxHeartbeats 2000000 in
theorem pSetMeta_nil8 (w : World) (h bo bt : Nat) (H : List PO) (hH : HpAt w h bo bt H) (i : Nat) (x : PO) (hi : H[i]? = some x) (hk : x.kind = 8) (k1 p1 q1 : Int) (s1 : ByteArray) (r1 : Int) (k2 p2 q2 : Int) (s2 : ByteArray) (r2 : Int) (hw2 : WfV ⟨k2, p2, q2, s2, r2⟩) (hne : ∀ W : World, (binOp .neq 30 (.agg #[.int .i64 k2, .int .i64 p2, .int .i64 q2, .string s2, .int .i64 r2]) (.agg #[.int .i64 0, .int .i64 0, .int .i64 0, .string ⟨#[]⟩, .int .i64 0])).run Tryz.prog W = .ok (.bool false) W) (F : ∀ W, Below w.heap.size w W → Calls Tryz.prog 31 #[.pointer (some ⟨h, 0, none⟩), .agg #[.int .i64 k1, .int .i64 p1, .int .i64 q1, .string s1, .int .i64 r1]] W (PtrPost W (.pointer (some ⟨x.o, 0, none⟩)))) 
    (U : ∀ W H', HpAt W h bo bt H' → Calls Tryz.prog 29 #[.pointer (some ⟨h, 0, none⟩), .agg #[.int .i64 k1, .int .i64 p1, .int .i64 q1, .string s1, .int .i64 r1], .int .i64 0] W (TouchPost W h bo bt H')) :
    Calls Tryz.prog 11 #[.pointer (some ⟨h, 0, none⟩), .agg #[.int .i64 k1, .int .i64 p1, .int .i64 q1, .string s1, .int .i64 r1], .agg #[.int .i64 k2, .int .i64 p2, .int .i64 q2, .string s2, .int .i64 r2]] w (HMetaPost w h bo bt H i x ⟨k2, p2, q2, s2, r2⟩) := by
  have hxm := List.mem_of_getElem? hi
  have HX := Lib.hid (hH.one x hxm).ho
  have hxl : x.o < w.heap.size := (Array.getElem?_eq_some_iff.1 HX.out).1
  have hxn : x.o ≠ w.heap.size := by omega
  have hxn2 : w.heap.size ≠ x.o := by omega
  have HXM := Lib.hid hxm
  have HHH := Lib.hid hH
  have HI := Lib.hid hi
  have HK := Lib.hid hk
  have HWF := Lib.hid hw2
  have HF := Lib.hid F
  have HU := Lib.hid U
  clear F U hH hi hxm hw2
  go_enter Tryz.func11, Tryz.ntmps11
  go_wp2_with fail
  refine (HF.out _ (below2w _ _ _)).mono ?_
  rintro e w1 ⟨rfl, hb⟩
  have Hx1 := Lib.hid (hkeep hb (heap2_old HX.out _ _))
  have Ha1 := Lib.hid (hkeep hb (heap2_a _ _ _))
  have Hb1 := Lib.hid (hkeep hb (heap2_b _ _ _))
  have HW1 := Lib.hid (below_next (below2w _ _ _) hb)
  have hz1 := hb.size
  try simp at hz1
  clear hb
  have hyx : x.o < w1.heap.size := (Array.getElem?_eq_some_iff.1 Hx1.out).1
  have x0 : w1.cell? ⟨x.o, 0, none⟩ = some (.int .i64 x.kind) := by rw [cell_of_heap Hx1.out]; rfl
  have fx0 : w1.frozen? ⟨x.o, 0, none⟩ = false := frozen_of_heap Hx1.out _
  have x1 : w1.cell? ⟨x.o, 1, none⟩ = some (.int .i64 x.tag) := by rw [cell_of_heap Hx1.out]; rfl
  have fx1 : w1.frozen? ⟨x.o, 1, none⟩ = false := frozen_of_heap Hx1.out _
  have x2 : w1.cell? ⟨x.o, 2, none⟩ = some (.string x.name) := by rw [cell_of_heap Hx1.out]; rfl
  have fx2 : w1.frozen? ⟨x.o, 2, none⟩ = false := frozen_of_heap Hx1.out _
  have x3 : w1.cell? ⟨x.o, 3, none⟩ = some (x.tabv) := by rw [cell_of_heap Hx1.out]; rfl
  have fx3 : w1.frozen? ⟨x.o, 3, none⟩ = false := frozen_of_heap Hx1.out _
  have x4 : w1.cell? ⟨x.o, 4, none⟩ = some (.int .i64 x.mt.k) := by rw [cell_of_heap Hx1.out]; rfl
  have fx4 : w1.frozen? ⟨x.o, 4, none⟩ = false := frozen_of_heap Hx1.out _
  have x5 : w1.cell? ⟨x.o, 5, none⟩ = some (.int .i64 x.mt.p) := by rw [cell_of_heap Hx1.out]; rfl
  have fx5 : w1.frozen? ⟨x.o, 5, none⟩ = false := frozen_of_heap Hx1.out _
  have x6 : w1.cell? ⟨x.o, 6, none⟩ = some (.int .i64 x.mt.q) := by rw [cell_of_heap Hx1.out]; rfl
  have fx6 : w1.frozen? ⟨x.o, 6, none⟩ = false := frozen_of_heap Hx1.out _
  have x7 : w1.cell? ⟨x.o, 7, none⟩ = some (.string x.mt.s) := by rw [cell_of_heap Hx1.out]; rfl
  have fx7 : w1.frozen? ⟨x.o, 7, none⟩ = false := frozen_of_heap Hx1.out _
  have x8 : w1.cell? ⟨x.o, 8, none⟩ = some (.int .i64 x.mt.r) := by rw [cell_of_heap Hx1.out]; rfl
  have fx8 : w1.frozen? ⟨x.o, 8, none⟩ = false := frozen_of_heap Hx1.out _
  have x9 : w1.cell? ⟨x.o, 9, none⟩ = some (x.vals) := by rw [cell_of_heap Hx1.out]; rfl
  have fx9 : w1.frozen? ⟨x.o, 9, none⟩ = false := frozen_of_heap Hx1.out _
  have hya : w.heap.size < w1.heap.size := (Array.getElem?_eq_some_iff.1 Ha1.out).1
  have a0 : w1.cell? ⟨w.heap.size, 0, none⟩ = some (.int .i64 k1) := by rw [cell_of_heap Ha1.out]; rfl
  have a1 : w1.cell? ⟨w.heap.size, 1, none⟩ = some (.int .i64 p1) := by rw [cell_of_heap Ha1.out]; rfl
  have a2 : w1.cell? ⟨w.heap.size, 2, none⟩ = some (.int .i64 q1) := by rw [cell_of_heap Ha1.out]; rfl
  have a3 : w1.cell? ⟨w.heap.size, 3, none⟩ = some (.string s1) := by rw [cell_of_heap Ha1.out]; rfl
  have a4 : w1.cell? ⟨w.heap.size, 4, none⟩ = some (.int .i64 r1) := by rw [cell_of_heap Ha1.out]; rfl
  have hyb : w.heap.size + 1 < w1.heap.size := (Array.getElem?_eq_some_iff.1 Hb1.out).1
  have b0 : w1.cell? ⟨w.heap.size + 1, 0, none⟩ = some (.int .i64 k2) := by rw [cell_of_heap Hb1.out]; rfl
  have b1 : w1.cell? ⟨w.heap.size + 1, 1, none⟩ = some (.int .i64 p2) := by rw [cell_of_heap Hb1.out]; rfl
  have b2 : w1.cell? ⟨w.heap.size + 1, 2, none⟩ = some (.int .i64 q2) := by rw [cell_of_heap Hb1.out]; rfl
  have b3 : w1.cell? ⟨w.heap.size + 1, 3, none⟩ = some (.string s2) := by rw [cell_of_heap Hb1.out]; rfl
  have b4 : w1.cell? ⟨w.heap.size + 1, 4, none⟩ = some (.int .i64 r2) := by rw [cell_of_heap Hb1.out]; rfl
  rw [hk] at x0
  clear hk
  go_wp2_with fail
  refine (HU.out _ (H.set i { x with mt := ⟨k2, p2, q2, s2, r2⟩ }) ((HHH.out.below HW1.out).setMt HI.out (by rw [HK.out]; decide) HWF.out (meta_cells Hx1.out _ _ _ _ _) (mods_setCell (mods_setCell (mods_setCell (mods_setCell (mods_setCell (F := fun b => b = x.o) (Mods.refl _ _) (.inl rfl) _) (.inl rfl) _) (.inl rfl) _) (.inl rfl) _) (.inl rfl) _))).mono ?_
  rintro e w5 ⟨rfl, hH5, hM5⟩
  have HH5 := Lib.hid hH5
  have HM5 := Lib.hid hM5
  clear hH5 hM5
  go_wp2
  go_ret
  have h1 := mods_meta w1 x.o (.int .i64 k2) (.int .i64 p2) (.int .i64 q2) (.string s2) (.int .i64 r2)
  exact ⟨⟨_, rfl⟩, HH5.out, ((Mods.of_below HW1.out).trans (h1.mono (fun k _ e => .inr (.inr (.inr ⟨x, HXM.out, .inl e⟩))))).trans (HM5.out.mono (fun k _ e => .inr (.inr (.inl e))))⟩
theorem pSetMeta_c {base n : Nat} {w : World} {h : Nat} {M : LH} {AA : List (List V)} {O : Nat → Prop} (hP : PHp base n w h M AA O) (hb : base ≤ w.heap.size) (k1 p1 q1 : Int) (s1 : ByteArray) (r1 : Int) (k2 p2 q2 : Int) (s2 : ByteArray) (r2 : Int) (hr : i64 r1) (hw2 : WfV ⟨k2, p2, q2, s2, r2⟩) : Calls Tryz.prog 11 #[.pointer (some ⟨h, 0, none⟩), .agg #[.int .i64 k1, .int .i64 p1, .int .i64 q1, .string s1, .int .i64 r1], .agg #[.int .i64 k2, .int .i64 p2, .int .i64 q2, .string s2, .int .i64 r2]] w (fun e w' => (∃ v, e = .returned v) ∧ PHp base n w' h (setMetaH M ⟨k1, p1, q1, s1, r1⟩ ⟨k2, p2, q2, s2, r2⟩) AA O ∧ QS base O w O w') := by
  obtain ⟨⟨bo, bt, H, h1, h2, h2a, h3, h4, h5⟩, h6⟩ := id hP
  subst h2
  have F := fun W (hb : Below w.heap.size w W) => phfind_c W h bo bt H (h1.below hb) k1 p1 q1 s1 r1 hr
  have T := fun W (hb : Below w.heap.size w W) => ptab_c W h bo bt H (h1.below hb) k2 p2 q2 s2 r2 hw2.r
  have U := fun W H' (hH' : HpAt W h bo bt H') => pTouch_c W h bo bt H' hH' k1 p1 q1 s1 r1 hr
  have N := fun W => neq_run W k2 p2 q2 s2 r2 0 0 0 ⟨#[]⟩ 0
  cases hf : findP H ⟨k1, p1, q1, s1, r1⟩ with
  | none =>
    rw [hf] at F
    have hM : setMetaH (lh H) ⟨k1, p1, q1, s1, r1⟩ ⟨k2, p2, q2, s2, r2⟩ = lh H := by unfold setMetaH; rw [find_lo, hf]; rfl
    exact (pSetMeta_none w h k1 p1 q1 s1 r1 k2 p2 q2 s2 r2 F).mono (fun e w' hp => int_keep hP hM hp)
  | some x =>
    rw [hf] at F
    obtain ⟨i, hi, hk, hri, hxm⟩ := find_at hf
    have hri : r1 = ((i + 1 : Nat) : Int) := hri
    have hx := h1.one x hxm
    have hSM : setMetaH (lh H) ⟨k1, p1, q1, s1, r1⟩ ⟨k2, p2, q2, s2, r2⟩ = if (x.kind = 4 ∨ x.kind = 8) ∧ (eqV ⟨k2, p2, q2, s2, r2⟩ V.nil = true ∨ tabH (lh H) ⟨k2, p2, q2, s2, r2⟩ = true) then (lh H).set (r1.toNat - 1) ⟨x.kind, ⟨k2, p2, q2, s2, r2⟩, x.lo.L⟩ else lh H := by unfold setMetaH; rw [find_lo, hf]; rfl
    have fin : (x.kind = 4 ∨ x.kind = 8) → (eqV ⟨k2, p2, q2, s2, r2⟩ V.nil = true ∨ tabH (lh H) ⟨k2, p2, q2, s2, r2⟩ = true) → ∀ e w', HMetaPost w h bo bt H i x ⟨k2, p2, q2, s2, r2⟩ e w' → (∃ v, e = .returned v) ∧ PHp base n w' h (setMetaH (lh H) ⟨k1, p1, q1, s1, r1⟩ ⟨k2, p2, q2, s2, r2⟩) AA O ∧ QS base O w O w' := by
      rintro ha hb2 e w' ⟨he, hH', hM'⟩
      refine ⟨he, ⟨⟨bo, bt, _, hH', ?_, ?_, ?_, ?_, ?_⟩, fun b hb3 => Nat.lt_of_lt_of_le (h6 b hb3) hM'.size⟩, QS.of_mods hM' (pb_own h1 h5 h4) (fun _ h => .inl h)⟩
      · rw [hSM, if_pos ⟨ha, hb2⟩]
        unfold lh
        rw [List.map_set, show r1.toNat - 1 = i by omega]
        rfl
      · rw [List.map_set, ← h2a]
        exact set_same (by rw [List.getElem?_map, hi]; rfl)
      · intro y hy
        rcases mem_set_at hy with rfl | ⟨j, hj, hjy⟩
        · exact h3 x hxm
        · exact h3 y (List.mem_of_getElem? hjy)
      · rintro b (e | e | e | ⟨y, hy, hyb⟩)
        · exact h4 b (.inl e)
        · exact h4 b (.inr (.inl e))
        · exact h4 b (.inr (.inr (.inl e)))
        · rcases mem_set_at hy with rfl | ⟨j, hj, hjy⟩
          · exact h4 b (.inr (.inr (.inr ⟨x, hxm, hyb⟩)))
          · exact h4 b (.inr (.inr (.inr ⟨y, List.mem_of_getElem? hjy, hyb⟩)))
      · intro y hy hy4 b hyb
        rcases mem_set_at hy with rfl | ⟨j, hj, hjy⟩
        · exact h5 x hxm hy4 b hyb
        · exact h5 y (List.mem_of_getElem? hjy) hy4 b hyb
    have kinds := hx.kd
    rcases kinds with k4 | k5 | k8
    rotate_left
    · exact (pSetMeta_func w h k1 p1 q1 s1 r1 k2 p2 q2 s2 r2 x hx.ho k5 F).mono (fun e w' hp => int_keep hP (by rw [hSM, if_neg (by omega)]) hp)
    · cases he : eqV ⟨k2, p2, q2, s2, r2⟩ V.nil with
      | true =>
        have N0 : ∀ W : World, (binOp .neq 30 (.agg #[.int .i64 k2, .int .i64 p2, .int .i64 q2, .string s2, .int .i64 r2]) (.agg #[.int .i64 0, .int .i64 0, .int .i64 0, .string ⟨#[]⟩, .int .i64 0])).run Tryz.prog W = .ok (.bool false) W := fun W => by have := N W; rw [show eqV ⟨k2, p2, q2, s2, r2⟩ ⟨0, 0, 0, ⟨#[]⟩, 0⟩ = true from he] at this; exact this
        exact (pSetMeta_nil8 w h bo bt H h1 i x hi k8 k1 p1 q1 s1 r1 k2 p2 q2 s2 r2 hw2 N0 F U).mono (fin (by omega) (.inl he))
      | false =>
        have N1 : ∀ W : World, (binOp .neq 30 (.agg #[.int .i64 k2, .int .i64 p2, .int .i64 q2, .string s2, .int .i64 r2]) (.agg #[.int .i64 0, .int .i64 0, .int .i64 0, .string ⟨#[]⟩, .int .i64 0])).run Tryz.prog W = .ok (.bool true) W := fun W => by have := N W; rw [show eqV ⟨k2, p2, q2, s2, r2⟩ ⟨0, 0, 0, ⟨#[]⟩, 0⟩ = false from he] at this; exact this
        have bad : (∀ W, Below w.heap.size w W → Calls Tryz.prog 25 #[.pointer (some ⟨h, 0, none⟩), .agg #[.int .i64 k2, .int .i64 p2, .int .i64 q2, .string s2, .int .i64 r2]] W (PtrPost W (.pointer none))) → tabH (lh H) ⟨k2, p2, q2, s2, r2⟩ = false → Calls Tryz.prog 11 #[.pointer (some ⟨h, 0, none⟩), .agg #[.int .i64 k1, .int .i64 p1, .int .i64 q1, .string s1, .int .i64 r1], .agg #[.int .i64 k2, .int .i64 p2, .int .i64 q2, .string s2, .int .i64 r2]] w (fun e w' => (∃ v, e = .returned v) ∧ PHp base n w' h (setMetaH (lh H) ⟨k1, p1, q1, s1, r1⟩ ⟨k2, p2, q2, s2, r2⟩) AA O ∧ QS base O w O w') := fun hT hno =>
          (pSetMeta_bad8 w h k1 p1 q1 s1 r1 k2 p2 q2 s2 r2 x hx.ho k8 N1 F hT).mono (fun e w' hp => int_keep hP (by rw [hSM, if_neg (by rw [he, hno]; simp)]) hp)
        cases hg : findP H ⟨k2, p2, q2, s2, r2⟩ with
        | none =>
          rw [hg] at T
          exact bad T (by unfold tabH; rw [find_lo, hg]; rfl)
        | some y =>
          rw [hg] at T
          have T : ∀ W, Below w.heap.size w W → Calls Tryz.prog 25 #[.pointer (some ⟨h, 0, none⟩), .agg #[.int .i64 k2, .int .i64 p2, .int .i64 q2, .string s2, .int .i64 r2]] W (PtrPost W y.tabv) := T
          unfold PO.tabv at T
          by_cases hy4 : y.kind = 4
          · rw [if_pos hy4] at T
            exact (pSetMeta_tab8 w h bo bt H h1 i x hi k8 k1 p1 q1 s1 r1 k2 p2 q2 s2 r2 hw2 N1 F _ T U).mono (fin (by omega) (.inr (by unfold tabH; rw [find_lo, hg]; exact beq_iff_eq.2 hy4)))
          · rw [if_neg hy4] at T
            exact bad T (by unfold tabH; rw [find_lo, hg]; exact beq_eq_false_iff_ne.2 hy4)
    · cases he : eqV ⟨k2, p2, q2, s2, r2⟩ V.nil with
      | true =>
        have N0 : ∀ W : World, (binOp .neq 30 (.agg #[.int .i64 k2, .int .i64 p2, .int .i64 q2, .string s2, .int .i64 r2]) (.agg #[.int .i64 0, .int .i64 0, .int .i64 0, .string ⟨#[]⟩, .int .i64 0])).run Tryz.prog W = .ok (.bool false) W := fun W => by have := N W; rw [show eqV ⟨k2, p2, q2, s2, r2⟩ ⟨0, 0, 0, ⟨#[]⟩, 0⟩ = true from he] at this; exact this
        exact (pSetMeta_nil4 w h bo bt H h1 i x hi k4 k1 p1 q1 s1 r1 k2 p2 q2 s2 r2 hw2 N0 F U).mono (fin (by omega) (.inl he))
      | false =>
        have N1 : ∀ W : World, (binOp .neq 30 (.agg #[.int .i64 k2, .int .i64 p2, .int .i64 q2, .string s2, .int .i64 r2]) (.agg #[.int .i64 0, .int .i64 0, .int .i64 0, .string ⟨#[]⟩, .int .i64 0])).run Tryz.prog W = .ok (.bool true) W := fun W => by have := N W; rw [show eqV ⟨k2, p2, q2, s2, r2⟩ ⟨0, 0, 0, ⟨#[]⟩, 0⟩ = false from he] at this; exact this
        have bad : (∀ W, Below w.heap.size w W → Calls Tryz.prog 25 #[.pointer (some ⟨h, 0, none⟩), .agg #[.int .i64 k2, .int .i64 p2, .int .i64 q2, .string s2, .int .i64 r2]] W (PtrPost W (.pointer none))) → tabH (lh H) ⟨k2, p2, q2, s2, r2⟩ = false → Calls Tryz.prog 11 #[.pointer (some ⟨h, 0, none⟩), .agg #[.int .i64 k1, .int .i64 p1, .int .i64 q1, .string s1, .int .i64 r1], .agg #[.int .i64 k2, .int .i64 p2, .int .i64 q2, .string s2, .int .i64 r2]] w (fun e w' => (∃ v, e = .returned v) ∧ PHp base n w' h (setMetaH (lh H) ⟨k1, p1, q1, s1, r1⟩ ⟨k2, p2, q2, s2, r2⟩) AA O ∧ QS base O w O w') := fun hT hno =>
          (pSetMeta_bad4 w h k1 p1 q1 s1 r1 k2 p2 q2 s2 r2 x hx.ho k4 N1 F hT).mono (fun e w' hp => int_keep hP (by rw [hSM, if_neg (by rw [he, hno]; simp)]) hp)
        cases hg : findP H ⟨k2, p2, q2, s2, r2⟩ with
        | none =>
          rw [hg] at T
          exact bad T (by unfold tabH; rw [find_lo, hg]; rfl)
        | some y =>
          rw [hg] at T
          have T : ∀ W, Below w.heap.size w W → Calls Tryz.prog 25 #[.pointer (some ⟨h, 0, none⟩), .agg #[.int .i64 k2, .int .i64 p2, .int .i64 q2, .string s2, .int .i64 r2]] W (PtrPost W y.tabv) := T
          unfold PO.tabv at T
          by_cases hy4 : y.kind = 4
          · rw [if_pos hy4] at T
            exact (pSetMeta_tab4 w h bo bt H h1 i x hi k4 k1 p1 q1 s1 r1 k2 p2 q2 s2 r2 hw2 N1 F _ T U).mono (fin (by omega) (.inr (by unfold tabH; rw [find_lo, hg]; exact beq_iff_eq.2 hy4)))
          · rw [if_neg hy4] at T
            exact bad T (by unfold tabH; rw [find_lo, hg]; exact beq_eq_false_iff_ne.2 hy4)
/-- Set of a heap, from what Set of the table does. -/
theorem pSetT_c {base n n' : Nat} {w : World} {h : Nat} {M : LH} {AA : List (List V)} {O : Nat → Prop} (hP : PHp base n w h M AA O) (hb : base ≤ w.heap.size) (hn : n ≤ n') {i : Nat} {o : LO} {A : List V} (hi : M[i]? = some o) (hA : AA[i]? = some A) (h4 : o.kind = 4) (k1 p1 q1 : Int) (s1 : ByteArray) (r1 : Int) (hk1 : k1 = 4) (hr1 : r1 = (i : Int) + 1) (hr : i64 r1) (kk pp qq : Int) (ss : ByteArray) (rr : Int) (hk : validV ⟨kk, pp, qq, ss, rr⟩ = true) (hk0 : kk ≠ 0) (k2 p2 q2 : Int) (s2 : ByteArray) (r2 : Int) (hv : validV ⟨k2, p2, q2, s2, r2⟩ = true) (L' : List Sl) (A' : List V) (hL' : L'.length ≤ n') (hA' : A'.length ≤ n')
    (S : ∀ W t m g sv av, TabW W t m g sv o.L av A → Calls Tryz.prog 30 #[.pointer (some ⟨t, 0, none⟩), .agg #[.int .i64 kk, .int .i64 pp, .int .i64 qq, .string ss, .int .i64 rr], .agg #[.int .i64 k2, .int .i64 p2, .int .i64 q2, .string s2, .int .i64 r2]] W (TWPost W t m g sv av L' A')) :
    Calls Tryz.prog 9 #[.pointer (some ⟨h, 0, none⟩), .agg #[.int .i64 k1, .int .i64 p1, .int .i64 q1, .string s1, .int .i64 r1], .agg #[.int .i64 kk, .int .i64 pp, .int .i64 qq, .string ss, .int .i64 rr], .agg #[.int .i64 k2, .int .i64 p2, .int .i64 q2, .string s2, .int .i64 r2]] w (SetTPost base n' w h M AA O i o L' A') := by
  obtain ⟨bo, bt, H, x, h1, h2, h2a, h3, h4a, h5, hix, hx4, hmt, hL, hAx, hf, _, _⟩ := php_at hP hi hA h4 (p1 := p1) (q1 := q1) (s1 := s1) hk1 hr1
  have T := fun W (hb : Below w.heap.size w W) => ptab_c W h bo bt H (h1.below hb) k1 p1 q1 s1 r1 hr
  have U := fun W H' (hH' : HpAt W h bo bt H') => pTouch_c W h bo bt H' hH' k1 p1 q1 s1 r1 hr
  have V := fun W => pvalidV_c W kk pp qq ss rr
  have E := fun W => pElem_c W k2 p2 q2 s2 r2
  rw [hf] at T
  rw [hk] at V
  rw [elem_valid hv] at E
  have T : ∀ W, Below w.heap.size w W → Calls Tryz.prog 25 #[.pointer (some ⟨h, 0, none⟩), .agg #[.int .i64 k1, .int .i64 p1, .int .i64 q1, .string s1, .int .i64 r1]] W (PtrPost W x.tabv) := T
  unfold PO.tabv at T
  rw [if_pos hx4] at T
  have hT := (h1.one x (List.mem_of_getElem? hix)).tb hx4
  rw [hL, hAx] at hT
  refine (pSet_ok w h bo bt H h1 i x hix hx4 L' A' k1 p1 q1 s1 r1 kk pp qq ss rr (beq_eq_false_iff_ne.2 hk0) k2 p2 q2 s2 r2 T V E (fun W hW => S W _ _ _ _ _ (tabW_below hT hW)) U).mono ?_
  rintro e w' ⟨he, m', g', sv', av', hH', hM', hown⟩
  obtain ⟨O', e1, e2⟩ := php_set h1 h3 h4a h5 hP.lt hb hn hix hx4 hL' hA' hH' hM' hown
  rw [h2, h2a, hmt] at e1
  exact ⟨he, O', e1, e2⟩
/-- Get of a packed heap at a table. -/
theorem pGetT_c {base n : Nat} {w : World} {h : Nat} {M : LH} {AA : List (List V)} {O : Nat → Prop} (hP : PHp base n w h M AA O) (hn : n ≤ 1000) {i : Nat} {o : LO} {A : List V} (hi : M[i]? = some o) (hA : AA[i]? = some A) (h4 : o.kind = 4) (k1 p1 q1 : Int) (s1 : ByteArray) (r1 : Int) (hk1 : k1 = 4) (hr1 : r1 = (i : Int) + 1) (hr : i64 r1) (kk pp qq : Int) (ss : ByteArray) (rr : Int) (hk : validV ⟨kk, pp, qq, ss, rr⟩ = true) (hkw : WfV ⟨kk, pp, qq, ss, rr⟩) :
    Calls Tryz.prog 20 #[.pointer (some ⟨h, 0, none⟩), .agg #[.int .i64 k1, .int .i64 p1, .int .i64 q1, .string s1, .int .i64 r1], .agg #[.int .i64 kk, .int .i64 pp, .int .i64 qq, .string ss, .int .i64 rr]] w (VrPost w (.ok (tgetM A o.L ⟨kk, pp, qq, ss, rr⟩))) := by
  obtain ⟨bo, bt, H, x, h1, h2, h2a, h3, h4a, h5, hix, hx4, hmt, hL, hAx, hf, _, _⟩ := php_at hP hi hA h4 (p1 := p1) (q1 := q1) (s1 := s1) hk1 hr1
  have := pGetK_c w h bo bt H h1 (fun y hy => ⟨Nat.le_trans (h3 y hy).1 hn, Nat.le_trans (h3 y hy).2 hn⟩) k1 p1 q1 s1 r1 hr kk pp qq ss rr hk hkw
  rwa [show getP H ⟨k1, p1, q1, s1, r1⟩ ⟨kk, pp, qq, ss, rr⟩ = .ok (tgetM A o.L ⟨kk, pp, qq, ss, rr⟩) from by unfold getP; rw [hf]; show (if x.kind = 4 then _ else _) = _; rw [if_pos hx4, hL, hAx]] at this
theorem pLenT_c {base n : Nat} {w : World} {h : Nat} {M : LH} {AA : List (List V)} {O : Nat → Prop} (hP : PHp base n w h M AA O) {i : Nat} {o : LO} {A : List V} (hi : M[i]? = some o) (hA : AA[i]? = some A) (h4 : o.kind = 4) (k1 p1 q1 : Int) (s1 : ByteArray) (r1 : Int) (hk1 : k1 = 4) (hr1 : r1 = (i : Int) + 1) (hr : i64 r1) :
    Calls Tryz.prog 99 #[.pointer (some ⟨h, 0, none⟩), .agg #[.int .i64 k1, .int .i64 p1, .int .i64 q1, .string s1, .int .i64 r1]] w (PtrPost w (.tuple #[.int .i64 (A.length : Nat), .int .i64 0])) := by
  obtain ⟨bo, bt, H, x, h1, h2, h2a, h3, h4a, h5, hix, hx4, hmt, hL, hAx, hf, _, _⟩ := php_at hP hi hA h4 (p1 := p1) (q1 := q1) (s1 := s1) hk1 hr1
  have := pLenK_c w h bo bt H h1 k1 p1 q1 s1 r1 hr
  rwa [show lenP H ⟨k1, p1, q1, s1, r1⟩ = .tuple #[.int .i64 (A.length : Nat), .int .i64 0] from by unfold lenP; rw [hf]; show (if x.kind = 4 then _ else _) = _; rw [if_pos hx4, hAx]] at this
end Go.Proofs.YteflmfdjnigjcaaGreatDoor
