import Derived.Test.YtpbcmlnjiocmoaaGreatDoorRHpW
import Derived.Test.YtpbcmlnjiocmoaaGreatDoorRLexBv2
set_option linter.unusedVariables false
set_option linter.unusedSimpArgs false
set_option maxRecDepth 100000
set_option maxHeartbeats 2000000
namespace Go.Proofs.YtpbcmlnjiocmoaaGreatDoorR
open Go.RowKit Go.Proofs.Lexi
set_option maxRecDepth 100000 in
set_option maxHeartbeats 2000000 in
theorem pomNew_c (w : World) : Calls Tryz.prog 79 #[] w (fun e w' => e = .returned (.pointer (some ⟨w.heap.size + 1, 0, none⟩)) ∧ OMap w' (w.heap.size + 1) w.heap.size (.slice none 0 0) [] ∧ Below w.heap.size w w') := by
  have hmm := @run_makeMap Tryz.prog
  go_enter Tryz.func79, Tryz.ntmps79
  go_wp2
  go_ret
  refine ⟨by first | rfl | simp, ⟨?_, World.ownsRow_nil _ _ _ _, fun s h => (by cases h), [], fun _ => none, (mapAt_new 30 w).keep (Below.heap_alloc _ _ _ (by simp)), fun p => ⟨fun h => (by cases h), fun ⟨v, n, _, h⟩ => (by cases h)⟩, idx_nil⟩, below2w _ _ _⟩
  exact heap2_b _ _ _
set_option maxRecDepth 100000 in
set_option maxHeartbeats 2000000 in
theorem ptabNew_c (w : World) : Calls Tryz.prog 42 #[] w (fun e w' => e = .returned (.pointer (some ⟨w'.heap.size - 1, 0, none⟩)) ∧ (∃ m g, TabAt w' (w'.heap.size - 1) m g (.slice none 0 0) [] ∧ w.heap.size ≤ m ∧ w.heap.size ≤ g ∧ w.heap.size ≤ w'.heap.size - 1) ∧ Below w.heap.size w w') := by
  go_enter Tryz.func42, Tryz.ntmps42
  go_wp2_with fail
  refine (pomNew_c _).mono ?_
  rintro e w1 ⟨rfl, hO, hb⟩
  have HO := Lib.hid hO
  have HB := Lib.hid hb
  have hz := hb.size
  clear hO hb
  go_wp2
  go_ret
  have hb2 : Below w1.heap.size w1 (w1.alloc (.cells #[.slice none 0 0, .pointer (some ⟨w.heap.size + 1, 0, none⟩)] 126)) := (Below.refl _ _).alloc (Nat.le_refl _) _
  refine ⟨by simp, ⟨_, _, ⟨?_, om_keep_below HO.out hb2⟩, by omega, by omega, by simp; omega⟩, below_next HB.out hb2⟩
  have := heap_new w1 (.cells #[.slice none 0 0, .pointer (some ⟨w.heap.size + 1, 0, none⟩)] 126)
  simpa using this
set_option maxRecDepth 100000 in
set_option maxHeartbeats 2000000 in
theorem tint_c (w : World) (k p q : Int) (s : ByteArray) (r : Int) : Calls Tryz.prog 77 #[.agg #[.int .i64 k, .int .i64 p, .int .i64 q, .string s, .int .i64 r]] w (IntBool w p (intB ⟨k, p, q, s, r⟩)) := by
  have HV := Lib.hid (fun W => pvalidV_c W k p q s r)
  obtain ⟨T, hT⟩ : ∃ T, T = validV ⟨k, p, q, s, r⟩ := ⟨_, rfl⟩
  rw [← hT] at HV
  have hI : intB ⟨k, p, q, s, r⟩ = ((k == 2) && ((q == 1) && T)) := by unfold intB; rw [hT]
  obtain ⟨R, hR⟩ : ∃ R, R = intB ⟨k, p, q, s, r⟩ := ⟨_, rfl⟩
  rw [← hR]
  rw [← hR] at hI
  have HI := Lib.hid (hI)
  clear hT hI hR
  by_cases hk : k = 2
  · have ek : (k == 2) = true := beq_iff_eq.2 hk
    by_cases hq : q = 1
    · have eq : (q == 1) = true := beq_iff_eq.2 hq
      clear hk hq
      go_enter Tryz.func77, Tryz.ntmps77
      go_wp2
      obtain ⟨B, hB⟩ : ∃ B, B = w.alloc (oV k p q s r) := ⟨_, rfl⟩
      rw [← hB]
      have HW0 := Lib.hid (show Below w.heap.size w B by rw [hB]; exact below1 _ _)
      have Hf0 := Lib.hid (show B.heap[w.heap.size]? = some (oV k p q s r) by rw [hB]; exact heap1 _ _)
      clear hB
      have SO := Lib.hid (fun (W : World) (hb : Below B.heap.size B W) => (show W.cell? ⟨w.heap.size, 0, none⟩ = some (.int .i64 k) ∧ W.cell? ⟨w.heap.size, 1, none⟩ = some (.int .i64 p) ∧ W.cell? ⟨w.heap.size, 2, none⟩ = some (.int .i64 q) ∧ W.cell? ⟨w.heap.size, 3, none⟩ = some (.string s) ∧ W.cell? ⟨w.heap.size, 4, none⟩ = some (.int .i64 r) ∧ Hid (Below B.heap.size B W) from ⟨(cells5 (hkeep hb Hf0.out)).1, (cells5 (hkeep hb Hf0.out)).2.1, (cells5 (hkeep hb Hf0.out)).2.2.1, (cells5 (hkeep hb Hf0.out)).2.2.2.1, (cells5 (hkeep hb Hf0.out)).2.2.2.2, Lib.hid hb⟩))
      have hbR : Below B.heap.size B B := Below.refl _ _
      have hbD : Below B.heap.size B B.drew := (Below.refl _ _).drew
      go_region_held3 (fun w' => w'.cell? ⟨w.heap.size, 0, none⟩ = some (.int .i64 k) ∧ w'.cell? ⟨w.heap.size, 1, none⟩ = some (.int .i64 p) ∧ w'.cell? ⟨w.heap.size, 2, none⟩ = some (.int .i64 q) ∧ w'.cell? ⟨w.heap.size, 3, none⟩ = some (.string s) ∧ w'.cell? ⟨w.heap.size, 4, none⟩ = some (.int .i64 r) ∧ Hid (Below B.heap.size B w'))
        (with_reducible exact SO.out _ (by assumption))
        (first | (go_at_call 43; (with_reducible refine (HV.out _).mono ?_); rintro e w1 ⟨rfl, hb⟩; have hb1 := below_next (prj5a (by assumption)) hb; clear hb))
      go_wp2
      go_ret2
      exact ⟨by rw [HI.out]; simp [ek, eq], below_next HW0.out hb1⟩
    · have eq : (q == 1) = false := beq_eq_false_iff_ne.2 hq
      clear hk hq
      go_enter Tryz.func77, Tryz.ntmps77
      go_wp2
      go_quiet (fail)
      go_wp2
      go_ret2
      exact ⟨by rw [HI.out]; simp [ek, eq], bdn (below1 _ _) _⟩
  · have ek : (k == 2) = false := beq_eq_false_iff_ne.2 hk
    clear hk
    go_enter Tryz.func77, Tryz.ntmps77
    go_wp2
    go_quiet (fail)
    go_wp2
    go_ret2
    exact ⟨by rw [HI.out]; simp [ek], bdn (below1 _ _) _⟩
set_option maxRecDepth 100000 in
set_option maxHeartbeats 2000000 in
theorem pomNext_miss (w : World) (m g : Nat) (sv : Value) (L : List Sl) (hO : OMap w m g sv L) (k p q : Int) (s : ByteArray) (r : Int) (hk : WfV ⟨k, p, q, s, r⟩) (hne : eqV ⟨k, p, q, s, r⟩ V.nil = false) (ha : ∀ x ∈ L, x.k ≠ ⟨k, p, q, s, r⟩) :
    Calls Tryz.prog 99 #[.pointer (some ⟨m, 0, none⟩), .agg #[.int .i64 k, .int .i64 p, .int .i64 q, .string s, .int .i64 r]] w (NextPost w V.nil V.nil false 13) := by
  have hlt : m < w.heap.size := (Array.getElem?_eq_some_iff.1 hO.hm).1
  have hgl : g < w.heap.size := by obtain ⟨E, f, hE, _⟩ := hO.map; exact hE.lt
  have HM := Lib.hid (hkeep (below3w w (oV k p q s r) (oV 0 0 0 ⟨#[]⟩ 0) (oV 0 0 0 ⟨#[]⟩ 0)) hO.hm)
  have m1 : (((w.alloc (oV k p q s r)).alloc (oV 0 0 0 ⟨#[]⟩ 0)).alloc (oV 0 0 0 ⟨#[]⟩ 0)).cell? ⟨m, 1, none⟩ = some (.map (some g)) := by rw [cell_of_heap HM.out]; rfl
  have NE : ∀ W, (binOp .neq 30 (.agg #[.int .i64 k, .int .i64 p, .int .i64 q, .string s, .int .i64 r]) (.agg #[.int .i64 0, .int .i64 0, .int .i64 0, .string ⟨#[]⟩, .int .i64 0])).run Tryz.prog W = .ok (.bool true) W := fun W => by
    have h := neq_run W k p q s r 0 0 0 ⟨#[]⟩ 0
    rw [show eqV ⟨k, p, q, s, r⟩ ⟨0, 0, 0, ⟨#[]⟩, 0⟩ = false from hne] at h
    exact h
  have HLK := Lib.hid (fun (W : World) (h : W.heap[g]? = w.heap[g]?) => (show (Instr.lookup 142 (.map (some g)) (.agg #[.int .i64 k, .int .i64 p, .int .i64 q, .string s, .int .i64 r]) true).run Tryz.prog W = .ok (.tuple #[.int .i64 0, .bool false]) W from om_absent hO hk ha W h))
  have key : ∀ W : World, W.heap = (((w.alloc (oV k p q s r)).alloc (oV 0 0 0 ⟨#[]⟩ 0)).alloc (oV 0 0 0 ⟨#[]⟩ 0)).heap → W.heap[g]? = w.heap[g]? := fun W h => by rw [h]; exact (below3w w _ _ _).block g hgl
  have KEY := Lib.hid (key)
  clear hO hk ha hne key
  go_enter Tryz.func99, Tryz.ntmps99
  go_wp2
  refine wp_region_lex mixed (by kernel_rfl) ?_
  go_wp2_with (at_lookup; refine wpList_look_map _ rfl _ _ _ _ rfl _ _ _ rfl rfl (HLK.out _ (KEY.out _ rfl)) ?_)
  refine ⟨by kernel_rfl, ?_⟩
  go_wp2
  refine bodyPost_ret (by simp [results, Tryz.results99, go_sem]; first | done | rfl) rfl ?_
  exact ⟨rfl, by first | exact (below3w _ _ _ _).drew | exact below3w _ _ _ _⟩
set_option maxRecDepth 100000 in
set_option maxHeartbeats 2000000 in
theorem pElem_c (w : World) (k1 p1 q1 : Int) (s1 : ByteArray) (r1 : Int) : Calls Tryz.prog 44 #[.agg #[.int .i64 k1, .int .i64 p1, .int .i64 q1, .string s1, .int .i64 r1]] w (IntPost w (elemM ⟨k1, p1, q1, s1, r1⟩)) := by
  have HV := Lib.hid (fun W => pvalidV_c W k1 p1 q1 s1 r1)
  by_cases hb : k1 = 3 ∧ 4096 < s1.size
  · have HC := Lib.hid (show 14 = elemM ⟨k1, p1, q1, s1, r1⟩ from (if_pos hb).symm)
    have t3 : (k1 == 3) = true := by rw [beq_iff_eq]; exact hb.1
    have ts : decide ((4096 : Int) < (s1.size : Int)) = true := by rw [decide_eq_true_eq]; omega
    have ts2 : (4096 : Int) < (s1.size : Int) := by omega
    clear hb
    go_enter Tryz.func44, Tryz.ntmps44
    go_wp2
    go_ret
    exact int_done HC.out (below1 _ _)
  · have tt : (k1 == 3) = false ∨ ((k1 == 3) = true ∧ ¬ 4096 < s1.size) := by
      by_cases h3 : k1 = 3
      · exact .inr ⟨by rw [beq_iff_eq]; exact h3, fun h => hb ⟨h3, h⟩⟩
      · exact .inl (by rw [beq_eq_false_iff_ne]; exact h3)
    cases hv : validV ⟨k1, p1, q1, s1, r1⟩ with
    | true =>
      have HC := Lib.hid (show 0 = elemM ⟨k1, p1, q1, s1, r1⟩ from by unfold elemM; rw [if_neg hb, if_pos hv])
      have HVT := Lib.hid (fun W => (hv ▸ HV.out W : Calls Tryz.prog 43 #[.agg #[.int .i64 k1, .int .i64 p1, .int .i64 q1, .string s1, .int .i64 r1]] W (BoolPost W true)))
      clear hb hv HV
      rcases tt with t3 | ⟨t3, ts⟩
      · go_enter Tryz.func44, Tryz.ntmps44
        go_wp2_with (first | (go_at_call 43; refine (HVT.out _).mono ?_; rintro e w1 ⟨rfl, hb⟩))
        go_ret
        exact int_done HC.out (below_next (below1 _ _) (by assumption))
      · have ts1 : decide ((4096 : Int) < (s1.size : Int)) = false := by rw [decide_eq_false_iff_not]; omega
        have ts2 : ¬ (4096 : Int) < (s1.size : Int) := by omega
        go_enter Tryz.func44, Tryz.ntmps44
        go_wp2_with (first | (go_at_call 43; refine (HVT.out _).mono ?_; rintro e w1 ⟨rfl, hb⟩))
        go_ret
        exact int_done HC.out (below_next (below1 _ _) (by assumption))
    | false =>
      have HC := Lib.hid (show 2 = elemM ⟨k1, p1, q1, s1, r1⟩ from by unfold elemM; rw [if_neg hb, if_neg (by rw [hv]; decide)])
      have HVT := Lib.hid (fun W => (hv ▸ HV.out W : Calls Tryz.prog 43 #[.agg #[.int .i64 k1, .int .i64 p1, .int .i64 q1, .string s1, .int .i64 r1]] W (BoolPost W false)))
      clear hb hv HV
      rcases tt with t3 | ⟨t3, ts⟩
      · go_enter Tryz.func44, Tryz.ntmps44
        go_wp2_with (first | (go_at_call 43; refine (HVT.out _).mono ?_; rintro e w1 ⟨rfl, hb⟩))
        go_ret
        exact int_done HC.out (below_next (below1 _ _) (by assumption))
      · have ts1 : decide ((4096 : Int) < (s1.size : Int)) = false := by rw [decide_eq_false_iff_not]; omega
        have ts2 : ¬ (4096 : Int) < (s1.size : Int) := by omega
        go_enter Tryz.func44, Tryz.ntmps44
        go_wp2_with (first | (go_at_call 43; refine (HVT.out _).mono ?_; rintro e w1 ⟨rfl, hb⟩))
        go_ret
        exact int_done HC.out (below_next (below1 _ _) (by assumption))
set_option maxRecDepth 100000 in
set_option maxHeartbeats 2000000 in
theorem pTouch_c (w : World) (h bo bt : Nat) (H : List PO) (hH : HpAt w h bo bt H) (k1 p1 q1 : Int) (s1 : ByteArray) (r1 : Int) (hr : i64 r1) : Calls Tryz.prog 45 #[.pointer (some ⟨h, 0, none⟩), .agg #[.int .i64 k1, .int .i64 p1, .int .i64 q1, .string s1, .int .i64 r1], .int .i64 0] w (TouchPost w h bo bt H) := by
  have hlt : h < w.heap.size := (Array.getElem?_eq_some_iff.1 hH.hh).1
  have hbt : bt < w.heap.size := by obtain ⟨E, hE⟩ := hH.touched; exact hE.lt
  have HST := Lib.hid (touch_at hH.touched hr)
  have HHH := Lib.hid hH
  have hh := hH.hh
  have h0 : (w.alloc (oV k1 p1 q1 s1 r1)).cell? ⟨h, 0, none⟩ = some (.map (some bo)) := by rw [cell_of_heap (heap1_old hh _)]; rfl
  have h1 : (w.alloc (oV k1 p1 q1 s1 r1)).cell? ⟨h, 1, none⟩ = some (.int .i64 (H.length : Nat)) := by rw [cell_of_heap (heap1_old hh _)]; rfl
  have h2 : (w.alloc (oV k1 p1 q1 s1 r1)).cell? ⟨h, 2, none⟩ = some (.map (some bt)) := by rw [cell_of_heap (heap1_old hh _)]; rfl
  clear hH hr hh
  go_enter Tryz.func45, Tryz.ntmps45
  go_wp2
  refine wp_region_lex mixed (by kernel_rfl) ?_
  go_wp2_with (at_mapUpdate; refine wpList_store_map _ rfl _ _ _ _ rfl _ _ _ rfl rfl rfl _ (HST.out _ (Below.heap_alloc w _ bt (by omega))) ?_; intro w3 hw3)
  refine ⟨by kernel_rfl, ?_⟩
  have HX := Lib.hid hw3
  clear hw3 h0 h1 h2
  go_wp2
  go_ret
  obtain ⟨h1, h2, h3⟩ := HX.out
  have hb := (below1 w (oV k1 p1 q1 s1 r1)).drew
  exact ⟨rfl, (HHH.out.below hb).touch h2 h1, (Mods.of_below hb).trans h2⟩
end Go.Proofs.YtpbcmlnjiocmoaaGreatDoorR
