import Derived.Test.YteflmfdjnigjcaaGreatDoorOmF
import Derived.Test.YteflmfdjnigjcaaGreatDoorTg
set_option linter.unusedVariables false
set_option linter.unusedSimpArgs false
set_option maxRecDepth 100000
set_option maxHeartbeats 20000000
namespace Go.Proofs.YteflmfdjnigjcaaGreatDoor
open Go.RowKit Go.Proofs.Lexi
/-- Get at any valid key. -/
theorem twGet_c (w : World) (t m g : Nat) (sv : Value) (L : List Sl) (av : Value) (A : List V) (hT : TabW w t m g sv L av A) (hl : A.length ≤ 100000) (hL : L.length ≤ 1000) (k p q : Int) (s : ByteArray) (r : Int) (hk : validV ⟨k, p, q, s, r⟩ = true) (hw : WfV ⟨k, p, q, s, r⟩) :
    Calls Tryz.prog 55 #[.pointer (some ⟨t, 0, none⟩), .agg #[.int .i64 k, .int .i64 p, .int .i64 q, .string s, .int .i64 r]] w (ValPost w (tgetM A L ⟨k, p, q, s, r⟩)) := by
  unfold tgetM inA
  by_cases hi : intB ⟨k, p, q, s, r⟩ = true
  · rw [hi, Bool.true_and]
    by_cases hp : 1 ≤ p ∧ p ≤ A.length
    · rw [if_pos (decide_eq_true hp)]
      obtain ⟨h2, h1, _⟩ := intB_iff.1 hi
      have h2 : k = 2 := h2
      have h1 : q = 1 := h1
      subst h2 h1
      obtain ⟨i, hi2⟩ : ∃ i : Nat, p = (i : Int) + 1 := ⟨(p - 1).toNat, by omega⟩
      have hlt : i < A.length := by omega
      rw [show A.getD (p.toNat - 1) V.nil = A[i] from by rw [show p.toNat - 1 = i by omega, List.getD_eq_getElem?_getD, List.getElem?_eq_getElem hlt]; rfl]
      exact twGet_in w t m g sv L av A hT hl i _ (List.getElem?_eq_getElem hlt) p hi2 s r hk
    · rw [if_neg (fun h => hp (of_decide_eq_true h))]
      exact twGet_out w t m g sv L av A hT hl hL k p q s r hk hw (.inr ⟨hi, by omega⟩)
  · have hi : intB ⟨k, p, q, s, r⟩ = false := by simpa using hi
    rw [hi, Bool.false_and, if_neg (by simp)]
    exact twGet_out w t m g sv L av A hT hl hL k p q s r hk hw (.inl hi)
set_option maxRecDepth 100000 in
set_option maxHeartbeats 2000000 in
theorem twSet_out (w : World) (t m g : Nat) (sv : Value) (L : List Sl) (av : Value) (A : List V) (hT : TabW w t m g sv L av A) (hl : A.length ≤ 100000) (hL : L.length ≤ 1000) (k p q : Int) (s : ByteArray) (r : Int) (hk : validV ⟨k, p, q, s, r⟩ = true) (hkw : WfV ⟨k, p, q, s, r⟩) (hk0 : k ≠ 0)
    (k2 p2 q2 : Int) (s2 : ByteArray) (r2 : Int) (hv : validV ⟨k2, p2, q2, s2, r2⟩ = true) (hw : WfV ⟨k2, p2, q2, s2, r2⟩)
    (ho : intB ⟨k, p, q, s, r⟩ = false ∨ intB ⟨k, p, q, s, r⟩ = true ∧ (p < 1 ∨ (A.length : Int) + 1 < p ∨ p = (A.length : Int) + 1 ∧ k2 = 0)) :
    Calls Tryz.prog 30 #[.pointer (some ⟨t, 0, none⟩), .agg #[.int .i64 k, .int .i64 p, .int .i64 q, .string s, .int .i64 r], .agg #[.int .i64 k2, .int .i64 p2, .int .i64 q2, .string s2, .int .i64 r2]] w (TWPost w t m g sv av (setM L ⟨k, p, q, s, r⟩ ⟨k2, p2, q2, s2, r2⟩) A) := by
  obtain ⟨so, cap, rfl, hcap⟩ := listW_shape hT.lw
  have HV1 := Lib.hid (fun W => (show Calls Tryz.prog 27 #[.agg #[.int .i64 k, .int .i64 p, .int .i64 q, .string s, .int .i64 r]] W (BoolPost W true) from by have h := pvalidV_c W k p q s r; rw [hk] at h; exact h))
  have HV2 := Lib.hid (fun W => (show Calls Tryz.prog 27 #[.agg #[.int .i64 k2, .int .i64 p2, .int .i64 q2, .string s2, .int .i64 r2]] W (BoolPost W true) from by have h := pvalidV_c W k2 p2 q2 s2 r2; rw [hv] at h; exact h))
  have HI := Lib.hid (fun W => tint_c W k p q s r)
  obtain ⟨R, hR⟩ : ∃ R, R = setM L ⟨k, p, q, s, r⟩ ⟨k2, p2, q2, s2, r2⟩ := ⟨_, rfl⟩
  rw [← hR]
  have hset : ∀ W, OMap W m g sv L → Calls Tryz.prog 61 #[.pointer (some ⟨m, 0, none⟩), .agg #[.int .i64 k, .int .i64 p, .int .i64 q, .string s, .int .i64 r], .agg #[.int .i64 k2, .int .i64 p2, .int .i64 q2, .string s2, .int .i64 r2]] W (OmPost W m g sv R) := fun W h => by rw [hR]; exact pomSet_c W m g sv L h hL ⟨k, p, q, s, r⟩ ⟨k2, p2, q2, s2, r2⟩ hkw hw hk hv hk0
  have HS := Lib.hid (hset)
  have HT := Lib.hid (hT)
  have htl : t < w.heap.size := (Array.getElem?_eq_some_iff.1 hT.ht).1
  have d5 : (A.length : Int) ≤ 100000 := by omega
  have e1 : (k == 0) = false := beq_eq_false_iff_ne.2 hk0
  have e2 : decide (k = 0) = false := decide_eq_false hk0
  obtain ⟨b, hb⟩ : ∃ b, b = intB ⟨k, p, q, s, r⟩ := ⟨_, rfl⟩
  rw [← hb] at HI ho
  have ways : (b = false ∧ True ∧ True ∧ True ∧ True) ∨ (b = true ∧ decide (p ≥ 1) = false ∧ True ∧ (p == (A.length : Int) + 1) = false ∧ True) ∨ (b = true ∧ decide (p ≥ 1) = true ∧ decide (p ≤ (A.length : Int)) = false ∧ (p == (A.length : Int) + 1) = false ∧ True) ∨ (b = true ∧ decide (p ≥ 1) = true ∧ decide (p ≤ (A.length : Int)) = false ∧ (p == (A.length : Int) + 1) = true ∧ (k2 != 0) = false) := by
    rcases ho with ho | ⟨ho, h1⟩
    · exact .inl ⟨ho, trivial, trivial, trivial, trivial⟩
    · rcases h1 with h1 | h1 | ⟨h1, h2⟩
      · exact .inr (.inl ⟨ho, decide_eq_false (by omega), trivial, beq_eq_false_iff_ne.2 (by omega), trivial⟩)
      · exact .inr (.inr (.inl ⟨ho, decide_eq_true (by omega), decide_eq_false (by omega), beq_eq_false_iff_ne.2 (by omega), trivial⟩))
      · exact .inr (.inr (.inr ⟨ho, decide_eq_true (by omega), decide_eq_false (by omega), beq_iff_eq.2 h1, by rw [h2]; rfl⟩))
  clear hT hk hkw hk0 hv hw hR hset hb ho
  rcases ways with ⟨rfl, d1, d2, d3, d4⟩ | ⟨rfl, d1, d2, d3, d4⟩ | ⟨rfl, d1, d2, d3, d4⟩ | ⟨rfl, d1, d2, d3, d4⟩
  all_goals
    go_enter Tryz.func30, Tryz.ntmps30
    go_wp2_with fail
    refine (HV1.out _).mono ?_
    rintro e w1 ⟨rfl, hb⟩
    have Ha1 := Lib.hid (hkeep hb (heap2_a w (oV k p q s r) (oV k2 p2 q2 s2 r2)))
    have Hb1 := Lib.hid (hkeep hb (heap2_b w (oV k p q s r) (oV k2 p2 q2 s2 r2)))
    have HW1 := Lib.hid (below_next (below2w _ _ _) hb)
    clear hb
    obtain ⟨b0, b1, b2, b3, b4⟩ := cells5 Hb1.out
    obtain ⟨fb0, fb1, fb2, fb3, fb4⟩ := froz5 Hb1.out
    go_wp2_with fail
    refine (HV2.out _).mono ?_
    rintro e w2 ⟨rfl, hb⟩
    have Ha2 := Lib.hid (hkeep hb Ha1.out)
    have Hb2 := Lib.hid (hkeep hb Hb1.out)
    have HW2 := Lib.hid (below_next HW1.out hb)
    clear hb b0 b1 b2 b3 b4 fb0 fb1 fb2 fb3 fb4
    obtain ⟨a0, a1, a2, a3, a4⟩ := cells5 Ha2.out
    obtain ⟨fa0, fa1, fa2, fa3, fa4⟩ := froz5 Ha2.out
    go_wp2_with fail
    refine (HI.out _).mono ?_
    rintro e w3 ⟨rfl, hb⟩
    have Ha3 := Lib.hid (hkeep hb Ha2.out)
    have Hb3 := Lib.hid (hkeep hb Hb2.out)
    have HW3 := Lib.hid (below_next HW2.out hb)
    clear hb a0 a1 a2 a3 a4 fa0 fa1 fa2 fa3 fa4
    have t0 : w3.cell? ⟨t, 0, none⟩ = some (.slice so A.length cap) := by rw [cell_of_heap (hkeep HW3.out HT.out.ht)]; rfl
    have t1 : w3.cell? ⟨t, 1, none⟩ = some (.pointer (some ⟨m, 0, none⟩)) := by rw [cell_of_heap (hkeep HW3.out HT.out.ht)]; rfl
    have hz3 := HW3.out.size
    have hya : w.heap.size < w3.heap.size := (Array.getElem?_eq_some_iff.1 Ha3.out).1
    have hyb : w.heap.size + 1 < w3.heap.size := (Array.getElem?_eq_some_iff.1 Hb3.out).1
    have hyt : t < w3.heap.size := by omega
    obtain ⟨a0, a1, a2, a3, a4⟩ := cells5 Ha3.out
    obtain ⟨fa0, fa1, fa2, fa3, fa4⟩ := froz5 Ha3.out
    obtain ⟨b0, b1, b2, b3, b4⟩ := cells5 Hb3.out
    obtain ⟨fb0, fb1, fb2, fb3, fb4⟩ := froz5 Hb3.out
    go_wp2
    refine wp_region_lex mixed (by kernel_rfl) ?_
    go_wp2_with fail
    refine (HS.out _ (om_keep_below HT.out.om HW3.out.drew)).mono ?_
    rintro e w4 ⟨rfl, sv', hO4, hM4, hown4⟩
    have HX := Lib.hid (And.intro hO4 (And.intro hM4 hown4))
    clear hO4 hM4 hown4
    go_wp2
    refine ⟨by kernel_rfl, ?_⟩
    go_wp2
    go_ret
    obtain ⟨hO4, hM4, hown4⟩ := HX.out
    have hM : Mods (OmF m g sv) w w4 := (Mods.of_below HW3.out.drew).trans hM4
    refine ⟨rfl, m, g, sv', _, ⟨?_, ListW.kept HT.out.lw (fun c hc => ?_), HT.out.wfA, hO4⟩, ⟨.inl rfl, .inl rfl, fun c hc => (hown4 c hc).imp id (fun h => Nat.le_trans hz3 h), fun _ h => .inl h⟩, hM.mono (fun _ _ h => .inr (.inl h))⟩
    · exact (hM.block t htl (not_omF HT.out.om HT.out.ht (by decide) (by decide))).trans HT.out.ht
    · obtain ⟨cur, hcur⟩ := listW_block HT.out.lw hc
      exact hM.block c (Array.getElem?_eq_some_iff.1 hcur).1 (not_omF HT.out.om hcur (by decide) (by decide))
set_option maxRecDepth 100000 in
set_option maxHeartbeats 2000000 in
theorem twLen_c (w : World) (t m : Nat) (so : Option Addr) (n cap : Nat) (ht : w.heap[t]? = some (.cells #[.slice so n cap, .pointer (some ⟨m, 0, none⟩)] 102)) : Calls Tryz.prog 136 #[.pointer (some ⟨t, 0, none⟩)] w (fun e w' => e = .returned (.int .i64 (n : Nat)) ∧ w' = w) := by
  have t0 : w.cell? ⟨t, 0, none⟩ = some (.slice so n cap) := by rw [cell_of_heap ht]; rfl
  have harr : Calls Tryz.prog 162 #[.pointer (some ⟨t, 0, none⟩)] w (fun e w' => e = .returned (.int .i64 (n : Nat)) ∧ w' = w) := by
    clear ht
    go_enter Tryz.func162, Tryz.ntmps162
    go_wp2
    go_ret
    exact ⟨rfl, rfl⟩
  have HA := Lib.hid harr
  clear harr ht t0
  go_enter Tryz.func136, Tryz.ntmps136
  go_wp2_with fail
  refine HA.out.mono ?_
  rintro e w1 ⟨rfl, rfl⟩
  go_wp2
  go_ret
  exact ⟨rfl, rfl⟩
set_option maxRecDepth 100000 in
set_option maxHeartbeats 2000000 in
theorem phfind_none (w : World) (h bo bt : Nat) (H : List PO) (hH : HpAt w h bo bt H) (k1 p1 q1 : Int) (s1 : ByteArray) (r1 : Int) (hr : i64 r1) (ho : objAt H r1 = none) :
    Calls Tryz.prog 31 #[.pointer (some ⟨h, 0, none⟩), .agg #[.int .i64 k1, .int .i64 p1, .int .i64 q1, .string s1, .int .i64 r1]] w (PtrPost w (.pointer none)) := by
  have hlt : h < w.heap.size := (Array.getElem?_eq_some_iff.1 hH.hh).1
  have hbo : bo < w.heap.size := hH.objs.lt
  have hlk := fun W (hW : W.heap[bo]? = w.heap[bo]?) => obj_look hH.objs hr W hW
  rw [ho] at hlk
  have HLK := Lib.hid hlk
  have HH := Lib.hid hH.hh
  have h0 : (w.alloc (oV k1 p1 q1 s1 r1)).cell? ⟨h, 0, none⟩ = some (.map (some bo)) := by rw [cell_of_heap (heap1_old HH.out _)]; rfl
  have h1 : (w.alloc (oV k1 p1 q1 s1 r1)).cell? ⟨h, 1, none⟩ = some (.int .i64 (H.length : Nat)) := by rw [cell_of_heap (heap1_old HH.out _)]; rfl
  have h2 : (w.alloc (oV k1 p1 q1 s1 r1)).cell? ⟨h, 2, none⟩ = some (.map (some bt)) := by rw [cell_of_heap (heap1_old HH.out _)]; rfl
  clear hH hlk ho hr
  go_enter Tryz.func31, Tryz.ntmps31
  go_wp2
  refine wp_region_lex mixed (by kernel_rfl) ?_
  go_wp2_with (at_lookup; refine wpList_look_map _ rfl _ _ _ _ rfl _ _ _ rfl rfl (HLK.out _ (Below.heap_alloc w _ bo (by omega))) ?_)
  refine ⟨by kernel_rfl, ?_⟩
  dsimp only [ptrO]
  go_wp2
  go_quiet (fail)
  go_wp2
  go_ret
  exact ⟨rfl, bdn (below1 _ _).drew _⟩
set_option maxRecDepth 100000 in
set_option maxHeartbeats 2000000 in
theorem phfind_hit (w : World) (h bo bt : Nat) (H : List PO) (hH : HpAt w h bo bt H) (k1 p1 q1 : Int) (s1 : ByteArray) (r1 : Int) (hr : i64 r1) (x : PO) (ho : objAt H r1 = some x) (hk : x.kind = k1) :
    Calls Tryz.prog 31 #[.pointer (some ⟨h, 0, none⟩), .agg #[.int .i64 k1, .int .i64 p1, .int .i64 q1, .string s1, .int .i64 r1]] w (PtrPost w (.pointer (some ⟨x.o, 0, none⟩))) := by
  have hlt : h < w.heap.size := (Array.getElem?_eq_some_iff.1 hH.hh).1
  have hbo : bo < w.heap.size := hH.objs.lt
  have hlk := fun W (hW : W.heap[bo]? = w.heap[bo]?) => obj_look hH.objs hr W hW
  rw [ho] at hlk
  have HLK := Lib.hid hlk
  have HH := Lib.hid hH.hh
  have hx := hH.one x (objAt_mem ho)
  have hxl : x.o < w.heap.size := (Array.getElem?_eq_some_iff.1 hx.ho).1
  have x0 : (w.alloc (oV k1 p1 q1 s1 r1)).cell? ⟨x.o, 0, none⟩ = some (.int .i64 x.kind) := by rw [cell_of_heap (heap1_old hx.ho _)]; rfl
  rw [hk] at x0
  clear hx
  have h0 : (w.alloc (oV k1 p1 q1 s1 r1)).cell? ⟨h, 0, none⟩ = some (.map (some bo)) := by rw [cell_of_heap (heap1_old HH.out _)]; rfl
  have h1 : (w.alloc (oV k1 p1 q1 s1 r1)).cell? ⟨h, 1, none⟩ = some (.int .i64 (H.length : Nat)) := by rw [cell_of_heap (heap1_old HH.out _)]; rfl
  have h2 : (w.alloc (oV k1 p1 q1 s1 r1)).cell? ⟨h, 2, none⟩ = some (.map (some bt)) := by rw [cell_of_heap (heap1_old HH.out _)]; rfl
  clear hH hlk ho hr hk
  go_enter Tryz.func31, Tryz.ntmps31
  go_wp2
  refine wp_region_lex mixed (by kernel_rfl) ?_
  go_wp2_with (at_lookup; refine wpList_look_map _ rfl _ _ _ _ rfl _ _ _ rfl rfl (HLK.out _ (Below.heap_alloc w _ bo (by omega))) ?_)
  refine ⟨by kernel_rfl, ?_⟩
  dsimp only [ptrO]
  go_wp2
  go_quiet (fail)
  go_wp2
  go_ret
  exact ⟨rfl, bdn (below1 _ _).drew _⟩
set_option maxRecDepth 100000 in
set_option maxHeartbeats 2000000 in
theorem phfind_miss (w : World) (h bo bt : Nat) (H : List PO) (hH : HpAt w h bo bt H) (k1 p1 q1 : Int) (s1 : ByteArray) (r1 : Int) (hr : i64 r1) (x : PO) (ho : objAt H r1 = some x) (hk : x.kind ≠ k1) :
    Calls Tryz.prog 31 #[.pointer (some ⟨h, 0, none⟩), .agg #[.int .i64 k1, .int .i64 p1, .int .i64 q1, .string s1, .int .i64 r1]] w (PtrPost w (.pointer none)) := by
  have hlt : h < w.heap.size := (Array.getElem?_eq_some_iff.1 hH.hh).1
  have hbo : bo < w.heap.size := hH.objs.lt
  have hlk := fun W (hW : W.heap[bo]? = w.heap[bo]?) => obj_look hH.objs hr W hW
  rw [ho] at hlk
  have HLK := Lib.hid hlk
  have HH := Lib.hid hH.hh
  have hx := hH.one x (objAt_mem ho)
  have hxl : x.o < w.heap.size := (Array.getElem?_eq_some_iff.1 hx.ho).1
  have x0 : (w.alloc (oV k1 p1 q1 s1 r1)).cell? ⟨x.o, 0, none⟩ = some (.int .i64 x.kind) := by rw [cell_of_heap (heap1_old hx.ho _)]; rfl
  have tk : (x.kind != k1) = true := by rw [bne_iff_ne]; exact hk
  clear hx
  have h0 : (w.alloc (oV k1 p1 q1 s1 r1)).cell? ⟨h, 0, none⟩ = some (.map (some bo)) := by rw [cell_of_heap (heap1_old HH.out _)]; rfl
  have h1 : (w.alloc (oV k1 p1 q1 s1 r1)).cell? ⟨h, 1, none⟩ = some (.int .i64 (H.length : Nat)) := by rw [cell_of_heap (heap1_old HH.out _)]; rfl
  have h2 : (w.alloc (oV k1 p1 q1 s1 r1)).cell? ⟨h, 2, none⟩ = some (.map (some bt)) := by rw [cell_of_heap (heap1_old HH.out _)]; rfl
  clear hH hlk ho hr hk
  go_enter Tryz.func31, Tryz.ntmps31
  go_wp2
  refine wp_region_lex mixed (by kernel_rfl) ?_
  go_wp2_with (at_lookup; refine wpList_look_map _ rfl _ _ _ _ rfl _ _ _ rfl rfl (HLK.out _ (Below.heap_alloc w _ bo (by omega))) ?_)
  refine ⟨by kernel_rfl, ?_⟩
  dsimp only [ptrO]
  go_wp2
  go_quiet (fail)
  go_wp2
  go_ret
  exact ⟨rfl, bdn (below1 _ _).drew _⟩
theorem phfind_c (w : World) (h bo bt : Nat) (H : List PO) (hH : HpAt w h bo bt H) (k1 p1 q1 : Int) (s1 : ByteArray) (r1 : Int) (hr : i64 r1) : Calls Tryz.prog 31 #[.pointer (some ⟨h, 0, none⟩), .agg #[.int .i64 k1, .int .i64 p1, .int .i64 q1, .string s1, .int .i64 r1]] w (PtrPost w (ptrO (findP H ⟨k1, p1, q1, s1, r1⟩))) := by
  cases ho : objAt H r1 with
  | none => rw [findP_none ho]; exact phfind_none w h bo bt H hH k1 p1 q1 s1 r1 hr ho
  | some x =>
    rw [findP_some ho]
    by_cases hk : x.kind = k1
    · rw [if_pos hk]; exact phfind_hit w h bo bt H hH k1 p1 q1 s1 r1 hr x ho hk
    · rw [if_neg hk]; exact phfind_miss w h bo bt H hH k1 p1 q1 s1 r1 hr x ho hk
set_option maxRecDepth 100000 in
set_option maxHeartbeats 2000000 in
theorem ptab_c (w : World) (h bo bt : Nat) (H : List PO) (hH : HpAt w h bo bt H) (k1 p1 q1 : Int) (s1 : ByteArray) (r1 : Int) (hr : i64 r1) : Calls Tryz.prog 25 #[.pointer (some ⟨h, 0, none⟩), .agg #[.int .i64 k1, .int .i64 p1, .int .i64 q1, .string s1, .int .i64 r1]] w (PtrPost w (tabO (findP H ⟨k1, p1, q1, s1, r1⟩))) := by
  have hfi := fun W (hb : Below w.heap.size w W) => phfind_c W h bo bt H (hH.below hb) k1 p1 q1 s1 r1 hr
  cases hf : findP H ⟨k1, p1, q1, s1, r1⟩ with
  | none =>
    rw [hf] at hfi
    have HFI := Lib.hid hfi
    clear hfi hH hf
    go_enter Tryz.func25, Tryz.ntmps25
    go_wp2_with fail
    refine (HFI.out _ (below1 _ _)).mono ?_
    rintro e w1 ⟨rfl, hb⟩
    have HW1 := Lib.hid (below_next (below1 _ _) hb)
    clear hb
    dsimp only [ptrO]
    go_wp2
    go_ret
    exact ⟨rfl, HW1.out⟩
  | some x =>
    rw [hf] at hfi
    obtain ⟨i, hi, hk, hri, hxm⟩ := find_at hf
    have hx := (hH.one x hxm).ho
    have HX := Lib.hid hx
    have HFI := Lib.hid hfi
    clear hfi hH hf hi hk hri hxm hx
    go_enter Tryz.func25, Tryz.ntmps25
    go_wp2_with fail
    refine (HFI.out _ (below1 _ _)).mono ?_
    rintro e w1 ⟨rfl, hb⟩
    have HW1 := Lib.hid (below_next (below1 _ _) hb)
    have x3 : w1.cell? ⟨x.o, 3, none⟩ = some x.tabv := by rw [cell_of_heap (hkeep HW1.out HX.out)]; rfl
    clear hb
    dsimp only [ptrO]
    go_wp2
    go_ret
    exact ⟨rfl, HW1.out⟩
theorem pmissing_c (w : World) (h : Nat) : Calls Tryz.prog 26 #[.pointer (some ⟨h, 0, none⟩)] w (fun e w' => e = .returned (.int .i64 8) ∧ w' = w) := by
  go_enter Tryz.func26, Tryz.ntmps26
  go_wp2
  go_ret
  exact ⟨rfl, rfl⟩
set_option maxRecDepth 100000 in
set_option maxHeartbeats 2000000 in
theorem pGetK_none (w : World) (h : Nat) (k1 p1 q1 : Int) (s1 : ByteArray) (r1 : Int) (kk pp qq : Int) (ss : ByteArray) (rr : Int) (T : ∀ W, Below w.heap.size w W → Calls Tryz.prog 25 #[.pointer (some ⟨h, 0, none⟩), .agg #[.int .i64 k1, .int .i64 p1, .int .i64 q1, .string s1, .int .i64 r1]] W (PtrPost W (.pointer none))) :
    Calls Tryz.prog 20 #[.pointer (some ⟨h, 0, none⟩), .agg #[.int .i64 k1, .int .i64 p1, .int .i64 q1, .string s1, .int .i64 r1], .agg #[.int .i64 kk, .int .i64 pp, .int .i64 qq, .string ss, .int .i64 rr]] w (VrPost w (.error 8)) := by
  have HT := Lib.hid T
  clear T
  go_enter Tryz.func20, Tryz.ntmps20
  go_wp2_with fail
  refine (HT.out _ ((below2w _ _ _).alloc (by simp; omega) _)).mono ?_
  rintro e w1 ⟨rfl, hb⟩
  have Hc1 := Lib.hid (hkeep hb (heap3_c _ _ _ _))
  have HW1 := Lib.hid (below_next (((below2w _ _ _).alloc (by simp; omega) _)) hb)
  have hz1 := hb.size
  try simp at hz1
  clear hb
  have hyc : w.heap.size + 1 + 1 < w1.heap.size := (Array.getElem?_eq_some_iff.1 Hc1.out).1
  have c0 : w1.cell? ⟨w.heap.size + 1 + 1, 0, none⟩ = some (.int .i64 0) := by rw [cell_of_heap Hc1.out]; rfl
  have fc0 : w1.frozen? ⟨w.heap.size + 1 + 1, 0, none⟩ = false := frozen_of_heap Hc1.out _
  have c1 : w1.cell? ⟨w.heap.size + 1 + 1, 1, none⟩ = some (.int .i64 0) := by rw [cell_of_heap Hc1.out]; rfl
  have fc1 : w1.frozen? ⟨w.heap.size + 1 + 1, 1, none⟩ = false := frozen_of_heap Hc1.out _
  have c2 : w1.cell? ⟨w.heap.size + 1 + 1, 2, none⟩ = some (.int .i64 0) := by rw [cell_of_heap Hc1.out]; rfl
  have fc2 : w1.frozen? ⟨w.heap.size + 1 + 1, 2, none⟩ = false := frozen_of_heap Hc1.out _
  have c3 : w1.cell? ⟨w.heap.size + 1 + 1, 3, none⟩ = some (.string ⟨#[]⟩) := by rw [cell_of_heap Hc1.out]; rfl
  have fc3 : w1.frozen? ⟨w.heap.size + 1 + 1, 3, none⟩ = false := frozen_of_heap Hc1.out _
  have c4 : w1.cell? ⟨w.heap.size + 1 + 1, 4, none⟩ = some (.int .i64 0) := by rw [cell_of_heap Hc1.out]; rfl
  have fc4 : w1.frozen? ⟨w.heap.size + 1 + 1, 4, none⟩ = false := frozen_of_heap Hc1.out _
  go_wp2_with fail
  refine (pmissing_c _ _).mono ?_
  rintro e w2 ⟨rfl, rfl⟩
  go_wp2
  refine bodyPost_ret (by simp [results, Tryz.results20, go_sem, hyc, c0, c1, c2, c3, c4]; first | done | rfl) rfl ?_
  exact vr_err (c := 8) rfl (below_five HW1.out (by omega) _ _ _ _ _)
set_option maxRecDepth 100000 in
set_option maxHeartbeats 2000000 in
theorem pGet_none (w : World) (h : Nat) (k1 p1 q1 : Int) (s1 : ByteArray) (r1 : Int) (s : ByteArray) (T : ∀ W, Below w.heap.size w W → Calls Tryz.prog 25 #[.pointer (some ⟨h, 0, none⟩), .agg #[.int .i64 k1, .int .i64 p1, .int .i64 q1, .string s1, .int .i64 r1]] W (PtrPost W (.pointer none))) :
    Calls Tryz.prog 20 #[.pointer (some ⟨h, 0, none⟩), .agg #[.int .i64 k1, .int .i64 p1, .int .i64 q1, .string s1, .int .i64 r1], .agg #[.int .i64 3, .int .i64 0, .int .i64 0, .string s, .int .i64 0]] w (VrPost w (.error 8)) :=
  pGetK_none w h k1 p1 q1 s1 r1 3 0 0 s 0 T
set_option maxRecDepth 100000 in
set_option maxHeartbeats 2000000 in
theorem pGetK_some (w : World) (h t : Nat) (k1 p1 q1 : Int) (s1 : ByteArray) (r1 : Int) (kk pp qq : Int) (ss : ByteArray) (rr : Int) (R : V) (T : ∀ W, Below w.heap.size w W → Calls Tryz.prog 25 #[.pointer (some ⟨h, 0, none⟩), .agg #[.int .i64 k1, .int .i64 p1, .int .i64 q1, .string s1, .int .i64 r1]] W (PtrPost W (.pointer (some ⟨t, 0, none⟩))))
    (G : ∀ W, Below w.heap.size w W → Calls Tryz.prog 55 #[.pointer (some ⟨t, 0, none⟩), .agg #[.int .i64 kk, .int .i64 pp, .int .i64 qq, .string ss, .int .i64 rr]] W (ValPost W R)) :
    Calls Tryz.prog 20 #[.pointer (some ⟨h, 0, none⟩), .agg #[.int .i64 k1, .int .i64 p1, .int .i64 q1, .string s1, .int .i64 r1], .agg #[.int .i64 kk, .int .i64 pp, .int .i64 qq, .string ss, .int .i64 rr]] w (VrPost w (.ok R)) := by
  have HT := Lib.hid T
  have HG := Lib.hid G
  clear T G
  go_enter Tryz.func20, Tryz.ntmps20
  go_wp2_with fail
  refine (HT.out _ ((below2w _ _ _).alloc (by simp; omega) _)).mono ?_
  rintro e w1 ⟨rfl, hb⟩
  have Hb1 := Lib.hid (hkeep hb (heap3_b _ _ _ _))
  have Hc1 := Lib.hid (hkeep hb (heap3_c _ _ _ _))
  have HW1 := Lib.hid (below_next (((below2w _ _ _).alloc (by simp; omega) _)) hb)
  have hz1 := hb.size
  try simp at hz1
  clear hb
  have hyb : w.heap.size + 1 < w1.heap.size := (Array.getElem?_eq_some_iff.1 Hb1.out).1
  have b0 : w1.cell? ⟨w.heap.size + 1, 0, none⟩ = some (.int .i64 kk) := by rw [cell_of_heap Hb1.out]; rfl
  have b1 : w1.cell? ⟨w.heap.size + 1, 1, none⟩ = some (.int .i64 pp) := by rw [cell_of_heap Hb1.out]; rfl
  have b2 : w1.cell? ⟨w.heap.size + 1, 2, none⟩ = some (.int .i64 qq) := by rw [cell_of_heap Hb1.out]; rfl
  have b3 : w1.cell? ⟨w.heap.size + 1, 3, none⟩ = some (.string ss) := by rw [cell_of_heap Hb1.out]; rfl
  have b4 : w1.cell? ⟨w.heap.size + 1, 4, none⟩ = some (.int .i64 rr) := by rw [cell_of_heap Hb1.out]; rfl
  go_wp2_with fail
  refine (HG.out _ HW1.out).mono ?_
  rintro e w2 ⟨rfl, hb⟩
  have Hb2 := Lib.hid (hkeep hb (Hb1.out))
  have Hc2 := Lib.hid (hkeep hb (Hc1.out))
  have HW2 := Lib.hid (below_next (HW1.out) hb)
  have hz2 := hb.size
  try simp at hz2
  clear hb
  clear hyb b0 b1 b2 b3 b4
  have hyc : w.heap.size + 1 + 1 < w2.heap.size := (Array.getElem?_eq_some_iff.1 Hc2.out).1
  have c0 : w2.cell? ⟨w.heap.size + 1 + 1, 0, none⟩ = some (.int .i64 0) := by rw [cell_of_heap Hc2.out]; rfl
  have fc0 : w2.frozen? ⟨w.heap.size + 1 + 1, 0, none⟩ = false := frozen_of_heap Hc2.out _
  have c1 : w2.cell? ⟨w.heap.size + 1 + 1, 1, none⟩ = some (.int .i64 0) := by rw [cell_of_heap Hc2.out]; rfl
  have fc1 : w2.frozen? ⟨w.heap.size + 1 + 1, 1, none⟩ = false := frozen_of_heap Hc2.out _
  have c2 : w2.cell? ⟨w.heap.size + 1 + 1, 2, none⟩ = some (.int .i64 0) := by rw [cell_of_heap Hc2.out]; rfl
  have fc2 : w2.frozen? ⟨w.heap.size + 1 + 1, 2, none⟩ = false := frozen_of_heap Hc2.out _
  have c3 : w2.cell? ⟨w.heap.size + 1 + 1, 3, none⟩ = some (.string ⟨#[]⟩) := by rw [cell_of_heap Hc2.out]; rfl
  have fc3 : w2.frozen? ⟨w.heap.size + 1 + 1, 3, none⟩ = false := frozen_of_heap Hc2.out _
  have c4 : w2.cell? ⟨w.heap.size + 1 + 1, 4, none⟩ = some (.int .i64 0) := by rw [cell_of_heap Hc2.out]; rfl
  have fc4 : w2.frozen? ⟨w.heap.size + 1 + 1, 4, none⟩ = false := frozen_of_heap Hc2.out _
  go_wp2
  refine bodyPost_ret (by simp [results, Tryz.results20, go_sem, hyc, c0, c1, c2, c3, c4]; first | done | rfl) rfl ?_
  exact vr_ok (v := R) rfl rfl (below_five HW2.out (by omega) _ _ _ _ _)
set_option maxRecDepth 100000 in
set_option maxHeartbeats 2000000 in
theorem pGet_some (w : World) (h t : Nat) (k1 p1 q1 : Int) (s1 : ByteArray) (r1 : Int) (s : ByteArray) (R : V) (T : ∀ W, Below w.heap.size w W → Calls Tryz.prog 25 #[.pointer (some ⟨h, 0, none⟩), .agg #[.int .i64 k1, .int .i64 p1, .int .i64 q1, .string s1, .int .i64 r1]] W (PtrPost W (.pointer (some ⟨t, 0, none⟩))))
    (G : ∀ W, Below w.heap.size w W → Calls Tryz.prog 55 #[.pointer (some ⟨t, 0, none⟩), .agg #[.int .i64 3, .int .i64 0, .int .i64 0, .string s, .int .i64 0]] W (ValPost W R)) :
    Calls Tryz.prog 20 #[.pointer (some ⟨h, 0, none⟩), .agg #[.int .i64 k1, .int .i64 p1, .int .i64 q1, .string s1, .int .i64 r1], .agg #[.int .i64 3, .int .i64 0, .int .i64 0, .string s, .int .i64 0]] w (VrPost w (.ok R)) :=
  pGetK_some w h t k1 p1 q1 s1 r1 3 0 0 s 0 R T G
theorem pGet_c (w : World) (h bo bt : Nat) (H : List PO) (hH : HpAt w h bo bt H) (hS : Small 1000 H) (k1 p1 q1 : Int) (s1 : ByteArray) (r1 : Int) (hr : i64 r1) (s : ByteArray) (hs : s.size ≤ 4096) : Calls Tryz.prog 20 #[.pointer (some ⟨h, 0, none⟩), .agg #[.int .i64 k1, .int .i64 p1, .int .i64 q1, .string s1, .int .i64 r1], .agg #[.int .i64 3, .int .i64 0, .int .i64 0, .string s, .int .i64 0]] w (VrPost w (getH (lh H) ⟨k1, p1, q1, s1, r1⟩ s)) := by
  have htab := fun W (hb : Below w.heap.size w W) => ptab_c W h bo bt H (hH.below hb) k1 p1 q1 s1 r1 hr
  unfold getH
  rw [find_lo]
  cases hf : findP H ⟨k1, p1, q1, s1, r1⟩ with
  | none => rw [hf] at htab; exact pGet_none w h k1 p1 q1 s1 r1 s htab
  | some x =>
    rw [hf] at htab
    obtain ⟨i, hi, hk, hri, hxm⟩ := find_at hf
    have htab : ∀ W, Below w.heap.size w W → Calls Tryz.prog 25 #[.pointer (some ⟨h, 0, none⟩), .agg #[.int .i64 k1, .int .i64 p1, .int .i64 q1, .string s1, .int .i64 r1]] W (PtrPost W x.tabv) := htab
    show Calls _ _ _ _ (VrPost w (if x.kind = 4 then .ok (getM (if x.kind = 4 then x.L else []) (strV s)) else .error 8))
    unfold PO.tabv at htab
    by_cases h4 : x.kind = 4
    · rw [if_pos h4, if_pos h4]
      rw [if_pos h4] at htab
      exact pGet_some w h x.t k1 p1 q1 s1 r1 s _ htab (fun W hb => by have h := twGet_c W x.t x.m x.g x.sv x.L x.av x.A (tabW_below ((hH.one x hxm).tb h4) hb) (by have := (hS x hxm).2; omega) (hS x hxm).1 3 0 0 s 0 (valid_str hs) (wf_str hs); rwa [show tgetM x.A x.L ⟨3, 0, 0, s, 0⟩ = getM x.L (strV s) from rfl] at h)
    · rw [if_neg h4]
      rw [if_neg h4] at htab
      exact pGet_none w h k1 p1 q1 s1 r1 s htab
theorem pGetK_c (w : World) (h bo bt : Nat) (H : List PO) (hH : HpAt w h bo bt H) (hS : Small 1000 H) (k1 p1 q1 : Int) (s1 : ByteArray) (r1 : Int) (hr : i64 r1) (kk pp qq : Int) (ss : ByteArray) (rr : Int) (hk : validV ⟨kk, pp, qq, ss, rr⟩ = true) (hkw : WfV ⟨kk, pp, qq, ss, rr⟩) : Calls Tryz.prog 20 #[.pointer (some ⟨h, 0, none⟩), .agg #[.int .i64 k1, .int .i64 p1, .int .i64 q1, .string s1, .int .i64 r1], .agg #[.int .i64 kk, .int .i64 pp, .int .i64 qq, .string ss, .int .i64 rr]] w (VrPost w (getP H ⟨k1, p1, q1, s1, r1⟩ ⟨kk, pp, qq, ss, rr⟩)) := by
  have htab := fun W (hb : Below w.heap.size w W) => ptab_c W h bo bt H (hH.below hb) k1 p1 q1 s1 r1 hr
  unfold getP
  cases hf : findP H ⟨k1, p1, q1, s1, r1⟩ with
  | none => rw [hf] at htab; exact pGetK_none w h k1 p1 q1 s1 r1 kk pp qq ss rr htab
  | some x =>
    rw [hf] at htab
    obtain ⟨i, hi, hk4, hri, hxm⟩ := find_at hf
    have htab : ∀ W, Below w.heap.size w W → Calls Tryz.prog 25 #[.pointer (some ⟨h, 0, none⟩), .agg #[.int .i64 k1, .int .i64 p1, .int .i64 q1, .string s1, .int .i64 r1]] W (PtrPost W x.tabv) := htab
    show Calls _ _ _ _ (VrPost w (if x.kind = 4 then .ok (tgetM x.A x.L ⟨kk, pp, qq, ss, rr⟩) else .error 8))
    unfold PO.tabv at htab
    by_cases h4 : x.kind = 4
    · rw [if_pos h4]
      rw [if_pos h4] at htab
      exact pGetK_some w h x.t k1 p1 q1 s1 r1 kk pp qq ss rr _ htab (fun W hb => twGet_c W x.t x.m x.g x.sv x.L x.av x.A (tabW_below ((hH.one x hxm).tb h4) hb) (by have := (hS x hxm).2; omega) (hS x hxm).1 kk pp qq ss rr hk hkw)
    · rw [if_neg h4]
      rw [if_neg h4] at htab
      exact pGetK_none w h k1 p1 q1 s1 r1 kk pp qq ss rr htab
set_option maxRecDepth 100000 in
set_option maxHeartbeats 2000000 in
theorem pMeta_none (w : World) (hv : Value) (k1 p1 q1 : Int) (s1 : ByteArray) (r1 : Int) (T : ∀ W, Below w.heap.size w W → Calls Tryz.prog 31 #[hv, .agg #[.int .i64 k1, .int .i64 p1, .int .i64 q1, .string s1, .int .i64 r1]] W (PtrPost W (.pointer none))) :
    Calls Tryz.prog 21 #[hv, .agg #[.int .i64 k1, .int .i64 p1, .int .i64 q1, .string s1, .int .i64 r1]] w (ValPost w V.nil) := by
  have HT := Lib.hid T
  clear T
  go_enter Tryz.func21, Tryz.ntmps21
  go_wp2_with fail
  refine (HT.out _ (below2w _ _ _)).mono ?_
  rintro e w1 ⟨rfl, hb⟩
  have Hb1 := Lib.hid (hkeep hb (heap2_b _ _ _))
  have HW1 := Lib.hid (below_next (below2w _ _ _) hb)
  have hz1 := hb.size
  try simp at hz1
  clear hb
  have hyb : w.heap.size + 1 < w1.heap.size := (Array.getElem?_eq_some_iff.1 Hb1.out).1
  have b0 : w1.cell? ⟨w.heap.size + 1, 0, none⟩ = some (.int .i64 0) := by rw [cell_of_heap Hb1.out]; rfl
  have fb0 : w1.frozen? ⟨w.heap.size + 1, 0, none⟩ = false := frozen_of_heap Hb1.out _
  have b1 : w1.cell? ⟨w.heap.size + 1, 1, none⟩ = some (.int .i64 0) := by rw [cell_of_heap Hb1.out]; rfl
  have fb1 : w1.frozen? ⟨w.heap.size + 1, 1, none⟩ = false := frozen_of_heap Hb1.out _
  have b2 : w1.cell? ⟨w.heap.size + 1, 2, none⟩ = some (.int .i64 0) := by rw [cell_of_heap Hb1.out]; rfl
  have fb2 : w1.frozen? ⟨w.heap.size + 1, 2, none⟩ = false := frozen_of_heap Hb1.out _
  have b3 : w1.cell? ⟨w.heap.size + 1, 3, none⟩ = some (.string ⟨#[]⟩) := by rw [cell_of_heap Hb1.out]; rfl
  have fb3 : w1.frozen? ⟨w.heap.size + 1, 3, none⟩ = false := frozen_of_heap Hb1.out _
  have b4 : w1.cell? ⟨w.heap.size + 1, 4, none⟩ = some (.int .i64 0) := by rw [cell_of_heap Hb1.out]; rfl
  have fb4 : w1.frozen? ⟨w.heap.size + 1, 4, none⟩ = false := frozen_of_heap Hb1.out _
  go_wp2
  refine bodyPost_ret (by simp [results, Tryz.results21, go_sem, hyb, b0, b1, b2, b3, b4]; first | done | rfl) rfl ?_
  exact val_done rfl (below_five HW1.out (by omega) _ _ _ _ _)
set_option maxRecDepth 100000 in
set_option maxHeartbeats 2000000 in
theorem pMeta_some (w : World) (h : Nat) (k1 p1 q1 : Int) (s1 : ByteArray) (r1 : Int) (x : PO) (hx : w.heap[x.o]? = some (.cells x.cells 71)) (T : ∀ W, Below w.heap.size w W → Calls Tryz.prog 31 #[.pointer (some ⟨h, 0, none⟩), .agg #[.int .i64 k1, .int .i64 p1, .int .i64 q1, .string s1, .int .i64 r1]] W (PtrPost W (.pointer (some ⟨x.o, 0, none⟩)))) :
    Calls Tryz.prog 21 #[.pointer (some ⟨h, 0, none⟩), .agg #[.int .i64 k1, .int .i64 p1, .int .i64 q1, .string s1, .int .i64 r1]] w (ValPost w x.mt) := by
  have hxl : x.o < w.heap.size := (Array.getElem?_eq_some_iff.1 hx).1
  have HT := Lib.hid T
  have HX := Lib.hid hx
  clear T hx
  go_enter Tryz.func21, Tryz.ntmps21
  go_wp2_with fail
  refine (HT.out _ (below2w _ _ _)).mono ?_
  rintro e w1 ⟨rfl, hb⟩
  have Hb1 := Lib.hid (hkeep hb (heap2_b _ _ _))
  have Hx1 := Lib.hid (hkeep hb (heap2_old HX.out _ _))
  have HW1 := Lib.hid (below_next (below2w _ _ _) hb)
  have hz1 := hb.size
  try simp at hz1
  clear hb
  have hyb : w.heap.size + 1 < w1.heap.size := (Array.getElem?_eq_some_iff.1 Hb1.out).1
  have b0 : w1.cell? ⟨w.heap.size + 1, 0, none⟩ = some (.int .i64 0) := by rw [cell_of_heap Hb1.out]; rfl
  have fb0 : w1.frozen? ⟨w.heap.size + 1, 0, none⟩ = false := frozen_of_heap Hb1.out _
  have b1 : w1.cell? ⟨w.heap.size + 1, 1, none⟩ = some (.int .i64 0) := by rw [cell_of_heap Hb1.out]; rfl
  have fb1 : w1.frozen? ⟨w.heap.size + 1, 1, none⟩ = false := frozen_of_heap Hb1.out _
  have b2 : w1.cell? ⟨w.heap.size + 1, 2, none⟩ = some (.int .i64 0) := by rw [cell_of_heap Hb1.out]; rfl
  have fb2 : w1.frozen? ⟨w.heap.size + 1, 2, none⟩ = false := frozen_of_heap Hb1.out _
  have b3 : w1.cell? ⟨w.heap.size + 1, 3, none⟩ = some (.string ⟨#[]⟩) := by rw [cell_of_heap Hb1.out]; rfl
  have fb3 : w1.frozen? ⟨w.heap.size + 1, 3, none⟩ = false := frozen_of_heap Hb1.out _
  have b4 : w1.cell? ⟨w.heap.size + 1, 4, none⟩ = some (.int .i64 0) := by rw [cell_of_heap Hb1.out]; rfl
  have fb4 : w1.frozen? ⟨w.heap.size + 1, 4, none⟩ = false := frozen_of_heap Hb1.out _
  have hyx : x.o < w1.heap.size := (Array.getElem?_eq_some_iff.1 Hx1.out).1
  have x0 : w1.cell? ⟨x.o, 0, none⟩ = some (.int .i64 x.kind) := by rw [cell_of_heap Hx1.out]; rfl
  have x1 : w1.cell? ⟨x.o, 1, none⟩ = some (.int .i64 x.tag) := by rw [cell_of_heap Hx1.out]; rfl
  have x2 : w1.cell? ⟨x.o, 2, none⟩ = some (.string x.name) := by rw [cell_of_heap Hx1.out]; rfl
  have x3 : w1.cell? ⟨x.o, 3, none⟩ = some (x.tabv) := by rw [cell_of_heap Hx1.out]; rfl
  have x4 : w1.cell? ⟨x.o, 4, none⟩ = some (.int .i64 x.mt.k) := by rw [cell_of_heap Hx1.out]; rfl
  have x5 : w1.cell? ⟨x.o, 5, none⟩ = some (.int .i64 x.mt.p) := by rw [cell_of_heap Hx1.out]; rfl
  have x6 : w1.cell? ⟨x.o, 6, none⟩ = some (.int .i64 x.mt.q) := by rw [cell_of_heap Hx1.out]; rfl
  have x7 : w1.cell? ⟨x.o, 7, none⟩ = some (.string x.mt.s) := by rw [cell_of_heap Hx1.out]; rfl
  have x8 : w1.cell? ⟨x.o, 8, none⟩ = some (.int .i64 x.mt.r) := by rw [cell_of_heap Hx1.out]; rfl
  have x9 : w1.cell? ⟨x.o, 9, none⟩ = some (x.vals) := by rw [cell_of_heap Hx1.out]; rfl
  go_wp2
  refine bodyPost_ret (by simp [results, Tryz.results21, go_sem, hyb, b0, b1, b2, b3, b4]; first | done | rfl) rfl ?_
  exact val_done rfl (below_five HW1.out (by omega) _ _ _ _ _)
theorem pMeta_c (w : World) (h bo bt : Nat) (H : List PO) (hH : HpAt w h bo bt H) (k1 p1 q1 : Int) (s1 : ByteArray) (r1 : Int) (hr : i64 r1) : Calls Tryz.prog 21 #[.pointer (some ⟨h, 0, none⟩), .agg #[.int .i64 k1, .int .i64 p1, .int .i64 q1, .string s1, .int .i64 r1]] w (ValPost w (metaH (lh H) ⟨k1, p1, q1, s1, r1⟩)) := by
  have hfi := fun W (hb : Below w.heap.size w W) => phfind_c W h bo bt H (hH.below hb) k1 p1 q1 s1 r1 hr
  unfold metaH
  rw [find_lo]
  cases hf : findP H ⟨k1, p1, q1, s1, r1⟩ with
  | none => rw [hf] at hfi; exact pMeta_none w _ k1 p1 q1 s1 r1 hfi
  | some x =>
    rw [hf] at hfi
    obtain ⟨i, hi, hk, hri, hxm⟩ := find_at hf
    exact pMeta_some w h k1 p1 q1 s1 r1 x (hH.one x hxm).ho hfi
set_option maxRecDepth 100000 in
set_option maxHeartbeats 2000000 in
theorem pHand_nil (w : World) (hv : Value) (k1 p1 q1 : Int) (s1 : ByteArray) (r1 : Int) (s : ByteArray) (mk mp mq : Int) (ms : ByteArray) (mr : Int) (h0 : mk = 0) (T : ∀ W, Below w.heap.size w W → Calls Tryz.prog 21 #[hv, .agg #[.int .i64 k1, .int .i64 p1, .int .i64 q1, .string s1, .int .i64 r1]] W (ValPost W ⟨mk, mp, mq, ms, mr⟩)) :
    Calls Tryz.prog 123 #[hv, .agg #[.int .i64 k1, .int .i64 p1, .int .i64 q1, .string s1, .int .i64 r1], .string s] w (ValPost w V.nil) := by
  have HT := Lib.hid T
  have h0' : (mk == 0) = true := beq_iff_eq.2 h0
  clear T h0
  go_enter Tryz.func123, Tryz.ntmps123
  go_wp2_with fail
  refine (HT.out _ (below2w _ _ _)).mono ?_
  rintro e w1 ⟨rfl, hb⟩
  have Hb1 := Lib.hid (hkeep hb (heap2_b _ _ _))
  have HW1 := Lib.hid (below_next (below2w _ _ _) hb)
  have hz1 := hb.size
  try simp at hz1
  clear hb
  have hyb : w.heap.size + 1 < w1.heap.size := (Array.getElem?_eq_some_iff.1 Hb1.out).1
  have b0 : w1.cell? ⟨w.heap.size + 1, 0, none⟩ = some (.int .i64 0) := by rw [cell_of_heap Hb1.out]; rfl
  have fb0 : w1.frozen? ⟨w.heap.size + 1, 0, none⟩ = false := frozen_of_heap Hb1.out _
  have b1 : w1.cell? ⟨w.heap.size + 1, 1, none⟩ = some (.int .i64 0) := by rw [cell_of_heap Hb1.out]; rfl
  have fb1 : w1.frozen? ⟨w.heap.size + 1, 1, none⟩ = false := frozen_of_heap Hb1.out _
  have b2 : w1.cell? ⟨w.heap.size + 1, 2, none⟩ = some (.int .i64 0) := by rw [cell_of_heap Hb1.out]; rfl
  have fb2 : w1.frozen? ⟨w.heap.size + 1, 2, none⟩ = false := frozen_of_heap Hb1.out _
  have b3 : w1.cell? ⟨w.heap.size + 1, 3, none⟩ = some (.string ⟨#[]⟩) := by rw [cell_of_heap Hb1.out]; rfl
  have fb3 : w1.frozen? ⟨w.heap.size + 1, 3, none⟩ = false := frozen_of_heap Hb1.out _
  have b4 : w1.cell? ⟨w.heap.size + 1, 4, none⟩ = some (.int .i64 0) := by rw [cell_of_heap Hb1.out]; rfl
  have fb4 : w1.frozen? ⟨w.heap.size + 1, 4, none⟩ = false := frozen_of_heap Hb1.out _
  go_wp2
  refine bodyPost_ret (by simp [results, Tryz.results123, go_sem, hyb, b0, b1, b2, b3, b4]; first | done | rfl) rfl ?_
  exact val_done rfl ((below_five HW1.out (by omega) _ _ _ _ _).alloc (by simp; omega) _)
set_option maxRecDepth 100000 in
set_option maxHeartbeats 20000000 in
theorem pHand_get (w : World) (h : Nat) (k1 p1 q1 : Int) (s1 : ByteArray) (r1 : Int) (s : ByteArray) (mk mp mq : Int) (ms : ByteArray) (mr : Int) (h0 : mk ≠ 0) (T : ∀ W, Below w.heap.size w W → Calls Tryz.prog 21 #[.pointer (some ⟨h, 0, none⟩), .agg #[.int .i64 k1, .int .i64 p1, .int .i64 q1, .string s1, .int .i64 r1]] W (ValPost W ⟨mk, mp, mq, ms, mr⟩))
    (R : VR) (G : ∀ W, Below w.heap.size w W → Calls Tryz.prog 20 #[.pointer (some ⟨h, 0, none⟩), .agg #[.int .i64 mk, .int .i64 mp, .int .i64 mq, .string ms, .int .i64 mr], .agg #[.int .i64 3, .int .i64 0, .int .i64 0, .string s, .int .i64 0]] W (VrPost W R)) :
    Calls Tryz.prog 123 #[.pointer (some ⟨h, 0, none⟩), .agg #[.int .i64 k1, .int .i64 p1, .int .i64 q1, .string s1, .int .i64 r1], .string s] w (ValPost w (vV R)) := by
  have HT := Lib.hid T
  have HG := Lib.hid G
  have HO := Lib.hid (fun W => (pOfString_c W s : Calls Tryz.prog 66 #[.string s] W (ValPost W (strV s))))
  have h0' : (mk == 0) = false := beq_eq_false_iff_ne.2 h0
  clear T G h0
  go_enter Tryz.func123, Tryz.ntmps123
  go_wp2_with fail
  refine (HT.out _ (below2w _ _ _)).mono ?_
  rintro e w1 ⟨rfl, hb⟩
  have Hb1 := Lib.hid (hkeep hb (heap2_b _ _ _))
  have HW1 := Lib.hid (below_next (below2w _ _ _) hb)
  have hz1 := hb.size
  try simp at hz1
  clear hb
  go_wp2
  have hlw : w.heap.size + 1 < w1.heap.size := (Array.getElem?_eq_some_iff.1 Hb1.out).1
  obtain ⟨B, hB⟩ : ∃ B, B = w1.alloc (.cells #[.int .i64 mk, .int .i64 mp, .int .i64 mq, .string ms, .int .i64 mr] 30) := ⟨_, rfl⟩
  rw [← hB]
  have HBW := Lib.hid (show Below w.heap.size w B by rw [hB]; exact HW1.out.alloc (by omega) _)
  have HBb := Lib.hid (show B.heap[w.heap.size + 1]? = some (oV 0 0 0 ⟨#[]⟩ 0) by rw [hB]; exact heap1_old Hb1.out _)
  have HBm := Lib.hid (show B.heap[w1.heap.size]? = some (oV mk mp mq ms mr) by rw [hB]; exact heap1 w1 _)
  clear hB
  have SO := Lib.hid (fun W (hb : Below B.heap.size B W) => (show W.cell? ⟨w1.heap.size, 0, none⟩ = some (.int .i64 mk) ∧ W.cell? ⟨w1.heap.size, 1, none⟩ = some (.int .i64 mp) ∧ W.cell? ⟨w1.heap.size, 2, none⟩ = some (.int .i64 mq) ∧ W.cell? ⟨w1.heap.size, 3, none⟩ = some (.string ms) ∧ W.cell? ⟨w1.heap.size, 4, none⟩ = some (.int .i64 mr) ∧ Hid (Below B.heap.size B W) from ⟨by rw [cell_of_heap (hkeep hb HBm.out)]; rfl, by rw [cell_of_heap (hkeep hb HBm.out)]; rfl, by rw [cell_of_heap (hkeep hb HBm.out)]; rfl, by rw [cell_of_heap (hkeep hb HBm.out)]; rfl, by rw [cell_of_heap (hkeep hb HBm.out)]; rfl, Lib.hid hb⟩))
  have hbD : Below B.heap.size B B.drew := (Below.refl _ _).drew
  go_region_held3 (fun w' => w'.cell? ⟨w1.heap.size, 0, none⟩ = some (.int .i64 mk) ∧ w'.cell? ⟨w1.heap.size, 1, none⟩ = some (.int .i64 mp) ∧ w'.cell? ⟨w1.heap.size, 2, none⟩ = some (.int .i64 mq) ∧ w'.cell? ⟨w1.heap.size, 3, none⟩ = some (.string ms) ∧ w'.cell? ⟨w1.heap.size, 4, none⟩ = some (.int .i64 mr) ∧ Hid (Below B.heap.size B w'))
    (first | with_reducible exact SO.out _ (by assumption) | with_reducible exact SO.out _ (below_next (by assumption) (below1 _ _)) | with_reducible exact SO.out _ (below_five (by assumption) (by first | exact Nat.le_refl _ | exact Below.size (by assumption)) _ _ _ _ _))
    (first | (go_at_call 66; refine (HO.out _).mono ?_; rintro e w2 ⟨rfl, hb⟩; have hb2 := below_next (prj6 (by assumption)) hb; (try with_reducible have Hz := Lib.hid (hkeep hb (heap_newD B (oV 0 0 0 ⟨#[]⟩ 0)))); clear hb) | (go_at_call 20; refine (HG.out _ (below_next HBW.out (prj6 (by assumption)))).mono ?_; rintro e w3 ⟨rfl, hb⟩; have hb3 := below_next (prj6 (by assumption)) hb; (first | ((with_reducible have Hz3 := Lib.hid (hkeep hb Hz.out)); have z0 : w3.cell? ⟨B.heap.size, 0, none⟩ = some (.int .i64 0) := (by rw [cell_of_heap Hz3.out]; rfl); have z1 : w3.cell? ⟨B.heap.size, 1, none⟩ = some (.int .i64 0) := (by rw [cell_of_heap Hz3.out]; rfl); have z2 : w3.cell? ⟨B.heap.size, 2, none⟩ = some (.int .i64 0) := (by rw [cell_of_heap Hz3.out]; rfl); have z3 : w3.cell? ⟨B.heap.size, 3, none⟩ = some (.string ⟨#[]⟩) := (by rw [cell_of_heap Hz3.out]; rfl); have z4 : w3.cell? ⟨B.heap.size, 4, none⟩ = some (.int .i64 0) := (by rw [cell_of_heap Hz3.out]; rfl); have fz0 : w3.frozen? ⟨B.heap.size, 0, none⟩ = false := frozen_of_heap Hz3.out _; have fz1 : w3.frozen? ⟨B.heap.size, 1, none⟩ = false := frozen_of_heap Hz3.out _; have fz2 : w3.frozen? ⟨B.heap.size, 2, none⟩ = false := frozen_of_heap Hz3.out _; have fz3 : w3.frozen? ⟨B.heap.size, 3, none⟩ = false := frozen_of_heap Hz3.out _; have fz4 : w3.frozen? ⟨B.heap.size, 4, none⟩ = false := frozen_of_heap Hz3.out _) | ((with_reducible have Hz3 := Lib.hid (hkeep hb (heap_new w2 (oV 0 0 0 ⟨#[]⟩ 0)))); have z0 : w3.cell? ⟨w2.heap.size, 0, none⟩ = some (.int .i64 0) := (by rw [cell_of_heap Hz3.out]; rfl); have z1 : w3.cell? ⟨w2.heap.size, 1, none⟩ = some (.int .i64 0) := (by rw [cell_of_heap Hz3.out]; rfl); have z2 : w3.cell? ⟨w2.heap.size, 2, none⟩ = some (.int .i64 0) := (by rw [cell_of_heap Hz3.out]; rfl); have z3 : w3.cell? ⟨w2.heap.size, 3, none⟩ = some (.string ⟨#[]⟩) := (by rw [cell_of_heap Hz3.out]; rfl); have z4 : w3.cell? ⟨w2.heap.size, 4, none⟩ = some (.int .i64 0) := (by rw [cell_of_heap Hz3.out]; rfl); have fz0 : w3.frozen? ⟨w2.heap.size, 0, none⟩ = false := frozen_of_heap Hz3.out _; have fz1 : w3.frozen? ⟨w2.heap.size, 1, none⟩ = false := frozen_of_heap Hz3.out _; have fz2 : w3.frozen? ⟨w2.heap.size, 2, none⟩ = false := frozen_of_heap Hz3.out _; have fz3 : w3.frozen? ⟨w2.heap.size, 3, none⟩ = false := frozen_of_heap Hz3.out _; have fz4 : w3.frozen? ⟨w2.heap.size, 4, none⟩ = false := frozen_of_heap Hz3.out _) | skip); clear hb))
  all_goals have hzB := HBW.out.size
  all_goals have hzb := (Array.getElem?_eq_some_iff.1 HBb.out).1
  all_goals have hzc := hb2.size
  · have HWb := Lib.hid (show (w3.alloc (.cells #[.int .i64 (vV R).k, .int .i64 (vV R).p, .int .i64 (vV R).q, .string (vV R).s, .int .i64 (vV R).r] 30)).heap[w.heap.size + 1]? = some (oV 0 0 0 ⟨#[]⟩ 0) from heap1_old (hkeep hb3 HBb.out) _)
    have HWr := Lib.hid (show (w3.alloc (.cells #[.int .i64 (vV R).k, .int .i64 (vV R).p, .int .i64 (vV R).q, .string (vV R).s, .int .i64 (vV R).r] 30)).heap[w3.heap.size]? = some (oV (vV R).k (vV R).p (vV R).q (vV R).s (vV R).r) from heap1 w3 _)
    have HWB := Lib.hid (show Below w.heap.size w (w3.alloc (.cells #[.int .i64 (vV R).k, .int .i64 (vV R).p, .int .i64 (vV R).q, .string (vV R).s, .int .i64 (vV R).r] 30)) from (below_next HBW.out hb3).alloc (below_next HBW.out hb3).size _)
    generalize (w3.alloc (.cells #[.int .i64 (vV R).k, .int .i64 (vV R).p, .int .i64 (vV R).q, .string (vV R).s, .int .i64 (vV R).r] 30)) = W at HWb HWr HWB ⊢
    try clear z0 z1 z2 z3 z4 fz0 fz1 fz2 fz3 fz4
    have hyb : w.heap.size + 1 < W.heap.size := (Array.getElem?_eq_some_iff.1 HWb.out).1
    have hyr : w3.heap.size < W.heap.size := (Array.getElem?_eq_some_iff.1 HWr.out).1
    have r0 : W.cell? ⟨w3.heap.size, 0, none⟩ = some (.int .i64 (vV R).k) := by rw [cell_of_heap HWr.out]; rfl
    have r1 : W.cell? ⟨w3.heap.size, 1, none⟩ = some (.int .i64 (vV R).p) := by rw [cell_of_heap HWr.out]; rfl
    have r2 : W.cell? ⟨w3.heap.size, 2, none⟩ = some (.int .i64 (vV R).q) := by rw [cell_of_heap HWr.out]; rfl
    have r3 : W.cell? ⟨w3.heap.size, 3, none⟩ = some (.string (vV R).s) := by rw [cell_of_heap HWr.out]; rfl
    have r4 : W.cell? ⟨w3.heap.size, 4, none⟩ = some (.int .i64 (vV R).r) := by rw [cell_of_heap HWr.out]; rfl
    have b0 : W.cell? ⟨w.heap.size + 1, 0, none⟩ = some (.int .i64 0) := by rw [cell_of_heap HWb.out]; rfl
    have b1 : W.cell? ⟨w.heap.size + 1, 1, none⟩ = some (.int .i64 0) := by rw [cell_of_heap HWb.out]; rfl
    have b2 : W.cell? ⟨w.heap.size + 1, 2, none⟩ = some (.int .i64 0) := by rw [cell_of_heap HWb.out]; rfl
    have b3 : W.cell? ⟨w.heap.size + 1, 3, none⟩ = some (.string ⟨#[]⟩) := by rw [cell_of_heap HWb.out]; rfl
    have b4 : W.cell? ⟨w.heap.size + 1, 4, none⟩ = some (.int .i64 0) := by rw [cell_of_heap HWb.out]; rfl
    have fb0 : W.frozen? ⟨w.heap.size + 1, 0, none⟩ = false := frozen_of_heap HWb.out _
    have fb1 : W.frozen? ⟨w.heap.size + 1, 1, none⟩ = false := frozen_of_heap HWb.out _
    have fb2 : W.frozen? ⟨w.heap.size + 1, 2, none⟩ = false := frozen_of_heap HWb.out _
    have fb3 : W.frozen? ⟨w.heap.size + 1, 3, none⟩ = false := frozen_of_heap HWb.out _
    have fb4 : W.frozen? ⟨w.heap.size + 1, 4, none⟩ = false := frozen_of_heap HWb.out _
    go_wp2
    refine bodyPost_ret (by simp [results, Tryz.results123, go_sem, hyb, b0, b1, b2, b3, b4]; first | done | rfl) rfl ?_
    exact val_done (v := vV R) rfl (below_five HWB.out (by omega) _ _ _ _ _)
  · have HWb := Lib.hid (show (((((w3.setCell ⟨w2.heap.size, 0, none⟩ (.int .i64 (vV R).k)).setCell ⟨w2.heap.size, 1, none⟩ (.int .i64 (vV R).p)).setCell ⟨w2.heap.size, 2, none⟩ (.int .i64 (vV R).q)).setCell ⟨w2.heap.size, 3, none⟩ (.string (vV R).s)).setCell ⟨w2.heap.size, 4, none⟩ (.int .i64 (vV R).r)).heap[w.heap.size + 1]? = some (oV 0 0 0 ⟨#[]⟩ 0) from heap_five (hkeep hb3 HBb.out) (by omega) _ _ _ _ _)
    have HWr := Lib.hid (show (((((w3.setCell ⟨w2.heap.size, 0, none⟩ (.int .i64 (vV R).k)).setCell ⟨w2.heap.size, 1, none⟩ (.int .i64 (vV R).p)).setCell ⟨w2.heap.size, 2, none⟩ (.int .i64 (vV R).q)).setCell ⟨w2.heap.size, 3, none⟩ (.string (vV R).s)).setCell ⟨w2.heap.size, 4, none⟩ (.int .i64 (vV R).r)).heap[w2.heap.size]? = some (oV (vV R).k (vV R).p (vV R).q (vV R).s (vV R).r) from heap_five_at Hz3.out _ _ _ _ _)
    have HWB := Lib.hid (show Below w.heap.size w (((((w3.setCell ⟨w2.heap.size, 0, none⟩ (.int .i64 (vV R).k)).setCell ⟨w2.heap.size, 1, none⟩ (.int .i64 (vV R).p)).setCell ⟨w2.heap.size, 2, none⟩ (.int .i64 (vV R).q)).setCell ⟨w2.heap.size, 3, none⟩ (.string (vV R).s)).setCell ⟨w2.heap.size, 4, none⟩ (.int .i64 (vV R).r)) from below_five (below_next HBW.out hb3) (by omega) _ _ _ _ _)
    generalize (((((w3.setCell ⟨w2.heap.size, 0, none⟩ (.int .i64 (vV R).k)).setCell ⟨w2.heap.size, 1, none⟩ (.int .i64 (vV R).p)).setCell ⟨w2.heap.size, 2, none⟩ (.int .i64 (vV R).q)).setCell ⟨w2.heap.size, 3, none⟩ (.string (vV R).s)).setCell ⟨w2.heap.size, 4, none⟩ (.int .i64 (vV R).r)) = W at HWb HWr HWB ⊢
    try clear z0 z1 z2 z3 z4 fz0 fz1 fz2 fz3 fz4
    have hyb : w.heap.size + 1 < W.heap.size := (Array.getElem?_eq_some_iff.1 HWb.out).1
    have hyr : w2.heap.size < W.heap.size := (Array.getElem?_eq_some_iff.1 HWr.out).1
    have r0 : W.cell? ⟨w2.heap.size, 0, none⟩ = some (.int .i64 (vV R).k) := by rw [cell_of_heap HWr.out]; rfl
    have r1 : W.cell? ⟨w2.heap.size, 1, none⟩ = some (.int .i64 (vV R).p) := by rw [cell_of_heap HWr.out]; rfl
    have r2 : W.cell? ⟨w2.heap.size, 2, none⟩ = some (.int .i64 (vV R).q) := by rw [cell_of_heap HWr.out]; rfl
    have r3 : W.cell? ⟨w2.heap.size, 3, none⟩ = some (.string (vV R).s) := by rw [cell_of_heap HWr.out]; rfl
    have r4 : W.cell? ⟨w2.heap.size, 4, none⟩ = some (.int .i64 (vV R).r) := by rw [cell_of_heap HWr.out]; rfl
    have b0 : W.cell? ⟨w.heap.size + 1, 0, none⟩ = some (.int .i64 0) := by rw [cell_of_heap HWb.out]; rfl
    have b1 : W.cell? ⟨w.heap.size + 1, 1, none⟩ = some (.int .i64 0) := by rw [cell_of_heap HWb.out]; rfl
    have b2 : W.cell? ⟨w.heap.size + 1, 2, none⟩ = some (.int .i64 0) := by rw [cell_of_heap HWb.out]; rfl
    have b3 : W.cell? ⟨w.heap.size + 1, 3, none⟩ = some (.string ⟨#[]⟩) := by rw [cell_of_heap HWb.out]; rfl
    have b4 : W.cell? ⟨w.heap.size + 1, 4, none⟩ = some (.int .i64 0) := by rw [cell_of_heap HWb.out]; rfl
    have fb0 : W.frozen? ⟨w.heap.size + 1, 0, none⟩ = false := frozen_of_heap HWb.out _
    have fb1 : W.frozen? ⟨w.heap.size + 1, 1, none⟩ = false := frozen_of_heap HWb.out _
    have fb2 : W.frozen? ⟨w.heap.size + 1, 2, none⟩ = false := frozen_of_heap HWb.out _
    have fb3 : W.frozen? ⟨w.heap.size + 1, 3, none⟩ = false := frozen_of_heap HWb.out _
    have fb4 : W.frozen? ⟨w.heap.size + 1, 4, none⟩ = false := frozen_of_heap HWb.out _
    go_wp2
    refine bodyPost_ret (by simp [results, Tryz.results123, go_sem, hyb, b0, b1, b2, b3, b4]; first | done | rfl) rfl ?_
    exact val_done (v := vV R) rfl (below_five HWB.out (by omega) _ _ _ _ _)
  · have HWb := Lib.hid (show (((((w3.setCell ⟨B.heap.size, 0, none⟩ (.int .i64 (vV R).k)).setCell ⟨B.heap.size, 1, none⟩ (.int .i64 (vV R).p)).setCell ⟨B.heap.size, 2, none⟩ (.int .i64 (vV R).q)).setCell ⟨B.heap.size, 3, none⟩ (.string (vV R).s)).setCell ⟨B.heap.size, 4, none⟩ (.int .i64 (vV R).r)).heap[w.heap.size + 1]? = some (oV 0 0 0 ⟨#[]⟩ 0) from heap_five (hkeep hb3 HBb.out) (by omega) _ _ _ _ _)
    have HWr := Lib.hid (show (((((w3.setCell ⟨B.heap.size, 0, none⟩ (.int .i64 (vV R).k)).setCell ⟨B.heap.size, 1, none⟩ (.int .i64 (vV R).p)).setCell ⟨B.heap.size, 2, none⟩ (.int .i64 (vV R).q)).setCell ⟨B.heap.size, 3, none⟩ (.string (vV R).s)).setCell ⟨B.heap.size, 4, none⟩ (.int .i64 (vV R).r)).heap[B.heap.size]? = some (oV (vV R).k (vV R).p (vV R).q (vV R).s (vV R).r) from heap_five_at Hz3.out _ _ _ _ _)
    have HWB := Lib.hid (show Below w.heap.size w (((((w3.setCell ⟨B.heap.size, 0, none⟩ (.int .i64 (vV R).k)).setCell ⟨B.heap.size, 1, none⟩ (.int .i64 (vV R).p)).setCell ⟨B.heap.size, 2, none⟩ (.int .i64 (vV R).q)).setCell ⟨B.heap.size, 3, none⟩ (.string (vV R).s)).setCell ⟨B.heap.size, 4, none⟩ (.int .i64 (vV R).r)) from below_five (below_next HBW.out hb3) (by omega) _ _ _ _ _)
    generalize (((((w3.setCell ⟨B.heap.size, 0, none⟩ (.int .i64 (vV R).k)).setCell ⟨B.heap.size, 1, none⟩ (.int .i64 (vV R).p)).setCell ⟨B.heap.size, 2, none⟩ (.int .i64 (vV R).q)).setCell ⟨B.heap.size, 3, none⟩ (.string (vV R).s)).setCell ⟨B.heap.size, 4, none⟩ (.int .i64 (vV R).r)) = W at HWb HWr HWB ⊢
    try clear z0 z1 z2 z3 z4 fz0 fz1 fz2 fz3 fz4
    have hyb : w.heap.size + 1 < W.heap.size := (Array.getElem?_eq_some_iff.1 HWb.out).1
    have hyr : B.heap.size < W.heap.size := (Array.getElem?_eq_some_iff.1 HWr.out).1
    have r0 : W.cell? ⟨B.heap.size, 0, none⟩ = some (.int .i64 (vV R).k) := by rw [cell_of_heap HWr.out]; rfl
    have r1 : W.cell? ⟨B.heap.size, 1, none⟩ = some (.int .i64 (vV R).p) := by rw [cell_of_heap HWr.out]; rfl
    have r2 : W.cell? ⟨B.heap.size, 2, none⟩ = some (.int .i64 (vV R).q) := by rw [cell_of_heap HWr.out]; rfl
    have r3 : W.cell? ⟨B.heap.size, 3, none⟩ = some (.string (vV R).s) := by rw [cell_of_heap HWr.out]; rfl
    have r4 : W.cell? ⟨B.heap.size, 4, none⟩ = some (.int .i64 (vV R).r) := by rw [cell_of_heap HWr.out]; rfl
    have b0 : W.cell? ⟨w.heap.size + 1, 0, none⟩ = some (.int .i64 0) := by rw [cell_of_heap HWb.out]; rfl
    have b1 : W.cell? ⟨w.heap.size + 1, 1, none⟩ = some (.int .i64 0) := by rw [cell_of_heap HWb.out]; rfl
    have b2 : W.cell? ⟨w.heap.size + 1, 2, none⟩ = some (.int .i64 0) := by rw [cell_of_heap HWb.out]; rfl
    have b3 : W.cell? ⟨w.heap.size + 1, 3, none⟩ = some (.string ⟨#[]⟩) := by rw [cell_of_heap HWb.out]; rfl
    have b4 : W.cell? ⟨w.heap.size + 1, 4, none⟩ = some (.int .i64 0) := by rw [cell_of_heap HWb.out]; rfl
    have fb0 : W.frozen? ⟨w.heap.size + 1, 0, none⟩ = false := frozen_of_heap HWb.out _
    have fb1 : W.frozen? ⟨w.heap.size + 1, 1, none⟩ = false := frozen_of_heap HWb.out _
    have fb2 : W.frozen? ⟨w.heap.size + 1, 2, none⟩ = false := frozen_of_heap HWb.out _
    have fb3 : W.frozen? ⟨w.heap.size + 1, 3, none⟩ = false := frozen_of_heap HWb.out _
    have fb4 : W.frozen? ⟨w.heap.size + 1, 4, none⟩ = false := frozen_of_heap HWb.out _
    go_wp2
    refine bodyPost_ret (by simp [results, Tryz.results123, go_sem, hyb, b0, b1, b2, b3, b4]; first | done | rfl) rfl ?_
    exact val_done (v := vV R) rfl (below_five HWB.out (by omega) _ _ _ _ _)
theorem pHand_c (w : World) (h bo bt : Nat) (H : List PO) (hH : HpAt w h bo bt H) (hS : Small 1000 H) (k1 p1 q1 : Int) (s1 : ByteArray) (r1 : Int) (hr : i64 r1) (s : ByteArray) (hs : s.size ≤ 4096) : Calls Tryz.prog 123 #[.pointer (some ⟨h, 0, none⟩), .agg #[.int .i64 k1, .int .i64 p1, .int .i64 q1, .string s1, .int .i64 r1], .string s] w (ValPost w (handH (lh H) ⟨k1, p1, q1, s1, r1⟩ s)) := by
  have hm := fun W (hb : Below w.heap.size w W) => pMeta_c W h bo bt H (hH.below hb) k1 p1 q1 s1 r1 hr
  obtain ⟨⟨mk, mp, mq, ms, mr⟩, hM⟩ : ∃ M, metaH (lh H) ⟨k1, p1, q1, s1, r1⟩ = M := ⟨_, rfl⟩
  rw [hM] at hm
  by_cases h0 : mk = 0
  · rw [hand_nil hH (by rw [hM]; exact h0)]
    exact pHand_nil w _ k1 p1 q1 s1 r1 s mk mp mq ms mr h0 hm
  · unfold handH
    have hw := meta_wf hH ⟨k1, p1, q1, s1, r1⟩
    rw [hM] at hw ⊢
    exact pHand_get w h k1 p1 q1 s1 r1 s mk mp mq ms mr h0 hm _ (fun W hb => pGet_c W h bo bt H (hH.below hb) hS mk mp mq ms mr hw.r s hs)
set_option maxRecDepth 100000 in
set_option maxHeartbeats 2000000 in
theorem pLen_none (w : World) (h : Nat) (k1 p1 q1 : Int) (s1 : ByteArray) (r1 : Int) (T : ∀ W, Below w.heap.size w W → Calls Tryz.prog 25 #[.pointer (some ⟨h, 0, none⟩), .agg #[.int .i64 k1, .int .i64 p1, .int .i64 q1, .string s1, .int .i64 r1]] W (PtrPost W (.pointer none))) :
    Calls Tryz.prog 99 #[.pointer (some ⟨h, 0, none⟩), .agg #[.int .i64 k1, .int .i64 p1, .int .i64 q1, .string s1, .int .i64 r1]] w (PtrPost w (.tuple #[.int .i64 0, .int .i64 8])) := by
  have HT := Lib.hid T
  clear T
  go_enter Tryz.func99, Tryz.ntmps99
  go_wp2_with fail
  refine (HT.out _ (below1 _ _)).mono ?_
  rintro e w1 ⟨rfl, hb⟩
  have HW1 := Lib.hid (below_next (below1 _ _) hb)
  clear hb
  go_wp2_with fail
  refine (pmissing_c _ _).mono ?_
  rintro e w2 ⟨rfl, rfl⟩
  go_wp2
  refine bodyPost_ret (by simp [results, Tryz.results99, go_sem]; first | done | rfl) rfl ?_
  exact ⟨rfl, HW1.out⟩
set_option maxRecDepth 100000 in
set_option maxHeartbeats 2000000 in
theorem pLen_some (w : World) (h t m : Nat) (so : Option Addr) (n cap : Nat) (k1 p1 q1 : Int) (s1 : ByteArray) (r1 : Int) (ht : w.heap[t]? = some (.cells #[.slice so n cap, .pointer (some ⟨m, 0, none⟩)] 102)) (T : ∀ W, Below w.heap.size w W → Calls Tryz.prog 25 #[.pointer (some ⟨h, 0, none⟩), .agg #[.int .i64 k1, .int .i64 p1, .int .i64 q1, .string s1, .int .i64 r1]] W (PtrPost W (.pointer (some ⟨t, 0, none⟩)))) :
    Calls Tryz.prog 99 #[.pointer (some ⟨h, 0, none⟩), .agg #[.int .i64 k1, .int .i64 p1, .int .i64 q1, .string s1, .int .i64 r1]] w (PtrPost w (.tuple #[.int .i64 (n : Nat), .int .i64 0])) := by
  have HT := Lib.hid T
  have HX := Lib.hid ht
  clear T ht
  go_enter Tryz.func99, Tryz.ntmps99
  go_wp2_with fail
  refine (HT.out _ (below1 _ _)).mono ?_
  rintro e w1 ⟨rfl, hb⟩
  have HW1 := Lib.hid (below_next (below1 _ _) hb)
  clear hb
  go_wp2_with fail
  refine (twLen_c _ t m so n cap (hkeep HW1.out HX.out)).mono ?_
  rintro e w2 ⟨rfl, rfl⟩
  go_wp2
  refine bodyPost_ret (by simp [results, Tryz.results99, go_sem]; first | done | rfl) rfl ?_
  exact ⟨rfl, HW1.out⟩
theorem pLenK_c (w : World) (h bo bt : Nat) (H : List PO) (hH : HpAt w h bo bt H) (k1 p1 q1 : Int) (s1 : ByteArray) (r1 : Int) (hr : i64 r1) : Calls Tryz.prog 99 #[.pointer (some ⟨h, 0, none⟩), .agg #[.int .i64 k1, .int .i64 p1, .int .i64 q1, .string s1, .int .i64 r1]] w (PtrPost w (lenP H ⟨k1, p1, q1, s1, r1⟩)) := by
  have htab := fun W (hb : Below w.heap.size w W) => ptab_c W h bo bt H (hH.below hb) k1 p1 q1 s1 r1 hr
  unfold lenP
  cases hf : findP H ⟨k1, p1, q1, s1, r1⟩ with
  | none => rw [hf] at htab; exact pLen_none w h k1 p1 q1 s1 r1 htab
  | some x =>
    rw [hf] at htab
    obtain ⟨i, hi, hk, hri, hxm⟩ := find_at hf
    have htab : ∀ W, Below w.heap.size w W → Calls Tryz.prog 25 #[.pointer (some ⟨h, 0, none⟩), .agg #[.int .i64 k1, .int .i64 p1, .int .i64 q1, .string s1, .int .i64 r1]] W (PtrPost W x.tabv) := htab
    show Calls _ _ _ _ (PtrPost w (if x.kind = 4 then _ else _))
    unfold PO.tabv at htab
    by_cases h4 : x.kind = 4
    · rw [if_pos h4] at htab
      rw [if_pos h4]
      obtain ⟨so, cap, hav, _⟩ := listW_shape ((hH.one x hxm).tb h4).lw
      exact pLen_some w h x.t x.m so x.A.length cap k1 p1 q1 s1 r1 (by rw [← hav]; exact ((hH.one x hxm).tb h4).ht) htab
    · rw [if_neg h4] at htab
      rw [if_neg h4]
      exact pLen_none w h k1 p1 q1 s1 r1 htab
end Go.Proofs.YteflmfdjnigjcaaGreatDoor
