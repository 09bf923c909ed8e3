import Derived.Test.YtpbcmlnjiocmoaaGreatDoorRPf
import Derived.Test.YtpbcmlnjiocmoaaGreatDoorROmF
import Derived.Test.YtpbcmlnjiocmoaaGreatDoorRTw
import Derived.Test.YtpbcmlnjiocmoaaGreatDoorRHpX
import Derived.Test.YtpbcmlnjiocmoaaGreatDoorRBp
import Derived.Test.YtpbcmlnjiocmoaaGreatDoorRSmA
set_option linter.unusedVariables false
set_option linter.unusedSimpArgs false
set_option maxRecDepth 100000
set_option maxHeartbeats 2000000
namespace Go.Proofs.YtpbcmlnjiocmoaaGreatDoorR
open Go.RowKit Go.Proofs.Lexi
/-- Get at any valid key. -/
theorem twGet_c (w : World) (t m g : Nat) (sv : Value) (L : List Sl) (av : Value) (A : List V) (hT : TabW w t m g sv L av A) (hl : A.length ≤ 100000) (hL : L.length ≤ 1000) (k p q : Int) (s : ByteArray) (r : Int) (hk : validV ⟨k, p, q, s, r⟩ = true) (hw : WfV ⟨k, p, q, s, r⟩) :
    Calls Tryz.prog 40 #[.pointer (some ⟨t, 0, none⟩), .agg #[.int .i64 k, .int .i64 p, .int .i64 q, .string s, .int .i64 r]] w (ValPost w (tgetM A L ⟨k, p, q, s, r⟩)) := by
  unfold tgetM inA
  by_cases hi : intB ⟨k, p, q, s, r⟩ = true
  · rw [hi, Bool.true_and]
    by_cases hp : 1 ≤ p ∧ p ≤ A.length
    · rw [if_pos (decide_eq_true hp)]
      obtain ⟨h2, h1, _⟩ := intB_iff.1 hi
      have h2 : k = 2 := h2
      have h1 : q = 1 := h1
      subst h2 h1
      obtain ⟨i, hi2⟩ : ∃ i : Nat, p = (i : Int) + 1 := ⟨(p - 1).toNat, by omega⟩
      have hlt : i < A.length := by omega
      rw [show A.getD (p.toNat - 1) V.nil = A[i] from by rw [show p.toNat - 1 = i by omega, List.getD_eq_getElem?_getD, List.getElem?_eq_getElem hlt]; rfl]
      exact twGet_in w t m g sv L av A hT hl i _ (List.getElem?_eq_getElem hlt) p hi2 s r hk
    · rw [if_neg (fun h => hp (of_decide_eq_true h))]
      exact twGet_out w t m g sv L av A hT hl hL k p q s r hk hw (.inr ⟨hi, by omega⟩)
  · have hi : intB ⟨k, p, q, s, r⟩ = false := by simpa using hi
    rw [hi, Bool.false_and, if_neg (by simp)]
    exact twGet_out w t m g sv L av A hT hl hL k p q s r hk hw (.inl hi)
set_option maxRecDepth 100000 in
set_option maxHeartbeats 2000000 in
theorem twSet_out (w : World) (t m g : Nat) (sv : Value) (L : List Sl) (av : Value) (A : List V) (hT : TabW w t m g sv L av A) (hl : A.length ≤ 100000) (hL : L.length ≤ 1000) (k p q : Int) (s : ByteArray) (r : Int) (hk : validV ⟨k, p, q, s, r⟩ = true) (hkw : WfV ⟨k, p, q, s, r⟩) (hk0 : k ≠ 0)
    (k2 p2 q2 : Int) (s2 : ByteArray) (r2 : Int) (hv : validV ⟨k2, p2, q2, s2, r2⟩ = true) (hw : WfV ⟨k2, p2, q2, s2, r2⟩)
    (ho : intB ⟨k, p, q, s, r⟩ = false ∨ intB ⟨k, p, q, s, r⟩ = true ∧ (p < 1 ∨ (A.length : Int) + 1 < p ∨ p = (A.length : Int) + 1 ∧ k2 = 0)) :
    Calls Tryz.prog 46 #[.pointer (some ⟨t, 0, none⟩), .agg #[.int .i64 k, .int .i64 p, .int .i64 q, .string s, .int .i64 r], .agg #[.int .i64 k2, .int .i64 p2, .int .i64 q2, .string s2, .int .i64 r2]] w (TWPost w t m g sv av (setM L ⟨k, p, q, s, r⟩ ⟨k2, p2, q2, s2, r2⟩) A) := by
  obtain ⟨so, cap, rfl, hcap⟩ := listW_shape hT.lw
  have HV1 := Lib.hid (fun W => (show Calls Tryz.prog 43 #[.agg #[.int .i64 k, .int .i64 p, .int .i64 q, .string s, .int .i64 r]] W (BoolPost W true) from by have h := pvalidV_c W k p q s r; rw [hk] at h; exact h))
  have HV2 := Lib.hid (fun W => (show Calls Tryz.prog 43 #[.agg #[.int .i64 k2, .int .i64 p2, .int .i64 q2, .string s2, .int .i64 r2]] W (BoolPost W true) from by have h := pvalidV_c W k2 p2 q2 s2 r2; rw [hv] at h; exact h))
  have HI := Lib.hid (fun W => tint_c W k p q s r)
  obtain ⟨R, hR⟩ : ∃ R, R = setM L ⟨k, p, q, s, r⟩ ⟨k2, p2, q2, s2, r2⟩ := ⟨_, rfl⟩
  rw [← hR]
  have hset : ∀ W, OMap W m g sv L → Calls Tryz.prog 83 #[.pointer (some ⟨m, 0, none⟩), .agg #[.int .i64 k, .int .i64 p, .int .i64 q, .string s, .int .i64 r], .agg #[.int .i64 k2, .int .i64 p2, .int .i64 q2, .string s2, .int .i64 r2]] W (OmPost W m g sv R) := fun W h => by rw [hR]; exact pomSet_c W m g sv L h hL ⟨k, p, q, s, r⟩ ⟨k2, p2, q2, s2, r2⟩ hkw hw hk hv hk0
  have HS := Lib.hid (hset)
  have HT := Lib.hid (hT)
  have htl : t < w.heap.size := (Array.getElem?_eq_some_iff.1 hT.ht).1
  have d5 : (A.length : Int) ≤ 100000 := by omega
  have e1 : (k == 0) = false := beq_eq_false_iff_ne.2 hk0
  have e2 : decide (k = 0) = false := decide_eq_false hk0
  obtain ⟨b, hb⟩ : ∃ b, b = intB ⟨k, p, q, s, r⟩ := ⟨_, rfl⟩
  rw [← hb] at HI ho
  have ways : (b = false ∧ True ∧ True ∧ True ∧ True) ∨ (b = true ∧ decide (p ≥ 1) = false ∧ True ∧ (p == (A.length : Int) + 1) = false ∧ True) ∨ (b = true ∧ decide (p ≥ 1) = true ∧ decide (p ≤ (A.length : Int)) = false ∧ (p == (A.length : Int) + 1) = false ∧ True) ∨ (b = true ∧ decide (p ≥ 1) = true ∧ decide (p ≤ (A.length : Int)) = false ∧ (p == (A.length : Int) + 1) = true ∧ (k2 != 0) = false) := by
    rcases ho with ho | ⟨ho, h1⟩
    · exact .inl ⟨ho, trivial, trivial, trivial, trivial⟩
    · rcases h1 with h1 | h1 | ⟨h1, h2⟩
      · exact .inr (.inl ⟨ho, decide_eq_false (by omega), trivial, beq_eq_false_iff_ne.2 (by omega), trivial⟩)
      · exact .inr (.inr (.inl ⟨ho, decide_eq_true (by omega), decide_eq_false (by omega), beq_eq_false_iff_ne.2 (by omega), trivial⟩))
      · exact .inr (.inr (.inr ⟨ho, decide_eq_true (by omega), decide_eq_false (by omega), beq_iff_eq.2 h1, by rw [h2]; rfl⟩))
  clear hT hk hkw hk0 hv hw hR hset hb ho
  rcases ways with ⟨rfl, d1, d2, d3, d4⟩ | ⟨rfl, d1, d2, d3, d4⟩ | ⟨rfl, d1, d2, d3, d4⟩ | ⟨rfl, d1, d2, d3, d4⟩
  all_goals
    go_enter Tryz.func46, Tryz.ntmps46
    go_wp2_with fail
    refine (HV1.out _).mono ?_
    rintro e w1 ⟨rfl, hb⟩
    have Ha1 := Lib.hid (hkeep hb (heap2_a w (oV k p q s r) (oV k2 p2 q2 s2 r2)))
    have Hb1 := Lib.hid (hkeep hb (heap2_b w (oV k p q s r) (oV k2 p2 q2 s2 r2)))
    have HW1 := Lib.hid (below_next (below2w _ _ _) hb)
    clear hb
    obtain ⟨b0, b1, b2, b3, b4⟩ := cells5 Hb1.out
    obtain ⟨fb0, fb1, fb2, fb3, fb4⟩ := froz5 Hb1.out
    go_wp2_with fail
    refine (HV2.out _).mono ?_
    rintro e w2 ⟨rfl, hb⟩
    have Ha2 := Lib.hid (hkeep hb Ha1.out)
    have Hb2 := Lib.hid (hkeep hb Hb1.out)
    have HW2 := Lib.hid (below_next HW1.out hb)
    clear hb b0 b1 b2 b3 b4 fb0 fb1 fb2 fb3 fb4
    obtain ⟨a0, a1, a2, a3, a4⟩ := cells5 Ha2.out
    obtain ⟨fa0, fa1, fa2, fa3, fa4⟩ := froz5 Ha2.out
    go_wp2_with fail
    refine (HI.out _).mono ?_
    rintro e w3 ⟨rfl, hb⟩
    have Ha3 := Lib.hid (hkeep hb Ha2.out)
    have Hb3 := Lib.hid (hkeep hb Hb2.out)
    have HW3 := Lib.hid (below_next HW2.out hb)
    clear hb a0 a1 a2 a3 a4 fa0 fa1 fa2 fa3 fa4
    have t0 : w3.cell? ⟨t, 0, none⟩ = some (.slice so A.length cap) := by rw [cell_of_heap (hkeep HW3.out HT.out.ht)]; rfl
    have t1 : w3.cell? ⟨t, 1, none⟩ = some (.pointer (some ⟨m, 0, none⟩)) := by rw [cell_of_heap (hkeep HW3.out HT.out.ht)]; rfl
    have hz3 := HW3.out.size
    have hya : w.heap.size < w3.heap.size := (Array.getElem?_eq_some_iff.1 Ha3.out).1
    have hyb : w.heap.size + 1 < w3.heap.size := (Array.getElem?_eq_some_iff.1 Hb3.out).1
    have hyt : t < w3.heap.size := by omega
    obtain ⟨a0, a1, a2, a3, a4⟩ := cells5 Ha3.out
    obtain ⟨fa0, fa1, fa2, fa3, fa4⟩ := froz5 Ha3.out
    obtain ⟨b0, b1, b2, b3, b4⟩ := cells5 Hb3.out
    obtain ⟨fb0, fb1, fb2, fb3, fb4⟩ := froz5 Hb3.out
    go_wp2
    refine wp_region_lex mixed (by kernel_rfl) ?_
    go_wp2_with fail
    refine (HS.out _ (om_keep_below HT.out.om HW3.out.drew)).mono ?_
    rintro e w4 ⟨rfl, sv', hO4, hM4, hown4⟩
    have HX := Lib.hid (And.intro hO4 (And.intro hM4 hown4))
    clear hO4 hM4 hown4
    go_wp2
    refine ⟨by kernel_rfl, ?_⟩
    go_wp2
    go_ret
    obtain ⟨hO4, hM4, hown4⟩ := HX.out
    have hM : Mods (OmF m g sv) w w4 := (Mods.of_below HW3.out.drew).trans hM4
    refine ⟨rfl, m, g, sv', _, ⟨?_, ListW.kept HT.out.lw (fun c hc => ?_), HT.out.wfA, hO4⟩, ⟨.inl rfl, .inl rfl, fun c hc => (hown4 c hc).imp id (fun h => Nat.le_trans hz3 h), fun _ h => .inl h⟩, hM.mono (fun _ _ h => .inr (.inl h))⟩
    · exact (hM.block t htl (not_omF HT.out.om HT.out.ht (by decide) (by decide))).trans HT.out.ht
    · obtain ⟨cur, hcur⟩ := listW_block HT.out.lw hc
      exact hM.block c (Array.getElem?_eq_some_iff.1 hcur).1 (not_omF HT.out.om hcur (by decide) (by decide))
set_option maxRecDepth 100000 in
set_option maxHeartbeats 2000000 in
theorem twLen_c (w : World) (t m : Nat) (so : Option Addr) (n cap : Nat) (ht : w.heap[t]? = some (.cells #[.slice so n cap, .pointer (some ⟨m, 0, none⟩)] 126)) : Calls Tryz.prog 38 #[.pointer (some ⟨t, 0, none⟩)] w (fun e w' => e = .returned (.int .i64 (n : Nat)) ∧ w' = w) := by
  have t0 : w.cell? ⟨t, 0, none⟩ = some (.slice so n cap) := by rw [cell_of_heap ht]; rfl
  have harr : Calls Tryz.prog 74 #[.pointer (some ⟨t, 0, none⟩)] w (fun e w' => e = .returned (.int .i64 (n : Nat)) ∧ w' = w) := by
    clear ht
    go_enter Tryz.func74, Tryz.ntmps74
    go_wp2
    go_ret
    exact ⟨rfl, rfl⟩
  have HA := Lib.hid harr
  clear harr ht t0
  go_enter Tryz.func38, Tryz.ntmps38
  go_wp2_with fail
  refine HA.out.mono ?_
  rintro e w1 ⟨rfl, rfl⟩
  go_wp2
  go_ret
  exact ⟨rfl, rfl⟩
set_option maxRecDepth 100000 in
set_option maxHeartbeats 2000000 in
theorem phfind_none (w : World) (h bo bt : Nat) (H : List PO) (hH : HpAt w h bo bt H) (k1 p1 q1 : Int) (s1 : ByteArray) (r1 : Int) (hr : i64 r1) (ho : objAt H r1 = none) :
    Calls Tryz.prog 73 #[.pointer (some ⟨h, 0, none⟩), .agg #[.int .i64 k1, .int .i64 p1, .int .i64 q1, .string s1, .int .i64 r1]] w (PtrPost w (.pointer none)) := by
  have hlt : h < w.heap.size := (Array.getElem?_eq_some_iff.1 hH.hh).1
  have hbo : bo < w.heap.size := hH.objs.lt
  have hlk := fun W (hW : W.heap[bo]? = w.heap[bo]?) => obj_look hH.objs hr W hW
  rw [ho] at hlk
  have HLK := Lib.hid hlk
  have HH := Lib.hid hH.hh
  have h0 : (w.alloc (oV k1 p1 q1 s1 r1)).cell? ⟨h, 0, none⟩ = some (.map (some bo)) := by rw [cell_of_heap (heap1_old HH.out _)]; rfl
  have h1 : (w.alloc (oV k1 p1 q1 s1 r1)).cell? ⟨h, 1, none⟩ = some (.int .i64 (H.length : Nat)) := by rw [cell_of_heap (heap1_old HH.out _)]; rfl
  have h2 : (w.alloc (oV k1 p1 q1 s1 r1)).cell? ⟨h, 2, none⟩ = some (.map (some bt)) := by rw [cell_of_heap (heap1_old HH.out _)]; rfl
  clear hH hlk ho hr
  go_enter Tryz.func73, Tryz.ntmps73
  go_wp2
  refine wp_region_lex mixed (by kernel_rfl) ?_
  go_wp2_with (at_lookup; refine wpList_look_map _ rfl _ _ _ _ rfl _ _ _ rfl rfl (HLK.out _ (Below.heap_alloc w _ bo (by omega))) ?_)
  refine ⟨by kernel_rfl, ?_⟩
  dsimp only [ptrO]
  go_wp2
  go_quiet (fail)
  go_wp2
  go_ret
  exact ⟨rfl, bdn (below1 _ _).drew _⟩
set_option maxRecDepth 100000 in
set_option maxHeartbeats 2000000 in
theorem phfind_hit (w : World) (h bo bt : Nat) (H : List PO) (hH : HpAt w h bo bt H) (k1 p1 q1 : Int) (s1 : ByteArray) (r1 : Int) (hr : i64 r1) (x : PO) (ho : objAt H r1 = some x) (hk : x.kind = k1) :
    Calls Tryz.prog 73 #[.pointer (some ⟨h, 0, none⟩), .agg #[.int .i64 k1, .int .i64 p1, .int .i64 q1, .string s1, .int .i64 r1]] w (PtrPost w (.pointer (some ⟨x.o, 0, none⟩))) := by
  have hlt : h < w.heap.size := (Array.getElem?_eq_some_iff.1 hH.hh).1
  have hbo : bo < w.heap.size := hH.objs.lt
  have hlk := fun W (hW : W.heap[bo]? = w.heap[bo]?) => obj_look hH.objs hr W hW
  rw [ho] at hlk
  have HLK := Lib.hid hlk
  have HH := Lib.hid hH.hh
  have hx := hH.one x (objAt_mem ho)
  have hxl : x.o < w.heap.size := (Array.getElem?_eq_some_iff.1 hx.ho).1
  have x0 : (w.alloc (oV k1 p1 q1 s1 r1)).cell? ⟨x.o, 0, none⟩ = some (.int .i64 x.kind) := by rw [cell_of_heap (heap1_old hx.ho _)]; rfl
  rw [hk] at x0
  clear hx
  have h0 : (w.alloc (oV k1 p1 q1 s1 r1)).cell? ⟨h, 0, none⟩ = some (.map (some bo)) := by rw [cell_of_heap (heap1_old HH.out _)]; rfl
  have h1 : (w.alloc (oV k1 p1 q1 s1 r1)).cell? ⟨h, 1, none⟩ = some (.int .i64 (H.length : Nat)) := by rw [cell_of_heap (heap1_old HH.out _)]; rfl
  have h2 : (w.alloc (oV k1 p1 q1 s1 r1)).cell? ⟨h, 2, none⟩ = some (.map (some bt)) := by rw [cell_of_heap (heap1_old HH.out _)]; rfl
  clear hH hlk ho hr hk
  go_enter Tryz.func73, Tryz.ntmps73
  go_wp2
  refine wp_region_lex mixed (by kernel_rfl) ?_
  go_wp2_with (at_lookup; refine wpList_look_map _ rfl _ _ _ _ rfl _ _ _ rfl rfl (HLK.out _ (Below.heap_alloc w _ bo (by omega))) ?_)
  refine ⟨by kernel_rfl, ?_⟩
  dsimp only [ptrO]
  go_wp2
  go_quiet (fail)
  go_wp2
  go_ret
  exact ⟨rfl, bdn (below1 _ _).drew _⟩
set_option maxRecDepth 100000 in
set_option maxHeartbeats 2000000 in
theorem phfind_miss (w : World) (h bo bt : Nat) (H : List PO) (hH : HpAt w h bo bt H) (k1 p1 q1 : Int) (s1 : ByteArray) (r1 : Int) (hr : i64 r1) (x : PO) (ho : objAt H r1 = some x) (hk : x.kind ≠ k1) :
    Calls Tryz.prog 73 #[.pointer (some ⟨h, 0, none⟩), .agg #[.int .i64 k1, .int .i64 p1, .int .i64 q1, .string s1, .int .i64 r1]] w (PtrPost w (.pointer none)) := by
  have hlt : h < w.heap.size := (Array.getElem?_eq_some_iff.1 hH.hh).1
  have hbo : bo < w.heap.size := hH.objs.lt
  have hlk := fun W (hW : W.heap[bo]? = w.heap[bo]?) => obj_look hH.objs hr W hW
  rw [ho] at hlk
  have HLK := Lib.hid hlk
  have HH := Lib.hid hH.hh
  have hx := hH.one x (objAt_mem ho)
  have hxl : x.o < w.heap.size := (Array.getElem?_eq_some_iff.1 hx.ho).1
  have x0 : (w.alloc (oV k1 p1 q1 s1 r1)).cell? ⟨x.o, 0, none⟩ = some (.int .i64 x.kind) := by rw [cell_of_heap (heap1_old hx.ho _)]; rfl
  have tk : (x.kind != k1) = true := by rw [bne_iff_ne]; exact hk
  clear hx
  have h0 : (w.alloc (oV k1 p1 q1 s1 r1)).cell? ⟨h, 0, none⟩ = some (.map (some bo)) := by rw [cell_of_heap (heap1_old HH.out _)]; rfl
  have h1 : (w.alloc (oV k1 p1 q1 s1 r1)).cell? ⟨h, 1, none⟩ = some (.int .i64 (H.length : Nat)) := by rw [cell_of_heap (heap1_old HH.out _)]; rfl
  have h2 : (w.alloc (oV k1 p1 q1 s1 r1)).cell? ⟨h, 2, none⟩ = some (.map (some bt)) := by rw [cell_of_heap (heap1_old HH.out _)]; rfl
  clear hH hlk ho hr hk
  go_enter Tryz.func73, Tryz.ntmps73
  go_wp2
  refine wp_region_lex mixed (by kernel_rfl) ?_
  go_wp2_with (at_lookup; refine wpList_look_map _ rfl _ _ _ _ rfl _ _ _ rfl rfl (HLK.out _ (Below.heap_alloc w _ bo (by omega))) ?_)
  refine ⟨by kernel_rfl, ?_⟩
  dsimp only [ptrO]
  go_wp2
  go_quiet (fail)
  go_wp2
  go_ret
  exact ⟨rfl, bdn (below1 _ _).drew _⟩
theorem phfind_c (w : World) (h bo bt : Nat) (H : List PO) (hH : HpAt w h bo bt H) (k1 p1 q1 : Int) (s1 : ByteArray) (r1 : Int) (hr : i64 r1) : Calls Tryz.prog 73 #[.pointer (some ⟨h, 0, none⟩), .agg #[.int .i64 k1, .int .i64 p1, .int .i64 q1, .string s1, .int .i64 r1]] w (PtrPost w (ptrO (findP H ⟨k1, p1, q1, s1, r1⟩))) := by
  cases ho : objAt H r1 with
  | none => rw [findP_none ho]; exact phfind_none w h bo bt H hH k1 p1 q1 s1 r1 hr ho
  | some x =>
    rw [findP_some ho]
    by_cases hk : x.kind = k1
    · rw [if_pos hk]; exact phfind_hit w h bo bt H hH k1 p1 q1 s1 r1 hr x ho hk
    · rw [if_neg hk]; exact phfind_miss w h bo bt H hH k1 p1 q1 s1 r1 hr x ho hk
set_option maxRecDepth 100000 in
set_option maxHeartbeats 2000000 in
theorem ptab_c (w : World) (h bo bt : Nat) (H : List PO) (hH : HpAt w h bo bt H) (k1 p1 q1 : Int) (s1 : ByteArray) (r1 : Int) (hr : i64 r1) : Calls Tryz.prog 36 #[.pointer (some ⟨h, 0, none⟩), .agg #[.int .i64 k1, .int .i64 p1, .int .i64 q1, .string s1, .int .i64 r1]] w (PtrPost w (tabO (findP H ⟨k1, p1, q1, s1, r1⟩))) := by
  have hfi := fun W (hb : Below w.heap.size w W) => phfind_c W h bo bt H (hH.below hb) k1 p1 q1 s1 r1 hr
  cases hf : findP H ⟨k1, p1, q1, s1, r1⟩ with
  | none =>
    rw [hf] at hfi
    have HFI := Lib.hid hfi
    clear hfi hH hf
    go_enter Tryz.func36, Tryz.ntmps36
    go_wp2_with fail
    refine (HFI.out _ (below1 _ _)).mono ?_
    rintro e w1 ⟨rfl, hb⟩
    have HW1 := Lib.hid (below_next (below1 _ _) hb)
    clear hb
    dsimp only [ptrO]
    go_wp2
    go_ret
    exact ⟨rfl, HW1.out⟩
  | some x =>
    rw [hf] at hfi
    obtain ⟨i, hi, hk, hri, hxm⟩ := find_at hf
    have hx := (hH.one x hxm).ho
    have HX := Lib.hid hx
    have HFI := Lib.hid hfi
    clear hfi hH hf hi hk hri hxm hx
    go_enter Tryz.func36, Tryz.ntmps36
    go_wp2_with fail
    refine (HFI.out _ (below1 _ _)).mono ?_
    rintro e w1 ⟨rfl, hb⟩
    have HW1 := Lib.hid (below_next (below1 _ _) hb)
    have x3 : w1.cell? ⟨x.o, 3, none⟩ = some x.tabv := by rw [cell_of_heap (hkeep HW1.out HX.out)]; rfl
    clear hb
    dsimp only [ptrO]
    go_wp2
    go_ret
    exact ⟨rfl, HW1.out⟩
theorem pmissing_c (w : World) (h : Nat) : Calls Tryz.prog 37 #[.pointer (some ⟨h, 0, none⟩)] w (fun e w' => e = .returned (.int .i64 8) ∧ w' = w) := by
  go_enter Tryz.func37, Tryz.ntmps37
  go_wp2
  go_ret
  exact ⟨rfl, rfl⟩
set_option maxRecDepth 100000 in
set_option maxHeartbeats 2000000 in
theorem pGetK_none (w : World) (h : Nat) (k1 p1 q1 : Int) (s1 : ByteArray) (r1 : Int) (kk pp qq : Int) (ss : ByteArray) (rr : Int) (T : ∀ W, Below w.heap.size w W → Calls Tryz.prog 36 #[.pointer (some ⟨h, 0, none⟩), .agg #[.int .i64 k1, .int .i64 p1, .int .i64 q1, .string s1, .int .i64 r1]] W (PtrPost W (.pointer none))) :
    Calls Tryz.prog 21 #[.pointer (some ⟨h, 0, none⟩), .agg #[.int .i64 k1, .int .i64 p1, .int .i64 q1, .string s1, .int .i64 r1], .agg #[.int .i64 kk, .int .i64 pp, .int .i64 qq, .string ss, .int .i64 rr]] w (VrPost w (.error 8)) := by
  have HT := Lib.hid T
  clear T
  go_enter Tryz.func21, Tryz.ntmps21
  go_wp2_with fail
  refine (HT.out _ ((below2w _ _ _).alloc (by simp; omega) _)).mono ?_
  rintro e w1 ⟨rfl, hb⟩
  have Hc1 := Lib.hid (hkeep hb (heap3_c _ _ _ _))
  have HW1 := Lib.hid (below_next (((below2w _ _ _).alloc (by simp; omega) _)) hb)
  have hz1 := hb.size
  try simp at hz1
  clear hb
  have hyc : w.heap.size + 1 + 1 < w1.heap.size := (Array.getElem?_eq_some_iff.1 Hc1.out).1
  have c0 : w1.cell? ⟨w.heap.size + 1 + 1, 0, none⟩ = some (.int .i64 0) := by rw [cell_of_heap Hc1.out]; rfl
  have fc0 : w1.frozen? ⟨w.heap.size + 1 + 1, 0, none⟩ = false := frozen_of_heap Hc1.out _
  have c1 : w1.cell? ⟨w.heap.size + 1 + 1, 1, none⟩ = some (.int .i64 0) := by rw [cell_of_heap Hc1.out]; rfl
  have fc1 : w1.frozen? ⟨w.heap.size + 1 + 1, 1, none⟩ = false := frozen_of_heap Hc1.out _
  have c2 : w1.cell? ⟨w.heap.size + 1 + 1, 2, none⟩ = some (.int .i64 0) := by rw [cell_of_heap Hc1.out]; rfl
  have fc2 : w1.frozen? ⟨w.heap.size + 1 + 1, 2, none⟩ = false := frozen_of_heap Hc1.out _
  have c3 : w1.cell? ⟨w.heap.size + 1 + 1, 3, none⟩ = some (.string ⟨#[]⟩) := by rw [cell_of_heap Hc1.out]; rfl
  have fc3 : w1.frozen? ⟨w.heap.size + 1 + 1, 3, none⟩ = false := frozen_of_heap Hc1.out _
  have c4 : w1.cell? ⟨w.heap.size + 1 + 1, 4, none⟩ = some (.int .i64 0) := by rw [cell_of_heap Hc1.out]; rfl
  have fc4 : w1.frozen? ⟨w.heap.size + 1 + 1, 4, none⟩ = false := frozen_of_heap Hc1.out _
  go_wp2_with fail
  refine (pmissing_c _ _).mono ?_
  rintro e w2 ⟨rfl, rfl⟩
  go_wp2
  refine bodyPost_ret (by simp [results, Tryz.results21, go_sem, hyc, c0, c1, c2, c3, c4]; first | done | rfl) rfl ?_
  exact vr_err (c := 8) rfl (below_five HW1.out (by omega) _ _ _ _ _)
set_option maxRecDepth 100000 in
set_option maxHeartbeats 2000000 in
theorem pGetK_some (w : World) (h t : Nat) (k1 p1 q1 : Int) (s1 : ByteArray) (r1 : Int) (kk pp qq : Int) (ss : ByteArray) (rr : Int) (R : V) (T : ∀ W, Below w.heap.size w W → Calls Tryz.prog 36 #[.pointer (some ⟨h, 0, none⟩), .agg #[.int .i64 k1, .int .i64 p1, .int .i64 q1, .string s1, .int .i64 r1]] W (PtrPost W (.pointer (some ⟨t, 0, none⟩))))
    (G : ∀ W, Below w.heap.size w W → Calls Tryz.prog 40 #[.pointer (some ⟨t, 0, none⟩), .agg #[.int .i64 kk, .int .i64 pp, .int .i64 qq, .string ss, .int .i64 rr]] W (ValPost W R)) :
    Calls Tryz.prog 21 #[.pointer (some ⟨h, 0, none⟩), .agg #[.int .i64 k1, .int .i64 p1, .int .i64 q1, .string s1, .int .i64 r1], .agg #[.int .i64 kk, .int .i64 pp, .int .i64 qq, .string ss, .int .i64 rr]] w (VrPost w (.ok R)) := by
  have HT := Lib.hid T
  have HG := Lib.hid G
  clear T G
  go_enter Tryz.func21, Tryz.ntmps21
  go_wp2_with fail
  refine (HT.out _ ((below2w _ _ _).alloc (by simp; omega) _)).mono ?_
  rintro e w1 ⟨rfl, hb⟩
  have Hb1 := Lib.hid (hkeep hb (heap3_b _ _ _ _))
  have Hc1 := Lib.hid (hkeep hb (heap3_c _ _ _ _))
  have HW1 := Lib.hid (below_next (((below2w _ _ _).alloc (by simp; omega) _)) hb)
  have hz1 := hb.size
  try simp at hz1
  clear hb
  have hyb : w.heap.size + 1 < w1.heap.size := (Array.getElem?_eq_some_iff.1 Hb1.out).1
  have b0 : w1.cell? ⟨w.heap.size + 1, 0, none⟩ = some (.int .i64 kk) := by rw [cell_of_heap Hb1.out]; rfl
  have b1 : w1.cell? ⟨w.heap.size + 1, 1, none⟩ = some (.int .i64 pp) := by rw [cell_of_heap Hb1.out]; rfl
  have b2 : w1.cell? ⟨w.heap.size + 1, 2, none⟩ = some (.int .i64 qq) := by rw [cell_of_heap Hb1.out]; rfl
  have b3 : w1.cell? ⟨w.heap.size + 1, 3, none⟩ = some (.string ss) := by rw [cell_of_heap Hb1.out]; rfl
  have b4 : w1.cell? ⟨w.heap.size + 1, 4, none⟩ = some (.int .i64 rr) := by rw [cell_of_heap Hb1.out]; rfl
  go_wp2_with fail
  refine (HG.out _ HW1.out).mono ?_
  rintro e w2 ⟨rfl, hb⟩
  have Hb2 := Lib.hid (hkeep hb (Hb1.out))
  have Hc2 := Lib.hid (hkeep hb (Hc1.out))
  have HW2 := Lib.hid (below_next (HW1.out) hb)
  have hz2 := hb.size
  try simp at hz2
  clear hb
  clear hyb b0 b1 b2 b3 b4
  have hyc : w.heap.size + 1 + 1 < w2.heap.size := (Array.getElem?_eq_some_iff.1 Hc2.out).1
  have c0 : w2.cell? ⟨w.heap.size + 1 + 1, 0, none⟩ = some (.int .i64 0) := by rw [cell_of_heap Hc2.out]; rfl
  have fc0 : w2.frozen? ⟨w.heap.size + 1 + 1, 0, none⟩ = false := frozen_of_heap Hc2.out _
  have c1 : w2.cell? ⟨w.heap.size + 1 + 1, 1, none⟩ = some (.int .i64 0) := by rw [cell_of_heap Hc2.out]; rfl
  have fc1 : w2.frozen? ⟨w.heap.size + 1 + 1, 1, none⟩ = false := frozen_of_heap Hc2.out _
  have c2 : w2.cell? ⟨w.heap.size + 1 + 1, 2, none⟩ = some (.int .i64 0) := by rw [cell_of_heap Hc2.out]; rfl
  have fc2 : w2.frozen? ⟨w.heap.size + 1 + 1, 2, none⟩ = false := frozen_of_heap Hc2.out _
  have c3 : w2.cell? ⟨w.heap.size + 1 + 1, 3, none⟩ = some (.string ⟨#[]⟩) := by rw [cell_of_heap Hc2.out]; rfl
  have fc3 : w2.frozen? ⟨w.heap.size + 1 + 1, 3, none⟩ = false := frozen_of_heap Hc2.out _
  have c4 : w2.cell? ⟨w.heap.size + 1 + 1, 4, none⟩ = some (.int .i64 0) := by rw [cell_of_heap Hc2.out]; rfl
  have fc4 : w2.frozen? ⟨w.heap.size + 1 + 1, 4, none⟩ = false := frozen_of_heap Hc2.out _
  go_wp2
  refine bodyPost_ret (by simp [results, Tryz.results21, go_sem, hyc, c0, c1, c2, c3, c4]; first | done | rfl) rfl ?_
  exact vr_ok (v := R) rfl rfl (below_five HW2.out (by omega) _ _ _ _ _)
theorem pGetK_c (w : World) (h bo bt : Nat) (H : List PO) (hH : HpAt w h bo bt H) (hS : Small 1000 H) (k1 p1 q1 : Int) (s1 : ByteArray) (r1 : Int) (hr : i64 r1) (kk pp qq : Int) (ss : ByteArray) (rr : Int) (hk : validV ⟨kk, pp, qq, ss, rr⟩ = true) (hkw : WfV ⟨kk, pp, qq, ss, rr⟩) : Calls Tryz.prog 21 #[.pointer (some ⟨h, 0, none⟩), .agg #[.int .i64 k1, .int .i64 p1, .int .i64 q1, .string s1, .int .i64 r1], .agg #[.int .i64 kk, .int .i64 pp, .int .i64 qq, .string ss, .int .i64 rr]] w (VrPost w (getP H ⟨k1, p1, q1, s1, r1⟩ ⟨kk, pp, qq, ss, rr⟩)) := by
  have htab := fun W (hb : Below w.heap.size w W) => ptab_c W h bo bt H (hH.below hb) k1 p1 q1 s1 r1 hr
  unfold getP
  cases hf : findP H ⟨k1, p1, q1, s1, r1⟩ with
  | none => rw [hf] at htab; exact pGetK_none w h k1 p1 q1 s1 r1 kk pp qq ss rr htab
  | some x =>
    rw [hf] at htab
    obtain ⟨i, hi, hk4, hri, hxm⟩ := find_at hf
    have htab : ∀ W, Below w.heap.size w W → Calls Tryz.prog 36 #[.pointer (some ⟨h, 0, none⟩), .agg #[.int .i64 k1, .int .i64 p1, .int .i64 q1, .string s1, .int .i64 r1]] W (PtrPost W x.tabv) := htab
    show Calls _ _ _ _ (VrPost w (if x.kind = 4 then .ok (tgetM x.A x.L ⟨kk, pp, qq, ss, rr⟩) else .error 8))
    unfold PO.tabv at htab
    by_cases h4 : x.kind = 4
    · rw [if_pos h4]
      rw [if_pos h4] at htab
      exact pGetK_some w h x.t k1 p1 q1 s1 r1 kk pp qq ss rr _ htab (fun W hb => twGet_c W x.t x.m x.g x.sv x.L x.av x.A (tabW_below ((hH.one x hxm).tb h4) hb) (by have := (hS x hxm).2; omega) (hS x hxm).1 kk pp qq ss rr hk hkw)
    · rw [if_neg h4]
      rw [if_neg h4] at htab
      exact pGetK_none w h k1 p1 q1 s1 r1 kk pp qq ss rr htab
set_option maxRecDepth 100000 in
set_option maxHeartbeats 2000000 in
theorem pLen_none (w : World) (h : Nat) (k1 p1 q1 : Int) (s1 : ByteArray) (r1 : Int) (T : ∀ W, Below w.heap.size w W → Calls Tryz.prog 36 #[.pointer (some ⟨h, 0, none⟩), .agg #[.int .i64 k1, .int .i64 p1, .int .i64 q1, .string s1, .int .i64 r1]] W (PtrPost W (.pointer none))) :
    Calls Tryz.prog 16 #[.pointer (some ⟨h, 0, none⟩), .agg #[.int .i64 k1, .int .i64 p1, .int .i64 q1, .string s1, .int .i64 r1]] w (PtrPost w (.tuple #[.int .i64 0, .int .i64 8])) := by
  have HT := Lib.hid T
  clear T
  go_enter Tryz.func16, Tryz.ntmps16
  go_wp2_with fail
  refine (HT.out _ (below1 _ _)).mono ?_
  rintro e w1 ⟨rfl, hb⟩
  have HW1 := Lib.hid (below_next (below1 _ _) hb)
  clear hb
  go_wp2_with fail
  refine (pmissing_c _ _).mono ?_
  rintro e w2 ⟨rfl, rfl⟩
  go_wp2
  refine bodyPost_ret (by simp [results, Tryz.results16, go_sem]; first | done | rfl) rfl ?_
  exact ⟨rfl, HW1.out⟩
set_option maxRecDepth 100000 in
set_option maxHeartbeats 2000000 in
theorem pLen_some (w : World) (h t m : Nat) (so : Option Addr) (n cap : Nat) (k1 p1 q1 : Int) (s1 : ByteArray) (r1 : Int) (ht : w.heap[t]? = some (.cells #[.slice so n cap, .pointer (some ⟨m, 0, none⟩)] 126)) (T : ∀ W, Below w.heap.size w W → Calls Tryz.prog 36 #[.pointer (some ⟨h, 0, none⟩), .agg #[.int .i64 k1, .int .i64 p1, .int .i64 q1, .string s1, .int .i64 r1]] W (PtrPost W (.pointer (some ⟨t, 0, none⟩)))) :
    Calls Tryz.prog 16 #[.pointer (some ⟨h, 0, none⟩), .agg #[.int .i64 k1, .int .i64 p1, .int .i64 q1, .string s1, .int .i64 r1]] w (PtrPost w (.tuple #[.int .i64 (n : Nat), .int .i64 0])) := by
  have HT := Lib.hid T
  have HX := Lib.hid ht
  clear T ht
  go_enter Tryz.func16, Tryz.ntmps16
  go_wp2_with fail
  refine (HT.out _ (below1 _ _)).mono ?_
  rintro e w1 ⟨rfl, hb⟩
  have HW1 := Lib.hid (below_next (below1 _ _) hb)
  clear hb
  go_wp2_with fail
  refine (twLen_c _ t m so n cap (hkeep HW1.out HX.out)).mono ?_
  rintro e w2 ⟨rfl, rfl⟩
  go_wp2
  refine bodyPost_ret (by simp [results, Tryz.results16, go_sem]; first | done | rfl) rfl ?_
  exact ⟨rfl, HW1.out⟩
theorem pLenK_c (w : World) (h bo bt : Nat) (H : List PO) (hH : HpAt w h bo bt H) (k1 p1 q1 : Int) (s1 : ByteArray) (r1 : Int) (hr : i64 r1) : Calls Tryz.prog 16 #[.pointer (some ⟨h, 0, none⟩), .agg #[.int .i64 k1, .int .i64 p1, .int .i64 q1, .string s1, .int .i64 r1]] w (PtrPost w (lenP H ⟨k1, p1, q1, s1, r1⟩)) := by
  have htab := fun W (hb : Below w.heap.size w W) => ptab_c W h bo bt H (hH.below hb) k1 p1 q1 s1 r1 hr
  unfold lenP
  cases hf : findP H ⟨k1, p1, q1, s1, r1⟩ with
  | none => rw [hf] at htab; exact pLen_none w h k1 p1 q1 s1 r1 htab
  | some x =>
    rw [hf] at htab
    obtain ⟨i, hi, hk, hri, hxm⟩ := find_at hf
    have htab : ∀ W, Below w.heap.size w W → Calls Tryz.prog 36 #[.pointer (some ⟨h, 0, none⟩), .agg #[.int .i64 k1, .int .i64 p1, .int .i64 q1, .string s1, .int .i64 r1]] W (PtrPost W x.tabv) := htab
    show Calls _ _ _ _ (PtrPost w (if x.kind = 4 then _ else _))
    unfold PO.tabv at htab
    by_cases h4 : x.kind = 4
    · rw [if_pos h4] at htab
      rw [if_pos h4]
      obtain ⟨so, cap, hav, _⟩ := listW_shape ((hH.one x hxm).tb h4).lw
      exact pLen_some w h x.t x.m so x.A.length cap k1 p1 q1 s1 r1 (by rw [← hav]; exact ((hH.one x hxm).tb h4).ht) htab
    · rw [if_neg h4] at htab
      rw [if_neg h4]
      exact pLen_none w h k1 p1 q1 s1 r1 htab
/-- Set of a heap, from what Set of the table does. -/
theorem pSetT_c {base n n' : Nat} {w : World} {h : Nat} {M : LH} {AA : List (List V)} {O : Nat → Prop} (hP : PHp base n w h M AA O) (hb : base ≤ w.heap.size) (hn : n ≤ n') {i : Nat} {o : LO} {A : List V} (hi : M[i]? = some o) (hA : AA[i]? = some A) (h4 : o.kind = 4) (k1 p1 q1 : Int) (s1 : ByteArray) (r1 : Int) (hk1 : k1 = 4) (hr1 : r1 = (i : Int) + 1) (hr : i64 r1) (kk pp qq : Int) (ss : ByteArray) (rr : Int) (hk : validV ⟨kk, pp, qq, ss, rr⟩ = true) (hk0 : kk ≠ 0) (k2 p2 q2 : Int) (s2 : ByteArray) (r2 : Int) (hv : validV ⟨k2, p2, q2, s2, r2⟩ = true) (L' : List Sl) (A' : List V) (hL' : L'.length ≤ n') (hA' : A'.length ≤ n')
    (S : ∀ W t m g sv av, TabW W t m g sv o.L av A → Calls Tryz.prog 46 #[.pointer (some ⟨t, 0, none⟩), .agg #[.int .i64 kk, .int .i64 pp, .int .i64 qq, .string ss, .int .i64 rr], .agg #[.int .i64 k2, .int .i64 p2, .int .i64 q2, .string s2, .int .i64 r2]] W (TWPost W t m g sv av L' A')) :
    Calls Tryz.prog 23 #[.pointer (some ⟨h, 0, none⟩), .agg #[.int .i64 k1, .int .i64 p1, .int .i64 q1, .string s1, .int .i64 r1], .agg #[.int .i64 kk, .int .i64 pp, .int .i64 qq, .string ss, .int .i64 rr], .agg #[.int .i64 k2, .int .i64 p2, .int .i64 q2, .string s2, .int .i64 r2]] w (SetTPost base n' w h M AA O i o L' A') := by
  obtain ⟨bo, bt, H, x, h1, h2, h2a, h3, h4a, h5, hix, hx4, hmt, hL, hAx, hf, _, _⟩ := php_at hP hi hA h4 (p1 := p1) (q1 := q1) (s1 := s1) hk1 hr1
  have T := fun W (hb : Below w.heap.size w W) => ptab_c W h bo bt H (h1.below hb) k1 p1 q1 s1 r1 hr
  have U := fun W H' (hH' : HpAt W h bo bt H') => pTouch_c W h bo bt H' hH' k1 p1 q1 s1 r1 hr
  have V := fun W => pvalidV_c W kk pp qq ss rr
  have E := fun W => pElem_c W k2 p2 q2 s2 r2
  rw [hf] at T
  rw [hk] at V
  rw [elem_valid hv] at E
  have T : ∀ W, Below w.heap.size w W → Calls Tryz.prog 36 #[.pointer (some ⟨h, 0, none⟩), .agg #[.int .i64 k1, .int .i64 p1, .int .i64 q1, .string s1, .int .i64 r1]] W (PtrPost W x.tabv) := T
  unfold PO.tabv at T
  rw [if_pos hx4] at T
  have hT := (h1.one x (List.mem_of_getElem? hix)).tb hx4
  rw [hL, hAx] at hT
  refine (pSet_ok w h bo bt H h1 i x hix hx4 L' A' k1 p1 q1 s1 r1 kk pp qq ss rr (beq_eq_false_iff_ne.2 hk0) k2 p2 q2 s2 r2 T V E (fun W hW => S W _ _ _ _ _ (tabW_below hT hW)) U).mono ?_
  rintro e w' ⟨he, m', g', sv', av', hH', hM', hown⟩
  obtain ⟨O', e1, e2⟩ := php_set h1 h3 h4a h5 hP.lt hb hn hix hx4 hL' hA' hH' hM' hown
  rw [h2, h2a, hmt] at e1
  exact ⟨he, O', e1, e2⟩
/-- Get of a packed heap at a table. -/
theorem pGetT_c {base n : Nat} {w : World} {h : Nat} {M : LH} {AA : List (List V)} {O : Nat → Prop} (hP : PHp base n w h M AA O) (hn : n ≤ 1000) {i : Nat} {o : LO} {A : List V} (hi : M[i]? = some o) (hA : AA[i]? = some A) (h4 : o.kind = 4) (k1 p1 q1 : Int) (s1 : ByteArray) (r1 : Int) (hk1 : k1 = 4) (hr1 : r1 = (i : Int) + 1) (hr : i64 r1) (kk pp qq : Int) (ss : ByteArray) (rr : Int) (hk : validV ⟨kk, pp, qq, ss, rr⟩ = true) (hkw : WfV ⟨kk, pp, qq, ss, rr⟩) :
    Calls Tryz.prog 21 #[.pointer (some ⟨h, 0, none⟩), .agg #[.int .i64 k1, .int .i64 p1, .int .i64 q1, .string s1, .int .i64 r1], .agg #[.int .i64 kk, .int .i64 pp, .int .i64 qq, .string ss, .int .i64 rr]] w (VrPost w (.ok (tgetM A o.L ⟨kk, pp, qq, ss, rr⟩))) := by
  obtain ⟨bo, bt, H, x, h1, h2, h2a, h3, h4a, h5, hix, hx4, hmt, hL, hAx, hf, _, _⟩ := php_at hP hi hA h4 (p1 := p1) (q1 := q1) (s1 := s1) hk1 hr1
  have := pGetK_c w h bo bt H h1 (fun y hy => ⟨Nat.le_trans (h3 y hy).1 hn, Nat.le_trans (h3 y hy).2 hn⟩) k1 p1 q1 s1 r1 hr kk pp qq ss rr hk hkw
  rwa [show getP H ⟨k1, p1, q1, s1, r1⟩ ⟨kk, pp, qq, ss, rr⟩ = .ok (tgetM A o.L ⟨kk, pp, qq, ss, rr⟩) from by unfold getP; rw [hf]; show (if x.kind = 4 then _ else _) = _; rw [if_pos hx4, hL, hAx]] at this
theorem pLenT_c {base n : Nat} {w : World} {h : Nat} {M : LH} {AA : List (List V)} {O : Nat → Prop} (hP : PHp base n w h M AA O) {i : Nat} {o : LO} {A : List V} (hi : M[i]? = some o) (hA : AA[i]? = some A) (h4 : o.kind = 4) (k1 p1 q1 : Int) (s1 : ByteArray) (r1 : Int) (hk1 : k1 = 4) (hr1 : r1 = (i : Int) + 1) (hr : i64 r1) :
    Calls Tryz.prog 16 #[.pointer (some ⟨h, 0, none⟩), .agg #[.int .i64 k1, .int .i64 p1, .int .i64 q1, .string s1, .int .i64 r1]] w (PtrPost w (.tuple #[.int .i64 (A.length : Nat), .int .i64 0])) := by
  obtain ⟨bo, bt, H, x, h1, h2, h2a, h3, h4a, h5, hix, hx4, hmt, hL, hAx, hf, _, _⟩ := php_at hP hi hA h4 (p1 := p1) (q1 := q1) (s1 := s1) hk1 hr1
  have := pLenK_c w h bo bt H h1 k1 p1 q1 s1 r1 hr
  rwa [show lenP H ⟨k1, p1, q1, s1, r1⟩ = .tuple #[.int .i64 (A.length : Nat), .int .i64 0] from by unfold lenP; rw [hf]; show (if x.kind = 4 then _ else _) = _; rw [if_pos hx4, hAx]] at this
theorem get_in {base n : Nat} {w : World} {h : Nat} {M : LH} {AA : List (List V)} {O : Nat → Prop} (hP : PHp base n w h M AA O) (hn : n ≤ 1000) {ti : Nat} (hti : ti ≤ 100000) {o : LO} {A : List V} (hM : M[ti]? = some o) (hA : AA[ti]? = some A) (h4 : o.kind = 4) {x : Nat} (hx : x < A.length) (hl : A.length ≤ 100000) {vk vp vq : Int} {vs : ByteArray} {vr : Int} (hv : A[x]? = some ⟨vk, vp, vq, vs, vr⟩) :
    Calls Tryz.prog 21 #[.pointer (some ⟨h, 0, none⟩), .agg #[.int .i64 4, .int .i64 0, .int .i64 0, .string ⟨#[]⟩, .int .i64 ((ti : Int) + 1)], .agg #[.int .i64 2, .int .i64 ((x : Int) + 1), .int .i64 1, .string ⟨#[]⟩, .int .i64 0]] w (fun e w' => e = .returned (.tuple #[.agg #[.int .i64 vk, .int .i64 vp, .int .i64 vq, .string vs, .int .i64 vr], .int .i64 0]) ∧ Below w.heap.size w w') := by
  have := pGetT_c hP hn hM hA h4 4 0 0 ⟨#[]⟩ ((ti : Int) + 1) rfl rfl ⟨by omega, by omega⟩ 2 ((x : Int) + 1) 1 ⟨#[]⟩ 0 (valid_num (by omega) (by omega)) (wf_num (by omega) (by omega))
  rw [tget_in hx hl hv] at this
  exact this
/-- Set behind the list, where the map has no numbers. -/
theorem set_push_c {base n : Nat} {w : World} {h : Nat} {M : LH} {AA : List (List V)} {O : Nat → Prop} (hP : PHp base n w h M AA O) (hb : base ≤ w.heap.size) (hn : n ≤ 999) {ti : Nat} (hti : ti ≤ 100000) {o : LO} {A : List V} (hM : M[ti]? = some o) (hA : AA[ti]? = some A) (h4 : o.kind = 4) (hcl : ∀ y ∈ o.L, y.k.k ≠ 2) (vk vp vq : Int) (vs : ByteArray) (vr : Int) (h0 : vk ≠ 0) (hv : validV ⟨vk, vp, vq, vs, vr⟩ = true) (hw : WfV ⟨vk, vp, vq, vs, vr⟩) :
    Calls Tryz.prog 23 #[.pointer (some ⟨h, 0, none⟩), .agg #[.int .i64 4, .int .i64 0, .int .i64 0, .string ⟨#[]⟩, .int .i64 ((ti : Int) + 1)], .agg #[.int .i64 2, .int .i64 ((A.length : Int) + 1), .int .i64 1, .string ⟨#[]⟩, .int .i64 0], .agg #[.int .i64 vk, .int .i64 vp, .int .i64 vq, .string vs, .int .i64 vr]] w (fun e w' => e = .returned (.int .i64 0) ∧ ∃ O', PHp base (n + 1) w' h M (AA.set ti (A ++ [⟨vk, vp, vq, vs, vr⟩])) O' ∧ QS base O w O' w') := by
  obtain ⟨bo, bt, H, y, _, _, _, _, _, _, _, _, _, _, _, _, hLn, hAn⟩ := php_at hP hM hA h4 (k1 := 4) (p1 := 0) (q1 := 0) (s1 := ⟨#[]⟩) rfl rfl
  refine (pSetT_c hP hb (Nat.le_succ n) hM hA h4 4 0 0 ⟨#[]⟩ ((ti : Int) + 1) rfl rfl ⟨by omega, by omega⟩ 2 ((A.length : Int) + 1) 1 ⟨#[]⟩ 0 (valid_num (by omega) (by omega)) (by decide) vk vp vq vs vr hv o.L (A ++ [⟨vk, vp, vq, vs, vr⟩]) (by omega) (by rw [List.length_append, List.length_singleton]; omega) (fun W t m g sv av hT => ?_)).mono ?_
  · refine (twSet_push W t m g sv o.L av A hT (by omega) (by omega) ((A.length : Int) + 1) rfl ⟨#[]⟩ 0 (valid_num (by omega) (by omega)) vk vp vq vs vr hv hw h0 (fun y hy e => hcl y hy (by rw [e])) ?_).mono (fun _ _ h => h.tw)
    exact get_absent (fun y hy e => hcl y hy (by rw [e]))
  · rintro e w' ⟨he, O', h1, h2⟩
    rw [set_same (show M[ti]? = some ⟨4, o.mt, o.L⟩ by rw [hM, ← h4])] at h1
    exact ⟨he, O', h1, h2⟩
/-- Set at a string. -/
theorem set_str_c {base n : Nat} {w : World} {h : Nat} {M : LH} {AA : List (List V)} {O : Nat → Prop} (hP : PHp base n w h M AA O) (hb : base ≤ w.heap.size) (hn : n ≤ 999) {ti : Nat} (hti : ti ≤ 100000) {o : LO} {A : List V} (hM : M[ti]? = some o) (hA : AA[ti]? = some A) (h4 : o.kind = 4) (s : ByteArray) (hs : s.size ≤ 4096) (vk vp vq : Int) (vs : ByteArray) (vr : Int) (hv : validV ⟨vk, vp, vq, vs, vr⟩ = true) (hw : WfV ⟨vk, vp, vq, vs, vr⟩) :
    Calls Tryz.prog 23 #[.pointer (some ⟨h, 0, none⟩), .agg #[.int .i64 4, .int .i64 0, .int .i64 0, .string ⟨#[]⟩, .int .i64 ((ti : Int) + 1)], .agg #[.int .i64 3, .int .i64 0, .int .i64 0, .string s, .int .i64 0], .agg #[.int .i64 vk, .int .i64 vp, .int .i64 vq, .string vs, .int .i64 vr]] w (fun e w' => e = .returned (.int .i64 0) ∧ ∃ O', PHp base (n + 1) w' h (M.set ti ⟨4, o.mt, setM o.L (strV s) ⟨vk, vp, vq, vs, vr⟩⟩) AA O' ∧ QS base O w O' w') := by
  obtain ⟨bo, bt, H, y, _, _, _, _, _, _, _, _, _, _, _, _, hLn, hAn⟩ := php_at hP hM hA h4 (k1 := 4) (p1 := 0) (q1 := 0) (s1 := ⟨#[]⟩) rfl rfl
  refine (pSetT_c hP hb (Nat.le_succ n) hM hA h4 4 0 0 ⟨#[]⟩ ((ti : Int) + 1) rfl rfl ⟨by omega, by omega⟩ 3 0 0 s 0 (valid_str hs) (by decide) vk vp vq vs vr hv (setM o.L (strV s) ⟨vk, vp, vq, vs, vr⟩) A (by have := setM_len o.L (strV s) ⟨vk, vp, vq, vs, vr⟩; omega) (by omega) (fun W t m g sv av hT => ?_)).mono ?_
  · exact twSet_out W t m g sv o.L av A hT (by omega) (by omega) 3 0 0 s 0 (valid_str hs) (wf_str hs) (by decide) vk vp vq vs vr hv hw (.inl rfl)
  · rintro e w' ⟨he, O', h1, h2⟩
    rw [set_same hA] at h1
    exact ⟨he, O', h1, h2⟩
set_option maxRecDepth 100000 in
set_option maxHeartbeats 2000000 in
theorem tTab1_c (w : World) (k p q : Int) (s : ByteArray) (r : Int) (hk : (k == 4) = true) : Calls Tryz.prog 85 #[.agg #[.int .i64 k, .int .i64 p, .int .i64 q, .string s, .int .i64 r]] w (BoolPost w true) := by
  go_enter Tryz.func85, Tryz.ntmps85
  go_wp2
  go_ret
  exact ⟨rfl, below1 _ _⟩
set_option maxRecDepth 100000 in
set_option maxHeartbeats 2000000 in
theorem tInt1_c (w : World) (p : Int) (s : ByteArray) (r : Int) (hv : validV ⟨2, p, 1, s, r⟩ = true) : Calls Tryz.prog 88 #[.agg #[.int .i64 2, .int .i64 p, .int .i64 1, .string s, .int .i64 r]] w (BoolPost w true) := by
  have HV := Lib.hid (fun W => (show Calls Tryz.prog 43 #[.agg #[.int .i64 2, .int .i64 p, .int .i64 1, .string s, .int .i64 r]] W (BoolPost W true) from by have h := pvalidV_c W 2 p 1 s r; rw [hv] at h; exact h))
  clear hv
  go_enter Tryz.func88, Tryz.ntmps88
  go_wp2_with fail
  refine (HV.out _).mono ?_
  rintro e w1 ⟨rfl, hb⟩
  have HW1 := Lib.hid (below_next (below1 _ _) hb)
  clear hb
  go_wp2
  go_ret
  exact ⟨rfl, HW1.out⟩
set_option maxRecDepth 100000 in
set_option maxHeartbeats 2000000 in
theorem tArg_table (w : World) (c h : Nat) (nm : ByteArray) (so : Option Addr) (n cap : Nat) (A : List V) (HC : w.heap[c]? = some (oCt h nm (.slice so n cap))) (hA : Vals w (.slice so n cap) A) (hl : A.length ≤ 1000) (i : Nat) (j : Int) (hj : j = i) (what : ByteArray) (k p q : Int) (s : ByteArray) (r : Int) (hv : A[i]? = some ⟨k, p, q, s, r⟩) (h0 : k ≠ 0) (oth : Value)
    (HF : ∀ W, Below w.heap.size w W → Calls Tryz.prog 85 #[.agg #[.int .i64 k, .int .i64 p, .int .i64 q, .string s, .int .i64 r]] W (BoolPost W true)) :
    Calls Tryz.prog 51 #[.pointer (some ⟨c, 0, none⟩), .int .i64 j, .string what, .func (.func 85) #[] #[], oth] w (ValPost w ⟨k, p, q, s, r⟩) := by
  have HP := Lib.hid (fun W (hb : Below w.heap.size w W) => pArg_at W so n cap A (Vals.below hA hb) j i hj _ hv hl)
  have HFF := Lib.hid (HF)
  have hc : c < w.heap.size := (Array.getElem?_eq_some_iff.1 HC).1
  have c2 : (w.alloc (oV 0 0 0 ⟨#[]⟩ 0)).cell? ⟨c, 2, none⟩ = some (.slice so n cap) := by rw [cell_of_heap (heap1_old HC _)]; rfl
  have q0 : (k == 0) = false := beq_eq_false_iff_ne.2 h0
  clear HC hA hv HF hj
  go_enter Tryz.func51, Tryz.ntmps51
  go_wp2_with fail
  refine (HP.out _ (below1 _ _)).mono ?_
  rintro e w1 ⟨rfl, hb⟩
  have Ha1 := Lib.hid (hkeep hb (heap1 w (oV 0 0 0 ⟨#[]⟩ 0)))
  have HW1 := Lib.hid (below_next (below1 _ _) hb)
  have hz1 := hb.size
  try simp at hz1
  clear hb c2
  obtain ⟨W2, hW2⟩ : ∃ W2, W2 = w1.alloc (oV k p q s r) := ⟨_, rfl⟩
  have HE := Lib.hid (hW2)
  go_wp2_with fail
  refine (HFF.out _ (HW1.out.alloc HW1.out.size (oV k p q s r))).mono ?_
  rintro e w2 ⟨rfl, hb⟩
  have Ha2 := Lib.hid (hkeep hb (heap1_old Ha1.out _))
  have Hv2 := Lib.hid (hkeep hb (heap1 w1 (oV k p q s r)))
  have HW2 := Lib.hid (below_next (HW1.out.alloc HW1.out.size (oV k p q s r)) hb)
  clear hb hW2
  have hya : w.heap.size < w2.heap.size := (Array.getElem?_eq_some_iff.1 Ha2.out).1
  have hyv : w1.heap.size < w2.heap.size := (Array.getElem?_eq_some_iff.1 Hv2.out).1
  obtain ⟨a0, a1, a2, a3, a4⟩ := cells5 Ha2.out
  obtain ⟨fa0, fa1, fa2, fa3, fa4⟩ := froz5 Ha2.out
  obtain ⟨v0, v1, v2, v3, v4⟩ := cells5 Hv2.out
  obtain ⟨fv0, fv1, fv2, fv3, fv4⟩ := froz5 Hv2.out
  go_wp2
  refine bodyPost_ret (by simp [results, Tryz.results51, go_sem, hya, hyv, a0, a1, a2, a3, a4, v0, v1, v2, v3, v4]; first | done | rfl) rfl ?_
  exact val_done rfl (below_five HW2.out (Nat.le_refl _) _ _ _ _ _)
set_option maxRecDepth 100000 in
set_option maxHeartbeats 2000000 in
theorem tArg_integer (w : World) (c h : Nat) (nm : ByteArray) (so : Option Addr) (n cap : Nat) (A : List V) (HC : w.heap[c]? = some (oCt h nm (.slice so n cap))) (hA : Vals w (.slice so n cap) A) (hl : A.length ≤ 1000) (i : Nat) (j : Int) (hj : j = i) (what : ByteArray) (k p q : Int) (s : ByteArray) (r : Int) (hv : A[i]? = some ⟨k, p, q, s, r⟩) (h0 : k ≠ 0) (oth : Value)
    (HF : ∀ W, Below w.heap.size w W → Calls Tryz.prog 88 #[.agg #[.int .i64 k, .int .i64 p, .int .i64 q, .string s, .int .i64 r]] W (BoolPost W true)) :
    Calls Tryz.prog 51 #[.pointer (some ⟨c, 0, none⟩), .int .i64 j, .string what, .func (.func 88) #[] #[], oth] w (ValPost w ⟨k, p, q, s, r⟩) := by
  have HP := Lib.hid (fun W (hb : Below w.heap.size w W) => pArg_at W so n cap A (Vals.below hA hb) j i hj _ hv hl)
  have HFF := Lib.hid (HF)
  have hc : c < w.heap.size := (Array.getElem?_eq_some_iff.1 HC).1
  have c2 : (w.alloc (oV 0 0 0 ⟨#[]⟩ 0)).cell? ⟨c, 2, none⟩ = some (.slice so n cap) := by rw [cell_of_heap (heap1_old HC _)]; rfl
  have q0 : (k == 0) = false := beq_eq_false_iff_ne.2 h0
  clear HC hA hv HF hj
  go_enter Tryz.func51, Tryz.ntmps51
  go_wp2_with fail
  refine (HP.out _ (below1 _ _)).mono ?_
  rintro e w1 ⟨rfl, hb⟩
  have Ha1 := Lib.hid (hkeep hb (heap1 w (oV 0 0 0 ⟨#[]⟩ 0)))
  have HW1 := Lib.hid (below_next (below1 _ _) hb)
  have hz1 := hb.size
  try simp at hz1
  clear hb c2
  obtain ⟨W2, hW2⟩ : ∃ W2, W2 = w1.alloc (oV k p q s r) := ⟨_, rfl⟩
  have HE := Lib.hid (hW2)
  go_wp2_with fail
  refine (HFF.out _ (HW1.out.alloc HW1.out.size (oV k p q s r))).mono ?_
  rintro e w2 ⟨rfl, hb⟩
  have Ha2 := Lib.hid (hkeep hb (heap1_old Ha1.out _))
  have Hv2 := Lib.hid (hkeep hb (heap1 w1 (oV k p q s r)))
  have HW2 := Lib.hid (below_next (HW1.out.alloc HW1.out.size (oV k p q s r)) hb)
  clear hb hW2
  have hya : w.heap.size < w2.heap.size := (Array.getElem?_eq_some_iff.1 Ha2.out).1
  have hyv : w1.heap.size < w2.heap.size := (Array.getElem?_eq_some_iff.1 Hv2.out).1
  obtain ⟨a0, a1, a2, a3, a4⟩ := cells5 Ha2.out
  obtain ⟨fa0, fa1, fa2, fa3, fa4⟩ := froz5 Ha2.out
  obtain ⟨v0, v1, v2, v3, v4⟩ := cells5 Hv2.out
  obtain ⟨fv0, fv1, fv2, fv3, fv4⟩ := froz5 Hv2.out
  go_wp2
  refine bodyPost_ret (by simp [results, Tryz.results51, go_sem, hya, hyv, a0, a1, a2, a3, a4, v0, v1, v2, v3, v4]; first | done | rfl) rfl ?_
  exact val_done rfl (below_five HW2.out (Nat.le_refl _) _ _ _ _ _)
set_option maxRecDepth 100000 in
set_option maxHeartbeats 2000000 in
theorem tArg_concat (w : World) (c h : Nat) (nm : ByteArray) (so : Option Addr) (n cap : Nat) (A : List V) (HC : w.heap[c]? = some (oCt h nm (.slice so n cap))) (hA : Vals w (.slice so n cap) A) (hl : A.length ≤ 1000) (i : Nat) (j : Int) (hj : j = i) (what : ByteArray) (k p q : Int) (s : ByteArray) (r : Int) (hv : A[i]? = some ⟨k, p, q, s, r⟩) (h0 : k ≠ 0) (oth : Value)
    (HF : ∀ W, Below w.heap.size w W → Calls Tryz.prog 49 #[.agg #[.int .i64 k, .int .i64 p, .int .i64 q, .string s, .int .i64 r]] W (BoolPost W true)) :
    Calls Tryz.prog 51 #[.pointer (some ⟨c, 0, none⟩), .int .i64 j, .string what, .func (.func 49) #[] #[], oth] w (ValPost w ⟨k, p, q, s, r⟩) := by
  have HP := Lib.hid (fun W (hb : Below w.heap.size w W) => pArg_at W so n cap A (Vals.below hA hb) j i hj _ hv hl)
  have HFF := Lib.hid (HF)
  have hc : c < w.heap.size := (Array.getElem?_eq_some_iff.1 HC).1
  have c2 : (w.alloc (oV 0 0 0 ⟨#[]⟩ 0)).cell? ⟨c, 2, none⟩ = some (.slice so n cap) := by rw [cell_of_heap (heap1_old HC _)]; rfl
  have q0 : (k == 0) = false := beq_eq_false_iff_ne.2 h0
  clear HC hA hv HF hj
  go_enter Tryz.func51, Tryz.ntmps51
  go_wp2_with fail
  refine (HP.out _ (below1 _ _)).mono ?_
  rintro e w1 ⟨rfl, hb⟩
  have Ha1 := Lib.hid (hkeep hb (heap1 w (oV 0 0 0 ⟨#[]⟩ 0)))
  have HW1 := Lib.hid (below_next (below1 _ _) hb)
  have hz1 := hb.size
  try simp at hz1
  clear hb c2
  obtain ⟨W2, hW2⟩ : ∃ W2, W2 = w1.alloc (oV k p q s r) := ⟨_, rfl⟩
  have HE := Lib.hid (hW2)
  go_wp2_with fail
  refine (HFF.out _ (HW1.out.alloc HW1.out.size (oV k p q s r))).mono ?_
  rintro e w2 ⟨rfl, hb⟩
  have Ha2 := Lib.hid (hkeep hb (heap1_old Ha1.out _))
  have Hv2 := Lib.hid (hkeep hb (heap1 w1 (oV k p q s r)))
  have HW2 := Lib.hid (below_next (HW1.out.alloc HW1.out.size (oV k p q s r)) hb)
  clear hb hW2
  have hya : w.heap.size < w2.heap.size := (Array.getElem?_eq_some_iff.1 Ha2.out).1
  have hyv : w1.heap.size < w2.heap.size := (Array.getElem?_eq_some_iff.1 Hv2.out).1
  obtain ⟨a0, a1, a2, a3, a4⟩ := cells5 Ha2.out
  obtain ⟨fa0, fa1, fa2, fa3, fa4⟩ := froz5 Ha2.out
  obtain ⟨v0, v1, v2, v3, v4⟩ := cells5 Hv2.out
  obtain ⟨fv0, fv1, fv2, fv3, fv4⟩ := froz5 Hv2.out
  go_wp2
  refine bodyPost_ret (by simp [results, Tryz.results51, go_sem, hya, hyv, a0, a1, a2, a3, a4, v0, v1, v2, v3, v4]; first | done | rfl) rfl ?_
  exact val_done rfl (below_five HW2.out (Nat.le_refl _) _ _ _ _ _)
set_option maxRecDepth 100000 in
set_option maxHeartbeats 2000000 in
theorem tArg_def (w : World) (c h : Nat) (nm : ByteArray) (so : Option Addr) (n cap : Nat) (HC : w.heap[c]? = some (oCt h nm (.slice so n cap))) (j : Int) (hj : (n : Int) ≤ j) (what : ByteArray) (fn : FuncId) (g n2 c2 : Nat) (k p q : Int) (s : ByteArray) (r : Int) (hg : w.heap[g]? = some (oV k p q s r)) (hn2 : 1 ≤ n2) :
    Calls Tryz.prog 51 #[.pointer (some ⟨c, 0, none⟩), .int .i64 j, .string what, .func (.func fn) #[] #[], .slice (some ⟨g, 0, none⟩) n2 c2] w (ValPost w ⟨k, p, q, s, r⟩) := by
  have HP := Lib.hid (fun W => pArg_out W so n cap j hj)
  have HG := Lib.hid (hg)
  have hgl := (Array.getElem?_eq_some_iff.1 hg).1
  have hc : c < w.heap.size := (Array.getElem?_eq_some_iff.1 HC).1
  have c2 : (w.alloc (oV 0 0 0 ⟨#[]⟩ 0)).cell? ⟨c, 2, none⟩ = some (.slice so n cap) := by rw [cell_of_heap (heap1_old HC _)]; rfl
  have d2 : decide ((n2 : Int) > 0) = true := decide_eq_true (by omega)
  clear HC hj hg
  go_enter Tryz.func51, Tryz.ntmps51
  go_wp2_with fail
  refine (HP.out _).mono ?_
  rintro e w1 ⟨rfl, hb⟩
  have Ha1 := Lib.hid (hkeep hb (heap1 w (oV 0 0 0 ⟨#[]⟩ 0)))
  have Hg1 := Lib.hid (hkeep hb (heap1_old HG.out _))
  have HW1 := Lib.hid (below_next (below1 _ _) hb)
  have hz1 := hb.size
  try simp at hz1
  clear hb c2
  obtain ⟨W2, hW2⟩ : ∃ W2, W2 = w1.alloc (oV 0 0 0 ⟨#[]⟩ 0) := ⟨_, rfl⟩
  have Ha2 := Lib.hid ((show W2.heap[w.heap.size]? = some (oV 0 0 0 ⟨#[]⟩ 0) by rw [hW2]; exact heap1_old Ha1.out _))
  have Hv2 := Lib.hid ((show W2.heap[w1.heap.size]? = some (oV 0 0 0 ⟨#[]⟩ 0) by rw [hW2]; exact heap1 _ _))
  have Hg2 := Lib.hid ((show W2.heap[g]? = some (oV k p q s r) by rw [hW2]; exact heap1_old Hg1.out _))
  have HW2 := Lib.hid ((show Below w.heap.size w W2 by rw [hW2]; exact HW1.out.alloc HW1.out.size _))
  have hya : w.heap.size < W2.heap.size := (Array.getElem?_eq_some_iff.1 Ha2.out).1
  have hyv : w1.heap.size < W2.heap.size := (Array.getElem?_eq_some_iff.1 Hv2.out).1
  obtain ⟨a0, a1, a2, a3, a4⟩ := cells5 Ha2.out
  obtain ⟨fa0, fa1, fa2, fa3, fa4⟩ := froz5 Ha2.out
  obtain ⟨v0, v1, v2, v3, v4⟩ := cells5 Hv2.out
  obtain ⟨fv0, fv1, fv2, fv3, fv4⟩ := froz5 Hv2.out
  obtain ⟨g0, g1, g2, g3, g4⟩ := cells5 Hg2.out
  obtain ⟨fg0, fg1, fg2, fg3, fg4⟩ := froz5 Hg2.out
  go_upto_region 2 with fail
  try rw [show w1.alloc (oV 0 0 0 ⟨#[]⟩ 0) = W2 from hW2.symm]
  clear hW2
  go_wp2
  refine bodyPost_ret (by simp [results, Tryz.results51, go_sem, hya, hyv, a0, a1, a2, a3, a4, v0, v1, v2, v3, v4, g0, g1, g2, g3, g4]; first | done | rfl) rfl ?_
  exact val_done rfl (below_five HW2.out (Nat.le_refl _) _ _ _ _ _)
set_option maxRecDepth 100000 in
set_option maxHeartbeats 2000000 in
theorem tTable_c (w : World) (c h : Nat) (nm : ByteArray) (so : Option Addr) (n cap : Nat) (A : List V) (HC : w.heap[c]? = some (oCt h nm (.slice so n cap))) (hA : Vals w (.slice so n cap) A) (hl : A.length ≤ 1000) (i : Nat) (j : Int) (hj : j = i) (p q : Int) (s : ByteArray) (r : Int) (hv : A[i]? = some ⟨4, p, q, s, r⟩) (so2 : Option Addr) (n2 c2 : Nat) :
    Calls Tryz.prog 48 #[.pointer (some ⟨c, 0, none⟩), .int .i64 j, .slice so2 n2 c2] w (ValPost w ⟨4, p, q, s, r⟩) := by
  have HX := Lib.hid (fun W (hb : Below w.heap.size w W) => tArg_table W c h nm so n cap A (hkeep hb HC) (Vals.below hA hb) hl i j hj ⟨#[116, 97, 98, 108, 101]⟩ 4 p q s r hv (by decide) (.slice so2 n2 c2) (fun W' _ => tTab1_c W' 4 p q s r rfl))
  clear HC hA hv hj
  go_enter Tryz.func48, Tryz.ntmps48
  go_wp2_with fail
  refine (HX.out _ (below1 _ _)).mono ?_
  rintro e w1 ⟨rfl, hb⟩
  have Ha1 := Lib.hid (hkeep hb (heap1 w (oV 0 0 0 ⟨#[]⟩ 0)))
  have HW1 := Lib.hid (below_next (below1 _ _) hb)
  clear hb
  have hya : w.heap.size < w1.heap.size := (Array.getElem?_eq_some_iff.1 Ha1.out).1
  obtain ⟨a0, a1, a2, a3, a4⟩ := cells5 Ha1.out
  obtain ⟨fa0, fa1, fa2, fa3, fa4⟩ := froz5 Ha1.out
  go_wp2
  refine bodyPost_ret (by simp [results, Tryz.results48, go_sem, hya, a0, a1, a2, a3, a4]; first | done | rfl) rfl ?_
  exact val_done rfl (below_five HW1.out (Nat.le_refl _) _ _ _ _ _)
set_option maxRecDepth 100000 in
set_option maxHeartbeats 2000000 in
theorem tInt_of (w : World) (c : Nat) (j : Int) (so2 : Option Addr) (n2 c2 : Nat) (k p q : Int) (s : ByteArray) (r : Int) 
    (HA : ∀ W, Below w.heap.size w W → Calls Tryz.prog 51 #[.pointer (some ⟨c, 0, none⟩), .int .i64 j, .string ⟨#[105, 110, 116, 101, 103, 101, 114]⟩, .func (.func 88) #[] #[], .slice so2 n2 c2] W (ValPost W ⟨k, p, q, s, r⟩)) :
    Calls Tryz.prog 53 #[.pointer (some ⟨c, 0, none⟩), .int .i64 j, .slice so2 n2 c2] w (IntPost w p) := by
  have HX := Lib.hid (HA)
  clear HA
  go_enter Tryz.func53, Tryz.ntmps53
  go_wp2_with fail
  refine (HX.out _ (Below.refl _ _)).mono ?_
  rintro e w1 ⟨rfl, hb⟩
  have HW1 := Lib.hid (hb)
  clear hb
  go_wp2
  go_ret
  exact ⟨rfl, HW1.out.alloc HW1.out.size _⟩
theorem tInt_ok (w : World) (c h : Nat) (nm : ByteArray) (so : Option Addr) (n cap : Nat) (A : List V) (HC : w.heap[c]? = some (oCt h nm (.slice so n cap))) (hA : Vals w (.slice so n cap) A) (hl : A.length ≤ 1000) (i : Nat) (j : Int) (hj : j = i) (p : Int) (s : ByteArray) (r : Int) (hv : A[i]? = some ⟨2, p, 1, s, r⟩) (hval : validV ⟨2, p, 1, s, r⟩ = true) (so2 : Option Addr) (n2 c2 : Nat) :
    Calls Tryz.prog 53 #[.pointer (some ⟨c, 0, none⟩), .int .i64 j, .slice so2 n2 c2] w (IntPost w p) :=
  tInt_of w c j so2 n2 c2 2 p 1 s r (fun W hb => tArg_integer W c h nm so n cap A (hkeep hb HC) (Vals.below hA hb) hl i j hj _ 2 p 1 s r hv (by decide) _ (fun W' _ => tInt1_c W' p s r hval))
theorem tInt_def (w : World) (c h : Nat) (nm : ByteArray) (so : Option Addr) (n cap : Nat) (HC : w.heap[c]? = some (oCt h nm (.slice so n cap))) (j : Int) (hj : (n : Int) ≤ j) (g n2 c2 : Nat) (k p q : Int) (s : ByteArray) (r : Int) (hg : w.heap[g]? = some (oV k p q s r)) (hn2 : 1 ≤ n2) :
    Calls Tryz.prog 53 #[.pointer (some ⟨c, 0, none⟩), .int .i64 j, .slice (some ⟨g, 0, none⟩) n2 c2] w (IntPost w p) :=
  tInt_of w c j (some ⟨g, 0, none⟩) n2 c2 k p q s r (fun W hb => tArg_def W c h nm so n cap (hkeep hb HC) j hj _ _ g n2 c2 k p q s r (hkeep hb hg) hn2)
set_option maxRecDepth 100000 in
set_option maxHeartbeats 2000000 in
theorem tLen_c (w : World) (c h : Nat) (nm : ByteArray) (av : Value) (HC : w.heap[c]? = some (oCt h nm av)) {base n : Nat} {M : LH} {AA : List (List V)} {O : Nat → Prop} (hP : PHp base n w h M AA O) {ti : Nat} (hti : ti ≤ 100000) {o : LO} {A : List V} (hM : M[ti]? = some o) (hA : AA[ti]? = some A) (h4 : o.kind = 4) :
    Calls Tryz.prog 55 #[.pointer (some ⟨c, 0, none⟩), .agg #[.int .i64 4, .int .i64 0, .int .i64 0, .string ⟨#[]⟩, .int .i64 ((ti : Int) + 1)]] w (IntPost w A.length) := by
  have HL := Lib.hid (fun W (hb : Below w.heap.size w W) => pLenT_c (hP.below hb) hM hA h4 4 0 0 ⟨#[]⟩ ((ti : Int) + 1) rfl rfl ⟨by omega, by omega⟩)
  have hc : c < w.heap.size := (Array.getElem?_eq_some_iff.1 HC).1
  have c0 : (w.alloc (oV 4 0 0 ⟨#[]⟩ ((ti : Int) + 1))).cell? ⟨c, 0, none⟩ = some (.pointer (some ⟨h, 0, none⟩)) := by rw [cell_of_heap (heap1_old HC _)]; rfl
  clear HC hP hM hA
  go_enter Tryz.func55, Tryz.ntmps55
  go_wp2
  refine wp_region_lex mixed (by kernel_rfl) ?_
  go_wp2_with fail
  refine (HL.out _ (below1 _ _).drew).mono ?_
  rintro e w1 ⟨rfl, hb⟩
  have HW1 := Lib.hid (below_next (below1 _ _).drew hb)
  clear hb
  go_wp2
  refine ⟨by kernel_rfl, ?_⟩
  go_wp2
  go_ret
  exact ⟨rfl, HW1.out⟩
set_option maxRecDepth 100000 in
set_option maxHeartbeats 2000000 in
theorem tEnd_c (w : World) (c h : Nat) (nm : ByteArray) (av : Value) (HC : w.heap[c]? = some (oCt h nm av)) (so : Option Addr) (n cap : Nat) (A : List V) (hA : Vals w (.slice so n cap) A) (hl : A.length ≤ 1000) :
    Calls Tryz.prog 60 #[.pointer (some ⟨c, 0, none⟩), .slice so n cap] w (RetPost w A) := by
  have HR := Lib.hid (fun W (hb : Below w.heap.size w W) => pReturn_c W so n cap A (Vals.below hA hb) hl)
  have hc : c < w.heap.size := (Array.getElem?_eq_some_iff.1 HC).1
  have c15 : (w.alloc oAc).cell? ⟨c, 15, none⟩ = some (.bool false) := by rw [cell_of_heap (heap1_old HC _)]; rfl
  clear hA HC
  go_enter Tryz.func60, Tryz.ntmps60
  go_wp2_with fail
  refine (HR.out _ (below1 _ _)).mono ?_
  rintro e w1 ⟨so1, cap1, rfl, hrow, hb⟩
  have HR1 := Lib.hid (hrow)
  have Ha1 := Lib.hid (hkeep hb (heap1 w oAc))
  have HW1 := Lib.hid (below_next (below1 _ _) hb)
  clear hb hrow
  have hya : w.heap.size < w1.heap.size := (Array.getElem?_eq_some_iff.1 Ha1.out).1
  obtain ⟨a0, a1, a2, a3, a4, a5, a6, a7, a8, a9, a10, a11⟩ := cells12 Ha1.out
  obtain ⟨fa0, fa1, fa2, fa3, fa4, fa5, fa6, fa7, fa8, fa9, fa10, fa11⟩ := froz12 Ha1.out
  go_wp2
  refine bodyPost_ret (by simp [results, Tryz.results60, go_sem, hya, a0, a1, a2, a3, a4, a5, a6, a7, a8, a9, a10, a11]; first | done | rfl) rfl ?_
  refine ⟨so1, cap1, rfl, ownsRow_base (row_twelve HR1.out (fun h => ?_) _ _ _ _ _ _ _ _ _ _ _ _) (by simp), below_twelve HW1.out (Nat.le_refl _) _ _ _ _ _ _ _ _ _ _ _ _⟩
  have := (ownBlock_lt HR1.out h).1
  simp at this
  omega
end Go.Proofs.YtpbcmlnjiocmoaaGreatDoorR
