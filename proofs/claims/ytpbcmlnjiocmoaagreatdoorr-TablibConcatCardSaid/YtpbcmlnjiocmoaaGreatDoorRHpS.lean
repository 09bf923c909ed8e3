import Derived.Test.YtpbcmlnjiocmoaaGreatDoorRHpW
import Derived.Test.YtpbcmlnjiocmoaaGreatDoorRLexBv2
set_option linter.unusedVariables false
set_option linter.unusedSimpArgs false
set_option maxRecDepth 100000
set_option maxHeartbeats 8000000
namespace Go.Proofs.YtpbcmlnjiocmoaaGreatDoorR
open Go.RowKit Go.Proofs.Lexi
set_option maxRecDepth 100000 in
set_option maxHeartbeats 8000000 in
theorem pSet_ok (w : World) (h bo bt : Nat) (H : List PO) (hH : HpAt w h bo bt H) (i : Nat) (x : PO) (hi : H[i]? = some x) (h4 : x.kind = 4) (L' : List Sl) (A' : List V) (k1 p1 q1 : Int) (s1 : ByteArray) (r1 : Int) (kk pp qq : Int) (ss : ByteArray) (rr : Int) (hk0 : (kk == 0) = false) (k2 p2 q2 : Int) (s2 : ByteArray) (r2 : Int) (T : ∀ W, Below w.heap.size w W → Calls Tryz.prog 36 #[.pointer (some ⟨h, 0, none⟩), .agg #[.int .i64 k1, .int .i64 p1, .int .i64 q1, .string s1, .int .i64 r1]] W (PtrPost W (.pointer (some ⟨x.t, 0, none⟩)))) (V : ∀ W, Calls Tryz.prog 43 #[.agg #[.int .i64 kk, .int .i64 pp, .int .i64 qq, .string ss, .int .i64 rr]] W (BoolPost W true)) (E : ∀ W, Calls Tryz.prog 44 #[.agg #[.int .i64 k2, .int .i64 p2, .int .i64 q2, .string s2, .int .i64 r2]] W (IntPost W 0))
    (S : ∀ W, Below w.heap.size w W → Calls Tryz.prog 46 #[.pointer (some ⟨x.t, 0, none⟩), .agg #[.int .i64 kk, .int .i64 pp, .int .i64 qq, .string ss, .int .i64 rr], .agg #[.int .i64 k2, .int .i64 p2, .int .i64 q2, .string s2, .int .i64 r2]] W (TWPost W x.t x.m x.g x.sv x.av L' A'))
    (U : ∀ W H', HpAt W h bo bt H' → Calls Tryz.prog 45 #[.pointer (some ⟨h, 0, none⟩), .agg #[.int .i64 k1, .int .i64 p1, .int .i64 q1, .string s1, .int .i64 r1], .int .i64 0] W (TouchPost W h bo bt H')) :
    Calls Tryz.prog 23 #[.pointer (some ⟨h, 0, none⟩), .agg #[.int .i64 k1, .int .i64 p1, .int .i64 q1, .string s1, .int .i64 r1], .agg #[.int .i64 kk, .int .i64 pp, .int .i64 qq, .string ss, .int .i64 rr], .agg #[.int .i64 k2, .int .i64 p2, .int .i64 q2, .string s2, .int .i64 r2]] w (HSetPost w h bo bt H i x L' A') := by
  have hbt : bt < w.heap.size := by obtain ⟨E, hE⟩ := hH.touched; exact hE.lt
  have HF := Lib.hid (fun b => hp_lt (b := b) hH)
  have hxm := List.mem_of_getElem? hi
  have HX := Lib.hid (fun b (hb : TwF x.t x.m x.g x.sv x.av b) => hp_lt hH (.inr (.inr (.inr ⟨x, hxm, .inr ⟨h4, hb⟩⟩))))
  have HXM := Lib.hid hxm
  have HHH := Lib.hid hH
  have HI := Lib.hid hi
  have H4 := Lib.hid h4
  have HT := Lib.hid T
  have HV := Lib.hid V
  have HE := Lib.hid E
  have HS := Lib.hid S
  have HU := Lib.hid U
  clear T V E S U hH hi h4 hxm
  go_enter Tryz.func23, Tryz.ntmps23
  go_wp2_with fail
  refine (HT.out _ ((below2w _ _ _).alloc (by simp; omega) _)).mono ?_
  rintro e w1 ⟨rfl, hb⟩
  have Ha1 := Lib.hid (hkeep hb (heap3_a _ _ _ _))
  have Hb1 := Lib.hid (hkeep hb (heap3_b _ _ _ _))
  have Hc1 := Lib.hid (hkeep hb (heap3_c _ _ _ _))
  have HW1 := Lib.hid (below_next (((below2w _ _ _).alloc (by simp; omega) _)) hb)
  have hz1 := hb.size
  try simp at hz1
  clear hb
  have hyb : w.heap.size + 1 < w1.heap.size := (Array.getElem?_eq_some_iff.1 Hb1.out).1
  have b0 : w1.cell? ⟨w.heap.size + 1, 0, none⟩ = some (.int .i64 kk) := by rw [cell_of_heap Hb1.out]; rfl
  have b1 : w1.cell? ⟨w.heap.size + 1, 1, none⟩ = some (.int .i64 pp) := by rw [cell_of_heap Hb1.out]; rfl
  have b2 : w1.cell? ⟨w.heap.size + 1, 2, none⟩ = some (.int .i64 qq) := by rw [cell_of_heap Hb1.out]; rfl
  have b3 : w1.cell? ⟨w.heap.size + 1, 3, none⟩ = some (.string ss) := by rw [cell_of_heap Hb1.out]; rfl
  have b4 : w1.cell? ⟨w.heap.size + 1, 4, none⟩ = some (.int .i64 rr) := by rw [cell_of_heap Hb1.out]; rfl
  have hyc : w.heap.size + 1 + 1 < w1.heap.size := (Array.getElem?_eq_some_iff.1 Hc1.out).1
  have c0 : w1.cell? ⟨w.heap.size + 1 + 1, 0, none⟩ = some (.int .i64 k2) := by rw [cell_of_heap Hc1.out]; rfl
  have c1 : w1.cell? ⟨w.heap.size + 1 + 1, 1, none⟩ = some (.int .i64 p2) := by rw [cell_of_heap Hc1.out]; rfl
  have c2 : w1.cell? ⟨w.heap.size + 1 + 1, 2, none⟩ = some (.int .i64 q2) := by rw [cell_of_heap Hc1.out]; rfl
  have c3 : w1.cell? ⟨w.heap.size + 1 + 1, 3, none⟩ = some (.string s2) := by rw [cell_of_heap Hc1.out]; rfl
  have c4 : w1.cell? ⟨w.heap.size + 1 + 1, 4, none⟩ = some (.int .i64 r2) := by rw [cell_of_heap Hc1.out]; rfl
  go_wp2_with fail
  refine (HV.out _).mono ?_
  rintro e w2 ⟨rfl, hb⟩
  have Ha2 := Lib.hid (hkeep hb (Ha1.out))
  have Hb2 := Lib.hid (hkeep hb (Hb1.out))
  have Hc2 := Lib.hid (hkeep hb (Hc1.out))
  have HW2 := Lib.hid (below_next (HW1.out) hb)
  have hz2 := hb.size
  try simp at hz2
  clear hb
  clear hyb b0 b1 b2 b3 b4 hyc c0 c1 c2 c3 c4
  have hyc : w.heap.size + 1 + 1 < w2.heap.size := (Array.getElem?_eq_some_iff.1 Hc2.out).1
  have c0 : w2.cell? ⟨w.heap.size + 1 + 1, 0, none⟩ = some (.int .i64 k2) := by rw [cell_of_heap Hc2.out]; rfl
  have c1 : w2.cell? ⟨w.heap.size + 1 + 1, 1, none⟩ = some (.int .i64 p2) := by rw [cell_of_heap Hc2.out]; rfl
  have c2 : w2.cell? ⟨w.heap.size + 1 + 1, 2, none⟩ = some (.int .i64 q2) := by rw [cell_of_heap Hc2.out]; rfl
  have c3 : w2.cell? ⟨w.heap.size + 1 + 1, 3, none⟩ = some (.string s2) := by rw [cell_of_heap Hc2.out]; rfl
  have c4 : w2.cell? ⟨w.heap.size + 1 + 1, 4, none⟩ = some (.int .i64 r2) := by rw [cell_of_heap Hc2.out]; rfl
  go_wp2_with fail
  refine (HE.out _).mono ?_
  rintro e w3 ⟨rfl, hb⟩
  have Ha3 := Lib.hid (hkeep hb (Ha2.out))
  have Hb3 := Lib.hid (hkeep hb (Hb2.out))
  have Hc3 := Lib.hid (hkeep hb (Hc2.out))
  have HW3 := Lib.hid (below_next (HW2.out) hb)
  have hz3 := hb.size
  try simp at hz3
  clear hb
  clear hyc c0 c1 c2 c3 c4
  have SO := Lib.hid (fun (W : World) (ha : W.heap[w.heap.size]? = some (oV k1 p1 q1 s1 r1)) (hb : W.heap[w.heap.size + 1]? = some (oV kk pp qq ss rr)) (hc : W.heap[w.heap.size + 1 + 1]? = some (oV k2 p2 q2 s2 r2)) => (show W.cell? ⟨w.heap.size, 0, none⟩ = some (.int .i64 k1) ∧ W.cell? ⟨w.heap.size, 1, none⟩ = some (.int .i64 p1) ∧ W.cell? ⟨w.heap.size, 2, none⟩ = some (.int .i64 q1) ∧ W.cell? ⟨w.heap.size, 3, none⟩ = some (.string s1) ∧ W.cell? ⟨w.heap.size, 4, none⟩ = some (.int .i64 r1) ∧ W.cell? ⟨w.heap.size + 1, 0, none⟩ = some (.int .i64 kk) ∧ W.cell? ⟨w.heap.size + 1, 1, none⟩ = some (.int .i64 pp) ∧ W.cell? ⟨w.heap.size + 1, 2, none⟩ = some (.int .i64 qq) ∧ W.cell? ⟨w.heap.size + 1, 3, none⟩ = some (.string ss) ∧ W.cell? ⟨w.heap.size + 1, 4, none⟩ = some (.int .i64 rr) ∧ W.cell? ⟨w.heap.size + 1 + 1, 0, none⟩ = some (.int .i64 k2) ∧ W.cell? ⟨w.heap.size + 1 + 1, 1, none⟩ = some (.int .i64 p2) ∧ W.cell? ⟨w.heap.size + 1 + 1, 2, none⟩ = some (.int .i64 q2) ∧ W.cell? ⟨w.heap.size + 1 + 1, 3, none⟩ = some (.string s2) ∧ W.cell? ⟨w.heap.size + 1 + 1, 4, none⟩ = some (.int .i64 r2) from ⟨by rw [cell_of_heap ha]; rfl, by rw [cell_of_heap ha]; rfl, by rw [cell_of_heap ha]; rfl, by rw [cell_of_heap ha]; rfl, by rw [cell_of_heap ha]; rfl, by rw [cell_of_heap hb]; rfl, by rw [cell_of_heap hb]; rfl, by rw [cell_of_heap hb]; rfl, by rw [cell_of_heap hb]; rfl, by rw [cell_of_heap hb]; rfl, by rw [cell_of_heap hc]; rfl, by rw [cell_of_heap hc]; rfl, by rw [cell_of_heap hc]; rfl, by rw [cell_of_heap hc]; rfl, by rw [cell_of_heap hc]; rfl⟩))
  go_wp2
  have xa : w3.drew.heap[w.heap.size]? = some (oV k1 p1 q1 s1 r1) := Ha3.out
  have xb : w3.drew.heap[w.heap.size + 1]? = some (oV kk pp qq ss rr) := Hb3.out
  have xc : w3.drew.heap[w.heap.size + 1 + 1]? = some (oV k2 p2 q2 s2 r2) := Hc3.out
  have hw3 : w.heap.size ≤ w3.heap.size := HW3.out.size
  go_region_held3 (fun w' => w'.cell? ⟨w.heap.size, 0, none⟩ = some (.int .i64 k1) ∧ w'.cell? ⟨w.heap.size, 1, none⟩ = some (.int .i64 p1) ∧ w'.cell? ⟨w.heap.size, 2, none⟩ = some (.int .i64 q1) ∧ w'.cell? ⟨w.heap.size, 3, none⟩ = some (.string s1) ∧ w'.cell? ⟨w.heap.size, 4, none⟩ = some (.int .i64 r1) ∧ w'.cell? ⟨w.heap.size + 1, 0, none⟩ = some (.int .i64 kk) ∧ w'.cell? ⟨w.heap.size + 1, 1, none⟩ = some (.int .i64 pp) ∧ w'.cell? ⟨w.heap.size + 1, 2, none⟩ = some (.int .i64 qq) ∧ w'.cell? ⟨w.heap.size + 1, 3, none⟩ = some (.string ss) ∧ w'.cell? ⟨w.heap.size + 1, 4, none⟩ = some (.int .i64 rr) ∧ w'.cell? ⟨w.heap.size + 1 + 1, 0, none⟩ = some (.int .i64 k2) ∧ w'.cell? ⟨w.heap.size + 1 + 1, 1, none⟩ = some (.int .i64 p2) ∧ w'.cell? ⟨w.heap.size + 1 + 1, 2, none⟩ = some (.int .i64 q2) ∧ w'.cell? ⟨w.heap.size + 1 + 1, 3, none⟩ = some (.string s2) ∧ w'.cell? ⟨w.heap.size + 1 + 1, 4, none⟩ = some (.int .i64 r2))
    (first | with_reducible exact SO.out _ (by assumption) (by assumption) (by assumption))
    (first | (go_at_call 46; refine (HS.out _ HW3.out.drew).mono ?_; rintro e w4 ⟨rfl, m', g', sv', av', hT4, hown4, hM4⟩; have xa4 := mods_keep hM4 xa (fun e => by have := HX.out _ e; omega); have xb4 := mods_keep hM4 xb (fun e => by have := HX.out _ e; omega); have xc4 := mods_keep hM4 xc (fun e => by have := HX.out _ e; omega); have HH4 := Lib.hid (((HHH.out.below HW3.out.drew).setTab HI.out H4.out hT4 hM4 hown4)); have HM4 := Lib.hid hM4; have HO4 := Lib.hid hown4; clear hT4 hM4 hown4 xa xb xc) | (go_at_call 45; refine (HU.out _ _ HH4.out).mono ?_; rintro e w5 ⟨rfl, hH5, hM5⟩; have xa5 := mods_keep hM5 xa4 (by omega); have xb5 := mods_keep hM5 xb4 (by omega); have xc5 := mods_keep hM5 xc4 (by omega); have HH5 := Lib.hid hH5; have HM5 := Lib.hid hM5; clear hH5 hM5 xa4 xb4 xc4))
  go_wp2
  go_ret
  have hb3 : Below w.heap.size w w3.drew := HW3.out.drew
  obtain ⟨q1, q2, q3, q4⟩ := HO4.out
  exact ⟨rfl, m', g', sv', av', HH5.out, ((Mods.of_below hb3).trans (HM4.out.mono (fun k _ e => .inr (.inr (.inr ⟨x, HXM.out, .inr ⟨H4.out, e⟩⟩))))).trans (HM5.out.mono (fun k _ e => .inr (.inr (.inl e)))), ⟨q1.imp id (Nat.le_trans hb3.size), q2.imp id (Nat.le_trans hb3.size), fun b hb => (q3 b hb).imp id (Nat.le_trans hb3.size), fun b hb => (q4 b hb).imp id (Nat.le_trans hb3.size)⟩⟩
set_option maxRecDepth 100000 in
set_option maxHeartbeats 2000000 in
theorem plist_c (w : World) (sv : Value) (A : List V) (hA : Vals w sv A) (hl : A.length ≤ 1000) : Calls Tryz.prog 95 #[sv] w (ListPost w A) := by
  obtain ⟨i5, hi5, hi5a, hi5b, hi5c⟩ := info_parts info25p
  obtain ⟨so, cap, rfl, hcap, hnone, hc⟩ := hA
  rcases so with _ | ad
  · have hnil : A = [] := by
      rcases hc with hc | ⟨g, o, h, _⟩
      · exact hc
      · cases h
    subst hnil
    obtain rfl := hnone rfl
    clear hcap hnone hc
    go_enter Tryz.func95, Tryz.ntmps95
    go_wp2_with (at_builtin; refine wpList_append_own_none rfl (.const (.slice none 0 0)) (.tmp 3) 26 rfl w.heap.size 30 i5 5 Tryz.underlying26 hi5 (.slice none 0 0) 0 [] rfl (World.ownsRow_nil w _ _ _) rfl ?_)
    go_wp2
    go_ret
    exact ⟨none, 0, rfl, World.ownsRow_nil w _ _ _, Below.refl _ _⟩
  · have hcell : ∀ j u, (rowV A)[j]? = some u → w.cell? (ad.add j) = some u := by
      intro j u hj
      rcases hc with rfl | ⟨g, o, h, _, hx⟩
      · simp [rowV] at hj
      · injection h with h
        subst h
        rw [add_none]
        exact hx j u hj
    clear hc hnone
    go_enter Tryz.func95, Tryz.ntmps95
    go_wp2_with (at_builtin; refine wpList_append_own_at _ rfl (.const (.slice none 0 0)) (.tmp 3) 26 rfl w.heap.size 30 i5 _ 5 48 Tryz.underlying26 hi5 hi5a hi5b hi5c rfl (by decide) (.slice none 0 0) 0 [] rfl (World.ownsRow_nil w _ _ _) ad A.length cap (rowV A) rfl (rowV_len A) hcell rowV_one ?D ?E (Nat.le_refl _) ?G)
    case D => unfold maxLen; omega
    case E => omega
    case G =>
      intro v' w' hown hgrow _ hat
      obtain ⟨so', cap', rfl⟩ := row_shape hown
      have HO := Lib.hid hown
      have HG := Lib.hid hgrow
      clear hown hgrow hat hcell hi5 hi5a hi5b hi5c
      go_wp2
      go_ret
      exact ⟨so', cap', rfl, HO.out, grown_below HG.out⟩
set_option maxRecDepth 100000 in
set_option maxHeartbeats 2000000 in
theorem pReturn_c (w : World) (so : Option Addr) (n cap : Nat) (A : List V) (hA : Vals w (.slice so n cap) A) (hl : A.length ≤ 1000) : Calls Tryz.prog 90 #[.slice so n cap] w (RetPost w A) := by
  have HL := Lib.hid (fun W (hb : Below w.heap.size w W) => plist_c W _ A (Vals.below hA hb) hl)
  clear hA
  go_enter Tryz.func90, Tryz.ntmps90
  go_wp2_with fail
  refine (HL.out _ (below1 _ _)).mono ?_
  rintro e w1 ⟨so1, cap1, rfl, hrow, hb⟩
  have HR1 := Lib.hid hrow
  have Ha1 := Lib.hid (hkeep hb (heap1 w oAc))
  have HW1 := Lib.hid (below_next (below1 _ _) hb)
  clear hb hrow
  have hya : w.heap.size < w1.heap.size := (Array.getElem?_eq_some_iff.1 Ha1.out).1
  obtain ⟨a0, a1, a2, a3, a4, a5, a6, a7, a8, a9, a10, a11⟩ := cells12 Ha1.out
  obtain ⟨f0, f1, f2, f3, f4, f5, f6, f7, f8, f9, f10, f11⟩ := froz12 Ha1.out
  go_wp2
  refine bodyPost_ret (by simp [results, Tryz.results90, go_sem, hya, a0, a1, a2, a3, a4, a5, a6, a7, a8, a9, a10, a11]; first | done | rfl) rfl ?_
  refine ⟨so1, cap1, rfl, ownsRow_base (row_twelve HR1.out (fun h => ?_) _ _ _ _ _ _ _ _ _ _ _ _) (by simp), below_twelve HW1.out (Nat.le_refl _) _ _ _ _ _ _ _ _ _ _ _ _⟩
  have := (ownBlock_lt HR1.out h).1
  simp at this
  omega
set_option maxRecDepth 100000 in
set_option maxHeartbeats 2000000 in
theorem pArg_in (w : World) (so : Option Addr) (n cap : Nat) (A : List V) (hA : Vals w (.slice so n cap) A) (i : Nat) (v : V) (hv : A[i]? = some v) (hl : A.length ≤ 1000) : Calls Tryz.prog 65 #[.slice so n cap, .int .i64 i] w (ValPost w v) := by
  have hi : i < A.length := (List.getElem?_eq_some_iff.1 hv).1
  have hsh := hA
  obtain ⟨so', cap', e, hc, _, hx⟩ := hsh
  injection e with e1 e2 e3
  subst e2
  rcases hx with rfl | ⟨g, o, rfl, hg, _⟩
  · simp at hi
  · subst e1
    obtain ⟨hg, b0, b1, b2, b3, b4⟩ := Vals.at_ hA hv
    have b0' : (w.alloc (oV 0 0 0 ⟨#[]⟩ 0)).cell? ⟨g, o + i * 5, none⟩ = some (.int .i64 v.k) := (cell_alloc_old hg).trans b0
    have b1' : (w.alloc (oV 0 0 0 ⟨#[]⟩ 0)).cell? ⟨g, o + i * 5 + 1, none⟩ = some (.int .i64 v.p) := (cell_alloc_old hg).trans b1
    have b2' : (w.alloc (oV 0 0 0 ⟨#[]⟩ 0)).cell? ⟨g, o + i * 5 + 2, none⟩ = some (.int .i64 v.q) := (cell_alloc_old hg).trans b2
    have b3' : (w.alloc (oV 0 0 0 ⟨#[]⟩ 0)).cell? ⟨g, o + i * 5 + 3, none⟩ = some (.string v.s) := (cell_alloc_old hg).trans b3
    have b4' : (w.alloc (oV 0 0 0 ⟨#[]⟩ 0)).cell? ⟨g, o + i * 5 + 4, none⟩ = some (.int .i64 v.r) := (cell_alloc_old hg).trans b4
    have h0 : ((i : Int) < 0) = False := eq_false (by omega)
    have d0 : decide ((i : Int) < 0) = false := decide_eq_false (by omega)
    have d1 : decide ((i : Int) ≥ (A.length : Int)) = false := decide_eq_false (by omega)
    have d2 : decide ((A.length : Int) ≤ (i : Int)) = false := decide_eq_false (by omega)
    clear hA hv
    go_enter Tryz.func65, Tryz.ntmps65
    go_wp2
    refine bodyPost_ret (by simp [results, Tryz.results65, go_sem]; first | done | rfl) rfl ?_
    exact val_done rfl (below1 _ _)
theorem pArg_at (w : World) (so : Option Addr) (n cap : Nat) (A : List V) (hA : Vals w (.slice so n cap) A) (j : Int) (i : Nat) (hj : j = i) (v : V) (hv : A[i]? = some v) (hl : A.length ≤ 1000) : Calls Tryz.prog 65 #[.slice so n cap, .int .i64 j] w (ValPost w v) := by
  subst hj
  exact pArg_in w so n cap A hA i v hv hl
set_option maxRecDepth 100000 in
set_option maxHeartbeats 2000000 in
theorem pFail_c (w : World) (k p q : Int) (s : ByteArray) (r level : Int) : Calls Tryz.prog 70 #[.agg #[.int .i64 k, .int .i64 p, .int .i64 q, .string s, .int .i64 r], .int .i64 level] w (FailPost w ⟨k, p, q, s, r⟩ level) := by
  have HL := Lib.hid (fun (W : World) (m : Nat) (hm : m = W.heap.size) => plist_c (W.alloc (.cells #[.int .i64 k, .int .i64 p, .int .i64 q, .string s, .int .i64 r] 30)) (.slice (some ⟨m, 0, none⟩) 1 1) [⟨k, p, q, s, r⟩] (by subst hm; exact vals_one W ⟨k, p, q, s, r⟩) (by simp))
  go_enter Tryz.func70, Tryz.ntmps70
  go_wp2_with fail
  refine (HL.out _ _ (by simp)).mono ?_
  rintro e w1 ⟨so1, cap1, rfl, hrow, hb⟩
  have HR1 := Lib.hid hrow
  have Ha1 := Lib.hid (hkeep hb (heap1_old (heap2_b w (oV k p q s r) oAc) _))
  have HW1 := Lib.hid (below_next ((below2w _ _ _).alloc (by simp; omega) _) hb)
  clear hb hrow
  have hya : w.heap.size + 1 < w1.heap.size := (Array.getElem?_eq_some_iff.1 Ha1.out).1
  obtain ⟨a0, a1, a2, a3, a4, a5, a6, a7, a8, a9, a10, a11⟩ := cells12 Ha1.out
  obtain ⟨f0, f1, f2, f3, f4, f5, f6, f7, f8, f9, f10, f11⟩ := froz12 Ha1.out
  go_wp2
  refine bodyPost_ret (by simp [results, Tryz.results70, go_sem, hya, a0, a1, a2, a3, a4, a5, a6, a7, a8, a9, a10, a11]; first | done | rfl) rfl ?_
  refine ⟨so1, cap1, rfl, ownsRow_base (row_twelve HR1.out (fun h => ?_) _ _ _ _ _ _ _ _ _ _ _ _) (by simp; omega), below_twelve HW1.out (by omega) _ _ _ _ _ _ _ _ _ _ _ _⟩
  have := (ownBlock_lt HR1.out h).1
  simp at this
  omega
set_option maxRecDepth 100000 in
set_option maxHeartbeats 2000000 in
theorem pError_c (w : World) (s : ByteArray) (hs : s.size ≤ 4096) : Calls Tryz.prog 32 #[.string s] w (FailPost w (strV s) 1) := by
  have HO := Lib.hid (fun W => show Calls Tryz.prog 52 #[.string s] W (fun e w' => e = .returned (.agg #[.int .i64 3, .int .i64 0, .int .i64 0, .string s, .int .i64 0]) ∧ Below W.heap.size W w') from pOfString_c W s)
  have hmin : min (s.size : Int) 4096 = s.size := by omega
  have hex : s.extract 0 s.size = s := by
    apply bytesOf_inj
    rw [bytesOf_extract]
    show (((bytesOf s).drop 0).take (s.size - 0)) = _
    rw [List.drop_zero, Nat.sub_zero, ← bytesOf_length, List.take_length]
  have hs2 : (s.size : Int) ≤ 4096 := by omega
  go_enter Tryz.func32, Tryz.ntmps32
  go_wp2_with fail
  refine (HO.out _).mono ?_
  rintro e w1 ⟨rfl, hb⟩
  have Ha1 := Lib.hid (hkeep hb (heap1 w oAc))
  have HW1 := Lib.hid (below_next (below1 _ _) hb)
  clear hb
  go_wp2_with fail
  refine (pFail_c _ 3 0 0 s 0 1).mono ?_
  rintro e w2 ⟨so2, cap2, rfl, hrow, hb⟩
  have HR2 := Lib.hid hrow
  have Ha2 := Lib.hid (hkeep hb Ha1.out)
  have HW2 := Lib.hid (below_next HW1.out hb)
  have hz1 := HW1.out.size
  have hlt1 := (Array.getElem?_eq_some_iff.1 Ha1.out).1
  clear hb hrow
  have hya : w.heap.size < w2.heap.size := (Array.getElem?_eq_some_iff.1 Ha2.out).1
  obtain ⟨a0, a1, a2, a3, a4, a5, a6, a7, a8, a9, a10, a11⟩ := cells12 Ha2.out
  obtain ⟨f0, f1, f2, f3, f4, f5, f6, f7, f8, f9, f10, f11⟩ := froz12 Ha2.out
  go_wp2
  refine bodyPost_ret (by simp [results, Tryz.results32, go_sem, hya, a0, a1, a2, a3, a4, a5, a6, a7, a8, a9, a10, a11]; first | done | rfl) rfl ?_
  refine ⟨so2, cap2, rfl, ownsRow_base (row_twelve HR2.out (fun h => ?_) _ _ _ _ _ _ _ _ _ _ _ _) (by omega), below_twelve HW2.out (Nat.le_refl _) _ _ _ _ _ _ _ _ _ _ _ _⟩
  have := (ownBlock_lt HR2.out h).1
  omega
end Go.Proofs.YtpbcmlnjiocmoaaGreatDoorR
