import Derived.Test.YtpbcmlnjiocmoaaGreatDoorRKxv2
import Derived.Test.YtpbcmlnjiocmoaaGreatDoorRKc
set_option linter.unusedVariables false
set_option linter.unusedSimpArgs false
set_option maxRecDepth 100000
set_option maxHeartbeats 40000000
namespace Go.Proofs.YtpbcmlnjiocmoaaGreatDoorR
open Go.RowKit Go.Proofs.Lexi
/-- Insert of a heap: a table of values that are not nil, without numbers in its map. -/
theorem insert_hc {w : World} {h : Nat} {base n : Nat} {M : LH} {AA : List (List V)} {O : Nat → Prop} (hP : PHp base n w h M AA O) (hb : base ≤ w.heap.size) (hn : n ≤ 900) {ti : Nat} (hti : ti ≤ 100000) {o : LO} {A : List V} (hM : M[ti]? = some o) (hA : AA[ti]? = some A) (h4 : o.kind = 4) (hcl : ∀ y ∈ o.L, y.k.k ≠ 2) (hA0 : ∀ v ∈ A, v.k ≠ 0) (x : Nat) (hx : x ≤ A.length) (k : Int) (hk : k = (x : Int) + 1) (vk vp vq : Int) (vs : ByteArray) (vr : Int) (h0 : vk ≠ 0) (hv : validV ⟨vk, vp, vq, vs, vr⟩ = true) (hw : WfV ⟨vk, vp, vq, vs, vr⟩) :
    Calls Tryz.prog 63 #[.pointer (some ⟨h, 0, none⟩), tabA ti, .int .i64 k, .agg #[.int .i64 vk, .int .i64 vp, .int .i64 vq, .string vs, .int .i64 vr]] w (fun e w' => e = .returned (.int .i64 0) ∧ ∃ O', PHp base (n + 1) w' h M (AA.set ti (insM A x ⟨vk, vp, vq, vs, vr⟩)) O' ∧ QS base O w O' w') := by
  obtain ⟨bo, bt, H, y, _, _, _, _, _, _, _, _, _, _, _, _, hLn, hAn⟩ := php_at hP hM hA h4 (k1 := 4) (p1 := 0) (q1 := 0) (s1 := ⟨#[]⟩) rfl rfl
  refine (pInsertT_c hP hb (Nat.le_succ n) hM hA h4 4 0 0 ⟨#[]⟩ ((ti : Int) + 1) rfl rfl ⟨by omega, by omega⟩ k vk vp vq vs vr hv (insM A x ⟨vk, vp, vq, vs, vr⟩) (by rw [ins_len A x _ hx]; omega) (fun W t m g sv av hT => ?_)).mono ?_
  · by_cases h1 : x = A.length
    · subst h1
      rw [ins_end]
      exact twInsert_push W t m g sv o.L av A hT (by omega) (by omega) k hk vk vp vq vs vr h0 hv hw hcl
    · obtain ⟨P, hP2⟩ : ∃ P, A.length = P + 1 := ⟨A.length - 1, by omega⟩
      by_cases h2 : x = P
      · subst h2
        exact twInsert_last W t m g sv o.L av A hT (by omega) (by omega) x hP2 k hk vk vp vq vs vr h0 hv hw hcl hA0
      · exact twInsert_in W t m g sv o.L av A hT (by omega) (by omega) x P hP2 (by omega) k hk vk vp vq vs vr h0 hv hw hcl hA0
  · rintro e w' ⟨he, O', h1, h2⟩
    rw [set_same (show M[ti]? = some ⟨4, o.mt, o.L⟩ by rw [hM, ← h4])] at h1
    exact ⟨he, O', h1, h2⟩
theorem remove_hc {w : World} {h : Nat} {base n : Nat} {M : LH} {AA : List (List V)} {O : Nat → Prop} (hP : PHp base n w h M AA O) (hb : base ≤ w.heap.size) (hn : n ≤ 900) {ti : Nat} (hti : ti ≤ 100000) {o : LO} {A : List V} (hM : M[ti]? = some o) (hA : AA[ti]? = some A) (h4 : o.kind = 4) (hA0 : ∀ v ∈ A, v.k ≠ 0) (x : Nat) (k : Int) (hk : k = (x : Int) + 1) {ek ep ej : Int} {es : ByteArray} {er : Int} (hev : A[x]? = some ⟨ek, ep, ej, es, er⟩) :
    Calls Tryz.prog 66 #[.pointer (some ⟨h, 0, none⟩), tabA ti, .int .i64 k] w (fun e w' => e = .returned (.tuple #[.agg #[.int .i64 ek, .int .i64 ep, .int .i64 ej, .string es, .int .i64 er], .int .i64 0]) ∧ ∃ O', PHp base n w' h M (AA.set ti (remM A x)) O' ∧ QS base O w O' w') := by
  obtain ⟨bo, bt, H, y, _, _, _, _, _, _, _, _, _, _, _, _, hLn, hAn⟩ := php_at hP hM hA h4 (k1 := 4) (p1 := 0) (q1 := 0) (s1 := ⟨#[]⟩) rfl rfl
  have hx : x < A.length := (List.getElem?_eq_some_iff.1 hev).1
  obtain ⟨P, hP2⟩ : ∃ P, A.length = P + 1 := ⟨A.length - 1, by omega⟩
  refine pRemoveT_c hP hb hM hA h4 4 0 0 ⟨#[]⟩ ((ti : Int) + 1) rfl rfl ⟨by omega, by omega⟩ k ek ep ej es er (remM A x) (by unfold remM; simp only [List.length_append, List.length_take, List.length_drop]; omega) (fun W t m g sv av hT => ?_)
  by_cases h2 : x = P
  · subst h2
    exact twRemove_last W t m g sv o.L av A hT (by omega) x hP2 k hk hA0 hev
  · exact twRemove_in W t m g sv o.L av A hT (by omega) x P hP2 (by omega) k hk hA0 hev
set_option maxRecDepth 100000 in
set_option maxHeartbeats 8000000 in
theorem tInsert_c (w : World) (c h : Nat) (nm : ByteArray) (ga cap : Nat) (cs : Array Value) {base n : Nat} {M : LH} {AA : List (List V)} {O : Nat → Prop} (hP : PHp base n w h M AA O) (hb0 : base ≤ w.heap.size) (hn : n ≤ 900) {ti : Nat} (hti : ti ≤ 100000) {o : LO} {A : List V} (hM : M[ti]? = some o) (hA : AA[ti]? = some A) (h4 : o.kind = 4) (hcl : ∀ y ∈ o.L, y.k.k ≠ 2) (hA0 : ∀ v ∈ A, v.k ≠ 0) (HC : Held w O c (oCt h nm (.slice (some ⟨ga, 0, none⟩) 3 cap))) (HG : Held w O ga (.cells cs 30)) (x : Nat) (hx : x ≤ A.length) (hl : A.length ≤ 900) (k : Int) (hk : k = (x : Int) + 1) (vk vp vq : Int) (vs : ByteArray) (vr : Int) (h0 : vk ≠ 0) (hv : validV ⟨vk, vp, vq, vs, vr⟩ = true) (hw : WfV ⟨vk, vp, vq, vs, vr⟩)
    (hX : Vals w (.slice (some ⟨ga, 0, none⟩) 3 cap) [⟨4, 0, 0, ⟨#[]⟩, (ti : Int) + 1⟩, ⟨2, k, 1, ⟨#[]⟩, 0⟩, ⟨vk, vp, vq, vs, vr⟩]) :
    Calls Tryz.prog 26 #[.pointer (some ⟨c, 0, none⟩)] w (PrP base (n + 1) O h M (AA.set ti (insM A x ⟨vk, vp, vq, vs, vr⟩)) 1 V.nil [] ⟨#[]⟩ 0 0 [] w) := by
  subst hk
  have hcl0 := (Array.getElem?_eq_some_iff.1 HC.1).1
  have hgl0 := (Array.getElem?_eq_some_iff.1 HG.1).1
  have HTab := Lib.hid (fun W (hb : Below w.heap.size w W) => tTable_c W c h nm _ 3 cap _ (hkeep hb HC.1) (Vals.below hX hb) (by simp) 0 0 rfl 0 0 ⟨#[]⟩ ((ti : Int) + 1) rfl none 0 0)
  have HInt := Lib.hid (fun W (hb : Below w.heap.size w W) => tInt_ok W c h nm _ 3 cap _ (hkeep hb HC.1) (Vals.below hX hb) (by simp) 1 1 rfl ((x : Int) + 1) ⟨#[]⟩ 0 rfl (valid_num (by omega) (by omega)) none 0 0)
  have HLen := Lib.hid (fun W (hb : Below w.heap.size w W) => tLen_c W c h nm _ (hkeep hb HC.1) (hP.below hb) hti hM hA h4)
  have HPos := Lib.hid (fun W => tPos_c W (.pointer (some ⟨c, 0, none⟩)) ((x : Int) + 1) ((A.length : Int) + 1) (by omega) (by omega))
  have HSt := Lib.hid (fun W => tStored_c W (.pointer (some ⟨c, 0, none⟩)))
  have HIns := Lib.hid (fun W (hb : Below w.heap.size w W) => insert_hc (hP.below hb) (by have := hb.size; omega) hn hti hM hA h4 hcl hA0 x hx ((x : Int) + 1) rfl vk vp vq vs vr h0 hv hw)
  have HVH := Lib.hid (fun (W : World) (hg : W.heap[ga]? = some (.cells cs 30)) => (show W.cell? ⟨ga, 10, none⟩ = some (.int .i64 vk) ∧ W.cell? ⟨ga, 11, none⟩ = some (.int .i64 vp) ∧ W.cell? ⟨ga, 12, none⟩ = some (.int .i64 vq) ∧ W.cell? ⟨ga, 13, none⟩ = some (.string vs) ∧ W.cell? ⟨ga, 14, none⟩ = some (.int .i64 vr) from by have h := Vals.at_ (vals_held hX (hg.trans HG.1.symm) (Array.getElem?_eq_some_iff.1 hg).1) (i := 2) (v := ⟨vk, vp, vq, vs, vr⟩) rfl; simpa using h.2))
  have HEnd := Lib.hid (fun W (hc : W.heap[c]? = some (oCt h nm (.slice (some ⟨ga, 0, none⟩) 3 cap))) => tEnd_c W c h nm _ hc none 0 0 [] (Vals.nilslice W) (by decide))
  have HCC := Lib.hid (HC)
  have HGG := Lib.hid (HG)
  have HOL := Lib.hid (hP.lt)
  clear HC HG hX hP hM hA hv hw hcl hA0
  go_enter Tryz.func26, Tryz.ntmps26
  go_wp2_with fail
  refine (HTab.out _ (below1 _ _)).mono ?_
  rintro e w1 ⟨rfl, hb⟩
  have Ha1 := Lib.hid (hkeep hb (heap1 w oAc))
  have HW1 := Lib.hid (below_next (below1 _ _) hb)
  have hz1 := hb.size
  try simp at hz1
  clear hb
  obtain ⟨W2, hW2⟩ : ∃ W2, W2 = w1.alloc (oV 4 0 0 ⟨#[]⟩ ((ti : Int) + 1)) := ⟨_, rfl⟩
  have HW2 := Lib.hid ((show Below w.heap.size w W2 by rw [hW2]; exact HW1.out.alloc HW1.out.size _))
  have Ha2 := Lib.hid ((show W2.heap[w.heap.size]? = some oAc by rw [hW2]; exact heap1_old Ha1.out _))
  have Ht2 := Lib.hid ((show W2.heap[w1.heap.size]? = some (oV 4 0 0 ⟨#[]⟩ ((ti : Int) + 1)) by rw [hW2]; exact heap1 _ _))
  have HC2 := Lib.hid (hkeep HW2.out (show w.heap[c]? = _ from HCC.out.1))
  have hyc := (Array.getElem?_eq_some_iff.1 HC2.out).1
  have hyt := (Array.getElem?_eq_some_iff.1 Ht2.out).1
  have c2 : W2.cell? ⟨c, 2, none⟩ = some (.slice (some ⟨ga, 0, none⟩) 3 cap) := by rw [cell_of_heap HC2.out]; rfl
  obtain ⟨t0, t1, t2, t3, t4⟩ := cells5 Ht2.out
  obtain ⟨ft0, ft1, ft2, ft3, ft4⟩ := froz5 Ht2.out
  go_upto_region 2 with fail
  try rw [show w1.alloc (oV 4 0 0 ⟨#[]⟩ ((ti : Int) + 1)) = W2 from hW2.symm]
  clear hW2
  go_wp2_with fail
  refine (HLen.out _ HW2.out).mono ?_
  rintro e w3 ⟨rfl, hb⟩
  have Ha3 := Lib.hid (hkeep hb Ha2.out)
  have Ht3 := Lib.hid (hkeep hb Ht2.out)
  have HC3 := Lib.hid (hkeep hb HC2.out)
  have HW3 := Lib.hid (below_next HW2.out hb)
  clear hb c2 t0 t1 t2 t3 t4 ft0 ft1 ft2 ft3 ft4 hyc hyt
  have hyc := (Array.getElem?_eq_some_iff.1 HC3.out).1
  have c2 : w3.cell? ⟨c, 2, none⟩ = some (.slice (some ⟨ga, 0, none⟩) 3 cap) := by rw [cell_of_heap HC3.out]; rfl
  go_wp2_with fail
  refine (HInt.out _ HW3.out).mono ?_
  rintro e w4 ⟨rfl, hb⟩
  have Ha4 := Lib.hid (hkeep hb Ha3.out)
  have Ht4 := Lib.hid (hkeep hb Ht3.out)
  have HC4 := Lib.hid (hkeep hb HC3.out)
  have HW4 := Lib.hid (below_next HW3.out hb)
  have hz4 := HW4.out.size
  clear hb c2 hyc
  go_wp2_with fail
  refine (HPos.out _).mono ?_
  rintro e w5 ⟨rfl, rfl⟩
  have hyc := (Array.getElem?_eq_some_iff.1 HC4.out).1
  have hyt := (Array.getElem?_eq_some_iff.1 Ht4.out).1
  have hyg : ga < w5.heap.size := by omega
  have c15 : w5.cell? ⟨c, 15, none⟩ = some (.bool false) := by rw [cell_of_heap HC4.out]; rfl
  go_upto_region 10 with fail
  have HX4 := Lib.hid ((⟨HCC.out.2, HGG.out.2⟩ : ¬ O c ∧ ¬ O ga))
  have HG4 := Lib.hid (hkeep HW4.out (show w.heap[ga]? = _ from HGG.out.1))
  have HKP := Lib.hid (fun (W W' : World) (O2 : Nat → Prop) (hb : Below w5.heap.size w5 W) (hq : QS base O W O2 W') => (show Held W' O2 c (oCt h nm (.slice (some ⟨ga, 0, none⟩) 3 cap)) ∧ W'.heap[w1.heap.size]? = some (oV 4 0 0 ⟨#[]⟩ ((ti : Int) + 1)) ∧ W'.heap[ga]? = some (.cells cs 30) ∧ W'.heap[w.heap.size]? = some oAc from ⟨Held.qs (O := O) ⟨hkeep hb HC4.out, HX4.out.1⟩ hq (npb (by decide)), (hq.keep (hkeep hb Ht4.out) (npb (by decide)) (fun e => by have := HOL.out _ e; omega)).1, (hq.keep (hkeep hb HG4.out) (npb (by decide)) HX4.out.2).1, (hq.keep (hkeep hb Ha4.out) (npb (by decide)) (fun e => by have := HOL.out _ e; omega)).1⟩))
  have SOQ := Lib.hid (fun (W : World) (h1 : W.heap[c]? = some (oCt h nm (.slice (some ⟨ga, 0, none⟩) 3 cap))) (h2 : W.heap[w1.heap.size]? = some (oV 4 0 0 ⟨#[]⟩ ((ti : Int) + 1))) (h3 : W.heap[ga]? = some (.cells cs 30)) => (show W.cell? ⟨c, 0, none⟩ = some (.pointer (some ⟨h, 0, none⟩)) ∧ W.cell? ⟨c, 2, none⟩ = some (.slice (some ⟨ga, 0, none⟩) 3 cap) ∧ W.cell? ⟨w1.heap.size, 0, none⟩ = some (.int .i64 4) ∧ W.cell? ⟨w1.heap.size, 1, none⟩ = some (.int .i64 0) ∧ W.cell? ⟨w1.heap.size, 2, none⟩ = some (.int .i64 0) ∧ W.cell? ⟨w1.heap.size, 3, none⟩ = some (.string ⟨#[]⟩) ∧ W.cell? ⟨w1.heap.size, 4, none⟩ = some (.int .i64 ((ti : Int) + 1)) ∧ W.cell? ⟨ga, 10, none⟩ = some (.int .i64 vk) ∧ W.cell? ⟨ga, 11, none⟩ = some (.int .i64 vp) ∧ W.cell? ⟨ga, 12, none⟩ = some (.int .i64 vq) ∧ W.cell? ⟨ga, 13, none⟩ = some (.string vs) ∧ W.cell? ⟨ga, 14, none⟩ = some (.int .i64 vr) from ⟨(cells16 h1).1, (cells16 h1).2.2.1, (cells5 h2).1, (cells5 h2).2.1, (cells5 h2).2.2.1, (cells5 h2).2.2.2.1, (cells5 h2).2.2.2.2, (HVH.out W h3).1, (HVH.out W h3).2.1, (HVH.out W h3).2.2.1, (HVH.out W h3).2.2.2.1, (HVH.out W h3).2.2.2.2⟩))
  have SO := Lib.hid (fun (W : World) (hb : Below w5.heap.size w5 W) => SOQ.out W (hkeep hb HC4.out) (hkeep hb Ht4.out) (hkeep hb HG4.out))
  have HBc := Lib.hid ((Below.refl w5.heap.size w5).drew)
  have e31 : IntKind.i64.wrap ((3 : Int) - 1) = 2 := w64_in (by decide) (by decide)
  have e32 : IntKind.i64.wrap (2 : Int) = 2 := w64_in (by decide) (by decide)
  go_region_held3 (fun w' => w'.cell? ⟨c, 0, none⟩ = some (.pointer (some ⟨h, 0, none⟩)) ∧ w'.cell? ⟨c, 2, none⟩ = some (.slice (some ⟨ga, 0, none⟩) 3 cap) ∧ w'.cell? ⟨w1.heap.size, 0, none⟩ = some (.int .i64 4) ∧ w'.cell? ⟨w1.heap.size, 1, none⟩ = some (.int .i64 0) ∧ w'.cell? ⟨w1.heap.size, 2, none⟩ = some (.int .i64 0) ∧ w'.cell? ⟨w1.heap.size, 3, none⟩ = some (.string ⟨#[]⟩) ∧ w'.cell? ⟨w1.heap.size, 4, none⟩ = some (.int .i64 ((ti : Int) + 1)) ∧ w'.cell? ⟨ga, 10, none⟩ = some (.int .i64 vk) ∧ w'.cell? ⟨ga, 11, none⟩ = some (.int .i64 vp) ∧ w'.cell? ⟨ga, 12, none⟩ = some (.int .i64 vq) ∧ w'.cell? ⟨ga, 13, none⟩ = some (.string vs) ∧ w'.cell? ⟨ga, 14, none⟩ = some (.int .i64 vr))
    (first | with_reducible exact SO.out _ HBc.out | with_reducible exact SOQ.out _ HXc.out HXt.out HXg.out)
    (first | (go_at_call 63; (with_reducible refine (HIns.out _ (below_next HW4.out HBc.out)).mono ?_); rintro e nw2 ⟨rfl, O2, hP2, hq2⟩; have HX2 := Lib.hid (And.intro hP2 hq2); have HXk := Lib.hid (HKP.out _ _ _ HBc.out hq2); have HXc := Lib.hid HXk.out.1.1; have HXt := Lib.hid HXk.out.2.1; have HXg := Lib.hid HXk.out.2.2.1; clear hP2 hq2) | (go_at_call 62; (with_reducible refine (HSt.out _).mono ?_); rintro e nw3 ⟨rfl, rfl⟩))
  go_wp2_with fail
  refine (HEnd.out _ HXc.out).mono ?_
  rintro e w9 ⟨so3, cap3, rfl, hr, hb⟩
  have HR3 := Lib.hid (hr)
  have Ha9 := Lib.hid (hkeep hb HXk.out.2.2.2)
  have HB9 := Lib.hid (hb)
  obtain ⟨hP2, hq2⟩ := HX2.out
  have HP9 := Lib.hid (hP2.below hb)
  have HQ9 := Lib.hid ((((QS.of_below (base := base) (O := O) HW4.out).trans (QS.of_below HBc.out)).trans hq2).trans (QS.of_below hb))
  have hzn := HQ9.out.size
  have hzq := hq2.size
  have hzb := HBc.out.size
  clear hr hb hP2 hq2
  have hya : w.heap.size < w9.heap.size := (Array.getElem?_eq_some_iff.1 Ha9.out).1
  obtain ⟨a0, a1, a2, a3, a4, a5, a6, a7, a8, a9, a10, a11⟩ := cells12 Ha9.out
  obtain ⟨fa0, fa1, fa2, fa3, fa4, fa5, fa6, fa7, fa8, fa9, fa10, fa11⟩ := froz12 Ha9.out
  go_wp2
  refine bodyPost_ret (by simp [results, Tryz.results26, go_sem, hya, a0, a1, a2, a3, a4, a5, a6, a7, a8, a9, a10, a11]; first | done | rfl) rfl ?_
  exact prP_end (A := []) (K := []) HR3.out (World.ownsRow_nil _ _ _ _) HP9.out HQ9.out Ha9.out (Nat.le_refl _) (by omega) (by omega) (fun b hb => by cases hb) _ _ _ _ _ _ _ _ _ _ _ _
set_option maxRecDepth 100000 in
set_option maxHeartbeats 40000000 in
theorem tRemove_c (w : World) (c h : Nat) (nm : ByteArray) (ga cap : Nat) {base n : Nat} {M : LH} {AA : List (List V)} {O : Nat → Prop} (hP : PHp base n w h M AA O) (hb0 : base ≤ w.heap.size) (hn : n ≤ 900) {ti : Nat} (hti : ti ≤ 100000) {o : LO} {A : List V} (hM : M[ti]? = some o) (hA : AA[ti]? = some A) (h4 : o.kind = 4) (hA0 : ∀ v ∈ A, v.k ≠ 0) (HC : Held w O c (oCt h nm (.slice (some ⟨ga, 0, none⟩) 2 cap))) (x : Nat) (hl : A.length ≤ 900) (k : Int) (hk : k = (x : Int) + 1) {ek ep ej : Int} {es : ByteArray} {er : Int} (hev : A[x]? = some ⟨ek, ep, ej, es, er⟩)
    (hX : Vals w (.slice (some ⟨ga, 0, none⟩) 2 cap) [⟨4, 0, 0, ⟨#[]⟩, (ti : Int) + 1⟩, ⟨2, k, 1, ⟨#[]⟩, 0⟩]) :
    Calls Tryz.prog 29 #[.pointer (some ⟨c, 0, none⟩)] w (PrP base n O h M (AA.set ti (remM A x)) 1 V.nil [⟨ek, ep, ej, es, er⟩] ⟨#[]⟩ 0 0 [] w) := by
  subst hk
  have hx : x < A.length := (List.getElem?_eq_some_iff.1 hev).1
  have hcl0 := (Array.getElem?_eq_some_iff.1 HC.1).1
  have HTab := Lib.hid (fun W (hb : Below w.heap.size w W) => tTable_c W c h nm _ 2 cap _ (hkeep hb HC.1) (Vals.below hX hb) (by simp) 0 0 rfl 0 0 ⟨#[]⟩ ((ti : Int) + 1) rfl none 0 0)
  have HInt := Lib.hid (fun W (so2 : Option Addr) (hb : Below w.heap.size w W) => tInt_ok W c h nm _ 2 cap _ (hkeep hb HC.1) (Vals.below hX hb) (by simp) 1 1 rfl ((x : Int) + 1) ⟨#[]⟩ 0 rfl (valid_num (by omega) (by omega)) so2 1 1)
  have HLen := Lib.hid (fun W (hb : Below w.heap.size w W) => tLen_c W c h nm _ (hkeep hb HC.1) (hP.below hb) hti hM hA h4)
  have HO := Lib.hid (fun W => pOfInt_top W (A.length : Int) (by omega) (by omega))
  have HPos := Lib.hid (fun W => tPos_c W (.pointer (some ⟨c, 0, none⟩)) ((x : Int) + 1) (A.length : Int) (by omega) (by omega))
  have HSt := Lib.hid (fun W => tStored_c W (.pointer (some ⟨c, 0, none⟩)))
  have HRem := Lib.hid (fun W (hb : Below w.heap.size w W) => remove_hc (hP.below hb) (by have := hb.size; omega) hn hti hM hA h4 hA0 x ((x : Int) + 1) rfl hev)
  have HEnd := Lib.hid (fun W b (hc : W.heap[c]? = some (oCt h nm (.slice (some ⟨ga, 0, none⟩) 2 cap))) (hv : Vals W (.slice (some ⟨b, 0, none⟩) 1 1) [⟨ek, ep, ej, es, er⟩]) => tEnd_c W c h nm _ hc (some ⟨b, 0, none⟩) 1 1 [⟨ek, ep, ej, es, er⟩] hv (by simp))
  have HCC := Lib.hid (HC)
  have HOL := Lib.hid (hP.lt)
  have hA1 : ((A.length : Int) == 0) = false := beq_eq_false_iff_ne.2 (by omega)
  clear HC hX hP hM hA hA0 hev
  go_enter Tryz.func29, Tryz.ntmps29
  go_wp2_with fail
  refine (HTab.out _ (below1 _ _)).mono ?_
  rintro e w1 ⟨rfl, hb⟩
  have Ha1 := Lib.hid (hkeep hb (heap1 w oAc))
  have HW1 := Lib.hid (below_next (below1 _ _) hb)
  have hz1 := hb.size
  try simp at hz1
  clear hb
  obtain ⟨W2, hW2⟩ : ∃ W2, W2 = w1.alloc (oV 4 0 0 ⟨#[]⟩ ((ti : Int) + 1)) := ⟨_, rfl⟩
  have HW2 := Lib.hid ((show Below w.heap.size w W2 by rw [hW2]; exact HW1.out.alloc HW1.out.size _))
  have Ha2 := Lib.hid ((show W2.heap[w.heap.size]? = some oAc by rw [hW2]; exact heap1_old Ha1.out _))
  have Ht2 := Lib.hid ((show W2.heap[w1.heap.size]? = some (oV 4 0 0 ⟨#[]⟩ ((ti : Int) + 1)) by rw [hW2]; exact heap1 _ _))
  have hyt := (Array.getElem?_eq_some_iff.1 Ht2.out).1
  obtain ⟨t0, t1, t2, t3, t4⟩ := cells5 Ht2.out
  obtain ⟨ft0, ft1, ft2, ft3, ft4⟩ := froz5 Ht2.out
  go_upto_region 2 with fail
  try rw [show w1.alloc (oV 4 0 0 ⟨#[]⟩ ((ti : Int) + 1)) = W2 from hW2.symm]
  clear hW2
  go_wp2_with fail
  refine (HLen.out _ HW2.out).mono ?_
  rintro e w3 ⟨rfl, hb⟩
  have Ha3 := Lib.hid (hkeep hb Ha2.out)
  have Ht3 := Lib.hid (hkeep hb Ht2.out)
  have HW3 := Lib.hid (below_next HW2.out hb)
  clear hb t0 t1 t2 t3 t4 ft0 ft1 ft2 ft3 ft4 hyt
  have HC3 := Lib.hid (hkeep HW3.out (show w.heap[c]? = _ from HCC.out.1))
  go_wp2_with fail
  refine (HO.out _).mono ?_
  rintro e w4 ⟨rfl, hb⟩
  have Ha4 := Lib.hid (hkeep hb Ha3.out)
  have Ht4 := Lib.hid (hkeep hb Ht3.out)
  have HW4 := Lib.hid (below_next HW3.out hb)
  have hz4 := HW4.out.size
  clear hb
  obtain ⟨W4, hW4⟩ : ∃ W4, W4 = w4.alloc (oV 2 (A.length : Int) 1 ⟨#[]⟩ 0) := ⟨_, rfl⟩
  have HW4b := Lib.hid ((show Below w.heap.size w W4 by rw [hW4]; exact HW4.out.alloc HW4.out.size _))
  have HI4 := Lib.hid ((show Calls Tryz.prog 53 #[.pointer (some ⟨c, 0, none⟩), .int .i64 1, .slice (some ⟨w4.heap.size, 0, none⟩) 1 1] (w4.alloc (oV 2 (A.length : Int) 1 ⟨#[]⟩ 0)) (IntPost (w4.alloc (oV 2 (A.length : Int) 1 ⟨#[]⟩ 0)) ((x : Int) + 1)) from HInt.out _ _ (HW4.out.alloc HW4.out.size _)))
  have HE4 := Lib.hid (hW4)
  clear hW4
  go_wp2_with fail
  refine HI4.out.mono ?_
  rintro e w5 ⟨rfl, hb⟩
  have Ha5 := Lib.hid (hkeep hb (heap1_old Ha4.out _))
  have Ht5 := Lib.hid (hkeep hb (heap1_old Ht4.out _))
  have HW5 := Lib.hid (below_next (HW4.out.alloc HW4.out.size _) hb)
  have hz5 := HW5.out.size
  clear hb
  go_wp2_with fail
  refine (HPos.out _).mono ?_
  rintro e w6 ⟨rfl, rfl⟩
  have HC6 := Lib.hid (hkeep HW5.out (show w.heap[c]? = _ from HCC.out.1))
  have HNO := Lib.hid (HCC.out.2)
  have hyc := (Array.getElem?_eq_some_iff.1 HC6.out).1
  have hyt := (Array.getElem?_eq_some_iff.1 Ht5.out).1
  have c15 : w6.cell? ⟨c, 15, none⟩ = some (.bool false) := by rw [cell_of_heap HC6.out]; rfl
  go_upto_region 9 with fail
  go_cut [6, 7] (fun s6 s7 wx => ∃ nb, s6 = .pointer (some ⟨nb, 0, none⟩) ∧ s7 = .int .i64 0 ∧ Hid (∃ O2, wx.heap[nb]? = some (oV ek ep ej es er) ∧ PHp base n wx h M (AA.set ti (remM A x)) O2 ∧ QS base O w6 O2 wx))
  case first =>
    have SOQ := Lib.hid (fun (W : World) (h1 : W.heap[c]? = some (oCt h nm (.slice (some ⟨ga, 0, none⟩) 2 cap))) (h2 : W.heap[w1.heap.size]? = some (oV 4 0 0 ⟨#[]⟩ ((ti : Int) + 1))) => (show W.cell? ⟨c, 0, none⟩ = some (.pointer (some ⟨h, 0, none⟩)) ∧ W.cell? ⟨w1.heap.size, 0, none⟩ = some (.int .i64 4) ∧ W.cell? ⟨w1.heap.size, 1, none⟩ = some (.int .i64 0) ∧ W.cell? ⟨w1.heap.size, 2, none⟩ = some (.int .i64 0) ∧ W.cell? ⟨w1.heap.size, 3, none⟩ = some (.string ⟨#[]⟩) ∧ W.cell? ⟨w1.heap.size, 4, none⟩ = some (.int .i64 ((ti : Int) + 1)) from ⟨(cells16 h1).1, (cells5 h2).1, (cells5 h2).2.1, (cells5 h2).2.2.1, (cells5 h2).2.2.2.1, (cells5 h2).2.2.2.2⟩))
    have SO := Lib.hid (fun (W : World) (hb : Below w6.heap.size w6 W) => SOQ.out W (hkeep hb HC6.out) (hkeep hb Ht5.out))
    have BA := Lib.hid (fun (W : World) (o : Obj) (hb : Below w6.heap.size w6 W) => (show Below w6.heap.size w6 (W.alloc o) from hb.alloc hb.size o))
    have BD := Lib.hid (fun (W : World) (hb : Below w6.heap.size w6 W) => (show Below w6.heap.size w6 W.drew from hb.drew))
    have HKP := Lib.hid (fun (W W' : World) (O2 : Nat → Prop) (hb : Below w6.heap.size w6 W) (hq : QS base O W O2 W') => (show W'.heap[c]? = some (oCt h nm (.slice (some ⟨ga, 0, none⟩) 2 cap)) ∧ W'.heap[w1.heap.size]? = some (oV 4 0 0 ⟨#[]⟩ ((ti : Int) + 1)) ∧ W.heap.size ≤ W'.heap.size ∧ QS base O w6 O2 W' from ⟨(hq.keep (hkeep hb HC6.out) (npb (by decide)) HNO.out).1, (hq.keep (hkeep hb Ht5.out) (npb (by decide)) (fun e => by have := HOL.out _ e; omega)).1, hq.size, (QS.of_below (base := base) (O := O) hb).trans hq⟩))
    have SOA := Lib.hid (fun (W : World) (o : Obj) (h1 : W.heap[c]? = some (oCt h nm (.slice (some ⟨ga, 0, none⟩) 2 cap))) (h2 : W.heap[w1.heap.size]? = some (oV 4 0 0 ⟨#[]⟩ ((ti : Int) + 1))) => SOQ.out (W.alloc o) (heap1_old h1 _) (heap1_old h2 _))
    have SO5 := Lib.hid (fun (W : World) (y0 y1 y2 y3 y4 : Value) (h1 : W.heap[c]? = some (oCt h nm (.slice (some ⟨ga, 0, none⟩) 2 cap))) (h2 : W.heap[w1.heap.size]? = some (oV 4 0 0 ⟨#[]⟩ ((ti : Int) + 1))) => SOQ.out (((((W.setCell ⟨w6.heap.size, 0, none⟩ y0).setCell ⟨w6.heap.size, 1, none⟩ y1).setCell ⟨w6.heap.size, 2, none⟩ y2).setCell ⟨w6.heap.size, 3, none⟩ y3).setCell ⟨w6.heap.size, 4, none⟩ y4) (heap_five h1 (by omega) _ _ _ _ _) (heap_five h2 (by omega) _ _ _ _ _))
    have HBc := Lib.hid ((Below.refl w6.heap.size w6).drew)
    have HBz := Lib.hid (((Below.refl w6.heap.size w6).alloc (Nat.le_refl _) (oV 0 0 0 ⟨#[]⟩ 0)).drew)
    go_region_held3 (fun w' => w'.cell? ⟨c, 0, none⟩ = some (.pointer (some ⟨h, 0, none⟩)) ∧ w'.cell? ⟨w1.heap.size, 0, none⟩ = some (.int .i64 4) ∧ w'.cell? ⟨w1.heap.size, 1, none⟩ = some (.int .i64 0) ∧ w'.cell? ⟨w1.heap.size, 2, none⟩ = some (.int .i64 0) ∧ w'.cell? ⟨w1.heap.size, 3, none⟩ = some (.string ⟨#[]⟩) ∧ w'.cell? ⟨w1.heap.size, 4, none⟩ = some (.int .i64 ((ti : Int) + 1)))
      (first | with_reducible exact SO.out _ HBc.out | with_reducible exact SO.out _ HBz.out | with_reducible exact SOQ.out _ HXc.out HXt.out | with_reducible exact SOA.out _ _ HXc.out HXt.out | with_reducible exact SO5.out _ _ _ _ _ _ HXc.out HXt.out)
      (first | (go_at_call 66; (with_reducible refine (HRem.out _ (below_next HW5.out (by first | with_reducible exact HBc.out | with_reducible exact HBz.out))).mono ?_); rintro e nw2 ⟨rfl, O2, hP2, hq2⟩; have HX2 := Lib.hid hP2; have HXk := Lib.hid (HKP.out _ _ _ (by first | with_reducible exact HBc.out | with_reducible exact HBz.out) hq2); have HXc := Lib.hid HXk.out.1; have HXt := Lib.hid HXk.out.2.1; have hyz := HXk.out.2.2.2.size; (first | ((with_reducible have Hz := Lib.hid (hq2.keep (heap_newD w6 (oV 0 0 0 ⟨#[]⟩ 0)) (npb (by decide)) (fun e => absurd (HOL.out _ e) (by omega)))); have hza := (Array.getElem?_eq_some_iff.1 Hz.out.1).1; obtain ⟨z0, z1, z2, z3, z4⟩ := cells5 Hz.out.1; obtain ⟨fz0, fz1, fz2, fz3, fz4⟩ := froz5 Hz.out.1) | ((with_reducible have Hz := Lib.hid (hq2.keep (heap_new w6 (oV 0 0 0 ⟨#[]⟩ 0)) (npb (by decide)) (fun e => absurd (HOL.out _ e) (by omega)))); have hza := (Array.getElem?_eq_some_iff.1 Hz.out.1).1; obtain ⟨z0, z1, z2, z3, z4⟩ := cells5 Hz.out.1; obtain ⟨fz0, fz1, fz2, fz3, fz4⟩ := froz5 Hz.out.1) | skip); clear hP2 hq2))
    all_goals
      go_wp2_with fail
      go_meet
      first
      | (with_reducible exact ⟨_, rfl, rfl, Lib.hid ⟨O2, leaf_alloc HX2.out HXk.out.2.2.2 _⟩⟩)
      | (with_reducible exact ⟨_, rfl, rfl, Lib.hid ⟨O2, leaf_five HX2.out HXk.out.2.2.2 Hz.out (Nat.le_refl _) _ _ _ _ _⟩⟩)
  case rest =>
    obtain ⟨nb, rfl, rfl, hx⟩ := hcut
    obtain ⟨O2, hn2, hp2, hq2⟩ := hx.out
    have HN := Lib.hid (hn2)
    have HP2 := Lib.hid (hp2)
    have HQ2 := Lib.hid (hq2)
    have HXk := Lib.hid ((show wc.heap[c]? = some (oCt h nm (.slice (some ⟨ga, 0, none⟩) 2 cap)) ∧ wc.heap[w.heap.size]? = some oAc from ⟨(hq2.keep HC6.out (npb (by decide)) HNO.out).1, (hq2.keep Ha5.out (npb (by decide)) (fun e => by have := HOL.out _ e; omega)).1⟩))
    clear hx hn2 hp2 hq2
    have hyn : nb < wc.heap.size := (Array.getElem?_eq_some_iff.1 HN.out).1
    obtain ⟨n0, n1, n2, n3, n4⟩ := cells5 HN.out
    obtain ⟨fn0, fn1, fn2, fn3, fn4⟩ := froz5 HN.out
    go_wp2_with fail
    refine (HSt.out _).mono ?_
    rintro e w7 ⟨rfl, rfl⟩
    have HEN := Lib.hid ((show Calls Tryz.prog 60 #[.pointer (some ⟨c, 0, none⟩), .slice (some ⟨w7.heap.size, 0, none⟩) 1 1] (w7.alloc (oV ek ep ej es er)) (RetPost (w7.alloc (oV ek ep ej es er)) [⟨ek, ep, ej, es, er⟩]) from HEnd.out _ _ (heap1_old HXk.out.1 _) (vals_block (A := [⟨ek, ep, ej, es, er⟩]) (heap1 _ _))))
    go_wp2_with fail
    refine HEN.out.mono ?_
    rintro e w9 ⟨so3, cap3, rfl, hr, hb⟩
    have HR9 := Lib.hid (hr)
    have Ha9 := Lib.hid (hkeep hb (heap1_old HXk.out.2 _))
    have HP9 := Lib.hid ((HP2.out.below (below1 _ _)).below hb)
    have HQ9 := Lib.hid ((((QS.of_below (base := base) (O := O) HW5.out).trans HQ2.out).trans (QS.of_below (below1 _ _))).trans (QS.of_below hb))
    have hzs : w7.heap.size ≤ (w7.alloc (oV ek ep ej es er)).heap.size := (below1 _ _).size
    have hzq := HQ2.out.size
    have hyw := (Array.getElem?_eq_some_iff.1 HXk.out.2).1
    clear hr hb
    have hya : w.heap.size < w9.heap.size := (Array.getElem?_eq_some_iff.1 Ha9.out).1
    obtain ⟨a0, a1, a2, a3, a4, a5, a6, a7, a8, a9, a10, a11⟩ := cells12 Ha9.out
    obtain ⟨fa0, fa1, fa2, fa3, fa4, fa5, fa6, fa7, fa8, fa9, fa10, fa11⟩ := froz12 Ha9.out
    go_wp2
    refine bodyPost_ret (by simp [results, Tryz.results29, go_sem, hya, a0, a1, a2, a3, a4, a5, a6, a7, a8, a9, a10, a11]; first | done | rfl) rfl ?_
    exact prP_end (A := [⟨ek, ep, ej, es, er⟩]) (K := []) HR9.out (World.ownsRow_nil _ _ _ _) HP9.out HQ9.out Ha9.out (Nat.le_refl _) (by omega) (by omega) (fun b hb => by cases hb) _ _ _ _ _ _ _ _ _ _ _ _
set_option maxRecDepth 100000 in
set_option maxHeartbeats 2000000 in
theorem jbegin_insert (w : World) (h : Nat) (so : Option Addr) (k cap : Nat) {base n : Nat} {O : Nat → Prop} {M : LH} {AA : List (List V)} (kind : Int) (fk fp fq : Int) (fs : ByteArray) (fr : Int) (A : List V) (s : ByteArray) (level next : Int) (K : List V) (hO : ∀ b, O b → b < w.heap.size)
    (HM : ∀ W c, Below w.heap.size w W → W.heap[c]? = some (oCt h ⟨#[105, 110, 115, 101, 114, 116]⟩ (.slice so k cap)) → w.heap.size ≤ c → Calls Tryz.prog 26 #[.pointer (some ⟨c, 0, none⟩)] W (PrP base n O h M AA kind ⟨fk, fp, fq, fs, fr⟩ A s level next K W)) :
    Calls Tryz.prog 12 #[.pointer (some ⟨h, 0, none⟩), .string ⟨#[116, 97, 98, 108, 101, 46, 105, 110, 115, 101, 114, 116]⟩, .slice so k cap] w (PrP base n O h M AA kind ⟨fk, fp, fq, fs, fr⟩ A s level next K w) := by
  have HTP := Lib.hid (fun W => (show Calls Tryz.prog 24 #[.string ⟨#[116, 97, 98, 108, 101, 46, 105, 110, 115, 101, 114, 116]⟩, .string ⟨#[116, 97, 98, 108, 101, 46]⟩] W (fun e w' => e = .returned (.string ⟨#[105, 110, 115, 101, 114, 116]⟩) ∧ w' = W) from Tryz.strings_TrimPrefix ⟨#[116, 97, 98, 108, 101, 46, 105, 110, 115, 101, 114, 116]⟩ ⟨#[116, 97, 98, 108, 101, 46]⟩ W))
  have HMM := Lib.hid (HM)
  have HO := Lib.hid (hO)
  clear HM hO
  go_enter Tryz.func12, Tryz.ntmps12
  go_wp2_with fail
  refine (HTP.out _).mono ?_
  rintro e w1 ⟨rfl, rfl⟩
  go_wp2_with fail
  refine (HMM.out _ _ (below2w _ _ _) (heap2_b w oAc (oCt h ⟨#[105, 110, 115, 101, 114, 116]⟩ (.slice so k cap))) (by omega)).mono ?_
  rintro e w3 ⟨so3, cap3, sk3, ck3, O3, rfl, hr, hk, hP3, hq3, hno⟩
  have HR3 := Lib.hid (hr)
  have HK3 := Lib.hid (hk)
  have HP3 := Lib.hid (hP3)
  have HQ3 := Lib.hid (hq3)
  have HNO := Lib.hid (hno)
  have Ha3 := Lib.hid ((Held.qs (O := O) ⟨heap2_a w oAc (oCt h ⟨#[105, 110, 115, 101, 114, 116]⟩ (.slice so k cap)), fun e => Nat.lt_irrefl _ (HO.out _ e)⟩ hq3 (npb (by decide))).1)
  clear hr hk hP3 hq3 hno
  have hya : w.heap.size < w3.heap.size := (Array.getElem?_eq_some_iff.1 Ha3.out).1
  obtain ⟨a0, a1, a2, a3, a4, a5, a6, a7, a8, a9, a10, a11⟩ := cells12 Ha3.out
  obtain ⟨fa0, fa1, fa2, fa3, fa4, fa5, fa6, fa7, fa8, fa9, fa10, fa11⟩ := froz12 Ha3.out
  go_wp2
  refine bodyPost_ret (by simp [results, Tryz.results12, go_sem, hya, a0, a1, a2, a3, a4, a5, a6, a7, a8, a9, a10, a11]; first | done | rfl) rfl ?_
  exact prP_end HR3.out HK3.out HP3.out ((QS.of_below (below2w w oAc (oCt h ⟨#[105, 110, 115, 101, 114, 116]⟩ (.slice so k cap)))).trans HQ3.out) Ha3.out (Nat.le_refl _) (by simp <;> omega) (by simp <;> omega) HNO.out _ _ _ _ _ _ _ _ _ _ _ _
set_option maxRecDepth 100000 in
set_option maxHeartbeats 2000000 in
theorem jbegin_remove (w : World) (h : Nat) (so : Option Addr) (k cap : Nat) {base n : Nat} {O : Nat → Prop} {M : LH} {AA : List (List V)} (kind : Int) (fk fp fq : Int) (fs : ByteArray) (fr : Int) (A : List V) (s : ByteArray) (level next : Int) (K : List V) (hO : ∀ b, O b → b < w.heap.size)
    (HM : ∀ W c, Below w.heap.size w W → W.heap[c]? = some (oCt h ⟨#[114, 101, 109, 111, 118, 101]⟩ (.slice so k cap)) → w.heap.size ≤ c → Calls Tryz.prog 29 #[.pointer (some ⟨c, 0, none⟩)] W (PrP base n O h M AA kind ⟨fk, fp, fq, fs, fr⟩ A s level next K W)) :
    Calls Tryz.prog 12 #[.pointer (some ⟨h, 0, none⟩), .string ⟨#[116, 97, 98, 108, 101, 46, 114, 101, 109, 111, 118, 101]⟩, .slice so k cap] w (PrP base n O h M AA kind ⟨fk, fp, fq, fs, fr⟩ A s level next K w) := by
  have HTP := Lib.hid (fun W => (show Calls Tryz.prog 24 #[.string ⟨#[116, 97, 98, 108, 101, 46, 114, 101, 109, 111, 118, 101]⟩, .string ⟨#[116, 97, 98, 108, 101, 46]⟩] W (fun e w' => e = .returned (.string ⟨#[114, 101, 109, 111, 118, 101]⟩) ∧ w' = W) from Tryz.strings_TrimPrefix ⟨#[116, 97, 98, 108, 101, 46, 114, 101, 109, 111, 118, 101]⟩ ⟨#[116, 97, 98, 108, 101, 46]⟩ W))
  have HMM := Lib.hid (HM)
  have HO := Lib.hid (hO)
  clear HM hO
  go_enter Tryz.func12, Tryz.ntmps12
  go_wp2_with fail
  refine (HTP.out _).mono ?_
  rintro e w1 ⟨rfl, rfl⟩
  go_wp2_with fail
  refine (HMM.out _ _ (below2w _ _ _) (heap2_b w oAc (oCt h ⟨#[114, 101, 109, 111, 118, 101]⟩ (.slice so k cap))) (by omega)).mono ?_
  rintro e w3 ⟨so3, cap3, sk3, ck3, O3, rfl, hr, hk, hP3, hq3, hno⟩
  have HR3 := Lib.hid (hr)
  have HK3 := Lib.hid (hk)
  have HP3 := Lib.hid (hP3)
  have HQ3 := Lib.hid (hq3)
  have HNO := Lib.hid (hno)
  have Ha3 := Lib.hid ((Held.qs (O := O) ⟨heap2_a w oAc (oCt h ⟨#[114, 101, 109, 111, 118, 101]⟩ (.slice so k cap)), fun e => Nat.lt_irrefl _ (HO.out _ e)⟩ hq3 (npb (by decide))).1)
  clear hr hk hP3 hq3 hno
  have hya : w.heap.size < w3.heap.size := (Array.getElem?_eq_some_iff.1 Ha3.out).1
  obtain ⟨a0, a1, a2, a3, a4, a5, a6, a7, a8, a9, a10, a11⟩ := cells12 Ha3.out
  obtain ⟨fa0, fa1, fa2, fa3, fa4, fa5, fa6, fa7, fa8, fa9, fa10, fa11⟩ := froz12 Ha3.out
  go_wp2
  refine bodyPost_ret (by simp [results, Tryz.results12, go_sem, hya, a0, a1, a2, a3, a4, a5, a6, a7, a8, a9, a10, a11]; first | done | rfl) rfl ?_
  exact prP_end HR3.out HK3.out HP3.out ((QS.of_below (below2w w oAc (oCt h ⟨#[114, 101, 109, 111, 118, 101]⟩ (.slice so k cap)))).trans HQ3.out) Ha3.out (Nat.le_refl _) (by simp <;> omega) (by simp <;> omega) HNO.out _ _ _ _ _ _ _ _ _ _ _ _
/-- Begin of insert, as the law calls it. -/
theorem insert_begin (w : World) (h : Nat) {base n : Nat} {M : LH} {AA : List (List V)} {O : Nat → Prop} (hP : PHp base n w h M AA O) (hb0 : base ≤ w.heap.size) (hn : n ≤ 900) {ti : Nat} (hti : ti ≤ 100000) {o : LO} {A : List V} (hM : M[ti]? = some o) (hA : AA[ti]? = some A) (h4 : o.kind = 4) (hcl : ∀ y ∈ o.L, y.k.k ≠ 2) (hA0 : ∀ v ∈ A, v.k ≠ 0) (x : Nat) (hx : x ≤ A.length) (hl : A.length ≤ 900) (k : Int) (hk : k = (x : Int) + 1) (vk vp vq : Int) (vs : ByteArray) (vr : Int) (h0 : vk ≠ 0) (hv : validV ⟨vk, vp, vq, vs, vr⟩ = true) (hw : WfV ⟨vk, vp, vq, vs, vr⟩) (ga : Nat) (hg : Held w O ga (.cells (rowV [⟨4, 0, 0, ⟨#[]⟩, (ti : Int) + 1⟩, ⟨2, k, 1, ⟨#[]⟩, 0⟩, ⟨vk, vp, vq, vs, vr⟩]).toArray 30)) :
    Calls Tryz.prog 12 #[.pointer (some ⟨h, 0, none⟩), .string ⟨#[116, 97, 98, 108, 101, 46, 105, 110, 115, 101, 114, 116]⟩, .slice (some ⟨ga, 0, none⟩) 3 3] w (PrP base (n + 1) O h M (AA.set ti (insM A x ⟨vk, vp, vq, vs, vr⟩)) 1 V.nil [] ⟨#[]⟩ 0 0 [] w) :=
  jbegin_insert w h (some ⟨ga, 0, none⟩) 3 3 1 0 0 0 ⟨#[]⟩ 0 [] ⟨#[]⟩ 0 0 [] hP.lt (fun W c hb hc hle => tInsert_c W c h _ ga 3 _ (hP.below hb) (by have := hb.size; omega) hn hti hM hA h4 hcl hA0 ⟨hc, fun e => by have := hP.lt _ e; omega⟩ (hg.below hb) x hx hl k hk vk vp vq vs vr h0 hv hw (vals_block (A := [⟨4, 0, 0, ⟨#[]⟩, (ti : Int) + 1⟩, ⟨2, k, 1, ⟨#[]⟩, 0⟩, ⟨vk, vp, vq, vs, vr⟩]) (hkeep hb hg.1)))
/-- Begin of remove, as the law calls it. -/
theorem remove_begin (w : World) (h : Nat) {base n : Nat} {M : LH} {AA : List (List V)} {O : Nat → Prop} (hP : PHp base n w h M AA O) (hb0 : base ≤ w.heap.size) (hn : n ≤ 900) {ti : Nat} (hti : ti ≤ 100000) {o : LO} {A : List V} (hM : M[ti]? = some o) (hA : AA[ti]? = some A) (h4 : o.kind = 4) (hA0 : ∀ v ∈ A, v.k ≠ 0) (x : Nat) (hl : A.length ≤ 900) (k : Int) (hk : k = (x : Int) + 1) {ek ep ej : Int} {es : ByteArray} {er : Int} (hev : A[x]? = some ⟨ek, ep, ej, es, er⟩) (ga : Nat) (hg : w.heap[ga]? = some (.cells (rowV [⟨4, 0, 0, ⟨#[]⟩, (ti : Int) + 1⟩, ⟨2, k, 1, ⟨#[]⟩, 0⟩]).toArray 30)) :
    Calls Tryz.prog 12 #[.pointer (some ⟨h, 0, none⟩), .string ⟨#[116, 97, 98, 108, 101, 46, 114, 101, 109, 111, 118, 101]⟩, .slice (some ⟨ga, 0, none⟩) 2 2] w (PrP base n O h M (AA.set ti (remM A x)) 1 V.nil [⟨ek, ep, ej, es, er⟩] ⟨#[]⟩ 0 0 [] w) :=
  jbegin_remove w h (some ⟨ga, 0, none⟩) 2 2 1 0 0 0 ⟨#[]⟩ 0 [⟨ek, ep, ej, es, er⟩] ⟨#[]⟩ 0 0 [] hP.lt (fun W c hb hc hle => tRemove_c W c h _ ga 2 (hP.below hb) (by have := hb.size; omega) hn hti hM hA h4 hA0 ⟨hc, fun e => by have := hP.lt _ e; omega⟩ x hl k hk hev (vals_block (A := [⟨4, 0, 0, ⟨#[]⟩, (ti : Int) + 1⟩, ⟨2, k, 1, ⟨#[]⟩, 0⟩]) (hkeep hb hg)))
end Go.Proofs.YtpbcmlnjiocmoaaGreatDoorR
