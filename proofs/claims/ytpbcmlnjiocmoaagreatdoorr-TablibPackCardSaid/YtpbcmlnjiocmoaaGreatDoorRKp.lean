import Derived.Test.YtpbcmlnjiocmoaaGreatDoorRTq
set_option linter.unusedVariables false
set_option linter.unusedSimpArgs false
set_option maxRecDepth 100000
set_option maxHeartbeats 8000000
namespace Go.Proofs.YtpbcmlnjiocmoaaGreatDoorR
open Go.RowKit Go.Proofs.Lexi
/-- Set of the next value, as pack makes it. -/
theorem pkSet_c {base n : Nat} {w : World} {h : Nat} {M0 : LH} {AA0 : List (List V)} {O : Nat → Prop} (vs : List V) (i : Nat) (hP : PHp base n w h (M0 ++ [⟨4, V.nil, pkL vs (fstNil vs) i⟩]) (AA0 ++ [vs.take (min (i) (fstNil vs))]) O) (hb : base ≤ w.heap.size) (hn : n ≤ 990) (hni : i ≤ n) (hL : AA0.length = M0.length) (hM0 : M0.length ≤ 900) (hl : vs.length ≤ 900) {vk vp vq : Int} {vt : ByteArray} {vr : Int} (hv : vs[i]? = some ⟨vk, vp, vq, vt, vr⟩) (hval : validV ⟨vk, vp, vq, vt, vr⟩ = true) (hw : WfV ⟨vk, vp, vq, vt, vr⟩) :
    Calls Tryz.prog 23 #[.pointer (some ⟨h, 0, none⟩), tabA M0.length, .agg #[.int .i64 2, .int .i64 ((i : Int) + 1), .int .i64 1, .string ⟨#[]⟩, .int .i64 0], .agg #[.int .i64 vk, .int .i64 vp, .int .i64 vq, .string vt, .int .i64 vr]] w (fun e w' => e = .returned (.int .i64 0) ∧ ∃ O', PHp base (n + 1) w' h (M0 ++ [⟨4, V.nil, pkL vs (fstNil vs) (i + 1)⟩]) (AA0 ++ [vs.take (min (i + 1) (fstNil vs))]) O' ∧ QS base O w O' w') := by
  have hi : i < vs.length := (List.getElem?_eq_some_iff.1 hv).1
  have hd : vs.getD i V.nil = ⟨vk, vp, vq, vt, vr⟩ := by rw [List.getD_eq_getElem?_getD, hv]; rfl
  have hml := fstNil_le vs
  have hpl := pkL_len vs (fstNil vs) i
  have hpl1 := pkL_len vs (fstNil vs) (i + 1)
  have hlen : ∀ j, (vs.take (min j (fstNil vs))).length = min j (fstNil vs) := fun j => by rw [List.length_take]; omega
  refine (pSetT_c hP hb (Nat.le_succ n) (i := M0.length) (o := ⟨4, V.nil, pkL vs (fstNil vs) i⟩) (A := vs.take (min i (fstNil vs))) (by simp) (by rw [← hL]; simp) rfl 4 0 0 ⟨#[]⟩ ((M0.length : Int) + 1) rfl rfl ⟨by omega, by omega⟩ 2 ((i : Int) + 1) 1 ⟨#[]⟩ 0 (valid_num (by omega) (by omega)) (by decide) vk vp vq vt vr hval (pkL vs (fstNil vs) (i + 1)) (vs.take (min (i + 1) (fstNil vs))) (by omega) (by rw [hlen]; omega) (fun W t m g sv av hT => ?_)).mono ?_
  · by_cases h1 : i < fstNil vs
    · have e1 : min i (fstNil vs) = i := by omega
      have e2 : min (i + 1) (fstNil vs) = i + 1 := by omega
      have hLi : pkL vs (fstNil vs) i = [] := pkL_low vs _ i (by omega)
      have hLs : pkL vs (fstNil vs) (i + 1) = [] := pkL_low vs _ (i + 1) (by omega)
      have hT2 : TabW W t m g sv [] av (vs.take i) := by
        have hT3 : TabW W t m g sv (pkL vs (fstNil vs) i) av (vs.take (min i (fstNil vs))) := hT
        rwa [hLi, e1] at hT3
      rw [hLs, e2]
      have hli : (vs.take i).length = i := by rw [List.length_take]; omega
      have := twSet_push W t m g sv [] av (vs.take i) hT2 (by omega) (by simp) ((i : Int) + 1) (by rw [hli]) ⟨#[]⟩ 0 (valid_num (by omega) (by omega)) vk vp vq vt vr hval hw (fstNil_lt hv h1) (fun y hy => by cases hy) (get_absent (fun y hy => by cases hy))
      rw [show vs.take i ++ [⟨vk, vp, vq, vt, vr⟩] = vs.take (i + 1) from by rw [List.take_add_one, hv]; rfl] at this
      exact this.mono (fun _ _ h => h.tw)
    · have e1 : min i (fstNil vs) = fstNil vs := by omega
      have e2 : min (i + 1) (fstNil vs) = fstNil vs := by omega
      have hT2 : TabW W t m g sv (pkL vs (fstNil vs) i) av (vs.take (fstNil vs)) := by
        have hT3 : TabW W t m g sv (pkL vs (fstNil vs) i) av (vs.take (min i (fstNil vs))) := hT
        rwa [e1] at hT3
      rw [e2, ← pkL_set (vs := vs) (show fstNil vs ≤ i by omega), hd]
      have hlm : (vs.take (fstNil vs)).length = fstNil vs := by rw [List.length_take]; omega
      refine twSet_out W t m g sv (pkL vs (fstNil vs) i) av (vs.take (fstNil vs)) hT2 (by omega) (by omega) 2 ((i : Int) + 1) 1 ⟨#[]⟩ 0 (valid_num (by omega) (by omega)) (wf_num (by omega) (by omega)) (by decide) vk vp vq vt vr hval hw (.inr ⟨intB_iff.2 ⟨rfl, rfl, valid_num (by omega) (by omega)⟩, ?_⟩)
      rw [hlm]
      by_cases h2 : i = fstNil vs
      · refine .inr (.inr ⟨by omega, ?_⟩)
        have := fstNil_at (vs := vs) (v := ⟨vk, vp, vq, vt, vr⟩) (by rw [← h2]; exact hv)
        exact this
      · exact .inr (.inl (by omega))
  · rintro e w' ⟨he, O', h1, h2⟩
    rw [set_last rfl] at h1
    rw [set_last hL] at h1
    exact ⟨he, O', h1, h2⟩
/-- Set of the number of values. -/
theorem pkSetN_c {base n : Nat} {w : World} {h : Nat} {M0 : LH} {AA0 : List (List V)} {O : Nat → Prop} (vs : List V) (hP : PHp base n w h (M0 ++ [⟨4, V.nil, pkL vs (fstNil vs) vs.length⟩]) (AA0 ++ [vs.take (min (vs.length) (fstNil vs))]) O) (hb : base ≤ w.heap.size) (hn : n ≤ 990) (hni : vs.length ≤ n) (hL : AA0.length = M0.length) (hM0 : M0.length ≤ 900) (hl : vs.length ≤ 900) :
    Calls Tryz.prog 23 #[.pointer (some ⟨h, 0, none⟩), tabA M0.length, .agg #[.int .i64 3, .int .i64 0, .int .i64 0, .string sN, .int .i64 0], .agg #[.int .i64 2, .int .i64 (vs.length : Nat), .int .i64 1, .string ⟨#[]⟩, .int .i64 0]] w (fun e w' => e = .returned (.int .i64 0) ∧ ∃ O', PHp base (n + 1) w' h (M0 ++ [⟨4, V.nil, pkE vs⟩]) (AA0 ++ [vs.take (fstNil vs)]) O' ∧ QS base O w O' w') := by
  have hml := fstNil_le vs
  have e0 : min vs.length (fstNil vs) = fstNil vs := by omega
  rw [e0] at hP
  refine (set_str_c hP hb (by omega) (ti := M0.length) (by omega) (o := ⟨4, V.nil, pkL vs (fstNil vs) vs.length⟩) (A := vs.take (fstNil vs)) (by simp) (by rw [← hL]; simp) rfl sN (by decide) 2 (vs.length : Nat) 1 ⟨#[]⟩ 0 (valid_num (by omega) (by omega)) (wf_num (by omega) (by omega))).mono ?_
  rintro e w' ⟨he, O', h1, h2⟩
  rw [set_last rfl] at h1
  rw [show setM (⟨4, V.nil, pkL vs (fstNil vs) vs.length⟩ : LO).L (strV sN) ⟨2, (vs.length : Nat), 1, ⟨#[]⟩, 0⟩ = pkE vs from pkE_set vs] at h1
  exact ⟨he, O', h1, h2⟩
set_option maxRecDepth 100000 in
set_option maxHeartbeats 2000000 in
theorem tSetX_c (w : World) (c h : Nat) (nm : ByteArray) (so : Option Addr) (na ca : Nat) {base n n' : Nat} {M M' : LH} {AA AA' : List (List V)} {O : Nat → Prop} (hP : PHp base n w h M AA O) (HC : Held w O c (oCt h nm (.slice so na ca))) (ti x : Nat) (hx : x ≤ 100000) (k : Int) (hk : k = (x : Int) + 1) (vk vp vq : Int) (vs : ByteArray) (vr : Int) 
    (HS : ∀ W, Below w.heap.size w W → Calls Tryz.prog 23 #[.pointer (some ⟨h, 0, none⟩), tabA ti, .agg #[.int .i64 2, .int .i64 ((x : Int) + 1), .int .i64 1, .string ⟨#[]⟩, .int .i64 0], .agg #[.int .i64 vk, .int .i64 vp, .int .i64 vq, .string vs, .int .i64 vr]] W (fun e w' => e = .returned (.int .i64 0) ∧ ∃ O', PHp base n' w' h M' AA' O' ∧ QS base O W O' w')) :
    Calls Tryz.prog 64 #[.pointer (some ⟨c, 0, none⟩), tabA ti, .int .i64 k, .agg #[.int .i64 vk, .int .i64 vp, .int .i64 vq, .string vs, .int .i64 vr]] w (fun e w' => e = .returned (.tuple #[]) ∧ ∃ O', PHp base n' w' h M' AA' O' ∧ QS base O w O' w') := by
  subst hk
  have HO := Lib.hid (fun W => pOfInt_top W ((x : Int) + 1) (by omega) (by omega))
  have HSt := Lib.hid (fun W => tStored_c W (.pointer (some ⟨c, 0, none⟩)))
  obtain ⟨W1, hW1⟩ : ∃ W1, W1 = (w.alloc (oV 4 0 0 ⟨#[]⟩ ((ti : Int) + 1))).alloc (oV vk vp vq vs vr) := ⟨_, rfl⟩
  have HB1 := Lib.hid ((show Below w.heap.size w W1 by rw [hW1]; exact below2w _ _ _))
  have HT1 := Lib.hid ((show W1.heap[w.heap.size]? = some (oV 4 0 0 ⟨#[]⟩ ((ti : Int) + 1)) by rw [hW1]; exact heap2_a _ _ _))
  have HV1 := Lib.hid ((show W1.heap[w.heap.size + 1]? = some (oV vk vp vq vs vr) by rw [hW1]; exact heap2_b _ _ _))
  have HC1 := Lib.hid (Held.below HC HB1.out)
  have HC1a := Lib.hid (HC1.out.1)
  have HP1 := Lib.hid (hP.below HB1.out)
  have hz1 : w.heap.size + 1 < W1.heap.size := (Array.getElem?_eq_some_iff.1 HV1.out).1
  have hcl := (Array.getElem?_eq_some_iff.1 HC1a.out).1
  have HSet := Lib.hid (fun W (hb2 : Below W1.heap.size W1 W) => HS W (below_next HB1.out hb2))
  have HKP := Lib.hid (fun (W W' : World) (O2 : Nat → Prop) (hb2 : Below W1.heap.size W1 W) (hq : QS base O W O2 W') => (show W'.heap[c]? = some (oCt h nm (.slice so na ca)) ∧ W'.heap[w.heap.size]? = some (oV 4 0 0 ⟨#[]⟩ ((ti : Int) + 1)) ∧ W'.heap[w.heap.size + 1]? = some (oV vk vp vq vs vr) from ⟨((HC1.out.below hb2).qs hq (npb (by decide))).1, (hq.keep (hkeep hb2 HT1.out) (npb (by decide)) (fun e => Nat.lt_irrefl _ (hP.lt _ e))).1, (hq.keep (hkeep hb2 HV1.out) (npb (by decide)) (fun e => by have := hP.lt _ e; omega)).1⟩))
  have HQB := Lib.hid (QS.of_below (base := base) (O := O) HB1.out)
  clear HC hP HS
  go_enter Tryz.func64, Tryz.ntmps64
  go_upto_region 1 with fail
  try rw [show (w.alloc (oV 4 0 0 ⟨#[]⟩ ((ti : Int) + 1))).alloc (oV vk vp vq vs vr) = W1 from hW1.symm]
  clear hW1
  have SOQ := Lib.hid (fun (W : World) (h1 : W.heap[c]? = some (oCt h nm (.slice so na ca))) (h2 : W.heap[w.heap.size]? = some (oV 4 0 0 ⟨#[]⟩ ((ti : Int) + 1))) (h3 : W.heap[w.heap.size + 1]? = some (oV vk vp vq vs vr)) => (show W.cell? ⟨c, 0, none⟩ = some (.pointer (some ⟨h, 0, none⟩)) ∧ W.cell? ⟨w.heap.size, 0, none⟩ = some (.int .i64 4) ∧ W.cell? ⟨w.heap.size, 1, none⟩ = some (.int .i64 0) ∧ W.cell? ⟨w.heap.size, 2, none⟩ = some (.int .i64 0) ∧ W.cell? ⟨w.heap.size, 3, none⟩ = some (.string ⟨#[]⟩) ∧ W.cell? ⟨w.heap.size, 4, none⟩ = some (.int .i64 ((ti : Int) + 1)) ∧ W.cell? ⟨w.heap.size + 1, 0, none⟩ = some (.int .i64 vk) ∧ W.cell? ⟨w.heap.size + 1, 1, none⟩ = some (.int .i64 vp) ∧ W.cell? ⟨w.heap.size + 1, 2, none⟩ = some (.int .i64 vq) ∧ W.cell? ⟨w.heap.size + 1, 3, none⟩ = some (.string vs) ∧ W.cell? ⟨w.heap.size + 1, 4, none⟩ = some (.int .i64 vr) from ⟨(cells16 h1).1, (cells5 h2).1, (cells5 h2).2.1, (cells5 h2).2.2.1, (cells5 h2).2.2.2.1, (cells5 h2).2.2.2.2, (cells5 h3).1, (cells5 h3).2.1, (cells5 h3).2.2.1, (cells5 h3).2.2.2.1, (cells5 h3).2.2.2.2⟩))
  have SO := Lib.hid (fun (W : World) (hb2 : Below W1.heap.size W1 W) => SOQ.out W (hkeep hb2 HC1a.out) (hkeep hb2 HT1.out) (hkeep hb2 HV1.out))
  have HBc := Lib.hid ((Below.refl W1.heap.size W1).drew)
  go_region_held3 (fun w' => w'.cell? ⟨c, 0, none⟩ = some (.pointer (some ⟨h, 0, none⟩)) ∧ w'.cell? ⟨w.heap.size, 0, none⟩ = some (.int .i64 4) ∧ w'.cell? ⟨w.heap.size, 1, none⟩ = some (.int .i64 0) ∧ w'.cell? ⟨w.heap.size, 2, none⟩ = some (.int .i64 0) ∧ w'.cell? ⟨w.heap.size, 3, none⟩ = some (.string ⟨#[]⟩) ∧ w'.cell? ⟨w.heap.size, 4, none⟩ = some (.int .i64 ((ti : Int) + 1)) ∧ w'.cell? ⟨w.heap.size + 1, 0, none⟩ = some (.int .i64 vk) ∧ w'.cell? ⟨w.heap.size + 1, 1, none⟩ = some (.int .i64 vp) ∧ w'.cell? ⟨w.heap.size + 1, 2, none⟩ = some (.int .i64 vq) ∧ w'.cell? ⟨w.heap.size + 1, 3, none⟩ = some (.string vs) ∧ w'.cell? ⟨w.heap.size + 1, 4, none⟩ = some (.int .i64 vr))
    (first | with_reducible exact SO.out _ HBc.out | with_reducible exact SOQ.out _ HXc.out HXt.out HXv.out)
    (first | (go_at_call 54; (with_reducible refine (HO.out _).mono ?_); rintro e nw1 ⟨rfl, hb⟩; have HBc := Lib.hid (below_next HBc.out hb); clear hb) | (go_at_call 23; (with_reducible refine (HSet.out _ HBc.out).mono ?_); rintro e nw2 ⟨rfl, O2, hP2, hq2⟩; have HX2 := Lib.hid (And.intro hP2 hq2); have HXk := Lib.hid (HKP.out _ _ _ HBc.out hq2); have HXc := Lib.hid HXk.out.1; have HXt := Lib.hid HXk.out.2.1; have HXv := Lib.hid HXk.out.2.2; clear hP2 hq2) | (go_at_call 62; (with_reducible refine (HSt.out _).mono ?_); rintro e nw3 ⟨rfl, rfl⟩))
  go_wp2
  go_end0
  obtain ⟨hP2, hq2⟩ := HX2.out
  exact ⟨rfl, O2, hP2, (HQB.out.trans (QS.of_below HBc.out)).trans hq2⟩
set_option maxRecDepth 100000 in
set_option maxHeartbeats 8000000 in
theorem tPack_c (w : World) (c h : Nat) (nm : ByteArray) (so : Option Addr) (cap : Nat) {base n : Nat} {M0 : LH} {AA0 : List (List V)} {O : Nat → Prop} (vs : List V) (hP : PHp base n w h M0 AA0 O) (hb : base ≤ w.heap.size) (hn : n + vs.length ≤ 980) (hL : AA0.length = M0.length) (hM0 : M0.length ≤ 900) (HC : Held w O c (oCt h nm (.slice so vs.length cap))) (hA : Vals w (.slice so vs.length cap) vs) (g : Nat) (cs : Array Value) (hG : vs = [] ∨ (∃ o, so = some ⟨g, o, none⟩) ∧ Held w O g (.cells cs 30)) (hV : ∀ v ∈ vs, validV v = true ∧ WfV v) (hl : vs.length ≤ 300) :
    Calls Tryz.prog 28 #[.pointer (some ⟨c, 0, none⟩)] w (PkPost base (n + vs.length + 1) O h M0 AA0 vs w) := by
  have HNT := Lib.hid (fun W (hb2 : Below w.heap.size w W) => pNewTableP_c (hP.below hb2) (by have := hb2.size; omega) (by omega))
  have HSt := Lib.hid (fun W => tStored_c W (.pointer (some ⟨c, 0, none⟩)))
  have HG := Lib.hid (hG)
  have HV := Lib.hid (hV)
  have HA := Lib.hid (hA)
  have HCC := Lib.hid (HC)
  have HOL := Lib.hid (hP.lt)
  have HLL := Lib.hid (hL)
  obtain ⟨OC, hOC⟩ : ∃ OC, OC = oCt h nm (.slice so vs.length cap) := ⟨_, rfl⟩
  obtain ⟨W1, hW1⟩ : ∃ W1, W1 = w.alloc oAc := ⟨_, rfl⟩
  have HB1 := Lib.hid ((show Below w.heap.size w W1 by rw [hW1]; exact below1 _ _))
  have HC1 := Lib.hid (Held.below HC HB1.out)
  have Ha1 := Lib.hid (((show Held W1 O w.heap.size oAc by rw [hW1]; exact ⟨heap1 w oAc, fun e => Nat.lt_irrefl _ (hP.lt _ e)⟩)))
  have HG1 := Lib.hid ((show vs = [] ∨ Held W1 O g (.cells cs 30) from hG.imp id (fun h => h.2.below HB1.out)))
  have HNT1 := Lib.hid (HNT.out _ HB1.out)
  have hcl := (Array.getElem?_eq_some_iff.1 HC1.out.1).1
  have hal := (Array.getElem?_eq_some_iff.1 Ha1.out.1).1
  have c0 : W1.cell? ⟨c, 0, none⟩ = some (.pointer (some ⟨h, 0, none⟩)) := by rw [cell_of_heap HC1.out.1]; rfl
  clear hG hV hA hP HC hL
  go_enter Tryz.func28, Tryz.ntmps28
  go_upto_region 1 with fail
  try rw [show w.alloc oAc = W1 from hW1.symm]
  clear hW1
  go_wp2_with fail
  refine HNT1.out.mono ?_
  rintro e w2 ⟨rfl, hP2, hq2⟩
  have HP2 := Lib.hid (hP2)
  have HQ2 := Lib.hid ((QS.of_below (base := base) (O := O) HB1.out).trans hq2)
  have HC2 := Lib.hid (Held.qs (O := O) HC1.out hq2 (npb (by decide)))
  have Ha2 := Lib.hid (Held.qs (O := O) Ha1.out hq2 (npb (by decide)))
  have HG2 := Lib.hid ((show vs = [] ∨ Held w2 O g (.cells cs 30) from HG1.out.imp id (fun h => Held.qs (O := O) h hq2 (npb (by decide)))))
  have hz2 := hq2.size
  clear hP2 hq2 c0 hal hcl
  obtain ⟨W3, hW3⟩ : ∃ W3, W3 = w2.alloc (oV 4 0 0 ⟨#[]⟩ ((M0.length : Int) + 1)) := ⟨_, rfl⟩
  have HB3 := Lib.hid ((show Below w2.heap.size w2 W3 by rw [hW3]; exact below1 _ _))
  have HT3 := Lib.hid ((show Held W3 O w2.heap.size (oV 4 0 0 ⟨#[]⟩ ((M0.length : Int) + 1)) by rw [hW3]; exact ⟨heap1 _ _, fun e => Nat.lt_irrefl _ (HP2.out.lt _ e)⟩))
  have HP3 := Lib.hid (HP2.out.below HB3.out)
  have HQ3 := Lib.hid (HQ2.out.trans (QS.of_below (base := base) (O := O) HB3.out))
  have HC3 := Lib.hid (Held.below HC2.out HB3.out)
  have Ha3 := Lib.hid (Held.below Ha2.out HB3.out)
  have HG3 := Lib.hid ((show vs = [] ∨ Held W3 O g (.cells cs 30) from HG2.out.imp id (fun h => Held.below h HB3.out)))
  have hcl := (Array.getElem?_eq_some_iff.1 HC3.out.1).1
  have c2 : W3.cell? ⟨c, 2, none⟩ = some (.slice so vs.length cap) := by rw [cell_of_heap HC3.out.1]; rfl
  obtain ⟨b3, hb3⟩ : ∃ b3, b3 = w2.heap.size := ⟨_, rfl⟩
  rw [← hb3] at HT3
  have hbw : w.heap.size < b3 := by have := HB1.out.size; have := (Array.getElem?_eq_some_iff.1 Ha2.out.1).1; omega
  have hcl2 := (Array.getElem?_eq_some_iff.1 HC2.out.1).1
  have hcb : ¬ c = b3 := by omega
  have hcw : ¬ c = w.heap.size := by have := (Array.getElem?_eq_some_iff.1 HCC.out.1).1; omega
  go_upto_region 2 with fail
  try rw [show w2.alloc (oV 4 0 0 ⟨#[]⟩ ((M0.length : Int) + 1)) = W3 from hW3.symm]
  try rw [← hb3]
  clear hW3 hb3
  go_wp2_with fail
  refine (HSt.out _).mono ?_
  rintro e w4 ⟨rfl, rfl⟩
  go_wp2
  go_loopg [23] vs.length (fun gg s23 wr => ∃ i, i + gg = vs.length ∧ s23 = .int .i64 (i : Int) ∧ Hid (PkR base n h M0 AA0 vs O w c OC b3 g cs i wr))
  case atStart => exact ⟨0, by omega, rfl, O, HP3.out, HQ3.out, Ha3.out, by rw [hOC]; exact HC3.out, HT3.out, HG3.out⟩
  case round =>
    obtain ⟨i, hi, rfl, HK⟩ := hrel
    obtain ⟨O1, hP5, hq5, ha5, hc5, ht5, hg5⟩ := HK.out
    rw [hOC] at hc5
    have HP5 := Lib.hid (hP5)
    have HQ5 := Lib.hid (hq5)
    have Ha5 := Lib.hid (ha5)
    have HC5 := Lib.hid (hc5)
    have HT5 := Lib.hid (ht5)
    have HG5 := Lib.hid (hg5)
    have hz5 := hq5.size
    have hcr := (Array.getElem?_eq_some_iff.1 hc5.1).1
    have htr := (Array.getElem?_eq_some_iff.1 ht5.1).1
    have har := (Array.getElem?_eq_some_iff.1 ha5.1).1
    clear hP5 hq5 ha5 hc5 ht5 hg5 HK
    by_cases hlt : i < vs.length
    · have d1 : decide ((i : Int) < (vs.length : Int)) = true := decide_eq_true (by omega)
      obtain ⟨u, hu⟩ : ∃ u, vs[i]? = some u := ⟨_, List.getElem?_eq_getElem hlt⟩
      obtain ⟨huv, huw⟩ := HV.out u (List.mem_of_getElem? hu)
      obtain ⟨uk, up, uq, us, ur⟩ := u
      have hne : vs ≠ [] := fun h => by rw [h] at hlt; simp at hlt
      obtain ⟨o, rfl⟩ := (HG.out.resolve_left hne).1
      have HG6 := Lib.hid (HG5.out.resolve_left hne)
      have hgr := (Array.getElem?_eq_some_iff.1 HG6.out.1).1
      obtain ⟨_, b0, b1, b2, b3', b4⟩ := Vals.at_ (vals_held HA.out (HG6.out.1.trans ((HG.out.resolve_left hne).2.1).symm) hgr) hu
      simp only at b0 b1 b2 b3' b4
      have HU := Lib.hid (hu)
      have HUV := Lib.hid (huv)
      have HUW := Lib.hid (huw)
      clear hu huv huw hne
      obtain ⟨W6, hW6⟩ : ∃ W6, W6 = wr.alloc (oV uk up uq us ur) := ⟨_, rfl⟩
      have HB6 := Lib.hid ((show Below wr.heap.size wr W6 by rw [hW6]; exact below1 _ _))
      have HU6 := Lib.hid ((show Held W6 O1 wr.heap.size (oV uk up uq us ur) by rw [hW6]; exact ⟨heap1 _ _, fun e => Nat.lt_irrefl _ (HP5.out.lt _ e)⟩))
      have HP6 := Lib.hid (HP5.out.below HB6.out)
      have HC6 := Lib.hid (Held.below HC5.out HB6.out)
      have HT6 := Lib.hid (Held.below HT5.out HB6.out)
      have hcr6 := (Array.getElem?_eq_some_iff.1 HC6.out.1).1
      have htr6 := (Array.getElem?_eq_some_iff.1 HT6.out.1).1
      have hur6 := (Array.getElem?_eq_some_iff.1 HU6.out.1).1
      have c4 : W6.cell? ⟨c, 15, none⟩ = some (.bool false) := by rw [cell_of_heap HC6.out.1]; rfl
      obtain ⟨t0, t1, t2, t3, t4⟩ := cells5 HT6.out.1
      obtain ⟨u0, u1, u2, u3, u4⟩ := cells5 HU6.out.1
      have HS6 := Lib.hid (tSetX_c W6 c h nm (some ⟨g, o, none⟩) vs.length cap HP6.out HC6.out M0.length i (by omega) ((i : Int) + 1) rfl uk up uq us ur (fun W hbW => pkSet_c vs i (HP6.out.below hbW) (by have := HB6.out.size; have := hbW.size; omega) (by omega) (by omega) HLL.out hM0 (by omega) HU.out HUV.out HUW.out))
      go_upto_region 6 with fail
      try rw [show wr.alloc (oV uk up uq us ur) = W6 from hW6.symm]
      clear hW6
      go_wp2_with fail
      refine HS6.out.mono ?_
      rintro e w7 ⟨rfl, O2, hP7, hq7⟩
      have HQ7 := Lib.hid (HQ5.out.trans ((QS.of_below (base := base) (O := O1) HB6.out).trans hq7))
      have HX7 := Lib.hid ((show Held w7 O2 w.heap.size oAc ∧ Held w7 O2 c (oCt h nm (.slice (some ⟨g, o, none⟩) vs.length cap)) ∧ Held w7 O2 b3 (oV 4 0 0 ⟨#[]⟩ ((M0.length : Int) + 1)) ∧ Held w7 O2 g (.cells cs 30) from ⟨(Held.below Ha5.out HB6.out).qs hq7 (npb (by decide)), HC6.out.qs hq7 (npb (by decide)), HT6.out.qs hq7 (npb (by decide)), (Held.below HG6.out HB6.out).qs hq7 (npb (by decide))⟩))
      have HP7 := Lib.hid (hP7)
      clear hP7 hq7 c4 t0 t1 t2 t3 t4 u0 u1 u2 u3 u4 b0 b1 b2 b3' b4
      go_wp2
      go_roundg (vs.length - (i + 1))
      case measure => omega
      case rel => exact ⟨i + 1, by omega, by push_cast; rfl, O2, HP7.out, HQ7.out, HX7.out.1, by rw [hOC]; exact HX7.out.2.1, HX7.out.2.2.1, .inr HX7.out.2.2.2⟩
    · have hii : i = vs.length := by omega
      subst hii
      have d1 : decide ((vs.length : Int) < (vs.length : Int)) = false := decide_eq_false (by omega)
      have HSN := Lib.hid (fun W (hbW : Below wr.heap.size wr W) => pkSetN_c vs (HP5.out.below hbW) (by have := hbW.size; omega) (by omega) (by omega) HLL.out hM0 (by omega))
      have HOS := Lib.hid (fun W => (show Calls Tryz.prog 52 #[.string sN] W (fun e w' => e = .returned (.agg #[.int .i64 3, .int .i64 0, .int .i64 0, .string sN, .int .i64 0]) ∧ Below W.heap.size W w') from pOfString_c W sN))
      have HOI := Lib.hid (fun W => pOfInt_top W (vs.length : Nat) (by omega) (by omega))
      have HT5a := Lib.hid (HT5.out.1)
      have HC5a := Lib.hid (HC5.out.1)
      have c4 : wr.cell? ⟨c, 15, none⟩ = some (.bool false) := by rw [cell_of_heap HC5a.out]; rfl
      go_upto_region 10 with fail
      clear c4
      have HOL5 := Lib.hid (HP5.out.lt)
      have SOW := Lib.hid (fun (W : World) (h0 : W.heap[c]? = some (oCt h nm (.slice so vs.length cap))) (h1 : W.heap[b3]? = some ((oV 4 0 0 ⟨#[]⟩ ((M0.length : Int) + 1)))) => (show W.cell? ⟨c, 0, none⟩ = some (.pointer (some ⟨h, 0, none⟩)) ∧ W.cell? ⟨c, 2, none⟩ = some (.slice so vs.length cap) ∧ W.cell? ⟨b3, 0, none⟩ = some (.int .i64 4) ∧ W.cell? ⟨b3, 1, none⟩ = some (.int .i64 0) ∧ W.cell? ⟨b3, 2, none⟩ = some (.int .i64 0) ∧ W.cell? ⟨b3, 3, none⟩ = some (.string ⟨#[]⟩) ∧ W.cell? ⟨b3, 4, none⟩ = some (.int .i64 ((M0.length : Int) + 1)) from ⟨(cells16 h0).1, (cells16 h0).2.2.1, (cells5 h1).1, (cells5 h1).2.1, (cells5 h1).2.2.1, (cells5 h1).2.2.2.1, (cells5 h1).2.2.2.2⟩))
      have SO := Lib.hid (fun (oo : Option ((Nat → Prop) × Unit)) (W : World) (hI : IHp base (n + vs.length + 1) O1 wr h (M0 ++ [⟨4, V.nil, pkE vs⟩]) (AA0 ++ [vs.take (fstNil vs)]) (fun (_ : Unit) _ => True) oo W) => (show W.cell? ⟨c, 0, none⟩ = some (.pointer (some ⟨h, 0, none⟩)) ∧ W.cell? ⟨c, 2, none⟩ = some (.slice so vs.length cap) ∧ W.cell? ⟨b3, 0, none⟩ = some (.int .i64 4) ∧ W.cell? ⟨b3, 1, none⟩ = some (.int .i64 0) ∧ W.cell? ⟨b3, 2, none⟩ = some (.int .i64 0) ∧ W.cell? ⟨b3, 3, none⟩ = some (.string ⟨#[]⟩) ∧ W.cell? ⟨b3, 4, none⟩ = some (.int .i64 ((M0.length : Int) + 1)) from SOW.out W (by cases oo with | none => exact hkeep hI HC5.out.1 | some e => exact (hI.2.1.keep HC5.out.1 (npb (by decide)) HC5.out.2).1) (by cases oo with | none => exact hkeep hI HT5.out.1 | some e => exact (hI.2.1.keep HT5.out.1 (npb (by decide)) HT5.out.2).1)))
      apply wp_region_heap (fun (_ : Unit) _ => True) (fun _ _ => False) 13 () mixed (by kernel_rfl) (by kernel_rfl) (fun _ _ _ _ _ => trivial) (fun _ _ _ _ _ _ _ => trivial) (fun _ _ _ _ h => h.elim)
      iterate 6 (apply WalkG.take; (focus (intro p e W oo hI hH hN hF; refine ⟨by rfl, ?_⟩; obtain ⟨xc0, xc1, xc2, xc3, xc4, xc5, xc6⟩ := SO.out oo W hI; go_simp; (try with_reducible rfl))); (try simp only [Act.put, List.setIfInBounds_toArray, List.set_cons_zero, List.set_cons_succ, List.length_append, List.length_cons, List.length_nil, Nat.zero_add, Nat.reduceAdd]))
      (apply WalkG.val; (focus (intro p e W oo hI hH hN hF K hK; obtain rfl := hN (by kernel_rfl); have hIb := ihp_none hI; obtain ⟨xc0, xc1, xc2, xc3, xc4, xc5, xc6⟩ := SO.out none W hI; go_simp; (go_at_call 52; (with_reducible refine (HOS.out _).mono ?_); rintro e1 w1 ⟨rfl, hb⟩); exact hK _ _ ⟨rfl, hb⟩)); (try simp only [Act.put, List.setIfInBounds_toArray, List.set_cons_zero, List.set_cons_succ, List.length_append, List.length_cons, List.length_nil, Nat.zero_add, Nat.reduceAdd]))
      iterate 5 (apply WalkG.take; (focus (intro p e W oo hI hH hN hF; refine ⟨by rfl, ?_⟩; obtain ⟨xc0, xc1, xc2, xc3, xc4, xc5, xc6⟩ := SO.out oo W hI; go_simp; (try with_reducible rfl))); (try simp only [Act.put, List.setIfInBounds_toArray, List.set_cons_zero, List.set_cons_succ, List.length_append, List.length_cons, List.length_nil, Nat.zero_add, Nat.reduceAdd]))
      (apply WalkG.val; (focus (intro p e W oo hI hH hN hF K hK; obtain rfl := hN (by kernel_rfl); have hIb := ihp_none hI; obtain ⟨xc0, xc1, xc2, xc3, xc4, xc5, xc6⟩ := SO.out none W hI; go_simp; (go_at_call 54; (with_reducible refine (HOI.out _).mono ?_); rintro e1 w1 ⟨rfl, hb⟩); exact hK _ _ ⟨rfl, hb⟩)); (try simp only [Act.put, List.setIfInBounds_toArray, List.set_cons_zero, List.set_cons_succ, List.length_append, List.length_cons, List.length_nil, Nat.zero_add, Nat.reduceAdd]))
      (apply WalkG.hev (fun e => .int .i64 0); (focus (intro p e W hI hF K hK; have hIb := ihp_none hI; obtain ⟨xc0, xc1, xc2, xc3, xc4, xc5, xc6⟩ := SO.out none W hI; go_simp; (go_at_call 23; (with_reducible refine (HSN.out _ hIb).mono ?_); rintro e1 w1 ⟨rfl, O3, hP3, hq3⟩; exact hK _ _ ⟨(O3, ()), rfl, hev_done (Ex := fun (_ : Unit) _ => True) (Bl := fun _ _ => False) hIb HOL5.out hP3 hq3 () trivial (fun _ h => h.elim)⟩))); (try simp only [Act.put, List.setIfInBounds_toArray, List.set_cons_zero, List.set_cons_succ, List.length_append, List.length_cons, List.length_nil, Nat.zero_add, Nat.reduceAdd]))
      (apply WalkG.val; (focus (intro p e W oo hI hH hN hF K hK; obtain ⟨xc0, xc1, xc2, xc3, xc4, xc5, xc6⟩ := SO.out oo W hI; go_simp; (go_at_call 62; (with_reducible refine (HSt.out _).mono ?_); rintro e1 w1 ⟨rfl, rfl⟩; have hb : Below w1.heap.size w1 w1 := Below.refl _ _); exact hK _ _ ⟨rfl, hb⟩)); (try simp only [Act.put, List.setIfInBounds_toArray, List.set_cons_zero, List.set_cons_succ, List.length_append, List.length_cons, List.length_nil, Nat.zero_add, Nat.reduceAdd]))
      apply WalkG.nil
      intro p e W hI hA hS hD
      rotate_left
      focus kernel_rfl
      have HPn := Lib.hid (hI.1)
      have HQn := Lib.hid (HQ5.out.trans hI.2.1)
      have HXn := Lib.hid ((show Held W e.1 w.heap.size oAc ∧ Held W e.1 c (oCt h nm (.slice so vs.length cap)) ∧ Held W e.1 b3 (oV 4 0 0 ⟨#[]⟩ ((M0.length : Int) + 1)) from ⟨Ha5.out.qs hI.2.1 (npb (by decide)), HC5.out.qs hI.2.1 (npb (by decide)), HT5.out.qs hI.2.1 (npb (by decide))⟩))
      have HT9 := Lib.hid (HXn.out.2.2.1)
      have hzq := hI.2.1.size
      clear hI hA hS hD
      have hyw := (Array.getElem?_eq_some_iff.1 HXn.out.1.1).1
      have hyt := (Array.getElem?_eq_some_iff.1 HT9.out).1
      have hyc := (Array.getElem?_eq_some_iff.1 HXn.out.2.1.1).1
      obtain ⟨t0, t1, t2, t3, t4⟩ := cells5 HT9.out
      obtain ⟨ft0, ft1, ft2, ft3, ft4⟩ := froz5 HT9.out
      have HEN := Lib.hid ((show Calls Tryz.prog 60 #[.pointer (some ⟨c, 0, none⟩), .slice (some ⟨W.heap.size, 0, none⟩) 1 1] (W.alloc (oV 4 0 0 ⟨#[]⟩ ((M0.length : Int) + 1))) (RetPost (W.alloc (oV 4 0 0 ⟨#[]⟩ ((M0.length : Int) + 1))) [⟨4, 0, 0, ⟨#[]⟩, (M0.length : Int) + 1⟩]) from tEnd_c (W.alloc (oV 4 0 0 ⟨#[]⟩ ((M0.length : Int) + 1))) c h nm _ (heap1_old HXn.out.2.1.1 _) (some ⟨W.heap.size, 0, none⟩) 1 1 [⟨4, 0, 0, ⟨#[]⟩, (M0.length : Int) + 1⟩] (vals_block (A := [⟨4, 0, 0, ⟨#[]⟩, (M0.length : Int) + 1⟩]) (heap1 _ _)) (by simp)))
      go_wp2_with fail
      refine HEN.out.mono ?_
      rintro e9 w9 ⟨so3, cap3, rfl, hr, hb⟩
      have HR9 := Lib.hid (hr)
      have Ha9 := Lib.hid (hkeep hb (heap1_old HXn.out.1.1 _))
      have HP9 := Lib.hid ((HPn.out.below (below1 _ _)).below hb)
      have HQ9 := Lib.hid ((HQn.out.trans (QS.of_below (below1 _ _))).trans (QS.of_below hb))
      have hzs : W.heap.size ≤ (W.alloc (oV 4 0 0 ⟨#[]⟩ ((M0.length : Int) + 1))).heap.size := (below1 _ _).size
      clear hr hb
      have hya : w.heap.size < w9.heap.size := (Array.getElem?_eq_some_iff.1 Ha9.out).1
      obtain ⟨a0, a1, a2, a3, a4, a5, a6, a7, a8, a9, a10, a11⟩ := cells12 Ha9.out
      obtain ⟨fa0, fa1, fa2, fa3, fa4, fa5, fa6, fa7, fa8, fa9, fa10, fa11⟩ := froz12 Ha9.out
      go_wp2
      refine bodyPost_ret (by simp [results, Tryz.results28, go_sem, hya, a0, a1, a2, a3, a4, a5, a6, a7, a8, a9, a10, a11]; first | done | rfl) rfl ?_
      exact prP_end (A := [⟨4, 0, 0, ⟨#[]⟩, (M0.length : Int) + 1⟩]) (K := []) HR9.out (World.ownsRow_nil _ _ _ _) HP9.out HQ9.out Ha9.out (Nat.le_refl _) (by omega) (by omega) (fun b hb => by cases hb) _ _ _ _ _ _ _ _ _ _ _ _
end Go.Proofs.YtpbcmlnjiocmoaaGreatDoorR
