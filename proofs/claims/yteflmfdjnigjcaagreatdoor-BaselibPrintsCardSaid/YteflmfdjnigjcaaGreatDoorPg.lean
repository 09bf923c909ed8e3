import Derived.Test.YteflmfdjnigjcaaGreatDoorPj
set_option linter.unusedVariables false
set_option linter.unusedSimpArgs false
set_option maxRecDepth 100000
set_option maxHeartbeats 2000000
namespace Go.Proofs.YteflmfdjnigjcaaGreatDoor
open Go.RowKit Go.Proofs.Lexi
theorem pNewTableP_c {base n : Nat} {w : World} {h : Nat} {M : LH} {AA : List (List V)} {O : Nat → Prop} (hP : PHp base n w h M AA O) (hb : base ≤ w.heap.size) (hl : M.length ≤ 1000) :
    Calls Tryz.prog 8 #[.pointer (some ⟨h, 0, none⟩)] w (fun e w' => e = .returned (.tuple #[.agg #[.int .i64 4, .int .i64 0, .int .i64 0, .string ⟨#[]⟩, .int .i64 ((M.length : Int) + 1)], .int .i64 0]) ∧ PHp base n w' h (M ++ [⟨4, V.nil, []⟩]) (AA ++ [[]]) O ∧ QS base O w O w') :=
  grow_php hP hb hl (fun bo bt H hH hlH => pNewTable_c w h bo bt H hH hlH)
set_option maxRecDepth 100000 in
set_option maxHeartbeats 2000000 in
theorem keep_c (w : World) (c h : Nat) (nm : ByteArray) (g o cap : Nat) (cs : Array Value) (A : List V) {base n0 : Nat} {M : LH} {AA : List (List V)} {O : Nat → Prop} (hP : PHp base n0 w h M AA O) (hC : Held w O c (oClH h nm (.slice (some ⟨g, o, none⟩) A.length cap))) (hA : Vals w (.slice (some ⟨g, o, none⟩) A.length cap) A) (hG : Held w O g (.cells cs 30)) (hl : A.length ≤ 200) (hb0 : base ≤ w.heap.size) (hn : n0 + A.length ≤ 999) (hMl : M.length ≤ 500)
    (hv : ∀ v ∈ A, v.k ≠ 0 ∧ validV v = true ∧ WfV v) (j : Nat) (v : V) (hj : A[j]? = some v) (hs : ∀ k u, k < j → A[k]? = some u → IsStr u) (hr : i64 v.r) (fk fp fq : Int) (fs : ByteArray) (fr : Int) (hf : fk ≠ 0) (hh : handH (M ++ [⟨4, V.nil, []⟩]) v toStrN = ⟨fk, fp, fq, fs, fr⟩) :
    Calls Tryz.prog 133 #[.pointer (some ⟨c, 0, none⟩)] w (PrP base (n0 + A.length) O h (M ++ [⟨4, V.nil, []⟩]) (AA ++ [A]) 3 ⟨fk, fp, fq, fs, fr⟩ [v] ⟨#[]⟩ 0 1 [⟨4, 0, 0, ⟨#[]⟩, (M.length : Int) + 1⟩, nmV ((j : Int) + 1), nmV A.length] w) := by
  obtain ⟨R, hR⟩ : ∃ R : Ending → World → Prop, R = PrP base (n0 + A.length) O h (M ++ [⟨4, V.nil, []⟩]) (AA ++ [A]) 3 ⟨fk, fp, fq, fs, fr⟩ [v] ⟨#[]⟩ 0 1 [⟨4, 0, 0, ⟨#[]⟩, (M.length : Int) + 1⟩, nmV ((j : Int) + 1), nmV A.length] w := ⟨_, rfl⟩
  rw [← hR]
  have HR := Lib.hid (hR)
  have HP := Lib.hid (hP)
  have HC := Lib.hid (hC)
  have HA := Lib.hid (hA)
  have HG := Lib.hid (hG)
  have HV := Lib.hid (hv)
  have HJ := Lib.hid (hj)
  have HS := Lib.hid (hs)
  have HH := Lib.hid (hh)
  have HI := Lib.hid (hr)
  have HF := Lib.hid (hf)
  have HLen := Lib.hid (php_len hP)
  have hcl := (Array.getElem?_eq_some_iff.1 hC.1).1
  have hgl := (Array.getElem?_eq_some_iff.1 hG.1).1
  clear hR hP hC hA hG hv hj hs hh hr hf
  obtain ⟨c0, c1, c2, c3, c4, c5, c6, c7, c8, c9, c10, c11, c12, c13, c14, c15⟩ := cells16 (heap1_old HC.out.1 oAc)
  have HNT := Lib.hid (fun W (hb : Below w.heap.size w W) => pNewTableP_c (HP.out.below hb) (Nat.le_trans hb0 hb.size) (by omega))
  go_enter Tryz.func133, Tryz.ntmps133
  go_wp2_with fail
  refine (HNT.out _ (below1 _ _)).mono ?_
  rintro e w1 ⟨rfl, hP1, hq1⟩
  have HP1 := Lib.hid (hP1)
  have HQ1 := Lib.hid ((QS.of_below (base := base) (O := O) (below1 w oAc)).trans hq1)
  have HC1 := Lib.hid ((Held.below HC.out (below1 w oAc)).qs hq1 (npb (by decide)))
  have HG1 := Lib.hid ((Held.below HG.out (below1 w oAc)).qs hq1 (npb (by decide)))
  have HA1 := Lib.hid (Held.qs (w := w.alloc oAc) (O := O) ⟨heap1 w oAc, fun e => Nat.lt_irrefl _ (HP.out.lt _ e)⟩ hq1 (npb (by decide)))
  have hz1 := hq1.size
  simp at hz1
  clear hP1 hq1 c0 c1 c2 c3 c4 c5 c6 c7 c8 c9 c10 c11 c12 c13 c14 c15
  have hc1 := (Array.getElem?_eq_some_iff.1 HC1.out.1).1
  obtain ⟨c0, c1, c2, c3, c4, c5, c6, c7, c8, c9, c10, c11, c12, c13, c14, c15⟩ := cells16 (heap1_old HC1.out.1 (oV 4 0 0 ⟨#[]⟩ ((M.length : Int) + 1)))
  go_wp2
  clear c0 c1 c2 c3 c4 c5 c6 c7 c8 c9 c10 c11 c12 c13 c14 c15
  go_loopg [24] A.length (fun gg s24 wr => ∃ i, i + gg = A.length ∧ s24 = .int .i64 (i : Int) ∧ Hid (KpR base n0 h M AA A O w c g w1.heap.size (oClH h nm (.slice (some ⟨g, o, none⟩) A.length cap)) (.cells cs 30) (oV 4 0 0 ⟨#[]⟩ ((M.length : Int) + 1)) i wr))
  case atStart => exact ⟨0, by omega, rfl, O, HP1.out.below (below1 _ _), HQ1.out.trans (QS.of_below (below1 _ _)), Held.below HC1.out (below1 _ _), Held.below HG1.out (below1 _ _), Held.below HA1.out (below1 _ _), ⟨heap1 _ _, fun e => Nat.lt_irrefl _ (HP1.out.lt _ e)⟩⟩
  case round =>
    obtain ⟨i, hi, rfl, HK⟩ := hrel
    obtain ⟨O1, hP2, hq2, hc2, hg2, ha2, ht2⟩ := HK.out
    have HP2 := Lib.hid (hP2)
    have HQ2 := Lib.hid (hq2)
    have HC2 := Lib.hid (hc2)
    have HG2 := Lib.hid (hg2)
    have HA2 := Lib.hid (ha2)
    have HT2 := Lib.hid (ht2)
    have hz2 := hq2.size
    have hcr := (Array.getElem?_eq_some_iff.1 hc2.1).1
    have hgr := (Array.getElem?_eq_some_iff.1 hg2.1).1
    have har := (Array.getElem?_eq_some_iff.1 ha2.1).1
    have htr := (Array.getElem?_eq_some_iff.1 ht2.1).1
    clear hP2 hq2 hc2 hg2 ha2 ht2 HK
    by_cases hlt : i < A.length
    · obtain ⟨u, hu⟩ : ∃ u, A[i]? = some u := ⟨_, List.getElem?_eq_getElem hlt⟩
      obtain ⟨hu0, huv, huw⟩ := HV.out u (List.mem_of_getElem? hu)
      obtain ⟨uk, up, uq, us, ur⟩ := u
      have hu0 : uk ≠ 0 := hu0
      have e1 : (uk != 0) = true := bne_iff_ne.2 hu0
      obtain ⟨hg1, b0, b1, b2, b3, b4⟩ : g < wr.heap.size ∧ wr.cell? ⟨g, o + i * 5, none⟩ = some (.int .i64 uk) ∧ wr.cell? ⟨g, o + i * 5 + 1, none⟩ = some (.int .i64 up) ∧ wr.cell? ⟨g, o + i * 5 + 2, none⟩ = some (.int .i64 uq) ∧ wr.cell? ⟨g, o + i * 5 + 3, none⟩ = some (.string us) ∧ wr.cell? ⟨g, o + i * 5 + 4, none⟩ = some (.int .i64 ur) := Vals.at_ (vals_held HA.out (HG2.out.1.trans HG.out.1.symm) hgr) hu
      have HU := Lib.hid (hu)
      have HU0 := Lib.hid (hu0)
      have HUV := Lib.hid (huv)
      have HUW := Lib.hid (huw)
      clear hu hu0 huv huw
      go_upto_region 8 with fail
      obtain ⟨W3, hW3⟩ : ∃ W3, W3 = wr.alloc (oV uk up uq us ur) := ⟨_, rfl⟩
      have HB3 := Lib.hid ((show Below wr.heap.size wr W3 by rw [hW3]; exact below1 _ _))
      have HV3 := Lib.hid ((show W3.heap[wr.heap.size]? = some (oV uk up uq us ur) by rw [hW3]; exact heap1 _ _))
      have hz3 : wr.heap.size < W3.heap.size := by rw [hW3]; simp
      try rw [show wr.alloc (oV uk up uq us ur) = W3 from hW3.symm]
      clear hW3 b0 b1 b2 b3 b4 hg1
      have HP3 := Lib.hid (HP2.out.below HB3.out)
      have HC3 := Lib.hid (HC2.out.below HB3.out)
      have HC3a := Lib.hid (HC3.out.1)
      have HT3 := Lib.hid (HT2.out.below HB3.out)
      have HT3a := Lib.hid (HT3.out.1)
      have hc3 : c < W3.heap.size := by omega
      have ht3 : w1.heap.size < W3.heap.size := by omega
      have HOI := Lib.hid (fun (W : World) => (show Calls Tryz.prog 79 #[.int .i64 (IntKind.i64.wrap ((i : Int) + 1))] W (fun e w' => e = .returned (.agg #[.int .i64 2, .int .i64 ((i : Int) + 1), .int .i64 1, .string ⟨#[]⟩, .int .i64 0]) ∧ Below W.heap.size W w') from by rw [w64_in (by omega) (by omega)]; exact pOfInt_top W ((i : Int) + 1) (by omega) (by omega)))
      have hset : ∀ W, Below W3.heap.size W3 W → Calls Tryz.prog 9 #[.pointer (some ⟨h, 0, none⟩), .agg #[.int .i64 4, .int .i64 0, .int .i64 0, .string ⟨#[]⟩, .int .i64 ((M.length : Int) + 1)], .agg #[.int .i64 2, .int .i64 ((i : Int) + 1), .int .i64 1, .string ⟨#[]⟩, .int .i64 0], .agg #[.int .i64 uk, .int .i64 up, .int .i64 uq, .string us, .int .i64 ur]] W (fun e w' => e = .returned (.int .i64 0) ∧ ∃ O', PHp base (n0 + (i + 1)) w' h (M ++ [⟨4, V.nil, []⟩]) (AA ++ [A.take (i + 1)]) O' ∧ QS base O1 W O' w') := fun W hb => by
        have hlen : (A.take i).length = i := by rw [List.length_take]; omega
        have := set_push_c (HP3.out.below hb) (show base ≤ W.heap.size by have := hb.size; omega) (show n0 + i ≤ 999 by omega) (ti := M.length) (by omega) (o := ⟨4, V.nil, []⟩) (A := A.take i) (by simp) (by rw [← HLen.out]; simp) rfl (fun y hy => by cases hy) uk up uq us ur HU0.out HUV.out HUW.out
        rw [hlen, set_last HLen.out, show A.take i ++ [⟨uk, up, uq, us, ur⟩] = A.take (i + 1) from by rw [List.take_add_one, HU.out]; rfl] at this
        exact this
      have HSet := Lib.hid (hset)
      clear hset
      have HKP := Lib.hid (fun (W W' : World) (O2 : Nat → Prop) (hb : Below W3.heap.size W3 W) (hq : QS base O1 W O2 W') => (show Held W' O2 c (oClH h nm (.slice (some ⟨g, o, none⟩) A.length cap)) ∧ Held W' O2 w1.heap.size (oV 4 0 0 ⟨#[]⟩ ((M.length : Int) + 1)) ∧ W'.heap[wr.heap.size]? = some (oV uk up uq us ur) from ⟨(HC3.out.below hb).qs hq (npb (by decide)), (HT3.out.below hb).qs hq (npb (by decide)), (hq.keep (hkeep hb HV3.out) (npb (by decide)) (fun e => Nat.lt_irrefl _ (HP2.out.lt _ e))).1⟩))
      have SOQ := Lib.hid (fun (W : World) (h1 : W.heap[c]? = some (oClH h nm (.slice (some ⟨g, o, none⟩) A.length cap))) (h2 : W.heap[w1.heap.size]? = some (oV 4 0 0 ⟨#[]⟩ ((M.length : Int) + 1))) (h3 : W.heap[wr.heap.size]? = some (oV uk up uq us ur)) => (show W.cell? ⟨c, 0, none⟩ = some (.pointer (some ⟨h, 0, none⟩)) ∧ W.cell? ⟨w1.heap.size, 0, none⟩ = some (.int .i64 4) ∧ W.cell? ⟨w1.heap.size, 1, none⟩ = some (.int .i64 0) ∧ W.cell? ⟨w1.heap.size, 2, none⟩ = some (.int .i64 0) ∧ W.cell? ⟨w1.heap.size, 3, none⟩ = some (.string ⟨#[]⟩) ∧ W.cell? ⟨w1.heap.size, 4, none⟩ = some (.int .i64 ((M.length : Int) + 1)) ∧ W.cell? ⟨wr.heap.size, 0, none⟩ = some (.int .i64 uk) ∧ W.cell? ⟨wr.heap.size, 1, none⟩ = some (.int .i64 up) ∧ W.cell? ⟨wr.heap.size, 2, none⟩ = some (.int .i64 uq) ∧ W.cell? ⟨wr.heap.size, 3, none⟩ = some (.string us) ∧ W.cell? ⟨wr.heap.size, 4, none⟩ = some (.int .i64 ur) from ⟨(cells16 h1).1, (cells5 h2).1, (cells5 h2).2.1, (cells5 h2).2.2.1, (cells5 h2).2.2.2.1, (cells5 h2).2.2.2.2, (cells5 h3).1, (cells5 h3).2.1, (cells5 h3).2.2.1, (cells5 h3).2.2.2.1, (cells5 h3).2.2.2.2⟩))
      have SO := Lib.hid (fun (W : World) (hb : Below W3.heap.size W3 W) => (show W.cell? ⟨c, 0, none⟩ = some (.pointer (some ⟨h, 0, none⟩)) ∧ W.cell? ⟨w1.heap.size, 0, none⟩ = some (.int .i64 4) ∧ W.cell? ⟨w1.heap.size, 1, none⟩ = some (.int .i64 0) ∧ W.cell? ⟨w1.heap.size, 2, none⟩ = some (.int .i64 0) ∧ W.cell? ⟨w1.heap.size, 3, none⟩ = some (.string ⟨#[]⟩) ∧ W.cell? ⟨w1.heap.size, 4, none⟩ = some (.int .i64 ((M.length : Int) + 1)) ∧ W.cell? ⟨wr.heap.size, 0, none⟩ = some (.int .i64 uk) ∧ W.cell? ⟨wr.heap.size, 1, none⟩ = some (.int .i64 up) ∧ W.cell? ⟨wr.heap.size, 2, none⟩ = some (.int .i64 uq) ∧ W.cell? ⟨wr.heap.size, 3, none⟩ = some (.string us) ∧ W.cell? ⟨wr.heap.size, 4, none⟩ = some (.int .i64 ur) from ⟨(cells16 (hkeep hb HC3a.out)).1, (cells5 (hkeep hb HT3a.out)).1, (cells5 (hkeep hb HT3a.out)).2.1, (cells5 (hkeep hb HT3a.out)).2.2.1, (cells5 (hkeep hb HT3a.out)).2.2.2.1, (cells5 (hkeep hb HT3a.out)).2.2.2.2, (cells5 (hkeep hb HV3.out)).1, (cells5 (hkeep hb HV3.out)).2.1, (cells5 (hkeep hb HV3.out)).2.2.1, (cells5 (hkeep hb HV3.out)).2.2.2.1, (cells5 (hkeep hb HV3.out)).2.2.2.2⟩))
      have HBc := Lib.hid ((Below.refl W3.heap.size W3).drew)
      go_region_held3 (fun w' => w'.cell? ⟨c, 0, none⟩ = some (.pointer (some ⟨h, 0, none⟩)) ∧ w'.cell? ⟨w1.heap.size, 0, none⟩ = some (.int .i64 4) ∧ w'.cell? ⟨w1.heap.size, 1, none⟩ = some (.int .i64 0) ∧ w'.cell? ⟨w1.heap.size, 2, none⟩ = some (.int .i64 0) ∧ w'.cell? ⟨w1.heap.size, 3, none⟩ = some (.string ⟨#[]⟩) ∧ w'.cell? ⟨w1.heap.size, 4, none⟩ = some (.int .i64 ((M.length : Int) + 1)) ∧ w'.cell? ⟨wr.heap.size, 0, none⟩ = some (.int .i64 uk) ∧ w'.cell? ⟨wr.heap.size, 1, none⟩ = some (.int .i64 up) ∧ w'.cell? ⟨wr.heap.size, 2, none⟩ = some (.int .i64 uq) ∧ w'.cell? ⟨wr.heap.size, 3, none⟩ = some (.string us) ∧ w'.cell? ⟨wr.heap.size, 4, none⟩ = some (.int .i64 ur))
        (first | with_reducible exact SO.out _ HBc.out | with_reducible exact SO.out _ (HBc.out.alloc HBc.out.size _) | with_reducible exact SOQ.out _ HXc.out HXt.out HXv.out)
        (first | (go_at_call 79; (with_reducible refine (HOI.out _).mono ?_); rintro e nw1 ⟨rfl, hb⟩; have HBc := Lib.hid (below_next HBc.out hb); clear hb) | (go_at_call 9; (with_reducible refine (HSet.out _ HBc.out).mono ?_); rintro e nw2 ⟨rfl, O2, hP2, hq2⟩; have HX2 := Lib.hid (And.intro hP2 hq2); have HXk := Lib.hid (HKP.out _ _ _ HBc.out hq2); have HXc := Lib.hid HXk.out.1.1; have HXt := Lib.hid HXk.out.2.1.1; have HXv := Lib.hid HXk.out.2.2; clear hP2 hq2))
      go_wp2
      have HBf := Lib.hid (below_next HB3.out HBc.out)
      go_roundg (A.length - (i + 1))
      case measure => omega
      case rel =>
        obtain ⟨hP2, hq2⟩ := HX2.out
        exact ⟨i + 1, by omega, by push_cast; rfl, O2, hP2, HQ2.out.trans ((QS.of_below HBf.out).trans hq2), HXk.out.1, (HG2.out.below HBf.out).qs hq2 (npb (by decide)), (HA2.out.below HBf.out).qs hq2 (npb (by decide)), HXk.out.2.1⟩
    · have hii : i = A.length := by omega
      subst hii
      have HC2a := Lib.hid (HC2.out.1)
      have HT2a := Lib.hid (HT2.out.1)
      have HPT := Lib.hid ((show PHp base (n0 + A.length) wr h (M ++ [⟨4, V.nil, []⟩]) (AA ++ [A]) O1 by have := HP2.out; rwa [List.take_length] at this))
      have hjl : j < A.length := (List.getElem?_eq_some_iff.1 HJ.out).1
      have hpr : ∀ W, Below wr.heap.size wr W → Calls Tryz.prog 100 #[.pointer (some ⟨h, 0, none⟩), .agg #[.int .i64 4, .int .i64 0, .int .i64 0, .string ⟨#[]⟩, .int .i64 ((M.length : Int) + 1)], .int .i64 1, .int .i64 (A.length : Nat)] W (PrP base (n0 + A.length) O1 h (M ++ [⟨4, V.nil, []⟩]) (AA ++ [A]) 3 ⟨fk, fp, fq, fs, fr⟩ [v] ⟨#[]⟩ 0 1 [⟨4, 0, 0, ⟨#[]⟩, (M.length : Int) + 1⟩, nmV ((j : Int) + 1), nmV A.length] W) := fun W hb =>
        printed_c W h (HPT.out.below hb) (by have := hb.size; omega) (by omega) M.length (by omega) ⟨4, V.nil, []⟩ A (by simp) (by rw [← HLen.out]; simp) rfl hl 0 j (Nat.zero_le _) (Nat.le_of_lt hjl) (fun k u _ hk hu => HS.out k u hk hu) fk fp fq fs fr HF.out (fun u hu => (HV.out u hu).2.2) _ (fun e => absurd e (by omega)) (fun u hu => by
          rw [HJ.out] at hu
          injection hu with hu
          subst hu
          exact ⟨⟨HI.out, HH.out⟩, fun e w' h => h⟩)
      have HPr := Lib.hid (hpr)
      clear hpr
      have HKP := Lib.hid (fun (W W' : World) (O2 : Nat → Prop) (hb : Below wr.heap.size wr W) (hq : QS base O1 W O2 W') => (show W'.heap[c]? = some (oClH h nm (.slice (some ⟨g, o, none⟩) A.length cap)) ∧ W'.heap[w1.heap.size]? = some (oV 4 0 0 ⟨#[]⟩ ((M.length : Int) + 1)) ∧ W'.heap[w.heap.size]? = some oAc from ⟨((HC2.out.below hb).qs hq (npb (by decide))).1, ((HT2.out.below hb).qs hq (npb (by decide))).1, ((HA2.out.below hb).qs hq (npb (by decide))).1⟩))
      go_upto_region 10 with fail
      have SOQ := Lib.hid (fun (W : World) (h1 : W.heap[c]? = some (oClH h nm (.slice (some ⟨g, o, none⟩) A.length cap))) (h2 : W.heap[w1.heap.size]? = some (oV 4 0 0 ⟨#[]⟩ ((M.length : Int) + 1))) => (show W.cell? ⟨c, 0, none⟩ = some (.pointer (some ⟨h, 0, none⟩)) ∧ W.cell? ⟨c, 2, none⟩ = some (.slice (some ⟨g, o, none⟩) A.length cap) ∧ W.cell? ⟨w1.heap.size, 0, none⟩ = some (.int .i64 4) ∧ W.cell? ⟨w1.heap.size, 1, none⟩ = some (.int .i64 0) ∧ W.cell? ⟨w1.heap.size, 2, none⟩ = some (.int .i64 0) ∧ W.cell? ⟨w1.heap.size, 3, none⟩ = some (.string ⟨#[]⟩) ∧ W.cell? ⟨w1.heap.size, 4, none⟩ = some (.int .i64 ((M.length : Int) + 1)) from ⟨(cells16 h1).1, (cells16 h1).2.2.1, (cells5 h2).1, (cells5 h2).2.1, (cells5 h2).2.2.1, (cells5 h2).2.2.2.1, (cells5 h2).2.2.2.2⟩))
      have SOQ12 := Lib.hid (fun (W : World) (c0 c1 c2 c3 c4 c5 c6 c7 c8 c9 c10 c11 : Value) (h1 : W.heap[c]? = some (oClH h nm (.slice (some ⟨g, o, none⟩) A.length cap))) (h2 : W.heap[w1.heap.size]? = some (oV 4 0 0 ⟨#[]⟩ ((M.length : Int) + 1))) => (show ((((((((((((W.setCell ⟨w.heap.size, 0, none⟩ c0).setCell ⟨w.heap.size, 1, none⟩ c1).setCell ⟨w.heap.size, 2, none⟩ c2).setCell ⟨w.heap.size, 3, none⟩ c3).setCell ⟨w.heap.size, 4, none⟩ c4).setCell ⟨w.heap.size, 5, none⟩ c5).setCell ⟨w.heap.size, 6, none⟩ c6).setCell ⟨w.heap.size, 7, none⟩ c7).setCell ⟨w.heap.size, 8, none⟩ c8).setCell ⟨w.heap.size, 9, none⟩ c9).setCell ⟨w.heap.size, 10, none⟩ c10).setCell ⟨w.heap.size, 11, none⟩ c11).cell? ⟨c, 0, none⟩ = some (.pointer (some ⟨h, 0, none⟩)) ∧ ((((((((((((W.setCell ⟨w.heap.size, 0, none⟩ c0).setCell ⟨w.heap.size, 1, none⟩ c1).setCell ⟨w.heap.size, 2, none⟩ c2).setCell ⟨w.heap.size, 3, none⟩ c3).setCell ⟨w.heap.size, 4, none⟩ c4).setCell ⟨w.heap.size, 5, none⟩ c5).setCell ⟨w.heap.size, 6, none⟩ c6).setCell ⟨w.heap.size, 7, none⟩ c7).setCell ⟨w.heap.size, 8, none⟩ c8).setCell ⟨w.heap.size, 9, none⟩ c9).setCell ⟨w.heap.size, 10, none⟩ c10).setCell ⟨w.heap.size, 11, none⟩ c11).cell? ⟨c, 2, none⟩ = some (.slice (some ⟨g, o, none⟩) A.length cap) ∧ ((((((((((((W.setCell ⟨w.heap.size, 0, none⟩ c0).setCell ⟨w.heap.size, 1, none⟩ c1).setCell ⟨w.heap.size, 2, none⟩ c2).setCell ⟨w.heap.size, 3, none⟩ c3).setCell ⟨w.heap.size, 4, none⟩ c4).setCell ⟨w.heap.size, 5, none⟩ c5).setCell ⟨w.heap.size, 6, none⟩ c6).setCell ⟨w.heap.size, 7, none⟩ c7).setCell ⟨w.heap.size, 8, none⟩ c8).setCell ⟨w.heap.size, 9, none⟩ c9).setCell ⟨w.heap.size, 10, none⟩ c10).setCell ⟨w.heap.size, 11, none⟩ c11).cell? ⟨w1.heap.size, 0, none⟩ = some (.int .i64 4) ∧ ((((((((((((W.setCell ⟨w.heap.size, 0, none⟩ c0).setCell ⟨w.heap.size, 1, none⟩ c1).setCell ⟨w.heap.size, 2, none⟩ c2).setCell ⟨w.heap.size, 3, none⟩ c3).setCell ⟨w.heap.size, 4, none⟩ c4).setCell ⟨w.heap.size, 5, none⟩ c5).setCell ⟨w.heap.size, 6, none⟩ c6).setCell ⟨w.heap.size, 7, none⟩ c7).setCell ⟨w.heap.size, 8, none⟩ c8).setCell ⟨w.heap.size, 9, none⟩ c9).setCell ⟨w.heap.size, 10, none⟩ c10).setCell ⟨w.heap.size, 11, none⟩ c11).cell? ⟨w1.heap.size, 1, none⟩ = some (.int .i64 0) ∧ ((((((((((((W.setCell ⟨w.heap.size, 0, none⟩ c0).setCell ⟨w.heap.size, 1, none⟩ c1).setCell ⟨w.heap.size, 2, none⟩ c2).setCell ⟨w.heap.size, 3, none⟩ c3).setCell ⟨w.heap.size, 4, none⟩ c4).setCell ⟨w.heap.size, 5, none⟩ c5).setCell ⟨w.heap.size, 6, none⟩ c6).setCell ⟨w.heap.size, 7, none⟩ c7).setCell ⟨w.heap.size, 8, none⟩ c8).setCell ⟨w.heap.size, 9, none⟩ c9).setCell ⟨w.heap.size, 10, none⟩ c10).setCell ⟨w.heap.size, 11, none⟩ c11).cell? ⟨w1.heap.size, 2, none⟩ = some (.int .i64 0) ∧ ((((((((((((W.setCell ⟨w.heap.size, 0, none⟩ c0).setCell ⟨w.heap.size, 1, none⟩ c1).setCell ⟨w.heap.size, 2, none⟩ c2).setCell ⟨w.heap.size, 3, none⟩ c3).setCell ⟨w.heap.size, 4, none⟩ c4).setCell ⟨w.heap.size, 5, none⟩ c5).setCell ⟨w.heap.size, 6, none⟩ c6).setCell ⟨w.heap.size, 7, none⟩ c7).setCell ⟨w.heap.size, 8, none⟩ c8).setCell ⟨w.heap.size, 9, none⟩ c9).setCell ⟨w.heap.size, 10, none⟩ c10).setCell ⟨w.heap.size, 11, none⟩ c11).cell? ⟨w1.heap.size, 3, none⟩ = some (.string ⟨#[]⟩) ∧ ((((((((((((W.setCell ⟨w.heap.size, 0, none⟩ c0).setCell ⟨w.heap.size, 1, none⟩ c1).setCell ⟨w.heap.size, 2, none⟩ c2).setCell ⟨w.heap.size, 3, none⟩ c3).setCell ⟨w.heap.size, 4, none⟩ c4).setCell ⟨w.heap.size, 5, none⟩ c5).setCell ⟨w.heap.size, 6, none⟩ c6).setCell ⟨w.heap.size, 7, none⟩ c7).setCell ⟨w.heap.size, 8, none⟩ c8).setCell ⟨w.heap.size, 9, none⟩ c9).setCell ⟨w.heap.size, 10, none⟩ c10).setCell ⟨w.heap.size, 11, none⟩ c11).cell? ⟨w1.heap.size, 4, none⟩ = some (.int .i64 ((M.length : Int) + 1)) from SOQ.out _ (heap12_old h1 (by omega) c0 c1 c2 c3 c4 c5 c6 c7 c8 c9 c10 c11) (heap12_old h2 (by omega) c0 c1 c2 c3 c4 c5 c6 c7 c8 c9 c10 c11)))
      have SO := Lib.hid (fun (W : World) (hb : Below wr.heap.size wr W) => (show W.cell? ⟨c, 0, none⟩ = some (.pointer (some ⟨h, 0, none⟩)) ∧ W.cell? ⟨c, 2, none⟩ = some (.slice (some ⟨g, o, none⟩) A.length cap) ∧ W.cell? ⟨w1.heap.size, 0, none⟩ = some (.int .i64 4) ∧ W.cell? ⟨w1.heap.size, 1, none⟩ = some (.int .i64 0) ∧ W.cell? ⟨w1.heap.size, 2, none⟩ = some (.int .i64 0) ∧ W.cell? ⟨w1.heap.size, 3, none⟩ = some (.string ⟨#[]⟩) ∧ W.cell? ⟨w1.heap.size, 4, none⟩ = some (.int .i64 ((M.length : Int) + 1)) from ⟨(cells16 (hkeep hb HC2a.out)).1, (cells16 (hkeep hb HC2a.out)).2.2.1, (cells5 (hkeep hb HT2a.out)).1, (cells5 (hkeep hb HT2a.out)).2.1, (cells5 (hkeep hb HT2a.out)).2.2.1, (cells5 (hkeep hb HT2a.out)).2.2.2.1, (cells5 (hkeep hb HT2a.out)).2.2.2.2⟩))
      have HBc := Lib.hid ((Below.refl wr.heap.size wr).drew)
      go_region_held3 (fun w' => w'.cell? ⟨c, 0, none⟩ = some (.pointer (some ⟨h, 0, none⟩)) ∧ w'.cell? ⟨c, 2, none⟩ = some (.slice (some ⟨g, o, none⟩) A.length cap) ∧ w'.cell? ⟨w1.heap.size, 0, none⟩ = some (.int .i64 4) ∧ w'.cell? ⟨w1.heap.size, 1, none⟩ = some (.int .i64 0) ∧ w'.cell? ⟨w1.heap.size, 2, none⟩ = some (.int .i64 0) ∧ w'.cell? ⟨w1.heap.size, 3, none⟩ = some (.string ⟨#[]⟩) ∧ w'.cell? ⟨w1.heap.size, 4, none⟩ = some (.int .i64 ((M.length : Int) + 1)))
        (first | with_reducible exact SO.out _ HBc.out | with_reducible exact SO.out _ (HBc.out.alloc HBc.out.size _) | with_reducible exact SOQ.out _ HXc.out HXt.out | with_reducible exact SOQ12.out _ _ _ _ _ _ _ _ _ _ _ _ _ HXc.out HXt.out)
        (first | (go_at_call 100; (with_reducible refine (HPr.out _ HBc.out).mono ?_); rintro e nw1 ⟨so2, cap2, sk2, ck2, O2, rfl, hr, hk, hP2, hq2, hno⟩; have HNO := Lib.hid hno; have HXk := Lib.hid (HKP.out _ _ _ HBc.out hq2); have HXc := Lib.hid HXk.out.1; have HXt := Lib.hid HXk.out.2.1; have HXa := Lib.hid HXk.out.2.2; have HR2 := Lib.hid hr; have HK2 := Lib.hid hk; have HX2 := Lib.hid (And.intro hP2 hq2); have hzN := HBc.out.size; (obtain ⟨a0, a1, a2, a3, a4, a5, a6, a7, a8, a9, a10, a11⟩ := cells12 HXa.out); (obtain ⟨fa0, fa1, fa2, fa3, fa4, fa5, fa6, fa7, fa8, fa9, fa10, fa11⟩ := froz12 HXa.out); have hyw := (Array.getElem?_eq_some_iff.1 HXa.out).1; clear hr hk hP2 hq2 hno))
      go_wp2
      refine bodyPost_ret (by simp [results, Tryz.results133, go_sem, hyw, a0, a1, a2, a3, a4, a5, a6, a7, a8, a9, a10, a11]; first | done | rfl) rfl ?_
      rw [HR.out]
      obtain ⟨hP2, hq2⟩ := HX2.out
      exact prP_end HR2.out HK2.out hP2 (HQ2.out.trans ((QS.of_below HBc.out).trans hq2)) HXa.out (Nat.le_refl _) (by omega) (by omega) HNO.out _ _ _ _ _ _ _ _ _ _ _ _
set_option maxRecDepth 100000 in
set_option maxHeartbeats 2000000 in
theorem show_keep (w : World) (c h : Nat) (nm : ByteArray) (g1 o1 cap : Nat) (cs : Array Value) (A : List V) {base n0 : Nat} {M : LH} {AA : List (List V)} {O : Nat → Prop} (hP : PHp base n0 w h M AA O) (hC : Held w O c (oClH h nm (.slice (some ⟨g1, o1, none⟩) A.length cap))) (hA : Vals w (.slice (some ⟨g1, o1, none⟩) A.length cap) A) (hG : Held w O g1 (.cells cs 30)) (hl : A.length ≤ 200) (hb0 : base ≤ w.heap.size) (hn2 : n0 + A.length ≤ 999) (hMl : M.length ≤ 500)
    (hv : ∀ v ∈ A, v.k ≠ 0 ∧ validV v = true ∧ WfV v) (j : Nat) (tk tp tq : Int) (ts : ByteArray) (tr : Int) (hj : A[j]? = some ⟨tk, tp, tq, ts, tr⟩) (hs : ∀ k u, k < j → A[k]? = some u → IsStr u) (hr : i64 tr) (fk fp fq : Int) (fs : ByteArray) (fr : Int) (hf : fk ≠ 0) (hh0 : handH M ⟨tk, tp, tq, ts, tr⟩ toStrN = ⟨fk, fp, fq, fs, fr⟩) (hh : handH (M ++ [⟨4, V.nil, []⟩]) ⟨tk, tp, tq, ts, tr⟩ toStrN = ⟨fk, fp, fq, fs, fr⟩) :
    Calls Tryz.prog 91 #[.pointer (some ⟨c, 0, none⟩)] w (PrP base (n0 + A.length) O h (M ++ [⟨4, V.nil, []⟩]) (AA ++ [A]) 3 ⟨fk, fp, fq, fs, fr⟩ [⟨tk, tp, tq, ts, tr⟩] ⟨#[]⟩ 0 1 [⟨4, 0, 0, ⟨#[]⟩, (M.length : Int) + 1⟩, nmV ((j : Int) + 1), nmV A.length] w) := by
  have hn : n0 ≤ 1000 := by omega
  have HC := hC.1
  have hjl : j < A.length := (List.getElem?_eq_some_iff.1 hj).1
  obtain ⟨R, hR⟩ : ∃ R : Ending → World → Prop, R = PrP base (n0 + A.length) O h (M ++ [⟨4, V.nil, []⟩]) (AA ++ [A]) 3 ⟨fk, fp, fq, fs, fr⟩ [⟨tk, tp, tq, ts, tr⟩] ⟨#[]⟩ 0 1 [⟨4, 0, 0, ⟨#[]⟩, (M.length : Int) + 1⟩, nmV ((j : Int) + 1), nmV A.length] w := ⟨_, rfl⟩
  rw [← hR]
  have HRR := Lib.hid (hR)
  have hkeep : ∀ W, Below w.heap.size w W → Calls Tryz.prog 133 #[.pointer (some ⟨c, 0, none⟩)] W (PrP base (n0 + A.length) O h (M ++ [⟨4, V.nil, []⟩]) (AA ++ [A]) 3 ⟨fk, fp, fq, fs, fr⟩ [⟨tk, tp, tq, ts, tr⟩] ⟨#[]⟩ 0 1 [⟨4, 0, 0, ⟨#[]⟩, (M.length : Int) + 1⟩, nmV ((j : Int) + 1), nmV A.length] W) := fun W hb =>
    keep_c W c h nm g1 o1 cap cs A (hP.below hb) (hC.below hb) (Vals.below hA hb) (hG.below hb) hl (Nat.le_trans hb0 hb.size) hn2 hMl hv j _ hj hs hr fk fp fq fs fr hf hh
  have HKeep := Lib.hid (hkeep)
  have HTab := Lib.hid (fun (W : World) (hb : Below w.heap.size w W) => (show Calls Tryz.prog 89 #[.pointer (some ⟨h, 0, none⟩), .agg #[.int .i64 tk, .int .i64 tp, .int .i64 tq, .string ts, .int .i64 tr]] W (fun e w' => ∃ g, e = .returned (.agg #[.int .i64 2, .int .i64 0, .int .i64 0, .int .i64 0, .string ⟨#[]⟩, .int .i64 0, .int .i64 fk, .int .i64 fp, .int .i64 fq, .string fs, .int .i64 fr, .slice (some ⟨g, 0, none⟩) 1 1, .int .i64 1, .string ⟨#[]⟩]) ∧ w'.heap[g]? = some (oV tk tp tq ts tr) ∧ W.heap.size ≤ g ∧ Below W.heap.size W w') from pTextTab_c (hP.below hb) hn tk tp tq ts tr hr fk fp fq fs fr hf hh0))
  have HJ := Lib.hid (hj)
  clear hkeep hR hr hh0 hh hf hv hG hC hj
  obtain ⟨i1, hi1, hi1a, hi1b, hi1c⟩ := info_parts infoStr
  have HA := Lib.hid (hA)
  have HP := Lib.hid (hP)
  have HS := Lib.hid (hs)
  have HCC := Lib.hid (HC)
  have hcl := (Array.getElem?_eq_some_iff.1 HC).1
  obtain ⟨c0, c1, c2, c3, c4, c5, c6, c7, c8, c9, c10, c11, c12, c13, c14, c15⟩ := cells16 (heap1_old HC oAc)
  clear hA hP hs HC
  go_enter Tryz.func91, Tryz.ntmps91
  go_wp2
  clear c0 c1 c2 c3 c4 c5 c6 c7 c8 c9 c10 c11 c12 c13 c14 c15
  go_loopg [3, 12] A.length (fun gg s3 s12 wr => ∃ i so2 cap2, i + gg = A.length ∧ i ≤ j ∧ s12 = .int .i64 (i : Int) ∧ s3 = .slice so2 i cap2 ∧ Hid (ShowR w c (oClH h nm (.slice (some ⟨g1, o1, none⟩) A.length cap)) A i (.slice so2 i cap2) wr))
  case atStart => exact ⟨0, none, 0, by omega, Nat.zero_le _, rfl, rfl, World.ownsRow_nil _ _ _ _, below1 _ _, heap1 _ _, heap1_old HCC.out _⟩
  case round =>
    obtain ⟨i, so2, cap2, hi, hij, rfl, rfl, HR⟩ := hrel
    by_cases hltj : i < j
    · have hlt : i < A.length := by omega
      obtain ⟨v, hv⟩ : ∃ v, A[i]? = some v := ⟨_, List.getElem?_eq_getElem hlt⟩
      have hvs := HS.out i v hltj hv
      obtain ⟨vk, vp, vq, s, vr⟩ := v
      obtain ⟨h1, h2, h3, h4, hsz⟩ := hvs
      have h1 : vk = 3 := h1
      have h2 : vp = 0 := h2
      have h3 : vq = 0 := h3
      have h4 : vr = 0 := h4
      subst h1 h2 h3 h4
      have hsz : s.size ≤ 4096 := hsz
      have HB := Lib.hid (HR.out.2.1)
      obtain ⟨hg1, b0, b1, b2, b3, b4⟩ : g1 < wr.heap.size ∧ wr.cell? ⟨g1, o1 + i * 5, none⟩ = some (.int .i64 3) ∧ wr.cell? ⟨g1, o1 + i * 5 + 1, none⟩ = some (.int .i64 0) ∧ wr.cell? ⟨g1, o1 + i * 5 + 2, none⟩ = some (.int .i64 0) ∧ wr.cell? ⟨g1, o1 + i * 5 + 3, none⟩ = some (.string s) ∧ wr.cell? ⟨g1, o1 + i * 5 + 4, none⟩ = some (.int .i64 0) := Vals.at_ (Vals.below HA.out HB.out) hv
      have HV := Lib.hid (hv)
      have HRow := Lib.hid (HR.out.1)
      have HAc := Lib.hid (HR.out.2.2.1)
      have HC0 := Lib.hid (HR.out.2.2.2)
      have HSZ := Lib.hid (hsz)
      clear hv HR hsz
      have hzr := HB.out.size
      go_upto_region 5 with fail
      obtain ⟨W1, hW1⟩ : ∃ W1, W1 = wr.alloc (oV 3 0 0 s 0) := ⟨_, rfl⟩
      have HB1 := Lib.hid ((show Below w.heap.size w W1 by rw [hW1]; exact HB.out.alloc HB.out.size _))
      have HV1 := Lib.hid ((show W1.heap[wr.heap.size]? = some (oV 3 0 0 s 0) by rw [hW1]; exact heap1 _ _))
      have HC1 := Lib.hid ((show W1.heap[c]? = some (oClH h nm (.slice (some ⟨g1, o1, none⟩) A.length cap)) by rw [hW1]; exact heap1_old HC0.out _))
      have HRo1 := Lib.hid ((show W1.ownsRow (w.heap.size + 1) 9 1 (.slice so2 i cap2) i ((A.take i).map fun v => .string v.s) by rw [hW1]; exact ownsRow_ext (below_ext (below1 _ _) (Nat.le_refl _)) HRow.out))
      have HAc1 := Lib.hid ((show W1.heap[w.heap.size]? = some oAc by rw [hW1]; exact heap1_old HAc.out _))
      have hz1 : wr.heap.size < W1.heap.size := by rw [hW1]; simp
      try rw [show wr.alloc (oV 3 0 0 s 0) = W1 from hW1.symm]
      clear hW1 b0 b1 b2 b3 b4 hg1
      have HT := Lib.hid (fun W (hb : Below W1.heap.size W1 W) => pTextStr2_c ((HP.out.below HB1.out).below hb) hn s HSZ.out)
      go_cut [6] (fun s6 wx => ∃ nb, s6 = .pointer (some ⟨nb, 0, none⟩) ∧ Hid (wx.heap[nb]? = some (oNdS s) ∧ Below W1.heap.size W1 wx ∧ W1.heap.size ≤ nb))
      case first =>
        have SO := Lib.hid (fun (W : World) (hb : Below W1.heap.size W1 W) => (show W.cell? ⟨c, 0, none⟩ = some (.pointer (some ⟨h, 0, none⟩)) ∧ W.cell? ⟨wr.heap.size, 0, none⟩ = some (.int .i64 3) ∧ W.cell? ⟨wr.heap.size, 1, none⟩ = some (.int .i64 0) ∧ W.cell? ⟨wr.heap.size, 2, none⟩ = some (.int .i64 0) ∧ W.cell? ⟨wr.heap.size, 3, none⟩ = some (.string s) ∧ W.cell? ⟨wr.heap.size, 4, none⟩ = some (.int .i64 0) ∧ Hid (Below W1.heap.size W1 W) from ⟨(cells16 (hkeep hb HC1.out)).1, (cells5 (hkeep hb HV1.out)).1, (cells5 (hkeep hb HV1.out)).2.1, (cells5 (hkeep hb HV1.out)).2.2.1, (cells5 (hkeep hb HV1.out)).2.2.2.1, (cells5 (hkeep hb HV1.out)).2.2.2.2, Lib.hid hb⟩))
        have BA := Lib.hid (fun (W : World) (o : Obj) (hb : Below W1.heap.size W1 W) => (show Below W1.heap.size W1 (W.alloc o) from hb.alloc hb.size o))
        have BD := Lib.hid (fun (W : World) (hb : Below W1.heap.size W1 W) => (show Below W1.heap.size W1 W.drew from hb.drew))
        have B14 := Lib.hid (fun (W : World) (b : Nat) (x0 x1 x2 x3 x4 x5 x6 x7 x8 x9 x10 x11 x12 x13 : Value) (hb : Below W1.heap.size W1 W) (hbb : W1.heap.size ≤ b) => below_fourteen hb hbb x0 x1 x2 x3 x4 x5 x6 x7 x8 x9 x10 x11 x12 x13)
        have hbR : Below W1.heap.size W1 W1 := Below.refl _ _
        have hbD : Below W1.heap.size W1 W1.drew := (Below.refl _ _).drew
        go_region_held3 (fun w' => w'.cell? ⟨c, 0, none⟩ = some (.pointer (some ⟨h, 0, none⟩)) ∧ w'.cell? ⟨wr.heap.size, 0, none⟩ = some (.int .i64 3) ∧ w'.cell? ⟨wr.heap.size, 1, none⟩ = some (.int .i64 0) ∧ w'.cell? ⟨wr.heap.size, 2, none⟩ = some (.int .i64 0) ∧ w'.cell? ⟨wr.heap.size, 3, none⟩ = some (.string s) ∧ w'.cell? ⟨wr.heap.size, 4, none⟩ = some (.int .i64 0) ∧ Hid (Below W1.heap.size W1 w'))
          (with_reducible refine SO.out _ ?_; repeat (first | with_reducible assumption | (with_reducible refine BA.out _ _ ?_) | (with_reducible refine BD.out _ ?_) | (with_reducible refine B14.out _ _ _ _ _ _ _ _ _ _ _ _ _ _ _ _ ?_ ?_) | omega))
          (first | (go_at_call 89; (with_reducible refine (HT.out _ (prj6a (by assumption))).mono ?_); rintro e nw1 ⟨rfl, hb⟩; have hb1 := below_next (prj6a (by assumption)) hb; have hz1b := hb1.size; (first | ((with_reducible have Hza := Lib.hid (hkeep hb (heap_newD W1 oNd))); have hza1 := (Array.getElem?_eq_some_iff.1 Hza.out).1; obtain ⟨z0, z1, z2, z3, z4, z5, z6, z7, z8, z9, z10, z11, z12, z13⟩ := cells14 Hza.out; obtain ⟨fz0, fz1, fz2, fz3, fz4, fz5, fz6, fz7, fz8, fz9, fz10, fz11, fz12, fz13⟩ := froz14 Hza.out) | ((with_reducible have Hza := Lib.hid (hkeep hb (heap_new W1 oNd))); have hza1 := (Array.getElem?_eq_some_iff.1 Hza.out).1; obtain ⟨z0, z1, z2, z3, z4, z5, z6, z7, z8, z9, z10, z11, z12, z13⟩ := cells14 Hza.out; obtain ⟨fz0, fz1, fz2, fz3, fz4, fz5, fz6, fz7, fz8, fz9, fz10, fz11, fz12, fz13⟩ := froz14 Hza.out) | skip); clear hb))
        all_goals
          go_wp2_with fail
          go_meet
          first
          | (with_reducible refine ⟨_, rfl, Lib.hid ⟨heap_new _ _, hb1.alloc hb1.size _, hb1.size⟩⟩)
          | (refine ⟨_, rfl, Lib.hid ⟨heap14_at Hza.out _ _ _ _ _ _ _ _ _ _ _ _ _ _, below_fourteen hb1 (Nat.le_refl _) _ _ _ _ _ _ _ _ _ _ _ _ _ _, Nat.le_refl _⟩⟩)
      case rest =>
        obtain ⟨nb, rfl, hx⟩ := hcut
        have HN2 := Lib.hid (hx.out.1)
        have HB2 := Lib.hid (below_next HB1.out hx.out.2.1)
        have HRo2 := Lib.hid (ownsRow_ext (below_ext hx.out.2.1 (Nat.le_refl _)) HRo1.out)
        have HAc2 := Lib.hid (hkeep hx.out.2.1 HAc1.out)
        have HC2 := Lib.hid (hkeep hx.out.2.1 HC1.out)
        have hz2 := hx.out.2.1.size
        have hnl := (Array.getElem?_eq_some_iff.1 HN2.out).1
        clear hx
        obtain ⟨n0, n1, n2, n3, n4, n5, n6, n7, n8, n9, n10, n11, n12, n13⟩ := cells14 HN2.out
        obtain ⟨xs, hxs⟩ : ∃ xs, xs = (A.take i).map (fun v : V => Value.string v.s) := ⟨_, rfl⟩
        rw [← hxs] at HRo2
        have HXS := Lib.hid (hxs)
        clear hxs
        go_wp2_with (at_builtin; refine wpList_append_own_at _ rfl (.tmp 27) (.tmp 31) 22 rfl (w.heap.size + 1) 9 i1 _ 1 16 Tryz.underlying22 hi1 hi1a hi1b hi1c rfl (by decide) (.slice so2 i cap2) i xs rfl ?A _ 1 1 [.string s] rfl rfl ?B ?C ?D ?E ?F ?G)
        case A => exact ownsRow_ext (below_ext (below1 _ _) (Nat.le_refl _)) HRo2.out
        case C => rfl
        case D => unfold maxLen; omega
        case E => omega
        case F => have := HB2.out.size; omega
        case G =>
          intro v' w5 hown hgrow _ hat
          obtain ⟨rb', cap', rfl⟩ := slice_shape hown (by omega)
          have hlo : ∀ b, (Value.slice so2 i cap2).ownBlock = some b → w.heap.size + 1 ≤ b := fun b hb => (ownBlock_lt HRo2.out hb).1
          have HB5 := Lib.hid (below_grown (HB2.out.alloc HB2.out.size _) hgrow (by have := HB2.out.size; simp; omega) (fun b hb => by have := hlo b hb; omega))
          have hcw : c < wc.heap.size := (Array.getElem?_eq_some_iff.1 HC2.out).1
          have haw : w.heap.size < wc.heap.size := (Array.getElem?_eq_some_iff.1 HAc2.out).1
          have HC5 := Lib.hid (hkeep HB5.out HCC.out)
          have HAc5 := Lib.hid ((hgrow.block w.heap.size (by simp; omega) (fun e => by have := hlo _ e.symm; omega)).trans (heap1_old HAc2.out _))
          have HO5 := Lib.hid (hown)
          clear hown hgrow hat hlo n0 n1 n2 n3 n4 n5 n6 n7 n8 n9 n10 n11 n12 n13
          go_wp2
          go_roundg (A.length - (i + 1))
          case measure => omega
          case rel =>
            refine ⟨i + 1, some ⟨rb', 0, none⟩, cap', by omega, by omega, by push_cast; rfl, rfl, ?_, HB5.out, HAc5.out, HC5.out⟩
            have := HO5.out
            rwa [show (A.take (i + 1)).map (fun v : V => Value.string v.s) = xs ++ [.string s] from by rw [HXS.out, List.take_add_one, HV.out, List.map_append]; rfl]
    · have hii : i = j := by omega
      subst hii
      have hlt : i < A.length := hjl
      have HB := Lib.hid (HR.out.2.1)
      obtain ⟨hg1, b0, b1, b2, b3, b4⟩ : g1 < wr.heap.size ∧ wr.cell? ⟨g1, o1 + i * 5, none⟩ = some (.int .i64 tk) ∧ wr.cell? ⟨g1, o1 + i * 5 + 1, none⟩ = some (.int .i64 tp) ∧ wr.cell? ⟨g1, o1 + i * 5 + 2, none⟩ = some (.int .i64 tq) ∧ wr.cell? ⟨g1, o1 + i * 5 + 3, none⟩ = some (.string ts) ∧ wr.cell? ⟨g1, o1 + i * 5 + 4, none⟩ = some (.int .i64 tr) := Vals.at_ (Vals.below HA.out HB.out) HJ.out
      have HRow := Lib.hid (HR.out.1)
      have HAc := Lib.hid (HR.out.2.2.1)
      have HC0 := Lib.hid (HR.out.2.2.2)
      clear HR
      have hzr := HB.out.size
      go_upto_region 5 with fail
      obtain ⟨W1, hW1⟩ : ∃ W1, W1 = wr.alloc (oV tk tp tq ts tr) := ⟨_, rfl⟩
      have HB1 := Lib.hid ((show Below w.heap.size w W1 by rw [hW1]; exact HB.out.alloc HB.out.size _))
      have HV1 := Lib.hid ((show W1.heap[wr.heap.size]? = some (oV tk tp tq ts tr) by rw [hW1]; exact heap1 _ _))
      have HC1 := Lib.hid ((show W1.heap[c]? = some (oClH h nm (.slice (some ⟨g1, o1, none⟩) A.length cap)) by rw [hW1]; exact heap1_old HC0.out _))
      have HRo1 := Lib.hid ((show W1.ownsRow (w.heap.size + 1) 9 1 (.slice so2 i cap2) i ((A.take i).map fun v => .string v.s) by rw [hW1]; exact ownsRow_ext (below_ext (below1 _ _) (Nat.le_refl _)) HRow.out))
      have HAc1 := Lib.hid ((show W1.heap[w.heap.size]? = some oAc by rw [hW1]; exact heap1_old HAc.out _))
      have hz1 : wr.heap.size < W1.heap.size := by rw [hW1]; simp
      try rw [show wr.alloc (oV tk tp tq ts tr) = W1 from hW1.symm]
      clear hW1 b0 b1 b2 b3 b4 hg1
      have HT := Lib.hid (fun W (hb : Below W1.heap.size W1 W) => HTab.out W (below_next HB1.out hb))
      go_cut [6] (fun s6 wx => ∃ nb g, s6 = .pointer (some ⟨nb, 0, none⟩) ∧ Hid (wx.heap[nb]? = some (oNdC fk fp fq fs fr g) ∧ Below W1.heap.size W1 wx ∧ W1.heap.size ≤ nb))
      case first =>
        have SO := Lib.hid (fun (W : World) (hb : Below W1.heap.size W1 W) => (show W.cell? ⟨c, 0, none⟩ = some (.pointer (some ⟨h, 0, none⟩)) ∧ W.cell? ⟨wr.heap.size, 0, none⟩ = some (.int .i64 tk) ∧ W.cell? ⟨wr.heap.size, 1, none⟩ = some (.int .i64 tp) ∧ W.cell? ⟨wr.heap.size, 2, none⟩ = some (.int .i64 tq) ∧ W.cell? ⟨wr.heap.size, 3, none⟩ = some (.string ts) ∧ W.cell? ⟨wr.heap.size, 4, none⟩ = some (.int .i64 tr) ∧ Hid (Below W1.heap.size W1 W) from ⟨(cells16 (hkeep hb HC1.out)).1, (cells5 (hkeep hb HV1.out)).1, (cells5 (hkeep hb HV1.out)).2.1, (cells5 (hkeep hb HV1.out)).2.2.1, (cells5 (hkeep hb HV1.out)).2.2.2.1, (cells5 (hkeep hb HV1.out)).2.2.2.2, Lib.hid hb⟩))
        have BA := Lib.hid (fun (W : World) (o : Obj) (hb : Below W1.heap.size W1 W) => (show Below W1.heap.size W1 (W.alloc o) from hb.alloc hb.size o))
        have BD := Lib.hid (fun (W : World) (hb : Below W1.heap.size W1 W) => (show Below W1.heap.size W1 W.drew from hb.drew))
        have B14 := Lib.hid (fun (W : World) (b : Nat) (x0 x1 x2 x3 x4 x5 x6 x7 x8 x9 x10 x11 x12 x13 : Value) (hb : Below W1.heap.size W1 W) (hbb : W1.heap.size ≤ b) => below_fourteen hb hbb x0 x1 x2 x3 x4 x5 x6 x7 x8 x9 x10 x11 x12 x13)
        have hbR : Below W1.heap.size W1 W1 := Below.refl _ _
        have hbD : Below W1.heap.size W1 W1.drew := (Below.refl _ _).drew
        go_region_held3 (fun w' => w'.cell? ⟨c, 0, none⟩ = some (.pointer (some ⟨h, 0, none⟩)) ∧ w'.cell? ⟨wr.heap.size, 0, none⟩ = some (.int .i64 tk) ∧ w'.cell? ⟨wr.heap.size, 1, none⟩ = some (.int .i64 tp) ∧ w'.cell? ⟨wr.heap.size, 2, none⟩ = some (.int .i64 tq) ∧ w'.cell? ⟨wr.heap.size, 3, none⟩ = some (.string ts) ∧ w'.cell? ⟨wr.heap.size, 4, none⟩ = some (.int .i64 tr) ∧ Hid (Below W1.heap.size W1 w'))
          (with_reducible refine SO.out _ ?_; repeat (first | with_reducible assumption | (with_reducible refine BA.out _ _ ?_) | (with_reducible refine BD.out _ ?_) | (with_reducible refine B14.out _ _ _ _ _ _ _ _ _ _ _ _ _ _ _ _ ?_ ?_) | omega))
          (first | (go_at_call 89; (with_reducible refine (HT.out _ (prj6a (by assumption))).mono ?_); rintro e nw1 ⟨g, rfl, _, _, hb⟩; have hb1 := below_next (prj6a (by assumption)) hb; have hz1b := hb1.size; (first | ((with_reducible have Hza := Lib.hid (hkeep hb (heap_newD W1 oNd))); have hza1 := (Array.getElem?_eq_some_iff.1 Hza.out).1; obtain ⟨z0, z1, z2, z3, z4, z5, z6, z7, z8, z9, z10, z11, z12, z13⟩ := cells14 Hza.out; obtain ⟨fz0, fz1, fz2, fz3, fz4, fz5, fz6, fz7, fz8, fz9, fz10, fz11, fz12, fz13⟩ := froz14 Hza.out) | ((with_reducible have Hza := Lib.hid (hkeep hb (heap_new W1 oNd))); have hza1 := (Array.getElem?_eq_some_iff.1 Hza.out).1; obtain ⟨z0, z1, z2, z3, z4, z5, z6, z7, z8, z9, z10, z11, z12, z13⟩ := cells14 Hza.out; obtain ⟨fz0, fz1, fz2, fz3, fz4, fz5, fz6, fz7, fz8, fz9, fz10, fz11, fz12, fz13⟩ := froz14 Hza.out) | skip); clear hb))
        all_goals
          go_wp2_with fail
          go_meet
          first
          | (with_reducible refine ⟨_, g, rfl, Lib.hid ⟨heap_new _ _, hb1.alloc hb1.size _, hb1.size⟩⟩)
          | (refine ⟨_, g, rfl, Lib.hid ⟨heap14_at Hza.out _ _ _ _ _ _ _ _ _ _ _ _ _ _, below_fourteen hb1 (Nat.le_refl _) _ _ _ _ _ _ _ _ _ _ _ _ _ _, Nat.le_refl _⟩⟩)
      case rest =>
        obtain ⟨nb, g, rfl, hx⟩ := hcut
        have HN2 := Lib.hid (hx.out.1)
        have HB2 := Lib.hid (below_next HB1.out hx.out.2.1)
        have HAc2 := Lib.hid (hkeep hx.out.2.1 HAc1.out)
        clear hx
        obtain ⟨n0', n1', n2', n3', n4', n5', n6', n7', n8', n9', n10', n11', n12', n13'⟩ := cells14 HN2.out
        go_wp2_with fail
        refine (HKeep.out _ HB2.out).mono ?_
        rintro e w3 ⟨so3, cap3, sk3, ck3, O3, rfl, hr, hk, hP3, hq3, hno⟩
        have HR3 := Lib.hid (hr)
        have HK3 := Lib.hid (hk)
        have HP3 := Lib.hid (hP3)
        have HQ3 := Lib.hid (hq3)
        have HNO := Lib.hid (hno)
        have HA3 := Lib.hid ((Held.qs (O := O) ⟨HAc2.out, fun e => Nat.lt_irrefl _ (HP.out.lt _ e)⟩ hq3 (npb (by decide))).1)
        have hlw := (Array.getElem?_eq_some_iff.1 HAc2.out).1
        have hzw := HB2.out.size
        clear hr hk hP3 hq3 hno n0' n1' n2' n3' n4' n5' n6' n7' n8' n9' n10' n11' n12' n13'
        have hya : w.heap.size < w3.heap.size := (Array.getElem?_eq_some_iff.1 HA3.out).1
        obtain ⟨a0, a1, a2, a3, a4, a5, a6, a7, a8, a9, a10, a11⟩ := cells12 HA3.out
        obtain ⟨fa0, fa1, fa2, fa3, fa4, fa5, fa6, fa7, fa8, fa9, fa10, fa11⟩ := froz12 HA3.out
        go_wp2
        refine bodyPost_ret (by simp [results, Tryz.results91, go_sem, hya, a0, a1, a2, a3, a4, a5, a6, a7, a8, a9, a10, a11]; first | done | rfl) rfl ?_
        rw [HRR.out]
        exact prP_end HR3.out HK3.out HP3.out ((QS.of_below HB2.out).trans HQ3.out) HA3.out (Nat.le_refl _) hlw hzw HNO.out _ _ _ _ _ _ _ _ _ _ _ _
theorem begin_lineP (w : World) (hw : Spaces w) (h : Nat) (so : Option Addr) (cap : Nat) (A : List V) (hA : Vals w (.slice so A.length cap) A) (hl : A.length ≤ 200) {base n0 : Nat} {M : LH} {AA : List (List V)} {O : Nat → Prop} (hP : PHp base n0 w h M AA O) (hn : n0 ≤ 1000) (hs : ∀ v ∈ A, IsStr v) :
    Calls Tryz.prog 12 #[.pointer (some ⟨h, 0, none⟩), .string prtN, .slice so A.length cap] w (PrP base n0 O h M AA (lineK (lineOf A)) V.nil (lineA (lineOf A)) (lineS (lineOf A)) (lineL (lineOf A)) 0 [] w) :=
  begin_show w so A.length cap hw (lineK (lineOf A)) 0 0 0 ⟨#[]⟩ 0 (lineA (lineOf A)) (lineS (lineOf A)) (lineL (lineOf A)) 0 [] hP.lt (fun W c hb hc _ =>
    plain_show W c (lineK (lineOf A)) 0 0 0 ⟨#[]⟩ 0 (lineA (lineOf A)) (lineS (lineOf A)) (lineL (lineOf A)) 0 [] (fun b hob => Nat.lt_of_lt_of_le (hP.lt b hob) hb.size) (fun W' hb' =>
      (show_line W' c h prtN so A.length cap A (hkeep hb' hc) (Vals.below (Vals.below hA hb) hb') (by omega) ((hP.below hb).below hb') hn hs).mono (fun e w' hp => line_prp ((hP.below hb).below hb') hp)))
theorem begin_tabP (w : World) (hw : Spaces w) (h : Nat) (g o cap : Nat) (cs : Array Value) (A : List V) (hA : Vals w (.slice (some ⟨g, o, none⟩) A.length cap) A) (hl : A.length ≤ 200) {base n0 : Nat} {M : LH} {AA : List (List V)} {O : Nat → Prop} (hP : PHp base n0 w h M AA O) (hG : Held w O g (.cells cs 30)) (hb0 : base ≤ w.heap.size) (hn2 : n0 + A.length ≤ 999) (hMl : M.length ≤ 500)
    (hv : ∀ v ∈ A, v.k ≠ 0 ∧ validV v = true ∧ WfV v) (j : Nat) (tk tp tq : Int) (ts : ByteArray) (tr : Int) (hj : A[j]? = some ⟨tk, tp, tq, ts, tr⟩) (hs : ∀ k u, k < j → A[k]? = some u → IsStr u) (hr : i64 tr) (fk fp fq : Int) (fs : ByteArray) (fr : Int) (hf : fk ≠ 0) (hh0 : handH M ⟨tk, tp, tq, ts, tr⟩ toStrN = ⟨fk, fp, fq, fs, fr⟩) (hh : handH (M ++ [⟨4, V.nil, []⟩]) ⟨tk, tp, tq, ts, tr⟩ toStrN = ⟨fk, fp, fq, fs, fr⟩) :
    Calls Tryz.prog 12 #[.pointer (some ⟨h, 0, none⟩), .string prtN, .slice (some ⟨g, o, none⟩) A.length cap] w (PrP base (n0 + A.length) O h (M ++ [⟨4, V.nil, []⟩]) (AA ++ [A]) 3 ⟨fk, fp, fq, fs, fr⟩ [⟨tk, tp, tq, ts, tr⟩] ⟨#[]⟩ 0 1 [⟨4, 0, 0, ⟨#[]⟩, (M.length : Int) + 1⟩, nmV ((j : Int) + 1), nmV A.length] w) :=
  begin_show w (some ⟨g, o, none⟩) A.length cap hw 3 fk fp fq fs fr [⟨tk, tp, tq, ts, tr⟩] ⟨#[]⟩ 0 1 [⟨4, 0, 0, ⟨#[]⟩, (M.length : Int) + 1⟩, nmV ((j : Int) + 1), nmV A.length] hP.lt (fun W c hb hc hcl =>
    plain_show W c 3 fk fp fq fs fr [⟨tk, tp, tq, ts, tr⟩] ⟨#[]⟩ 0 1 [⟨4, 0, 0, ⟨#[]⟩, (M.length : Int) + 1⟩, nmV ((j : Int) + 1), nmV A.length] (fun b hob => Nat.lt_of_lt_of_le (hP.lt b hob) hb.size) (fun W' hb' =>
      show_keep W' c h prtN g o cap cs A ((hP.below hb).below hb') ⟨hkeep hb' hc, fun e => by have := hP.lt _ e; omega⟩ (Vals.below (Vals.below hA hb) hb') ((hG.below hb).below hb') hl (Nat.le_trans hb0 (Nat.le_trans hb.size hb'.size)) hn2 hMl hv j tk tp tq ts tr hj hs hr fk fp fq fs fr hf hh0 hh))
/-- Begin, as the law calls it. -/
theorem begin_ex (w : World) (hw : Spaces w) (h : Nat) (g o cap : Nat) (cv : Array Value) (l : List ByteArray) (cs : List Bool) (hA : Vals w (.slice (some ⟨g, o, none⟩) l.length cap) (argL l cs l.length)) (hl : l.length ≤ 20) {base : Nat} {O : Nat → Prop} (hP : PHp base 1 w h (tM (nT cs l.length)) (List.replicate (nT cs l.length + 1) []) O) (hG : Held w O g (.cells cv 30)) (hb0 : base ≤ w.heap.size) (hs : ∀ k, k < l.length → (sAt l k).size ≤ 4096) (hT : ∀ k, k < l.length → isT cs k = true → nT cs k < nT cs l.length) :
    ∃ j kind f A s level next Kp, NX cs l.length 0 j ∧ ActI (nT cs l.length) l cs j kind f A s next Kp ∧ Calls Tryz.prog 12 #[.pointer (some ⟨h, 0, none⟩), .string prtN, .slice (some ⟨g, o, none⟩) l.length cap] w (BegP base O h (nT cs l.length) l cs j kind f A s level next Kp w) := by
  obtain ⟨j, hj⟩ := nx_ex cs l.length l.length 0 (by omega)
  have hal := argL_len l cs l.length
  have hk := nT_le2 cs l.length
  by_cases hjn : j < l.length
  · have htj := hj.2.2.2 hjn
    have hget : (argL l cs l.length)[j]? = some ⟨4, 0, 0, ⟨#[]⟩, (nT cs j : Int) + 2⟩ := by
      rw [← mix_zero, mix_get _ _ _ _ _ hjn, if_neg (Nat.not_lt_zero j)]
      unfold argV
      rw [htj]; rfl
    refine ⟨j, 3, fV, [argV l cs j], ⟨#[]⟩, 0, 1, [⟨4, 0, 0, ⟨#[]⟩, ((nT cs l.length + 1 : Nat) : Int) + 1⟩, nmV ((j : Int) + 1), nmV l.length], hj, .inl ⟨hjn, rfl, rfl, rfl, rfl, rfl⟩, ?_⟩
    have hnk := hT j hjn htj
    have := begin_tabP w hw h g o cap cv (argL l cs l.length) (by rw [hal]; exact hA) (by omega) hP hG hb0 (by omega) (by rw [tM_len]; omega) (fun v hv => by
      obtain ⟨k, hk2⟩ := List.getElem?_of_mem hv
      have hkn : k < l.length := by have := (List.getElem?_eq_some_iff.1 hk2).1; rwa [hal] at this
      rw [← mix_zero, mix_get _ _ _ _ _ hkn, if_neg (Nat.not_lt_zero k)] at hk2
      injection hk2 with hk2
      rw [← hk2]
      exact arg_valid l cs k (hs k hkn) (by omega)) j 4 0 0 ⟨#[]⟩ ((nT cs j : Int) + 2) hget (fun k u hkj hu => mix_str l cs l.length 0 k u hs (by rw [mix_zero]; exact hu) (.inr (hj.2.2.1 k (Nat.zero_le _) hkj))) ⟨by omega, by omega⟩ 6 0 0 ⟨#[102]⟩ 0 (by decide) (by have := hand_tab (nT cs l.length) (nT cs j) hnk []; rw [List.append_nil] at this; exact this) (hand_tab _ _ hnk _)
    rw [hal, tM_len] at this
    refine this.mono (fun e w' hp => ?_)
    have hav : argV l cs j = ⟨4, 0, 0, ⟨#[]⟩, (nT cs j : Int) + 2⟩ := by unfold argV; rw [htj]; rfl
    rw [hav]
    refine prp_beg (.inr ⟨rfl, rfl, ?_⟩) hp
    rw [← mix_zero, mix_eq l cs l.length 0 j (Nat.zero_le _) (fun k _ hkj => hj.2.2.1 k (Nat.zero_le _) hkj)]
  · have hje : j = l.length := by have := hj.2.1; omega
    subst hje
    refine ⟨l.length, lineK (wantB l l.length), V.nil, lineA (wantB l l.length), lineS (wantB l l.length), lineL (wantB l l.length), 0, [], hj, .inr ⟨rfl, rfl, rfl⟩, ?_⟩
    have hlo : lineOf (argL l cs l.length) = wantB l l.length := by rw [← mix_zero]; exact mix_line l cs 0 (fun k _ hkn => hj.2.2.1 k (Nat.zero_le _) hkn)
    have := begin_lineP w hw h (some ⟨g, o, none⟩) cap (argL l cs l.length) (by rw [hal]; exact hA) (by omega) hP (by omega) (fun v hv => by
      obtain ⟨k, hk2⟩ := List.getElem?_of_mem hv
      have hkn : k < l.length := by have := (List.getElem?_eq_some_iff.1 hk2).1; rwa [hal] at this
      exact mix_str l cs l.length 0 k v hs (by rw [mix_zero]; exact hk2) (.inr (hj.2.2.1 k (Nat.zero_le _) hkn)))
    rw [hlo, hal] at this
    exact this.mono (fun e w' hp => prp_beg (.inl rfl) hp)
/-- Next, as the law calls it. -/
theorem next_ex (w : World) (hw : Spaces w) (h K : Nat) (l : List ByteArray) (cs : List Bool) (hl : l.length ≤ 20) (hK : K ≤ 20) {base : Nat} {O : Nat → Prop} (j : Nat) (hj : j < l.length) (hP : PHp base (1 + l.length) w h (tM K ++ [⟨4, V.nil, []⟩]) (List.replicate (K + 1) [] ++ [mixL l cs l.length j]) O) (hb0 : base ≤ w.heap.size) (gk ck : Nat) (cv : Array Value) (hKv : Vals w (.slice (some ⟨gk, 0, none⟩) 3 ck) [⟨4, 0, 0, ⟨#[]⟩, ((K + 1 : Nat) : Int) + 1⟩, nmV ((j : Int) + 1), nmV l.length]) (hG : Held w O gk (.cells cv 30)) (so : Option Addr) (rcap : Nat) (hR : Vals w (.slice so 1 rcap) [strV (sAt l j)]) (hs : ∀ k, k < l.length → (sAt l k).size ≤ 4096) (hT : ∀ k, k < l.length → isT cs k = true → nT cs k < K) :
    ∃ j2 kind f A s level next Kp, NX cs l.length (j + 1) j2 ∧ ActI K l cs j2 kind f A s next Kp ∧ Calls Tryz.prog 14 #[.pointer (some ⟨h, 0, none⟩), .string prtN, .int .i64 1, .slice (some ⟨gk, 0, none⟩) 3 ck, .bool true, .slice so 1 rcap] w (BegP base O h K l cs j2 kind f A s level next Kp w) := by
  obtain ⟨j2, hj2⟩ := nx_ex cs l.length (l.length - (j + 1)) (j + 1) (by omega)
  have hml : (mixL l cs l.length j).length = l.length := mix_len _ _ _ _
  have hset : (List.replicate (K + 1) [] ++ [mixL l cs l.length j]).set (K + 1) ((mixL l cs l.length j).set j (strV (sAt l j))) = List.replicate (K + 1) [] ++ [mixL l cs l.length (j + 1)] := by
    rw [set_last (by simp), mix_set _ _ _ _ hj]
  have hM : (tM K ++ [(⟨4, V.nil, []⟩ : LO)])[K + 1]? = some ⟨4, V.nil, []⟩ := by
    rw [List.getElem?_append_right (by rw [tM_len]; omega), tM_len, Nat.sub_self]; rfl
  have hAA : (List.replicate (K + 1) [] ++ [mixL l cs l.length j])[K + 1]? = some (mixL l cs l.length j) := by
    rw [List.getElem?_append_right (by simp), List.length_replicate, Nat.sub_self]; rfl
  have hAA2 : (List.replicate (K + 1) [] ++ [mixL l cs l.length (j + 1)])[K + 1]? = some (mixL l cs l.length (j + 1)) := by
    rw [List.getElem?_append_right (by simp), List.length_replicate, Nat.sub_self]; rfl
  have hwf : ∀ v ∈ mixL l cs l.length (j + 1), WfV v := fun v hv => by
    obtain ⟨k, hk2⟩ := List.getElem?_of_mem hv
    have hkn : k < l.length := by have := (List.getElem?_eq_some_iff.1 hk2).1; rwa [mix_len] at this
    rw [mix_get _ _ _ _ _ hkn] at hk2
    injection hk2 with hk2
    rw [← hk2]
    by_cases h1 : k < j + 1
    · rw [if_pos h1]; exact wf_str (hs k hkn)
    · rw [if_neg h1]; exact (arg_valid l cs k (hs k hkn) (by omega)).2.2
  have hstr : ∀ k v, j + 1 ≤ k → k < j2 → (mixL l cs l.length (j + 1))[k]? = some v → IsStr v := fun k v h1 h2 h3 => mix_str l cs l.length (j + 1) k v hs h3 (.inr (hj2.2.2.1 k h1 h2))
  have hcont := fun (kind fk fp fq : Int) (fs : ByteArray) (fr : Int) (A2 : List V) (s2 : ByteArray) (level next : Int) (Kp : List V) (HC : ∀ W O1, PHp base (1 + l.length) W h (tM K ++ [⟨4, V.nil, []⟩]) (List.replicate (K + 1) [] ++ [mixL l cs l.length (j + 1)]) O1 → base ≤ W.heap.size → Calls Tryz.prog 100 #[.pointer (some ⟨h, 0, none⟩), .agg #[.int .i64 4, .int .i64 0, .int .i64 0, .string ⟨#[]⟩, .int .i64 (((K + 1 : Nat) : Int) + 1)], .int .i64 (((j + 1 : Nat) : Int) + 1), .int .i64 (l.length : Nat)] W (PrP base (1 + l.length) O1 h (tM K ++ [⟨4, V.nil, []⟩]) (List.replicate (K + 1) [] ++ [mixL l cs l.length (j + 1)]) kind ⟨fk, fp, fq, fs, fr⟩ A2 s2 level next Kp W)) =>
    next_show w so 1 rcap (sAt l j) hR (some ⟨gk, 0, none⟩) 3 ck hw kind fk fp fq fs fr A2 s2 level next Kp hP.lt (fun W hb => by
      have := continued_show W h (hP.below hb) (Nat.le_trans hb0 hb.size) (by omega) (K + 1) (by omega) ⟨4, V.nil, []⟩ (mixL l cs l.length j) hM hAA rfl (by omega) j (by omega) gk ck cv (by rw [hml]; exact Vals.below hKv hb) (hG.below hb) so 1 rcap (sAt l j) (Vals.below hR hb) (hs j hj) kind fk fp fq fs fr A2 s2 level next Kp (by rw [hset, hml]; exact HC)
      rw [hset] at this
      exact this)
  by_cases hjn : j2 < l.length
  · have htj := hj2.2.2.2 hjn
    have hnk := hT j2 hjn htj
    have hk2 := nT_le2 cs j2
    have hav : argV l cs j2 = ⟨4, 0, 0, ⟨#[]⟩, (nT cs j2 : Int) + 2⟩ := by unfold argV; rw [htj]; rfl
    have hget : (mixL l cs l.length (j + 1))[j2]? = some ⟨4, 0, 0, ⟨#[]⟩, (nT cs j2 : Int) + 2⟩ := by
      rw [mix_get _ _ _ _ _ hjn, if_neg (by have := hj2.1; omega), hav]
    refine ⟨j2, 3, fV, [argV l cs j2], ⟨#[]⟩, 0, 1, [⟨4, 0, 0, ⟨#[]⟩, ((K + 1 : Nat) : Int) + 1⟩, nmV ((j2 : Int) + 1), nmV l.length], hj2, .inl ⟨hjn, rfl, rfl, rfl, rfl, rfl⟩, ?_⟩
    refine (hcont 3 6 0 0 ⟨#[102]⟩ 0 [argV l cs j2] ⟨#[]⟩ 0 1 [⟨4, 0, 0, ⟨#[]⟩, ((K + 1 : Nat) : Int) + 1⟩, nmV ((j2 : Int) + 1), nmV l.length] (fun W O1 hP1 hb1 => ?_)).mono (fun e w' hp => prp_beg (.inr ⟨rfl, rfl, by rw [mix_eq l cs l.length (j + 1) j2 hj2.1 (fun k h1 h2 => hj2.2.2.1 k h1 h2)]⟩) hp)
    have := printed_c W h hP1 hb1 (by omega) (K + 1) (by omega) ⟨4, V.nil, []⟩ (mixL l cs l.length (j + 1)) hM hAA2 rfl (by rw [mix_len]; omega) (j + 1) j2 hj2.1 (by rw [mix_len]; exact hj2.2.1) hstr 6 0 0 ⟨#[102]⟩ 0 (by decide) hwf (PrP base (1 + l.length) O1 h (tM K ++ [⟨4, V.nil, []⟩]) (List.replicate (K + 1) [] ++ [mixL l cs l.length (j + 1)]) 3 ⟨6, 0, 0, ⟨#[102]⟩, 0⟩ [argV l cs j2] ⟨#[]⟩ 0 1 [⟨4, 0, 0, ⟨#[]⟩, ((K + 1 : Nat) : Int) + 1⟩, nmV ((j2 : Int) + 1), nmV l.length] W) (fun e => by rw [mix_len] at e; omega) (fun v hv => by
      rw [hget] at hv
      injection hv with hv
      subst hv
      refine ⟨⟨⟨by show -9223372036854775808 ≤ (nT cs j2 : Int) + 2; omega, by show (nT cs j2 : Int) + 2 ≤ 9223372036854775807; omega⟩, hand_tab _ _ hnk _⟩, fun e w' hp => ?_⟩
      rw [mix_len] at hp
      rw [hav]
      exact hp)
    rw [mix_len] at this
    exact this
  · have hje : j2 = l.length := by have := hj2.2.1; omega
    subst hje
    refine ⟨l.length, lineK (wantB l l.length), V.nil, lineA (wantB l l.length), lineS (wantB l l.length), lineL (wantB l l.length), 0, [], hj2, .inr ⟨rfl, rfl, rfl⟩, ?_⟩
    refine (hcont (lineK (wantB l l.length)) 0 0 0 ⟨#[]⟩ 0 (lineA (wantB l l.length)) (lineS (wantB l l.length)) (lineL (wantB l l.length)) 0 [] (fun W O1 hP1 hb1 => ?_)).mono (fun e w' hp => prp_beg (.inl rfl) hp)
    have hlo : lineOf (mixL l cs l.length (j + 1)) = wantB l l.length := mix_line l cs (j + 1) (fun k h1 h2 => hj2.2.2.1 k h1 h2)
    have := printed_c W h hP1 hb1 (by omega) (K + 1) (by omega) ⟨4, V.nil, []⟩ (mixL l cs l.length (j + 1)) hM hAA2 rfl (by rw [mix_len]; omega) (j + 1) l.length (by omega) (by rw [mix_len]; exact Nat.le_refl _) hstr 6 0 0 ⟨#[102]⟩ 0 (by decide) hwf (PrP base (1 + l.length) O1 h (tM K ++ [⟨4, V.nil, []⟩]) (List.replicate (K + 1) [] ++ [mixL l cs l.length (j + 1)]) (lineK (wantB l l.length)) V.nil (lineA (wantB l l.length)) (lineS (wantB l l.length)) (lineL (wantB l l.length)) 0 [] W) (fun e => ⟨fun v hv => by
      obtain ⟨k, hk2⟩ := List.getElem?_of_mem hv
      have hkn : k < l.length := by have := (List.getElem?_eq_some_iff.1 hk2).1; rwa [mix_len] at this
      refine mix_str l cs l.length (j + 1) k v hs hk2 ?_
      by_cases h1 : k < j + 1
      · exact .inl h1
      · exact .inr (hj2.2.2.1 k (by omega) hkn), fun e w' hp => by rw [hlo] at hp; exact hp⟩) (fun v hv => by
      have := (List.getElem?_eq_some_iff.1 hv).1
      rw [mix_len] at this
      omega)
    rw [mix_len] at this
    exact this
end Go.Proofs.YteflmfdjnigjcaaGreatDoor
