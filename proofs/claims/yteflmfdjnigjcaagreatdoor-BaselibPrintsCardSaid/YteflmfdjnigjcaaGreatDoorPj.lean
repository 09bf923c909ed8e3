import Derived.Test.YteflmfdjnigjcaaGreatDoorHk
set_option linter.unusedVariables false
set_option linter.unusedSimpArgs false
set_option maxRecDepth 100000
set_option maxHeartbeats 2000000
namespace Go.Proofs.YteflmfdjnigjcaaGreatDoor
open Go.RowKit Go.Proofs.Lexi
set_option maxRecDepth 100000 in
set_option maxHeartbeats 2000000 in
theorem continued_show (w : World) (h : Nat) {base n0 : Nat} {M : LH} {AA : List (List V)} {O : Nat → Prop} (hP : PHp base n0 w h M AA O) (hb0 : base ≤ w.heap.size) (hn : n0 ≤ 1000) (ti : Nat) (hti : ti ≤ 100000) (o : LO) (A : List V) (hM : M[ti]? = some o) (hAA : AA[ti]? = some A) (h4 : o.kind = 4) (hl : A.length ≤ 200) (i : Nat) (hi : i < A.length)
    (gk ck : Nat) (cs : Array Value) (hK : Vals w (.slice (some ⟨gk, 0, none⟩) 3 ck) [⟨4, 0, 0, ⟨#[]⟩, (ti : Int) + 1⟩, nmV ((i : Int) + 1), nmV A.length]) (hG : Held w O gk (.cells cs 30)) (so : Option Addr) (rn rcap : Nat) (s : ByteArray) (hR : Vals w (.slice so rn rcap) [strV s]) (hs : s.size ≤ 4096)
    (kind : Int) (fk fp fq : Int) (fs : ByteArray) (fr : Int) (A2 : List V) (s2 : ByteArray) (level next : Int) (K : List V)
    (HC : ∀ W O1, PHp base n0 W h M (AA.set ti (A.set i (strV s))) O1 → base ≤ W.heap.size → Calls Tryz.prog 100 #[.pointer (some ⟨h, 0, none⟩), .agg #[.int .i64 4, .int .i64 0, .int .i64 0, .string ⟨#[]⟩, .int .i64 ((ti : Int) + 1)], .int .i64 (((i + 1 : Nat) : Int) + 1), .int .i64 (A.length : Nat)] W (PrP base n0 O1 h M (AA.set ti (A.set i (strV s))) kind ⟨fk, fp, fq, fs, fr⟩ A2 s2 level next K W)) :
    Calls Tryz.prog 46 #[.pointer (some ⟨h, 0, none⟩), .int .i64 18, .slice (some ⟨gk, 0, none⟩) 3 ck, .slice so rn rcap] w (PrP base n0 O h M (AA.set ti (A.set i (strV s))) kind ⟨fk, fp, fq, fs, fr⟩ A2 s2 level next K w) := by
  have hrn : rn = 1 := by obtain ⟨_, _, e, _⟩ := hR; injection e
  subst hrn
  have HP := Lib.hid (hP)
  have HG := Lib.hid (hG)
  have HM := Lib.hid (hM)
  have HAA := Lib.hid (hAA)
  have HK4 := Lib.hid (h4)
  have HKC := Lib.hid (fun (W : World) (hW : W.heap[gk]? = w.heap[gk]?) => kept_cells hK hG.1 W hW)
  have HAr := Lib.hid (fun W (hb : Below w.heap.size w W) => (show Calls Tryz.prog 38 #[.slice so 1 rcap, .int .i64 0] W (fun e w' => e = .returned (.agg #[.int .i64 3, .int .i64 0, .int .i64 0, .string s, .int .i64 0]) ∧ Below W.heap.size W w') from pArg_in W so 1 rcap [strV s] (Vals.below hR hb) 0 (strV s) rfl (by simp)))
  have HSZ := Lib.hid (hs)
  have hpr : ∀ W O1, PHp base n0 W h M (AA.set ti (A.set i (strV s))) O1 → base ≤ W.heap.size → Calls Tryz.prog 100 #[.pointer (some ⟨h, 0, none⟩), .agg #[.int .i64 4, .int .i64 0, .int .i64 0, .string ⟨#[]⟩, .int .i64 ((ti : Int) + 1)], .int .i64 ((i : Int) + 1 + 1), .int .i64 (A.length : Nat)] W (PrP base n0 O1 h M (AA.set ti (A.set i (strV s))) kind ⟨fk, fp, fq, fs, fr⟩ A2 s2 level next K W) := fun W O1 h1 h2 => by
    rw [show (i : Int) + 1 + 1 = ((i + 1 : Nat) : Int) + 1 by push_cast; rfl]
    exact HC W O1 h1 h2
  have HPr := Lib.hid (hpr)
  have hgl := (Array.getElem?_eq_some_iff.1 hG.1).1
  clear hP hG hM hAA h4 hK hR hs HC hpr
  have HWh := Lib.hid (fun (W : World) (x : Int) (hx : -2147483647 ≤ x ∧ x ≤ 2147483647) => whole_num W x hx.1 hx.2)
  have HOI := Lib.hid (fun (W : World) (x : Int) (hx : -2147483647 ≤ x ∧ x ≤ 2147483647) => pOfInt_top W x hx.1 hx.2)
  have HLen := Lib.hid (fun W (hb : Below w.heap.size w W) => pLenT_c (HP.out.below hb) HM.out HAA.out HK4.out 4 0 0 ⟨#[]⟩ ((ti : Int) + 1) rfl rfl ⟨by omega, by omega⟩)
  have d1 : decide ((i : Int) + 1 < 1) = false := decide_eq_false (by omega)
  have d2 : decide ((i : Int) + 1 > (A.length : Int)) = false := decide_eq_false (by omega)
  have d3 : decide ((A.length : Int) > 200) = false := decide_eq_false (by omega)
  go_enter Tryz.func46, Tryz.ntmps46
  go_wp2_with fail
  refine (HAr.out _ (below1 _ _)).mono ?_
  rintro e w1 ⟨rfl, hb⟩
  have Ha1 := Lib.hid (hkeep hb (heap1 w oAc))
  have HW1 := Lib.hid (below_next (below1 _ _) hb)
  clear hb
  have hz1 := HW1.out.size
  have HB1 := Lib.hid (HW1.out.alloc HW1.out.size (oV 3 0 0 s 0))
  have Hf1 := Lib.hid (heap1 w1 (oV 3 0 0 s 0))
  have Ha2 := Lib.hid (heap1_old Ha1.out (oV 3 0 0 s 0))
  obtain ⟨k0, k1, k2, k3, k4, k5, k6, k7, k8, k9, k10, k11, k12, k13, k14⟩ := HKC.out (w1.alloc (oV 3 0 0 s 0)) (HB1.out.block gk hgl)
  go_wp2_with fail
  refine (HWh.out _ _ ⟨by omega, by omega⟩).mono ?_
  rintro e w2 ⟨rfl, hb⟩
  have HB2 := Lib.hid (below_next HB1.out hb)
  have Hf2 := Lib.hid (hkeep hb Hf1.out)
  have Ha3 := Lib.hid (hkeep hb Ha2.out)
  clear hb k0 k1 k2 k3 k4 k5 k6 k7 k8 k9 k10 k11 k12 k13 k14
  obtain ⟨k0, k1, k2, k3, k4, k5, k6, k7, k8, k9, k10, k11, k12, k13, k14⟩ := HKC.out w2 (HB2.out.block gk hgl)
  go_wp2_with fail
  refine (HWh.out _ _ ⟨by omega, by omega⟩).mono ?_
  rintro e w3 ⟨rfl, hb⟩
  have HB3 := Lib.hid (below_next HB2.out hb)
  have Hf3 := Lib.hid (hkeep hb Hf2.out)
  have Ha4 := Lib.hid (hkeep hb Ha3.out)
  clear hb k0 k1 k2 k3 k4 k5 k6 k7 k8 k9 k10 k11 k12 k13 k14
  obtain ⟨k0, k1, k2, k3, k4, k5, k6, k7, k8, k9, k10, k11, k12, k13, k14⟩ := HKC.out w3 (HB3.out.block gk hgl)
  go_wp2_with fail
  refine (HLen.out _ HB3.out).mono ?_
  rintro e w4 ⟨rfl, hb⟩
  have HB4 := Lib.hid (below_next HB3.out hb)
  have Hf4 := Lib.hid (hkeep hb Hf3.out)
  have Ha5 := Lib.hid (hkeep hb Ha4.out)
  clear hb k0 k1 k2 k3 k4 k5 k6 k7 k8 k9 k10 k11 k12 k13 k14
  obtain ⟨k0, k1, k2, k3, k4, k5, k6, k7, k8, k9, k10, k11, k12, k13, k14⟩ := HKC.out w4 (HB4.out.block gk hgl)
  obtain ⟨f0, f1, f2, f3, f4⟩ := cells5 Hf4.out
  have hz4 := HB4.out.size
  have hf4 := (Array.getElem?_eq_some_iff.1 Hf4.out).1
  have ha5 := (Array.getElem?_eq_some_iff.1 Ha5.out).1
  go_upto_region 24 with fail
  clear k0 k1 k2 k3 k4 k5 k6 k7 k8 k9 k10 k11 k12 k13 k14 f0 f1 f2 f3 f4
  have HP4 := Lib.hid (HP.out.below HB4.out)
  have HSet := Lib.hid (fun W (hb : Below w4.heap.size w4 W) => set_in_c (HP4.out.below hb) (show base ≤ W.heap.size by have := hb.size; omega) hn hti HM.out HAA.out HK4.out hi (by omega) 3 0 0 s 0 (by decide) (valid_str HSZ.out) (wf_str HSZ.out))
  have HKP := Lib.hid (fun (W W' : World) (O2 : Nat → Prop) (hb : Below w4.heap.size w4 W) (hq : QS base O W O2 W') => (show W'.heap[gk]? = w.heap[gk]? ∧ W'.heap[w1.heap.size]? = some (oV 3 0 0 s 0) ∧ Held W' O2 w.heap.size oAc ∧ Held W' O2 gk (.cells cs 30) from ⟨((Held.qs (HG.out.below (below_next HB4.out hb)) hq (npb (by decide))).1).trans HG.out.1.symm, (hq.keep (hkeep hb Hf4.out) (npb (by decide)) (fun e => by have := HP.out.lt _ e; omega)).1, Held.qs (O := O) ⟨hkeep hb Ha5.out, fun e => Nat.lt_irrefl _ (HP.out.lt _ e)⟩ hq (npb (by decide)), Held.qs (HG.out.below (below_next HB4.out hb)) hq (npb (by decide))⟩))
  have SO := Lib.hid (fun (W : World) (h1 : W.heap[gk]? = w.heap[gk]?) (h2 : W.heap[w1.heap.size]? = some (oV 3 0 0 s 0)) => (show W.cell? ⟨gk, 0, none⟩ = some (.int .i64 4) ∧ W.cell? ⟨gk, 1, none⟩ = some (.int .i64 0) ∧ W.cell? ⟨gk, 2, none⟩ = some (.int .i64 0) ∧ W.cell? ⟨gk, 3, none⟩ = some (.string ⟨#[]⟩) ∧ W.cell? ⟨gk, 4, none⟩ = some (.int .i64 ((ti : Int) + 1)) ∧ W.cell? ⟨w1.heap.size, 0, none⟩ = some (.int .i64 3) ∧ W.cell? ⟨w1.heap.size, 1, none⟩ = some (.int .i64 0) ∧ W.cell? ⟨w1.heap.size, 2, none⟩ = some (.int .i64 0) ∧ W.cell? ⟨w1.heap.size, 3, none⟩ = some (.string s) ∧ W.cell? ⟨w1.heap.size, 4, none⟩ = some (.int .i64 0) from ⟨(HKC.out W h1).1, (HKC.out W h1).2.1, (HKC.out W h1).2.2.1, (HKC.out W h1).2.2.2.1, (HKC.out W h1).2.2.2.2.1, (cells5 h2).1, (cells5 h2).2.1, (cells5 h2).2.2.1, (cells5 h2).2.2.2.1, (cells5 h2).2.2.2.2⟩))
  have SOB := Lib.hid (fun (W : World) (hb : Below w4.heap.size w4 W) => SO.out W ((below_next HB4.out hb).block gk hgl) (hkeep hb Hf4.out))
  have HBc := Lib.hid ((Below.refl w4.heap.size w4).drew)
  go_region_held3 (fun w' => w'.cell? ⟨gk, 0, none⟩ = some (.int .i64 4) ∧ w'.cell? ⟨gk, 1, none⟩ = some (.int .i64 0) ∧ w'.cell? ⟨gk, 2, none⟩ = some (.int .i64 0) ∧ w'.cell? ⟨gk, 3, none⟩ = some (.string ⟨#[]⟩) ∧ w'.cell? ⟨gk, 4, none⟩ = some (.int .i64 ((ti : Int) + 1)) ∧ w'.cell? ⟨w1.heap.size, 0, none⟩ = some (.int .i64 3) ∧ w'.cell? ⟨w1.heap.size, 1, none⟩ = some (.int .i64 0) ∧ w'.cell? ⟨w1.heap.size, 2, none⟩ = some (.int .i64 0) ∧ w'.cell? ⟨w1.heap.size, 3, none⟩ = some (.string s) ∧ w'.cell? ⟨w1.heap.size, 4, none⟩ = some (.int .i64 0))
    (first | with_reducible exact SOB.out _ HBc.out | with_reducible exact SO.out _ HXk.out HXf.out)
    (first | (go_at_call 79; (with_reducible refine (HOI.out _ _ ⟨by omega, by omega⟩).mono ?_); rintro e nw1 ⟨rfl, hb⟩; have HBc := Lib.hid (below_next HBc.out hb); clear hb) | (go_at_call 9; (with_reducible refine (HSet.out _ HBc.out).mono ?_); rintro e nw2 ⟨rfl, O2, hP2, hq2⟩; have HX2 := Lib.hid (And.intro hP2 hq2); have HXa := Lib.hid (HKP.out _ _ _ HBc.out hq2); have HXk := Lib.hid HXa.out.1; have HXf := Lib.hid HXa.out.2.1; clear hP2 hq2))
  have hzq : w.heap.size ≤ nw2.heap.size := by have := HX2.out.2.size; have := HBc.out.size; omega
  have hbq : base ≤ nw2.heap.size := by omega
  obtain ⟨k0, k1, k2, k3, k4, k5, k6, k7, k8, k9, k10, k11, k12, k13, k14⟩ := HKC.out nw2 HXk.out
  go_wp2_with fail
  refine (HPr.out nw2 O2 HX2.out.1 hbq).mono ?_
  rintro e w5 ⟨so3, cap3, sk3, ck3, O3, rfl, hr, hk, hP3, hq3, hno⟩
  have HR3 := Lib.hid (hr)
  have HK3 := Lib.hid (hk)
  have HP3 := Lib.hid (hP3)
  have HQ3 := Lib.hid (hq3)
  have HNO := Lib.hid (hno)
  have Ha6 := Lib.hid ((HXa.out.2.2.1.qs hq3 (npb (by decide))).1)
  have hax := (Array.getElem?_eq_some_iff.1 HXa.out.2.2.1.1).1
  clear hr hk hP3 hq3 hno k0 k1 k2 k3 k4 k5 k6 k7 k8 k9 k10 k11 k12 k13 k14
  have hya : w.heap.size < w5.heap.size := (Array.getElem?_eq_some_iff.1 Ha6.out).1
  obtain ⟨a0, a1, a2, a3, a4, a5, a6, a7, a8, a9, a10, a11⟩ := cells12 Ha6.out
  obtain ⟨fa0, fa1, fa2, fa3, fa4, fa5, fa6, fa7, fa8, fa9, fa10, fa11⟩ := froz12 Ha6.out
  go_wp2
  refine bodyPost_ret (by simp [results, Tryz.results46, go_sem, hya, a0, a1, a2, a3, a4, a5, a6, a7, a8, a9, a10, a11]; first | done | rfl) rfl ?_
  exact prP_end HR3.out HK3.out HP3.out ((QS.of_below (below_next HB4.out HBc.out)).trans (HX2.out.2.trans HQ3.out)) Ha6.out (Nat.le_refl _) hax hzq HNO.out _ _ _ _ _ _ _ _ _ _ _ _
end Go.Proofs.YteflmfdjnigjcaaGreatDoor
