import Derived.Test.YteflmfdjnigjcaaGreatDoorHpT
import Derived.Test.YteflmfdjnigjcaaGreatDoorPc
set_option linter.unusedVariables false
set_option linter.unusedSimpArgs false
set_option maxRecDepth 100000
set_option maxHeartbeats 2000000
namespace Go.Proofs.YteflmfdjnigjcaaGreatDoor
open Go.RowKit Go.Proofs.Lexi
theorem get_in {base n : Nat} {w : World} {h : Nat} {M : LH} {AA : List (List V)} {O : Nat → Prop} (hP : PHp base n w h M AA O) (hn : n ≤ 1000) {ti : Nat} (hti : ti ≤ 100000) {o : LO} {A : List V} (hM : M[ti]? = some o) (hA : AA[ti]? = some A) (h4 : o.kind = 4) {x : Nat} (hx : x < A.length) (hl : A.length ≤ 100000) {vk vp vq : Int} {vs : ByteArray} {vr : Int} (hv : A[x]? = some ⟨vk, vp, vq, vs, vr⟩) :
    Calls Tryz.prog 20 #[.pointer (some ⟨h, 0, none⟩), .agg #[.int .i64 4, .int .i64 0, .int .i64 0, .string ⟨#[]⟩, .int .i64 ((ti : Int) + 1)], .agg #[.int .i64 2, .int .i64 ((x : Int) + 1), .int .i64 1, .string ⟨#[]⟩, .int .i64 0]] w (fun e w' => e = .returned (.tuple #[.agg #[.int .i64 vk, .int .i64 vp, .int .i64 vq, .string vs, .int .i64 vr], .int .i64 0]) ∧ Below w.heap.size w w') := by
  have := pGetT_c hP hn hM hA h4 4 0 0 ⟨#[]⟩ ((ti : Int) + 1) rfl rfl ⟨by omega, by omega⟩ 2 ((x : Int) + 1) 1 ⟨#[]⟩ 0 (valid_num (by omega) (by omega)) (wf_num (by omega) (by omega))
  rw [tget_in hx hl hv] at this
  exact this
/-- Set inside the list. -/
theorem set_in_c {base n : Nat} {w : World} {h : Nat} {M : LH} {AA : List (List V)} {O : Nat → Prop} (hP : PHp base n w h M AA O) (hb : base ≤ w.heap.size) (hn : n ≤ 1000) {ti : Nat} (hti : ti ≤ 100000) {o : LO} {A : List V} (hM : M[ti]? = some o) (hA : AA[ti]? = some A) (h4 : o.kind = 4) {x : Nat} (hx : x < A.length) (hl : A.length ≤ 100000) (vk vp vq : Int) (vs : ByteArray) (vr : Int) (h0 : vk ≠ 0) (hv : validV ⟨vk, vp, vq, vs, vr⟩ = true) (hw : WfV ⟨vk, vp, vq, vs, vr⟩) :
    Calls Tryz.prog 9 #[.pointer (some ⟨h, 0, none⟩), .agg #[.int .i64 4, .int .i64 0, .int .i64 0, .string ⟨#[]⟩, .int .i64 ((ti : Int) + 1)], .agg #[.int .i64 2, .int .i64 ((x : Int) + 1), .int .i64 1, .string ⟨#[]⟩, .int .i64 0], .agg #[.int .i64 vk, .int .i64 vp, .int .i64 vq, .string vs, .int .i64 vr]] w (fun e w' => e = .returned (.int .i64 0) ∧ ∃ O', PHp base n w' h M (AA.set ti (A.set x ⟨vk, vp, vq, vs, vr⟩)) O' ∧ QS base O w O' w') := by
  obtain ⟨bo, bt, H, y, _, _, _, _, _, _, _, _, _, _, _, _, hLn, hAn⟩ := php_at hP hM hA h4 (k1 := 4) (p1 := 0) (q1 := 0) (s1 := ⟨#[]⟩) rfl rfl
  refine (pSetT_c hP hb (Nat.le_refl n) hM hA h4 4 0 0 ⟨#[]⟩ ((ti : Int) + 1) rfl rfl ⟨by omega, by omega⟩ 2 ((x : Int) + 1) 1 ⟨#[]⟩ 0 (valid_num (by omega) (by omega)) (by decide) vk vp vq vs vr hv o.L (A.set x ⟨vk, vp, vq, vs, vr⟩) hLn (by rw [List.length_set]; exact hAn) (fun W t m g sv av hT => ?_)).mono ?_
  · have := twSet_in W t m g sv o.L av A hT hl x hx ((x : Int) + 1) rfl ⟨#[]⟩ 0 (valid_num (by omega) (by omega)) vk vp vq vs vr hv hw
    rw [setIn_val hx h0] at this
    exact this.mono (fun _ _ h => h.tw)
  · rintro e w' ⟨he, O', h1, h2⟩
    rw [set_same (show M[ti]? = some ⟨4, o.mt, o.L⟩ by rw [hM, ← h4])] at h1
    exact ⟨he, O', h1, h2⟩
/-- Set of what is there. -/
theorem set_again_c {base n : Nat} {w : World} {h : Nat} {M : LH} {AA : List (List V)} {O : Nat → Prop} (hP : PHp base n w h M AA O) (hb : base ≤ w.heap.size) (hn : n ≤ 1000) {ti : Nat} (hti : ti ≤ 100000) {o : LO} {A : List V} (hM : M[ti]? = some o) (hA : AA[ti]? = some A) (h4 : o.kind = 4) {x : Nat} (hx : x < A.length) (hl : A.length ≤ 100000) {vk vp vq : Int} {vs : ByteArray} {vr : Int} (hvx : A[x]? = some ⟨vk, vp, vq, vs, vr⟩) (h0 : vk ≠ 0) (hv : validV ⟨vk, vp, vq, vs, vr⟩ = true) (hw : WfV ⟨vk, vp, vq, vs, vr⟩) :
    Calls Tryz.prog 9 #[.pointer (some ⟨h, 0, none⟩), .agg #[.int .i64 4, .int .i64 0, .int .i64 0, .string ⟨#[]⟩, .int .i64 ((ti : Int) + 1)], .agg #[.int .i64 2, .int .i64 ((x : Int) + 1), .int .i64 1, .string ⟨#[]⟩, .int .i64 0], .agg #[.int .i64 vk, .int .i64 vp, .int .i64 vq, .string vs, .int .i64 vr]] w (fun e w' => e = .returned (.int .i64 0) ∧ ∃ O', PHp base n w' h M AA O' ∧ QS base O w O' w') := by
  have := set_in_c hP hb hn hti hM hA h4 hx hl vk vp vq vs vr h0 hv hw
  rwa [set_same hvx, set_same hA] at this
/-- Set behind the list, where the map has no numbers. -/
theorem set_push_c {base n : Nat} {w : World} {h : Nat} {M : LH} {AA : List (List V)} {O : Nat → Prop} (hP : PHp base n w h M AA O) (hb : base ≤ w.heap.size) (hn : n ≤ 999) {ti : Nat} (hti : ti ≤ 100000) {o : LO} {A : List V} (hM : M[ti]? = some o) (hA : AA[ti]? = some A) (h4 : o.kind = 4) (hcl : ∀ y ∈ o.L, y.k.k ≠ 2) (vk vp vq : Int) (vs : ByteArray) (vr : Int) (h0 : vk ≠ 0) (hv : validV ⟨vk, vp, vq, vs, vr⟩ = true) (hw : WfV ⟨vk, vp, vq, vs, vr⟩) :
    Calls Tryz.prog 9 #[.pointer (some ⟨h, 0, none⟩), .agg #[.int .i64 4, .int .i64 0, .int .i64 0, .string ⟨#[]⟩, .int .i64 ((ti : Int) + 1)], .agg #[.int .i64 2, .int .i64 ((A.length : Int) + 1), .int .i64 1, .string ⟨#[]⟩, .int .i64 0], .agg #[.int .i64 vk, .int .i64 vp, .int .i64 vq, .string vs, .int .i64 vr]] w (fun e w' => e = .returned (.int .i64 0) ∧ ∃ O', PHp base (n + 1) w' h M (AA.set ti (A ++ [⟨vk, vp, vq, vs, vr⟩])) O' ∧ QS base O w O' w') := by
  obtain ⟨bo, bt, H, y, _, _, _, _, _, _, _, _, _, _, _, _, hLn, hAn⟩ := php_at hP hM hA h4 (k1 := 4) (p1 := 0) (q1 := 0) (s1 := ⟨#[]⟩) rfl rfl
  refine (pSetT_c hP hb (Nat.le_succ n) hM hA h4 4 0 0 ⟨#[]⟩ ((ti : Int) + 1) rfl rfl ⟨by omega, by omega⟩ 2 ((A.length : Int) + 1) 1 ⟨#[]⟩ 0 (valid_num (by omega) (by omega)) (by decide) vk vp vq vs vr hv o.L (A ++ [⟨vk, vp, vq, vs, vr⟩]) (by omega) (by rw [List.length_append, List.length_singleton]; omega) (fun W t m g sv av hT => ?_)).mono ?_
  · refine (twSet_push W t m g sv o.L av A hT (by omega) (by omega) ((A.length : Int) + 1) rfl ⟨#[]⟩ 0 (valid_num (by omega) (by omega)) vk vp vq vs vr hv hw h0 (fun y hy e => hcl y hy (by rw [e])) ?_).mono (fun _ _ h => h.tw)
    exact get_absent (fun y hy e => hcl y hy (by rw [e]))
  · rintro e w' ⟨he, O', h1, h2⟩
    rw [set_same (show M[ti]? = some ⟨4, o.mt, o.L⟩ by rw [hM, ← h4])] at h1
    exact ⟨he, O', h1, h2⟩
/-- Set at a string. -/
theorem set_str_c {base n : Nat} {w : World} {h : Nat} {M : LH} {AA : List (List V)} {O : Nat → Prop} (hP : PHp base n w h M AA O) (hb : base ≤ w.heap.size) (hn : n ≤ 999) {ti : Nat} (hti : ti ≤ 100000) {o : LO} {A : List V} (hM : M[ti]? = some o) (hA : AA[ti]? = some A) (h4 : o.kind = 4) (s : ByteArray) (hs : s.size ≤ 4096) (vk vp vq : Int) (vs : ByteArray) (vr : Int) (hv : validV ⟨vk, vp, vq, vs, vr⟩ = true) (hw : WfV ⟨vk, vp, vq, vs, vr⟩) :
    Calls Tryz.prog 9 #[.pointer (some ⟨h, 0, none⟩), .agg #[.int .i64 4, .int .i64 0, .int .i64 0, .string ⟨#[]⟩, .int .i64 ((ti : Int) + 1)], .agg #[.int .i64 3, .int .i64 0, .int .i64 0, .string s, .int .i64 0], .agg #[.int .i64 vk, .int .i64 vp, .int .i64 vq, .string vs, .int .i64 vr]] w (fun e w' => e = .returned (.int .i64 0) ∧ ∃ O', PHp base (n + 1) w' h (M.set ti ⟨4, o.mt, setM o.L (strV s) ⟨vk, vp, vq, vs, vr⟩⟩) AA O' ∧ QS base O w O' w') := by
  obtain ⟨bo, bt, H, y, _, _, _, _, _, _, _, _, _, _, _, _, hLn, hAn⟩ := php_at hP hM hA h4 (k1 := 4) (p1 := 0) (q1 := 0) (s1 := ⟨#[]⟩) rfl rfl
  refine (pSetT_c hP hb (Nat.le_succ n) hM hA h4 4 0 0 ⟨#[]⟩ ((ti : Int) + 1) rfl rfl ⟨by omega, by omega⟩ 3 0 0 s 0 (valid_str hs) (by decide) vk vp vq vs vr hv (setM o.L (strV s) ⟨vk, vp, vq, vs, vr⟩) A (by have := setM_len o.L (strV s) ⟨vk, vp, vq, vs, vr⟩; omega) (by omega) (fun W t m g sv av hT => ?_)).mono ?_
  · exact twSet_out W t m g sv o.L av A hT (by omega) (by omega) 3 0 0 s 0 (valid_str hs) (wf_str hs) (by decide) vk vp vq vs vr hv hw (.inl rfl)
  · rintro e w' ⟨he, O', h1, h2⟩
    rw [set_same hA] at h1
    exact ⟨he, O', h1, h2⟩
set_option maxRecDepth 100000 in
set_option maxHeartbeats 2000000 in
theorem printed_c (w : World) (h : Nat) {base n0 : Nat} {M : LH} {AA : List (List V)} {O : Nat → Prop} (hP : PHp base n0 w h M AA O) (hb0 : base ≤ w.heap.size) (hn : n0 ≤ 1000) (ti : Nat) (hti : ti ≤ 100000) (o : LO) (A : List V) (hM : M[ti]? = some o) (hAA : AA[ti]? = some A) (h4 : o.kind = 4) (hl : A.length ≤ 200)
    (i j : Nat) (hij : i ≤ j) (hjn : j ≤ A.length) (hs : ∀ k v, i ≤ k → k < j → A[k]? = some v → IsStr v) (fk fp fq : Int) (fs : ByteArray) (fr : Int) (hf : fk ≠ 0) (hwA : ∀ v ∈ A, WfV v) (Q : Ending → World → Prop)
    (hQ1 : j = A.length → (∀ v ∈ A, IsStr v) ∧ ∀ e w', PrP base n0 O h M AA (lineK (lineOf A)) V.nil (lineA (lineOf A)) (lineS (lineOf A)) (lineL (lineOf A)) 0 [] w e w' → Q e w')
    (hQ2 : ∀ v, A[j]? = some v → (i64 v.r ∧ handH M v toStrN = ⟨fk, fp, fq, fs, fr⟩) ∧ ∀ e w', PrP base n0 O h M AA 3 ⟨fk, fp, fq, fs, fr⟩ [v] ⟨#[]⟩ 0 1 [⟨4, 0, 0, ⟨#[]⟩, (ti : Int) + 1⟩, nmV ((j : Int) + 1), nmV A.length] w e w' → Q e w') :
    Calls Tryz.prog 100 #[.pointer (some ⟨h, 0, none⟩), oAgg 4 0 0 ⟨#[]⟩ ((ti : Int) + 1), .int .i64 ((i : Int) + 1), .int .i64 (A.length : Nat)] w Q := by
  obtain ⟨i1, hi1, hi1a, hi1b, hi1c⟩ := info_parts infoStr
  have HP := Lib.hid (hP)
  have HS := Lib.hid (hs)
  have HQ1 := Lib.hid (hQ1)
  have HQ2 := Lib.hid (hQ2)
  have HM := Lib.hid (hM)
  have HAA := Lib.hid (hAA)
  have HWA := Lib.hid (hwA)
  have HK4 := Lib.hid (h4)
  have HF := Lib.hid (hf)
  clear hP hs hQ1 hQ2 hM hAA hwA h4 hf
  go_enter Tryz.func100, Tryz.ntmps100
  go_wp2
  go_loopg [2] (A.length + 1 - i) (fun gg s2 wr => ∃ x : Nat, gg = A.length + 1 - x ∧ i ≤ x ∧ x ≤ j ∧ s2 = .int .i64 ((x : Int) + 1) ∧ Hid (PrR base n0 h M AA O w (oV 4 0 0 ⟨#[]⟩ ((ti : Int) + 1)) wr))
  case atStart => exact ⟨i, rfl, Nat.le_refl _, hij, rfl, O, HP.out.below (below2w _ _ _), QS.of_below (below2w _ _ _), ⟨heap2_a _ _ _, fun e => Nat.lt_irrefl _ (HP.out.lt _ e)⟩, ⟨heap2_b _ _ _, fun e => by have := HP.out.lt _ e; omega⟩⟩
  case round =>
    obtain ⟨x, rfl, hx1, hx2, rfl, HR⟩ := hrel
    obtain ⟨O1, hP1, hq1, ht1, ha1⟩ := HR.out
    have HP1 := Lib.hid (hP1)
    have HQS := Lib.hid (hq1)
    have HT1 := Lib.hid (ht1.1)
    have HTO := Lib.hid (ht1.2)
    have HA1 := Lib.hid (ha1.1)
    have HAO := Lib.hid (ha1.2)
    clear hP1 hq1 ht1 ha1 HR
    have hz1 := HQS.out.size
    have hyt : w.heap.size < wr.heap.size := (Array.getElem?_eq_some_iff.1 HT1.out).1
    have hya : w.heap.size + 1 < wr.heap.size := (Array.getElem?_eq_some_iff.1 HA1.out).1
    by_cases hxA : x < A.length
    · have d1 : decide ((x : Int) + 1 ≤ (A.length : Int)) = true := decide_eq_true (by omega)
      obtain ⟨v, hv⟩ : ∃ v, A[x]? = some v := ⟨_, List.getElem?_eq_getElem hxA⟩
      have HV := Lib.hid (hv)
      clear hv
      obtain ⟨vk, vp, vq, vs, vr⟩ := v
      have HOI := Lib.hid (fun (W : World) (y : Int) (hy : -2147483647 ≤ y ∧ y ≤ 2147483647) => pOfInt_top W y hy.1 hy.2)
      have HG := Lib.hid (fun W (hb : Below wr.heap.size wr W) => (show Calls Tryz.prog 20 #[.pointer (some ⟨h, 0, none⟩), .agg #[.int .i64 4, .int .i64 0, .int .i64 0, .string ⟨#[]⟩, .int .i64 ((ti : Int) + 1)], .agg #[.int .i64 2, .int .i64 ((x : Int) + 1), .int .i64 1, .string ⟨#[]⟩, .int .i64 0]] W (fun e w' => e = .returned (.tuple #[.agg #[.int .i64 vk, .int .i64 vp, .int .i64 vq, .string vs, .int .i64 vr], .int .i64 0]) ∧ Below W.heap.size W w') from get_in (HP1.out.below hb) hn hti HM.out HAA.out HK4.out hxA (by omega) HV.out))
      go_upto_region 3 with fail
      go_cut [9, 10] (fun s9 s10 wx => ∃ nb, s9 = .pointer (some ⟨nb, 0, none⟩) ∧ s10 = .int .i64 0 ∧ Hid (wx.heap[nb]? = some (oV vk vp vq vs vr) ∧ Below wr.heap.size wr wx ∧ wr.heap.size ≤ nb))
      case first =>
        have SO := Lib.hid (fun (W : World) (hb : Below wr.heap.size wr W) => (show W.cell? ⟨w.heap.size, 0, none⟩ = some (.int .i64 4) ∧ W.cell? ⟨w.heap.size, 1, none⟩ = some (.int .i64 0) ∧ W.cell? ⟨w.heap.size, 2, none⟩ = some (.int .i64 0) ∧ W.cell? ⟨w.heap.size, 3, none⟩ = some (.string ⟨#[]⟩) ∧ W.cell? ⟨w.heap.size, 4, none⟩ = some (.int .i64 ((ti : Int) + 1)) ∧ Hid (Below wr.heap.size wr W) from ⟨(cells5 (hkeep hb HT1.out)).1, (cells5 (hkeep hb HT1.out)).2.1, (cells5 (hkeep hb HT1.out)).2.2.1, (cells5 (hkeep hb HT1.out)).2.2.2.1, (cells5 (hkeep hb HT1.out)).2.2.2.2, Lib.hid hb⟩))
        have BA := Lib.hid (fun (W : World) (o : Obj) (hb : Below wr.heap.size wr W) => (show Below wr.heap.size wr (W.alloc o) from hb.alloc hb.size o))
        have BD := Lib.hid (fun (W : World) (hb : Below wr.heap.size wr W) => (show Below wr.heap.size wr W.drew from hb.drew))
        have B5 := Lib.hid (fun (W : World) (b : Nat) (x0 x1 x2 x3 x4 : Value) (hb : Below wr.heap.size wr W) (hbb : wr.heap.size ≤ b) => below_five hb hbb x0 x1 x2 x3 x4)
        have hbR : Below wr.heap.size wr wr := Below.refl _ _
        have hbD : Below wr.heap.size wr wr.drew := (Below.refl _ _).drew
        go_region_held3 (fun w' => w'.cell? ⟨w.heap.size, 0, none⟩ = some (.int .i64 4) ∧ w'.cell? ⟨w.heap.size, 1, none⟩ = some (.int .i64 0) ∧ w'.cell? ⟨w.heap.size, 2, none⟩ = some (.int .i64 0) ∧ w'.cell? ⟨w.heap.size, 3, none⟩ = some (.string ⟨#[]⟩) ∧ w'.cell? ⟨w.heap.size, 4, none⟩ = some (.int .i64 ((ti : Int) + 1)) ∧ Hid (Below wr.heap.size wr w'))
          (with_reducible refine SO.out _ ?_; repeat (first | with_reducible assumption | (with_reducible refine BA.out _ _ ?_) | (with_reducible refine BD.out _ ?_) | (with_reducible refine B5.out _ _ _ _ _ _ _ ?_ ?_) | omega))
          (first | (go_at_call 79; (with_reducible refine (HOI.out _ _ ⟨by omega, by omega⟩).mono ?_); rintro e nw1 ⟨rfl, hb⟩; have hb1 := below_next (prjC5 (by assumption)) hb; have hzb1 := hb1.size; (first | ((with_reducible have Hz1 := Lib.hid (hkeep hb (heap_newD wr (oV 0 0 0 ⟨#[]⟩ 0)))); have hza1 := (Array.getElem?_eq_some_iff.1 Hz1.out).1) | ((with_reducible have Hz1 := Lib.hid (hkeep hb (heap_new wr (oV 0 0 0 ⟨#[]⟩ 0)))); have hza1 := (Array.getElem?_eq_some_iff.1 Hz1.out).1) | skip); clear hb) | (go_at_call 20; (with_reducible refine (HG.out _ (prjC5 (by assumption))).mono ?_); rintro e nw2 ⟨rfl, hb⟩; have hb2 := below_next (prjC5 (by assumption)) hb; have hzb2 := hb2.size; (first | ((with_reducible have Hz2 := Lib.hid (hkeep hb (heap_newD wr (oV 0 0 0 ⟨#[]⟩ 0)))); have hza2 := (Array.getElem?_eq_some_iff.1 Hz2.out).1; obtain ⟨z0, z1, z2, z3, z4⟩ := cells5 Hz2.out; obtain ⟨fz0, fz1, fz2, fz3, fz4⟩ := froz5 Hz2.out) | ((with_reducible have Hz2 := Lib.hid (hkeep hb (heap_new wr (oV 0 0 0 ⟨#[]⟩ 0)))); have hza2 := (Array.getElem?_eq_some_iff.1 Hz2.out).1; obtain ⟨z0, z1, z2, z3, z4⟩ := cells5 Hz2.out; obtain ⟨fz0, fz1, fz2, fz3, fz4⟩ := froz5 Hz2.out) | ((with_reducible have Hz2 := Lib.hid (hkeep hb (heap_new nw1 (oV 0 0 0 ⟨#[]⟩ 0)))); have hza2 := (Array.getElem?_eq_some_iff.1 Hz2.out).1; obtain ⟨z0, z1, z2, z3, z4⟩ := cells5 Hz2.out; obtain ⟨fz0, fz1, fz2, fz3, fz4⟩ := froz5 Hz2.out) | ((with_reducible have Hz2 := Lib.hid (hkeep hb Hz1.out)); have hza2 := (Array.getElem?_eq_some_iff.1 Hz2.out).1; obtain ⟨z0, z1, z2, z3, z4⟩ := cells5 Hz2.out; obtain ⟨fz0, fz1, fz2, fz3, fz4⟩ := froz5 Hz2.out) | skip); clear hb))
        all_goals
          go_wp2_with fail
          go_meet
          first
          | (with_reducible refine ⟨_, rfl, rfl, Lib.hid ⟨heap_new _ _, hb2.alloc hb2.size _, hb2.size⟩⟩)
          | (refine ⟨_, rfl, rfl, Lib.hid ⟨heap_five_at Hz2.out _ _ _ _ _, below_five hb2 ?_ _ _ _ _ _, ?_⟩⟩ <;> omega)
      case rest =>
        obtain ⟨nb, rfl, rfl, hx⟩ := hcut
        have HB2 := Lib.hid (hx.out.2.1)
        have HV2 := Lib.hid (hx.out.1)
        have hnb := hx.out.2.2
        have HP2 := Lib.hid (HP1.out.below HB2.out)
        have HT2 := Lib.hid (hkeep HB2.out HT1.out)
        have HA2 := Lib.hid (hkeep HB2.out HA1.out)
        have hz2 := HB2.out.size
        have hyn : nb < wc.heap.size := (Array.getElem?_eq_some_iff.1 HV2.out).1
        clear hx
        obtain ⟨v0, v1, v2, v3, v4⟩ := cells5 HV2.out
        by_cases hxj : x < j
        · have hst := HS.out x _ hx1 hxj HV.out
          obtain ⟨g1, g2, g3, g4, hsz⟩ := hst
          have g1 : vk = 3 := g1
          have g2 : vp = 0 := g2
          have g3 : vq = 0 := g3
          have g4 : vr = 0 := g4
          subst g1 g2 g3 g4
          have hsz : vs.size ≤ 4096 := hsz
          have HTX := Lib.hid (pTextStr2_c HP2.out hn vs hsz)
          have HSZ := Lib.hid (hsz)
          clear hsz
          go_upto_region 7 with (go_at_call 89; refine HTX.out.mono ?_; rintro e w3 ⟨rfl, hb⟩; have HB3a := Lib.hid hb; (obtain ⟨n0', n1', n2', n3', n4', n5', n6', n7', n8', n9', n10', n11', n12', n13'⟩ := cells14 (heap1 w3 (oNdS vs))); clear hb)
          obtain ⟨W3, hW3⟩ : ∃ W3, W3 = w3.alloc (oNdS vs) := ⟨_, rfl⟩
          have HB3 := Lib.hid ((show Below wr.heap.size wr W3 by rw [hW3]; exact below_next HB2.out (HB3a.out.trans ((below1 w3 (oNdS vs)).mono HB3a.out.size))))
          have HN3 := Lib.hid ((show W3.heap[w3.heap.size]? = some (oNdS vs) by rw [hW3]; exact heap1 _ _))
          have hz3 : wr.heap.size ≤ w3.heap.size := Nat.le_trans hz2 HB3a.out.size
          have hz3b : w3.heap.size < W3.heap.size := by rw [hW3]; simp
          try rw [show w3.alloc (oNdS vs) = W3 from hW3.symm]
          clear hW3 v0 v1 v2 v3 v4 n0' n1' n2' n3' n4' n5' n6' n7' n8' n9' n10' n11' n12' n13' HB3a
          have HP3 := Lib.hid (HP1.out.below HB3.out)
          have HT3 := Lib.hid (hkeep HB3.out HT1.out)
          have hyt3 : w.heap.size < W3.heap.size := by omega
          have HSet := Lib.hid (fun W (hb : Below W3.heap.size W3 W) => set_again_c (HP3.out.below hb) (show base ≤ W.heap.size by have := hb.size; omega) hn hti HM.out HAA.out HK4.out hxA (by omega) HV.out (by decide) (valid_str HSZ.out) (wf_str HSZ.out))
          have HKP := Lib.hid (fun (W W' : World) (O2 : Nat → Prop) (hb : Below W3.heap.size W3 W) (hq : QS base O1 W O2 W') => (show W'.heap[w.heap.size]? = some (oV 4 0 0 ⟨#[]⟩ ((ti : Int) + 1)) ∧ W'.heap[w3.heap.size]? = some (oNdS vs) from ⟨(Held.qs (O := O1) ⟨hkeep hb HT3.out, HTO.out⟩ hq (npb (by decide))).1, (hq.keep (hkeep hb HN3.out) (npb (by decide)) (fun e => by have := HP1.out.lt _ e; omega)).1⟩))
          have SOQ := Lib.hid (fun (W : World) (h1 : W.heap[w.heap.size]? = some (oV 4 0 0 ⟨#[]⟩ ((ti : Int) + 1))) (h2 : W.heap[w3.heap.size]? = some (oNdS vs)) => (show W.cell? ⟨w.heap.size, 0, none⟩ = some (.int .i64 4) ∧ W.cell? ⟨w.heap.size, 1, none⟩ = some (.int .i64 0) ∧ W.cell? ⟨w.heap.size, 2, none⟩ = some (.int .i64 0) ∧ W.cell? ⟨w.heap.size, 3, none⟩ = some (.string ⟨#[]⟩) ∧ W.cell? ⟨w.heap.size, 4, none⟩ = some (.int .i64 ((ti : Int) + 1)) ∧ W.cell? ⟨w3.heap.size, 1, none⟩ = some (.int .i64 3) ∧ W.cell? ⟨w3.heap.size, 2, none⟩ = some (.int .i64 0) ∧ W.cell? ⟨w3.heap.size, 3, none⟩ = some (.int .i64 0) ∧ W.cell? ⟨w3.heap.size, 4, none⟩ = some (.string vs) ∧ W.cell? ⟨w3.heap.size, 5, none⟩ = some (.int .i64 0) from ⟨(cells5 h1).1, (cells5 h1).2.1, (cells5 h1).2.2.1, (cells5 h1).2.2.2.1, (cells5 h1).2.2.2.2, (cells14 h2).2.1, (cells14 h2).2.2.1, (cells14 h2).2.2.2.1, (cells14 h2).2.2.2.2.1, (cells14 h2).2.2.2.2.2.1⟩))
          have SO := Lib.hid (fun (W : World) (hb : Below W3.heap.size W3 W) => (show W.cell? ⟨w.heap.size, 0, none⟩ = some (.int .i64 4) ∧ W.cell? ⟨w.heap.size, 1, none⟩ = some (.int .i64 0) ∧ W.cell? ⟨w.heap.size, 2, none⟩ = some (.int .i64 0) ∧ W.cell? ⟨w.heap.size, 3, none⟩ = some (.string ⟨#[]⟩) ∧ W.cell? ⟨w.heap.size, 4, none⟩ = some (.int .i64 ((ti : Int) + 1)) ∧ W.cell? ⟨w3.heap.size, 1, none⟩ = some (.int .i64 3) ∧ W.cell? ⟨w3.heap.size, 2, none⟩ = some (.int .i64 0) ∧ W.cell? ⟨w3.heap.size, 3, none⟩ = some (.int .i64 0) ∧ W.cell? ⟨w3.heap.size, 4, none⟩ = some (.string vs) ∧ W.cell? ⟨w3.heap.size, 5, none⟩ = some (.int .i64 0) from ⟨(cells5 (hkeep hb HT3.out)).1, (cells5 (hkeep hb HT3.out)).2.1, (cells5 (hkeep hb HT3.out)).2.2.1, (cells5 (hkeep hb HT3.out)).2.2.2.1, (cells5 (hkeep hb HT3.out)).2.2.2.2, (cells14 (hkeep hb HN3.out)).2.1, (cells14 (hkeep hb HN3.out)).2.2.1, (cells14 (hkeep hb HN3.out)).2.2.2.1, (cells14 (hkeep hb HN3.out)).2.2.2.2.1, (cells14 (hkeep hb HN3.out)).2.2.2.2.2.1⟩))
          have HBc := Lib.hid ((Below.refl W3.heap.size W3).drew)
          go_region_held3 (fun w' => w'.cell? ⟨w.heap.size, 0, none⟩ = some (.int .i64 4) ∧ w'.cell? ⟨w.heap.size, 1, none⟩ = some (.int .i64 0) ∧ w'.cell? ⟨w.heap.size, 2, none⟩ = some (.int .i64 0) ∧ w'.cell? ⟨w.heap.size, 3, none⟩ = some (.string ⟨#[]⟩) ∧ w'.cell? ⟨w.heap.size, 4, none⟩ = some (.int .i64 ((ti : Int) + 1)) ∧ w'.cell? ⟨w3.heap.size, 1, none⟩ = some (.int .i64 3) ∧ w'.cell? ⟨w3.heap.size, 2, none⟩ = some (.int .i64 0) ∧ w'.cell? ⟨w3.heap.size, 3, none⟩ = some (.int .i64 0) ∧ w'.cell? ⟨w3.heap.size, 4, none⟩ = some (.string vs) ∧ w'.cell? ⟨w3.heap.size, 5, none⟩ = some (.int .i64 0))
            (first | with_reducible exact SO.out _ HBc.out | with_reducible exact SO.out _ (HBc.out.alloc HBc.out.size _) | with_reducible exact SOQ.out _ HXt.out HXn.out)
            (first | (go_at_call 79; (with_reducible refine (HOI.out _ _ ⟨by omega, by omega⟩).mono ?_); rintro e nw1 ⟨rfl, hb⟩; have HBc := Lib.hid (below_next HBc.out hb); clear hb) | (go_at_call 9; (with_reducible refine (HSet.out _ HBc.out).mono ?_); rintro e nw2 ⟨rfl, O2, hP2, hq2⟩; have HX2 := Lib.hid (And.intro hP2 hq2); have HXt := Lib.hid (HKP.out _ _ _ HBc.out hq2).1; have HXn := Lib.hid (HKP.out _ _ _ HBc.out hq2).2; clear hP2 hq2))
          go_wp2
          have HBf := Lib.hid (below_next HB3.out HBc.out)
          go_roundg (A.length + 1 - (x + 1))
          case measure => omega
          case rel =>
            obtain ⟨hP2, hq2⟩ := HX2.out
            exact ⟨x + 1, rfl, by omega, by omega, by push_cast; rfl, O2, hP2, HQS.out.trans ((QS.of_below HBf.out).trans hq2), ⟨HXt.out, (Held.qs (Held.below (O := O1) ⟨HT1.out, HTO.out⟩ HBf.out) hq2 (npb (by decide))).2⟩, Held.qs (Held.below (O := O1) ⟨HA1.out, HAO.out⟩ HBf.out) hq2 (npb (by decide))⟩
        · have hxe : x = j := by omega
          subst hxe
          obtain ⟨⟨hr1, hh1⟩, hfin⟩ := HQ2.out _ HV.out
          have HTX := Lib.hid ((show Calls Tryz.prog 89 #[.pointer (some ⟨h, 0, none⟩), .agg #[.int .i64 vk, .int .i64 vp, .int .i64 vq, .string vs, .int .i64 vr]] wc (fun e w' => ∃ g, e = .returned (.agg #[.int .i64 2, .int .i64 0, .int .i64 0, .int .i64 0, .string ⟨#[]⟩, .int .i64 0, .int .i64 fk, .int .i64 fp, .int .i64 fq, .string fs, .int .i64 fr, .slice (some ⟨g, 0, none⟩) 1 1, .int .i64 1, .string ⟨#[]⟩]) ∧ w'.heap[g]? = some (oV vk vp vq vs vr) ∧ wc.heap.size ≤ g ∧ Below wc.heap.size wc w') from pTextTab_c HP2.out hn vk vp vq vs vr hr1 fk fp fq fs fr HF.out hh1))
          have HFIN := Lib.hid (hfin)
          clear hr1 hh1 hfin
          go_upto_region 6 with (go_at_call 89; refine HTX.out.mono ?_; rintro e w3 ⟨g, rfl, hg1, hg2, hb⟩; have HB3a := Lib.hid hb; have HG3a := Lib.hid hg1; (obtain ⟨n0', n1', n2', n3', n4', n5', n6', n7', n8', n9', n10', n11', n12', n13'⟩ := cells14 (heap1 w3 (oNdC fk fp fq fs fr g))); clear hb hg1)
          obtain ⟨W3, hW3⟩ : ∃ W3, W3 = w3.alloc (oNdC fk fp fq fs fr g) := ⟨_, rfl⟩
          have HB3 := Lib.hid ((show Below wr.heap.size wr W3 by rw [hW3]; exact below_next HB2.out (HB3a.out.trans ((below1 w3 (oNdC fk fp fq fs fr g)).mono HB3a.out.size))))
          have HN3 := Lib.hid ((show W3.heap[w3.heap.size]? = some (oNdC fk fp fq fs fr g) by rw [hW3]; exact heap1 _ _))
          have HG3 := Lib.hid ((show W3.heap[g]? = some (oV vk vp vq vs vr) by rw [hW3]; exact heap1_old HG3a.out _))
          have hz3 : wr.heap.size ≤ w3.heap.size := Nat.le_trans hz2 HB3a.out.size
          have hz3b : w3.heap.size < W3.heap.size := by rw [hW3]; simp
          try rw [show w3.alloc (oNdC fk fp fq fs fr g) = W3 from hW3.symm]
          clear hW3 v0 v1 v2 v3 v4 n0' n1' n2' n3' n4' n5' n6' n7' n8' n9' n10' n11' n12' n13' HB3a HG3a
          have HP3 := Lib.hid (HP1.out.below HB3.out)
          have HT3 := Lib.hid (hkeep HB3.out HT1.out)
          have HA3 := Lib.hid (hkeep HB3.out HA1.out)
          have hyt3 : w.heap.size < W3.heap.size := by omega
          have hya3 : w.heap.size + 1 < W3.heap.size := by omega
          have HNd := Lib.hid (fun (W : World) (b : Nat) (hb : Below W3.heap.size W3 W) (h15 : W.heap[b]? = some (.cells #[.int .i64 4, .int .i64 0, .int .i64 0, .string ⟨#[]⟩, .int .i64 ((ti : Int) + 1), .int .i64 2, .int .i64 ((x : Int) + 1), .int .i64 1, .string ⟨#[]⟩, .int .i64 0, .int .i64 2, .int .i64 (A.length : Nat), .int .i64 1, .string ⟨#[]⟩, .int .i64 0] 30)) => (show Calls Tryz.prog 88 #[.agg #[.int .i64 2, .int .i64 0, .int .i64 0, .int .i64 0, .string ⟨#[]⟩, .int .i64 0, .int .i64 fk, .int .i64 fp, .int .i64 fq, .string fs, .int .i64 fr, .slice (some ⟨g, 0, none⟩) 1 1, .int .i64 1, .string ⟨#[]⟩], .int .i64 1, .slice (some ⟨b, 0, none⟩) 3 3] W (ActPost NoF W 3 0 ⟨fk, fp, fq, fs, fr⟩ [⟨vk, vp, vq, vs, vr⟩] ⟨#[]⟩ 0 1 [⟨4, 0, 0, ⟨#[]⟩, (ti : Int) + 1⟩, nmV ((x : Int) + 1), nmV A.length]) from pNeed_call W fk fp fq fs fr g ⟨vk, vp, vq, vs, vr⟩ (hkeep hb HG3.out) 1 1 (some ⟨b, 0, none⟩) 3 3 [⟨4, 0, 0, ⟨#[]⟩, (ti : Int) + 1⟩, nmV ((x : Int) + 1), nmV A.length] (vals_block (A := [⟨4, 0, 0, ⟨#[]⟩, (ti : Int) + 1⟩, nmV ((x : Int) + 1), nmV A.length]) h15) (by simp)))
          have HAc := Lib.hid (HA3.out)
          have SO := Lib.hid (fun (W : World) (hb : Below W3.heap.size W3 W) => (show W.cell? ⟨w.heap.size, 0, none⟩ = some (.int .i64 4) ∧ W.cell? ⟨w.heap.size, 1, none⟩ = some (.int .i64 0) ∧ W.cell? ⟨w.heap.size, 2, none⟩ = some (.int .i64 0) ∧ W.cell? ⟨w.heap.size, 3, none⟩ = some (.string ⟨#[]⟩) ∧ W.cell? ⟨w.heap.size, 4, none⟩ = some (.int .i64 ((ti : Int) + 1)) ∧ W.cell? ⟨w3.heap.size, 0, none⟩ = some (.int .i64 2) ∧ W.cell? ⟨w3.heap.size, 1, none⟩ = some (.int .i64 0) ∧ W.cell? ⟨w3.heap.size, 2, none⟩ = some (.int .i64 0) ∧ W.cell? ⟨w3.heap.size, 3, none⟩ = some (.int .i64 0) ∧ W.cell? ⟨w3.heap.size, 4, none⟩ = some (.string ⟨#[]⟩) ∧ W.cell? ⟨w3.heap.size, 5, none⟩ = some (.int .i64 0) ∧ W.cell? ⟨w3.heap.size, 6, none⟩ = some (.int .i64 fk) ∧ W.cell? ⟨w3.heap.size, 7, none⟩ = some (.int .i64 fp) ∧ W.cell? ⟨w3.heap.size, 8, none⟩ = some (.int .i64 fq) ∧ W.cell? ⟨w3.heap.size, 9, none⟩ = some (.string fs) ∧ W.cell? ⟨w3.heap.size, 10, none⟩ = some (.int .i64 fr) ∧ W.cell? ⟨w3.heap.size, 11, none⟩ = some (.slice (some ⟨g, 0, none⟩) 1 1) ∧ W.cell? ⟨w3.heap.size, 12, none⟩ = some (.int .i64 1) ∧ W.cell? ⟨w3.heap.size, 13, none⟩ = some (.string ⟨#[]⟩) from ⟨(cells5 (hkeep hb HT3.out)).1, (cells5 (hkeep hb HT3.out)).2.1, (cells5 (hkeep hb HT3.out)).2.2.1, (cells5 (hkeep hb HT3.out)).2.2.2.1, (cells5 (hkeep hb HT3.out)).2.2.2.2, (cells14 (hkeep hb HN3.out)).1, (cells14 (hkeep hb HN3.out)).2.1, (cells14 (hkeep hb HN3.out)).2.2.1, (cells14 (hkeep hb HN3.out)).2.2.2.1, (cells14 (hkeep hb HN3.out)).2.2.2.2.1, (cells14 (hkeep hb HN3.out)).2.2.2.2.2.1, (cells14 (hkeep hb HN3.out)).2.2.2.2.2.2.1, (cells14 (hkeep hb HN3.out)).2.2.2.2.2.2.2.1, (cells14 (hkeep hb HN3.out)).2.2.2.2.2.2.2.2.1, (cells14 (hkeep hb HN3.out)).2.2.2.2.2.2.2.2.2.1, (cells14 (hkeep hb HN3.out)).2.2.2.2.2.2.2.2.2.2.1, (cells14 (hkeep hb HN3.out)).2.2.2.2.2.2.2.2.2.2.2.1, (cells14 (hkeep hb HN3.out)).2.2.2.2.2.2.2.2.2.2.2.2.1, (cells14 (hkeep hb HN3.out)).2.2.2.2.2.2.2.2.2.2.2.2.2⟩))
          have SO12 := Lib.hid (fun (W : World) (c0 c1 c2 c3 c4 c5 c6 c7 c8 c9 c10 c11 : Value) (hb : Below W3.heap.size W3 W) => (show ((((((((((((W.setCell ⟨(w.heap.size + 1), 0, none⟩ c0).setCell ⟨(w.heap.size + 1), 1, none⟩ c1).setCell ⟨(w.heap.size + 1), 2, none⟩ c2).setCell ⟨(w.heap.size + 1), 3, none⟩ c3).setCell ⟨(w.heap.size + 1), 4, none⟩ c4).setCell ⟨(w.heap.size + 1), 5, none⟩ c5).setCell ⟨(w.heap.size + 1), 6, none⟩ c6).setCell ⟨(w.heap.size + 1), 7, none⟩ c7).setCell ⟨(w.heap.size + 1), 8, none⟩ c8).setCell ⟨(w.heap.size + 1), 9, none⟩ c9).setCell ⟨(w.heap.size + 1), 10, none⟩ c10).setCell ⟨(w.heap.size + 1), 11, none⟩ c11).cell? ⟨w.heap.size, 0, none⟩ = some (.int .i64 4) ∧ ((((((((((((W.setCell ⟨(w.heap.size + 1), 0, none⟩ c0).setCell ⟨(w.heap.size + 1), 1, none⟩ c1).setCell ⟨(w.heap.size + 1), 2, none⟩ c2).setCell ⟨(w.heap.size + 1), 3, none⟩ c3).setCell ⟨(w.heap.size + 1), 4, none⟩ c4).setCell ⟨(w.heap.size + 1), 5, none⟩ c5).setCell ⟨(w.heap.size + 1), 6, none⟩ c6).setCell ⟨(w.heap.size + 1), 7, none⟩ c7).setCell ⟨(w.heap.size + 1), 8, none⟩ c8).setCell ⟨(w.heap.size + 1), 9, none⟩ c9).setCell ⟨(w.heap.size + 1), 10, none⟩ c10).setCell ⟨(w.heap.size + 1), 11, none⟩ c11).cell? ⟨w.heap.size, 1, none⟩ = some (.int .i64 0) ∧ ((((((((((((W.setCell ⟨(w.heap.size + 1), 0, none⟩ c0).setCell ⟨(w.heap.size + 1), 1, none⟩ c1).setCell ⟨(w.heap.size + 1), 2, none⟩ c2).setCell ⟨(w.heap.size + 1), 3, none⟩ c3).setCell ⟨(w.heap.size + 1), 4, none⟩ c4).setCell ⟨(w.heap.size + 1), 5, none⟩ c5).setCell ⟨(w.heap.size + 1), 6, none⟩ c6).setCell ⟨(w.heap.size + 1), 7, none⟩ c7).setCell ⟨(w.heap.size + 1), 8, none⟩ c8).setCell ⟨(w.heap.size + 1), 9, none⟩ c9).setCell ⟨(w.heap.size + 1), 10, none⟩ c10).setCell ⟨(w.heap.size + 1), 11, none⟩ c11).cell? ⟨w.heap.size, 2, none⟩ = some (.int .i64 0) ∧ ((((((((((((W.setCell ⟨(w.heap.size + 1), 0, none⟩ c0).setCell ⟨(w.heap.size + 1), 1, none⟩ c1).setCell ⟨(w.heap.size + 1), 2, none⟩ c2).setCell ⟨(w.heap.size + 1), 3, none⟩ c3).setCell ⟨(w.heap.size + 1), 4, none⟩ c4).setCell ⟨(w.heap.size + 1), 5, none⟩ c5).setCell ⟨(w.heap.size + 1), 6, none⟩ c6).setCell ⟨(w.heap.size + 1), 7, none⟩ c7).setCell ⟨(w.heap.size + 1), 8, none⟩ c8).setCell ⟨(w.heap.size + 1), 9, none⟩ c9).setCell ⟨(w.heap.size + 1), 10, none⟩ c10).setCell ⟨(w.heap.size + 1), 11, none⟩ c11).cell? ⟨w.heap.size, 3, none⟩ = some (.string ⟨#[]⟩) ∧ ((((((((((((W.setCell ⟨(w.heap.size + 1), 0, none⟩ c0).setCell ⟨(w.heap.size + 1), 1, none⟩ c1).setCell ⟨(w.heap.size + 1), 2, none⟩ c2).setCell ⟨(w.heap.size + 1), 3, none⟩ c3).setCell ⟨(w.heap.size + 1), 4, none⟩ c4).setCell ⟨(w.heap.size + 1), 5, none⟩ c5).setCell ⟨(w.heap.size + 1), 6, none⟩ c6).setCell ⟨(w.heap.size + 1), 7, none⟩ c7).setCell ⟨(w.heap.size + 1), 8, none⟩ c8).setCell ⟨(w.heap.size + 1), 9, none⟩ c9).setCell ⟨(w.heap.size + 1), 10, none⟩ c10).setCell ⟨(w.heap.size + 1), 11, none⟩ c11).cell? ⟨w.heap.size, 4, none⟩ = some (.int .i64 ((ti : Int) + 1)) ∧ ((((((((((((W.setCell ⟨(w.heap.size + 1), 0, none⟩ c0).setCell ⟨(w.heap.size + 1), 1, none⟩ c1).setCell ⟨(w.heap.size + 1), 2, none⟩ c2).setCell ⟨(w.heap.size + 1), 3, none⟩ c3).setCell ⟨(w.heap.size + 1), 4, none⟩ c4).setCell ⟨(w.heap.size + 1), 5, none⟩ c5).setCell ⟨(w.heap.size + 1), 6, none⟩ c6).setCell ⟨(w.heap.size + 1), 7, none⟩ c7).setCell ⟨(w.heap.size + 1), 8, none⟩ c8).setCell ⟨(w.heap.size + 1), 9, none⟩ c9).setCell ⟨(w.heap.size + 1), 10, none⟩ c10).setCell ⟨(w.heap.size + 1), 11, none⟩ c11).cell? ⟨w3.heap.size, 0, none⟩ = some (.int .i64 2) ∧ ((((((((((((W.setCell ⟨(w.heap.size + 1), 0, none⟩ c0).setCell ⟨(w.heap.size + 1), 1, none⟩ c1).setCell ⟨(w.heap.size + 1), 2, none⟩ c2).setCell ⟨(w.heap.size + 1), 3, none⟩ c3).setCell ⟨(w.heap.size + 1), 4, none⟩ c4).setCell ⟨(w.heap.size + 1), 5, none⟩ c5).setCell ⟨(w.heap.size + 1), 6, none⟩ c6).setCell ⟨(w.heap.size + 1), 7, none⟩ c7).setCell ⟨(w.heap.size + 1), 8, none⟩ c8).setCell ⟨(w.heap.size + 1), 9, none⟩ c9).setCell ⟨(w.heap.size + 1), 10, none⟩ c10).setCell ⟨(w.heap.size + 1), 11, none⟩ c11).cell? ⟨w3.heap.size, 1, none⟩ = some (.int .i64 0) ∧ ((((((((((((W.setCell ⟨(w.heap.size + 1), 0, none⟩ c0).setCell ⟨(w.heap.size + 1), 1, none⟩ c1).setCell ⟨(w.heap.size + 1), 2, none⟩ c2).setCell ⟨(w.heap.size + 1), 3, none⟩ c3).setCell ⟨(w.heap.size + 1), 4, none⟩ c4).setCell ⟨(w.heap.size + 1), 5, none⟩ c5).setCell ⟨(w.heap.size + 1), 6, none⟩ c6).setCell ⟨(w.heap.size + 1), 7, none⟩ c7).setCell ⟨(w.heap.size + 1), 8, none⟩ c8).setCell ⟨(w.heap.size + 1), 9, none⟩ c9).setCell ⟨(w.heap.size + 1), 10, none⟩ c10).setCell ⟨(w.heap.size + 1), 11, none⟩ c11).cell? ⟨w3.heap.size, 2, none⟩ = some (.int .i64 0) ∧ ((((((((((((W.setCell ⟨(w.heap.size + 1), 0, none⟩ c0).setCell ⟨(w.heap.size + 1), 1, none⟩ c1).setCell ⟨(w.heap.size + 1), 2, none⟩ c2).setCell ⟨(w.heap.size + 1), 3, none⟩ c3).setCell ⟨(w.heap.size + 1), 4, none⟩ c4).setCell ⟨(w.heap.size + 1), 5, none⟩ c5).setCell ⟨(w.heap.size + 1), 6, none⟩ c6).setCell ⟨(w.heap.size + 1), 7, none⟩ c7).setCell ⟨(w.heap.size + 1), 8, none⟩ c8).setCell ⟨(w.heap.size + 1), 9, none⟩ c9).setCell ⟨(w.heap.size + 1), 10, none⟩ c10).setCell ⟨(w.heap.size + 1), 11, none⟩ c11).cell? ⟨w3.heap.size, 3, none⟩ = some (.int .i64 0) ∧ ((((((((((((W.setCell ⟨(w.heap.size + 1), 0, none⟩ c0).setCell ⟨(w.heap.size + 1), 1, none⟩ c1).setCell ⟨(w.heap.size + 1), 2, none⟩ c2).setCell ⟨(w.heap.size + 1), 3, none⟩ c3).setCell ⟨(w.heap.size + 1), 4, none⟩ c4).setCell ⟨(w.heap.size + 1), 5, none⟩ c5).setCell ⟨(w.heap.size + 1), 6, none⟩ c6).setCell ⟨(w.heap.size + 1), 7, none⟩ c7).setCell ⟨(w.heap.size + 1), 8, none⟩ c8).setCell ⟨(w.heap.size + 1), 9, none⟩ c9).setCell ⟨(w.heap.size + 1), 10, none⟩ c10).setCell ⟨(w.heap.size + 1), 11, none⟩ c11).cell? ⟨w3.heap.size, 4, none⟩ = some (.string ⟨#[]⟩) ∧ ((((((((((((W.setCell ⟨(w.heap.size + 1), 0, none⟩ c0).setCell ⟨(w.heap.size + 1), 1, none⟩ c1).setCell ⟨(w.heap.size + 1), 2, none⟩ c2).setCell ⟨(w.heap.size + 1), 3, none⟩ c3).setCell ⟨(w.heap.size + 1), 4, none⟩ c4).setCell ⟨(w.heap.size + 1), 5, none⟩ c5).setCell ⟨(w.heap.size + 1), 6, none⟩ c6).setCell ⟨(w.heap.size + 1), 7, none⟩ c7).setCell ⟨(w.heap.size + 1), 8, none⟩ c8).setCell ⟨(w.heap.size + 1), 9, none⟩ c9).setCell ⟨(w.heap.size + 1), 10, none⟩ c10).setCell ⟨(w.heap.size + 1), 11, none⟩ c11).cell? ⟨w3.heap.size, 5, none⟩ = some (.int .i64 0) ∧ ((((((((((((W.setCell ⟨(w.heap.size + 1), 0, none⟩ c0).setCell ⟨(w.heap.size + 1), 1, none⟩ c1).setCell ⟨(w.heap.size + 1), 2, none⟩ c2).setCell ⟨(w.heap.size + 1), 3, none⟩ c3).setCell ⟨(w.heap.size + 1), 4, none⟩ c4).setCell ⟨(w.heap.size + 1), 5, none⟩ c5).setCell ⟨(w.heap.size + 1), 6, none⟩ c6).setCell ⟨(w.heap.size + 1), 7, none⟩ c7).setCell ⟨(w.heap.size + 1), 8, none⟩ c8).setCell ⟨(w.heap.size + 1), 9, none⟩ c9).setCell ⟨(w.heap.size + 1), 10, none⟩ c10).setCell ⟨(w.heap.size + 1), 11, none⟩ c11).cell? ⟨w3.heap.size, 6, none⟩ = some (.int .i64 fk) ∧ ((((((((((((W.setCell ⟨(w.heap.size + 1), 0, none⟩ c0).setCell ⟨(w.heap.size + 1), 1, none⟩ c1).setCell ⟨(w.heap.size + 1), 2, none⟩ c2).setCell ⟨(w.heap.size + 1), 3, none⟩ c3).setCell ⟨(w.heap.size + 1), 4, none⟩ c4).setCell ⟨(w.heap.size + 1), 5, none⟩ c5).setCell ⟨(w.heap.size + 1), 6, none⟩ c6).setCell ⟨(w.heap.size + 1), 7, none⟩ c7).setCell ⟨(w.heap.size + 1), 8, none⟩ c8).setCell ⟨(w.heap.size + 1), 9, none⟩ c9).setCell ⟨(w.heap.size + 1), 10, none⟩ c10).setCell ⟨(w.heap.size + 1), 11, none⟩ c11).cell? ⟨w3.heap.size, 7, none⟩ = some (.int .i64 fp) ∧ ((((((((((((W.setCell ⟨(w.heap.size + 1), 0, none⟩ c0).setCell ⟨(w.heap.size + 1), 1, none⟩ c1).setCell ⟨(w.heap.size + 1), 2, none⟩ c2).setCell ⟨(w.heap.size + 1), 3, none⟩ c3).setCell ⟨(w.heap.size + 1), 4, none⟩ c4).setCell ⟨(w.heap.size + 1), 5, none⟩ c5).setCell ⟨(w.heap.size + 1), 6, none⟩ c6).setCell ⟨(w.heap.size + 1), 7, none⟩ c7).setCell ⟨(w.heap.size + 1), 8, none⟩ c8).setCell ⟨(w.heap.size + 1), 9, none⟩ c9).setCell ⟨(w.heap.size + 1), 10, none⟩ c10).setCell ⟨(w.heap.size + 1), 11, none⟩ c11).cell? ⟨w3.heap.size, 8, none⟩ = some (.int .i64 fq) ∧ ((((((((((((W.setCell ⟨(w.heap.size + 1), 0, none⟩ c0).setCell ⟨(w.heap.size + 1), 1, none⟩ c1).setCell ⟨(w.heap.size + 1), 2, none⟩ c2).setCell ⟨(w.heap.size + 1), 3, none⟩ c3).setCell ⟨(w.heap.size + 1), 4, none⟩ c4).setCell ⟨(w.heap.size + 1), 5, none⟩ c5).setCell ⟨(w.heap.size + 1), 6, none⟩ c6).setCell ⟨(w.heap.size + 1), 7, none⟩ c7).setCell ⟨(w.heap.size + 1), 8, none⟩ c8).setCell ⟨(w.heap.size + 1), 9, none⟩ c9).setCell ⟨(w.heap.size + 1), 10, none⟩ c10).setCell ⟨(w.heap.size + 1), 11, none⟩ c11).cell? ⟨w3.heap.size, 9, none⟩ = some (.string fs) ∧ ((((((((((((W.setCell ⟨(w.heap.size + 1), 0, none⟩ c0).setCell ⟨(w.heap.size + 1), 1, none⟩ c1).setCell ⟨(w.heap.size + 1), 2, none⟩ c2).setCell ⟨(w.heap.size + 1), 3, none⟩ c3).setCell ⟨(w.heap.size + 1), 4, none⟩ c4).setCell ⟨(w.heap.size + 1), 5, none⟩ c5).setCell ⟨(w.heap.size + 1), 6, none⟩ c6).setCell ⟨(w.heap.size + 1), 7, none⟩ c7).setCell ⟨(w.heap.size + 1), 8, none⟩ c8).setCell ⟨(w.heap.size + 1), 9, none⟩ c9).setCell ⟨(w.heap.size + 1), 10, none⟩ c10).setCell ⟨(w.heap.size + 1), 11, none⟩ c11).cell? ⟨w3.heap.size, 10, none⟩ = some (.int .i64 fr) ∧ ((((((((((((W.setCell ⟨(w.heap.size + 1), 0, none⟩ c0).setCell ⟨(w.heap.size + 1), 1, none⟩ c1).setCell ⟨(w.heap.size + 1), 2, none⟩ c2).setCell ⟨(w.heap.size + 1), 3, none⟩ c3).setCell ⟨(w.heap.size + 1), 4, none⟩ c4).setCell ⟨(w.heap.size + 1), 5, none⟩ c5).setCell ⟨(w.heap.size + 1), 6, none⟩ c6).setCell ⟨(w.heap.size + 1), 7, none⟩ c7).setCell ⟨(w.heap.size + 1), 8, none⟩ c8).setCell ⟨(w.heap.size + 1), 9, none⟩ c9).setCell ⟨(w.heap.size + 1), 10, none⟩ c10).setCell ⟨(w.heap.size + 1), 11, none⟩ c11).cell? ⟨w3.heap.size, 11, none⟩ = some (.slice (some ⟨g, 0, none⟩) 1 1) ∧ ((((((((((((W.setCell ⟨(w.heap.size + 1), 0, none⟩ c0).setCell ⟨(w.heap.size + 1), 1, none⟩ c1).setCell ⟨(w.heap.size + 1), 2, none⟩ c2).setCell ⟨(w.heap.size + 1), 3, none⟩ c3).setCell ⟨(w.heap.size + 1), 4, none⟩ c4).setCell ⟨(w.heap.size + 1), 5, none⟩ c5).setCell ⟨(w.heap.size + 1), 6, none⟩ c6).setCell ⟨(w.heap.size + 1), 7, none⟩ c7).setCell ⟨(w.heap.size + 1), 8, none⟩ c8).setCell ⟨(w.heap.size + 1), 9, none⟩ c9).setCell ⟨(w.heap.size + 1), 10, none⟩ c10).setCell ⟨(w.heap.size + 1), 11, none⟩ c11).cell? ⟨w3.heap.size, 12, none⟩ = some (.int .i64 1) ∧ ((((((((((((W.setCell ⟨(w.heap.size + 1), 0, none⟩ c0).setCell ⟨(w.heap.size + 1), 1, none⟩ c1).setCell ⟨(w.heap.size + 1), 2, none⟩ c2).setCell ⟨(w.heap.size + 1), 3, none⟩ c3).setCell ⟨(w.heap.size + 1), 4, none⟩ c4).setCell ⟨(w.heap.size + 1), 5, none⟩ c5).setCell ⟨(w.heap.size + 1), 6, none⟩ c6).setCell ⟨(w.heap.size + 1), 7, none⟩ c7).setCell ⟨(w.heap.size + 1), 8, none⟩ c8).setCell ⟨(w.heap.size + 1), 9, none⟩ c9).setCell ⟨(w.heap.size + 1), 10, none⟩ c10).setCell ⟨(w.heap.size + 1), 11, none⟩ c11).cell? ⟨w3.heap.size, 13, none⟩ = some (.string ⟨#[]⟩) from ⟨(cells5 (heap12_old (hkeep hb HT3.out) (by omega) c0 c1 c2 c3 c4 c5 c6 c7 c8 c9 c10 c11)).1, (cells5 (heap12_old (hkeep hb HT3.out) (by omega) c0 c1 c2 c3 c4 c5 c6 c7 c8 c9 c10 c11)).2.1, (cells5 (heap12_old (hkeep hb HT3.out) (by omega) c0 c1 c2 c3 c4 c5 c6 c7 c8 c9 c10 c11)).2.2.1, (cells5 (heap12_old (hkeep hb HT3.out) (by omega) c0 c1 c2 c3 c4 c5 c6 c7 c8 c9 c10 c11)).2.2.2.1, (cells5 (heap12_old (hkeep hb HT3.out) (by omega) c0 c1 c2 c3 c4 c5 c6 c7 c8 c9 c10 c11)).2.2.2.2, (cells14 (heap12_old (hkeep hb HN3.out) (by omega) c0 c1 c2 c3 c4 c5 c6 c7 c8 c9 c10 c11)).1, (cells14 (heap12_old (hkeep hb HN3.out) (by omega) c0 c1 c2 c3 c4 c5 c6 c7 c8 c9 c10 c11)).2.1, (cells14 (heap12_old (hkeep hb HN3.out) (by omega) c0 c1 c2 c3 c4 c5 c6 c7 c8 c9 c10 c11)).2.2.1, (cells14 (heap12_old (hkeep hb HN3.out) (by omega) c0 c1 c2 c3 c4 c5 c6 c7 c8 c9 c10 c11)).2.2.2.1, (cells14 (heap12_old (hkeep hb HN3.out) (by omega) c0 c1 c2 c3 c4 c5 c6 c7 c8 c9 c10 c11)).2.2.2.2.1, (cells14 (heap12_old (hkeep hb HN3.out) (by omega) c0 c1 c2 c3 c4 c5 c6 c7 c8 c9 c10 c11)).2.2.2.2.2.1, (cells14 (heap12_old (hkeep hb HN3.out) (by omega) c0 c1 c2 c3 c4 c5 c6 c7 c8 c9 c10 c11)).2.2.2.2.2.2.1, (cells14 (heap12_old (hkeep hb HN3.out) (by omega) c0 c1 c2 c3 c4 c5 c6 c7 c8 c9 c10 c11)).2.2.2.2.2.2.2.1, (cells14 (heap12_old (hkeep hb HN3.out) (by omega) c0 c1 c2 c3 c4 c5 c6 c7 c8 c9 c10 c11)).2.2.2.2.2.2.2.2.1, (cells14 (heap12_old (hkeep hb HN3.out) (by omega) c0 c1 c2 c3 c4 c5 c6 c7 c8 c9 c10 c11)).2.2.2.2.2.2.2.2.2.1, (cells14 (heap12_old (hkeep hb HN3.out) (by omega) c0 c1 c2 c3 c4 c5 c6 c7 c8 c9 c10 c11)).2.2.2.2.2.2.2.2.2.2.1, (cells14 (heap12_old (hkeep hb HN3.out) (by omega) c0 c1 c2 c3 c4 c5 c6 c7 c8 c9 c10 c11)).2.2.2.2.2.2.2.2.2.2.2.1, (cells14 (heap12_old (hkeep hb HN3.out) (by omega) c0 c1 c2 c3 c4 c5 c6 c7 c8 c9 c10 c11)).2.2.2.2.2.2.2.2.2.2.2.2.1, (cells14 (heap12_old (hkeep hb HN3.out) (by omega) c0 c1 c2 c3 c4 c5 c6 c7 c8 c9 c10 c11)).2.2.2.2.2.2.2.2.2.2.2.2.2⟩))
          have HBc := Lib.hid ((Below.refl W3.heap.size W3).drew)
          go_region_held3 (fun w' => w'.cell? ⟨w.heap.size, 0, none⟩ = some (.int .i64 4) ∧ w'.cell? ⟨w.heap.size, 1, none⟩ = some (.int .i64 0) ∧ w'.cell? ⟨w.heap.size, 2, none⟩ = some (.int .i64 0) ∧ w'.cell? ⟨w.heap.size, 3, none⟩ = some (.string ⟨#[]⟩) ∧ w'.cell? ⟨w.heap.size, 4, none⟩ = some (.int .i64 ((ti : Int) + 1)) ∧ w'.cell? ⟨w3.heap.size, 0, none⟩ = some (.int .i64 2) ∧ w'.cell? ⟨w3.heap.size, 1, none⟩ = some (.int .i64 0) ∧ w'.cell? ⟨w3.heap.size, 2, none⟩ = some (.int .i64 0) ∧ w'.cell? ⟨w3.heap.size, 3, none⟩ = some (.int .i64 0) ∧ w'.cell? ⟨w3.heap.size, 4, none⟩ = some (.string ⟨#[]⟩) ∧ w'.cell? ⟨w3.heap.size, 5, none⟩ = some (.int .i64 0) ∧ w'.cell? ⟨w3.heap.size, 6, none⟩ = some (.int .i64 fk) ∧ w'.cell? ⟨w3.heap.size, 7, none⟩ = some (.int .i64 fp) ∧ w'.cell? ⟨w3.heap.size, 8, none⟩ = some (.int .i64 fq) ∧ w'.cell? ⟨w3.heap.size, 9, none⟩ = some (.string fs) ∧ w'.cell? ⟨w3.heap.size, 10, none⟩ = some (.int .i64 fr) ∧ w'.cell? ⟨w3.heap.size, 11, none⟩ = some (.slice (some ⟨g, 0, none⟩) 1 1) ∧ w'.cell? ⟨w3.heap.size, 12, none⟩ = some (.int .i64 1) ∧ w'.cell? ⟨w3.heap.size, 13, none⟩ = some (.string ⟨#[]⟩))
            (first | with_reducible exact SO.out _ HBc.out | with_reducible exact SO.out _ (HBc.out.alloc HBc.out.size _) | with_reducible exact SO12.out _ _ _ _ _ _ _ _ _ _ _ _ _ HBc.out)
            (first | (go_at_call 79; (with_reducible refine (HOI.out _ _ ⟨by omega, by omega⟩).mono ?_); rintro e nw1 ⟨rfl, hb⟩; have HBc := Lib.hid (below_next HBc.out hb); have HAc := Lib.hid (hkeep hb HAc.out); clear hb) | (go_at_call 88; (with_reducible refine (HNd.out _ _ (HBc.out.alloc HBc.out.size _) (heap_new _ _)).mono ?_); rintro e nw2 ⟨so2, cap2, sk2, ck2, rfl, hr, hk, hm⟩; have hzN := HBc.out.size; have HR2 := Lib.hid hr; have HK2 := Lib.hid hk; have HAc := Lib.hid (hkeep (mods_below hm) (heap1_old HAc.out _)); have HBc := Lib.hid (below_next (HBc.out.alloc HBc.out.size _) (mods_below hm)); (obtain ⟨a0, a1, a2, a3, a4, a5, a6, a7, a8, a9, a10, a11⟩ := cells12 HAc.out); (obtain ⟨fa0, fa1, fa2, fa3, fa4, fa5, fa6, fa7, fa8, fa9, fa10, fa11⟩ := froz12 HAc.out); have hyw := (Array.getElem?_eq_some_iff.1 HAc.out).1; clear hr hk hm))
          go_wp2
          refine bodyPost_ret (by simp [results, Tryz.results100, go_sem, hyw, a0, a1, a2, a3, a4, a5, a6, a7, a8, a9, a10, a11]; first | done | rfl) rfl ?_
          refine HFIN.out _ _ ?_
          exact prP_end HR2.out HK2.out (HP3.out.below HBc.out) (HQS.out.trans (QS.of_below (below_next HB3.out HBc.out))) HAc.out (by omega) (by simp; omega) (by simp; omega) (no_own HK2.out (fun b hb => by have := HP1.out.lt _ hb; simp; omega)) _ _ _ _ _ _ _ _ _ _ _ _
    · have hxe : x = A.length := by omega
      have hje : j = A.length := by omega
      obtain ⟨hall, hfin⟩ := HQ1.out hje
      subst hxe
      have d1 : decide ((A.length : Int) + 1 ≤ (A.length : Int)) = false := decide_eq_false (by omega)
      have HALL := Lib.hid (hall)
      obtain ⟨T, hT⟩ : ∃ T, T = lineOf A := ⟨_, rfl⟩
      rw [← hT] at hfin
      have HTT := Lib.hid (hT)
      have HFIN := Lib.hid (hfin)
      clear hall hfin hT
      rename World => wq
      go_wp2
      go_loopg [12, 51] A.length (fun gg s12 s51 wx => ∃ y so2 cap2, y + gg = A.length ∧ s51 = .int .i64 (y : Int) ∧ s12 = .slice so2 y cap2 ∧ Hid (Below wq.heap.size wq wx ∧ wx.ownsRow wq.heap.size 9 1 (.slice so2 y cap2) y ((A.take y).map fun v => .string v.s)))
      case atStart => exact ⟨0, none, 0, by omega, rfl, rfl, Below.refl _ _, World.ownsRow_nil _ _ _ _⟩
      case round =>
        obtain ⟨y, so2, cap2, hy, rfl, rfl, HY⟩ := hrel
        have HBy := Lib.hid (HY.out.1)
        have HRo := Lib.hid (HY.out.2)
        have HTy := Lib.hid (hkeep HBy.out HT1.out)
        have HAy := Lib.hid (hkeep HBy.out HA1.out)
        have hzy := HBy.out.size
        have hyty : w.heap.size < wr.heap.size := by omega
        have hyay : w.heap.size + 1 < wr.heap.size := by omega
        clear HY
        by_cases hyA : y < A.length
        · obtain ⟨v, hv⟩ : ∃ v, A[y]? = some v := ⟨_, List.getElem?_eq_getElem hyA⟩
          obtain ⟨g1, g2, g3, g4, hsz⟩ := HALL.out v (List.mem_of_getElem? hv)
          obtain ⟨vk, vp, vq, vs, vr⟩ := v
          have g1 : vk = 3 := g1
          have g2 : vp = 0 := g2
          have g3 : vq = 0 := g3
          have g4 : vr = 0 := g4
          subst g1 g2 g3 g4
          have HV := Lib.hid (hv)
          clear hv hsz
          have HOI := Lib.hid (fun (W : World) => (show Calls Tryz.prog 79 #[.int .i64 (IntKind.i64.wrap ((y : Int) + 1))] W (fun e w' => e = .returned (.agg #[.int .i64 2, .int .i64 ((y : Int) + 1), .int .i64 1, .string ⟨#[]⟩, .int .i64 0]) ∧ Below W.heap.size W w') from by rw [w64_in (by omega) (by omega)]; exact pOfInt_top W ((y : Int) + 1) (by omega) (by omega)))
          have HG := Lib.hid (fun W (hb : Below wr.heap.size wr W) => (show Calls Tryz.prog 20 #[.pointer (some ⟨h, 0, none⟩), .agg #[.int .i64 4, .int .i64 0, .int .i64 0, .string ⟨#[]⟩, .int .i64 ((ti : Int) + 1)], .agg #[.int .i64 2, .int .i64 ((y : Int) + 1), .int .i64 1, .string ⟨#[]⟩, .int .i64 0]] W (fun e w' => e = .returned (.tuple #[.agg #[.int .i64 3, .int .i64 0, .int .i64 0, .string vs, .int .i64 0], .int .i64 0]) ∧ Below W.heap.size W w') from get_in ((HP1.out.below HBy.out).below hb) hn hti HM.out HAA.out HK4.out hyA (by omega) HV.out))
          go_upto_region 12 with fail
          go_cut [14, 15] (fun s14 s15 wx => ∃ nb, s14 = .pointer (some ⟨nb, 0, none⟩) ∧ s15 = .int .i64 0 ∧ Hid (wx.heap[nb]? = some (oV 3 0 0 vs 0) ∧ Below wr.heap.size wr wx ∧ wr.heap.size ≤ nb))
          case first =>
            have SO := Lib.hid (fun (W : World) (hb : Below wr.heap.size wr W) => (show W.cell? ⟨w.heap.size, 0, none⟩ = some (.int .i64 4) ∧ W.cell? ⟨w.heap.size, 1, none⟩ = some (.int .i64 0) ∧ W.cell? ⟨w.heap.size, 2, none⟩ = some (.int .i64 0) ∧ W.cell? ⟨w.heap.size, 3, none⟩ = some (.string ⟨#[]⟩) ∧ W.cell? ⟨w.heap.size, 4, none⟩ = some (.int .i64 ((ti : Int) + 1)) ∧ Hid (Below wr.heap.size wr W) from ⟨(cells5 (hkeep hb HTy.out)).1, (cells5 (hkeep hb HTy.out)).2.1, (cells5 (hkeep hb HTy.out)).2.2.1, (cells5 (hkeep hb HTy.out)).2.2.2.1, (cells5 (hkeep hb HTy.out)).2.2.2.2, Lib.hid hb⟩))
            have BA := Lib.hid (fun (W : World) (o : Obj) (hb : Below wr.heap.size wr W) => (show Below wr.heap.size wr (W.alloc o) from hb.alloc hb.size o))
            have BD := Lib.hid (fun (W : World) (hb : Below wr.heap.size wr W) => (show Below wr.heap.size wr W.drew from hb.drew))
            have B5 := Lib.hid (fun (W : World) (b : Nat) (x0 x1 x2 x3 x4 : Value) (hb : Below wr.heap.size wr W) (hbb : wr.heap.size ≤ b) => below_five hb hbb x0 x1 x2 x3 x4)
            have hbR : Below wr.heap.size wr wr := Below.refl _ _
            have hbD : Below wr.heap.size wr wr.drew := (Below.refl _ _).drew
            go_region_held3 (fun w' => w'.cell? ⟨w.heap.size, 0, none⟩ = some (.int .i64 4) ∧ w'.cell? ⟨w.heap.size, 1, none⟩ = some (.int .i64 0) ∧ w'.cell? ⟨w.heap.size, 2, none⟩ = some (.int .i64 0) ∧ w'.cell? ⟨w.heap.size, 3, none⟩ = some (.string ⟨#[]⟩) ∧ w'.cell? ⟨w.heap.size, 4, none⟩ = some (.int .i64 ((ti : Int) + 1)) ∧ Hid (Below wr.heap.size wr w'))
              (with_reducible refine SO.out _ ?_; repeat (first | with_reducible assumption | (with_reducible refine BA.out _ _ ?_) | (with_reducible refine BD.out _ ?_) | (with_reducible refine B5.out _ _ _ _ _ _ _ ?_ ?_) | omega))
              (first | (go_at_call 79; (with_reducible refine (HOI.out _).mono ?_); rintro e nw1 ⟨rfl, hb⟩; have hb1 := below_next (prjC5 (by assumption)) hb; have hzb1 := hb1.size; (first | ((with_reducible have Hz1 := Lib.hid (hkeep hb (heap_newD wr (oV 0 0 0 ⟨#[]⟩ 0)))); have hza1 := (Array.getElem?_eq_some_iff.1 Hz1.out).1) | ((with_reducible have Hz1 := Lib.hid (hkeep hb (heap_new wr (oV 0 0 0 ⟨#[]⟩ 0)))); have hza1 := (Array.getElem?_eq_some_iff.1 Hz1.out).1) | skip); clear hb) | (go_at_call 20; (with_reducible refine (HG.out _ (prjC5 (by assumption))).mono ?_); rintro e nw2 ⟨rfl, hb⟩; have hb2 := below_next (prjC5 (by assumption)) hb; have hzb2 := hb2.size; (first | ((with_reducible have Hz2 := Lib.hid (hkeep hb (heap_newD wr (oV 0 0 0 ⟨#[]⟩ 0)))); have hza2 := (Array.getElem?_eq_some_iff.1 Hz2.out).1; obtain ⟨z0, z1, z2, z3, z4⟩ := cells5 Hz2.out; obtain ⟨fz0, fz1, fz2, fz3, fz4⟩ := froz5 Hz2.out) | ((with_reducible have Hz2 := Lib.hid (hkeep hb (heap_new wr (oV 0 0 0 ⟨#[]⟩ 0)))); have hza2 := (Array.getElem?_eq_some_iff.1 Hz2.out).1; obtain ⟨z0, z1, z2, z3, z4⟩ := cells5 Hz2.out; obtain ⟨fz0, fz1, fz2, fz3, fz4⟩ := froz5 Hz2.out) | ((with_reducible have Hz2 := Lib.hid (hkeep hb (heap_new nw1 (oV 0 0 0 ⟨#[]⟩ 0)))); have hza2 := (Array.getElem?_eq_some_iff.1 Hz2.out).1; obtain ⟨z0, z1, z2, z3, z4⟩ := cells5 Hz2.out; obtain ⟨fz0, fz1, fz2, fz3, fz4⟩ := froz5 Hz2.out) | ((with_reducible have Hz2 := Lib.hid (hkeep hb Hz1.out)); have hza2 := (Array.getElem?_eq_some_iff.1 Hz2.out).1; obtain ⟨z0, z1, z2, z3, z4⟩ := cells5 Hz2.out; obtain ⟨fz0, fz1, fz2, fz3, fz4⟩ := froz5 Hz2.out) | skip); clear hb))
            all_goals
              go_wp2_with fail
              go_meet
              first
              | (with_reducible refine ⟨_, rfl, rfl, Lib.hid ⟨heap_new _ _, hb2.alloc hb2.size _, hb2.size⟩⟩)
              | (refine ⟨_, rfl, rfl, Lib.hid ⟨heap_five_at Hz2.out _ _ _ _ _, below_five hb2 ?_ _ _ _ _ _, ?_⟩⟩ <;> omega)
          case rest =>
            obtain ⟨nb, rfl, rfl, hx⟩ := hcut
            have HB2 := Lib.hid (hx.out.2.1)
            have HV2 := Lib.hid (hx.out.1)
            have hz2 := HB2.out.size
            have HRo2 := Lib.hid (ownsRow_ext (below_ext HB2.out (Nat.le_refl _)) HRo.out)
            clear hx
            obtain ⟨v0, v1, v2, v3, v4⟩ := cells5 HV2.out
            obtain ⟨xs, hxs⟩ : ∃ xs, xs = (A.take y).map (fun v : V => Value.string v.s) := ⟨_, rfl⟩
            rw [← hxs] at HRo2
            have HXS := Lib.hid (hxs)
            clear hxs
            go_wp2_with (at_builtin; refine wpList_append_own_at _ rfl (.tmp 67) (.tmp 70) 22 rfl (wq.heap.size) 9 i1 _ 1 16 Tryz.underlying22 hi1 hi1a hi1b hi1c rfl (by decide) (.slice so2 y cap2) y xs rfl ?A _ 1 1 [.string vs] rfl rfl ?B ?C ?D ?E ?F ?G)
            case A => exact ownsRow_ext (below_ext (below1 _ _) (Nat.le_refl _)) HRo2.out
            case C => rfl
            case D => unfold maxLen; omega
            case E => omega
            case F => have := HB2.out.size; omega
            case G =>
              intro v' w5 hown hgrow _ hat
              obtain ⟨rb', cap', rfl⟩ := slice_shape hown (by omega)
              have hlo : ∀ b, (Value.slice so2 y cap2).ownBlock = some b → wq.heap.size ≤ b := fun b hb => (ownBlock_lt HRo2.out hb).1
              have HB5 := Lib.hid (below_grown ((below_next HBy.out HB2.out).alloc (by have := HB2.out.size; omega) _) hgrow (by have := HB2.out.size; simp; omega) (fun b hb => hlo b hb))
              have HO5 := Lib.hid (hown)
              clear hown hgrow hat hlo v0 v1 v2 v3 v4
              go_wp2
              go_roundg (A.length - (y + 1))
              case measure => omega
              case rel =>
                refine ⟨y + 1, some ⟨rb', 0, none⟩, cap', by omega, by push_cast; rfl, rfl, HB5.out, ?_⟩
                have := HO5.out
                rwa [show (A.take (y + 1)).map (fun v : V => Value.string v.s) = xs ++ [.string vs] from by rw [HXS.out, List.take_add_one, HV.out, List.map_append]; rfl]
        · have hyy : y = A.length := by omega
          subst hyy
          have hline : ∀ W, Below wr.heap.size wr W → Calls Tryz.prog 134 #[.slice so2 A.length cap2] W (LinePost W T) := fun W hb => by
            rw [HTT.out]
            exact line_row W wq.heap.size so2 cap2 A (ownsRow_ext (below_ext hb (Nat.le_refl _)) (by have := HRo.out; rwa [List.take_length] at this)) (by omega) HALL.out
          have HL := Lib.hid (hline)
          clear hline
          go_wp2_with fail
          refine (HL.out _ (Below.refl _ _)).mono ?_
          rintro e w1 ⟨⟨so1, cap1, sk1, ck1, rfl, hr, hk⟩, hb⟩
          have HR1 := Lib.hid (hr)
          have HK1 := Lib.hid (hk)
          have HAx := Lib.hid (hkeep hb HAy.out)
          have HBx := Lib.hid (below_next HBy.out hb)
          clear hr hk hb
          have hya1 : w.heap.size + 1 < w1.heap.size := (Array.getElem?_eq_some_iff.1 HAx.out).1
          obtain ⟨a0, a1, a2, a3, a4, a5, a6, a7, a8, a9, a10, a11⟩ := cells12 HAx.out
          obtain ⟨fa0, fa1, fa2, fa3, fa4, fa5, fa6, fa7, fa8, fa9, fa10, fa11⟩ := froz12 HAx.out
          go_wp2
          refine bodyPost_ret (by simp [results, Tryz.results100, go_sem, hya1, a0, a1, a2, a3, a4, a5, a6, a7, a8, a9, a10, a11]; first | done | rfl) rfl ?_
          refine HFIN.out _ _ ?_
          exact prP_end HR1.out HK1.out (HP1.out.below HBx.out) (HQS.out.trans (QS.of_below HBx.out)) HAx.out (by omega) hyay (by omega) (no_own HK1.out (fun b hb => by have := HP1.out.lt _ hb; omega)) _ _ _ _ _ _ _ _ _ _ _ _
end Go.Proofs.YteflmfdjnigjcaaGreatDoor
