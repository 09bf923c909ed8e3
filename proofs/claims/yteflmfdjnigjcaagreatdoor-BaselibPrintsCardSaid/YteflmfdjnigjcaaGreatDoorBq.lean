import Derived.Test.YteflmfdjnigjcaaGreatDoorBn
set_option linter.unusedVariables false
set_option linter.unusedSimpArgs false
set_option maxRecDepth 100000
set_option maxHeartbeats 2000000
namespace Go.Proofs.YteflmfdjnigjcaaGreatDoor
open Go.RowKit Go.Proofs.Lexi
theorem pArg_at (w : World) (so : Option Addr) (n cap : Nat) (A : List V) (hA : Vals w (.slice so n cap) A) (j : Int) (i : Nat) (hj : j = i) (v : V) (hv : A[i]? = some v) (hl : A.length ≤ 1000) : Calls Tryz.prog 38 #[.slice so n cap, .int .i64 j] w (ValPost w v) := by
  subst hj
  exact pArg_in w so n cap A hA i v hv hl
set_option maxRecDepth 100000 in
set_option maxHeartbeats 2000000 in
theorem cArg_c (w : World) (c : Nat) (nm : ByteArray) (so : Option Addr) (n cap : Nat) (A : List V) (HC : w.heap[c]? = some (oCl nm (.slice so n cap))) (hA : Vals w (.slice so n cap) A) (hl : A.length ≤ 1000) (k : Int) (i : Nat) (hk : k = (i : Int) + 1) (v : V) (hv : A[i]? = some v) :
    Calls Tryz.prog 67 #[.pointer (some ⟨c, 0, none⟩), .int .i64 k] w (ValPost w v) := by
  have hc : c < w.heap.size := (Array.getElem?_eq_some_iff.1 HC).1
  have hi : i < A.length := (List.getElem?_eq_some_iff.1 hv).1
  have c2 : (w.alloc (oV 0 0 0 ⟨#[]⟩ 0)).cell? ⟨c, 2, none⟩ = some (.slice so n cap) := by rw [cell_of_heap (heap1_old HC _)]; rfl
  have HP := Lib.hid (fun W (hb : Below w.heap.size w W) (j : Int) (hj : j = i) => pArg_at W so n cap A (Vals.below hA hb) j i hj v hv hl)
  have hkb : -1000 ≤ k ∧ k ≤ 1001 := by omega
  have HK := Lib.hid hk
  clear HC hA hv hk
  go_enter Tryz.func67, Tryz.ntmps67
  go_wp2_with fail
  refine (HP.out _ (below1 _ _) _ (by have := HK.out; omega)).mono ?_
  rintro e w1 ⟨rfl, hb⟩
  have Ha1 := Lib.hid (hkeep hb (heap1 w (oV 0 0 0 ⟨#[]⟩ 0)))
  have HW1 := Lib.hid (below_next (below1 _ _) hb)
  clear hb
  have hya : w.heap.size < w1.heap.size := (Array.getElem?_eq_some_iff.1 Ha1.out).1
  obtain ⟨a0, a1, a2, a3, a4⟩ := cells5 Ha1.out
  obtain ⟨f0, f1, f2, f3, f4⟩ := froz5 Ha1.out
  go_wp2
  refine bodyPost_ret (by simp [results, Tryz.results67, go_sem, hya, a0, a1, a2, a3, a4]; first | done | rfl) rfl ?_
  exact val_done rfl (below_five HW1.out (Nat.le_refl _) _ _ _ _ _)
set_option maxRecDepth 100000 in
set_option maxHeartbeats 2000000 in
theorem cAfter_c (w : World) (c : Nat) (nm : ByteArray) (g o n cap : Nat) (A : List V) (HC : w.heap[c]? = some (oCl nm (.slice (some ⟨g, o, none⟩) n cap))) (hA : Vals w (.slice (some ⟨g, o, none⟩) n cap) A) (hl : A.length ≤ 1000) (h1 : 1 ≤ A.length) :
    Calls Tryz.prog 120 #[.pointer (some ⟨c, 0, none⟩), .int .i64 1] w (SliceVals w (A.drop 1)) := by
  have hc : c < w.heap.size := (Array.getElem?_eq_some_iff.1 HC).1
  have hn : n = A.length := by obtain ⟨so, cp, e, _⟩ := hA; injection e
  subst hn
  have hcap : A.length ≤ cap := by obtain ⟨so, cp, e, h, _⟩ := hA; injection e with e1 e2 e3; omega
  have c2 : w.cell? ⟨c, 2, none⟩ = some (.slice (some ⟨g, o, none⟩) A.length cap) := by rw [cell_of_heap HC]; rfl
  have hmin : min (1 : Int) (A.length : Int) = 1 := by omega
  have hd := Lib.hid (Vals.drop hA 1 (by omega))
  have hlen := Lib.hid (show (A.drop 1).length = A.length - 1 from List.length_drop)
  clear HC hA
  by_cases hq : cap = 1
  · subst hq
    go_enter Tryz.func120, Tryz.ntmps120
    go_wp2
    go_quiet (fail)
    go_wp2
    go_ret
    have h0 : A.drop 1 = [] := List.eq_nil_of_length_eq_zero (by rw [hlen.out]; omega)
    rw [h0]
    exact ⟨g, o, 0, rfl, Vals.empty _ _ _, bdn (Below.refl _ _) _⟩
  · go_enter Tryz.func120, Tryz.ntmps120
    go_wp2
    go_quiet (fail)
    go_wp2
    go_ret
    refine ⟨g, o + 5, cap - 1, by rw [hlen.out]; rfl, ?_, bdn (Below.refl _ _) _⟩
    have hdd := hd.out
    rw [Nat.one_mul] at hdd
    rw [hlen.out]
    exact Vals.below hdd (bdn (Below.refl _ _) _)
set_option maxRecDepth 100000 in
set_option maxHeartbeats 2000000 in
theorem cInt_c (w : World) (c : Nat) (nm : ByteArray) (so : Option Addr) (n cap : Nat) (A : List V) (HC : w.heap[c]? = some (oCl nm (.slice so n cap))) (hA : Vals w (.slice so n cap) A) (hl : A.length ≤ 1000) (k : Int) (i : Nat) (hk : k = (i : Int) + 1) (p : Int) (s : ByteArray) (r : Int) (hv : A[i]? = some ⟨2, p, 1, s, r⟩) (h1 : -2147483647 ≤ p) (h2 : p ≤ 2147483647) :
    Calls Tryz.prog 69 #[.pointer (some ⟨c, 0, none⟩), .int .i64 k] w (IntPost w p) := by
  have HP := Lib.hid (cArg_c w c nm so n cap A HC hA hl k i hk _ hv)
  have HN : ∀ W, Calls Tryz.prog 118 #[.agg #[.int .i64 2, .int .i64 p, .int .i64 1, .string s, .int .i64 r]] W (fun e w' => e = .returned (.tuple #[.agg #[.int .i64 p, .int .i64 1], .int .i64 0]) ∧ Below W.heap.size W w') := fun W => by
    have := pNumber_two W p 1 s r
    rw [if_pos (validN_int h1 h2)] at this
    exact this
  have HNN := Lib.hid HN
  clear HC hA hv hk HN
  go_enter Tryz.func69, Tryz.ntmps69
  go_wp2_with fail
  refine HP.out.mono ?_
  rintro e w1 ⟨rfl, hb⟩
  have HW1 := Lib.hid hb
  clear hb
  go_wp2_with fail
  refine (HNN.out _).mono ?_
  rintro e w2 ⟨rfl, hb⟩
  have HW2 := Lib.hid (below_next HW1.out hb)
  clear hb
  go_wp2
  go_ret
  exact ⟨rfl, HW2.out.alloc HW2.out.size _⟩
set_option maxRecDepth 100000 in
set_option maxHeartbeats 2000000 in
theorem cGive_c (w : World) (c : Nat) (nm : ByteArray) (av : Value) (HC : w.heap[c]? = some (oCl nm av)) (so : Option Addr) (n cap : Nat) (A : List V) (hA : Vals w (.slice so n cap) A) (hl : A.length ≤ 1000) :
    Calls Tryz.prog 76 #[.pointer (some ⟨c, 0, none⟩), .slice so n cap] w (RetPost w A) := by
  have HR := Lib.hid (fun W (hb : Below w.heap.size w W) => pReturn_c W so n cap A (Vals.below hA hb) hl)
  have hc : c < w.heap.size := (Array.getElem?_eq_some_iff.1 HC).1
  have c3 : (w.alloc oAc).cell? ⟨c, 3, none⟩ = some (.bool false) := by rw [cell_of_heap (heap1_old HC _)]; rfl
  clear hA HC
  go_enter Tryz.func76, Tryz.ntmps76
  go_wp2_with fail
  refine (HR.out _ (below1 _ _)).mono ?_
  rintro e w1 ⟨so1, cap1, rfl, hrow, hb⟩
  have HR1 := Lib.hid hrow
  have Ha1 := Lib.hid (hkeep hb (heap1 w oAc))
  have HW1 := Lib.hid (below_next (below1 _ _) hb)
  clear hb hrow
  have hya : w.heap.size < w1.heap.size := (Array.getElem?_eq_some_iff.1 Ha1.out).1
  obtain ⟨a0, a1, a2, a3, a4, a5, a6, a7, a8, a9, a10, a11⟩ := cells12 Ha1.out
  obtain ⟨f0, f1, f2, f3, f4, f5, f6, f7, f8, f9, f10, f11⟩ := froz12 Ha1.out
  go_wp2
  refine bodyPost_ret (by simp [results, Tryz.results76, go_sem, hya, a0, a1, a2, a3, a4, a5, a6, a7, a8, a9, a10, a11]; first | done | rfl) rfl ?_
  refine ⟨so1, cap1, rfl, ownsRow_base (row_twelve HR1.out (fun h => ?_) _ _ _ _ _ _ _ _ _ _ _ _) (by simp), below_twelve HW1.out (Nat.le_refl _) _ _ _ _ _ _ _ _ _ _ _ _⟩
  have := (ownBlock_lt HR1.out h).1
  simp at this
  omega
set_option maxRecDepth 100000 in
set_option maxHeartbeats 2000000 in
theorem bstr_c (w : World) (s : ByteArray) : Calls Tryz.prog 86 #[.string s] w (ValPost w (strV s)) := by
  have HO : ∀ W, Calls Tryz.prog 66 #[.string s] W (fun e w' => e = .returned (.agg #[.int .i64 3, .int .i64 0, .int .i64 0, .string s, .int .i64 0]) ∧ Below W.heap.size W w') := fun W => pOfString_c W s
  have HOO := Lib.hid HO
  clear HO
  go_enter Tryz.func86, Tryz.ntmps86
  go_wp2_with fail
  refine (HOO.out _).mono ?_
  rintro e w1 ⟨rfl, hb⟩
  have Ha1 := Lib.hid (hkeep hb (heap1 w (oV 0 0 0 ⟨#[]⟩ 0)))
  have HW1 := Lib.hid (below_next (below1 _ _) hb)
  clear hb
  have hya : w.heap.size < w1.heap.size := (Array.getElem?_eq_some_iff.1 Ha1.out).1
  obtain ⟨a0, a1, a2, a3, a4⟩ := cells5 Ha1.out
  obtain ⟨f0, f1, f2, f3, f4⟩ := froz5 Ha1.out
  go_wp2
  refine bodyPost_ret (by simp [results, Tryz.results86, go_sem, hya, a0, a1, a2, a3, a4]; first | done | rfl) rfl ?_
  exact val_done rfl (below_five HW1.out (Nat.le_refl _) _ _ _ _ _)
theorem eqs_run (W : World) (s : ByteArray) : (binOp .eql 30 (.agg #[.int .i64 3, .int .i64 0, .int .i64 0, .string s, .int .i64 0]) (.agg #[.int .i64 3, .int .i64 0, .int .i64 0, .string s, .int .i64 0])).run Tryz.prog W = .ok (.bool true) W := by
  have := eq_run W 3 0 0 s 0 3 0 0 s 0
  rw [this]
  simp [eqV]
set_option maxRecDepth 100000 in
set_option maxHeartbeats 2000000 in
theorem choose_hash (w : World) (c : Nat) (nm : ByteArray) (g o n cap : Nat) (B : List V) (HC : w.heap[c]? = some (oCl nm (.slice (some ⟨g, o, none⟩) n cap))) (hA : Vals w (.slice (some ⟨g, o, none⟩) n cap) (strV ⟨#[35]⟩ :: B)) (hl : B.length ≤ 300) :
    Calls Tryz.prog 94 #[.pointer (some ⟨c, 0, none⟩)] w (RetPost w [⟨2, (B.length : Nat), 1, ⟨#[]⟩, 0⟩]) := by
  have hl1 : (strV ⟨#[35]⟩ :: B).length ≤ 1000 := by rw [List.length_cons]; omega
  have HAF := Lib.hid (fun W (hb : Below w.heap.size w W) => show Calls Tryz.prog 120 #[.pointer (some ⟨c, 0, none⟩), .int .i64 1] W (SliceVals W B) from cAfter_c W c nm g o n cap _ (hkeep hb HC) (Vals.below hA hb) hl1 (by rw [List.length_cons]; omega))
  have HAR := Lib.hid (fun W (hb : Below w.heap.size w W) => show Calls Tryz.prog 67 #[.pointer (some ⟨c, 0, none⟩), .int .i64 1] W (fun e w' => e = .returned (.agg #[.int .i64 3, .int .i64 0, .int .i64 0, .string ⟨#[35]⟩, .int .i64 0]) ∧ Below W.heap.size W w') from cArg_c W c nm _ n cap _ (hkeep hb HC) (Vals.below hA hb) hl1 1 0 rfl (strV ⟨#[35]⟩) rfl)
  have HST := Lib.hid (fun W => show Calls Tryz.prog 86 #[.string ⟨#[35]⟩] W (fun e w' => e = .returned (.agg #[.int .i64 3, .int .i64 0, .int .i64 0, .string ⟨#[35]⟩, .int .i64 0]) ∧ Below W.heap.size W w') from bstr_c W ⟨#[35]⟩)
  have HOI := Lib.hid (fun W => pOfInt_top W (B.length : Nat) (by omega) (by omega))
  have HGI := Lib.hid (fun W (hb : Below w.heap.size w W) so n' cap' (A' : List V) (hA' : Vals W (.slice so n' cap') A') (hl' : A'.length ≤ 1000) => cGive_c W c nm _ (hkeep hb HC) so n' cap' A' hA' hl')
  have hc : c < w.heap.size := (Array.getElem?_eq_some_iff.1 HC).1
  have EQ := fun W => eqs_run W ⟨#[35]⟩
  clear HC hA hl1
  go_enter Tryz.func94, Tryz.ntmps94
  go_wp2_with fail
  refine (HAF.out _ (below1 _ _)).mono ?_
  rintro e w1 ⟨g1, o1, cap1, rfl, -, hb⟩
  have Ha1 := Lib.hid (hkeep hb (heap1 w oAc))
  have HW1 := Lib.hid (below_next (below1 _ _) hb)
  clear hb
  go_wp2_with fail
  refine (HAR.out _ HW1.out).mono ?_
  rintro e w2 ⟨rfl, hb⟩
  have Ha2 := Lib.hid (hkeep hb Ha1.out)
  have HW2 := Lib.hid (below_next HW1.out hb)
  clear hb
  go_wp2_with fail
  refine (HST.out _).mono ?_
  rintro e w3 ⟨rfl, hb⟩
  have Ha3 := Lib.hid (hkeep hb Ha2.out)
  have HW3 := Lib.hid (below_next HW2.out hb)
  clear hb
  go_wp2_with fail
  refine (HOI.out _).mono ?_
  rintro e w4 ⟨rfl, hb⟩
  have Ha4 := Lib.hid (hkeep hb Ha3.out)
  have HW4 := Lib.hid (below_next HW3.out hb)
  clear hb
  go_wp2_with fail
  refine (HGI.out _ (HW4.out.alloc HW4.out.size _) _ _ _ [⟨2, (B.length : Nat), 1, ⟨#[]⟩, 0⟩] (vals_one w4 ⟨2, (B.length : Nat), 1, ⟨#[]⟩, 0⟩) (by simp)).mono ?_
  rintro e w5 ⟨so5, cap5, rfl, hrow, hb⟩
  have HR5 := Lib.hid hrow
  have Ha5 := Lib.hid (hkeep hb (heap1_old Ha4.out _))
  have HW5 := Lib.hid (below_next (HW4.out.alloc HW4.out.size _) hb)
  clear hb hrow
  have hz4 := HW4.out.size
  have hya : w.heap.size < w5.heap.size := (Array.getElem?_eq_some_iff.1 Ha5.out).1
  obtain ⟨a0, a1, a2, a3, a4, a5, a6, a7, a8, a9, a10, a11⟩ := cells12 Ha5.out
  obtain ⟨f0, f1, f2, f3, f4, f5, f6, f7, f8, f9, f10, f11⟩ := froz12 Ha5.out
  go_wp2
  refine bodyPost_ret (by simp [results, Tryz.results94, go_sem, hya, a0, a1, a2, a3, a4, a5, a6, a7, a8, a9, a10, a11]; first | done | rfl) rfl ?_
  refine ⟨so5, cap5, rfl, ownsRow_base (row_twelve HR5.out (fun h => ?_) _ _ _ _ _ _ _ _ _ _ _ _) (by simp; omega), below_twelve HW5.out (Nat.le_refl _) _ _ _ _ _ _ _ _ _ _ _ _⟩
  have := (ownBlock_lt HR5.out h).1
  simp at this
  omega
theorem eqn_run (W : World) (p : Int) (s : ByteArray) : (binOp .eql 30 (.agg #[.int .i64 2, .int .i64 p, .int .i64 1, .string ⟨#[]⟩, .int .i64 0]) (.agg #[.int .i64 3, .int .i64 0, .int .i64 0, .string s, .int .i64 0])).run Tryz.prog W = .ok (.bool false) W := by
  have := eq_run W 2 p 1 ⟨#[]⟩ 0 3 0 0 s 0
  rw [this]
  simp [eqV]
set_option maxRecDepth 100000 in
set_option maxHeartbeats 2000000 in
theorem choose_neg (w : World) (c : Nat) (nm : ByteArray) (g o n cap : Nat) (p : Int) (B : List V) (HC : w.heap[c]? = some (oCl nm (.slice (some ⟨g, o, none⟩) n cap))) (hA : Vals w (.slice (some ⟨g, o, none⟩) n cap) (⟨2, p, 1, ⟨#[]⟩, 0⟩ :: B)) (hl : B.length ≤ 300) (h1 : -2147483647 ≤ p) (h2 : p ≤ 2147483647) (hp : p < 0) (lo : Nat) (hlo : (B.length : Int) + p = lo) :
    Calls Tryz.prog 94 #[.pointer (some ⟨c, 0, none⟩)] w (RetPost w (B.drop lo)) := by
  have hl1 : ((⟨2, p, 1, ⟨#[]⟩, 0⟩ : V) :: B).length ≤ 1000 := by rw [List.length_cons]; omega
  have HAF := Lib.hid (fun W (hb : Below w.heap.size w W) => show Calls Tryz.prog 120 #[.pointer (some ⟨c, 0, none⟩), .int .i64 1] W (SliceVals W B) from cAfter_c W c nm g o n cap _ (hkeep hb HC) (Vals.below hA hb) hl1 (by rw [List.length_cons]; omega))
  have HAR := Lib.hid (fun W (hb : Below w.heap.size w W) => show Calls Tryz.prog 67 #[.pointer (some ⟨c, 0, none⟩), .int .i64 1] W (fun e w' => e = .returned (.agg #[.int .i64 2, .int .i64 p, .int .i64 1, .string ⟨#[]⟩, .int .i64 0]) ∧ Below W.heap.size W w') from cArg_c W c nm _ n cap _ (hkeep hb HC) (Vals.below hA hb) hl1 1 0 rfl ⟨2, p, 1, ⟨#[]⟩, 0⟩ rfl)
  have HST := Lib.hid (fun W => show Calls Tryz.prog 86 #[.string ⟨#[35]⟩] W (fun e w' => e = .returned (.agg #[.int .i64 3, .int .i64 0, .int .i64 0, .string ⟨#[35]⟩, .int .i64 0]) ∧ Below W.heap.size W w') from bstr_c W ⟨#[35]⟩)
  have HIN := Lib.hid (fun W (hb : Below w.heap.size w W) => cInt_c W c nm _ n cap _ (hkeep hb HC) (Vals.below hA hb) hl1 1 0 rfl p ⟨#[]⟩ 0 rfl h1 h2)
  have HGI := Lib.hid (fun W (hb : Below w.heap.size w W) so n' cap' (A' : List V) (hA' : Vals W (.slice so n' cap') A') (hl' : A'.length ≤ 1000) => cGive_c W c nm _ (hkeep hb HC) so n' cap' A' hA' hl')
  have hc : c < w.heap.size := (Array.getElem?_eq_some_iff.1 HC).1
  have HCC := Lib.hid HC
  have EQ := fun W => eqn_run W p ⟨#[35]⟩
  have hle : lo ≤ B.length := by omega
  have e0 : (p == 0) = false := beq_eq_false_iff_ne.2 (by omega)
  have e1 : p < 0 := by omega
  have e2 : decide (p < 0) = true := decide_eq_true e1
  have e3 : ¬ (B.length : Int) < -p := by omega
  have e4 : decide (-p > (B.length : Int)) = false := decide_eq_false (by omega)
  have e5 : decide ((B.length : Int) < -p) = false := decide_eq_false (by omega)
  clear HC hA hl1
  go_enter Tryz.func94, Tryz.ntmps94
  go_wp2_with fail
  refine (HAF.out _ (below1 _ _)).mono ?_
  rintro e w1 ⟨g1, o1, cap1, rfl, hv, hb⟩
  have hcap1 : B.length ≤ cap1 := by obtain ⟨so, cp, e, h, _⟩ := hv; injection e with e1 e2 e3; omega
  have HV1 := Lib.hid hv
  have Ha1 := Lib.hid (hkeep hb (heap1 w oAc))
  have HW1 := Lib.hid (below_next (below1 _ _) hb)
  clear hb hv
  go_wp2_with fail
  refine (HAR.out _ HW1.out).mono ?_
  rintro e w2 ⟨rfl, hb⟩
  have HV2 := Lib.hid (Vals.below HV1.out hb)
  have Ha2 := Lib.hid (hkeep hb Ha1.out)
  have HW2 := Lib.hid (below_next HW1.out hb)
  clear hb
  go_wp2_with fail
  refine (HST.out _).mono ?_
  rintro e w3 ⟨rfl, hb⟩
  have HV3 := Lib.hid (Vals.below HV2.out hb)
  have Ha3 := Lib.hid (hkeep hb Ha2.out)
  have HW3 := Lib.hid (below_next HW2.out hb)
  clear hb
  go_wp2_with fail
  refine (HIN.out _ HW3.out).mono ?_
  rintro e w4 ⟨rfl, hb⟩
  have HV4 := Lib.hid (Vals.below HV3.out hb)
  have Ha4 := Lib.hid (hkeep hb Ha3.out)
  have HW4 := Lib.hid (below_next HW3.out hb)
  clear hb
  have c3 : w4.cell? ⟨c, 3, none⟩ = some (.bool false) := by rw [cell_of_heap (hkeep HW4.out HCC.out)]; rfl
  have hz4 := HW4.out.size
  have hdl := Lib.hid (show (B.drop lo).length = B.length - lo from List.length_drop)
  by_cases hq : cap1 = lo
  · exfalso; omega
  · have HD := Lib.hid (Vals.drop HV4.out lo hle)
    go_wp2_with fail
    refine (HGI.out _ HW4.out _ _ _ (B.drop lo) HD.out (by rw [hdl.out]; omega)).mono ?_
    rintro e w5 ⟨so5, cap5, rfl, hrow, hb⟩
    have HR5 := Lib.hid hrow
    have Ha5 := Lib.hid (hkeep hb Ha4.out)
    have HW5 := Lib.hid (below_next HW4.out hb)
    clear hb hrow
    have hya : w.heap.size < w5.heap.size := (Array.getElem?_eq_some_iff.1 Ha5.out).1
    obtain ⟨a0, a1, a2, a3, a4, a5, a6, a7, a8, a9, a10, a11⟩ := cells12 Ha5.out
    obtain ⟨f0, f1, f2, f3, f4, f5, f6, f7, f8, f9, f10, f11⟩ := froz12 Ha5.out
    go_wp2
    refine bodyPost_ret (by simp [results, Tryz.results94, go_sem, hya, a0, a1, a2, a3, a4, a5, a6, a7, a8, a9, a10, a11]; first | done | rfl) rfl ?_
    refine ⟨so5, cap5, by rw [hdl.out], ownsRow_base (row_twelve HR5.out (fun h => ?_) _ _ _ _ _ _ _ _ _ _ _ _) (by omega), below_twelve HW5.out (Nat.le_refl _) _ _ _ _ _ _ _ _ _ _ _ _⟩
    have := (ownBlock_lt HR5.out h).1
    have hlt := (Array.getElem?_eq_some_iff.1 Ha4.out).1
    omega
set_option maxRecDepth 100000 in
set_option maxHeartbeats 2000000 in
theorem pFail_c (w : World) (k p q : Int) (s : ByteArray) (r level : Int) : Calls Tryz.prog 65 #[.agg #[.int .i64 k, .int .i64 p, .int .i64 q, .string s, .int .i64 r], .int .i64 level] w (FailPost w ⟨k, p, q, s, r⟩ level) := by
  have HL := Lib.hid (fun (W : World) (m : Nat) (hm : m = W.heap.size) => plist_c (W.alloc (.cells #[.int .i64 k, .int .i64 p, .int .i64 q, .string s, .int .i64 r] 30)) (.slice (some ⟨m, 0, none⟩) 1 1) [⟨k, p, q, s, r⟩] (by subst hm; exact vals_one W ⟨k, p, q, s, r⟩) (by simp))
  go_enter Tryz.func65, Tryz.ntmps65
  go_wp2_with fail
  refine (HL.out _ _ (by simp)).mono ?_
  rintro e w1 ⟨so1, cap1, rfl, hrow, hb⟩
  have HR1 := Lib.hid hrow
  have Ha1 := Lib.hid (hkeep hb (heap1_old (heap2_b w (oV k p q s r) oAc) _))
  have HW1 := Lib.hid (below_next ((below2w _ _ _).alloc (by simp; omega) _) hb)
  clear hb hrow
  have hya : w.heap.size + 1 < w1.heap.size := (Array.getElem?_eq_some_iff.1 Ha1.out).1
  obtain ⟨a0, a1, a2, a3, a4, a5, a6, a7, a8, a9, a10, a11⟩ := cells12 Ha1.out
  obtain ⟨f0, f1, f2, f3, f4, f5, f6, f7, f8, f9, f10, f11⟩ := froz12 Ha1.out
  go_wp2
  refine bodyPost_ret (by simp [results, Tryz.results65, go_sem, hya, a0, a1, a2, a3, a4, a5, a6, a7, a8, a9, a10, a11]; first | done | rfl) rfl ?_
  refine ⟨so1, cap1, rfl, ownsRow_base (row_twelve HR1.out (fun h => ?_) _ _ _ _ _ _ _ _ _ _ _ _) (by simp; omega), below_twelve HW1.out (by omega) _ _ _ _ _ _ _ _ _ _ _ _⟩
  have := (ownBlock_lt HR1.out h).1
  simp at this
  omega
set_option maxRecDepth 100000 in
set_option maxHeartbeats 2000000 in
theorem pError_c (w : World) (s : ByteArray) (hs : s.size ≤ 4096) : Calls Tryz.prog 34 #[.string s] w (FailPost w (strV s) 1) := by
  have HO := Lib.hid (fun W => show Calls Tryz.prog 66 #[.string s] W (fun e w' => e = .returned (.agg #[.int .i64 3, .int .i64 0, .int .i64 0, .string s, .int .i64 0]) ∧ Below W.heap.size W w') from pOfString_c W s)
  have hmin : min (s.size : Int) 4096 = s.size := by omega
  have hex : s.extract 0 s.size = s := by
    apply bytesOf_inj
    rw [bytesOf_extract]
    show (((bytesOf s).drop 0).take (s.size - 0)) = _
    rw [List.drop_zero, Nat.sub_zero, ← bytesOf_length, List.take_length]
  have hs2 : (s.size : Int) ≤ 4096 := by omega
  go_enter Tryz.func34, Tryz.ntmps34
  go_wp2_with fail
  refine (HO.out _).mono ?_
  rintro e w1 ⟨rfl, hb⟩
  have Ha1 := Lib.hid (hkeep hb (heap1 w oAc))
  have HW1 := Lib.hid (below_next (below1 _ _) hb)
  clear hb
  go_wp2_with fail
  refine (pFail_c _ 3 0 0 s 0 1).mono ?_
  rintro e w2 ⟨so2, cap2, rfl, hrow, hb⟩
  have HR2 := Lib.hid hrow
  have Ha2 := Lib.hid (hkeep hb Ha1.out)
  have HW2 := Lib.hid (below_next HW1.out hb)
  have hz1 := HW1.out.size
  have hlt1 := (Array.getElem?_eq_some_iff.1 Ha1.out).1
  clear hb hrow
  have hya : w.heap.size < w2.heap.size := (Array.getElem?_eq_some_iff.1 Ha2.out).1
  obtain ⟨a0, a1, a2, a3, a4, a5, a6, a7, a8, a9, a10, a11⟩ := cells12 Ha2.out
  obtain ⟨f0, f1, f2, f3, f4, f5, f6, f7, f8, f9, f10, f11⟩ := froz12 Ha2.out
  go_wp2
  refine bodyPost_ret (by simp [results, Tryz.results34, go_sem, hya, a0, a1, a2, a3, a4, a5, a6, a7, a8, a9, a10, a11]; first | done | rfl) rfl ?_
  refine ⟨so2, cap2, rfl, ownsRow_base (row_twelve HR2.out (fun h => ?_) _ _ _ _ _ _ _ _ _ _ _ _) (by omega), below_twelve HW2.out (Nat.le_refl _) _ _ _ _ _ _ _ _ _ _ _ _⟩
  have := (ownBlock_lt HR2.out h).1
  omega
set_option maxRecDepth 100000 in
set_option maxHeartbeats 2000000 in
theorem outcome_false (w : World) (so : Option Addr) (n cap : Nat) (A : List V) (hA : Vals w (.slice so n cap) A) (hl : A.length ≤ 1000) (v : V) (hv : A[0]? = some v) :
    Calls Tryz.prog 39 #[.bool false, .slice so n cap] w (RetPost w [⟨1, 0, 0, ⟨#[]⟩, 0⟩, v]) := by
  have HB := Lib.hid (fun W => show Calls Tryz.prog 42 #[.bool false] W (fun e w' => e = .returned (.agg #[.int .i64 1, .int .i64 0, .int .i64 0, .string ⟨#[]⟩, .int .i64 0]) ∧ Below W.heap.size W w') from pOfBool_c W false)
  have HP := Lib.hid (fun W (hb : Below w.heap.size w W) => pArg_at W so n cap A (Vals.below hA hb) 0 0 rfl v hv hl)
  clear hA hv
  go_enter Tryz.func39, Tryz.ntmps39
  go_wp2_with fail
  refine (HB.out _).mono ?_
  rintro e w1 ⟨rfl, hb⟩
  have Ha1 := Lib.hid (hkeep hb (heap1 w oAc))
  have HW1 := Lib.hid (below_next (below1 _ _) hb)
  clear hb
  go_wp2_with fail
  refine (HP.out _ HW1.out).mono ?_
  rintro e w2 ⟨rfl, hb⟩
  have Ha2 := Lib.hid (hkeep hb Ha1.out)
  have HW2 := Lib.hid (below_next HW1.out hb)
  clear hb
  go_wp2_with fail
  refine (pReturn_c _ _ _ _ [⟨1, 0, 0, ⟨#[]⟩, 0⟩, v] (vals_two w2 ⟨1, 0, 0, ⟨#[]⟩, 0⟩ v) (by simp)).mono ?_
  rintro e w3 ⟨so3, cap3, rfl, hrow, hb⟩
  have HR3 := Lib.hid hrow
  have Ha3 := Lib.hid (hkeep hb (heap1_old Ha2.out _))
  have HW3 := Lib.hid (below_next (HW2.out.alloc HW2.out.size _) hb)
  have hz2 := HW2.out.size
  have hlt2 := (Array.getElem?_eq_some_iff.1 Ha2.out).1
  clear hb hrow
  have hya : w.heap.size < w3.heap.size := (Array.getElem?_eq_some_iff.1 Ha3.out).1
  obtain ⟨a0, a1, a2, a3, a4, a5, a6, a7, a8, a9, a10, a11⟩ := cells12 Ha3.out
  obtain ⟨f0, f1, f2, f3, f4, f5, f6, f7, f8, f9, f10, f11⟩ := froz12 Ha3.out
  go_wp2
  refine bodyPost_ret (by simp [results, Tryz.results39, go_sem, hya, a0, a1, a2, a3, a4, a5, a6, a7, a8, a9, a10, a11]; first | done | rfl) rfl ?_
  refine ⟨so3, cap3, rfl, ownsRow_base (row_twelve HR3.out (fun h => ?_) _ _ _ _ _ _ _ _ _ _ _ _) (by simp; omega), below_twelve HW3.out (Nat.le_refl _) _ _ _ _ _ _ _ _ _ _ _ _⟩
  have := (ownBlock_lt HR3.out h).1
  simp at this
  omega
set_option maxRecDepth 100000 in
set_option maxHeartbeats 2000000 in
theorem next_pcall (w : World) (so : Option Addr) (n cap : Nat) (A : List V) (hA : Vals w (.slice so n cap) A) (hl : A.length ≤ 1000) (v : V) (hv : A[0]? = some v) (hw : Spaces w) :
    Calls Tryz.prog 14 #[.pointer none, .string ⟨#[112, 99, 97, 108, 108]⟩, .int .i64 1, .slice none 0 0, .bool false, .slice so n cap] w (RetPost w [⟨1, 0, 0, ⟨#[]⟩, 0⟩, v]) := by
  have HP := Lib.hid (fun W (hb : Below w.heap.size w W) => pArg_at W so n cap A (Vals.below hA hb) 0 0 rfl v hv hl)
  have HN := Lib.hid (fun W (hb : Below w.heap.size w W) => bnumber_c W ⟨#[112, 99, 97, 108, 108]⟩ (Spaces.stays hw hb))
  rw [at_pcall] at HN
  have HO := Lib.hid (fun W (hb : Below w.heap.size w W) => outcome_false W so n cap A (Vals.below hA hb) hl v hv)
  clear hA hv hw
  go_enter Tryz.func14, Tryz.ntmps14
  go_wp2_with fail
  refine (HP.out _ (below1 _ _)).mono ?_
  rintro e w1 ⟨rfl, hb⟩
  have Ha1 := Lib.hid (hkeep hb (heap1 w oAc))
  have HW1 := Lib.hid (below_next (below1 _ _) hb)
  clear hb
  go_wp2_with fail
  refine (HN.out _ (HW1.out.alloc HW1.out.size _)).mono ?_
  rintro e w2 ⟨rfl, hb⟩
  have Ha2 := Lib.hid (hkeep hb (heap1_old Ha1.out _))
  have HW2 := Lib.hid (below_next (HW1.out.alloc HW1.out.size _) hb)
  clear hb
  go_wp2_with fail
  refine (HO.out _ HW2.out).mono ?_
  rintro e w3 ⟨so3, cap3, rfl, hrow, hb⟩
  have HR3 := Lib.hid hrow
  have Ha3 := Lib.hid (hkeep hb Ha2.out)
  have HW3 := Lib.hid (below_next HW2.out hb)
  have hz2 := HW2.out.size
  have hlt2 := (Array.getElem?_eq_some_iff.1 Ha2.out).1
  clear hb hrow
  have hya : w.heap.size < w3.heap.size := (Array.getElem?_eq_some_iff.1 Ha3.out).1
  obtain ⟨a0, a1, a2, a3, a4, a5, a6, a7, a8, a9, a10, a11⟩ := cells12 Ha3.out
  obtain ⟨f0, f1, f2, f3, f4, f5, f6, f7, f8, f9, f10, f11⟩ := froz12 Ha3.out
  go_wp2
  refine bodyPost_ret (by simp [results, Tryz.results14, go_sem, hya, a0, a1, a2, a3, a4, a5, a6, a7, a8, a9, a10, a11]; first | done | rfl) rfl ?_
  refine ⟨so3, cap3, rfl, ownsRow_base (row_twelve HR3.out (fun h => ?_) _ _ _ _ _ _ _ _ _ _ _ _) (by omega), below_twelve HW3.out (Nat.le_refl _) _ _ _ _ _ _ _ _ _ _ _ _⟩
  have := (ownBlock_lt HR3.out h).1
  omega
set_option maxRecDepth 100000 in
set_option maxHeartbeats 2000000 in
theorem tonum_c (w : World) (c : Nat) (nm : ByteArray) (so : Option Addr) (n cap : Nat) (A : List V) (HC : w.heap[c]? = some (oCl nm (.slice so n cap))) (hA : Vals w (.slice so n cap) A) (hl : A.length ≤ 1000)
    (s X Y : ByteArray) (b m : Nat) (mi : Bool) (hb1 : 2 ≤ b) (hb2 : b ≤ 36) (h0 : A[0]? = some ⟨3, 0, 0, s, 0⟩) (h1 : A[1]? = some ⟨2, b, 1, ⟨#[]⟩, 0⟩) (hY : Y.size ≤ 2000000000)
    (HT : ∀ W, Calls Tryz.prog 131 #[.string s, .string ⟨#[32, 9, 10, 13]⟩] W (fun e w' => e = .returned (.string X) ∧ Below W.heap.size W w'))
    (HP : ∀ W, Calls Tryz.prog 130 #[.string X, .string ⟨#[45]⟩] W (fun e w' => e = .returned (.tuple #[.string Y, .bool mi]) ∧ w' = W))
    (hd : dgOut Y (dgM b (bytesOf Y) 0) = ((m : Int), true)) (hm : m ≤ 2147483647) (x : Int) (hx : x = if mi then -(m : Int) else (m : Int)) :
    Calls Tryz.prog 90 #[.pointer (some ⟨c, 0, none⟩)] w (RetPost w [⟨2, x, 1, ⟨#[]⟩, 0⟩]) := by
  have HA1 := Lib.hid (fun W (hb : Below w.heap.size w W) => show Calls Tryz.prog 67 #[.pointer (some ⟨c, 0, none⟩), .int .i64 1] W (fun e w' => e = .returned (.agg #[.int .i64 3, .int .i64 0, .int .i64 0, .string s, .int .i64 0]) ∧ Below W.heap.size W w') from cArg_c W c nm so n cap A (hkeep hb HC) (Vals.below hA hb) hl 1 0 rfl ⟨3, 0, 0, s, 0⟩ h0)
  have HA2 := Lib.hid (fun W (hb : Below w.heap.size w W) => show Calls Tryz.prog 67 #[.pointer (some ⟨c, 0, none⟩), .int .i64 2] W (fun e w' => e = .returned (.agg #[.int .i64 2, .int .i64 (b : Nat), .int .i64 1, .string ⟨#[]⟩, .int .i64 0]) ∧ Below W.heap.size W w') from cArg_c W c nm so n cap A (hkeep hb HC) (Vals.below hA hb) hl 2 1 rfl ⟨2, b, 1, ⟨#[]⟩, 0⟩ h1)
  have HIN := Lib.hid (fun W (hb : Below w.heap.size w W) => cInt_c W c nm so n cap A (hkeep hb HC) (Vals.below hA hb) hl 2 1 rfl b ⟨#[]⟩ 0 h1 (by omega) (by omega))
  have HGI := Lib.hid (fun W (hb : Below w.heap.size w W) so n' cap' (A' : List V) (hA' : Vals W (.slice so n' cap') A') (hl' : A'.length ≤ 1000) => cGive_c W c nm _ (hkeep hb HC) so n' cap' A' hA' hl')
  have hdg : ∀ W, Calls Tryz.prog 132 #[.string Y, .int .i64 b] W (fun e w' => e = .returned (.tuple #[.int .i64 (m : Int), .bool true]) ∧ W = w') := fun W => by
    have h := digits_c W Y hY b hb1 hb2
    rw [hd] at h
    exact h
  have HDG := Lib.hid (hdg)
  have HOI := Lib.hid (fun W => pOfInt_top W x (by rw [hx]; split <;> omega) (by rw [hx]; split <;> omega))
  have HTT := Lib.hid (HT)
  have HPP := Lib.hid (HP)
  have hc : c < w.heap.size := (Array.getElem?_eq_some_iff.1 HC).1
  have FD := fun W => field0_run W (.int .i64 2) (.int .i64 (b : Nat)) (.int .i64 1) (.string ⟨#[]⟩) (.int .i64 0)
  have hb3 : (2 : Int) ≤ (b : Int) := by omega
  have hb4 : (b : Int) ≤ 36 := by omega
  have hb5 : ¬ (b : Int) < 2 := by omega
  have hb6 : decide ((b : Int) < 2) = false := decide_eq_false hb5
  have hb7 : decide ((b : Int) > 36) = false := decide_eq_false (by omega)
  have hmx : max (b : Int) 2 = b := by omega
  have hmn : min (b : Int) 36 = b := by omega
  have hm2 : (m : Int) ≤ 2147483647 := by omega
  clear HC hA h0 h1 HT HP hd hY hm hdg
  cases mi
  all_goals
    simp only [if_true, if_false, Bool.false_eq_true] at hx
    subst hx
    go_enter Tryz.func90, Tryz.ntmps90
    go_wp2_with fail
    refine (HA1.out _ (below1 _ _)).mono ?_
    rintro e w1 ⟨rfl, hb⟩
    have Ha1 := Lib.hid (hkeep hb (heap1 w oAc))
    have HW1 := Lib.hid (below_next (below1 _ _) hb)
    clear hb
    go_wp2_with fail
    refine (HA2.out _ (HW1.out.alloc HW1.out.size _)).mono ?_
    rintro e w2 ⟨rfl, hb⟩
    have Ha2 := Lib.hid (hkeep hb (heap1_old Ha1.out _))
    have Hv2 := Lib.hid (hkeep hb (heap1 w1 (oV 3 0 0 s 0)))
    have HW2 := Lib.hid (below_next (HW1.out.alloc HW1.out.size _) hb)
    clear hb
    go_wp2_with fail
    refine (HIN.out _ HW2.out).mono ?_
    rintro e w3 ⟨rfl, hb⟩
    have Ha3 := Lib.hid (hkeep hb Ha2.out)
    have Hv3 := Lib.hid (hkeep hb Hv2.out)
    have HW3 := Lib.hid (below_next HW2.out hb)
    clear hb
    obtain ⟨v0, v1, v2, v3, v4⟩ := cells5 Hv3.out
    obtain ⟨fv0, fv1, fv2, fv3, fv4⟩ := froz5 Hv3.out
    go_wp2_with fail
    refine (HTT.out _).mono ?_
    rintro e w4 ⟨rfl, hb⟩
    have Ha4 := Lib.hid (hkeep hb Ha3.out)
    have HW4 := Lib.hid (below_next HW3.out hb)
    clear hb v0 v1 v2 v3 v4 fv0 fv1 fv2 fv3 fv4
    go_wp2_with fail
    refine (HPP.out _).mono ?_
    rintro e w5 ⟨rfl, rfl⟩
    go_wp2_with fail
    refine (HDG.out _).mono ?_
    rintro e w6 ⟨rfl, rfl⟩
    go_wp2_with fail
    refine (HOI.out _).mono ?_
    rintro e w7 ⟨rfl, hb⟩
    have Ha7 := Lib.hid (hkeep hb Ha4.out)
    have HW7 := Lib.hid (below_next HW4.out hb)
    clear hb
    go_wp2_with fail
    refine (HGI.out _ (HW7.out.alloc HW7.out.size _) _ _ _ [⟨2, _, 1, ⟨#[]⟩, 0⟩] (vals_one w7 ⟨2, _, 1, ⟨#[]⟩, 0⟩) (by simp)).mono ?_
    rintro e w8 ⟨so8, cap8, rfl, hrow, hb⟩
    have HR8 := Lib.hid (hrow)
    have Ha8 := Lib.hid (hkeep hb (heap1_old Ha7.out _))
    have HW8 := Lib.hid (below_next (HW7.out.alloc HW7.out.size _) hb)
    have hlt := (Array.getElem?_eq_some_iff.1 Ha7.out).1
    clear hb hrow
    have hya : w.heap.size < w8.heap.size := (Array.getElem?_eq_some_iff.1 Ha8.out).1
    obtain ⟨a0, a1, a2, a3, a4, a5, a6, a7, a8, a9, a10, a11⟩ := cells12 Ha8.out
    obtain ⟨fa0, fa1, fa2, fa3, fa4, fa5, fa6, fa7, fa8, fa9, fa10, fa11⟩ := froz12 Ha8.out
    go_wp2
    refine bodyPost_ret (by simp [results, Tryz.results90, go_sem, hya, a0, a1, a2, a3, a4, a5, a6, a7, a8, a9, a10, a11]; first | done | rfl) rfl ?_
    refine ⟨so8, cap8, rfl, ownsRow_base (row_twelve HR8.out (row_away HR8.out (by simp; omega)) _ _ _ _ _ _ _ _ _ _ _ _) (by simp; omega), below_twelve HW8.out (Nat.le_refl _) _ _ _ _ _ _ _ _ _ _ _ _⟩
set_option maxRecDepth 100000 in
set_option maxHeartbeats 2000000 in
theorem pTry_c (w : World) (next : Int) (k p q : Int) (s : ByteArray) (r : Int) (so : Option Addr) (n cap : Nat) (A : List V) (hA : Vals w (.slice so n cap) A) (hl : A.length ≤ 1000) (sk : Option Addr) (m ck : Nat) (K : List V) (hK : Vals w (.slice sk m ck) K) (hm : K.length ≤ 1000) :
    Calls Tryz.prog 77 #[.agg #[.int .i64 k, .int .i64 p, .int .i64 q, .string s, .int .i64 r], .slice so n cap, .int .i64 next, .slice sk m ck] w (ActPost NoF w 4 0 ⟨k, p, q, s, r⟩ A ⟨#[]⟩ 0 next K) := by
  have HC := Lib.hid (fun W (hb : Below w.heap.size w W) => pcalled_c W 4 next k p q s r so n cap A (Vals.below hA hb) hl sk m ck K (Vals.below hK hb) hm)
  clear hA hK
  go_enter Tryz.func77, Tryz.ntmps77
  go_wp2_with fail
  refine (HC.out _ (below2w _ _ _)).mono ?_
  rintro e w1 ⟨so1, cap1, sk1, ck1, rfl, hr, hk, hm⟩
  have HR1 := Lib.hid (hr)
  have HK1 := Lib.hid (hk)
  have Ha1 := Lib.hid (hkeep (mods_below hm) (heap2_b w (oV k p q s r) oAc))
  have HW1 := Lib.hid (below_next (below2w _ _ _) (mods_below hm))
  clear hr hk hm
  have hya : w.heap.size + 1 < w1.heap.size := (Array.getElem?_eq_some_iff.1 Ha1.out).1
  obtain ⟨a0, a1, a2, a3, a4, a5, a6, a7, a8, a9, a10, a11⟩ := cells12 Ha1.out
  obtain ⟨fa0, fa1, fa2, fa3, fa4, fa5, fa6, fa7, fa8, fa9, fa10, fa11⟩ := froz12 Ha1.out
  go_wp2
  refine bodyPost_ret (by simp [results, Tryz.results77, go_sem, hya, a0, a1, a2, a3, a4, a5, a6, a7, a8, a9, a10, a11]; first | done | rfl) rfl ?_
  exact act_end HR1.out HK1.out (Mods.of_below HW1.out) (by omega) (by simp) _ _ _ _ _ _ _ _ _ _ _ _
set_option maxRecDepth 100000 in
set_option maxHeartbeats 2000000 in
theorem protected_pcall (w : World) (c : Nat) (nm : ByteArray) (g o n cap : Nat) (k p q : Int) (s : ByteArray) (r : Int) (B : List V) (HC : w.heap[c]? = some (oCl nm (.slice (some ⟨g, o, none⟩) n cap))) (hA : Vals w (.slice (some ⟨g, o, none⟩) n cap) (⟨k, p, q, s, r⟩ :: B)) (hl : B.length ≤ 300) :
    Calls Tryz.prog 71 #[.pointer (some ⟨c, 0, none⟩), .int .i64 17] w (ActPost NoF w 4 0 ⟨k, p, q, s, r⟩ B ⟨#[]⟩ 0 1 []) := by
  have hl1 : ((⟨k, p, q, s, r⟩ : V) :: B).length ≤ 1000 := by rw [List.length_cons]; omega
  have hn : n = B.length + 1 := by obtain ⟨_, _, e, _⟩ := hA; injection e
  have HAF := Lib.hid (fun W (hb : Below w.heap.size w W) => show Calls Tryz.prog 120 #[.pointer (some ⟨c, 0, none⟩), .int .i64 1] W (SliceVals W B) from cAfter_c W c nm g o n cap _ (hkeep hb HC) (Vals.below hA hb) hl1 (by rw [List.length_cons]; omega))
  have HAR := Lib.hid (fun W (hb : Below w.heap.size w W) => show Calls Tryz.prog 67 #[.pointer (some ⟨c, 0, none⟩), .int .i64 1] W (fun e w' => e = .returned (.agg #[.int .i64 k, .int .i64 p, .int .i64 q, .string s, .int .i64 r]) ∧ Below W.heap.size W w') from cArg_c W c nm _ n cap _ (hkeep hb HC) (Vals.below hA hb) hl1 1 0 rfl ⟨k, p, q, s, r⟩ rfl)
  have hc : c < w.heap.size := (Array.getElem?_eq_some_iff.1 HC).1
  have c2 : (w.alloc oAc).cell? ⟨c, 2, none⟩ = some (.slice (some ⟨g, o, none⟩) n cap) := by rw [cell_of_heap (heap1_old HC _)]; rfl
  have hnz : ((n : Int) == 0) = false := beq_eq_false_iff_ne.2 (by omega)
  have hcap : n ≤ cap := by obtain ⟨so, cp, e, h, _⟩ := hA; injection e with e1 e2 e3; omega
  clear HC hA hl1 hn
  go_enter Tryz.func71, Tryz.ntmps71
  go_wp2_with fail
  refine (HAR.out _ (below1 _ _)).mono ?_
  rintro e w1 ⟨rfl, hb⟩
  have Ha1 := Lib.hid (hkeep hb (heap1 w oAc))
  have HW1 := Lib.hid (below_next (below1 _ _) hb)
  clear hb
  go_wp2_with fail
  refine (HAF.out _ HW1.out).mono ?_
  rintro e w2 ⟨g1, o1, cap1, rfl, hv, hb⟩
  have Ha2 := Lib.hid (hkeep hb Ha1.out)
  have HW2 := Lib.hid (below_next HW1.out hb)
  clear hb
  go_wp2_with fail
  refine (pTry_c w2 1 k p q s r _ _ _ B hv (by omega) none 0 0 [] (Vals.nilslice _) (by simp)).mono ?_
  rintro e w3 ⟨so3, cap3, sk3, ck3, rfl, hr, hk, hm⟩
  have HR3 := Lib.hid (hr)
  have HK3 := Lib.hid (hk)
  have Ha3 := Lib.hid (hkeep (mods_below hm) Ha2.out)
  have HW3 := Lib.hid (below_next HW2.out (mods_below hm))
  have hlt := (Array.getElem?_eq_some_iff.1 Ha2.out).1
  clear hr hk hm hv
  have hya : w.heap.size < w3.heap.size := (Array.getElem?_eq_some_iff.1 Ha3.out).1
  obtain ⟨a0, a1, a2, a3, a4, a5, a6, a7, a8, a9, a10, a11⟩ := cells12 Ha3.out
  obtain ⟨fa0, fa1, fa2, fa3, fa4, fa5, fa6, fa7, fa8, fa9, fa10, fa11⟩ := froz12 Ha3.out
  go_wp2
  refine bodyPost_ret (by simp [results, Tryz.results71, go_sem, hya, a0, a1, a2, a3, a4, a5, a6, a7, a8, a9, a10, a11]; first | done | rfl) rfl ?_
  exact act_end HR3.out HK3.out (Mods.of_below HW3.out) (Nat.le_refl _) hlt _ _ _ _ _ _ _ _ _ _ _ _
set_option maxRecDepth 100000 in
set_option maxHeartbeats 2000000 in
theorem control_pcall (w : World) (c : Nat) (nm : ByteArray) (g o n cap : Nat) (k p q : Int) (s : ByteArray) (r : Int) (B : List V) (HC : w.heap[c]? = some (oCl nm (.slice (some ⟨g, o, none⟩) n cap))) (hA : Vals w (.slice (some ⟨g, o, none⟩) n cap) (⟨k, p, q, s, r⟩ :: B)) (hl : B.length ≤ 300) :
    Calls Tryz.prog 35 #[.pointer (some ⟨c, 0, none⟩), .int .i64 17] w (ActPost NoF w 4 0 ⟨k, p, q, s, r⟩ B ⟨#[]⟩ 0 1 []) := by
  have hl1 : ((⟨k, p, q, s, r⟩ : V) :: B).length ≤ 1000 := by rw [List.length_cons]; omega
  have HAR := Lib.hid (fun W (hb : Below w.heap.size w W) => show Calls Tryz.prog 67 #[.pointer (some ⟨c, 0, none⟩), .int .i64 1] W (fun e w' => e = .returned (.agg #[.int .i64 k, .int .i64 p, .int .i64 q, .string s, .int .i64 r]) ∧ Below W.heap.size W w') from cArg_c W c nm _ n cap _ (hkeep hb HC) (Vals.below hA hb) hl1 1 0 rfl ⟨k, p, q, s, r⟩ rfl)
  have HPR := Lib.hid (fun W (hb : Below w.heap.size w W) => protected_pcall W c nm g o n cap k p q s r B (hkeep hb HC) (Vals.below hA hb) hl)
  clear HC hA hl1
  go_enter Tryz.func35, Tryz.ntmps35
  go_wp2_with fail
  refine (HAR.out _ (below1 _ _)).mono ?_
  rintro e w1 ⟨rfl, hb⟩
  have Ha1 := Lib.hid (hkeep hb (heap1 w oAc))
  have HW1 := Lib.hid (below_next (below1 _ _) hb)
  clear hb
  go_wp2_with fail
  refine (HPR.out _ (HW1.out.alloc HW1.out.size _)).mono ?_
  rintro e w2 ⟨so3, cap3, sk3, ck3, rfl, hr, hk, hm⟩
  have HR3 := Lib.hid (hr)
  have HK3 := Lib.hid (hk)
  have Ha3 := Lib.hid (hkeep (mods_below hm) (heap1_old Ha1.out _))
  have HW3 := Lib.hid (below_next (HW1.out.alloc HW1.out.size _) (mods_below hm))
  have hlt := (Array.getElem?_eq_some_iff.1 Ha1.out).1
  clear hr hk hm
  have hya : w.heap.size < w2.heap.size := (Array.getElem?_eq_some_iff.1 Ha3.out).1
  obtain ⟨a0, a1, a2, a3, a4, a5, a6, a7, a8, a9, a10, a11⟩ := cells12 Ha3.out
  obtain ⟨fa0, fa1, fa2, fa3, fa4, fa5, fa6, fa7, fa8, fa9, fa10, fa11⟩ := froz12 Ha3.out
  go_wp2
  refine bodyPost_ret (by simp [results, Tryz.results35, go_sem, hya, a0, a1, a2, a3, a4, a5, a6, a7, a8, a9, a10, a11]; first | done | rfl) rfl ?_
  exact act_end HR3.out HK3.out (Mods.of_below HW3.out) (Nat.le_refl _) (by simp; omega) _ _ _ _ _ _ _ _ _ _ _ _
set_option maxRecDepth 100000 in
set_option maxHeartbeats 2000000 in
theorem plain_pass (w : World) (c : Nat) (F : Nat → Prop) (kind op : Int) (fk fp fq : Int) (fs : ByteArray) (fr : Int) (A : List V) (s : ByteArray) (level next : Int) (K : List V) (hF : ∀ k, w.heap.size ≤ k → ¬ F k)
    (HT : ∀ W, Below w.heap.size w W → Calls Tryz.prog 94 #[.pointer (some ⟨c, 0, none⟩)] W (ActPost F W kind op ⟨fk, fp, fq, fs, fr⟩ A s level next K)) :
    Calls Tryz.prog 37 #[.pointer (some ⟨c, 0, none⟩), .int .i64 23] w (ActPost F w kind op ⟨fk, fp, fq, fs, fr⟩ A s level next K) := by
  have HTT := Lib.hid (HT)
  have HF := Lib.hid (hF)
  clear HT hF
  go_enter Tryz.func37, Tryz.ntmps37
  go_wp2_with fail
  refine (HTT.out _ (below1 _ _)).mono ?_
  rintro e w2 ⟨so3, cap3, sk3, ck3, rfl, hr, hk, hm⟩
  have HR3 := Lib.hid (hr)
  have HK3 := Lib.hid (hk)
  have Ha3 := Lib.hid (mkeep hm (heap1 w oAc) (HF.out _ (Nat.le_refl _)))
  have HW3 := Lib.hid (Mods.trans (Mods.of_below (below1 _ _)) hm)
  clear hr hk hm
  have hya : w.heap.size < w2.heap.size := (Array.getElem?_eq_some_iff.1 Ha3.out).1
  obtain ⟨a0, a1, a2, a3, a4, a5, a6, a7, a8, a9, a10, a11⟩ := cells12 Ha3.out
  obtain ⟨fa0, fa1, fa2, fa3, fa4, fa5, fa6, fa7, fa8, fa9, fa10, fa11⟩ := froz12 Ha3.out
  go_wp2
  refine bodyPost_ret (by simp [results, Tryz.results37, go_sem, hya, a0, a1, a2, a3, a4, a5, a6, a7, a8, a9, a10, a11]; first | done | rfl) rfl ?_
  exact act_end HR3.out HK3.out HW3.out (Nat.le_refl _) (by simp) _ _ _ _ _ _ _ _ _ _ _ _
set_option maxRecDepth 100000 in
set_option maxHeartbeats 2000000 in
theorem plain_tonum (w : World) (c : Nat) (F : Nat → Prop) (kind op : Int) (fk fp fq : Int) (fs : ByteArray) (fr : Int) (A : List V) (s : ByteArray) (level next : Int) (K : List V) (hF : ∀ k, w.heap.size ≤ k → ¬ F k)
    (HT : ∀ W, Below w.heap.size w W → Calls Tryz.prog 90 #[.pointer (some ⟨c, 0, none⟩)] W (ActPost F W kind op ⟨fk, fp, fq, fs, fr⟩ A s level next K)) :
    Calls Tryz.prog 37 #[.pointer (some ⟨c, 0, none⟩), .int .i64 25] w (ActPost F w kind op ⟨fk, fp, fq, fs, fr⟩ A s level next K) := by
  have HTT := Lib.hid (HT)
  have HF := Lib.hid (hF)
  clear HT hF
  go_enter Tryz.func37, Tryz.ntmps37
  go_wp2_with fail
  refine (HTT.out _ (below1 _ _)).mono ?_
  rintro e w2 ⟨so3, cap3, sk3, ck3, rfl, hr, hk, hm⟩
  have HR3 := Lib.hid (hr)
  have HK3 := Lib.hid (hk)
  have Ha3 := Lib.hid (mkeep hm (heap1 w oAc) (HF.out _ (Nat.le_refl _)))
  have HW3 := Lib.hid (Mods.trans (Mods.of_below (below1 _ _)) hm)
  clear hr hk hm
  have hya : w.heap.size < w2.heap.size := (Array.getElem?_eq_some_iff.1 Ha3.out).1
  obtain ⟨a0, a1, a2, a3, a4, a5, a6, a7, a8, a9, a10, a11⟩ := cells12 Ha3.out
  obtain ⟨fa0, fa1, fa2, fa3, fa4, fa5, fa6, fa7, fa8, fa9, fa10, fa11⟩ := froz12 Ha3.out
  go_wp2
  refine bodyPost_ret (by simp [results, Tryz.results37, go_sem, hya, a0, a1, a2, a3, a4, a5, a6, a7, a8, a9, a10, a11]; first | done | rfl) rfl ?_
  exact act_end HR3.out HK3.out HW3.out (Nat.le_refl _) (by simp) _ _ _ _ _ _ _ _ _ _ _ _
set_option maxRecDepth 100000 in
set_option maxHeartbeats 2000000 in
theorem results_act (w : World) (nm : ByteArray) (so : Option Addr) (n cap : Nat) (kind op : Int) (b : Bool) (hb : (kind == 1) = b) (fk fp fq : Int) (fs : ByteArray) (fr : Int) (A : List V) (s : ByteArray) (level next : Int) (K : List V)
    (HB : Calls Tryz.prog 12 #[.pointer none, .string nm, .slice so n cap] w (ActPost NoF w kind op ⟨fk, fp, fq, fs, fr⟩ A s level next K)) :
    Calls Tryz.prog 17 #[.pointer none, .string nm, .slice so n cap] w (ResB w A b) := by
  have HH := Lib.hid HB
  clear HB
  go_enter Tryz.func17, Tryz.ntmps17
  go_wp2_with fail
  refine HH.out.mono ?_
  rintro e w1 ⟨so1, cap1, sk1, ck1, rfl, hrow, -, hm⟩
  have HR1 := Lib.hid hrow
  have HW1 := Lib.hid (mods_below hm)
  clear hm hrow
  go_wp2
  go_quiet (fail)
  go_wp2
  go_ret2
  refine ⟨so1, cap1, rfl, ownsRow_ext (below_ext (bdn ((Below.refl _ _).alloc (Nat.le_refl _) _) _) (Nat.le_refl _)) HR1.out, bdn (HW1.out.alloc HW1.out.size _) _⟩
theorem sel_hash (w : World) (g o n cap : Nat) (B : List V) (hA : Vals w (.slice (some ⟨g, o, none⟩) n cap) (strV ⟨#[35]⟩ :: B)) (hl : B.length ≤ 300) (hw : Spaces w) :
    Calls Tryz.prog 17 #[.pointer none, .string selN, .slice (some ⟨g, o, none⟩) n cap] w (ResB w [⟨2, (B.length : Nat), 1, ⟨#[]⟩, 0⟩] true) :=
  results_act w selN _ n cap 1 0 true rfl 0 0 0 ⟨#[]⟩ 0 _ ⟨#[]⟩ 0 0 []
    (begin_plain w selN _ n cap 23 (by decide) selN_last (by decide) at_select hw 1 0 0 0 0 ⟨#[]⟩ 0 _ ⟨#[]⟩ 0 0 []
      (fun W c hb hc hge => plain_pass W c _ 1 0 0 0 0 ⟨#[]⟩ 0 _ ⟨#[]⟩ 0 0 [] (fun k hk h => by have := (Array.getElem?_eq_some_iff.1 hc).1; omega)
        (fun W2 hb2 => (choose_hash W2 c selN g o n cap B (hkeep hb2 hc) (Vals.below (Vals.below hA hb) hb2) hl).mono (fun _ _ h => act_of_ret h))))
theorem sel_neg (w : World) (g o n cap : Nat) (p : Int) (B : List V) (hA : Vals w (.slice (some ⟨g, o, none⟩) n cap) (⟨2, p, 1, ⟨#[]⟩, 0⟩ :: B)) (hl : B.length ≤ 300) (h1 : -2147483647 ≤ p) (h2 : p ≤ 2147483647) (hp : p < 0) (lo : Nat) (hlo : (B.length : Int) + p = lo) (hw : Spaces w) :
    Calls Tryz.prog 17 #[.pointer none, .string selN, .slice (some ⟨g, o, none⟩) n cap] w (ResB w (B.drop lo) true) :=
  results_act w selN _ n cap 1 0 true rfl 0 0 0 ⟨#[]⟩ 0 _ ⟨#[]⟩ 0 0 []
    (begin_plain w selN _ n cap 23 (by decide) selN_last (by decide) at_select hw 1 0 0 0 0 ⟨#[]⟩ 0 _ ⟨#[]⟩ 0 0 []
      (fun W c hb hc hge => plain_pass W c _ 1 0 0 0 0 ⟨#[]⟩ 0 _ ⟨#[]⟩ 0 0 [] (fun k hk h => by have := (Array.getElem?_eq_some_iff.1 hc).1; omega)
        (fun W2 hb2 => (choose_neg W2 c selN g o n cap p B (hkeep hb2 hc) (Vals.below (Vals.below hA hb) hb2) hl h1 h2 hp lo hlo).mono (fun _ _ h => act_of_ret h))))
theorem ton_base (w : World) (g o n cap : Nat) (A : List V) (hA : Vals w (.slice (some ⟨g, o, none⟩) n cap) A) (hl : A.length ≤ 1000) (hw : Spaces w)
    (s X Y : ByteArray) (b m : Nat) (mi : Bool) (hb1 : 2 ≤ b) (hbb : b ≤ 36) (h0 : A[0]? = some ⟨3, 0, 0, s, 0⟩) (h1 : A[1]? = some ⟨2, b, 1, ⟨#[]⟩, 0⟩) (hY : Y.size ≤ 2000000000)
    (HT : ∀ W, Calls Tryz.prog 131 #[.string s, .string ⟨#[32, 9, 10, 13]⟩] W (fun e w' => e = .returned (.string X) ∧ Below W.heap.size W w'))
    (HP : ∀ W, Calls Tryz.prog 130 #[.string X, .string ⟨#[45]⟩] W (fun e w' => e = .returned (.tuple #[.string Y, .bool mi]) ∧ w' = W))
    (hd : dgOut Y (dgM b (bytesOf Y) 0) = ((m : Int), true)) (hm : m ≤ 2147483647) (x : Int) (hx : x = if mi then -(m : Int) else (m : Int)) :
    Calls Tryz.prog 17 #[.pointer none, .string tonN, .slice (some ⟨g, o, none⟩) n cap] w (ResB w [⟨2, x, 1, ⟨#[]⟩, 0⟩] true) :=
  results_act w tonN _ n cap 1 0 true rfl 0 0 0 ⟨#[]⟩ 0 _ ⟨#[]⟩ 0 0 []
    (begin_plain w tonN _ n cap 25 (by decide) tonN_last (by decide) at_tonumber hw 1 0 0 0 0 ⟨#[]⟩ 0 _ ⟨#[]⟩ 0 0 []
      (fun W c hb hc hge => plain_tonum W c _ 1 0 0 0 0 ⟨#[]⟩ 0 _ ⟨#[]⟩ 0 0 [] (fun k hk h => by have := (Array.getElem?_eq_some_iff.1 hc).1; omega)
        (fun W2 hb2 => (tonum_c W2 c tonN _ n cap A (hkeep hb2 hc) (Vals.below (Vals.below hA hb) hb2) hl s X Y b m mi hb1 hbb h0 h1 hY HT HP hd hm x hx).mono (fun _ _ h => act_of_ret h))))
theorem pca_begin (w : World) (g o n cap : Nat) (k p q : Int) (s : ByteArray) (r : Int) (B : List V) (hA : Vals w (.slice (some ⟨g, o, none⟩) n cap) (⟨k, p, q, s, r⟩ :: B)) (hl : B.length ≤ 300) (hw : Spaces w) :
    Calls Tryz.prog 12 #[.pointer none, .string pcaN, .slice (some ⟨g, o, none⟩) n cap] w (ActPost NoF w 4 0 ⟨k, p, q, s, r⟩ B ⟨#[]⟩ 0 1 []) :=
  begin_pcall w pcaN _ n cap pcaN_last (by decide) at_pcall hw 4 0 k p q s r B ⟨#[]⟩ 0 1 []
    (fun W c hb hc hge => (control_pcall W c pcaN g o n cap k p q s r B hc (Vals.below hA hb) hl).mono (fun _ _ h => act_mono h (fun _ _ h => absurd h (fun h => h))))
set_option maxRecDepth 100000 in
set_option maxHeartbeats 2000000 in
theorem line_c (w : World) (so : Option Addr) (n cap : Nat) (S : ByteArray) (hS : S.size < 2 ^ 47)
    (HJ : ∀ W, Below w.heap.size w W → Calls Tryz.prog 157 #[.slice so n cap, .string ⟨#[9]⟩] W (fun e w' => e = .returned (.string S) ∧ Below W.heap.size W w')) :
    Calls Tryz.prog 134 #[.slice so n cap] w (LinePost w S) := by
  have HJJ := Lib.hid (HJ)
  have HE := Lib.hid (fun W => pError_c W tooLong (by decide))
  unfold tooLong at HE
  clear HJ
  unfold LinePost lineK lineA lineS lineL
  by_cases hs : S.size ≤ 65536
  · rw [if_pos hs, if_pos hs, if_pos hs, if_pos hs]
    have d1 : ¬ (S.size : Int) > 65536 := by omega
    have d2 : decide ((S.size : Int) > 65536) = false := decide_eq_false d1
    go_enter Tryz.func134, Tryz.ntmps134
    go_wp2_with fail
    refine (HJJ.out _ (below1 _ _)).mono ?_
    rintro e w1 ⟨rfl, hb⟩
    have Ha1 := Lib.hid (hkeep hb (heap1 w oAc))
    have HW1 := Lib.hid (below_next (below1 _ _) hb)
    clear hb
    have hya : w.heap.size < w1.heap.size := (Array.getElem?_eq_some_iff.1 Ha1.out).1
    obtain ⟨a0, a1, a2, a3, a4, a5, a6, a7, a8, a9, a10, a11⟩ := cells12 Ha1.out
    obtain ⟨fa0, fa1, fa2, fa3, fa4, fa5, fa6, fa7, fa8, fa9, fa10, fa11⟩ := froz12 Ha1.out
    go_wp2
    refine bodyPost_ret (by simp [results, Tryz.results134, go_sem, hya, a0, a1, a2, a3, a4, a5, a6, a7, a8, a9, a10, a11]; first | done | rfl) rfl ?_
    exact ⟨⟨none, 0, none, 0, rfl, World.ownsRow_nil _ _ _ _, World.ownsRow_nil _ _ _ _⟩, below_twelve HW1.out (Nat.le_refl _) _ _ _ _ _ _ _ _ _ _ _ _⟩
  · rw [if_neg hs, if_neg hs, if_neg hs, if_neg hs]
    have d1 : (S.size : Int) > 65536 := by omega
    have d2 : decide ((S.size : Int) > 65536) = true := decide_eq_true d1
    go_enter Tryz.func134, Tryz.ntmps134
    go_wp2_with fail
    refine (HJJ.out _ (below1 _ _)).mono ?_
    rintro e w1 ⟨rfl, hb⟩
    have Ha1 := Lib.hid (hkeep hb (heap1 w oAc))
    have HW1 := Lib.hid (below_next (below1 _ _) hb)
    clear hb
    go_wp2_with fail
    refine (HE.out _).mono ?_
    rintro e w2 ⟨so2, cap2, rfl, hr, hb⟩
    have HR2 := Lib.hid (hr)
    have Ha2 := Lib.hid (hkeep hb Ha1.out)
    have HW2 := Lib.hid (below_next HW1.out hb)
    have hz2 := HW1.out.size
    have hya1 : w.heap.size < w1.heap.size := (Array.getElem?_eq_some_iff.1 Ha1.out).1
    clear hb hr
    have hya : w.heap.size < w2.heap.size := (Array.getElem?_eq_some_iff.1 Ha2.out).1
    obtain ⟨a0, a1, a2, a3, a4, a5, a6, a7, a8, a9, a10, a11⟩ := cells12 Ha2.out
    obtain ⟨fa0, fa1, fa2, fa3, fa4, fa5, fa6, fa7, fa8, fa9, fa10, fa11⟩ := froz12 Ha2.out
    go_wp2
    refine bodyPost_ret (by simp [results, Tryz.results134, go_sem, hya, a0, a1, a2, a3, a4, a5, a6, a7, a8, a9, a10, a11]; first | done | rfl) rfl ?_
    exact ⟨⟨so2, cap2, none, 0, rfl, ownsRow_base (row_twelve HR2.out (row_away HR2.out hya1) _ _ _ _ _ _ _ _ _ _ _ _) hz2, World.ownsRow_nil _ _ _ _⟩, below_twelve HW2.out (Nat.le_refl _) _ _ _ _ _ _ _ _ _ _ _ _⟩
theorem join_c (w : World) (g c : Nat) (xs : List ByteArray) (hne : xs ≠ []) (h1 : ∀ (j : Nat) x, xs[j]? = some x → w.cell? ⟨g, j, none⟩ = some (.string x)) (hg : g < w.heap.size) (hc : xs.length ≤ c) (hx : xs.length ≤ 1000) (sep : ByteArray) (hl : (Lib.join (xs.map (·.data.toList)) sep.data.toList).length ≤ 140737488355328) (W : World) (hb : Below w.heap.size w W) :
    Calls Tryz.prog 157 #[.slice (some ⟨g, 0, none⟩) xs.length c, .string sep] W (fun e w' => e = .returned (.string ⟨(Lib.join (xs.map (·.data.toList)) sep.data.toList).toArray⟩) ∧ Below W.heap.size W w') :=
  Tryz.strings_Join g 0 c xs sep W (fun j x hx => by rw [Nat.zero_add]; exact keepCell hb (h1 j x hx)) (Nat.lt_of_lt_of_le hg hb.size) (by omega) hc hl
end Go.Proofs.YteflmfdjnigjcaaGreatDoor
