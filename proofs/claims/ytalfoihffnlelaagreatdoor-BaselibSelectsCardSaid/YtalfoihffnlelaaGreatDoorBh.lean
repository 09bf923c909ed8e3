import Derived.Test.YtalfoihffnlelaaGreatDoorBj
set_option linter.unusedVariables false
set_option linter.unusedSimpArgs false
set_option maxRecDepth 100000
set_option maxHeartbeats 2000000
namespace Go.Proofs.YtalfoihffnlelaaGreatDoor
open Go.RowKit Go.Proofs.Lexi
theorem cBad_one (w : World) (c : Nat) (nm : ByteArray) (av : Value) (HC : w.heap[c]? = some (oCl nm av)) (r : ByteArray) (hn : nm.size ≤ 100) (hr : r.size ≤ 100) (i : Nat) (hi : i < 100) (n : Int) (hni : n = i) (hD : (Lib.decDigits i).length ≤ 20) :
    Calls Tryz.prog 44 #[.pointer (some ⟨c, 0, none⟩), .int .i64 n, .string r] w (WrongPost w c nm av (badT ⟨(Lib.decDigits i).toArray⟩ nm r)) := by
  subst hni
  refine cWrong_c w c nm av HC i ⟨(Lib.decDigits i).toArray⟩ r ?_ hn hr (fun W _ => (Tryz.strconv_Itoa_small i hi W).mono ?_)
  · show (Lib.decDigits i).toArray.size ≤ 20
    simpa using hD
  · rintro e w' ⟨rfl, rfl⟩
    exact ⟨rfl, Below.refl _ _⟩
set_option maxRecDepth 100000 in
set_option maxHeartbeats 2000000 in
theorem choose_bad (w : World) (c : Nat) (nm : ByteArray) (g o n cap : Nat) (p : Int) (B : List V) (HC : w.heap[c]? = some (oCl nm (.slice (some ⟨g, o, none⟩) n cap))) (hA : Vals w (.slice (some ⟨g, o, none⟩) n cap) (⟨2, p, 1, ⟨#[]⟩, 0⟩ :: B)) (hl : B.length ≤ 300) (h1 : -2147483647 ≤ p) (h2 : p ≤ 2147483647) (hnm : nm.size ≤ 100)
    (e0 : (p == 0) = true ∨ (p == 0) = false ∧ p < 0 ∧ (B.length : Int) < -p) :
    Calls Tryz.prog 71 #[.pointer (some ⟨c, 0, none⟩)] w (ActPost (fun k => k = c) w 2 0 V.nil [strV (badT ⟨(Lib.decDigits 1).toArray⟩ nm outT)] ⟨#[]⟩ 1 0 []) := by
  have hl1 : ((⟨2, p, 1, ⟨#[]⟩, 0⟩ : V) :: B).length ≤ 1000 := by rw [List.length_cons]; omega
  have HAF := Lib.hid (fun W (hb : Below w.heap.size w W) => show Calls Tryz.prog 86 #[.pointer (some ⟨c, 0, none⟩), .int .i64 1] W (SliceVals W B) from cAfter_c W c nm g o n cap _ (hkeep hb HC) (Vals.below hA hb) hl1 (by rw [List.length_cons]; omega))
  have HAR := Lib.hid (fun W (hb : Below w.heap.size w W) => show Calls Tryz.prog 41 #[.pointer (some ⟨c, 0, none⟩), .int .i64 1] W (fun e w' => e = .returned (.agg #[.int .i64 2, .int .i64 p, .int .i64 1, .string ⟨#[]⟩, .int .i64 0]) ∧ Below W.heap.size W w') from cArg_c W c nm _ n cap _ (hkeep hb HC) (Vals.below hA hb) hl1 1 0 rfl ⟨2, p, 1, ⟨#[]⟩, 0⟩ rfl)
  have HST := Lib.hid (fun W => show Calls Tryz.prog 63 #[.string ⟨#[35]⟩] W (fun e w' => e = .returned (.agg #[.int .i64 3, .int .i64 0, .int .i64 0, .string ⟨#[35]⟩, .int .i64 0]) ∧ Below W.heap.size W w') from bstr_c W ⟨#[35]⟩)
  have HIN := Lib.hid (fun W (hb : Below w.heap.size w W) => cInt_c W c nm _ n cap _ (hkeep hb HC) (Vals.below hA hb) hl1 1 0 rfl p ⟨#[]⟩ 0 rfl h1 h2)
  have HWR := Lib.hid (fun W (hb : Below w.heap.size w W) => cBad_one W c nm _ (hkeep hb HC) outT hnm (by decide) 1 (by decide) 1 rfl (by rw [Lib.decDigits_one (by decide)]; decide))
  have hc : c < w.heap.size := (Array.getElem?_eq_some_iff.1 HC).1
  have EQ := fun W => eqn_run W p ⟨#[35]⟩
  clear HC hA hl1
  have E : ((p == 0) = true ∧ True ∧ True) ∨ ((p == 0) = false ∧ decide (p < 0) = true ∧ decide (-p > (B.length : Int)) = true) := by
    rcases e0 with e0 | ⟨e0, e1, e2⟩
    · exact .inl ⟨e0, trivial, trivial⟩
    · exact .inr ⟨e0, decide_eq_true e1, decide_eq_true e2⟩
  clear e0
  rcases E with ⟨e0, e1, e2⟩ | ⟨e0, e1, e2⟩
  all_goals
    go_enter Tryz.func71, Tryz.ntmps71
    go_wp2_with fail
    refine (HAF.out _ (below1 _ _)).mono ?_
    rintro e w1 ⟨g1, o1, cap1, rfl, hv, hb⟩
    have Ha1 := Lib.hid (hkeep hb (heap1 w oAc))
    have HW1 := Lib.hid (below_next (below1 _ _) hb)
    clear hb hv
    go_wp2_with fail
    refine (HAR.out _ HW1.out).mono ?_
    rintro e w2 ⟨rfl, hb⟩
    have Ha2 := Lib.hid (hkeep hb Ha1.out)
    have HW2 := Lib.hid (below_next HW1.out hb)
    clear hb
    go_wp2_with fail
    refine (HST.out _).mono ?_
    rintro e w3 ⟨rfl, hb⟩
    have Ha3 := Lib.hid (hkeep hb Ha2.out)
    have HW3 := Lib.hid (below_next HW2.out hb)
    clear hb
    go_wp2_with fail
    refine (HIN.out _ HW3.out).mono ?_
    rintro e w4 ⟨rfl, hb⟩
    have Ha4 := Lib.hid (hkeep hb Ha3.out)
    have HW4 := Lib.hid (below_next HW3.out hb)
    clear hb
    go_wp2_with fail
    refine (HWR.out _ HW4.out).mono ?_
    rintro e w5 ⟨so5, cap5, rfl, hrow, hcb, hm⟩
    have hz4 := HW4.out.size
    have hlt4 := (Array.getElem?_eq_some_iff.1 Ha4.out).1
    have HR5 := Lib.hid (hrow)
    have Hc5 := Lib.hid (hcb)
    have Ha5 := Lib.hid (mkeep hm Ha4.out (by omega))
    have HW5 := Lib.hid (Mods.trans (Mods.of_below HW4.out) hm)
    clear hrow hcb hm
    have hya : w.heap.size < w5.heap.size := (Array.getElem?_eq_some_iff.1 Ha5.out).1
    obtain ⟨a0, a1, a2, a3, a4, a5, a6, a7, a8, a9, a10, a11⟩ := cells12 Ha5.out
    obtain ⟨fa0, fa1, fa2, fa3, fa4, fa5, fa6, fa7, fa8, fa9, fa10, fa11⟩ := froz12 Ha5.out
    obtain ⟨c0, c1, c2, c3, c4, c5, c6, c7, c8, c9, c10, c11, c12, c13, c14, c15⟩ := cells16 Hc5.out
    obtain ⟨fc0, fc1, fc2, fc3, fc4, fc5, fc6, fc7, fc8, fc9, fc10, fc11, fc12, fc13, fc14, fc15⟩ := froz16 Hc5.out
    go_wp2
    refine bodyPost_ret (by simp [results, Tryz.results71, go_sem, hya, a0, a1, a2, a3, a4, a5, a6, a7, a8, a9, a10, a11]; first | done | rfl) rfl ?_
    exact act_end (B := w4.heap.size) (K := []) HR5.out (World.ownsRow_nil _ _ _ _) HW5.out (Nat.le_refl _) hlt4 _ _ _ _ _ _ _ _ _ _ _ _
set_option maxRecDepth 100000 in
set_option maxHeartbeats 2000000 in
theorem outcome_false (w : World) (so : Option Addr) (n cap : Nat) (A : List V) (hA : Vals w (.slice so n cap) A) (hl : A.length ≤ 1000) (v : V) (hv : A[0]? = some v) :
    Calls Tryz.prog 25 #[.bool false, .slice so n cap] w (RetPost w [⟨1, 0, 0, ⟨#[]⟩, 0⟩, v]) := by
  have HB := Lib.hid (fun W => show Calls Tryz.prog 28 #[.bool false] W (fun e w' => e = .returned (.agg #[.int .i64 1, .int .i64 0, .int .i64 0, .string ⟨#[]⟩, .int .i64 0]) ∧ Below W.heap.size W w') from pOfBool_c W false)
  have HP := Lib.hid (fun W (hb : Below w.heap.size w W) => pArg_at W so n cap A (Vals.below hA hb) 0 0 rfl v hv hl)
  clear hA hv
  go_enter Tryz.func25, Tryz.ntmps25
  go_wp2_with fail
  refine (HB.out _).mono ?_
  rintro e w1 ⟨rfl, hb⟩
  have Ha1 := Lib.hid (hkeep hb (heap1 w oAc))
  have HW1 := Lib.hid (below_next (below1 _ _) hb)
  clear hb
  go_wp2_with fail
  refine (HP.out _ HW1.out).mono ?_
  rintro e w2 ⟨rfl, hb⟩
  have Ha2 := Lib.hid (hkeep hb Ha1.out)
  have HW2 := Lib.hid (below_next HW1.out hb)
  clear hb
  go_wp2_with fail
  refine (pReturn_c _ _ _ _ [⟨1, 0, 0, ⟨#[]⟩, 0⟩, v] (vals_two w2 ⟨1, 0, 0, ⟨#[]⟩, 0⟩ v) (by simp)).mono ?_
  rintro e w3 ⟨so3, cap3, rfl, hrow, hb⟩
  have HR3 := Lib.hid hrow
  have Ha3 := Lib.hid (hkeep hb (heap1_old Ha2.out _))
  have HW3 := Lib.hid (below_next (HW2.out.alloc HW2.out.size _) hb)
  have hz2 := HW2.out.size
  have hlt2 := (Array.getElem?_eq_some_iff.1 Ha2.out).1
  clear hb hrow
  have hya : w.heap.size < w3.heap.size := (Array.getElem?_eq_some_iff.1 Ha3.out).1
  obtain ⟨a0, a1, a2, a3, a4, a5, a6, a7, a8, a9, a10, a11⟩ := cells12 Ha3.out
  obtain ⟨f0, f1, f2, f3, f4, f5, f6, f7, f8, f9, f10, f11⟩ := froz12 Ha3.out
  go_wp2
  refine bodyPost_ret (by simp [results, Tryz.results25, go_sem, hya, a0, a1, a2, a3, a4, a5, a6, a7, a8, a9, a10, a11]; first | done | rfl) rfl ?_
  refine ⟨so3, cap3, rfl, ownsRow_base (row_twelve HR3.out (fun h => ?_) _ _ _ _ _ _ _ _ _ _ _ _) (by simp; omega), below_twelve HW3.out (Nat.le_refl _) _ _ _ _ _ _ _ _ _ _ _ _⟩
  have := (ownBlock_lt HR3.out h).1
  simp at this
  omega
set_option maxRecDepth 100000 in
set_option maxHeartbeats 2000000 in
theorem next_pcall (w : World) (so : Option Addr) (n cap : Nat) (A : List V) (hA : Vals w (.slice so n cap) A) (hl : A.length ≤ 1000) (v : V) (hv : A[0]? = some v) (hw : Spaces w) :
    Calls Tryz.prog 15 #[.pointer none, .string ⟨#[112, 99, 97, 108, 108]⟩, .int .i64 1, .slice none 0 0, .bool false, .slice so n cap] w (RetPost w [⟨1, 0, 0, ⟨#[]⟩, 0⟩, v]) := by
  have HP := Lib.hid (fun W (hb : Below w.heap.size w W) => pArg_at W so n cap A (Vals.below hA hb) 0 0 rfl v hv hl)
  have HN := Lib.hid (fun W (hb : Below w.heap.size w W) => bnumber_c W ⟨#[112, 99, 97, 108, 108]⟩ (Spaces.stays hw hb))
  rw [at_pcall] at HN
  have HO := Lib.hid (fun W (hb : Below w.heap.size w W) => outcome_false W so n cap A (Vals.below hA hb) hl v hv)
  clear hA hv hw
  go_enter Tryz.func15, Tryz.ntmps15
  go_wp2_with fail
  refine (HP.out _ (below1 _ _)).mono ?_
  rintro e w1 ⟨rfl, hb⟩
  have Ha1 := Lib.hid (hkeep hb (heap1 w oAc))
  have HW1 := Lib.hid (below_next (below1 _ _) hb)
  clear hb
  go_wp2_with fail
  refine (HN.out _ (HW1.out.alloc HW1.out.size _)).mono ?_
  rintro e w2 ⟨rfl, hb⟩
  have Ha2 := Lib.hid (hkeep hb (heap1_old Ha1.out _))
  have HW2 := Lib.hid (below_next (HW1.out.alloc HW1.out.size _) hb)
  clear hb
  go_wp2_with fail
  refine (HO.out _ HW2.out).mono ?_
  rintro e w3 ⟨so3, cap3, rfl, hrow, hb⟩
  have HR3 := Lib.hid hrow
  have Ha3 := Lib.hid (hkeep hb Ha2.out)
  have HW3 := Lib.hid (below_next HW2.out hb)
  have hz2 := HW2.out.size
  have hlt2 := (Array.getElem?_eq_some_iff.1 Ha2.out).1
  clear hb hrow
  have hya : w.heap.size < w3.heap.size := (Array.getElem?_eq_some_iff.1 Ha3.out).1
  obtain ⟨a0, a1, a2, a3, a4, a5, a6, a7, a8, a9, a10, a11⟩ := cells12 Ha3.out
  obtain ⟨f0, f1, f2, f3, f4, f5, f6, f7, f8, f9, f10, f11⟩ := froz12 Ha3.out
  go_wp2
  refine bodyPost_ret (by simp [results, Tryz.results15, go_sem, hya, a0, a1, a2, a3, a4, a5, a6, a7, a8, a9, a10, a11]; first | done | rfl) rfl ?_
  refine ⟨so3, cap3, rfl, ownsRow_base (row_twelve HR3.out (fun h => ?_) _ _ _ _ _ _ _ _ _ _ _ _) (by omega), below_twelve HW3.out (Nat.le_refl _) _ _ _ _ _ _ _ _ _ _ _ _⟩
  have := (ownBlock_lt HR3.out h).1
  omega
set_option maxRecDepth 100000 in
set_option maxHeartbeats 2000000 in
theorem begin_plain (w : World) (nm : ByteArray) (so : Option Addr) (k cap : Nat) (n : Int) (hn : n ≠ 2 ∧ n ≠ 3 ∧ n ≠ 4 ∧ n ≠ 5 ∧ n ≠ 6 ∧ n ≠ 7 ∧ n ≠ 8 ∧ n ≠ 9 ∧ n ≠ 17 ∧ n ≠ 28 ∧ n ≠ 1 ∧ n ≠ 14 ∧ n ≠ 0 ∧ n ≠ 10 ∧ n ≠ 19 ∧ n ≠ 20 ∧ n ≠ 21 ∧ n ≠ 22 ∧ n ≠ 11 ∧ n ≠ 24 ∧ n ≠ 15 ∧ 0 ≤ n) (hli : Lib.lastIndexByte nm 46 = -1) (hz : nm.size ≤ 100) (hx : Lib.idxOfS namesL nm = n) (hw : Spaces w)
    (kind op : Int) (fk fp fq : Int) (fs : ByteArray) (fr : Int) (A : List V) (s : ByteArray) (level next : Int) (K : List V)
    (HCH : ∀ W c, Below w.heap.size w W → W.heap[c]? = some (oCl nm (.slice so k cap)) → w.heap.size ≤ c → Calls Tryz.prog 23 #[.pointer (some ⟨c, 0, none⟩), .int .i64 n] W (ActPost (fun k => k = c) W kind op ⟨fk, fp, fq, fs, fr⟩ A s level next K)) :
    Calls Tryz.prog 14 #[.pointer none, .string nm, .slice so k cap] w (ActPost NoF w kind op ⟨fk, fp, fq, fs, fr⟩ A s level next K) := by
  have HL := Lib.hid (fun W => Tryz.strings_LastIndexByte nm 46 (by omega) W)
  rw [hli] at HL
  have HN := Lib.hid (fun W (hb : Below w.heap.size w W) => bnumber_c W nm (Spaces.stays hw hb))
  rw [hx] at HN
  have HP := Lib.hid (HCH)
  have q2 : (n == 2) = false := beq_eq_false_iff_ne.2 (by omega)
  have q3 : (n == 3) = false := beq_eq_false_iff_ne.2 (by omega)
  have q4 : (n == 4) = false := beq_eq_false_iff_ne.2 (by omega)
  have q5 : (n == 5) = false := beq_eq_false_iff_ne.2 (by omega)
  have q6 : (n == 6) = false := beq_eq_false_iff_ne.2 (by omega)
  have q7 : (n == 7) = false := beq_eq_false_iff_ne.2 (by omega)
  have q8 : (n == 8) = false := beq_eq_false_iff_ne.2 (by omega)
  have q9 : (n == 9) = false := beq_eq_false_iff_ne.2 (by omega)
  have q17 : (n == 17) = false := beq_eq_false_iff_ne.2 (by omega)
  have q28 : (n == 28) = false := beq_eq_false_iff_ne.2 (by omega)
  have q1 : (n == 1) = false := beq_eq_false_iff_ne.2 (by omega)
  have q14 : (n == 14) = false := beq_eq_false_iff_ne.2 (by omega)
  have q0 : (n == 0) = false := beq_eq_false_iff_ne.2 (by omega)
  have q10 : (n == 10) = false := beq_eq_false_iff_ne.2 (by omega)
  have q19 : (n == 19) = false := beq_eq_false_iff_ne.2 (by omega)
  have q20 : (n == 20) = false := beq_eq_false_iff_ne.2 (by omega)
  have q21 : (n == 21) = false := beq_eq_false_iff_ne.2 (by omega)
  have q22 : (n == 22) = false := beq_eq_false_iff_ne.2 (by omega)
  have q11 : (n == 11) = false := beq_eq_false_iff_ne.2 (by omega)
  have q24 : (n == 24) = false := beq_eq_false_iff_ne.2 (by omega)
  have q15 : (n == 15) = false := beq_eq_false_iff_ne.2 (by omega)
  have qm : (n == -1) = false := beq_eq_false_iff_ne.2 (by omega)
  have hz2 : (nm.size : Int) ≤ 100 := by omega
  clear hw HCH hli hx
  go_enter Tryz.func14, Tryz.ntmps14
  go_wp2_with fail
  refine (HL.out _).mono ?_
  rintro e w1 ⟨rfl, rfl⟩
  go_wp2_with fail
  refine (HN.out _ (below2w _ _ _)).mono ?_
  rintro e w2 ⟨rfl, hb⟩
  have Ha2 := Lib.hid (hkeep hb (heap2_a w oAc (oCl nm (.slice so k cap))))
  have Hc2 := Lib.hid (hkeep hb (heap2_b w oAc (oCl nm (.slice so k cap))))
  have HW2 := Lib.hid (below_next (below2w _ _ _) hb)
  have hz2 := hb.size
  try simp at hz2
  clear hb
  go_wp2_with fail
  refine (HP.out _ _ HW2.out Hc2.out (by omega)).mono ?_
  rintro e w3 ⟨so3, cap3, sk3, ck3, rfl, hr, hk, hm⟩
  have HR3 := Lib.hid (hr)
  have HK3 := Lib.hid (hk)
  have Ha3 := Lib.hid (mkeep hm Ha2.out (by omega))
  have HW3 := Lib.hid (Mods.below (Mods.trans (Mods.of_below HW2.out) hm) (Nat.le_refl _) (fun k hk h => by omega))
  have hlt := (Array.getElem?_eq_some_iff.1 Ha2.out).1
  clear hr hk hm
  have hya : w.heap.size < w3.heap.size := (Array.getElem?_eq_some_iff.1 Ha3.out).1
  obtain ⟨a0, a1, a2, a3, a4, a5, a6, a7, a8, a9, a10, a11⟩ := cells12 Ha3.out
  obtain ⟨fa0, fa1, fa2, fa3, fa4, fa5, fa6, fa7, fa8, fa9, fa10, fa11⟩ := froz12 Ha3.out
  go_wp2
  refine bodyPost_ret (by simp [results, Tryz.results14, go_sem, hya, a0, a1, a2, a3, a4, a5, a6, a7, a8, a9, a10, a11]; first | done | rfl) rfl ?_
  exact act_end HR3.out HK3.out (Mods.of_below HW3.out) (Nat.le_refl _) hlt _ _ _ _ _ _ _ _ _ _ _ _
set_option maxRecDepth 100000 in
set_option maxHeartbeats 2000000 in
theorem begin_pcall (w : World) (nm : ByteArray) (so : Option Addr) (k cap : Nat)  (hli : Lib.lastIndexByte nm 46 = -1) (hz : nm.size ≤ 100) (hx : Lib.idxOfS namesL nm = 17) (hw : Spaces w)
    (kind op : Int) (fk fp fq : Int) (fs : ByteArray) (fr : Int) (A : List V) (s : ByteArray) (level next : Int) (K : List V)
    (HCH : ∀ W c, Below w.heap.size w W → W.heap[c]? = some (oCl nm (.slice so k cap)) → w.heap.size ≤ c → Calls Tryz.prog 21 #[.pointer (some ⟨c, 0, none⟩), .int .i64 17] W (ActPost (fun k => k = c) W kind op ⟨fk, fp, fq, fs, fr⟩ A s level next K)) :
    Calls Tryz.prog 14 #[.pointer none, .string nm, .slice so k cap] w (ActPost NoF w kind op ⟨fk, fp, fq, fs, fr⟩ A s level next K) := by
  have HL := Lib.hid (fun W => Tryz.strings_LastIndexByte nm 46 (by omega) W)
  rw [hli] at HL
  have HN := Lib.hid (fun W (hb : Below w.heap.size w W) => bnumber_c W nm (Spaces.stays hw hb))
  rw [hx] at HN
  have HP := Lib.hid (HCH)
  have hz2 : (nm.size : Int) ≤ 100 := by omega
  clear hw HCH hli hx
  go_enter Tryz.func14, Tryz.ntmps14
  go_wp2_with fail
  refine (HL.out _).mono ?_
  rintro e w1 ⟨rfl, rfl⟩
  go_wp2_with fail
  refine (HN.out _ (below2w _ _ _)).mono ?_
  rintro e w2 ⟨rfl, hb⟩
  have Ha2 := Lib.hid (hkeep hb (heap2_a w oAc (oCl nm (.slice so k cap))))
  have Hc2 := Lib.hid (hkeep hb (heap2_b w oAc (oCl nm (.slice so k cap))))
  have HW2 := Lib.hid (below_next (below2w _ _ _) hb)
  have hz2 := hb.size
  try simp at hz2
  clear hb
  go_wp2_with fail
  refine (HP.out _ _ HW2.out Hc2.out (by omega)).mono ?_
  rintro e w3 ⟨so3, cap3, sk3, ck3, rfl, hr, hk, hm⟩
  have HR3 := Lib.hid (hr)
  have HK3 := Lib.hid (hk)
  have Ha3 := Lib.hid (mkeep hm Ha2.out (by omega))
  have HW3 := Lib.hid (Mods.below (Mods.trans (Mods.of_below HW2.out) hm) (Nat.le_refl _) (fun k hk h => by omega))
  have hlt := (Array.getElem?_eq_some_iff.1 Ha2.out).1
  clear hr hk hm
  have hya : w.heap.size < w3.heap.size := (Array.getElem?_eq_some_iff.1 Ha3.out).1
  obtain ⟨a0, a1, a2, a3, a4, a5, a6, a7, a8, a9, a10, a11⟩ := cells12 Ha3.out
  obtain ⟨fa0, fa1, fa2, fa3, fa4, fa5, fa6, fa7, fa8, fa9, fa10, fa11⟩ := froz12 Ha3.out
  go_wp2
  refine bodyPost_ret (by simp [results, Tryz.results14, go_sem, hya, a0, a1, a2, a3, a4, a5, a6, a7, a8, a9, a10, a11]; first | done | rfl) rfl ?_
  exact act_end HR3.out HK3.out (Mods.of_below HW3.out) (Nat.le_refl _) hlt _ _ _ _ _ _ _ _ _ _ _ _
set_option maxRecDepth 100000 in
set_option maxHeartbeats 2000000 in
theorem tonum_c (w : World) (c : Nat) (nm : ByteArray) (so : Option Addr) (n cap : Nat) (A : List V) (HC : w.heap[c]? = some (oCl nm (.slice so n cap))) (hA : Vals w (.slice so n cap) A) (hl : A.length ≤ 1000)
    (s X Y : ByteArray) (b m : Nat) (mi : Bool) (hb1 : 2 ≤ b) (hb2 : b ≤ 36) (h0 : A[0]? = some ⟨3, 0, 0, s, 0⟩) (h1 : A[1]? = some ⟨2, b, 1, ⟨#[]⟩, 0⟩) (hY : Y.size ≤ 2000000000)
    (HT : ∀ W, Calls Tryz.prog 108 #[.string s, .string ⟨#[32, 9, 10, 13]⟩] W (fun e w' => e = .returned (.string X) ∧ Below W.heap.size W w'))
    (HP : ∀ W, Calls Tryz.prog 107 #[.string X, .string ⟨#[45]⟩] W (fun e w' => e = .returned (.tuple #[.string Y, .bool mi]) ∧ w' = W))
    (hd : dgOut Y (dgM b (bytesOf Y) 0) = ((m : Int), true)) (hm : m ≤ 2147483647) (x : Int) (hx : x = if mi then -(m : Int) else (m : Int)) :
    Calls Tryz.prog 67 #[.pointer (some ⟨c, 0, none⟩)] w (RetPost w [⟨2, x, 1, ⟨#[]⟩, 0⟩]) := by
  have HA1 := Lib.hid (fun W (hb : Below w.heap.size w W) => show Calls Tryz.prog 41 #[.pointer (some ⟨c, 0, none⟩), .int .i64 1] W (fun e w' => e = .returned (.agg #[.int .i64 3, .int .i64 0, .int .i64 0, .string s, .int .i64 0]) ∧ Below W.heap.size W w') from cArg_c W c nm so n cap A (hkeep hb HC) (Vals.below hA hb) hl 1 0 rfl ⟨3, 0, 0, s, 0⟩ h0)
  have HA2 := Lib.hid (fun W (hb : Below w.heap.size w W) => show Calls Tryz.prog 41 #[.pointer (some ⟨c, 0, none⟩), .int .i64 2] W (fun e w' => e = .returned (.agg #[.int .i64 2, .int .i64 (b : Nat), .int .i64 1, .string ⟨#[]⟩, .int .i64 0]) ∧ Below W.heap.size W w') from cArg_c W c nm so n cap A (hkeep hb HC) (Vals.below hA hb) hl 2 1 rfl ⟨2, b, 1, ⟨#[]⟩, 0⟩ h1)
  have HIN := Lib.hid (fun W (hb : Below w.heap.size w W) => cInt_c W c nm so n cap A (hkeep hb HC) (Vals.below hA hb) hl 2 1 rfl b ⟨#[]⟩ 0 h1 (by omega) (by omega))
  have HGI := Lib.hid (fun W (hb : Below w.heap.size w W) so n' cap' (A' : List V) (hA' : Vals W (.slice so n' cap') A') (hl' : A'.length ≤ 1000) => cGive_c W c nm _ (hkeep hb HC) so n' cap' A' hA' hl')
  have hdg : ∀ W, Calls Tryz.prog 109 #[.string Y, .int .i64 b] W (fun e w' => e = .returned (.tuple #[.int .i64 (m : Int), .bool true]) ∧ W = w') := fun W => by
    have h := digits_c W Y hY b hb1 hb2
    rw [hd] at h
    exact h
  have HDG := Lib.hid (hdg)
  have HOI := Lib.hid (fun W => pOfInt_top W x (by rw [hx]; split <;> omega) (by rw [hx]; split <;> omega))
  have HTT := Lib.hid (HT)
  have HPP := Lib.hid (HP)
  have hc : c < w.heap.size := (Array.getElem?_eq_some_iff.1 HC).1
  have FD := fun W => field0_run W (.int .i64 2) (.int .i64 (b : Nat)) (.int .i64 1) (.string ⟨#[]⟩) (.int .i64 0)
  have hb3 : (2 : Int) ≤ (b : Int) := by omega
  have hb4 : (b : Int) ≤ 36 := by omega
  have hb5 : ¬ (b : Int) < 2 := by omega
  have hb6 : decide ((b : Int) < 2) = false := decide_eq_false hb5
  have hb7 : decide ((b : Int) > 36) = false := decide_eq_false (by omega)
  have hmx : max (b : Int) 2 = b := by omega
  have hmn : min (b : Int) 36 = b := by omega
  have hm2 : (m : Int) ≤ 2147483647 := by omega
  clear HC hA h0 h1 HT HP hd hY hm hdg
  cases mi
  all_goals
    simp only [if_true, if_false, Bool.false_eq_true] at hx
    subst hx
    go_enter Tryz.func67, Tryz.ntmps67
    go_wp2_with fail
    refine (HA1.out _ (below1 _ _)).mono ?_
    rintro e w1 ⟨rfl, hb⟩
    have Ha1 := Lib.hid (hkeep hb (heap1 w oAc))
    have HW1 := Lib.hid (below_next (below1 _ _) hb)
    clear hb
    go_wp2_with fail
    refine (HA2.out _ (HW1.out.alloc HW1.out.size _)).mono ?_
    rintro e w2 ⟨rfl, hb⟩
    have Ha2 := Lib.hid (hkeep hb (heap1_old Ha1.out _))
    have Hv2 := Lib.hid (hkeep hb (heap1 w1 (oV 3 0 0 s 0)))
    have HW2 := Lib.hid (below_next (HW1.out.alloc HW1.out.size _) hb)
    clear hb
    go_wp2_with fail
    refine (HIN.out _ HW2.out).mono ?_
    rintro e w3 ⟨rfl, hb⟩
    have Ha3 := Lib.hid (hkeep hb Ha2.out)
    have Hv3 := Lib.hid (hkeep hb Hv2.out)
    have HW3 := Lib.hid (below_next HW2.out hb)
    clear hb
    obtain ⟨v0, v1, v2, v3, v4⟩ := cells5 Hv3.out
    obtain ⟨fv0, fv1, fv2, fv3, fv4⟩ := froz5 Hv3.out
    go_wp2_with fail
    refine (HTT.out _).mono ?_
    rintro e w4 ⟨rfl, hb⟩
    have Ha4 := Lib.hid (hkeep hb Ha3.out)
    have HW4 := Lib.hid (below_next HW3.out hb)
    clear hb v0 v1 v2 v3 v4 fv0 fv1 fv2 fv3 fv4
    go_wp2_with fail
    refine (HPP.out _).mono ?_
    rintro e w5 ⟨rfl, rfl⟩
    go_wp2_with fail
    refine (HDG.out _).mono ?_
    rintro e w6 ⟨rfl, rfl⟩
    go_wp2_with fail
    refine (HOI.out _).mono ?_
    rintro e w7 ⟨rfl, hb⟩
    have Ha7 := Lib.hid (hkeep hb Ha4.out)
    have HW7 := Lib.hid (below_next HW4.out hb)
    clear hb
    go_wp2_with fail
    refine (HGI.out _ (HW7.out.alloc HW7.out.size _) _ _ _ [⟨2, _, 1, ⟨#[]⟩, 0⟩] (vals_one w7 ⟨2, _, 1, ⟨#[]⟩, 0⟩) (by simp)).mono ?_
    rintro e w8 ⟨so8, cap8, rfl, hrow, hb⟩
    have HR8 := Lib.hid (hrow)
    have Ha8 := Lib.hid (hkeep hb (heap1_old Ha7.out _))
    have HW8 := Lib.hid (below_next (HW7.out.alloc HW7.out.size _) hb)
    have hlt := (Array.getElem?_eq_some_iff.1 Ha7.out).1
    clear hb hrow
    have hya : w.heap.size < w8.heap.size := (Array.getElem?_eq_some_iff.1 Ha8.out).1
    obtain ⟨a0, a1, a2, a3, a4, a5, a6, a7, a8, a9, a10, a11⟩ := cells12 Ha8.out
    obtain ⟨fa0, fa1, fa2, fa3, fa4, fa5, fa6, fa7, fa8, fa9, fa10, fa11⟩ := froz12 Ha8.out
    go_wp2
    refine bodyPost_ret (by simp [results, Tryz.results67, go_sem, hya, a0, a1, a2, a3, a4, a5, a6, a7, a8, a9, a10, a11]; first | done | rfl) rfl ?_
    refine ⟨so8, cap8, rfl, ownsRow_base (row_twelve HR8.out (row_away HR8.out (by simp; omega)) _ _ _ _ _ _ _ _ _ _ _ _) (by simp; omega), below_twelve HW8.out (Nat.le_refl _) _ _ _ _ _ _ _ _ _ _ _ _⟩
set_option maxRecDepth 100000 in
set_option maxHeartbeats 2000000 in
theorem results_act (w : World) (nm : ByteArray) (so : Option Addr) (n cap : Nat) (kind op : Int) (b : Bool) (hb : (kind == 1) = b) (fk fp fq : Int) (fs : ByteArray) (fr : Int) (A : List V) (s : ByteArray) (level next : Int) (K : List V)
    (HB : Calls Tryz.prog 14 #[.pointer none, .string nm, .slice so n cap] w (ActPost NoF w kind op ⟨fk, fp, fq, fs, fr⟩ A s level next K)) :
    Calls Tryz.prog 7 #[.pointer none, .string nm, .slice so n cap] w (ResB w A b) := by
  have HH := Lib.hid HB
  clear HB
  go_enter Tryz.func7, Tryz.ntmps7
  go_wp2_with fail
  refine HH.out.mono ?_
  rintro e w1 ⟨so1, cap1, sk1, ck1, rfl, hrow, -, hm⟩
  have HR1 := Lib.hid hrow
  have HW1 := Lib.hid (mods_below hm)
  clear hm hrow
  go_wp2
  go_quiet (fail)
  go_wp2
  go_ret2
  refine ⟨so1, cap1, rfl, ownsRow_ext (below_ext (bdn ((Below.refl _ _).alloc (Nat.le_refl _) _) _) (Nat.le_refl _)) HR1.out, bdn (HW1.out.alloc HW1.out.size _) _⟩
theorem sel_hash (w : World) (g o n cap : Nat) (B : List V) (hA : Vals w (.slice (some ⟨g, o, none⟩) n cap) (strV ⟨#[35]⟩ :: B)) (hl : B.length ≤ 300) (hw : Spaces w) :
    Calls Tryz.prog 7 #[.pointer none, .string selN, .slice (some ⟨g, o, none⟩) n cap] w (ResB w [⟨2, (B.length : Nat), 1, ⟨#[]⟩, 0⟩] true) :=
  results_act w selN _ n cap 1 0 true rfl 0 0 0 ⟨#[]⟩ 0 _ ⟨#[]⟩ 0 0 []
    (begin_plain w selN _ n cap 23 (by decide) selN_last (by decide) at_select hw 1 0 0 0 0 ⟨#[]⟩ 0 _ ⟨#[]⟩ 0 0 []
      (fun W c hb hc hge => plain_pass W c _ 1 0 0 0 0 ⟨#[]⟩ 0 _ ⟨#[]⟩ 0 0 [] (fun k hk h => by have := (Array.getElem?_eq_some_iff.1 hc).1; omega)
        (fun W2 hb2 => (choose_hash W2 c selN g o n cap B (hkeep hb2 hc) (Vals.below (Vals.below hA hb) hb2) hl).mono (fun _ _ h => act_of_ret h))))
theorem sel_pos (w : World) (g o n cap : Nat) (p : Int) (B : List V) (hA : Vals w (.slice (some ⟨g, o, none⟩) n cap) (⟨2, p, 1, ⟨#[]⟩, 0⟩ :: B)) (hl : B.length ≤ 300) (h1 : -2147483647 ≤ p) (h2 : p ≤ 2147483647) (hp : 0 < p) (lo : Nat) (hlo : min (p - 1) (B.length : Int) = lo) (hw : Spaces w) :
    Calls Tryz.prog 7 #[.pointer none, .string selN, .slice (some ⟨g, o, none⟩) n cap] w (ResB w (B.drop lo) true) :=
  results_act w selN _ n cap 1 0 true rfl 0 0 0 ⟨#[]⟩ 0 _ ⟨#[]⟩ 0 0 []
    (begin_plain w selN _ n cap 23 (by decide) selN_last (by decide) at_select hw 1 0 0 0 0 ⟨#[]⟩ 0 _ ⟨#[]⟩ 0 0 []
      (fun W c hb hc hge => plain_pass W c _ 1 0 0 0 0 ⟨#[]⟩ 0 _ ⟨#[]⟩ 0 0 [] (fun k hk h => by have := (Array.getElem?_eq_some_iff.1 hc).1; omega)
        (fun W2 hb2 => (choose_pos W2 c selN g o n cap p B (hkeep hb2 hc) (Vals.below (Vals.below hA hb) hb2) hl h1 h2 hp lo hlo).mono (fun _ _ h => act_of_ret h))))
theorem sel_neg (w : World) (g o n cap : Nat) (p : Int) (B : List V) (hA : Vals w (.slice (some ⟨g, o, none⟩) n cap) (⟨2, p, 1, ⟨#[]⟩, 0⟩ :: B)) (hl : B.length ≤ 300) (h1 : -2147483647 ≤ p) (h2 : p ≤ 2147483647) (hp : p < 0) (lo : Nat) (hlo : (B.length : Int) + p = lo) (hw : Spaces w) :
    Calls Tryz.prog 7 #[.pointer none, .string selN, .slice (some ⟨g, o, none⟩) n cap] w (ResB w (B.drop lo) true) :=
  results_act w selN _ n cap 1 0 true rfl 0 0 0 ⟨#[]⟩ 0 _ ⟨#[]⟩ 0 0 []
    (begin_plain w selN _ n cap 23 (by decide) selN_last (by decide) at_select hw 1 0 0 0 0 ⟨#[]⟩ 0 _ ⟨#[]⟩ 0 0 []
      (fun W c hb hc hge => plain_pass W c _ 1 0 0 0 0 ⟨#[]⟩ 0 _ ⟨#[]⟩ 0 0 [] (fun k hk h => by have := (Array.getElem?_eq_some_iff.1 hc).1; omega)
        (fun W2 hb2 => (choose_neg W2 c selN g o n cap p B (hkeep hb2 hc) (Vals.below (Vals.below hA hb) hb2) hl h1 h2 hp lo hlo).mono (fun _ _ h => act_of_ret h))))
theorem sel_bad (w : World) (g o n cap : Nat) (p : Int) (B : List V) (hA : Vals w (.slice (some ⟨g, o, none⟩) n cap) (⟨2, p, 1, ⟨#[]⟩, 0⟩ :: B)) (hl : B.length ≤ 300) (h1 : -2147483647 ≤ p) (h2 : p ≤ 2147483647) (e0 : (p == 0) = true ∨ (p == 0) = false ∧ p < 0 ∧ (B.length : Int) < -p) (hw : Spaces w) :
    Calls Tryz.prog 7 #[.pointer none, .string selN, .slice (some ⟨g, o, none⟩) n cap] w (ResB w [strV (badT ⟨(Lib.decDigits 1).toArray⟩ selN outT)] false) :=
  results_act w selN _ n cap 2 0 false rfl 0 0 0 ⟨#[]⟩ 0 _ ⟨#[]⟩ 1 0 []
    (begin_plain w selN _ n cap 23 (by decide) selN_last (by decide) at_select hw 2 0 0 0 0 ⟨#[]⟩ 0 _ ⟨#[]⟩ 1 0 []
      (fun W c hb hc hge => plain_pass W c _ 2 0 0 0 0 ⟨#[]⟩ 0 _ ⟨#[]⟩ 1 0 [] (fun k hk h => by have := (Array.getElem?_eq_some_iff.1 hc).1; omega)
        (fun W2 hb2 => choose_bad W2 c selN g o n cap p B (hkeep hb2 hc) (Vals.below (Vals.below hA hb) hb2) hl h1 h2 (by decide) e0)))
theorem ton_base (w : World) (g o n cap : Nat) (A : List V) (hA : Vals w (.slice (some ⟨g, o, none⟩) n cap) A) (hl : A.length ≤ 1000) (hw : Spaces w)
    (s X Y : ByteArray) (b m : Nat) (mi : Bool) (hb1 : 2 ≤ b) (hbb : b ≤ 36) (h0 : A[0]? = some ⟨3, 0, 0, s, 0⟩) (h1 : A[1]? = some ⟨2, b, 1, ⟨#[]⟩, 0⟩) (hY : Y.size ≤ 2000000000)
    (HT : ∀ W, Calls Tryz.prog 108 #[.string s, .string ⟨#[32, 9, 10, 13]⟩] W (fun e w' => e = .returned (.string X) ∧ Below W.heap.size W w'))
    (HP : ∀ W, Calls Tryz.prog 107 #[.string X, .string ⟨#[45]⟩] W (fun e w' => e = .returned (.tuple #[.string Y, .bool mi]) ∧ w' = W))
    (hd : dgOut Y (dgM b (bytesOf Y) 0) = ((m : Int), true)) (hm : m ≤ 2147483647) (x : Int) (hx : x = if mi then -(m : Int) else (m : Int)) :
    Calls Tryz.prog 7 #[.pointer none, .string tonN, .slice (some ⟨g, o, none⟩) n cap] w (ResB w [⟨2, x, 1, ⟨#[]⟩, 0⟩] true) :=
  results_act w tonN _ n cap 1 0 true rfl 0 0 0 ⟨#[]⟩ 0 _ ⟨#[]⟩ 0 0 []
    (begin_plain w tonN _ n cap 25 (by decide) tonN_last (by decide) at_tonumber hw 1 0 0 0 0 ⟨#[]⟩ 0 _ ⟨#[]⟩ 0 0 []
      (fun W c hb hc hge => plain_tonum W c _ 1 0 0 0 0 ⟨#[]⟩ 0 _ ⟨#[]⟩ 0 0 [] (fun k hk h => by have := (Array.getElem?_eq_some_iff.1 hc).1; omega)
        (fun W2 hb2 => (tonum_c W2 c tonN _ n cap A (hkeep hb2 hc) (Vals.below (Vals.below hA hb) hb2) hl s X Y b m mi hb1 hbb h0 h1 hY HT HP hd hm x hx).mono (fun _ _ h => act_of_ret h))))
theorem pca_begin (w : World) (g o n cap : Nat) (k p q : Int) (s : ByteArray) (r : Int) (B : List V) (hA : Vals w (.slice (some ⟨g, o, none⟩) n cap) (⟨k, p, q, s, r⟩ :: B)) (hl : B.length ≤ 300) (hw : Spaces w) :
    Calls Tryz.prog 14 #[.pointer none, .string pcaN, .slice (some ⟨g, o, none⟩) n cap] w (ActPost NoF w 4 0 ⟨k, p, q, s, r⟩ B ⟨#[]⟩ 0 1 []) :=
  begin_pcall w pcaN _ n cap pcaN_last (by decide) at_pcall hw 4 0 k p q s r B ⟨#[]⟩ 0 1 []
    (fun W c hb hc hge => (control_pcall W c pcaN g o n cap k p q s r B hc (Vals.below hA hb) hl).mono (fun _ _ h => act_mono h (fun _ _ h => absurd h (fun h => h))))
theorem lnum_x (w : World) (n : Int) : Calls Tryz.prog 9 #[.int .i64 n] w (fun e w' => e = .returned (.agg #[.int .i64 2, .int .i64 n, .int .i64 1, .string ⟨#[]⟩, .int .i64 0]) ∧ Below w.heap.size w w') := lnum_c w n
theorem lstr_x (w : World) (s : ByteArray) : Calls Tryz.prog 8 #[.string s] w (fun e w' => e = .returned (.agg #[.int .i64 3, .int .i64 0, .int .i64 0, .string s, .int .i64 0]) ∧ Below w.heap.size w w') := lstr_c w s
theorem eqv_run (W : World) (v : V) : (binOp .eql 30 (.agg #[.int .i64 v.k, .int .i64 v.p, .int .i64 v.q, .string v.s, .int .i64 v.r]) (.agg #[.int .i64 v.k, .int .i64 v.p, .int .i64 v.q, .string v.s, .int .i64 v.r])).run Tryz.prog W = .ok (.bool true) W := by
  have := eq_run W v.k v.p v.q v.s v.r v.k v.p v.q v.s v.r
  rw [this]
  simp [eqV]
theorem ff_cut (W : World) : Calls Tryz.prog 107 #[.string ⟨#[102, 102]⟩, .string ⟨#[45]⟩] W (fun e w' => e = .returned (.tuple #[.string ⟨#[102, 102]⟩, .bool false]) ∧ w' = W) := Tryz.strings_CutPrefix ⟨#[102, 102]⟩ ⟨#[45]⟩ W
set_option maxRecDepth 100000 in
set_option maxHeartbeats 2000000 in
theorem awake24_c (w : World) (hw : Spaces w) : Calls Tryz.prog 6 #[] w (BoolPost w true) := by
  have HSP := Lib.hid (fun W (hb : Below w.heap.size w W) => Spaces.stays hw hb)
  clear hw
  go_enter Tryz.func6, Tryz.ntmps6
  go_wp2_with fail
  obtain ⟨W0, hW0⟩ : ∃ W0, W0 = w.alloc (oV 6 0 0 ⟨#[112, 114, 105, 110, 116]⟩ 0) := ⟨_, rfl⟩
  rw [← hW0]
  have HW0 := Lib.hid (show Below w.heap.size w W0 by rw [hW0]; exact below1 _ _)
  have Hf0 := Lib.hid (show W0.heap[w.heap.size]? = some (oV 6 0 0 ⟨#[112, 114, 105, 110, 116]⟩ 0) by rw [hW0]; exact heap1 _ _)
  clear hW0
  refine (lnum_x _ _).mono ?_
  rintro e w1 ⟨rfl, hb⟩
  have HW1 := Lib.hid (below_next HW0.out hb)
  have Hf1 := Lib.hid (hkeep hb Hf0.out)
  clear hb
  go_wp2_with fail
  refine (lnum_x _ _).mono ?_
  rintro e w2 ⟨rfl, hb⟩
  have HW2 := Lib.hid (below_next HW1.out hb)
  have Hf2 := Lib.hid (hkeep hb Hf1.out)
  clear hb
  go_wp2_with fail
  refine (lnum_x _ _).mono ?_
  rintro e w3 ⟨rfl, hb⟩
  have HW3 := Lib.hid (below_next HW2.out hb)
  have Hf3 := Lib.hid (hkeep hb Hf2.out)
  clear hb
  go_wp2_with fail
  refine (sel_neg _ _ _ _ _ (-1) [nV 7, nV 8] (vals_lit w3 [nV (-1), nV 7, nV 8]) (by decide) (by decide) (by decide) (by decide) 1 (by decide) (HSP.out _ (HW3.out.alloc HW3.out.size _))).mono ?_
  rintro e w4 ⟨sa, ca, rfl, hrow, hb⟩
  have HW4 := Lib.hid (below_next (HW3.out.alloc HW3.out.size _) hb)
  have Hf4 := Lib.hid (hkeep hb (heap1_old Hf3.out _))
  have HA4 := Lib.hid (Vals.of_row hrow)
  clear hb hrow
  go_upto_region 3 with fail
  go_cut [1, 2, 3, 4] (fun s1 s2 s3 s4 wx => ∃ xb sb cb sk ck, s1 = .pointer (some ⟨w.heap.size, 0, none⟩) ∧ s2 = .slice sa 1 ca ∧ s3 = .bool true ∧ s4 = .pointer (some ⟨xb, 0, none⟩) ∧ Hid (wx.heap[xb]? = some (.cells #[.int .i64 4, .int .i64 0, .int .i64 6, .int .i64 0, .int .i64 0, .string ⟨#[112, 114, 105, 110, 116]⟩, .int .i64 0, .slice sb 1 cb, .string ⟨#[]⟩, .int .i64 0, .int .i64 1, .slice sk 0 ck] 42)) ∧ Hid (Vals wx (.slice sb 1 cb) [nV 1]) ∧ Hid (Below w4.heap.size w4 wx))
  case first =>
    have SO := Lib.hid (fun (W : World) (hb : Below w4.heap.size w4 W) => (show W.cell? ⟨w.heap.size, 0, none⟩ = some (.int .i64 6) ∧ W.cell? ⟨w.heap.size, 1, none⟩ = some (.int .i64 0) ∧ W.cell? ⟨w.heap.size, 2, none⟩ = some (.int .i64 0) ∧ W.cell? ⟨w.heap.size, 3, none⟩ = some (.string ⟨#[112, 114, 105, 110, 116]⟩) ∧ W.cell? ⟨w.heap.size, 4, none⟩ = some (.int .i64 0) ∧ Hid (Below w4.heap.size w4 W) from ⟨(cells5 (hkeep hb Hf4.out)).1, (cells5 (hkeep hb Hf4.out)).2.1, (cells5 (hkeep hb Hf4.out)).2.2.1, (cells5 (hkeep hb Hf4.out)).2.2.2.1, (cells5 (hkeep hb Hf4.out)).2.2.2.2, Lib.hid hb⟩))
    have SO1 := Lib.hid (fun (W : World) (o : Obj) (hb : Below w4.heap.size w4 W) => SO.out _ (hb.alloc hb.size o))
    have SO1D := Lib.hid (fun (W : World) (o : Obj) (hb : Below w4.heap.size w4 W) => SO.out _ (hb.alloc hb.size o).drew)
    have SO2 := Lib.hid (fun (W : World) (o p : Obj) (hb : Below w4.heap.size w4 W) => SO.out _ ((hb.alloc hb.size o).alloc (hb.alloc hb.size o).size p))
    have SO12 := Lib.hid (fun (W : World) (b : Nat) (c0 c1 c2 c3 c4 c5 c6 c7 c8 c9 c10 c11 : Value) (hb : Below w4.heap.size w4 W) (hbb : w4.heap.size ≤ b) => SO.out _ (below_twelve hb hbb c0 c1 c2 c3 c4 c5 c6 c7 c8 c9 c10 c11))
    have P1 := Lib.hid (fun (X : World) (m : Nat) (hm : m = X.heap.size) (hb : Below w4.heap.size w4 (X.alloc (.cells #[.int .i64 6, .int .i64 0, .int .i64 0, .string ⟨#[112, 114, 105, 110, 116]⟩, .int .i64 0, .int .i64 2, .int .i64 1, .int .i64 1, .string ⟨#[]⟩, .int .i64 0] 30))) => (show Calls Tryz.prog 14 #[.pointer none, .string ⟨#[112, 99, 97, 108, 108]⟩, .slice (some ⟨m, 0, none⟩) 2 2] (X.alloc (.cells #[.int .i64 6, .int .i64 0, .int .i64 0, .string ⟨#[112, 114, 105, 110, 116]⟩, .int .i64 0, .int .i64 2, .int .i64 1, .int .i64 1, .string ⟨#[]⟩, .int .i64 0] 30)) (ActPost NoF (X.alloc (.cells #[.int .i64 6, .int .i64 0, .int .i64 0, .string ⟨#[112, 114, 105, 110, 116]⟩, .int .i64 0, .int .i64 2, .int .i64 1, .int .i64 1, .string ⟨#[]⟩, .int .i64 0] 30)) 4 0 prV [nV 1] ⟨#[]⟩ 0 1 []) from by subst hm; exact pca_begin _ _ 0 2 2 6 0 0 ⟨#[112, 114, 105, 110, 116]⟩ 0 [nV 1] (vals_two X prV (nV 1)) (by decide) (HSP.out _ (below_next HW4.out hb))))
    have P2 := Lib.hid (fun (X : World) (m : Nat) (hm : m = X.heap.size) (hb : Below w4.heap.size w4 ((X.alloc (.cells #[.int .i64 6, .int .i64 0, .int .i64 0, .string ⟨#[112, 114, 105, 110, 116]⟩, .int .i64 0, .int .i64 2, .int .i64 1, .int .i64 1, .string ⟨#[]⟩, .int .i64 0] 30)).alloc oAc)) => (show Calls Tryz.prog 14 #[.pointer none, .string ⟨#[112, 99, 97, 108, 108]⟩, .slice (some ⟨m, 0, none⟩) 2 2] ((X.alloc (.cells #[.int .i64 6, .int .i64 0, .int .i64 0, .string ⟨#[112, 114, 105, 110, 116]⟩, .int .i64 0, .int .i64 2, .int .i64 1, .int .i64 1, .string ⟨#[]⟩, .int .i64 0] 30)).alloc oAc) (ActPost NoF ((X.alloc (.cells #[.int .i64 6, .int .i64 0, .int .i64 0, .string ⟨#[112, 114, 105, 110, 116]⟩, .int .i64 0, .int .i64 2, .int .i64 1, .int .i64 1, .string ⟨#[]⟩, .int .i64 0] 30)).alloc oAc) 4 0 prV [nV 1] ⟨#[]⟩ 0 1 []) from by subst hm; exact pca_begin _ _ 0 2 2 6 0 0 ⟨#[112, 114, 105, 110, 116]⟩ 0 [nV 1] (Vals.below (vals_two X prV (nV 1)) (below1 _ _)) (by decide) (HSP.out _ (below_next HW4.out hb))))
    have hbR : Below w4.heap.size w4 w4 := Below.refl _ _
    have hbD : Below w4.heap.size w4 w4.drew := (Below.refl _ _).drew
    go_region_held3 (fun w' => w'.cell? ⟨w.heap.size, 0, none⟩ = some (.int .i64 6) ∧ w'.cell? ⟨w.heap.size, 1, none⟩ = some (.int .i64 0) ∧ w'.cell? ⟨w.heap.size, 2, none⟩ = some (.int .i64 0) ∧ w'.cell? ⟨w.heap.size, 3, none⟩ = some (.string ⟨#[112, 114, 105, 110, 116]⟩) ∧ w'.cell? ⟨w.heap.size, 4, none⟩ = some (.int .i64 0) ∧ Hid (Below w4.heap.size w4 w'))
      (first | with_reducible exact SO.out _ (by assumption) | with_reducible exact SO1.out _ _ (by assumption) | with_reducible exact SO1D.out _ _ (by assumption) | with_reducible exact SO2.out _ _ _ (by assumption) | with_reducible exact SO12.out _ _ _ _ _ _ _ _ _ _ _ _ _ _ (by assumption) (by first | with_reducible exact Nat.le_refl _ | with_reducible exact Below.size (by assumption) | omega))
      (first | (go_at_call 9; refine (lnum_x _ _).mono ?_; rintro e nw1 ⟨rfl, hb⟩; have hb1 := below_next (prj5b (by assumption)) hb; have hz1 := hb1.size; (first | (with_reducible have Hz1 := Lib.hid (hkeep hb (heap_newD w4 oAc))) | (with_reducible have Hz1 := Lib.hid (hkeep hb (heap_new w4 oAc))) | skip); clear hb) | (go_at_call 14; (first | (with_reducible refine (P1.out _ _ (by simp) (prj5b (by assumption))).mono ?_) | (with_reducible refine (P2.out _ _ (by simp) (prj5b (by assumption))).mono ?_)); rintro e nw2 ⟨so5, cap5, sk5, ck5, rfl, hrow, -, hm⟩; have hb2 := below_next (prj5b (by assumption)) (mods_below hm); have HR5 := Lib.hid hrow; (first | ((with_reducible have Hz2 := Lib.hid (hkeep (mods_below hm) (heap1_old Hz1.out _))); (obtain ⟨a0, a1, a2, a3, a4, a5, a6, a7, a8, a9, a10, a11⟩ := cells12 Hz2.out); (obtain ⟨f0, f1, f2, f3, f4, f5, f6, f7, f8, f9, f10, f11⟩ := froz12 Hz2.out)) | ((with_reducible have Hz2 := Lib.hid (hkeep (mods_below hm) (heap2_a nw1 oAc _))); (obtain ⟨a0, a1, a2, a3, a4, a5, a6, a7, a8, a9, a10, a11⟩ := cells12 Hz2.out); (obtain ⟨f0, f1, f2, f3, f4, f5, f6, f7, f8, f9, f10, f11⟩ := froz12 Hz2.out)) | ((with_reducible have Hz2 := Lib.hid (hkeep (mods_below hm) (heap2_b nw1 _ oAc))); (obtain ⟨a0, a1, a2, a3, a4, a5, a6, a7, a8, a9, a10, a11⟩ := cells12 Hz2.out); (obtain ⟨f0, f1, f2, f3, f4, f5, f6, f7, f8, f9, f10, f11⟩ := froz12 Hz2.out)) | skip); clear hrow hm))
    · go_wp2_with fail
      go_meet
      exact ⟨nw2.heap.size, so5, cap5, sk5, ck5, rfl, rfl, rfl, rfl, Lib.hid (heap1 nw2 _), Lib.hid (Vals.below (Vals.of_row HR5.out) (below1 _ _)), Lib.hid (hb2.alloc hb2.size _)⟩
    all_goals
      go_wp2_with fail
      go_meet
      exact ⟨_, so5, cap5, sk5, ck5, rfl, rfl, rfl, rfl, Lib.hid (twelve_new Hz2.out _ _ _ _ _ _ _ _ _ _ _ _), Lib.hid (Vals.of_row (row_twelve HR5.out (row_away HR5.out (by simp; try omega)) _ _ _ _ _ _ _ _ _ _ _ _)), Lib.hid (below_twelve hb2 (by omega) _ _ _ _ _ _ _ _ _ _ _ _)⟩
  case rest =>
    obtain ⟨xb, sb, cb, sk, ck, rfl, rfl, rfl, rfl, hxb, hvb, hbx⟩ := hcut
    have HWc := Lib.hid (below_next HW4.out hbx.out)
    have Hfc := Lib.hid (hkeep hbx.out Hf4.out)
    have HAc := Lib.hid (Vals.below HA4.out hbx.out)
    clear Hf0 Hf1 Hf2 Hf3 Hf4 HA4 HW0 HW1 HW2 HW3 HW4 hbx
    go_wp2_with fail
    refine (lstr_x _ _).mono ?_
    rintro e w5 ⟨rfl, hb⟩
    have HC5 := Lib.hid (hb)
    clear hb
    go_wp2_with fail
    refine (lnum_x _ _).mono ?_
    rintro e w6 ⟨rfl, hb⟩
    have HC6 := Lib.hid (below_next HC5.out hb)
    clear hb
    go_wp2_with fail
    refine (ton_base _ _ 0 2 2 [⟨3, 0, 0, ⟨#[102, 102]⟩, 0⟩, nV 16] (vals_two w6 ⟨3, 0, 0, ⟨#[102, 102]⟩, 0⟩ (nV 16)) (by decide) (HSP.out _ (below_next HWc.out (HC6.out.alloc HC6.out.size _))) ⟨#[102, 102]⟩ ⟨#[102, 102]⟩ ⟨#[102, 102]⟩ 16 255 false (by decide) (by decide) rfl rfl (by decide) ff_trim ff_cut ff_dig (by decide) 255 rfl).mono ?_
    rintro e w7 ⟨sc, cc, rfl, hrow, hb⟩
    have HC7 := Lib.hid (below_next (HC6.out.alloc HC6.out.size _) hb)
    have HVc7 := Lib.hid (Vals.of_row hrow)
    clear hb hrow
    go_wp2_with fail
    refine (lstr_x _ _).mono ?_
    rintro e w8 ⟨rfl, hb⟩
    have HC8 := Lib.hid (below_next HC7.out hb)
    have HVc8 := Lib.hid (Vals.below HVc7.out hb)
    clear hb
    go_wp2_with fail
    refine (lnum_x _ _).mono ?_
    rintro e w9 ⟨rfl, hb⟩
    have HC9 := Lib.hid (below_next HC8.out hb)
    have HVc9 := Lib.hid (Vals.below HVc8.out hb)
    clear hb
    go_wp2_with fail
    refine (sel_hash _ _ 0 3 3 [nV 1, V.nil] (vals_lit w9 [strV ⟨#[35]⟩, nV 1, V.nil]) (by decide) (HSP.out _ (below_next HWc.out (HC9.out.alloc HC9.out.size _)))).mono ?_
    rintro e w10 ⟨sd, cd, rfl, hrow, hb⟩
    have HC10 := Lib.hid (below_next (HC9.out.alloc HC9.out.size _) hb)
    have HVc10 := Lib.hid (Vals.below (Vals.below HVc9.out (below1 _ _)) hb)
    have HVd10 := Lib.hid (Vals.of_row hrow)
    clear hb hrow
    go_wp2_with fail
    refine (lstr_x _ _).mono ?_
    rintro e w11 ⟨rfl, hb⟩
    have HC11 := Lib.hid (below_next HC10.out hb)
    have HVc11 := Lib.hid (Vals.below HVc10.out hb)
    have HVd11 := Lib.hid (Vals.below HVd10.out hb)
    clear hb
    go_wp2_with fail
    refine (lstr_x _ _).mono ?_
    rintro e w12 ⟨rfl, hb⟩
    have HC12 := Lib.hid (below_next HC11.out hb)
    have HVc12 := Lib.hid (Vals.below HVc11.out hb)
    have HVd12 := Lib.hid (Vals.below HVd11.out hb)
    clear hb
    go_wp2_with fail
    refine (next_pcall _ _ 2 2 [⟨3, 0, 0, ⟨#[120]⟩, 0⟩, ⟨3, 0, 0, ⟨#[116]⟩, 0⟩] (vals_two w12 ⟨3, 0, 0, ⟨#[120]⟩, 0⟩ ⟨3, 0, 0, ⟨#[116]⟩, 0⟩) (by decide) ⟨3, 0, 0, ⟨#[120]⟩, 0⟩ rfl (HSP.out _ (below_next HWc.out (HC12.out.alloc HC12.out.size _)))).mono ?_
    rintro e w13 ⟨se, ce, rfl, hrow, hb⟩
    have HC13 := Lib.hid (below_next (HC12.out.alloc HC12.out.size _) hb)
    have HVc13 := Lib.hid (Vals.below (Vals.below HVc12.out (below1 _ _)) hb)
    have HVd13 := Lib.hid (Vals.below (Vals.below HVd12.out (below1 _ _)) hb)
    have HVe13 := Lib.hid (Vals.of_row hrow)
    clear hb hrow HVc7 HVc8 HVc9 HVc10 HVc11 HVc12 HVd10 HVd11 HVd12
    go_wp2
    obtain ⟨B, hB⟩ : ∃ B, B = w13.alloc (.cells #[.int .i64 1, .int .i64 0, .int .i64 V.nil.k, .int .i64 V.nil.p, .int .i64 V.nil.q, .string V.nil.s, .int .i64 V.nil.r, .slice se 2 ce, .string ⟨#[]⟩, .int .i64 0, .int .i64 0, .slice none 0 0] 42) := ⟨_, rfl⟩
    rw [← hB]
    have HCB := Lib.hid (show Below wc.heap.size wc B by rw [hB]; exact HC13.out.alloc HC13.out.size _)
    have HeB := Lib.hid (show B.heap[w13.heap.size]? = some (.cells #[.int .i64 1, .int .i64 0, .int .i64 0, .int .i64 0, .int .i64 0, .string ⟨#[]⟩, .int .i64 0, .slice se 2 ce, .string ⟨#[]⟩, .int .i64 0, .int .i64 0, .slice none 0 0] 42) by rw [hB]; exact heap1 _ _)
    have Va := Lib.hid (Vals.below HAc.out HCB.out)
    have Vb := Lib.hid (Vals.below hvb.out HCB.out)
    have Vc := Lib.hid (show Vals B (.slice sc 1 cc) [nV 255] by rw [hB]; exact Vals.below HVc13.out (below1 _ _))
    have Vd := Lib.hid (show Vals B (.slice sd 1 cd) [nV 2] by rw [hB]; exact Vals.below HVd13.out (below1 _ _))
    have Ve := Lib.hid (show Vals B (.slice se 2 ce) [⟨1, 0, 0, ⟨#[]⟩, 0⟩, ⟨3, 0, 0, ⟨#[120]⟩, 0⟩] by rw [hB]; exact Vals.below HVe13.out (below1 _ _))
    have Hx0 := Lib.hid (hkeep HCB.out hxb.out)
    have Hf0 := Lib.hid (hkeep HCB.out Hfc.out)
    have HWB := Lib.hid (below_next HWc.out HCB.out)
    clear hB HC5 HC6 HC7 HC8 HC9 HC10 HC11 HC12 HC13 HVc13 HVd13 HVe13 hxb hvb HAc Hfc
    have SMa := Lib.hid (fun (X : World) (m : Nat) (hm : m = X.heap.size) (hb : Below B.heap.size B (X.alloc (.cells #[.int .i64 2, .int .i64 8, .int .i64 1, .string ⟨#[]⟩, .int .i64 0] 30))) => (show Calls Tryz.prog 10 #[.slice sa 1 ca, .slice (some ⟨m, 0, none⟩) 1 1] (X.alloc (.cells #[.int .i64 2, .int .i64 8, .int .i64 1, .string ⟨#[]⟩, .int .i64 0] 30)) (BoolPost (X.alloc (.cells #[.int .i64 2, .int .i64 8, .int .i64 1, .string ⟨#[]⟩, .int .i64 0] 30)) true) from by subst hm; exact same_true _ _ _ _ _ _ _ [nV 8] (Vals.below Va.out hb) (vals_one X (nV 8)) (by decide)))
    have SMb := Lib.hid (fun (X : World) (m : Nat) (hm : m = X.heap.size) (hb : Below B.heap.size B (X.alloc (.cells #[.int .i64 2, .int .i64 1, .int .i64 1, .string ⟨#[]⟩, .int .i64 0] 30))) => (show Calls Tryz.prog 10 #[.slice sb 1 cb, .slice (some ⟨m, 0, none⟩) 1 1] (X.alloc (.cells #[.int .i64 2, .int .i64 1, .int .i64 1, .string ⟨#[]⟩, .int .i64 0] 30)) (BoolPost (X.alloc (.cells #[.int .i64 2, .int .i64 1, .int .i64 1, .string ⟨#[]⟩, .int .i64 0] 30)) true) from by subst hm; exact same_true _ _ _ _ _ _ _ [nV 1] (Vals.below Vb.out hb) (vals_one X (nV 1)) (by decide)))
    have SMc := Lib.hid (fun (X : World) (m : Nat) (hm : m = X.heap.size) (hb : Below B.heap.size B (X.alloc (.cells #[.int .i64 2, .int .i64 255, .int .i64 1, .string ⟨#[]⟩, .int .i64 0] 30))) => (show Calls Tryz.prog 10 #[.slice sc 1 cc, .slice (some ⟨m, 0, none⟩) 1 1] (X.alloc (.cells #[.int .i64 2, .int .i64 255, .int .i64 1, .string ⟨#[]⟩, .int .i64 0] 30)) (BoolPost (X.alloc (.cells #[.int .i64 2, .int .i64 255, .int .i64 1, .string ⟨#[]⟩, .int .i64 0] 30)) true) from by subst hm; exact same_true _ _ _ _ _ _ _ [nV 255] (Vals.below Vc.out hb) (vals_one X (nV 255)) (by decide)))
    have SMd := Lib.hid (fun (X : World) (m : Nat) (hm : m = X.heap.size) (hb : Below B.heap.size B (X.alloc (.cells #[.int .i64 2, .int .i64 2, .int .i64 1, .string ⟨#[]⟩, .int .i64 0] 30))) => (show Calls Tryz.prog 10 #[.slice sd 1 cd, .slice (some ⟨m, 0, none⟩) 1 1] (X.alloc (.cells #[.int .i64 2, .int .i64 2, .int .i64 1, .string ⟨#[]⟩, .int .i64 0] 30)) (BoolPost (X.alloc (.cells #[.int .i64 2, .int .i64 2, .int .i64 1, .string ⟨#[]⟩, .int .i64 0] 30)) true) from by subst hm; exact same_true _ _ _ _ _ _ _ [nV 2] (Vals.below Vd.out hb) (vals_one X (nV 2)) (by decide)))
    have SMe := Lib.hid (fun (X : World) (m : Nat) (hm : m = X.heap.size) (hb : Below B.heap.size B (X.alloc (.cells #[.int .i64 1, .int .i64 0, .int .i64 0, .string ⟨#[]⟩, .int .i64 0, .int .i64 3, .int .i64 0, .int .i64 0, .string ⟨#[120]⟩, .int .i64 0] 30))) => (show Calls Tryz.prog 10 #[.slice se 2 ce, .slice (some ⟨m, 0, none⟩) 2 2] (X.alloc (.cells #[.int .i64 1, .int .i64 0, .int .i64 0, .string ⟨#[]⟩, .int .i64 0, .int .i64 3, .int .i64 0, .int .i64 0, .string ⟨#[120]⟩, .int .i64 0] 30)) (BoolPost (X.alloc (.cells #[.int .i64 1, .int .i64 0, .int .i64 0, .string ⟨#[]⟩, .int .i64 0, .int .i64 3, .int .i64 0, .int .i64 0, .string ⟨#[120]⟩, .int .i64 0] 30)) true) from by subst hm; exact same_true _ _ _ _ _ _ _ [⟨1, 0, 0, ⟨#[]⟩, 0⟩, ⟨3, 0, 0, ⟨#[120]⟩, 0⟩] (Vals.below Ve.out hb) (vals_two X ⟨1, 0, 0, ⟨#[]⟩, 0⟩ ⟨3, 0, 0, ⟨#[120]⟩, 0⟩) (by decide)))
    have EQF := fun W => eqv_run W prV
    have SO := Lib.hid (fun (W : World) (hb : Below B.heap.size B W) => (show W.cell? ⟨w.heap.size, 0, none⟩ = some (.int .i64 6) ∧ W.cell? ⟨w.heap.size, 1, none⟩ = some (.int .i64 0) ∧ W.cell? ⟨w.heap.size, 2, none⟩ = some (.int .i64 0) ∧ W.cell? ⟨w.heap.size, 3, none⟩ = some (.string ⟨#[112, 114, 105, 110, 116]⟩) ∧ W.cell? ⟨w.heap.size, 4, none⟩ = some (.int .i64 0) ∧ W.cell? ⟨xb, 0, none⟩ = some (.int .i64 4) ∧ W.cell? ⟨xb, 2, none⟩ = some (.int .i64 6) ∧ W.cell? ⟨xb, 3, none⟩ = some (.int .i64 0) ∧ W.cell? ⟨xb, 4, none⟩ = some (.int .i64 0) ∧ W.cell? ⟨xb, 5, none⟩ = some (.string ⟨#[112, 114, 105, 110, 116]⟩) ∧ W.cell? ⟨xb, 6, none⟩ = some (.int .i64 0) ∧ W.cell? ⟨xb, 10, none⟩ = some (.int .i64 1) ∧ W.cell? ⟨xb, 7, none⟩ = some (.slice sb 1 cb) ∧ W.cell? ⟨w13.heap.size, 0, none⟩ = some (.int .i64 1) ∧ W.cell? ⟨w13.heap.size, 7, none⟩ = some (.slice se 2 ce) ∧ Hid (Below B.heap.size B W) from ⟨by rw [cell_of_heap (hkeep hb Hf0.out)]; rfl, by rw [cell_of_heap (hkeep hb Hf0.out)]; rfl, by rw [cell_of_heap (hkeep hb Hf0.out)]; rfl, by rw [cell_of_heap (hkeep hb Hf0.out)]; rfl, by rw [cell_of_heap (hkeep hb Hf0.out)]; rfl, by rw [cell_of_heap (hkeep hb Hx0.out)]; rfl, by rw [cell_of_heap (hkeep hb Hx0.out)]; rfl, by rw [cell_of_heap (hkeep hb Hx0.out)]; rfl, by rw [cell_of_heap (hkeep hb Hx0.out)]; rfl, by rw [cell_of_heap (hkeep hb Hx0.out)]; rfl, by rw [cell_of_heap (hkeep hb Hx0.out)]; rfl, by rw [cell_of_heap (hkeep hb Hx0.out)]; rfl, by rw [cell_of_heap (hkeep hb Hx0.out)]; rfl, by rw [cell_of_heap (hkeep hb HeB.out)]; rfl, by rw [cell_of_heap (hkeep hb HeB.out)]; rfl, Lib.hid hb⟩))
    have SO1 := Lib.hid (fun (W : World) (o : Obj) (hb : Below B.heap.size B W) => SO.out _ (hb.alloc hb.size o))
    have SO1D := Lib.hid (fun (W : World) (o : Obj) (hb : Below B.heap.size B W) => SO.out _ (hb.alloc hb.size o).drew)
    have hbR : Below B.heap.size B B := Below.refl _ _
    have hbD : Below B.heap.size B B.drew := (Below.refl _ _).drew
    go_region_held3 (fun w' => w'.cell? ⟨w.heap.size, 0, none⟩ = some (.int .i64 6) ∧ w'.cell? ⟨w.heap.size, 1, none⟩ = some (.int .i64 0) ∧ w'.cell? ⟨w.heap.size, 2, none⟩ = some (.int .i64 0) ∧ w'.cell? ⟨w.heap.size, 3, none⟩ = some (.string ⟨#[112, 114, 105, 110, 116]⟩) ∧ w'.cell? ⟨w.heap.size, 4, none⟩ = some (.int .i64 0) ∧ w'.cell? ⟨xb, 0, none⟩ = some (.int .i64 4) ∧ w'.cell? ⟨xb, 2, none⟩ = some (.int .i64 6) ∧ w'.cell? ⟨xb, 3, none⟩ = some (.int .i64 0) ∧ w'.cell? ⟨xb, 4, none⟩ = some (.int .i64 0) ∧ w'.cell? ⟨xb, 5, none⟩ = some (.string ⟨#[112, 114, 105, 110, 116]⟩) ∧ w'.cell? ⟨xb, 6, none⟩ = some (.int .i64 0) ∧ w'.cell? ⟨xb, 10, none⟩ = some (.int .i64 1) ∧ w'.cell? ⟨xb, 7, none⟩ = some (.slice sb 1 cb) ∧ w'.cell? ⟨w13.heap.size, 0, none⟩ = some (.int .i64 1) ∧ w'.cell? ⟨w13.heap.size, 7, none⟩ = some (.slice se 2 ce) ∧ Hid (Below B.heap.size B w'))
      (first | with_reducible exact SO.out _ (by assumption) | with_reducible exact SO1.out _ _ (by assumption) | with_reducible exact SO1D.out _ _ (by assumption))
      (first | (go_at_call 9; (with_reducible refine (lnum_x _ _).mono ?_); rintro e nw ⟨rfl, hb⟩; have hbn := below_next (prj15c (by assumption)) hb; clear hb) | (go_at_call 8; (with_reducible refine (lstr_x _ _).mono ?_); rintro e nw ⟨rfl, hb⟩; have hbn := below_next (prj15c (by assumption)) hb; clear hb) | (go_at_call 10; (first | (with_reducible refine (SMa.out _ _ (by simp) (prj15c (by assumption))).mono ?_) | (with_reducible refine (SMb.out _ _ (by simp) (prj15c (by assumption))).mono ?_) | (with_reducible refine (SMc.out _ _ (by simp) (prj15c (by assumption))).mono ?_) | (with_reducible refine (SMd.out _ _ (by simp) (prj15c (by assumption))).mono ?_) | (with_reducible refine (SMe.out _ _ (by simp) (prj15c (by assumption))).mono ?_)); rintro e nw ⟨rfl, hb⟩; have hbn := below_next (prj15c (by assumption)) hb; clear hb))
    go_wp2
    go_ret
    exact bool_done rfl (below_next HWB.out (by assumption))
set_option maxRecDepth 100000 in
set_option maxHeartbeats 2000000 in
theorem selects_long (w : World) (hw : Spaces w) (so : Option Addr) (cap : Nat) (A : List V) (hA : Vals w (.slice so A.length cap) A) (p : Int) (hl : 100 < A.length) :
    Calls Tryz.prog 3 #[.slice so A.length cap, .int .i64 p] w (BoolPost w true) := by
  have hcap : A.length ≤ cap := by obtain ⟨_, _, e, h, _⟩ := hA; injection e with _ _ e; omega
  have HSP := Lib.hid (fun W (hb : Below w.heap.size w W) => Spaces.stays hw hb)
  have HV := Lib.hid (fun W (hb : Below w.heap.size w W) => Vals.below hA hb)
  have HAW := Lib.hid (fun W (hb : Below w.heap.size w W) => awake24_c W (Spaces.stays hw hb))
  have d1 : decide ((A.length : Int) > 100) = true := decide_eq_true (by omega)
  have d2 : (100 : Int) < (A.length : Int) := by omega
  clear hw hA
  go_enter Tryz.func3, Tryz.ntmps3
  go_wp2_with fail
  refine (HAW.out _ (Below.refl _ _)).mono ?_
  rintro e w2 ⟨rfl, hb⟩
  have HW2 := Lib.hid (hb)
  clear hb
  go_wp2
  go_ret
  exact bool_done rfl HW2.out
set_option maxRecDepth 100000 in
set_option maxHeartbeats 2000000 in
theorem selects_wild (w : World) (hw : Spaces w) (so : Option Addr) (cap : Nat) (A : List V) (hA : Vals w (.slice so A.length cap) A) (p : Int) (hl : A.length ≤ 100) (hall : A.all validV = false) :
    Calls Tryz.prog 3 #[.slice so A.length cap, .int .i64 p] w (BoolPost w true) := by
  have hcap : A.length ≤ cap := by obtain ⟨_, _, e, h, _⟩ := hA; injection e with _ _ e; omega
  have HSP := Lib.hid (fun W (hb : Below w.heap.size w W) => Spaces.stays hw hb)
  have HV := Lib.hid (fun W (hb : Below w.heap.size w W) => Vals.below hA hb)
  have HAW := Lib.hid (fun W (hb : Below w.heap.size w W) => awake24_c W (Spaces.stays hw hb))
  have d1 : decide ((A.length : Int) > 100) = false := decide_eq_false (by omega)
  have d2 : (A.length : Int) ≤ 100 := by omega
  have HLV := Lib.hid ((show Calls Tryz.prog 5 #[.slice so A.length cap] w (fun e w' => e = .returned (.bool false) ∧ Below w.heap.size w w') from hall ▸ lvalid_c w so A.length cap A hA (by omega)))
  clear hw hA hall
  go_enter Tryz.func3, Tryz.ntmps3
  go_wp2_with fail
  refine (HLV.out).mono ?_
  rintro e w1 ⟨rfl, hb⟩
  have HW1 := Lib.hid (hb)
  clear hb
  go_wp2_with fail
  refine (HAW.out _ HW1.out).mono ?_
  rintro e w2 ⟨rfl, hb⟩
  have HW2 := Lib.hid (below_next HW1.out hb)
  clear hb
  go_wp2
  go_ret
  exact bool_done rfl HW2.out
set_option maxRecDepth 100000 in
set_option maxHeartbeats 2000000 in
theorem selects_low (w : World) (hw : Spaces w) (so : Option Addr) (cap : Nat) (A : List V) (hA : Vals w (.slice so A.length cap) A) (p : Int) (hl : A.length ≤ 100) (hall : A.all validV = true) (hp : p < -2147483647) :
    Calls Tryz.prog 3 #[.slice so A.length cap, .int .i64 p] w (BoolPost w true) := by
  have hcap : A.length ≤ cap := by obtain ⟨_, _, e, h, _⟩ := hA; injection e with _ _ e; omega
  have HSP := Lib.hid (fun W (hb : Below w.heap.size w W) => Spaces.stays hw hb)
  have HV := Lib.hid (fun W (hb : Below w.heap.size w W) => Vals.below hA hb)
  have HAW := Lib.hid (fun W (hb : Below w.heap.size w W) => awake24_c W (Spaces.stays hw hb))
  have d1 : decide ((A.length : Int) > 100) = false := decide_eq_false (by omega)
  have d2 : (A.length : Int) ≤ 100 := by omega
  have d3 : decide (p < -2147483647) = true := decide_eq_true hp
  have HLV := Lib.hid ((show Calls Tryz.prog 5 #[.slice so A.length cap] w (fun e w' => e = .returned (.bool true) ∧ Below w.heap.size w w') from hall ▸ lvalid_c w so A.length cap A hA (by omega)))
  clear hw hA hall
  go_enter Tryz.func3, Tryz.ntmps3
  go_wp2_with fail
  refine (HLV.out).mono ?_
  rintro e w1 ⟨rfl, hb⟩
  have HW1 := Lib.hid (hb)
  clear hb
  go_wp2_with fail
  refine (HAW.out _ HW1.out).mono ?_
  rintro e w2 ⟨rfl, hb⟩
  have HW2 := Lib.hid (below_next HW1.out hb)
  clear hb
  go_wp2
  go_ret
  exact bool_done rfl HW2.out
set_option maxRecDepth 100000 in
set_option maxHeartbeats 2000000 in
theorem selects_high (w : World) (hw : Spaces w) (so : Option Addr) (cap : Nat) (A : List V) (hA : Vals w (.slice so A.length cap) A) (p : Int) (hl : A.length ≤ 100) (hall : A.all validV = true) (hp : 2147483647 < p) :
    Calls Tryz.prog 3 #[.slice so A.length cap, .int .i64 p] w (BoolPost w true) := by
  have hcap : A.length ≤ cap := by obtain ⟨_, _, e, h, _⟩ := hA; injection e with _ _ e; omega
  have HSP := Lib.hid (fun W (hb : Below w.heap.size w W) => Spaces.stays hw hb)
  have HV := Lib.hid (fun W (hb : Below w.heap.size w W) => Vals.below hA hb)
  have HAW := Lib.hid (fun W (hb : Below w.heap.size w W) => awake24_c W (Spaces.stays hw hb))
  have d1 : decide ((A.length : Int) > 100) = false := decide_eq_false (by omega)
  have d2 : (A.length : Int) ≤ 100 := by omega
  have d3 : decide (p < -2147483647) = false := decide_eq_false (by omega)
  have d4 : decide (p > 2147483647) = true := decide_eq_true hp
  have HLV := Lib.hid ((show Calls Tryz.prog 5 #[.slice so A.length cap] w (fun e w' => e = .returned (.bool true) ∧ Below w.heap.size w w') from hall ▸ lvalid_c w so A.length cap A hA (by omega)))
  clear hw hA hall
  go_enter Tryz.func3, Tryz.ntmps3
  go_wp2_with fail
  refine (HLV.out).mono ?_
  rintro e w1 ⟨rfl, hb⟩
  have HW1 := Lib.hid (hb)
  clear hb
  go_wp2_with fail
  refine (HAW.out _ HW1.out).mono ?_
  rintro e w2 ⟨rfl, hb⟩
  have HW2 := Lib.hid (below_next HW1.out hb)
  clear hb
  go_wp2
  go_ret
  exact bool_done rfl HW2.out
end Go.Proofs.YtalfoihffnlelaaGreatDoor
