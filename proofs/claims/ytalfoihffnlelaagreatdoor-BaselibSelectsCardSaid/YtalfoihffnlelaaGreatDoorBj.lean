import Derived.Test.YtalfoihffnlelaaGreatDoorBSH
set_option linter.unusedVariables false
set_option linter.unusedSimpArgs false
set_option maxRecDepth 100000
set_option maxHeartbeats 2000000
namespace Go.Proofs.YtalfoihffnlelaaGreatDoor
open Go.RowKit Go.Proofs.Lexi
set_option maxRecDepth 100000 in
set_option maxHeartbeats 2000000 in
theorem pTry_c (w : World) (next : Int) (k p q : Int) (s : ByteArray) (r : Int) (so : Option Addr) (n cap : Nat) (A : List V) (hA : Vals w (.slice so n cap) A) (hl : A.length ≤ 1000) (sk : Option Addr) (m ck : Nat) (K : List V) (hK : Vals w (.slice sk m ck) K) (hm : K.length ≤ 1000) :
    Calls Tryz.prog 51 #[.agg #[.int .i64 k, .int .i64 p, .int .i64 q, .string s, .int .i64 r], .slice so n cap, .int .i64 next, .slice sk m ck] w (ActPost NoF w 4 0 ⟨k, p, q, s, r⟩ A ⟨#[]⟩ 0 next K) := by
  have HC := Lib.hid (fun W (hb : Below w.heap.size w W) => pcalled_c W 4 next k p q s r so n cap A (Vals.below hA hb) hl sk m ck K (Vals.below hK hb) hm)
  clear hA hK
  go_enter Tryz.func51, Tryz.ntmps51
  go_wp2_with fail
  refine (HC.out _ (below2w _ _ _)).mono ?_
  rintro e w1 ⟨so1, cap1, sk1, ck1, rfl, hr, hk, hm⟩
  have HR1 := Lib.hid (hr)
  have HK1 := Lib.hid (hk)
  have Ha1 := Lib.hid (hkeep (mods_below hm) (heap2_b w (oV k p q s r) oAc))
  have HW1 := Lib.hid (below_next (below2w _ _ _) (mods_below hm))
  clear hr hk hm
  have hya : w.heap.size + 1 < w1.heap.size := (Array.getElem?_eq_some_iff.1 Ha1.out).1
  obtain ⟨a0, a1, a2, a3, a4, a5, a6, a7, a8, a9, a10, a11⟩ := cells12 Ha1.out
  obtain ⟨fa0, fa1, fa2, fa3, fa4, fa5, fa6, fa7, fa8, fa9, fa10, fa11⟩ := froz12 Ha1.out
  go_wp2
  refine bodyPost_ret (by simp [results, Tryz.results51, go_sem, hya, a0, a1, a2, a3, a4, a5, a6, a7, a8, a9, a10, a11]; first | done | rfl) rfl ?_
  exact act_end HR1.out HK1.out (Mods.of_below HW1.out) (by omega) (by simp) _ _ _ _ _ _ _ _ _ _ _ _
set_option maxRecDepth 100000 in
set_option maxHeartbeats 2000000 in
theorem protected_pcall (w : World) (c : Nat) (nm : ByteArray) (g o n cap : Nat) (k p q : Int) (s : ByteArray) (r : Int) (B : List V) (HC : w.heap[c]? = some (oCl nm (.slice (some ⟨g, o, none⟩) n cap))) (hA : Vals w (.slice (some ⟨g, o, none⟩) n cap) (⟨k, p, q, s, r⟩ :: B)) (hl : B.length ≤ 300) :
    Calls Tryz.prog 45 #[.pointer (some ⟨c, 0, none⟩), .int .i64 17] w (ActPost NoF w 4 0 ⟨k, p, q, s, r⟩ B ⟨#[]⟩ 0 1 []) := by
  have hl1 : ((⟨k, p, q, s, r⟩ : V) :: B).length ≤ 1000 := by rw [List.length_cons]; omega
  have hn : n = B.length + 1 := by obtain ⟨_, _, e, _⟩ := hA; injection e
  have HAF := Lib.hid (fun W (hb : Below w.heap.size w W) => show Calls Tryz.prog 86 #[.pointer (some ⟨c, 0, none⟩), .int .i64 1] W (SliceVals W B) from cAfter_c W c nm g o n cap _ (hkeep hb HC) (Vals.below hA hb) hl1 (by rw [List.length_cons]; omega))
  have HAR := Lib.hid (fun W (hb : Below w.heap.size w W) => show Calls Tryz.prog 41 #[.pointer (some ⟨c, 0, none⟩), .int .i64 1] W (fun e w' => e = .returned (.agg #[.int .i64 k, .int .i64 p, .int .i64 q, .string s, .int .i64 r]) ∧ Below W.heap.size W w') from cArg_c W c nm _ n cap _ (hkeep hb HC) (Vals.below hA hb) hl1 1 0 rfl ⟨k, p, q, s, r⟩ rfl)
  have hc : c < w.heap.size := (Array.getElem?_eq_some_iff.1 HC).1
  have c2 : (w.alloc oAc).cell? ⟨c, 2, none⟩ = some (.slice (some ⟨g, o, none⟩) n cap) := by rw [cell_of_heap (heap1_old HC _)]; rfl
  have hnz : ((n : Int) == 0) = false := beq_eq_false_iff_ne.2 (by omega)
  have hcap : n ≤ cap := by obtain ⟨so, cp, e, h, _⟩ := hA; injection e with e1 e2 e3; omega
  clear HC hA hl1 hn
  go_enter Tryz.func45, Tryz.ntmps45
  go_wp2_with fail
  refine (HAR.out _ (below1 _ _)).mono ?_
  rintro e w1 ⟨rfl, hb⟩
  have Ha1 := Lib.hid (hkeep hb (heap1 w oAc))
  have HW1 := Lib.hid (below_next (below1 _ _) hb)
  clear hb
  go_wp2_with fail
  refine (HAF.out _ HW1.out).mono ?_
  rintro e w2 ⟨g1, o1, cap1, rfl, hv, hb⟩
  have Ha2 := Lib.hid (hkeep hb Ha1.out)
  have HW2 := Lib.hid (below_next HW1.out hb)
  clear hb
  go_wp2_with fail
  refine (pTry_c w2 1 k p q s r _ _ _ B hv (by omega) none 0 0 [] (Vals.nilslice _) (by simp)).mono ?_
  rintro e w3 ⟨so3, cap3, sk3, ck3, rfl, hr, hk, hm⟩
  have HR3 := Lib.hid (hr)
  have HK3 := Lib.hid (hk)
  have Ha3 := Lib.hid (hkeep (mods_below hm) Ha2.out)
  have HW3 := Lib.hid (below_next HW2.out (mods_below hm))
  have hlt := (Array.getElem?_eq_some_iff.1 Ha2.out).1
  clear hr hk hm hv
  have hya : w.heap.size < w3.heap.size := (Array.getElem?_eq_some_iff.1 Ha3.out).1
  obtain ⟨a0, a1, a2, a3, a4, a5, a6, a7, a8, a9, a10, a11⟩ := cells12 Ha3.out
  obtain ⟨fa0, fa1, fa2, fa3, fa4, fa5, fa6, fa7, fa8, fa9, fa10, fa11⟩ := froz12 Ha3.out
  go_wp2
  refine bodyPost_ret (by simp [results, Tryz.results45, go_sem, hya, a0, a1, a2, a3, a4, a5, a6, a7, a8, a9, a10, a11]; first | done | rfl) rfl ?_
  exact act_end HR3.out HK3.out (Mods.of_below HW3.out) (Nat.le_refl _) hlt _ _ _ _ _ _ _ _ _ _ _ _
set_option maxRecDepth 100000 in
set_option maxHeartbeats 2000000 in
theorem control_pcall (w : World) (c : Nat) (nm : ByteArray) (g o n cap : Nat) (k p q : Int) (s : ByteArray) (r : Int) (B : List V) (HC : w.heap[c]? = some (oCl nm (.slice (some ⟨g, o, none⟩) n cap))) (hA : Vals w (.slice (some ⟨g, o, none⟩) n cap) (⟨k, p, q, s, r⟩ :: B)) (hl : B.length ≤ 300) :
    Calls Tryz.prog 21 #[.pointer (some ⟨c, 0, none⟩), .int .i64 17] w (ActPost NoF w 4 0 ⟨k, p, q, s, r⟩ B ⟨#[]⟩ 0 1 []) := by
  have hl1 : ((⟨k, p, q, s, r⟩ : V) :: B).length ≤ 1000 := by rw [List.length_cons]; omega
  have HAR := Lib.hid (fun W (hb : Below w.heap.size w W) => show Calls Tryz.prog 41 #[.pointer (some ⟨c, 0, none⟩), .int .i64 1] W (fun e w' => e = .returned (.agg #[.int .i64 k, .int .i64 p, .int .i64 q, .string s, .int .i64 r]) ∧ Below W.heap.size W w') from cArg_c W c nm _ n cap _ (hkeep hb HC) (Vals.below hA hb) hl1 1 0 rfl ⟨k, p, q, s, r⟩ rfl)
  have HPR := Lib.hid (fun W (hb : Below w.heap.size w W) => protected_pcall W c nm g o n cap k p q s r B (hkeep hb HC) (Vals.below hA hb) hl)
  clear HC hA hl1
  go_enter Tryz.func21, Tryz.ntmps21
  go_wp2_with fail
  refine (HAR.out _ (below1 _ _)).mono ?_
  rintro e w1 ⟨rfl, hb⟩
  have Ha1 := Lib.hid (hkeep hb (heap1 w oAc))
  have HW1 := Lib.hid (below_next (below1 _ _) hb)
  clear hb
  go_wp2_with fail
  refine (HPR.out _ (HW1.out.alloc HW1.out.size _)).mono ?_
  rintro e w2 ⟨so3, cap3, sk3, ck3, rfl, hr, hk, hm⟩
  have HR3 := Lib.hid (hr)
  have HK3 := Lib.hid (hk)
  have Ha3 := Lib.hid (hkeep (mods_below hm) (heap1_old Ha1.out _))
  have HW3 := Lib.hid (below_next (HW1.out.alloc HW1.out.size _) (mods_below hm))
  have hlt := (Array.getElem?_eq_some_iff.1 Ha1.out).1
  clear hr hk hm
  have hya : w.heap.size < w2.heap.size := (Array.getElem?_eq_some_iff.1 Ha3.out).1
  obtain ⟨a0, a1, a2, a3, a4, a5, a6, a7, a8, a9, a10, a11⟩ := cells12 Ha3.out
  obtain ⟨fa0, fa1, fa2, fa3, fa4, fa5, fa6, fa7, fa8, fa9, fa10, fa11⟩ := froz12 Ha3.out
  go_wp2
  refine bodyPost_ret (by simp [results, Tryz.results21, go_sem, hya, a0, a1, a2, a3, a4, a5, a6, a7, a8, a9, a10, a11]; first | done | rfl) rfl ?_
  exact act_end HR3.out HK3.out (Mods.of_below HW3.out) (Nat.le_refl _) (by simp; omega) _ _ _ _ _ _ _ _ _ _ _ _
set_option maxRecDepth 100000 in
set_option maxHeartbeats 2000000 in
theorem plain_pass (w : World) (c : Nat) (F : Nat → Prop) (kind op : Int) (fk fp fq : Int) (fs : ByteArray) (fr : Int) (A : List V) (s : ByteArray) (level next : Int) (K : List V) (hF : ∀ k, w.heap.size ≤ k → ¬ F k)
    (HT : ∀ W, Below w.heap.size w W → Calls Tryz.prog 71 #[.pointer (some ⟨c, 0, none⟩)] W (ActPost F W kind op ⟨fk, fp, fq, fs, fr⟩ A s level next K)) :
    Calls Tryz.prog 23 #[.pointer (some ⟨c, 0, none⟩), .int .i64 23] w (ActPost F w kind op ⟨fk, fp, fq, fs, fr⟩ A s level next K) := by
  have HTT := Lib.hid (HT)
  have HF := Lib.hid (hF)
  clear HT hF
  go_enter Tryz.func23, Tryz.ntmps23
  go_wp2_with fail
  refine (HTT.out _ (below1 _ _)).mono ?_
  rintro e w2 ⟨so3, cap3, sk3, ck3, rfl, hr, hk, hm⟩
  have HR3 := Lib.hid (hr)
  have HK3 := Lib.hid (hk)
  have Ha3 := Lib.hid (mkeep hm (heap1 w oAc) (HF.out _ (Nat.le_refl _)))
  have HW3 := Lib.hid (Mods.trans (Mods.of_below (below1 _ _)) hm)
  clear hr hk hm
  have hya : w.heap.size < w2.heap.size := (Array.getElem?_eq_some_iff.1 Ha3.out).1
  obtain ⟨a0, a1, a2, a3, a4, a5, a6, a7, a8, a9, a10, a11⟩ := cells12 Ha3.out
  obtain ⟨fa0, fa1, fa2, fa3, fa4, fa5, fa6, fa7, fa8, fa9, fa10, fa11⟩ := froz12 Ha3.out
  go_wp2
  refine bodyPost_ret (by simp [results, Tryz.results23, go_sem, hya, a0, a1, a2, a3, a4, a5, a6, a7, a8, a9, a10, a11]; first | done | rfl) rfl ?_
  exact act_end HR3.out HK3.out HW3.out (Nat.le_refl _) (by simp) _ _ _ _ _ _ _ _ _ _ _ _
set_option maxRecDepth 100000 in
set_option maxHeartbeats 2000000 in
theorem plain_tonum (w : World) (c : Nat) (F : Nat → Prop) (kind op : Int) (fk fp fq : Int) (fs : ByteArray) (fr : Int) (A : List V) (s : ByteArray) (level next : Int) (K : List V) (hF : ∀ k, w.heap.size ≤ k → ¬ F k)
    (HT : ∀ W, Below w.heap.size w W → Calls Tryz.prog 67 #[.pointer (some ⟨c, 0, none⟩)] W (ActPost F W kind op ⟨fk, fp, fq, fs, fr⟩ A s level next K)) :
    Calls Tryz.prog 23 #[.pointer (some ⟨c, 0, none⟩), .int .i64 25] w (ActPost F w kind op ⟨fk, fp, fq, fs, fr⟩ A s level next K) := by
  have HTT := Lib.hid (HT)
  have HF := Lib.hid (hF)
  clear HT hF
  go_enter Tryz.func23, Tryz.ntmps23
  go_wp2_with fail
  refine (HTT.out _ (below1 _ _)).mono ?_
  rintro e w2 ⟨so3, cap3, sk3, ck3, rfl, hr, hk, hm⟩
  have HR3 := Lib.hid (hr)
  have HK3 := Lib.hid (hk)
  have Ha3 := Lib.hid (mkeep hm (heap1 w oAc) (HF.out _ (Nat.le_refl _)))
  have HW3 := Lib.hid (Mods.trans (Mods.of_below (below1 _ _)) hm)
  clear hr hk hm
  have hya : w.heap.size < w2.heap.size := (Array.getElem?_eq_some_iff.1 Ha3.out).1
  obtain ⟨a0, a1, a2, a3, a4, a5, a6, a7, a8, a9, a10, a11⟩ := cells12 Ha3.out
  obtain ⟨fa0, fa1, fa2, fa3, fa4, fa5, fa6, fa7, fa8, fa9, fa10, fa11⟩ := froz12 Ha3.out
  go_wp2
  refine bodyPost_ret (by simp [results, Tryz.results23, go_sem, hya, a0, a1, a2, a3, a4, a5, a6, a7, a8, a9, a10, a11]; first | done | rfl) rfl ?_
  exact act_end HR3.out HK3.out HW3.out (Nat.le_refl _) (by simp) _ _ _ _ _ _ _ _ _ _ _ _
end Go.Proofs.YtalfoihffnlelaaGreatDoor
