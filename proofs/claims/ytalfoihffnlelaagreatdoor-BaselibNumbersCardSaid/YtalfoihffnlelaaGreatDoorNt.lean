import Derived.Test.YtalfoihffnlelaaGreatDoorNumS
set_option linter.unusedVariables false
set_option linter.unusedSimpArgs false
set_option maxRecDepth 100000
set_option maxHeartbeats 2000000
namespace Go.Proofs.YtalfoihffnlelaaGreatDoor
open Go.RowKit Go.Proofs.Lexi
set_option maxRecDepth 100000 in
set_option maxHeartbeats 2000000 in
theorem find_none0 (w : World) (k p q : Int) (s : ByteArray) (r : Int) : Calls Tryz.prog 124 #[.pointer none, .agg #[.int .i64 k, .int .i64 p, .int .i64 q, .string s, .int .i64 r]] w (PtrPost w (.pointer none)) := by
  go_enter Tryz.func124, Tryz.ntmps124
  go_wp2
  go_ret
  exact ⟨rfl, below1 _ _⟩
theorem meta_none0 (w : World) (k p q : Int) (s : ByteArray) (r : Int) : Calls Tryz.prog 89 #[.pointer none, .agg #[.int .i64 k, .int .i64 p, .int .i64 q, .string s, .int .i64 r]] w (ValPost w V.nil) :=
  pMeta_none w (.pointer none) k p q s r (fun W _ => find_none0 W k p q s r)
theorem hand_none0 (w : World) (k p q : Int) (s : ByteArray) (r : Int) (x : ByteArray) : Calls Tryz.prog 99 #[.pointer none, .agg #[.int .i64 k, .int .i64 p, .int .i64 q, .string s, .int .i64 r], .string x] w (fun e w' => e = .returned (.agg #[.int .i64 0, .int .i64 0, .int .i64 0, .string ⟨#[]⟩, .int .i64 0]) ∧ Below w.heap.size w w') :=
  pHand_nil w (.pointer none) k p q s r x 0 0 0 ⟨#[]⟩ 0 rfl (fun W _ => meta_none0 W k p q s r)
set_option maxRecDepth 100000 in
set_option maxHeartbeats 2000000 in
theorem name_none0 (w : World) (k p q : Int) (s : ByteArray) (r : Int) : Calls Tryz.prog 104 #[.pointer none, .agg #[.int .i64 k, .int .i64 p, .int .i64 q, .string s, .int .i64 r]] w (fun e w' => e = .returned (.tuple #[.string ⟨#[]⟩, .bool false]) ∧ Below w.heap.size w w') := by
  have HF := Lib.hid (fun W => find_none0 W k p q s r)
  go_enter Tryz.func104, Tryz.ntmps104
  go_wp2_with fail
  refine (HF.out _).mono ?_
  rintro e w1 ⟨rfl, hb⟩
  have HW1 := Lib.hid (below_next (below1 _ _) hb)
  clear hb
  go_wp2
  go_ret2
  exact ⟨rfl, HW1.out⟩
set_option maxRecDepth 100000 in
set_option maxHeartbeats 2000000 in
theorem vText_num (w : World) (p q : Int) (s : ByteArray) (r : Int) (ht : Pow10 w) : Calls Tryz.prog 103 #[.agg #[.int .i64 2, .int .i64 p, .int .i64 q, .string s, .int .i64 r]] w (fun e w' => e = .returned (.string (textB (p, q))) ∧ Below w.heap.size w w') := by
  have HT := Lib.hid (fun W (hb : Below w.heap.size w W) => (show Calls Tryz.prog 88 #[.agg #[.int .i64 p, .int .i64 q]] W (fun e w' => e = .returned (.string (textB (p, q))) ∧ Below W.heap.size W w') from ptext_c W p q (ht.stays hb)))
  clear ht
  go_enter Tryz.func103, Tryz.ntmps103
  go_wp2_with fail
  refine (HT.out _ (below1 _ _)).mono ?_
  rintro e w1 ⟨rfl, hb⟩
  have HW1 := Lib.hid (below_next (below1 _ _) hb)
  clear hb
  go_wp2
  go_ret
  exact ⟨rfl, HW1.out⟩
set_option maxRecDepth 100000 in
set_option maxHeartbeats 2000000 in
theorem mText_nil (w : World) (k p q : Int) (s : ByteArray) (r : Int) (X : ByteArray) (hX : X.size ≤ 4096)
    (HT : ∀ W, Below w.heap.size w W → Calls Tryz.prog 103 #[.agg #[.int .i64 k, .int .i64 p, .int .i64 q, .string s, .int .i64 r]] W (fun e w' => e = .returned (.string X) ∧ Below W.heap.size W w')) :
    Calls Tryz.prog 66 #[.pointer none, .agg #[.int .i64 k, .int .i64 p, .int .i64 q, .string s, .int .i64 r]] w (NdPost w (ndVal (strV X))) := by
  have HTT := Lib.hid (HT)
  have HH := Lib.hid (fun W x => hand_none0 W k p q s r x)
  have HN := Lib.hid (fun W => name_none0 W k p q s r)
  have HO := Lib.hid (fun W => (show Calls Tryz.prog 40 #[.string X] W (fun e w' => e = .returned (.agg #[.int .i64 3, .int .i64 0, .int .i64 0, .string X, .int .i64 0]) ∧ Below W.heap.size W w') from pOfString_c W X))
  have HG := Lib.hid (fun W => pmIs_c W 3 0 0 X 0)
  have hX2 : (X.size : Int) ≤ 4096 := by omega
  have hmin : min (X.size : Int) 4096 = X.size := by omega
  clear HT hX
  go_enter Tryz.func66, Tryz.ntmps66
  go_wp2_with fail
  refine (HH.out _ _).mono ?_
  rintro e w1 ⟨rfl, hb⟩
  have Hv1 := Lib.hid (hkeep hb (heap2_a w (oV k p q s r) oNd))
  have Ha1 := Lib.hid (hkeep hb (heap2_b w (oV k p q s r) oNd))
  have HW1 := Lib.hid (below_next (below2w _ _ _) hb)
  clear hb
  have hz1 := (Array.getElem?_eq_some_iff.1 Hv1.out).1
  obtain ⟨v0, v1, v2, v3, v4⟩ := cells5 (heap1_old Hv1.out (oV 0 0 0 ⟨#[]⟩ 0))
  go_wp2_with fail
  refine (HTT.out _ (HW1.out.alloc HW1.out.size _)).mono ?_
  rintro e w2 ⟨rfl, hb⟩
  have Hv2 := Lib.hid (hkeep hb (heap1_old Hv1.out _))
  have Ha2 := Lib.hid (hkeep hb (heap1_old Ha1.out _))
  have HW2 := Lib.hid (below_next (HW1.out.alloc HW1.out.size _) hb)
  clear hb v0 v1 v2 v3 v4
  obtain ⟨v0, v1, v2, v3, v4⟩ := cells5 Hv2.out
  go_wp2_with fail
  refine (HN.out _).mono ?_
  rintro e w3 ⟨rfl, hb⟩
  have Hv3 := Lib.hid (hkeep hb Hv2.out)
  have Ha3 := Lib.hid (hkeep hb Ha2.out)
  have HW3 := Lib.hid (below_next HW2.out hb)
  clear hb v0 v1 v2 v3 v4
  obtain ⟨v0, v1, v2, v3, v4⟩ := cells5 Hv3.out
  go_wp2_with fail
  refine (HH.out _ _).mono ?_
  rintro e w4 ⟨rfl, hb⟩
  have Ha4 := Lib.hid (hkeep hb Ha3.out)
  have HW4 := Lib.hid (below_next HW3.out hb)
  clear hb v0 v1 v2 v3 v4
  go_wp2_with fail
  refine (HO.out _).mono ?_
  rintro e w5 ⟨rfl, hb⟩
  have Ha5 := Lib.hid (hkeep hb (heap1_old Ha4.out _))
  have HW5 := Lib.hid (below_next (HW4.out.alloc HW4.out.size _) hb)
  clear hb
  go_wp2_with fail
  refine (HG.out _).mono ?_
  rintro e w6 ⟨av, rfl, hA, hb⟩
  rcases hA with ⟨_, rfl⟩ | ⟨_, _, _, h, _⟩
  · have Ha6 := Lib.hid (hkeep hb Ha5.out)
    have HW6 := Lib.hid (below_next HW5.out hb)
    clear hb
    have hya : w.heap.size + 1 < w6.heap.size := (Array.getElem?_eq_some_iff.1 Ha6.out).1
    obtain ⟨a0, a1, a2, a3, a4, a5, a6, a7, a8, a9, a10, a11, a12, a13⟩ := cells14 Ha6.out
    obtain ⟨f0, f1, f2, f3, f4, f5, f6, f7, f8, f9, f10, f11, f12, f13⟩ := froz14 Ha6.out
    go_wp2
    refine bodyPost_ret (by simp [results, Tryz.results66, go_sem, hya, a0, a1, a2, a3, a4, a5, a6, a7, a8, a9, a10, a11, a12, a13]; first | done | rfl) rfl ?_
    exact ⟨.slice none 0 0, rfl, .inl ⟨rfl, rfl⟩, below_fourteen HW6.out (by omega) _ _ _ _ _ _ _ _ _ _ _ _ _ _⟩
  · cases h
set_option maxRecDepth 100000 in
set_option maxHeartbeats 2000000 in
theorem pNeed_val (w : World) (k p q : Int) (s : ByteArray) (r next : Int) : Calls Tryz.prog 65 #[ndV (ndVal ⟨k, p, q, s, r⟩) (.slice none 0 0), .int .i64 next, .slice none 0 0] w (RetPost w [⟨k, p, q, s, r⟩]) := by
  have HR := Lib.hid (fun (W : World) (m : Nat) (hm : m = W.heap.size) => pReturn_c (W.alloc (.cells #[.int .i64 k, .int .i64 p, .int .i64 q, .string s, .int .i64 r] 30)) (some ⟨m, 0, none⟩) 1 1 [⟨k, p, q, s, r⟩] (by subst hm; exact vals_one W ⟨k, p, q, s, r⟩) (by simp))
  go_enter Tryz.func65, Tryz.ntmps65
  go_wp2_with fail
  refine (HR.out _ _ (by simp)).mono ?_
  rintro e w1 ⟨so1, cap1, rfl, hrow, hb⟩
  have HR1 := Lib.hid (hrow)
  have Ha1 := Lib.hid (hkeep hb (heap1_old (heap2_b w _ oAc) _))
  have HW1 := Lib.hid (below_next ((below2w _ _ _).alloc (by simp; omega) _) hb)
  clear hb hrow
  have hya : w.heap.size + 1 < w1.heap.size := (Array.getElem?_eq_some_iff.1 Ha1.out).1
  obtain ⟨a0, a1, a2, a3, a4, a5, a6, a7, a8, a9, a10, a11⟩ := cells12 Ha1.out
  obtain ⟨fa0, fa1, fa2, fa3, fa4, fa5, fa6, fa7, fa8, fa9, fa10, fa11⟩ := froz12 Ha1.out
  go_wp2
  refine bodyPost_ret (by simp [results, Tryz.results65, go_sem, hya, a0, a1, a2, a3, a4, a5, a6, a7, a8, a9, a10, a11]; first | done | rfl) rfl ?_
  refine ⟨so1, cap1, rfl, ownsRow_base (row_twelve HR1.out (row_away HR1.out (by simp)) _ _ _ _ _ _ _ _ _ _ _ _) (by simp; try omega), below_twelve HW1.out (by omega) _ _ _ _ _ _ _ _ _ _ _ _⟩
set_option maxRecDepth 100000 in
set_option maxHeartbeats 2000000 in
theorem pArg_out (w : World) (so : Option Addr) (n cap : Nat) (j : Int) (hj : (n : Int) ≤ j) : Calls Tryz.prog 24 #[.slice so n cap, .int .i64 j] w (fun e w' => e = .returned (.agg #[.int .i64 0, .int .i64 0, .int .i64 0, .string ⟨#[]⟩, .int .i64 0]) ∧ Below w.heap.size w w') := by
  have d0 : decide (j < 0) = false := decide_eq_false (by omega)
  have d1 : decide (j ≥ (n : Int)) = true := decide_eq_true (by omega)
  have d2 : decide ((n : Int) ≤ j) = true := decide_eq_true (by omega)
  go_enter Tryz.func24, Tryz.ntmps24
  go_wp2
  refine bodyPost_ret (by simp [results, Tryz.results24, go_sem]; first | done | rfl) rfl ?_
  exact ⟨rfl, below1 _ _⟩
set_option maxRecDepth 100000 in
set_option maxHeartbeats 2000000 in
theorem cArg_out (w : World) (c : Nat) (nm : ByteArray) (so : Option Addr) (n cap : Nat) (HC : w.heap[c]? = some (oCl nm (.slice so n cap))) (k : Int) (hk : (n : Int) ≤ k - 1) (hkb : k ≤ 1000) :
    Calls Tryz.prog 41 #[.pointer (some ⟨c, 0, none⟩), .int .i64 k] w (fun e w' => e = .returned (.agg #[.int .i64 0, .int .i64 0, .int .i64 0, .string ⟨#[]⟩, .int .i64 0]) ∧ Below w.heap.size w w') := by
  have hc : c < w.heap.size := (Array.getElem?_eq_some_iff.1 HC).1
  have c2 : (w.alloc (oV 0 0 0 ⟨#[]⟩ 0)).cell? ⟨c, 2, none⟩ = some (.slice so n cap) := by rw [cell_of_heap (heap1_old HC _)]; rfl
  have HP := Lib.hid (fun W => pArg_out W so n cap (k - 1) hk)
  have hk1 : 0 ≤ k := by omega
  clear HC
  go_enter Tryz.func41, Tryz.ntmps41
  go_wp2_with fail
  refine (HP.out _).mono ?_
  rintro e w1 ⟨rfl, hb⟩
  have Ha1 := Lib.hid (hkeep hb (heap1 w (oV 0 0 0 ⟨#[]⟩ 0)))
  have HW1 := Lib.hid (below_next (below1 _ _) hb)
  clear hb
  have hya : w.heap.size < w1.heap.size := (Array.getElem?_eq_some_iff.1 Ha1.out).1
  obtain ⟨a0, a1, a2, a3, a4⟩ := cells5 Ha1.out
  obtain ⟨fa0, fa1, fa2, fa3, fa4⟩ := froz5 Ha1.out
  go_wp2
  refine bodyPost_ret (by simp [results, Tryz.results41, go_sem, hya, a0, a1, a2, a3, a4]; first | done | rfl) rfl ?_
  exact ⟨rfl, below_five HW1.out (Nat.le_refl _) _ _ _ _ _⟩
set_option maxRecDepth 100000 in
set_option maxHeartbeats 2000000 in
theorem plain_tostring (w : World) (c : Nat) (nm : ByteArray) (so : Option Addr) (n cap : Nat) (A : List V) (HC : w.heap[c]? = some (oCl nm (.slice so n cap))) (hA : Vals w (.slice so n cap) A) (hl : A.length ≤ 1000) (k p q : Int) (s : ByteArray) (r : Int) (h0 : A[0]? = some ⟨k, p, q, s, r⟩)
    (X : ByteArray) (hX : X.size ≤ 4096) (HT : ∀ W, Below w.heap.size w W → Calls Tryz.prog 103 #[.agg #[.int .i64 k, .int .i64 p, .int .i64 q, .string s, .int .i64 r]] W (fun e w' => e = .returned (.string X) ∧ Below W.heap.size W w')) :
    Calls Tryz.prog 23 #[.pointer (some ⟨c, 0, none⟩), .int .i64 26] w (RetPost w [strV X]) := by
  have HAR := Lib.hid (fun W (hb : Below w.heap.size w W) => show Calls Tryz.prog 41 #[.pointer (some ⟨c, 0, none⟩), .int .i64 1] W (fun e w' => e = .returned (.agg #[.int .i64 k, .int .i64 p, .int .i64 q, .string s, .int .i64 r]) ∧ Below W.heap.size W w') from cArg_c W c nm so n cap A (hkeep hb HC) (Vals.below hA hb) hl 1 0 rfl ⟨k, p, q, s, r⟩ h0)
  have HM := Lib.hid (fun W (hb : Below w.heap.size w W) => mText_nil W k p q s r X hX (fun W2 hb2 => HT W2 (below_next hb hb2)))
  have hc : c < w.heap.size := (Array.getElem?_eq_some_iff.1 HC).1
  have HCC := Lib.hid (HC)
  clear HC hA h0 HT hX
  go_enter Tryz.func23, Tryz.ntmps23
  go_wp2
  obtain ⟨B, hB⟩ : ∃ B, B = w.alloc oAc := ⟨_, rfl⟩
  rw [← hB]
  have HW0 := Lib.hid (show Below w.heap.size w B by rw [hB]; exact below1 _ _)
  have Hc0 := Lib.hid (show B.heap[c]? = some (oCl nm (.slice so n cap)) by rw [hB]; exact heap1_old HCC.out _)
  have Ha0 := Lib.hid (show B.heap[w.heap.size]? = some oAc by rw [hB]; exact heap1 _ _)
  clear hB
  have SO := Lib.hid (fun (W : World) (hb : Mods (fun k => k = w.heap.size) B W) => (show W.cell? ⟨c, 0, none⟩ = some (.pointer none) ∧ Hid (Mods (fun k => k = w.heap.size) B W) from ⟨(cells16 (mkeep hb Hc0.out (by omega))).1, Lib.hid hb⟩))
  have SO12 := Lib.hid (fun (W : World) (c0 c1 c2 c3 c4 c5 c6 c7 c8 c9 c10 c11 : Value) (hb : Mods (fun k => k = w.heap.size) B W) => SO.out _ (mods_twelve hb (.inl rfl) 0 1 2 3 4 5 6 7 8 9 10 11 c0 c1 c2 c3 c4 c5 c6 c7 c8 c9 c10 c11))
  have TO := Lib.hid (fun (W : World) (hb : Mods (fun k => k = w.heap.size) B W) => (show Below w.heap.size w W from Mods.below (Mods.trans (Mods.of_below HW0.out) hb) (Nat.le_refl _) (fun k hk h => by omega)))
  have hbR : Mods (fun k => k = w.heap.size) B B := Mods.refl _ _
  have hbD : Mods (fun k => k = w.heap.size) B B.drew := Mods.of_below (Below.refl _ _).drew
  go_region_held3 (fun w' => w'.cell? ⟨c, 0, none⟩ = some (.pointer none) ∧ Hid (Mods (fun k => k = w.heap.size) B w'))
    (first | with_reducible exact SO.out _ (by assumption) | with_reducible exact SO12.out _ _ _ _ _ _ _ _ _ _ _ _ _ (by assumption))
    (first | (go_at_call 41; (with_reducible refine (HAR.out _ (TO.out _ (prj1a (by assumption)))).mono ?_); rintro e w1 ⟨rfl, hb⟩; have hb1 := mods_next (prj1a (by assumption)) hb; have HA1 := Lib.hid (hkeep hb Ha0.out); clear hb) | (go_at_call 66; (with_reducible refine (HM.out _ (TO.out _ (prj1a (by assumption)))).mono ?_); rintro e w2 ⟨av, rfl, hA, hb⟩; obtain rfl : av = .slice none 0 0 := args_none hA; have hb2 := mods_next (prj1a (by assumption)) hb; have HA2 := Lib.hid (hkeep hb HA1.out); clear hb hA) | (go_at_call 65; refine (pNeed_val _ 3 0 0 X 0 1).mono ?_; rintro e w3 ⟨so3, cap3, rfl, hrow, hb⟩; have hb3 := mods_next (prj1a (by assumption)) hb; have HR3 := Lib.hid hrow; have HA3 := Lib.hid (hkeep hb HA2.out); (obtain ⟨a0, a1, a2, a3, a4, a5, a6, a7, a8, a9, a10, a11⟩ := cells12 HA3.out); (obtain ⟨fa0, fa1, fa2, fa3, fa4, fa5, fa6, fa7, fa8, fa9, fa10, fa11⟩ := froz12 HA3.out); clear hb hrow))
  have hz := HW0.out.size
  have hzb := (Array.getElem?_eq_some_iff.1 Ha0.out).1
  have hz1 := hb1.size
  have hz2 := hb2.size
  have hya : w.heap.size < w3.heap.size := (Array.getElem?_eq_some_iff.1 HA3.out).1
  go_wp2
  refine bodyPost_ret (by simp [results, Tryz.results23, go_sem, hya, a0, a1, a2, a3, a4, a5, a6, a7, a8, a9, a10, a11]; first | done | rfl) rfl ?_
  exact ⟨so3, cap3, rfl, ownsRow_base (row_twelve HR3.out (row_away HR3.out (by omega)) _ _ _ _ _ _ _ _ _ _ _ _) (by omega), below_twelve (TO.out _ hb3) (Nat.le_refl _) _ _ _ _ _ _ _ _ _ _ _ _⟩
set_option maxRecDepth 100000 in
set_option maxHeartbeats 2000000 in
theorem tonum_str (w : World) (c : Nat) (nm : ByteArray) (so : Option Addr) (n cap : Nat) (A : List V) (HC : w.heap[c]? = some (oCl nm (.slice so n cap))) (hA : Vals w (.slice so n cap) A) (hl : A.length ≤ 1000) (hn : (n : Int) ≤ 1)
    (s : ByteArray) (p q : Int) (h0 : A[0]? = some ⟨3, 0, 0, s, 0⟩)
    (HN : ∀ W, Below w.heap.size w W → Calls Tryz.prog 84 #[.agg #[.int .i64 3, .int .i64 0, .int .i64 0, .string s, .int .i64 0]] W (fun e w' => e = .returned (.tuple #[.agg #[.int .i64 p, .int .i64 q], .int .i64 0]) ∧ Below W.heap.size W w'))
    (HO : ∀ W, Calls Tryz.prog 106 #[.agg #[.int .i64 p, .int .i64 q]] W (fun e w' => e = .returned (.agg #[.int .i64 2, .int .i64 p, .int .i64 q, .string ⟨#[]⟩, .int .i64 0]) ∧ Below W.heap.size W w')) :
    Calls Tryz.prog 67 #[.pointer (some ⟨c, 0, none⟩)] w (RetPost w [⟨2, p, q, ⟨#[]⟩, 0⟩]) := by
  have HA1 := Lib.hid (fun W (hb : Below w.heap.size w W) => show Calls Tryz.prog 41 #[.pointer (some ⟨c, 0, none⟩), .int .i64 1] W (fun e w' => e = .returned (.agg #[.int .i64 3, .int .i64 0, .int .i64 0, .string s, .int .i64 0]) ∧ Below W.heap.size W w') from cArg_c W c nm so n cap A (hkeep hb HC) (Vals.below hA hb) hl 1 0 rfl ⟨3, 0, 0, s, 0⟩ h0)
  have HA2 := Lib.hid (fun W (hb : Below w.heap.size w W) => cArg_out W c nm so n cap (hkeep hb HC) 2 (by omega) (by decide))
  have HGI := Lib.hid (fun W (hb : Below w.heap.size w W) so n' cap' (A' : List V) (hA' : Vals W (.slice so n' cap') A') (hl' : A'.length ≤ 1000) => cGive_c W c nm _ (hkeep hb HC) so n' cap' A' hA' hl')
  have HNN := Lib.hid (HN)
  have HOO := Lib.hid (HO)
  have hc : c < w.heap.size := (Array.getElem?_eq_some_iff.1 HC).1
  have FD := fun W => field0_run W (.int .i64 0) (.int .i64 0) (.int .i64 0) (.string ⟨#[]⟩) (.int .i64 0)
  clear HC hA h0 HN HO hn
  go_enter Tryz.func67, Tryz.ntmps67
  go_wp2_with fail
  refine (HA1.out _ (below1 _ _)).mono ?_
  rintro e w1 ⟨rfl, hb⟩
  have Ha1 := Lib.hid (hkeep hb (heap1 w oAc))
  have HW1 := Lib.hid (below_next (below1 _ _) hb)
  clear hb
  go_wp2_with fail
  refine (HA2.out _ (HW1.out.alloc HW1.out.size _)).mono ?_
  rintro e w2 ⟨rfl, hb⟩
  have Ha2 := Lib.hid (hkeep hb (heap1_old Ha1.out _))
  have Hv2 := Lib.hid (hkeep hb (heap1 w1 (oV 3 0 0 s 0)))
  have HW2 := Lib.hid (below_next (HW1.out.alloc HW1.out.size _) hb)
  clear hb
  obtain ⟨v0, v1, v2, v3, v4⟩ := cells5 Hv2.out
  obtain ⟨fv0, fv1, fv2, fv3, fv4⟩ := froz5 Hv2.out
  go_wp2_with fail
  refine (HNN.out _ HW2.out).mono ?_
  rintro e w3 ⟨rfl, hb⟩
  have Ha3 := Lib.hid (hkeep hb Ha2.out)
  have HW3 := Lib.hid (below_next HW2.out hb)
  clear hb v0 v1 v2 v3 v4 fv0 fv1 fv2 fv3 fv4
  go_wp2_with fail
  refine (HOO.out _).mono ?_
  rintro e w4 ⟨rfl, hb⟩
  have Ha4 := Lib.hid (hkeep hb (heap1_old Ha3.out _))
  have HW4 := Lib.hid (below_next (HW3.out.alloc HW3.out.size _) hb)
  clear hb
  go_wp2_with fail
  refine (HGI.out _ (HW4.out.alloc HW4.out.size _) _ _ _ [⟨2, p, q, ⟨#[]⟩, 0⟩] (vals_one w4 ⟨2, p, q, ⟨#[]⟩, 0⟩) (by simp)).mono ?_
  rintro e w8 ⟨so8, cap8, rfl, hrow, hb⟩
  have HR8 := Lib.hid (hrow)
  have Ha8 := Lib.hid (hkeep hb (heap1_old Ha4.out _))
  have HW8 := Lib.hid (below_next (HW4.out.alloc HW4.out.size _) hb)
  have hlt := (Array.getElem?_eq_some_iff.1 Ha4.out).1
  clear hb hrow
  have hya : w.heap.size < w8.heap.size := (Array.getElem?_eq_some_iff.1 Ha8.out).1
  obtain ⟨a0, a1, a2, a3, a4, a5, a6, a7, a8, a9, a10, a11⟩ := cells12 Ha8.out
  obtain ⟨fa0, fa1, fa2, fa3, fa4, fa5, fa6, fa7, fa8, fa9, fa10, fa11⟩ := froz12 Ha8.out
  go_wp2
  refine bodyPost_ret (by simp [results, Tryz.results67, go_sem, hya, a0, a1, a2, a3, a4, a5, a6, a7, a8, a9, a10, a11]; first | done | rfl) rfl ?_
  refine ⟨so8, cap8, rfl, ownsRow_base (row_twelve HR8.out (row_away HR8.out (by simp; omega)) _ _ _ _ _ _ _ _ _ _ _ _) (by simp; omega), below_twelve HW8.out (Nat.le_refl _) _ _ _ _ _ _ _ _ _ _ _ _⟩
theorem tos_num (w : World) (g o n cap : Nat) (A : List V) (hA : Vals w (.slice (some ⟨g, o, none⟩) n cap) A) (hl : A.length ≤ 1000) (hw : Spaces w) (ht : Pow10 w) (p q : Int) (s : ByteArray) (r : Int) (h0 : A[0]? = some ⟨2, p, q, s, r⟩) (hX : (textB (p, q)).size ≤ 4096) :
    Calls Tryz.prog 7 #[.pointer none, .string tosN, .slice (some ⟨g, o, none⟩) n cap] w (ResB w [strV (textB (p, q))] true) :=
  results_act w tosN _ n cap 1 0 true rfl 0 0 0 ⟨#[]⟩ 0 _ ⟨#[]⟩ 0 0 []
    (begin_plain w tosN _ n cap 26 (by decide) tosN_last (by decide) at_tostring hw 1 0 0 0 0 ⟨#[]⟩ 0 _ ⟨#[]⟩ 0 0 []
      (fun W c hb hc hge => (plain_tostring W c tosN _ n cap A hc (Vals.below hA hb) hl 2 p q s r h0 (textB (p, q)) hX (fun W2 hb2 => vText_num W2 p q s r (ht.stays (below_next hb hb2)))).mono (fun _ _ h => act_of_ret h)))
theorem ton_str (w : World) (g o n cap : Nat) (A : List V) (hA : Vals w (.slice (some ⟨g, o, none⟩) n cap) A) (hl : A.length ≤ 1000) (hn : (n : Int) ≤ 1) (hw : Spaces w)
    (s : ByteArray) (p q : Int) (h0 : A[0]? = some ⟨3, 0, 0, s, 0⟩)
    (HN : ∀ W, Below w.heap.size w W → Calls Tryz.prog 84 #[.agg #[.int .i64 3, .int .i64 0, .int .i64 0, .string s, .int .i64 0]] W (fun e w' => e = .returned (.tuple #[.agg #[.int .i64 p, .int .i64 q], .int .i64 0]) ∧ Below W.heap.size W w'))
    (HO : ∀ W, Calls Tryz.prog 106 #[.agg #[.int .i64 p, .int .i64 q]] W (fun e w' => e = .returned (.agg #[.int .i64 2, .int .i64 p, .int .i64 q, .string ⟨#[]⟩, .int .i64 0]) ∧ Below W.heap.size W w')) :
    Calls Tryz.prog 7 #[.pointer none, .string tonN, .slice (some ⟨g, o, none⟩) n cap] w (ResB w [⟨2, p, q, ⟨#[]⟩, 0⟩] true) :=
  results_act w tonN _ n cap 1 0 true rfl 0 0 0 ⟨#[]⟩ 0 _ ⟨#[]⟩ 0 0 []
    (begin_plain w tonN _ n cap 25 (by decide) tonN_last (by decide) at_tonumber hw 1 0 0 0 0 ⟨#[]⟩ 0 _ ⟨#[]⟩ 0 0 []
      (fun W c hb hc hge => plain_tonum W c _ 1 0 0 0 0 ⟨#[]⟩ 0 _ ⟨#[]⟩ 0 0 [] (fun k hk h => by have := (Array.getElem?_eq_some_iff.1 hc).1; omega)
        (fun W2 hb2 => (tonum_str W2 c tonN _ n cap A (hkeep hb2 hc) (Vals.below (Vals.below hA hb) hb2) hl hn s p q h0 (fun W3 hb3 => HN W3 (below_next hb (below_next hb2 hb3))) HO).mono (fun _ _ h => act_of_ret h))))
end Go.Proofs.YtalfoihffnlelaaGreatDoor
