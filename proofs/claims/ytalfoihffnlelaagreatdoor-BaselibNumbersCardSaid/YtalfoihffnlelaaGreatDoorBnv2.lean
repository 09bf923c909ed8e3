import Derived.Test.YtalfoihffnlelaaGreatDoorNumA
import Derived.Test.YtalfoihffnlelaaGreatDoorHpT
import Derived.Test.YtalfoihffnlelaaGreatDoorFd2
set_option linter.unusedVariables false
set_option linter.unusedSimpArgs false
set_option maxRecDepth 100000
set_option maxHeartbeats 2000000
namespace Go.Proofs.YtalfoihffnlelaaGreatDoor
open Go.RowKit Go.Proofs.Lexi
set_option maxRecDepth 100000 in
set_option maxHeartbeats 2000000 in
theorem bnames_c (w : World) (hw : Spaces w) : Calls Tryz.prog 38 #[] w (NamesPost w) := by
  have HF : ∀ s : ByteArray, s.data.toList = nbL → s.size = 300 ∨ s.size < 4294967281 → Calls Tryz.prog 82 #[.string s] w (NamesPost w) := fun s hs hz => by
    refine (Tryz.strings_Fields_laid s w ?_ ?_ hw).mono ?_
    · have : s.size = s.data.toList.length := rfl
      rw [this, hs]
      decide
    · intro j b hb
      rw [hs] at hb
      have hall : ∀ b ∈ nbL, b.toNat < 128 := by decide
      exact hall b (List.mem_of_getElem? hb)
    · rintro e w' ⟨rfl, rfl⟩
      rw [hs, nb_len]
      refine ⟨rfl, ?_⟩
      unfold namesL
      rw [List.map_map]
      rfl
  have HFF := Lib.hid HF
  clear HF hw
  go_enter Tryz.func38, Tryz.ntmps38
  go_wp2_with fail
  refine (HFF.out _ (by rfl) (.inr (by decide))).mono ?_
  rintro e w1 ⟨rfl, rfl⟩
  go_wp2
  go_ret
  exact ⟨rfl, rfl⟩
set_option maxRecDepth 100000 in
set_option maxHeartbeats 2000000 in
theorem bnumber_c (w : World) (x : ByteArray) (hw : Spaces w) : Calls Tryz.prog 19 #[.string x] w (IntPost w (Lib.idxOfS namesL x)) := by
  have HN := Lib.hid (bnames_c w hw)
  have HI : Calls Tryz.prog 37 #[.slice (some ⟨w.heap.size, 0, none⟩) 29 29, .string x] (w.alloc (.cells (namesL.map Value.string).toArray 9)) (fun e w' => e = .returned (.int .i64 (Lib.idxOfS namesL x)) ∧ w' = w.alloc (.cells (namesL.map Value.string).toArray 9)) := by
    have := Tryz.slices_Index_string w.heap.size 0 29 29 namesL x (w.alloc (.cells (namesL.map Value.string).toArray 9)) (by rw [names_len]; exact Nat.le_refl _) (by decide) (fun j hj => by
      rw [cell_of_heap (heap_new w _), Nat.zero_add]
      show (namesL.map Value.string).toArray[j]? = _
      rw [List.getElem?_toArray, List.getElem?_map, List.getD_eq_getElem?_getD, List.getElem?_eq_getElem hj]
      rfl)
    rw [show namesL.take 29 = namesL from List.take_of_length_le (by rw [names_len]; exact Nat.le_refl _)] at this
    exact this
  have HII := Lib.hid HI
  clear HI hw
  go_enter Tryz.func19, Tryz.ntmps19
  go_wp2_with fail
  refine HN.out.mono ?_
  rintro e w1 ⟨rfl, rfl⟩
  go_wp2_with fail
  refine HII.out.mono ?_
  rintro e w2 ⟨rfl, rfl⟩
  go_wp2
  go_ret
  exact ⟨rfl, below1 _ _⟩
set_option maxRecDepth 100000 in
set_option maxHeartbeats 2000000 in
theorem begin_plain (w : World) (nm : ByteArray) (so : Option Addr) (k cap : Nat) (n : Int) (hn : n ≠ 2 ∧ n ≠ 3 ∧ n ≠ 4 ∧ n ≠ 5 ∧ n ≠ 6 ∧ n ≠ 7 ∧ n ≠ 8 ∧ n ≠ 9 ∧ n ≠ 17 ∧ n ≠ 28 ∧ n ≠ 1 ∧ n ≠ 14 ∧ n ≠ 0 ∧ n ≠ 10 ∧ n ≠ 19 ∧ n ≠ 20 ∧ n ≠ 21 ∧ n ≠ 22 ∧ n ≠ 11 ∧ n ≠ 24 ∧ n ≠ 15 ∧ 0 ≤ n) (hli : Lib.lastIndexByte nm 46 = -1) (hz : nm.size ≤ 100) (hx : Lib.idxOfS namesL nm = n) (hw : Spaces w)
    (kind op : Int) (fk fp fq : Int) (fs : ByteArray) (fr : Int) (A : List V) (s : ByteArray) (level next : Int) (K : List V)
    (HCH : ∀ W c, Below w.heap.size w W → W.heap[c]? = some (oCl nm (.slice so k cap)) → w.heap.size ≤ c → Calls Tryz.prog 23 #[.pointer (some ⟨c, 0, none⟩), .int .i64 n] W (ActPost (fun k => k = c) W kind op ⟨fk, fp, fq, fs, fr⟩ A s level next K)) :
    Calls Tryz.prog 14 #[.pointer none, .string nm, .slice so k cap] w (ActPost NoF w kind op ⟨fk, fp, fq, fs, fr⟩ A s level next K) := by
  have HL := Lib.hid (fun W => Tryz.strings_LastIndexByte nm 46 (by omega) W)
  rw [hli] at HL
  have HN := Lib.hid (fun W (hb : Below w.heap.size w W) => bnumber_c W nm (Spaces.stays hw hb))
  rw [hx] at HN
  have HP := Lib.hid (HCH)
  have q2 : (n == 2) = false := beq_eq_false_iff_ne.2 (by omega)
  have q3 : (n == 3) = false := beq_eq_false_iff_ne.2 (by omega)
  have q4 : (n == 4) = false := beq_eq_false_iff_ne.2 (by omega)
  have q5 : (n == 5) = false := beq_eq_false_iff_ne.2 (by omega)
  have q6 : (n == 6) = false := beq_eq_false_iff_ne.2 (by omega)
  have q7 : (n == 7) = false := beq_eq_false_iff_ne.2 (by omega)
  have q8 : (n == 8) = false := beq_eq_false_iff_ne.2 (by omega)
  have q9 : (n == 9) = false := beq_eq_false_iff_ne.2 (by omega)
  have q17 : (n == 17) = false := beq_eq_false_iff_ne.2 (by omega)
  have q28 : (n == 28) = false := beq_eq_false_iff_ne.2 (by omega)
  have q1 : (n == 1) = false := beq_eq_false_iff_ne.2 (by omega)
  have q14 : (n == 14) = false := beq_eq_false_iff_ne.2 (by omega)
  have q0 : (n == 0) = false := beq_eq_false_iff_ne.2 (by omega)
  have q10 : (n == 10) = false := beq_eq_false_iff_ne.2 (by omega)
  have q19 : (n == 19) = false := beq_eq_false_iff_ne.2 (by omega)
  have q20 : (n == 20) = false := beq_eq_false_iff_ne.2 (by omega)
  have q21 : (n == 21) = false := beq_eq_false_iff_ne.2 (by omega)
  have q22 : (n == 22) = false := beq_eq_false_iff_ne.2 (by omega)
  have q11 : (n == 11) = false := beq_eq_false_iff_ne.2 (by omega)
  have q24 : (n == 24) = false := beq_eq_false_iff_ne.2 (by omega)
  have q15 : (n == 15) = false := beq_eq_false_iff_ne.2 (by omega)
  have qm : (n == -1) = false := beq_eq_false_iff_ne.2 (by omega)
  have hz2 : (nm.size : Int) ≤ 100 := by omega
  clear hw HCH hli hx
  go_enter Tryz.func14, Tryz.ntmps14
  go_wp2_with fail
  refine (HL.out _).mono ?_
  rintro e w1 ⟨rfl, rfl⟩
  go_wp2_with fail
  refine (HN.out _ (below2w _ _ _)).mono ?_
  rintro e w2 ⟨rfl, hb⟩
  have Ha2 := Lib.hid (hkeep hb (heap2_a w oAc (oCl nm (.slice so k cap))))
  have Hc2 := Lib.hid (hkeep hb (heap2_b w oAc (oCl nm (.slice so k cap))))
  have HW2 := Lib.hid (below_next (below2w _ _ _) hb)
  have hz2 := hb.size
  try simp at hz2
  clear hb
  go_wp2_with fail
  refine (HP.out _ _ HW2.out Hc2.out (by omega)).mono ?_
  rintro e w3 ⟨so3, cap3, sk3, ck3, rfl, hr, hk, hm⟩
  have HR3 := Lib.hid (hr)
  have HK3 := Lib.hid (hk)
  have Ha3 := Lib.hid (mkeep hm Ha2.out (by omega))
  have HW3 := Lib.hid (Mods.below (Mods.trans (Mods.of_below HW2.out) hm) (Nat.le_refl _) (fun k hk h => by omega))
  have hlt := (Array.getElem?_eq_some_iff.1 Ha2.out).1
  clear hr hk hm
  have hya : w.heap.size < w3.heap.size := (Array.getElem?_eq_some_iff.1 Ha3.out).1
  obtain ⟨a0, a1, a2, a3, a4, a5, a6, a7, a8, a9, a10, a11⟩ := cells12 Ha3.out
  obtain ⟨fa0, fa1, fa2, fa3, fa4, fa5, fa6, fa7, fa8, fa9, fa10, fa11⟩ := froz12 Ha3.out
  go_wp2
  refine bodyPost_ret (by simp [results, Tryz.results14, go_sem, hya, a0, a1, a2, a3, a4, a5, a6, a7, a8, a9, a10, a11]; first | done | rfl) rfl ?_
  exact act_end HR3.out HK3.out (Mods.of_below HW3.out) (Nat.le_refl _) hlt _ _ _ _ _ _ _ _ _ _ _ _
set_option maxRecDepth 100000 in
set_option maxHeartbeats 2000000 in
theorem begin_pcall (w : World) (nm : ByteArray) (so : Option Addr) (k cap : Nat)  (hli : Lib.lastIndexByte nm 46 = -1) (hz : nm.size ≤ 100) (hx : Lib.idxOfS namesL nm = 17) (hw : Spaces w)
    (kind op : Int) (fk fp fq : Int) (fs : ByteArray) (fr : Int) (A : List V) (s : ByteArray) (level next : Int) (K : List V)
    (HCH : ∀ W c, Below w.heap.size w W → W.heap[c]? = some (oCl nm (.slice so k cap)) → w.heap.size ≤ c → Calls Tryz.prog 21 #[.pointer (some ⟨c, 0, none⟩), .int .i64 17] W (ActPost (fun k => k = c) W kind op ⟨fk, fp, fq, fs, fr⟩ A s level next K)) :
    Calls Tryz.prog 14 #[.pointer none, .string nm, .slice so k cap] w (ActPost NoF w kind op ⟨fk, fp, fq, fs, fr⟩ A s level next K) := by
  have HL := Lib.hid (fun W => Tryz.strings_LastIndexByte nm 46 (by omega) W)
  rw [hli] at HL
  have HN := Lib.hid (fun W (hb : Below w.heap.size w W) => bnumber_c W nm (Spaces.stays hw hb))
  rw [hx] at HN
  have HP := Lib.hid (HCH)
  have hz2 : (nm.size : Int) ≤ 100 := by omega
  clear hw HCH hli hx
  go_enter Tryz.func14, Tryz.ntmps14
  go_wp2_with fail
  refine (HL.out _).mono ?_
  rintro e w1 ⟨rfl, rfl⟩
  go_wp2_with fail
  refine (HN.out _ (below2w _ _ _)).mono ?_
  rintro e w2 ⟨rfl, hb⟩
  have Ha2 := Lib.hid (hkeep hb (heap2_a w oAc (oCl nm (.slice so k cap))))
  have Hc2 := Lib.hid (hkeep hb (heap2_b w oAc (oCl nm (.slice so k cap))))
  have HW2 := Lib.hid (below_next (below2w _ _ _) hb)
  have hz2 := hb.size
  try simp at hz2
  clear hb
  go_wp2_with fail
  refine (HP.out _ _ HW2.out Hc2.out (by omega)).mono ?_
  rintro e w3 ⟨so3, cap3, sk3, ck3, rfl, hr, hk, hm⟩
  have HR3 := Lib.hid (hr)
  have HK3 := Lib.hid (hk)
  have Ha3 := Lib.hid (mkeep hm Ha2.out (by omega))
  have HW3 := Lib.hid (Mods.below (Mods.trans (Mods.of_below HW2.out) hm) (Nat.le_refl _) (fun k hk h => by omega))
  have hlt := (Array.getElem?_eq_some_iff.1 Ha2.out).1
  clear hr hk hm
  have hya : w.heap.size < w3.heap.size := (Array.getElem?_eq_some_iff.1 Ha3.out).1
  obtain ⟨a0, a1, a2, a3, a4, a5, a6, a7, a8, a9, a10, a11⟩ := cells12 Ha3.out
  obtain ⟨fa0, fa1, fa2, fa3, fa4, fa5, fa6, fa7, fa8, fa9, fa10, fa11⟩ := froz12 Ha3.out
  go_wp2
  refine bodyPost_ret (by simp [results, Tryz.results14, go_sem, hya, a0, a1, a2, a3, a4, a5, a6, a7, a8, a9, a10, a11]; first | done | rfl) rfl ?_
  exact act_end HR3.out HK3.out (Mods.of_below HW3.out) (Nat.le_refl _) hlt _ _ _ _ _ _ _ _ _ _ _ _
theorem fmt_ten (w : World) (ht : Pow10 w) (p : Int) (h1 : -2147483647 ≤ p) (h2 : p ≤ 2147483647) : Calls Tryz.prog 35 #[.int .i64 p, .int .i64 10] w (FmtPost w 10 p) := by
  refine (Tryz.internal_strconv_FormatInt_10 p (by omega) (by omega) w ht).mono ?_
  rintro e w' ⟨rfl, k, os, rfl⟩
  refine ⟨itoaB p, rfl, ?_, below_growN _ _ _⟩
  rw [bytes_itoa]
  unfold bText
  rw [dB_ten]
theorem fbits_pos (w : World) (hb : Bruijn w) (b : Nat) (h1 : 2 ≤ b) (h2 : b ≤ 36) (h10 : b ≠ 10) (U : Nat) (hu : U ≤ 2147483648) :
    Calls Tryz.prog 81 #[.slice none 0 0, .int .u64 U, .int .i64 b, .bool false, .bool false] w (fun e w' => ∃ r, e = .returned (.tuple #[.slice none 0 0, .string r]) ∧ bytesOf r = dB b U ∧ Below w.heap.size w w') := by
  cases hp : isP2 b with
  | false => exact fbits_x w b h1 h2 hp h10 U hu
  | true =>
    obtain ⟨s, hs⟩ : ∃ s, P2 b s := by
      simp only [isP2, Bool.or_eq_true, beq_iff_eq] at hp
      rcases hp with (((rfl | rfl) | rfl) | rfl) | rfl
      · exact ⟨1, .inl ⟨rfl, rfl⟩⟩
      · exact ⟨2, .inr (.inl ⟨rfl, rfl⟩)⟩
      · exact ⟨3, .inr (.inr (.inl ⟨rfl, rfl⟩))⟩
      · exact ⟨4, .inr (.inr (.inr (.inl ⟨rfl, rfl⟩)))⟩
      · exact ⟨5, .inr (.inr (.inr (.inr ⟨rfl, rfl⟩)))⟩
    exact fbits_p w b s hs U hu (fun W hW => tz_c W (Bruijn.stays hb hW) b s hs)
theorem fbits_neg (w : World) (hb : Bruijn w) (b : Nat) (h1 : 2 ≤ b) (h2 : b ≤ 36) (h10 : b ≠ 10) (V : Int) (U : Nat) (hu : U ≤ 2147483648) (EN : IntKind.u64.wrap (-V) = (U : Int)) :
    Calls Tryz.prog 81 #[.slice none 0 0, .int .u64 V, .int .i64 b, .bool true, .bool false] w (fun e w' => ∃ r, e = .returned (.tuple #[.slice none 0 0, .string r]) ∧ bytesOf r = 45 :: dB b U ∧ Below w.heap.size w w') := by
  cases hp : isP2 b with
  | false => exact fbits_n w b h1 h2 hp h10 V U hu EN
  | true =>
    obtain ⟨s, hs⟩ : ∃ s, P2 b s := by
      simp only [isP2, Bool.or_eq_true, beq_iff_eq] at hp
      rcases hp with (((rfl | rfl) | rfl) | rfl) | rfl
      · exact ⟨1, .inl ⟨rfl, rfl⟩⟩
      · exact ⟨2, .inr (.inl ⟨rfl, rfl⟩)⟩
      · exact ⟨3, .inr (.inr (.inl ⟨rfl, rfl⟩))⟩
      · exact ⟨4, .inr (.inr (.inr (.inl ⟨rfl, rfl⟩)))⟩
      · exact ⟨5, .inr (.inr (.inr (.inr ⟨rfl, rfl⟩)))⟩
    exact fbits_q w b s hs V U hu EN (fun W hW => tz_c W (Bruijn.stays hb hW) b s hs)
set_option maxRecDepth 100000 in
set_option maxHeartbeats 2000000 in
theorem fmt_pos (w : World) (hb : Bruijn w) (b : Nat) (h1 : 2 ≤ b) (h2 : b ≤ 36) (h10 : b ≠ 10) (p : Int) (hp0 : 0 ≤ p) (hp : p ≤ 2147483647) : Calls Tryz.prog 35 #[.int .i64 p, .int .i64 b] w (FmtPost w b p) := by
  obtain ⟨U, rfl⟩ : ∃ U : Nat, p = U := ⟨p.toNat, by omega⟩
  have HF := Lib.hid (fbits_pos w hb b h1 h2 h10 U (by omega))
  have q1 : ((b : Int) == 10) = false := beq_eq_false_iff_ne.2 (by omega)
  have q2 : decide ((U : Int) < 0) = false := decide_eq_false (by omega)
  clear hb h10
  go_enter Tryz.func35, Tryz.ntmps35
  go_wp2_with fail
  refine (HF.out).mono ?_
  rintro e w1 ⟨r, rfl, hr, hb⟩
  have HRR := Lib.hid (hr)
  have HW1 := Lib.hid (hb)
  clear hr hb
  go_wp2
  go_ret
  refine ⟨r, rfl, ?_, HW1.out⟩
  rw [HRR.out]
  unfold bText
  rw [if_neg (by omega), Int.natAbs_natCast]
set_option maxRecDepth 100000 in
set_option maxHeartbeats 2000000 in
theorem fmt_neg (w : World) (hb : Bruijn w) (b : Nat) (h1 : 2 ≤ b) (h2 : b ≤ 36) (h10 : b ≠ 10) (p : Int) (hp0 : p < 0) (hp : -2147483647 ≤ p) : Calls Tryz.prog 35 #[.int .i64 p, .int .i64 b] w (FmtPost w b p) := by
  obtain ⟨U, hU⟩ : ∃ U, U = p.natAbs := ⟨_, rfl⟩
  have EN : IntKind.u64.wrap (-IntKind.u64.wrap p) = (U : Int) := by
    simp [IntKind.wrap, IntKind.bits, IntKind.signed]
    omega
  have HF := Lib.hid (fbits_neg w hb b h1 h2 h10 (IntKind.u64.wrap p) U (by omega) EN)
  have q1 : ((b : Int) == 10) = false := beq_eq_false_iff_ne.2 (by omega)
  have q2 : decide (p < 0) = true := decide_eq_true hp0
  have HU := Lib.hid (hU)
  clear hb h10 EN hU
  go_enter Tryz.func35, Tryz.ntmps35
  go_wp2_with fail
  refine (HF.out).mono ?_
  rintro e w1 ⟨r, rfl, hr, hb⟩
  have HRR := Lib.hid (hr)
  have HW1 := Lib.hid (hb)
  clear hr hb
  go_wp2
  go_ret
  refine ⟨r, rfl, ?_, HW1.out⟩
  rw [HRR.out, HU.out]
  unfold bText
  rw [if_pos hp0]
theorem fmt_c (w : World) (ht : Pow10 w) (hb : Bruijn w) (b : Nat) (h1 : 2 ≤ b) (h2 : b ≤ 36) (p : Int) (hp1 : -2147483647 ≤ p) (hp2 : p ≤ 2147483647) : Calls Tryz.prog 35 #[.int .i64 p, .int .i64 b] w (FmtPost w b p) := by
  by_cases h10 : b = 10
  · subst h10
    exact fmt_ten w ht p hp1 hp2
  · by_cases h0 : 0 ≤ p
    · exact fmt_pos w hb b h1 h2 h10 p h0 hp2
    · exact fmt_neg w hb b h1 h2 h10 p (by omega) hp1
set_option maxRecDepth 100000 in
set_option maxHeartbeats 2000000 in
theorem sfmt_c (w : World) (ht : Pow10 w) (hb : Bruijn w) (b : Nat) (h1 : 2 ≤ b) (h2 : b ≤ 36) (p : Int) (hp1 : -2147483647 ≤ p) (hp2 : p ≤ 2147483647) : Calls Tryz.prog 17 #[.int .i64 p, .int .i64 b] w (FmtPost w b p) := by
  have HF := Lib.hid (fmt_c w ht hb b h1 h2 p hp1 hp2)
  clear ht hb
  go_enter Tryz.func17, Tryz.ntmps17
  go_wp2_with fail
  refine (HF.out).mono ?_
  rintro e w1 ⟨r, rfl, hr, hb⟩
  have HRR := Lib.hid (hr)
  have HW1 := Lib.hid (hb)
  clear hr hb
  go_wp2
  go_ret
  exact ⟨r, rfl, HRR.out, HW1.out⟩
set_option maxRecDepth 100000 in
set_option maxHeartbeats 2000000 in
theorem base_c (w : World) (ht : Pow10 w) (hb : Bruijn w) (b : Nat) (h1 : 2 ≤ b) (h2 : b ≤ 36) (p : Int) (hp1 : -2147483647 ≤ p) (hp2 : p ≤ 2147483647) : Calls Tryz.prog 12 #[.int .i64 p, .int .i64 b] w (BasePost w b p) := by
  have HF := Lib.hid (sfmt_c w ht hb b h1 h2 p hp1 hp2)
  have q2 : decide ((b : Int) < 2) = false := decide_eq_false (by omega)
  have q4 : decide ((b : Int) > 36) = false := decide_eq_false (by omega)
  clear ht hb
  go_enter Tryz.func12, Tryz.ntmps12
  go_wp2_with fail
  refine (HF.out).mono ?_
  rintro e w1 ⟨r, rfl, hr, hb⟩
  have HRR := Lib.hid (hr)
  have HW1 := Lib.hid (hb)
  clear hr hb
  go_wp2
  go_ret2
  exact ⟨r, rfl, HRR.out, HW1.out⟩
end Go.Proofs.YtalfoihffnlelaaGreatDoor
