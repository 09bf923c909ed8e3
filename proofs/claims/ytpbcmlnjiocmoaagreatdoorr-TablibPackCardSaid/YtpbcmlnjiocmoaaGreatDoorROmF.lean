import Derived.Test.YtpbcmlnjiocmoaaGreatDoorRRefB
import Derived.Test.YtpbcmlnjiocmoaaGreatDoorRValB
set_option linter.unusedVariables false
set_option linter.unusedSimpArgs false
set_option maxRecDepth 100000
set_option maxHeartbeats 2000000
namespace Go.Proofs.YtpbcmlnjiocmoaaGreatDoorR
open Go.RowKit Go.Proofs.Lexi
set_option maxRecDepth 100000 in
set_option maxHeartbeats 2000000 in
theorem pomSet_push_gone (w : World) (m g cap : Nat) (rb : Nat) (L : List Sl) (E : List (Value × Value)) (f : V → Option Nat) (hm : w.heap[m]? = some (.cells #[.slice (some ⟨rb, 0, none⟩) L.length cap, .map (some g), .int .i64 (liveN L : Nat)] 144))
    (hrow : w.ownsRow 0 146 11 (.slice (some ⟨rb, 0, none⟩) L.length cap) L.length (rowSl L)) (hL : L.length ≤ 1000) (hE : MapAt Tryz.prog 30 w g E) (hG : Graph E f) (hroom : ¬ liveN L + 8 < L.length - liveN L) (k1 p1 q1 : Int) (s1 : ByteArray) (r1 : Int) (k2 p2 q2 : Int) (s2 : ByteArray) (r2 : Int) (hkw : WfV ⟨k1, p1, q1, s1, r1⟩)
    (hvk : ∀ W, Calls Tryz.prog 43 #[.agg #[.int .i64 k1, .int .i64 p1, .int .i64 q1, .string s1, .int .i64 r1]] W (BoolPost W true)) (hvv : ∀ W, Calls Tryz.prog 43 #[.agg #[.int .i64 k2, .int .i64 p2, .int .i64 q2, .string s2, .int .i64 r2]] W (BoolPost W true)) (hk0 : (k1 == 0) = false) (hI : Idx L f) (hno : NoLive L f ⟨k1, p1, q1, s1, r1⟩) (hwf : ∀ s ∈ L, WfV s.k ∧ WfV s.v) (hvw : WfV ⟨k2, p2, q2, s2, r2⟩) (hv0 : (k2 == 0) = false) (n : Nat) (sl : Sl) (hsl : L[n]? = some sl) (hgf : sl.g = true)
    (hlk : ∀ W, W.heap[g]? = w.heap[g]? → (Instr.lookup 142 (.map (some g)) (.agg #[.int .i64 k1, .int .i64 p1, .int .i64 q1, .string s1, .int .i64 r1]) true).run Tryz.prog W = .ok (.tuple #[.int .i64 (n : Int), .bool true]) W) :
    Calls Tryz.prog 83 #[.pointer (some ⟨m, 0, none⟩), .agg #[.int .i64 k1, .int .i64 p1, .int .i64 q1, .string s1, .int .i64 r1], .agg #[.int .i64 k2, .int .i64 p2, .int .i64 q2, .string s2, .int .i64 r2]] w (OmPost w m g (.slice (some ⟨rb, 0, none⟩) L.length cap) (L ++ [⟨⟨k1, p1, q1, s1, r1⟩, ⟨k2, p2, q2, s2, r2⟩, false⟩])) := by
  have HII := Lib.hid hI
  have HNO := Lib.hid hno
  have HWF := Lib.hid hwf
  have HKW := Lib.hid hkw
  have HVW := Lib.hid hvw
  have HEG := Lib.hid (And.intro hE hG)
  clear hI hno hwf hvw
  have hl2 := liveN_le L
  have hml : m < w.heap.size := (Array.getElem?_eq_some_iff.1 hm).1
  have hg : g < w.heap.size := hE.lt
  have hmg : m ≠ g := fun e => by
    obtain ⟨es, c, he, _⟩ := id hE
    rw [← e, hm] at he
    cases he
  obtain ⟨es0, c0, hgm, _⟩ := id hE
  have hrg := row_ne hrow hgm
  have HGM := Lib.hid hgm
  have HRG := Lib.hid hrg
  have HST := Lib.hid (put_at hE hG hkw)
  clear hgm hrg
  have HVK := Lib.hid hvk
  have HVV := Lib.hid hvv
  have HLK := Lib.hid hlk
  clear hvk hvv hlk hE hG
  go_enter Tryz.func83, Tryz.ntmps83
  go_wp2_with fail
  refine (HVK.out _).mono ?_
  rintro e w1 ⟨rfl, hb⟩
  have HKB := Lib.hid (hkeep hb (heap2_a _ _ _))
  have HVB := Lib.hid (hkeep hb (heap2_b _ _ _))
  have HW1 := Lib.hid (below_next (below2w _ _ _) hb)
  have hz1 := hb.size
  simp at hz1
  clear hb
  have b0 : w1.cell? ⟨w.heap.size + 1, 0, none⟩ = some (.int .i64 k2) := by rw [cell_of_heap HVB.out]; rfl
  have b1 : w1.cell? ⟨w.heap.size + 1, 1, none⟩ = some (.int .i64 p2) := by rw [cell_of_heap HVB.out]; rfl
  have b2 : w1.cell? ⟨w.heap.size + 1, 2, none⟩ = some (.int .i64 q2) := by rw [cell_of_heap HVB.out]; rfl
  have b3 : w1.cell? ⟨w.heap.size + 1, 3, none⟩ = some (.string s2) := by rw [cell_of_heap HVB.out]; rfl
  have b4 : w1.cell? ⟨w.heap.size + 1, 4, none⟩ = some (.int .i64 r2) := by rw [cell_of_heap HVB.out]; rfl
  go_wp2_with fail
  refine (HVV.out _).mono ?_
  rintro e w2 ⟨rfl, hb⟩
  have HKB2 := Lib.hid (hkeep hb HKB.out)
  have HVB2 := Lib.hid (hkeep hb HVB.out)
  have HW2 := Lib.hid (below_next HW1.out hb)
  have hz2 := hb.size
  have HMM := Lib.hid (hkeep HW2.out hm)
  have HROW := Lib.hid (ownsRow_ext (below_ext HW2.out (Nat.le_refl _)) hrow)
  have HGG := Lib.hid (bw HW2.out hg)
  have hnl : n < L.length := (List.getElem?_eq_some_iff.1 hsl).1
  have hgone : w2.cell? ⟨rb, n * 11 + 10, none⟩ = some (.bool sl.g) := (HROW.out.cellAt (n * 11 + 10) (by omega)).trans (rowSl_at L n 10 sl hsl (by decide))
  rw [hgf] at hgone
  clear hb b0 b1 b2 b3 b4 HKB HVB
  have a0 : w2.cell? ⟨w.heap.size, 0, none⟩ = some (.int .i64 k1) := by rw [cell_of_heap HKB2.out]; rfl
  have a1 : w2.cell? ⟨w.heap.size, 1, none⟩ = some (.int .i64 p1) := by rw [cell_of_heap HKB2.out]; rfl
  have a2 : w2.cell? ⟨w.heap.size, 2, none⟩ = some (.int .i64 q1) := by rw [cell_of_heap HKB2.out]; rfl
  have a3 : w2.cell? ⟨w.heap.size, 3, none⟩ = some (.string s1) := by rw [cell_of_heap HKB2.out]; rfl
  have a4 : w2.cell? ⟨w.heap.size, 4, none⟩ = some (.int .i64 r1) := by rw [cell_of_heap HKB2.out]; rfl
  have b0 : w2.cell? ⟨w.heap.size + 1, 0, none⟩ = some (.int .i64 k2) := by rw [cell_of_heap HVB2.out]; rfl
  have b1 : w2.cell? ⟨w.heap.size + 1, 1, none⟩ = some (.int .i64 p2) := by rw [cell_of_heap HVB2.out]; rfl
  have b2 : w2.cell? ⟨w.heap.size + 1, 2, none⟩ = some (.int .i64 q2) := by rw [cell_of_heap HVB2.out]; rfl
  have b3 : w2.cell? ⟨w.heap.size + 1, 3, none⟩ = some (.string s2) := by rw [cell_of_heap HVB2.out]; rfl
  have b4 : w2.cell? ⟨w.heap.size + 1, 4, none⟩ = some (.int .i64 r2) := by rw [cell_of_heap HVB2.out]; rfl
  have m0 : w2.cell? ⟨m, 0, none⟩ = some (.slice (some ⟨rb, 0, none⟩) L.length cap) := by rw [cell_of_heap HMM.out]; rfl
  have m1 : w2.cell? ⟨m, 1, none⟩ = some (.map (some g)) := by rw [cell_of_heap HMM.out]; rfl
  have m2 : w2.cell? ⟨m, 2, none⟩ = some (.int .i64 (liveN L : Nat)) := by rw [cell_of_heap HMM.out]; rfl
  have fm0 : w2.frozen? ⟨m, 0, none⟩ = false := frozen_of_heap HMM.out _
  have fm1 : w2.frozen? ⟨m, 1, none⟩ = false := frozen_of_heap HMM.out _
  have fm2 : w2.frozen? ⟨m, 2, none⟩ = false := frozen_of_heap HMM.out _
  go_wp2
  refine wp_region_lex mixed (by kernel_rfl) ?_
  go_wp2_with (at_lookup; refine wpList_look_map _ rfl _ _ _ _ rfl _ _ _ rfl rfl (HLK.out _ HGG.out) ?_)
  refine ⟨by kernel_rfl, ?_⟩
  go_wp2
  refine wp_region_lex mixed (by kernel_rfl) ?_
  go_wp2
  refine ⟨by kernel_rfl, ?_⟩
  go_wp2
  refine wp_region_lex mixed (by kernel_rfl) ?_
  go_wp2_with (at_mapUpdate; refine wpList_store_map _ rfl _ _ _ _ rfl _ _ _ rfl rfl rfl _ (HST.out L.length _ HGG.out) ?_; intro w3 hw3)
  refine ⟨by kernel_rfl, ?_⟩
  go_wp2
  obtain ⟨hput, hmods, hsz3⟩ := hw3
  have HPUT := Lib.hid hput
  have HK3 := Lib.hid (mods_keep hmods (show (w2.drew.drew.drew).heap[w.heap.size]? = _ from HKB2.out) (by omega))
  have HV3 := Lib.hid (mods_keep hmods (show (w2.drew.drew.drew).heap[w.heap.size + 1]? = _ from HVB2.out) (by omega))
  have HM3 := Lib.hid (mods_keep hmods (show (w2.drew.drew.drew).heap[m]? = _ from HMM.out) hmg)
  have HR3 := Lib.hid (ownsRow_keep (w3 := w3) HROW.out (fun b hb => hmods.block b (ownBlock_lt HROW.out hb).2 (HRG.out b hb)))
  have HMD := Lib.hid hmods
  have hsz3' : w2.heap.size ≤ w3.heap.size := Nat.le_of_eq (Eq.symm hsz3)
  clear hput hmods hsz3 a0 a1 a2 a3 a4 b0 b1 b2 b3 b4 m0 m1 m2 fm0 fm1 fm2
  have a0 : w3.cell? ⟨w.heap.size, 0, none⟩ = some (.int .i64 k1) := by rw [cell_of_heap HK3.out]; rfl
  have a1 : w3.cell? ⟨w.heap.size, 1, none⟩ = some (.int .i64 p1) := by rw [cell_of_heap HK3.out]; rfl
  have a2 : w3.cell? ⟨w.heap.size, 2, none⟩ = some (.int .i64 q1) := by rw [cell_of_heap HK3.out]; rfl
  have a3 : w3.cell? ⟨w.heap.size, 3, none⟩ = some (.string s1) := by rw [cell_of_heap HK3.out]; rfl
  have a4 : w3.cell? ⟨w.heap.size, 4, none⟩ = some (.int .i64 r1) := by rw [cell_of_heap HK3.out]; rfl
  have b0 : w3.cell? ⟨w.heap.size + 1, 0, none⟩ = some (.int .i64 k2) := by rw [cell_of_heap HV3.out]; rfl
  have b1 : w3.cell? ⟨w.heap.size + 1, 1, none⟩ = some (.int .i64 p2) := by rw [cell_of_heap HV3.out]; rfl
  have b2 : w3.cell? ⟨w.heap.size + 1, 2, none⟩ = some (.int .i64 q2) := by rw [cell_of_heap HV3.out]; rfl
  have b3 : w3.cell? ⟨w.heap.size + 1, 3, none⟩ = some (.string s2) := by rw [cell_of_heap HV3.out]; rfl
  have b4 : w3.cell? ⟨w.heap.size + 1, 4, none⟩ = some (.int .i64 r2) := by rw [cell_of_heap HV3.out]; rfl
  have m0 : w3.cell? ⟨m, 0, none⟩ = some (.slice (some ⟨rb, 0, none⟩) L.length cap) := by rw [cell_of_heap HM3.out]; rfl
  have m1 : w3.cell? ⟨m, 1, none⟩ = some (.map (some g)) := by rw [cell_of_heap HM3.out]; rfl
  have m2 : w3.cell? ⟨m, 2, none⟩ = some (.int .i64 (liveN L : Nat)) := by rw [cell_of_heap HM3.out]; rfl
  have fm0 : w3.frozen? ⟨m, 0, none⟩ = false := frozen_of_heap HM3.out _
  have fm1 : w3.frozen? ⟨m, 1, none⟩ = false := frozen_of_heap HM3.out _
  have fm2 : w3.frozen? ⟨m, 2, none⟩ = false := frozen_of_heap HM3.out _
  obtain ⟨i6, hi6, hi6a, hi6b, hi6c⟩ := info_parts info161p
  refine wp_region_lex mixed (by kernel_rfl) ?_
  go_wp2_with (at_builtin; refine wpList_append_own_at _ rfl (.tmp 79) (.tmp 83) 141 rfl 0 146 i6 _ 11 104 Tryz.underlying141 hi6 hi6a hi6b hi6c rfl (by decide) (.slice (some ⟨rb, 0, none⟩) L.length cap) L.length (rowSl L) rfl ?A _ 1 1 [.int .i64 k1, .int .i64 p1, .int .i64 q1, .string s1, .int .i64 r1, .int .i64 k2, .int .i64 p2, .int .i64 q2, .string s2, .int .i64 r2, .bool false] rfl rfl ?B ?C ?D ?E ?F ?G)
  case A => exact ownsRow_ext (below_ext ((Below.refl _ _).alloc (Nat.le_refl _) _).drew (Nat.le_refl _)) HR3.out
  case B => exact cells_eleven_d _ _ _ _ _ _ _ _ _ _ _ _ _ _ rfl
  case C =>
    intro u hu
    simp only [List.mem_cons, List.not_mem_nil, or_false] at hu
    rcases hu with rfl | rfl | rfl | rfl | rfl | rfl | rfl | rfl | rfl | rfl | rfl <;> simp [Value.oneCell']
  case D => unfold maxLen; omega
  case E => omega
  case F => exact Nat.zero_le _
  case G =>
    intro v' w4 hown hgrow _ hat
    obtain ⟨rb', cap', rfl⟩ := slice_shape hown (by omega)
    have hrm := row_ne_m HR3.out HM3.out
    have HM4 := Lib.hid (show w4.heap[m]? = _ from (hgrow.block m (by simp; omega) (fun e => hrm m e.symm rfl)).trans ((Below.heap_alloc w3 _ m (by omega)).trans HM3.out))
    have HG4 := Lib.hid (show w4.heap[g]? = w3.heap[g]? from (hgrow.block g (by simp; omega) (fun e => HRG.out g e.symm rfl)).trans (Below.heap_alloc w3 _ g (by omega)))
    have HOWN := Lib.hid hown
    have HAT := Lib.hid hat
    have HGR := Lib.hid hgrow
    clear hown hat hgrow hrm a0 a1 a2 a3 a4 b0 b1 b2 b3 b4 m0 m1 m2 fm0 fm1 fm2
    have m0 : w4.cell? ⟨m, 0, none⟩ = some (.slice (some ⟨rb, 0, none⟩) L.length cap) := by rw [cell_of_heap HM4.out]; rfl
    have m1 : w4.cell? ⟨m, 1, none⟩ = some (.map (some g)) := by rw [cell_of_heap HM4.out]; rfl
    have m2 : w4.cell? ⟨m, 2, none⟩ = some (.int .i64 (liveN L : Nat)) := by rw [cell_of_heap HM4.out]; rfl
    have fm0 : w4.frozen? ⟨m, 0, none⟩ = false := frozen_of_heap HM4.out _
    have fm1 : w4.frozen? ⟨m, 1, none⟩ = false := frozen_of_heap HM4.out _
    have fm2 : w4.frozen? ⟨m, 2, none⟩ = false := frozen_of_heap HM4.out _
    go_wp2
    refine ⟨by kernel_rfl, ?_⟩
    go_wp2
    go_ret
    refine ⟨rfl, .slice (some ⟨rb', 0, none⟩) (L.length + 1) cap', ?_, ?_, ?_⟩
    · exact push_omap HM4.out HOWN.out HPUT.out HG4.out hmg HII.out HNO.out HWF.out HKW.out HVW.out
    · exact push_mods (Mods.of_below HW2.out.drew.drew.drew) HMD.out ((Below.refl _ _).alloc (Nat.le_refl _) _).drew HGR.out (.inl rfl) (.inr (.inl rfl)) (fun b hb => .inl (.inr (.inr hb)))
    · intro b hb
      rcases HAT.out with h | h
      · exact .inl (h.symm.trans hb)
      · rw [h] at hb
        injection hb with hb
        subst hb
        exact .inr (by first | omega | (simp; omega))
set_option maxRecDepth 100000 in
set_option maxHeartbeats 2000000 in
theorem pomSet_push_drop (w : World) (m g cap : Nat) (rb : Nat) (L : List Sl) (E : List (Value × Value)) (f : V → Option Nat) (hm : w.heap[m]? = some (.cells #[.slice (some ⟨rb, 0, none⟩) L.length cap, .map (some g), .int .i64 (liveN L : Nat)] 144))
    (hrow : w.ownsRow 0 146 11 (.slice (some ⟨rb, 0, none⟩) L.length cap) L.length (rowSl L)) (hL : L.length ≤ 1000) (hE : MapAt Tryz.prog 30 w g E) (hG : Graph E f) (hroom : liveN L + 8 < L.length - liveN L) (k1 p1 q1 : Int) (s1 : ByteArray) (r1 : Int) (k2 p2 q2 : Int) (s2 : ByteArray) (r2 : Int) (hkw : WfV ⟨k1, p1, q1, s1, r1⟩)
    (hvk : ∀ W, Calls Tryz.prog 43 #[.agg #[.int .i64 k1, .int .i64 p1, .int .i64 q1, .string s1, .int .i64 r1]] W (BoolPost W true)) (hvv : ∀ W, Calls Tryz.prog 43 #[.agg #[.int .i64 k2, .int .i64 p2, .int .i64 q2, .string s2, .int .i64 r2]] W (BoolPost W true)) (hk0 : (k1 == 0) = false) (hI : Idx L f) (hno : NoLive L f ⟨k1, p1, q1, s1, r1⟩) (hwf : ∀ s ∈ L, WfV s.k ∧ WfV s.v) (hvw : WfV ⟨k2, p2, q2, s2, r2⟩) (hv0 : (k2 == 0) = false)
    (hlk : ∀ W, W.heap[g]? = w.heap[g]? → (Instr.lookup 142 (.map (some g)) (.agg #[.int .i64 k1, .int .i64 p1, .int .i64 q1, .string s1, .int .i64 r1]) true).run Tryz.prog W = .ok (.tuple #[.int .i64 0, .bool false]) W) :
    Calls Tryz.prog 83 #[.pointer (some ⟨m, 0, none⟩), .agg #[.int .i64 k1, .int .i64 p1, .int .i64 q1, .string s1, .int .i64 r1], .agg #[.int .i64 k2, .int .i64 p2, .int .i64 q2, .string s2, .int .i64 r2]] w (OmPost w m g (.slice (some ⟨rb, 0, none⟩) L.length cap) (dropM L ++ [⟨⟨k1, p1, q1, s1, r1⟩, ⟨k2, p2, q2, s2, r2⟩, false⟩])) := by
  have HII := Lib.hid hI
  have HNO := Lib.hid hno
  have HWF := Lib.hid hwf
  have HKW := Lib.hid hkw
  have HVW := Lib.hid hvw
  have HEG := Lib.hid (And.intro hE hG)
  clear hI hno hwf hvw
  have hl2 := liveN_le L
  have hml : m < w.heap.size := (Array.getElem?_eq_some_iff.1 hm).1
  have hg : g < w.heap.size := hE.lt
  have hmg : m ≠ g := fun e => by
    obtain ⟨es, c, he, _⟩ := id hE
    rw [← e, hm] at he
    cases he
  obtain ⟨es0, c0, hgm, _⟩ := id hE
  have hrg := row_ne hrow hgm
  have HGM := Lib.hid hgm
  have HRG := Lib.hid hrg
  have HST := Lib.hid (put_at hE hG hkw)
  clear hgm hrg
  have HVK := Lib.hid hvk
  have HVV := Lib.hid hvv
  have HLK := Lib.hid hlk
  clear hvk hvv hlk hE hG
  go_enter Tryz.func83, Tryz.ntmps83
  go_wp2_with fail
  refine (HVK.out _).mono ?_
  rintro e w1 ⟨rfl, hb⟩
  have HKB := Lib.hid (hkeep hb (heap2_a _ _ _))
  have HVB := Lib.hid (hkeep hb (heap2_b _ _ _))
  have HW1 := Lib.hid (below_next (below2w _ _ _) hb)
  have hz1 := hb.size
  simp at hz1
  clear hb
  have b0 : w1.cell? ⟨w.heap.size + 1, 0, none⟩ = some (.int .i64 k2) := by rw [cell_of_heap HVB.out]; rfl
  have b1 : w1.cell? ⟨w.heap.size + 1, 1, none⟩ = some (.int .i64 p2) := by rw [cell_of_heap HVB.out]; rfl
  have b2 : w1.cell? ⟨w.heap.size + 1, 2, none⟩ = some (.int .i64 q2) := by rw [cell_of_heap HVB.out]; rfl
  have b3 : w1.cell? ⟨w.heap.size + 1, 3, none⟩ = some (.string s2) := by rw [cell_of_heap HVB.out]; rfl
  have b4 : w1.cell? ⟨w.heap.size + 1, 4, none⟩ = some (.int .i64 r2) := by rw [cell_of_heap HVB.out]; rfl
  go_wp2_with fail
  refine (HVV.out _).mono ?_
  rintro e w2 ⟨rfl, hb⟩
  have HKB2 := Lib.hid (hkeep hb HKB.out)
  have HVB2 := Lib.hid (hkeep hb HVB.out)
  have HW2 := Lib.hid (below_next HW1.out hb)
  have hz2 := hb.size
  have HMM := Lib.hid (hkeep HW2.out hm)
  have HROW := Lib.hid (ownsRow_ext (below_ext HW2.out (Nat.le_refl _)) hrow)
  have HGG := Lib.hid (bw HW2.out hg)
  clear hb b0 b1 b2 b3 b4 HKB HVB
  have a0 : w2.cell? ⟨w.heap.size, 0, none⟩ = some (.int .i64 k1) := by rw [cell_of_heap HKB2.out]; rfl
  have a1 : w2.cell? ⟨w.heap.size, 1, none⟩ = some (.int .i64 p1) := by rw [cell_of_heap HKB2.out]; rfl
  have a2 : w2.cell? ⟨w.heap.size, 2, none⟩ = some (.int .i64 q1) := by rw [cell_of_heap HKB2.out]; rfl
  have a3 : w2.cell? ⟨w.heap.size, 3, none⟩ = some (.string s1) := by rw [cell_of_heap HKB2.out]; rfl
  have a4 : w2.cell? ⟨w.heap.size, 4, none⟩ = some (.int .i64 r1) := by rw [cell_of_heap HKB2.out]; rfl
  have b0 : w2.cell? ⟨w.heap.size + 1, 0, none⟩ = some (.int .i64 k2) := by rw [cell_of_heap HVB2.out]; rfl
  have b1 : w2.cell? ⟨w.heap.size + 1, 1, none⟩ = some (.int .i64 p2) := by rw [cell_of_heap HVB2.out]; rfl
  have b2 : w2.cell? ⟨w.heap.size + 1, 2, none⟩ = some (.int .i64 q2) := by rw [cell_of_heap HVB2.out]; rfl
  have b3 : w2.cell? ⟨w.heap.size + 1, 3, none⟩ = some (.string s2) := by rw [cell_of_heap HVB2.out]; rfl
  have b4 : w2.cell? ⟨w.heap.size + 1, 4, none⟩ = some (.int .i64 r2) := by rw [cell_of_heap HVB2.out]; rfl
  have m0 : w2.cell? ⟨m, 0, none⟩ = some (.slice (some ⟨rb, 0, none⟩) L.length cap) := by rw [cell_of_heap HMM.out]; rfl
  have m1 : w2.cell? ⟨m, 1, none⟩ = some (.map (some g)) := by rw [cell_of_heap HMM.out]; rfl
  have m2 : w2.cell? ⟨m, 2, none⟩ = some (.int .i64 (liveN L : Nat)) := by rw [cell_of_heap HMM.out]; rfl
  have fm0 : w2.frozen? ⟨m, 0, none⟩ = false := frozen_of_heap HMM.out _
  have fm1 : w2.frozen? ⟨m, 1, none⟩ = false := frozen_of_heap HMM.out _
  have fm2 : w2.frozen? ⟨m, 2, none⟩ = false := frozen_of_heap HMM.out _
  go_wp2
  refine wp_region_lex mixed (by kernel_rfl) ?_
  go_wp2_with (at_lookup; refine wpList_look_map _ rfl _ _ _ _ rfl _ _ _ rfl rfl (HLK.out _ HGG.out) ?_)
  refine ⟨by kernel_rfl, ?_⟩
  go_wp2
  refine wp_region_lex mixed (by kernel_rfl) ?_
  go_wp2
  refine ⟨by kernel_rfl, ?_⟩
  go_wp2_with fail
  refine (pomDrop_c w2.drew.drew m g rb cap L E f HMM.out (ownsRow_keep HROW.out (fun _ _ => rfl)) hL (HEG.out.1.keep HGG.out) HEG.out.2 HII.out HWF.out).mono ?_
  rintro e wd ⟨rfl, soD, capD, hmD, hownD, ⟨ED, hED, hGD⟩, hmodsD⟩
  have hzD : w2.heap.size ≤ wd.heap.size := hmodsD.size
  have HKBD := Lib.hid (mods_keep hmodsD HKB2.out (by omega))
  have HVBD := Lib.hid (mods_keep hmodsD HVB2.out (by omega))
  have HWD := Lib.hid (show Mods (OmF m g (.slice (some ⟨rb, 0, none⟩) L.length cap)) w wd.drew from ((Mods.of_below HW2.out.drew.drew).trans (Mods.mono (G := OmF m g (.slice (some ⟨rb, 0, none⟩) L.length cap)) hmodsD (fun k _ e => e.elim Or.inl (fun h => Or.inr (Or.inl h))))).trans (Mods.of_below (Below.refl _ wd).drew))
  have HMD0 := Lib.hid hmD
  have HROWD0 := Lib.hid (show wd.ownsRow w2.heap.size 146 11 _ _ _ from hownD)
  have HID := Lib.hid HII.out.dropped
  have HND := Lib.hid (HII.out.noLive_drop HNO.out)
  have hwfD : ∀ s ∈ dropM L, WfV s.k ∧ WfV s.v := fun s hs => HWF.out s (mem_drop.1 hs).1
  have hlv : liveN (dropM L) = liveN L := by unfold liveN dropM; rw [List.filter_filter]; congr 1; simp
  have hdl := drop_len L
  rw [← hlv] at hmD
  obtain ⟨LD, hLD⟩ : ∃ LD, LD = dropM L := ⟨_, rfl⟩
  obtain ⟨fD, hfD⟩ : ∃ fD, fD = midF L f L.length := ⟨_, rfl⟩
  clear HEG HST HMM HROW HGG HII HNO HWF HGM HRG HLK HMD0 a0 a1 a2 a3 a4 b0 b1 b2 b3 b4 m0 m1 m2 fm0 fm1 fm2 hmodsD
  have HII := HID
  have HNO := HND
  clear HID HND
  have hl3 := liveN_le (dropM L)
  rw [← hLD] at hmD hownD HROWD0 HII HNO hwfD hdl hl3
  have HLD := Lib.hid hLD
  rw [← hfD] at hGD HII HNO
  have HWF := Lib.hid hwfD
  have HMMD := Lib.hid hmD
  have HROWD := Lib.hid (ownsRow_base hownD (Nat.zero_le _))
  obtain ⟨esD, cD, hgmD, _⟩ := id hED
  have HRGD := Lib.hid (row_ne hownD hgmD)
  have HST := Lib.hid (put_at hED hGD hkw)
  clear hownD hED hGD hlv hLD hfD hmD hwfD hgmD
  have a0 : wd.cell? ⟨w.heap.size, 0, none⟩ = some (.int .i64 k1) := by rw [cell_of_heap HKBD.out]; rfl
  have a1 : wd.cell? ⟨w.heap.size, 1, none⟩ = some (.int .i64 p1) := by rw [cell_of_heap HKBD.out]; rfl
  have a2 : wd.cell? ⟨w.heap.size, 2, none⟩ = some (.int .i64 q1) := by rw [cell_of_heap HKBD.out]; rfl
  have a3 : wd.cell? ⟨w.heap.size, 3, none⟩ = some (.string s1) := by rw [cell_of_heap HKBD.out]; rfl
  have a4 : wd.cell? ⟨w.heap.size, 4, none⟩ = some (.int .i64 r1) := by rw [cell_of_heap HKBD.out]; rfl
  have b0 : wd.cell? ⟨w.heap.size + 1, 0, none⟩ = some (.int .i64 k2) := by rw [cell_of_heap HVBD.out]; rfl
  have b1 : wd.cell? ⟨w.heap.size + 1, 1, none⟩ = some (.int .i64 p2) := by rw [cell_of_heap HVBD.out]; rfl
  have b2 : wd.cell? ⟨w.heap.size + 1, 2, none⟩ = some (.int .i64 q2) := by rw [cell_of_heap HVBD.out]; rfl
  have b3 : wd.cell? ⟨w.heap.size + 1, 3, none⟩ = some (.string s2) := by rw [cell_of_heap HVBD.out]; rfl
  have b4 : wd.cell? ⟨w.heap.size + 1, 4, none⟩ = some (.int .i64 r2) := by rw [cell_of_heap HVBD.out]; rfl
  have m0 : wd.cell? ⟨m, 0, none⟩ = some (.slice soD LD.length capD) := by rw [cell_of_heap HMMD.out]; rfl
  have m1 : wd.cell? ⟨m, 1, none⟩ = some (.map (some g)) := by rw [cell_of_heap HMMD.out]; rfl
  have m2 : wd.cell? ⟨m, 2, none⟩ = some (.int .i64 (liveN LD : Nat)) := by rw [cell_of_heap HMMD.out]; rfl
  have fm0 : wd.frozen? ⟨m, 0, none⟩ = false := frozen_of_heap HMMD.out _
  have fm1 : wd.frozen? ⟨m, 1, none⟩ = false := frozen_of_heap HMMD.out _
  have fm2 : wd.frozen? ⟨m, 2, none⟩ = false := frozen_of_heap HMMD.out _
  go_wp2
  refine wp_region_lex mixed (by kernel_rfl) ?_
  go_wp2_with (at_mapUpdate; refine wpList_store_map _ rfl _ _ _ _ rfl _ _ _ rfl rfl rfl _ (HST.out LD.length _ rfl) ?_; intro w3 hw3)
  refine ⟨by kernel_rfl, ?_⟩
  go_wp2
  obtain ⟨hput, hmods, hsz3⟩ := hw3
  have HPUT := Lib.hid hput
  have HK3 := Lib.hid (mods_keep hmods (show (wd.drew).heap[w.heap.size]? = _ from HKBD.out) (by omega))
  have HV3 := Lib.hid (mods_keep hmods (show (wd.drew).heap[w.heap.size + 1]? = _ from HVBD.out) (by omega))
  have HM3 := Lib.hid (mods_keep hmods (show (wd.drew).heap[m]? = _ from HMMD.out) hmg)
  have HR3 := Lib.hid (ownsRow_keep (w3 := w3) HROWD.out (fun b hb => hmods.block b (ownBlock_lt HROWD.out hb).2 (HRGD.out b hb)))
  have HMD := Lib.hid hmods
  have hsz3' : wd.heap.size ≤ w3.heap.size := Nat.le_of_eq (Eq.symm hsz3)
  clear hput hmods hsz3 a0 a1 a2 a3 a4 b0 b1 b2 b3 b4 m0 m1 m2 fm0 fm1 fm2
  have a0 : w3.cell? ⟨w.heap.size, 0, none⟩ = some (.int .i64 k1) := by rw [cell_of_heap HK3.out]; rfl
  have a1 : w3.cell? ⟨w.heap.size, 1, none⟩ = some (.int .i64 p1) := by rw [cell_of_heap HK3.out]; rfl
  have a2 : w3.cell? ⟨w.heap.size, 2, none⟩ = some (.int .i64 q1) := by rw [cell_of_heap HK3.out]; rfl
  have a3 : w3.cell? ⟨w.heap.size, 3, none⟩ = some (.string s1) := by rw [cell_of_heap HK3.out]; rfl
  have a4 : w3.cell? ⟨w.heap.size, 4, none⟩ = some (.int .i64 r1) := by rw [cell_of_heap HK3.out]; rfl
  have b0 : w3.cell? ⟨w.heap.size + 1, 0, none⟩ = some (.int .i64 k2) := by rw [cell_of_heap HV3.out]; rfl
  have b1 : w3.cell? ⟨w.heap.size + 1, 1, none⟩ = some (.int .i64 p2) := by rw [cell_of_heap HV3.out]; rfl
  have b2 : w3.cell? ⟨w.heap.size + 1, 2, none⟩ = some (.int .i64 q2) := by rw [cell_of_heap HV3.out]; rfl
  have b3 : w3.cell? ⟨w.heap.size + 1, 3, none⟩ = some (.string s2) := by rw [cell_of_heap HV3.out]; rfl
  have b4 : w3.cell? ⟨w.heap.size + 1, 4, none⟩ = some (.int .i64 r2) := by rw [cell_of_heap HV3.out]; rfl
  have m0 : w3.cell? ⟨m, 0, none⟩ = some (.slice soD LD.length capD) := by rw [cell_of_heap HM3.out]; rfl
  have m1 : w3.cell? ⟨m, 1, none⟩ = some (.map (some g)) := by rw [cell_of_heap HM3.out]; rfl
  have m2 : w3.cell? ⟨m, 2, none⟩ = some (.int .i64 (liveN LD : Nat)) := by rw [cell_of_heap HM3.out]; rfl
  have fm0 : w3.frozen? ⟨m, 0, none⟩ = false := frozen_of_heap HM3.out _
  have fm1 : w3.frozen? ⟨m, 1, none⟩ = false := frozen_of_heap HM3.out _
  have fm2 : w3.frozen? ⟨m, 2, none⟩ = false := frozen_of_heap HM3.out _
  obtain ⟨i6, hi6, hi6a, hi6b, hi6c⟩ := info_parts info161p
  refine wp_region_lex mixed (by kernel_rfl) ?_
  go_wp2_with (at_builtin; refine wpList_append_own_at _ rfl (.tmp 79) (.tmp 83) 141 rfl 0 146 i6 _ 11 104 Tryz.underlying141 hi6 hi6a hi6b hi6c rfl (by decide) (.slice soD LD.length capD) LD.length (rowSl LD) rfl ?A _ 1 1 [.int .i64 k1, .int .i64 p1, .int .i64 q1, .string s1, .int .i64 r1, .int .i64 k2, .int .i64 p2, .int .i64 q2, .string s2, .int .i64 r2, .bool false] rfl rfl ?B ?C ?D ?E ?F ?G)
  case A => exact ownsRow_ext (below_ext ((Below.refl _ _).alloc (Nat.le_refl _) _).drew (Nat.le_refl _)) HR3.out
  case B => exact cells_eleven_d _ _ _ _ _ _ _ _ _ _ _ _ _ _ rfl
  case C =>
    intro u hu
    simp only [List.mem_cons, List.not_mem_nil, or_false] at hu
    rcases hu with rfl | rfl | rfl | rfl | rfl | rfl | rfl | rfl | rfl | rfl | rfl <;> simp [Value.oneCell']
  case D => unfold maxLen; omega
  case E => omega
  case F => exact Nat.zero_le _
  case G =>
    intro v' w4 hown hgrow _ hat
    obtain ⟨rb', cap', rfl⟩ := slice_shape hown (by omega)
    have hrm := row_ne_m HR3.out HM3.out
    have HM4 := Lib.hid (show w4.heap[m]? = _ from (hgrow.block m (by simp; omega) (fun e => hrm m e.symm rfl)).trans ((Below.heap_alloc w3 _ m (by omega)).trans HM3.out))
    have HG4 := Lib.hid (show w4.heap[g]? = w3.heap[g]? from (hgrow.block g (by simp; omega) (fun e => HRGD.out g e.symm rfl)).trans (Below.heap_alloc w3 _ g (by omega)))
    have HOWN := Lib.hid hown
    have HAT := Lib.hid hat
    have HGR := Lib.hid hgrow
    clear hown hat hgrow hrm a0 a1 a2 a3 a4 b0 b1 b2 b3 b4 m0 m1 m2 fm0 fm1 fm2
    have m0 : w4.cell? ⟨m, 0, none⟩ = some (.slice soD LD.length capD) := by rw [cell_of_heap HM4.out]; rfl
    have m1 : w4.cell? ⟨m, 1, none⟩ = some (.map (some g)) := by rw [cell_of_heap HM4.out]; rfl
    have m2 : w4.cell? ⟨m, 2, none⟩ = some (.int .i64 (liveN LD : Nat)) := by rw [cell_of_heap HM4.out]; rfl
    have fm0 : w4.frozen? ⟨m, 0, none⟩ = false := frozen_of_heap HM4.out _
    have fm1 : w4.frozen? ⟨m, 1, none⟩ = false := frozen_of_heap HM4.out _
    have fm2 : w4.frozen? ⟨m, 2, none⟩ = false := frozen_of_heap HM4.out _
    go_wp2
    refine ⟨by kernel_rfl, ?_⟩
    go_wp2
    go_ret
    rw [← HLD.out]
    refine ⟨rfl, .slice (some ⟨rb', 0, none⟩) (LD.length + 1) cap', ?_, ?_, ?_⟩
    · exact push_omap HM4.out HOWN.out HPUT.out HG4.out hmg HII.out HNO.out HWF.out HKW.out HVW.out
    · exact push_mods HWD.out HMD.out ((Below.refl _ _).alloc (Nat.le_refl _) _).drew HGR.out (.inl rfl) (.inr (.inl rfl)) (fun b hb => .inr (by have := (ownBlock_lt HROWD0.out hb).1; omega))
    · intro b hb
      rcases HAT.out with h | h
      · exact .inr (by have := (ownBlock_lt HROWD0.out (h.symm.trans hb)).1; omega)
      · rw [h] at hb
        injection hb with hb
        subst hb
        exact .inr (by first | omega | (simp; omega))
set_option maxRecDepth 100000 in
set_option maxHeartbeats 2000000 in
theorem pomSet_push_gone_drop (w : World) (m g cap : Nat) (rb : Nat) (L : List Sl) (E : List (Value × Value)) (f : V → Option Nat) (hm : w.heap[m]? = some (.cells #[.slice (some ⟨rb, 0, none⟩) L.length cap, .map (some g), .int .i64 (liveN L : Nat)] 144))
    (hrow : w.ownsRow 0 146 11 (.slice (some ⟨rb, 0, none⟩) L.length cap) L.length (rowSl L)) (hL : L.length ≤ 1000) (hE : MapAt Tryz.prog 30 w g E) (hG : Graph E f) (hroom : liveN L + 8 < L.length - liveN L) (k1 p1 q1 : Int) (s1 : ByteArray) (r1 : Int) (k2 p2 q2 : Int) (s2 : ByteArray) (r2 : Int) (hkw : WfV ⟨k1, p1, q1, s1, r1⟩)
    (hvk : ∀ W, Calls Tryz.prog 43 #[.agg #[.int .i64 k1, .int .i64 p1, .int .i64 q1, .string s1, .int .i64 r1]] W (BoolPost W true)) (hvv : ∀ W, Calls Tryz.prog 43 #[.agg #[.int .i64 k2, .int .i64 p2, .int .i64 q2, .string s2, .int .i64 r2]] W (BoolPost W true)) (hk0 : (k1 == 0) = false) (hI : Idx L f) (hno : NoLive L f ⟨k1, p1, q1, s1, r1⟩) (hwf : ∀ s ∈ L, WfV s.k ∧ WfV s.v) (hvw : WfV ⟨k2, p2, q2, s2, r2⟩) (hv0 : (k2 == 0) = false) (n : Nat) (sl : Sl) (hsl : L[n]? = some sl) (hgf : sl.g = true)
    (hlk : ∀ W, W.heap[g]? = w.heap[g]? → (Instr.lookup 142 (.map (some g)) (.agg #[.int .i64 k1, .int .i64 p1, .int .i64 q1, .string s1, .int .i64 r1]) true).run Tryz.prog W = .ok (.tuple #[.int .i64 (n : Int), .bool true]) W) :
    Calls Tryz.prog 83 #[.pointer (some ⟨m, 0, none⟩), .agg #[.int .i64 k1, .int .i64 p1, .int .i64 q1, .string s1, .int .i64 r1], .agg #[.int .i64 k2, .int .i64 p2, .int .i64 q2, .string s2, .int .i64 r2]] w (OmPost w m g (.slice (some ⟨rb, 0, none⟩) L.length cap) (dropM L ++ [⟨⟨k1, p1, q1, s1, r1⟩, ⟨k2, p2, q2, s2, r2⟩, false⟩])) := by
  have HII := Lib.hid hI
  have HNO := Lib.hid hno
  have HWF := Lib.hid hwf
  have HKW := Lib.hid hkw
  have HVW := Lib.hid hvw
  have HEG := Lib.hid (And.intro hE hG)
  clear hI hno hwf hvw
  have hl2 := liveN_le L
  have hml : m < w.heap.size := (Array.getElem?_eq_some_iff.1 hm).1
  have hg : g < w.heap.size := hE.lt
  have hmg : m ≠ g := fun e => by
    obtain ⟨es, c, he, _⟩ := id hE
    rw [← e, hm] at he
    cases he
  obtain ⟨es0, c0, hgm, _⟩ := id hE
  have hrg := row_ne hrow hgm
  have HGM := Lib.hid hgm
  have HRG := Lib.hid hrg
  have HST := Lib.hid (put_at hE hG hkw)
  clear hgm hrg
  have HVK := Lib.hid hvk
  have HVV := Lib.hid hvv
  have HLK := Lib.hid hlk
  clear hvk hvv hlk hE hG
  go_enter Tryz.func83, Tryz.ntmps83
  go_wp2_with fail
  refine (HVK.out _).mono ?_
  rintro e w1 ⟨rfl, hb⟩
  have HKB := Lib.hid (hkeep hb (heap2_a _ _ _))
  have HVB := Lib.hid (hkeep hb (heap2_b _ _ _))
  have HW1 := Lib.hid (below_next (below2w _ _ _) hb)
  have hz1 := hb.size
  simp at hz1
  clear hb
  have b0 : w1.cell? ⟨w.heap.size + 1, 0, none⟩ = some (.int .i64 k2) := by rw [cell_of_heap HVB.out]; rfl
  have b1 : w1.cell? ⟨w.heap.size + 1, 1, none⟩ = some (.int .i64 p2) := by rw [cell_of_heap HVB.out]; rfl
  have b2 : w1.cell? ⟨w.heap.size + 1, 2, none⟩ = some (.int .i64 q2) := by rw [cell_of_heap HVB.out]; rfl
  have b3 : w1.cell? ⟨w.heap.size + 1, 3, none⟩ = some (.string s2) := by rw [cell_of_heap HVB.out]; rfl
  have b4 : w1.cell? ⟨w.heap.size + 1, 4, none⟩ = some (.int .i64 r2) := by rw [cell_of_heap HVB.out]; rfl
  go_wp2_with fail
  refine (HVV.out _).mono ?_
  rintro e w2 ⟨rfl, hb⟩
  have HKB2 := Lib.hid (hkeep hb HKB.out)
  have HVB2 := Lib.hid (hkeep hb HVB.out)
  have HW2 := Lib.hid (below_next HW1.out hb)
  have hz2 := hb.size
  have HMM := Lib.hid (hkeep HW2.out hm)
  have HROW := Lib.hid (ownsRow_ext (below_ext HW2.out (Nat.le_refl _)) hrow)
  have HGG := Lib.hid (bw HW2.out hg)
  have hnl : n < L.length := (List.getElem?_eq_some_iff.1 hsl).1
  have hgone : w2.cell? ⟨rb, n * 11 + 10, none⟩ = some (.bool sl.g) := (HROW.out.cellAt (n * 11 + 10) (by omega)).trans (rowSl_at L n 10 sl hsl (by decide))
  rw [hgf] at hgone
  clear hb b0 b1 b2 b3 b4 HKB HVB
  have a0 : w2.cell? ⟨w.heap.size, 0, none⟩ = some (.int .i64 k1) := by rw [cell_of_heap HKB2.out]; rfl
  have a1 : w2.cell? ⟨w.heap.size, 1, none⟩ = some (.int .i64 p1) := by rw [cell_of_heap HKB2.out]; rfl
  have a2 : w2.cell? ⟨w.heap.size, 2, none⟩ = some (.int .i64 q1) := by rw [cell_of_heap HKB2.out]; rfl
  have a3 : w2.cell? ⟨w.heap.size, 3, none⟩ = some (.string s1) := by rw [cell_of_heap HKB2.out]; rfl
  have a4 : w2.cell? ⟨w.heap.size, 4, none⟩ = some (.int .i64 r1) := by rw [cell_of_heap HKB2.out]; rfl
  have b0 : w2.cell? ⟨w.heap.size + 1, 0, none⟩ = some (.int .i64 k2) := by rw [cell_of_heap HVB2.out]; rfl
  have b1 : w2.cell? ⟨w.heap.size + 1, 1, none⟩ = some (.int .i64 p2) := by rw [cell_of_heap HVB2.out]; rfl
  have b2 : w2.cell? ⟨w.heap.size + 1, 2, none⟩ = some (.int .i64 q2) := by rw [cell_of_heap HVB2.out]; rfl
  have b3 : w2.cell? ⟨w.heap.size + 1, 3, none⟩ = some (.string s2) := by rw [cell_of_heap HVB2.out]; rfl
  have b4 : w2.cell? ⟨w.heap.size + 1, 4, none⟩ = some (.int .i64 r2) := by rw [cell_of_heap HVB2.out]; rfl
  have m0 : w2.cell? ⟨m, 0, none⟩ = some (.slice (some ⟨rb, 0, none⟩) L.length cap) := by rw [cell_of_heap HMM.out]; rfl
  have m1 : w2.cell? ⟨m, 1, none⟩ = some (.map (some g)) := by rw [cell_of_heap HMM.out]; rfl
  have m2 : w2.cell? ⟨m, 2, none⟩ = some (.int .i64 (liveN L : Nat)) := by rw [cell_of_heap HMM.out]; rfl
  have fm0 : w2.frozen? ⟨m, 0, none⟩ = false := frozen_of_heap HMM.out _
  have fm1 : w2.frozen? ⟨m, 1, none⟩ = false := frozen_of_heap HMM.out _
  have fm2 : w2.frozen? ⟨m, 2, none⟩ = false := frozen_of_heap HMM.out _
  go_wp2
  refine wp_region_lex mixed (by kernel_rfl) ?_
  go_wp2_with (at_lookup; refine wpList_look_map _ rfl _ _ _ _ rfl _ _ _ rfl rfl (HLK.out _ HGG.out) ?_)
  refine ⟨by kernel_rfl, ?_⟩
  go_wp2
  refine wp_region_lex mixed (by kernel_rfl) ?_
  go_wp2
  refine ⟨by kernel_rfl, ?_⟩
  go_wp2_with fail
  refine (pomDrop_c w2.drew.drew m g rb cap L E f HMM.out (ownsRow_keep HROW.out (fun _ _ => rfl)) hL (HEG.out.1.keep HGG.out) HEG.out.2 HII.out HWF.out).mono ?_
  rintro e wd ⟨rfl, soD, capD, hmD, hownD, ⟨ED, hED, hGD⟩, hmodsD⟩
  have hzD : w2.heap.size ≤ wd.heap.size := hmodsD.size
  have HKBD := Lib.hid (mods_keep hmodsD HKB2.out (by omega))
  have HVBD := Lib.hid (mods_keep hmodsD HVB2.out (by omega))
  have HWD := Lib.hid (show Mods (OmF m g (.slice (some ⟨rb, 0, none⟩) L.length cap)) w wd.drew from ((Mods.of_below HW2.out.drew.drew).trans (Mods.mono (G := OmF m g (.slice (some ⟨rb, 0, none⟩) L.length cap)) hmodsD (fun k _ e => e.elim Or.inl (fun h => Or.inr (Or.inl h))))).trans (Mods.of_below (Below.refl _ wd).drew))
  have HMD0 := Lib.hid hmD
  have HROWD0 := Lib.hid (show wd.ownsRow w2.heap.size 146 11 _ _ _ from hownD)
  have HID := Lib.hid HII.out.dropped
  have HND := Lib.hid (HII.out.noLive_drop HNO.out)
  have hwfD : ∀ s ∈ dropM L, WfV s.k ∧ WfV s.v := fun s hs => HWF.out s (mem_drop.1 hs).1
  have hlv : liveN (dropM L) = liveN L := by unfold liveN dropM; rw [List.filter_filter]; congr 1; simp
  have hdl := drop_len L
  rw [← hlv] at hmD
  obtain ⟨LD, hLD⟩ : ∃ LD, LD = dropM L := ⟨_, rfl⟩
  obtain ⟨fD, hfD⟩ : ∃ fD, fD = midF L f L.length := ⟨_, rfl⟩
  clear HEG HST HMM HROW HGG HII HNO HWF HGM HRG HLK HMD0 a0 a1 a2 a3 a4 b0 b1 b2 b3 b4 m0 m1 m2 fm0 fm1 fm2 hmodsD
  have HII := HID
  have HNO := HND
  clear HID HND
  have hl3 := liveN_le (dropM L)
  rw [← hLD] at hmD hownD HROWD0 HII HNO hwfD hdl hl3
  have HLD := Lib.hid hLD
  rw [← hfD] at hGD HII HNO
  have HWF := Lib.hid hwfD
  have HMMD := Lib.hid hmD
  have HROWD := Lib.hid (ownsRow_base hownD (Nat.zero_le _))
  obtain ⟨esD, cD, hgmD, _⟩ := id hED
  have HRGD := Lib.hid (row_ne hownD hgmD)
  have HST := Lib.hid (put_at hED hGD hkw)
  clear hownD hED hGD hlv hLD hfD hmD hwfD hgmD
  have a0 : wd.cell? ⟨w.heap.size, 0, none⟩ = some (.int .i64 k1) := by rw [cell_of_heap HKBD.out]; rfl
  have a1 : wd.cell? ⟨w.heap.size, 1, none⟩ = some (.int .i64 p1) := by rw [cell_of_heap HKBD.out]; rfl
  have a2 : wd.cell? ⟨w.heap.size, 2, none⟩ = some (.int .i64 q1) := by rw [cell_of_heap HKBD.out]; rfl
  have a3 : wd.cell? ⟨w.heap.size, 3, none⟩ = some (.string s1) := by rw [cell_of_heap HKBD.out]; rfl
  have a4 : wd.cell? ⟨w.heap.size, 4, none⟩ = some (.int .i64 r1) := by rw [cell_of_heap HKBD.out]; rfl
  have b0 : wd.cell? ⟨w.heap.size + 1, 0, none⟩ = some (.int .i64 k2) := by rw [cell_of_heap HVBD.out]; rfl
  have b1 : wd.cell? ⟨w.heap.size + 1, 1, none⟩ = some (.int .i64 p2) := by rw [cell_of_heap HVBD.out]; rfl
  have b2 : wd.cell? ⟨w.heap.size + 1, 2, none⟩ = some (.int .i64 q2) := by rw [cell_of_heap HVBD.out]; rfl
  have b3 : wd.cell? ⟨w.heap.size + 1, 3, none⟩ = some (.string s2) := by rw [cell_of_heap HVBD.out]; rfl
  have b4 : wd.cell? ⟨w.heap.size + 1, 4, none⟩ = some (.int .i64 r2) := by rw [cell_of_heap HVBD.out]; rfl
  have m0 : wd.cell? ⟨m, 0, none⟩ = some (.slice soD LD.length capD) := by rw [cell_of_heap HMMD.out]; rfl
  have m1 : wd.cell? ⟨m, 1, none⟩ = some (.map (some g)) := by rw [cell_of_heap HMMD.out]; rfl
  have m2 : wd.cell? ⟨m, 2, none⟩ = some (.int .i64 (liveN LD : Nat)) := by rw [cell_of_heap HMMD.out]; rfl
  have fm0 : wd.frozen? ⟨m, 0, none⟩ = false := frozen_of_heap HMMD.out _
  have fm1 : wd.frozen? ⟨m, 1, none⟩ = false := frozen_of_heap HMMD.out _
  have fm2 : wd.frozen? ⟨m, 2, none⟩ = false := frozen_of_heap HMMD.out _
  go_wp2
  refine wp_region_lex mixed (by kernel_rfl) ?_
  go_wp2_with (at_mapUpdate; refine wpList_store_map _ rfl _ _ _ _ rfl _ _ _ rfl rfl rfl _ (HST.out LD.length _ rfl) ?_; intro w3 hw3)
  refine ⟨by kernel_rfl, ?_⟩
  go_wp2
  obtain ⟨hput, hmods, hsz3⟩ := hw3
  have HPUT := Lib.hid hput
  have HK3 := Lib.hid (mods_keep hmods (show (wd.drew).heap[w.heap.size]? = _ from HKBD.out) (by omega))
  have HV3 := Lib.hid (mods_keep hmods (show (wd.drew).heap[w.heap.size + 1]? = _ from HVBD.out) (by omega))
  have HM3 := Lib.hid (mods_keep hmods (show (wd.drew).heap[m]? = _ from HMMD.out) hmg)
  have HR3 := Lib.hid (ownsRow_keep (w3 := w3) HROWD.out (fun b hb => hmods.block b (ownBlock_lt HROWD.out hb).2 (HRGD.out b hb)))
  have HMD := Lib.hid hmods
  have hsz3' : wd.heap.size ≤ w3.heap.size := Nat.le_of_eq (Eq.symm hsz3)
  clear hput hmods hsz3 a0 a1 a2 a3 a4 b0 b1 b2 b3 b4 m0 m1 m2 fm0 fm1 fm2
  have a0 : w3.cell? ⟨w.heap.size, 0, none⟩ = some (.int .i64 k1) := by rw [cell_of_heap HK3.out]; rfl
  have a1 : w3.cell? ⟨w.heap.size, 1, none⟩ = some (.int .i64 p1) := by rw [cell_of_heap HK3.out]; rfl
  have a2 : w3.cell? ⟨w.heap.size, 2, none⟩ = some (.int .i64 q1) := by rw [cell_of_heap HK3.out]; rfl
  have a3 : w3.cell? ⟨w.heap.size, 3, none⟩ = some (.string s1) := by rw [cell_of_heap HK3.out]; rfl
  have a4 : w3.cell? ⟨w.heap.size, 4, none⟩ = some (.int .i64 r1) := by rw [cell_of_heap HK3.out]; rfl
  have b0 : w3.cell? ⟨w.heap.size + 1, 0, none⟩ = some (.int .i64 k2) := by rw [cell_of_heap HV3.out]; rfl
  have b1 : w3.cell? ⟨w.heap.size + 1, 1, none⟩ = some (.int .i64 p2) := by rw [cell_of_heap HV3.out]; rfl
  have b2 : w3.cell? ⟨w.heap.size + 1, 2, none⟩ = some (.int .i64 q2) := by rw [cell_of_heap HV3.out]; rfl
  have b3 : w3.cell? ⟨w.heap.size + 1, 3, none⟩ = some (.string s2) := by rw [cell_of_heap HV3.out]; rfl
  have b4 : w3.cell? ⟨w.heap.size + 1, 4, none⟩ = some (.int .i64 r2) := by rw [cell_of_heap HV3.out]; rfl
  have m0 : w3.cell? ⟨m, 0, none⟩ = some (.slice soD LD.length capD) := by rw [cell_of_heap HM3.out]; rfl
  have m1 : w3.cell? ⟨m, 1, none⟩ = some (.map (some g)) := by rw [cell_of_heap HM3.out]; rfl
  have m2 : w3.cell? ⟨m, 2, none⟩ = some (.int .i64 (liveN LD : Nat)) := by rw [cell_of_heap HM3.out]; rfl
  have fm0 : w3.frozen? ⟨m, 0, none⟩ = false := frozen_of_heap HM3.out _
  have fm1 : w3.frozen? ⟨m, 1, none⟩ = false := frozen_of_heap HM3.out _
  have fm2 : w3.frozen? ⟨m, 2, none⟩ = false := frozen_of_heap HM3.out _
  obtain ⟨i6, hi6, hi6a, hi6b, hi6c⟩ := info_parts info161p
  refine wp_region_lex mixed (by kernel_rfl) ?_
  go_wp2_with (at_builtin; refine wpList_append_own_at _ rfl (.tmp 79) (.tmp 83) 141 rfl 0 146 i6 _ 11 104 Tryz.underlying141 hi6 hi6a hi6b hi6c rfl (by decide) (.slice soD LD.length capD) LD.length (rowSl LD) rfl ?A _ 1 1 [.int .i64 k1, .int .i64 p1, .int .i64 q1, .string s1, .int .i64 r1, .int .i64 k2, .int .i64 p2, .int .i64 q2, .string s2, .int .i64 r2, .bool false] rfl rfl ?B ?C ?D ?E ?F ?G)
  case A => exact ownsRow_ext (below_ext ((Below.refl _ _).alloc (Nat.le_refl _) _).drew (Nat.le_refl _)) HR3.out
  case B => exact cells_eleven_d _ _ _ _ _ _ _ _ _ _ _ _ _ _ rfl
  case C =>
    intro u hu
    simp only [List.mem_cons, List.not_mem_nil, or_false] at hu
    rcases hu with rfl | rfl | rfl | rfl | rfl | rfl | rfl | rfl | rfl | rfl | rfl <;> simp [Value.oneCell']
  case D => unfold maxLen; omega
  case E => omega
  case F => exact Nat.zero_le _
  case G =>
    intro v' w4 hown hgrow _ hat
    obtain ⟨rb', cap', rfl⟩ := slice_shape hown (by omega)
    have hrm := row_ne_m HR3.out HM3.out
    have HM4 := Lib.hid (show w4.heap[m]? = _ from (hgrow.block m (by simp; omega) (fun e => hrm m e.symm rfl)).trans ((Below.heap_alloc w3 _ m (by omega)).trans HM3.out))
    have HG4 := Lib.hid (show w4.heap[g]? = w3.heap[g]? from (hgrow.block g (by simp; omega) (fun e => HRGD.out g e.symm rfl)).trans (Below.heap_alloc w3 _ g (by omega)))
    have HOWN := Lib.hid hown
    have HAT := Lib.hid hat
    have HGR := Lib.hid hgrow
    clear hown hat hgrow hrm a0 a1 a2 a3 a4 b0 b1 b2 b3 b4 m0 m1 m2 fm0 fm1 fm2
    have m0 : w4.cell? ⟨m, 0, none⟩ = some (.slice soD LD.length capD) := by rw [cell_of_heap HM4.out]; rfl
    have m1 : w4.cell? ⟨m, 1, none⟩ = some (.map (some g)) := by rw [cell_of_heap HM4.out]; rfl
    have m2 : w4.cell? ⟨m, 2, none⟩ = some (.int .i64 (liveN LD : Nat)) := by rw [cell_of_heap HM4.out]; rfl
    have fm0 : w4.frozen? ⟨m, 0, none⟩ = false := frozen_of_heap HM4.out _
    have fm1 : w4.frozen? ⟨m, 1, none⟩ = false := frozen_of_heap HM4.out _
    have fm2 : w4.frozen? ⟨m, 2, none⟩ = false := frozen_of_heap HM4.out _
    go_wp2
    refine ⟨by kernel_rfl, ?_⟩
    go_wp2
    go_ret
    rw [← HLD.out]
    refine ⟨rfl, .slice (some ⟨rb', 0, none⟩) (LD.length + 1) cap', ?_, ?_, ?_⟩
    · exact push_omap HM4.out HOWN.out HPUT.out HG4.out hmg HII.out HNO.out HWF.out HKW.out HVW.out
    · exact push_mods HWD.out HMD.out ((Below.refl _ _).alloc (Nat.le_refl _) _).drew HGR.out (.inl rfl) (.inr (.inl rfl)) (fun b hb => .inr (by have := (ownBlock_lt HROWD0.out hb).1; omega))
    · intro b hb
      rcases HAT.out with h | h
      · exact .inr (by have := (ownBlock_lt HROWD0.out (h.symm.trans hb)).1; omega)
      · rw [h] at hb
        injection hb with hb
        subst hb
        exact .inr (by first | omega | (simp; omega))
set_option maxRecDepth 100000 in
set_option maxHeartbeats 2000000 in
theorem pomSet_none (w : World) (m g cap : Nat) (so : Option Addr) (L : List Sl) (E : List (Value × Value)) (f : V → Option Nat) (hm : w.heap[m]? = some (.cells #[.slice so L.length cap, .map (some g), .int .i64 (liveN L : Nat)] 144))
    (hrow : w.ownsRow 0 146 11 (.slice so L.length cap) L.length (rowSl L)) (hL : L.length ≤ 1000) (hE : MapAt Tryz.prog 30 w g E) (hG : Graph E f)  (k1 p1 q1 : Int) (s1 : ByteArray) (r1 : Int) (k2 p2 q2 : Int) (s2 : ByteArray) (r2 : Int) (hkw : WfV ⟨k1, p1, q1, s1, r1⟩)
    (hvk : ∀ W, Calls Tryz.prog 43 #[.agg #[.int .i64 k1, .int .i64 p1, .int .i64 q1, .string s1, .int .i64 r1]] W (BoolPost W true)) (hvv : ∀ W, Calls Tryz.prog 43 #[.agg #[.int .i64 k2, .int .i64 p2, .int .i64 q2, .string s2, .int .i64 r2]] W (BoolPost W true)) (hk0 : (k1 == 0) = false) (hI : Idx L f) (hv0 : (k2 == 0) = true)
    (hlk : ∀ W, W.heap[g]? = w.heap[g]? → (Instr.lookup 142 (.map (some g)) (.agg #[.int .i64 k1, .int .i64 p1, .int .i64 q1, .string s1, .int .i64 r1]) true).run Tryz.prog W = .ok (.tuple #[.int .i64 0, .bool false]) W) :
    Calls Tryz.prog 83 #[.pointer (some ⟨m, 0, none⟩), .agg #[.int .i64 k1, .int .i64 p1, .int .i64 q1, .string s1, .int .i64 r1], .agg #[.int .i64 k2, .int .i64 p2, .int .i64 q2, .string s2, .int .i64 r2]] w (fun e w' => e = .returned (.int .i64 0) ∧ Below w.heap.size w w') := by
  have hl2 := liveN_le L
  have hml : m < w.heap.size := (Array.getElem?_eq_some_iff.1 hm).1
  have hg : g < w.heap.size := hE.lt
  have hmg : m ≠ g := fun e => by
    obtain ⟨es, c, he, _⟩ := id hE
    rw [← e, hm] at he
    cases he
  obtain ⟨es0, c0, hgm, _⟩ := id hE
  have hrg := row_ne hrow hgm
  have HGM := Lib.hid hgm
  have HRG := Lib.hid hrg
  have HST := Lib.hid (put_at hE hG hkw)
  clear hgm hrg
  have HVK := Lib.hid hvk
  have HVV := Lib.hid hvv
  have HLK := Lib.hid hlk
  clear hvk hvv hlk hE hG
  go_enter Tryz.func83, Tryz.ntmps83
  go_wp2_with fail
  refine (HVK.out _).mono ?_
  rintro e w1 ⟨rfl, hb⟩
  have HKB := Lib.hid (hkeep hb (heap2_a _ _ _))
  have HVB := Lib.hid (hkeep hb (heap2_b _ _ _))
  have HW1 := Lib.hid (below_next (below2w _ _ _) hb)
  have hz1 := hb.size
  simp at hz1
  clear hb
  have b0 : w1.cell? ⟨w.heap.size + 1, 0, none⟩ = some (.int .i64 k2) := by rw [cell_of_heap HVB.out]; rfl
  have b1 : w1.cell? ⟨w.heap.size + 1, 1, none⟩ = some (.int .i64 p2) := by rw [cell_of_heap HVB.out]; rfl
  have b2 : w1.cell? ⟨w.heap.size + 1, 2, none⟩ = some (.int .i64 q2) := by rw [cell_of_heap HVB.out]; rfl
  have b3 : w1.cell? ⟨w.heap.size + 1, 3, none⟩ = some (.string s2) := by rw [cell_of_heap HVB.out]; rfl
  have b4 : w1.cell? ⟨w.heap.size + 1, 4, none⟩ = some (.int .i64 r2) := by rw [cell_of_heap HVB.out]; rfl
  go_wp2_with fail
  refine (HVV.out _).mono ?_
  rintro e w2 ⟨rfl, hb⟩
  have HKB2 := Lib.hid (hkeep hb HKB.out)
  have HVB2 := Lib.hid (hkeep hb HVB.out)
  have HW2 := Lib.hid (below_next HW1.out hb)
  have hz2 := hb.size
  have HMM := Lib.hid (hkeep HW2.out hm)
  have HROW := Lib.hid (ownsRow_ext (below_ext HW2.out (Nat.le_refl _)) hrow)
  have HGG := Lib.hid (bw HW2.out hg)
  clear hb b0 b1 b2 b3 b4 HKB HVB
  have a0 : w2.cell? ⟨w.heap.size, 0, none⟩ = some (.int .i64 k1) := by rw [cell_of_heap HKB2.out]; rfl
  have a1 : w2.cell? ⟨w.heap.size, 1, none⟩ = some (.int .i64 p1) := by rw [cell_of_heap HKB2.out]; rfl
  have a2 : w2.cell? ⟨w.heap.size, 2, none⟩ = some (.int .i64 q1) := by rw [cell_of_heap HKB2.out]; rfl
  have a3 : w2.cell? ⟨w.heap.size, 3, none⟩ = some (.string s1) := by rw [cell_of_heap HKB2.out]; rfl
  have a4 : w2.cell? ⟨w.heap.size, 4, none⟩ = some (.int .i64 r1) := by rw [cell_of_heap HKB2.out]; rfl
  have b0 : w2.cell? ⟨w.heap.size + 1, 0, none⟩ = some (.int .i64 k2) := by rw [cell_of_heap HVB2.out]; rfl
  have b1 : w2.cell? ⟨w.heap.size + 1, 1, none⟩ = some (.int .i64 p2) := by rw [cell_of_heap HVB2.out]; rfl
  have b2 : w2.cell? ⟨w.heap.size + 1, 2, none⟩ = some (.int .i64 q2) := by rw [cell_of_heap HVB2.out]; rfl
  have b3 : w2.cell? ⟨w.heap.size + 1, 3, none⟩ = some (.string s2) := by rw [cell_of_heap HVB2.out]; rfl
  have b4 : w2.cell? ⟨w.heap.size + 1, 4, none⟩ = some (.int .i64 r2) := by rw [cell_of_heap HVB2.out]; rfl
  have m0 : w2.cell? ⟨m, 0, none⟩ = some (.slice so L.length cap) := by rw [cell_of_heap HMM.out]; rfl
  have m1 : w2.cell? ⟨m, 1, none⟩ = some (.map (some g)) := by rw [cell_of_heap HMM.out]; rfl
  have m2 : w2.cell? ⟨m, 2, none⟩ = some (.int .i64 (liveN L : Nat)) := by rw [cell_of_heap HMM.out]; rfl
  have fm0 : w2.frozen? ⟨m, 0, none⟩ = false := frozen_of_heap HMM.out _
  have fm1 : w2.frozen? ⟨m, 1, none⟩ = false := frozen_of_heap HMM.out _
  have fm2 : w2.frozen? ⟨m, 2, none⟩ = false := frozen_of_heap HMM.out _
  go_wp2
  refine wp_region_lex mixed (by kernel_rfl) ?_
  go_wp2_with (at_lookup; refine wpList_look_map _ rfl _ _ _ _ rfl _ _ _ rfl rfl (HLK.out _ HGG.out) ?_)
  refine ⟨by kernel_rfl, ?_⟩
  go_wp2
  go_ret
  exact ⟨rfl, HW2.out.drew⟩
theorem valid_all {v : V} (h : validV v = true) (W : World) : Calls Tryz.prog 43 #[v.v] W (BoolPost W true) := by
  obtain ⟨k, p, q, s, r⟩ := v
  have := pvalidV_c W k p q s r
  rw [h] at this
  exact this
theorem pomSet_c (w : World) (m g : Nat) (sv : Value) (L : List Sl) (hO : OMap w m g sv L) (hL : L.length ≤ 1000) (k v : V) (hk : WfV k) (hv : WfV v) (hkv : validV k = true) (hvv : validV v = true) (hk0 : k.k ≠ 0) :
    Calls Tryz.prog 83 #[.pointer (some ⟨m, 0, none⟩), k.v, v.v] w (OmPost w m g sv (setM L k v)) := by
  have hvk := valid_all hkv
  have hvv' := valid_all hvv
  obtain ⟨hm, hrow, hwf, E, f, hE, hG, hI⟩ := id hO
  obtain ⟨so, cap, rfl⟩ := slice_shape0 hrow
  obtain ⟨k1, p1, q1, s1, r1⟩ := k
  obtain ⟨k2, p2, q2, s2, r2⟩ := v
  have hk0' : (k1 == 0) = false := beq_eq_false_iff_ne.2 hk0
  rcases look_ways hE hG hk with ⟨hf, hlk⟩ | ⟨n, hf, hlk⟩
  · rw [hI.set_none (.inl hf)]
    by_cases hv0 : k2 = 0
    · rw [if_pos hv0]
      exact (pomSet_none w m g cap so L E f hm hrow hL hE hG k1 p1 q1 s1 r1 k2 p2 q2 s2 r2 hk hvk hvv' hk0' hI (beq_iff_eq.2 hv0) hlk).mono fun e w' h => om_same hO h.1 h.2
    · rw [if_neg hv0]
      unfold roomM
      by_cases hr : liveN L + 8 < L.length - liveN L
      · rw [if_pos hr]
        obtain ⟨rb, cap', he⟩ := slice_shape hrow (by omega)
        injection he with he1 he2 he3
        subst he1
        exact pomSet_push_drop w m g cap rb L E f hm hrow hL hE hG hr k1 p1 q1 s1 r1 k2 p2 q2 s2 r2 hk hvk hvv' hk0' hI (.inl hf) hwf hv (beq_eq_false_iff_ne.2 hv0) hlk
      · rw [if_neg hr]
        exact pomSet_push w m g cap so L E f hm hrow hL hE hG hr k1 p1 q1 s1 r1 k2 p2 q2 s2 r2 hk hvk hvv' hk0' hI (.inl hf) hwf hv (beq_eq_false_iff_ne.2 hv0) hlk
  · obtain ⟨sl, hsl, hsk⟩ := hI.key _ _ hf
    have hn : n < L.length := (List.getElem?_eq_some_iff.1 hsl).1
    obtain ⟨rb, cap', he⟩ := slice_shape hrow (by omega)
    injection he with he1 he2 he3
    subst he1
    have hgl := hE.lt
    cases hg : sl.g with
    | false =>
      rw [hI.set_some hf hsl hg]
      by_cases hv0 : k2 = 0
      · rw [if_pos hv0]
        exact (pomSet_remove w m g rb cap n L hm hrow hL hgl k1 p1 q1 s1 r1 k2 p2 q2 s2 r2 sl hsl hlk hvk hvv' hk0' (beq_iff_eq.2 hv0) hg (liveN_set L n sl sl hsl hg).2).mono (by
          rintro e w' ⟨rfl, w2, hb, rfl⟩
          exact om_remove hm hrow hwf hE hG hI hf hsl hg hk hb)
      · rw [if_neg hv0]
        exact (pomSet_write w m g rb cap n L hm hrow hL hgl k1 p1 q1 s1 r1 k2 p2 q2 s2 r2 sl hsl hlk hvk hvv' hk0' (beq_eq_false_iff_ne.2 hv0) hg).mono (by
          rintro e w' ⟨rfl, w2, hb, rfl⟩
          exact om_write hm hrow hwf hE hG hI hf hsl hg hk hv hb)
    | true =>
      have hno : NoLive L f ⟨k1, p1, q1, s1, r1⟩ := .inr ⟨n, sl, hf, hsl, hg⟩
      rw [hI.set_none hno]
      by_cases hv0 : k2 = 0
      · rw [if_pos hv0]
        exact (pomSet_gone w m g rb cap n L hm hrow hL hgl k1 p1 q1 s1 r1 k2 p2 q2 s2 r2 sl hsl hlk hvk hvv' hk0' (beq_iff_eq.2 hv0) hg).mono fun e w' h => om_same hO h.1 h.2
      · rw [if_neg hv0]
        unfold roomM
        by_cases hr : liveN L + 8 < L.length - liveN L
        · rw [if_pos hr]
          exact pomSet_push_gone_drop w m g cap rb L E f hm hrow hL hE hG hr k1 p1 q1 s1 r1 k2 p2 q2 s2 r2 hk hvk hvv' hk0' hI hno hwf hv (beq_eq_false_iff_ne.2 hv0) n sl hsl hg hlk
        · rw [if_neg hr]
          exact pomSet_push_gone w m g cap rb L E f hm hrow hL hE hG hr k1 p1 q1 s1 r1 k2 p2 q2 s2 r2 hk hvk hvv' hk0' hI hno hwf hv (beq_eq_false_iff_ne.2 hv0) n sl hsl hg hlk
end Go.Proofs.YtpbcmlnjiocmoaaGreatDoorR
