import Derived.Test.YtpbcmlnjiocmoaaGreatDoorRKc
import Derived.Test.YtpbcmlnjiocmoaaGreatDoorRKi
set_option linter.unusedVariables false
set_option linter.unusedSimpArgs false
set_option maxRecDepth 100000
set_option maxHeartbeats 40000000
namespace Go.Proofs.YtpbcmlnjiocmoaaGreatDoorR
open Go.RowKit Go.Proofs.Lexi
def RunPost (base n0 : Nat) (O0 : Nat → Prop) (w0 : World) (h : Nat) (M : LH) (AA : List (List V)) (ti : Nat) (L0 : List Int) (sb : Nat) (O : Nat → Prop) (w : World) (e : Ending) (w' : World) : Prop :=
  ∃ so3 cap3 Ls O', e = .returned (acV 1 0 V.nil (.slice so3 0 cap3) ⟨#[]⟩ 0 0 (.slice none 0 0)) ∧ w'.ownsRow w.heap.size 30 5 (.slice so3 0 cap3) 0 (rowV []) ∧ List.Perm Ls L0 ∧ Asc Ls 0 Ls.length ∧ PHp base n0 w' h M (AA.set ti (Ls.map nI)) O' ∧ QS base O0 w0 O' w' ∧ KeepX sb O w O' w'
theorem run_done {base n0 : Nat} {O0 : Nat → Prop} {w0 : World} {h c sb : Nat} {nm : ByteArray} {so : Option Addr} {na ca : Nat} {M : LH} {AA : List (List V)} {ti : Nat} {Os : Nat → Prop} {ws : World} {L0 : List Int} {b2 : Nat} {Ls : List Int} {wd : Nat} {O : Nat → Prop} {w1 : World} (HR : RunI base n0 O0 w0 h c sb nm so na ca M AA ti Os ws L0 b2 Ls wd 0 0 0 wd O w1) {so3 : Option Addr} {cap3 B : Nat} (hr : w1.ownsRow B 30 5 (.slice so3 0 cap3) 0 (rowV [])) (hB : b2 < B) (hw : ws.heap.size = b2) (h0 : w0.heap.size ≤ b2) (hn : L0.length ≤ wd) (d0 d1 d2 d3 d4 d5 d6 d7 d8 d9 d10 d11 : Value) :
    RunPost base n0 O0 w0 h M AA ti L0 sb Os ws (.returned (acV 1 0 V.nil (.slice so3 0 cap3) ⟨#[]⟩ 0 0 (.slice none 0 0))) ((((((((((((w1.setCell ⟨b2, 0, none⟩ d0).setCell ⟨b2, 1, none⟩ d1).setCell ⟨b2, 2, none⟩ d2).setCell ⟨b2, 3, none⟩ d3).setCell ⟨b2, 4, none⟩ d4).setCell ⟨b2, 5, none⟩ d5).setCell ⟨b2, 6, none⟩ d6).setCell ⟨b2, 7, none⟩ d7).setCell ⟨b2, 8, none⟩ d8).setCell ⟨b2, 9, none⟩ d9).setCell ⟨b2, 10, none⟩ d10).setCell ⟨b2, 11, none⟩ d11) := by
  have hm := mods_twelve (F := fun k => k = b2) (Mods.refl _ w1) (b := b2) (.inl rfl) 0 1 2 3 4 5 6 7 8 9 10 11 d0 d1 d2 d3 d4 d5 d6 d7 d8 d9 d10 d11
  have hl := HR.len
  exact ⟨so3, cap3, Ls, O, rfl, ownsRow_base (row_twelve hr (row_away hr hB) d0 d1 d2 d3 d4 d5 d6 d7 d8 d9 d10 d11) (by omega), HR.2.1, HR.1.sorted (by omega), HR.2.2.1.hp.mods HR.2.2.2.1.1 hm, HR.2.2.1.qs.only h0 (Only.of_mods hm), fun b o k1 k2 k3 k4 => ⟨(hm.block b (Array.getElem?_eq_some_iff.1 (HR.2.2.2.2 b o k1 k2 k3 k4).1).1 (fun e => by have := (Array.getElem?_eq_some_iff.1 k1).1; omega)).trans (HR.2.2.2.2 b o k1 k2 k3 k4).1, (HR.2.2.2.2 b o k1 k2 k3 k4).2⟩⟩
theorem run_begin {base n0 : Nat} {O0 : Nat → Prop} {w0 : World} {h c sb : Nat} {nm : ByteArray} {so : Option Addr} {na ca : Nat} {M : LH} {AA : List (List V)} {ti : Nat} {Os : Nat → Prop} {ws : World} {L0 : List Int} {b2 : Nat} {Ls : List Int} {wd p lo i j : Nat} {O : Nat → Prop} {wr : World} (HR : RunI base n0 O0 w0 h c sb nm so na ca M AA ti Os ws L0 b2 Ls wd p lo i j O wr) (hsb : w0.heap.size ≤ sb) (hcb : c ≠ sb) (hbs : b2 ≠ sb) {W : World} (ho : Only sb wr W) {wd2 p2 lo2 : Nat} {x y : Int} (hW : W.heap[sb]? = some (oSo c ti V.nil (L0.length : Int) (wd2 : Int) ((lo2 : Int) + 1) x y)) (hM : MInv Ls wd2 p2 lo2 lo2 (lo2 + wd2)) (h1 : lo2 ≤ 5000) (h2 : wd2 ≤ 5000) :
    Calls Tryz.prog 68 #[.pointer (some ⟨sb, 0, none⟩)] W (fun e w' => e = .returned (.tuple #[]) ∧ RunI base n0 O0 w0 h c sb nm so na ca M AA ti Os ws L0 b2 Ls wd2 p2 lo2 lo2 (lo2 + wd2) O w') := by
  refine (tBegin_c W sb c ti V.nil _ _ _ _ _ hW ⟨by omega, by omega⟩ ⟨by omega, by omega⟩).mono ?_
  rintro e w' ⟨rfl, hn, hm⟩
  have hoo : Only sb wr w' := Only.of_mods (Mods.trans (Only.mods ho) hm)
  have e1 : ((lo2 : Int) + 1 + (wd2 : Int)) = ((lo2 + wd2 : Nat) : Int) + 1 := by push_cast; omega
  rw [e1] at hn
  refine ⟨rfl, hM, HR.2.1, HR.2.2.1.store hsb hcb hoo hn, ⟨?_, HR.2.2.2.1.2⟩, HR.2.2.2.2.only hoo⟩
  exact (hoo.block b2 hbs (Array.getElem?_eq_some_iff.1 HR.2.2.2.1.1).1).trans HR.2.2.2.1.1
set_option maxRecDepth 100000 in
set_option maxHeartbeats 40000000 in
theorem tRun_c {base n0 : Nat} {O0 : Nat → Prop} {w0 : World} {h c sb : Nat} {nm : ByteArray} {so : Option Addr} {na ca : Nat} {M : LH} {AA : List (List V)} {ti : Nat} {L0 : List Int} {O : Nat → Prop} (w : World) (S : SRun base n0 O0 w0 h c sb nm (.slice so na ca) M AA ti V.nil L0 (L0.length : Int) 1 1 1 2 O w) (hsb : w0.heap.size ≤ sb) (hcb : c ≠ sb) (hb0 : base ≤ w0.heap.size) (hn : n0 ≤ 1000) (hti : ti ≤ 100000) {o : LO} (hM : M[ti]? = some o) (h4 : o.kind = 4) (htl : ti < AA.length) (hl : L0.length ≤ 300) (hLs : ∀ x ∈ L0, -2147483647 ≤ x ∧ x ≤ 2147483647) :
    Calls Tryz.prog 69 #[.pointer (some ⟨sb, 0, none⟩)] w (RunPost base n0 O0 w0 h M AA ti L0 sb O w) := by
  have HMM := Lib.hid (hM)
  have HLL := Lib.hid (hLs)
  obtain ⟨b2, hb2⟩ : ∃ b2, b2 = w.heap.size := ⟨_, rfl⟩
  obtain ⟨W1, hW1⟩ : ∃ W1, W1 = w.alloc oAc := ⟨_, rfl⟩
  have HR1 := Lib.hid ((show RunI base n0 O0 w0 h c sb nm so na ca M AA ti O w L0 b2 L0 1 0 0 0 1 O W1 from by rw [hW1, hb2]; exact ⟨MInv.init L0, .refl _, S.below (below1 _ _), ⟨heap1 _ _, fun e => Nat.lt_irrefl _ (S.hp.lt _ e)⟩, (KeepX.refl sb O w).below (below1 _ _)⟩))
  have HW1 := Lib.hid ((show w.heap.size ≤ W1.heap.size by rw [hW1]; exact (below1 _ _).size))
  have hz0 : base ≤ w.heap.size := S.base_le hb0
  have hbs : b2 ≠ sb := by have := (Array.getElem?_eq_some_iff.1 S.hs.1).1; omega
  have hw0 : w0.heap.size ≤ b2 := by rw [hb2]; exact S.qs.size
  have HWB := Lib.hid (hb2.symm)
  have hb2l : b2 < W1.heap.size := (Array.getElem?_eq_some_iff.1 HR1.out.2.2.2.1.1).1
  clear S hM hLs
  go_enter Tryz.func69, Tryz.ntmps69
  go_wp2
  try rw [show w.alloc oAc = W1 from hW1.symm]
  try rw [← hb2]
  clear hW1 hb2
  go_step3
  go_wp2
  go_step3
  go_wp2
  go_loopg [3] (2 * L0.length - 1) (fun gg s3 wr => ∃ Ls wd Oq, gg = 2 * L0.length - wd ∧ wd ≤ 2 * L0.length + 1 ∧ Hid (RunI base n0 O0 w0 h c sb nm so na ca M AA ti O w L0 b2 Ls wd 0 0 0 wd Oq wr))
  case atStart => exact ⟨L0, 1, O, rfl, by omega, HR1⟩
  case round =>
    obtain ⟨Ls, wd, Oa, hgg, hwd, HR⟩ := hrel
    subst hgg
    have hln := HR.out.len
    have hw1 : 1 ≤ wd := HR.out.1.hw
    have HSb := Lib.hid (HR.out.box)
    have hsl := (Array.getElem?_eq_some_iff.1 HSb.out).1
    obtain ⟨c0, c1, c2, c3, c4, c5, c6, c7, c8, c9, c10, c11, c12, c13, c14, c15⟩ := cells16 HSb.out
    obtain ⟨fc0, fc1, fc2, fc3, fc4, fc5, fc6, fc7, fc8, fc9, fc10, fc11, fc12, fc13, fc14, fc15⟩ := froz16 HSb.out
    by_cases hout : wd < L0.length
    · have d1 : decide ((wd : Int) < (L0.length : Int)) = true := decide_eq_true (by omega)
      go_wp2_with fail
      go_quiet (fail)
      clear c0 c1 c2 c3 c4 c5 c6 c7 c8 c9 c10 c11 c12 c13 c14 c15 fc0 fc1 fc2 fc3 fc4 fc5 fc6 fc7 fc8 fc9 fc10 fc11 fc12 fc13 fc14 fc15
      go_wp2
      go_loopg [3] L0.length (fun gg s3 wr => ∃ Ls p lo Oq, gg = L0.length - lo ∧ lo ≤ L0.length + 2 * wd ∧ Hid (RunI base n0 O0 w0 h c sb nm so na ca M AA ti O w L0 b2 Ls wd p lo lo (lo + wd) Oq wr))
      case atStart => exact ⟨Ls, 0, 0, Oa, rfl, by omega, Lib.hid (by rw [Nat.zero_add]; exact HR.out.below (bdn (Below.refl _ _) _))⟩
      case round =>
        obtain ⟨Lt, p, lo, Ob, hgm, hlo, HM⟩ := hrel
        subst hgm
        have hlm := HM.out.len
        have HSm := Lib.hid (HM.out.box)
        have hsm := (Array.getElem?_eq_some_iff.1 HSm.out).1
        obtain ⟨c0, c1, c2, c3, c4, c5, c6, c7, c8, c9, c10, c11, c12, c13, c14, c15⟩ := cells16 HSm.out
        obtain ⟨fc0, fc1, fc2, fc3, fc4, fc5, fc6, fc7, fc8, fc9, fc10, fc11, fc12, fc13, fc14, fc15⟩ := froz16 HSm.out
        have e1 : IntKind.i64.wrap ((lo : Int) + 1 + (wd : Int)) = (lo : Int) + 1 + (wd : Int) := w64_in (by omega) (by omega)
        by_cases hmid : lo + wd < L0.length
        · have d2 : decide ((lo : Int) + 1 + (wd : Int) ≤ (L0.length : Int)) = true := decide_eq_true (by omega)
          have e2 : IntKind.i64.wrap (2 * (wd : Int)) = 2 * (wd : Int) := w64_in (by omega) (by omega)
          have e3 : IntKind.i64.wrap ((lo : Int) + 1 + 2 * (wd : Int)) = (lo : Int) + 1 + 2 * (wd : Int) := w64_in (by omega) (by omega)
          have e4 : IntKind.i64.wrap ((L0.length : Int) + 1) = (L0.length : Int) + 1 := w64_in (by omega) (by omega)
          obtain ⟨hi, hhi⟩ : ∃ hi : Nat, hi = min (lo + 2 * wd) L0.length := ⟨_, rfl⟩
          have hmin : min ((lo : Int) + 1 + 2 * (wd : Int)) ((L0.length : Int) + 1) = (hi : Int) + 1 := by omega
          have HHI := Lib.hid (hhi)
          clear hhi
          go_wp2_with fail
          go_quiet (fail)
          go_wp2_with fail
          go_quiet (fail)
          clear e1 e2 e3 e4 hmin d2 c0 c1 c2 c3 c4 c5 c6 c7 c8 c9 c10 c11 c12 c13 c14 c15 fc0 fc1 fc2 fc3 fc4 fc5 fc6 fc7 fc8 fc9 fc10 fc11 fc12 fc13 fc14 fc15
          go_wp2
          go_loopg [5] (L0.length - lo) (fun gg s5 wr => ∃ Ls i j Oq, gg = L0.length - i ∧ Hid (RunI base n0 O0 w0 h c sb nm so na ca M AA ti O w L0 b2 Ls wd p lo i j Oq wr))
          case atStart => exact ⟨Lt, lo, lo + wd, Ob, rfl, Lib.hid (HM.out.below (by first | exact bdn (Below.refl _ _) _ | exact bdn (bdn (Below.refl _ _) _) _))⟩
          case round =>
            obtain ⟨Lu, i, j, Oc, hgi, HI⟩ := hrel
            subst hgi
            have hlu := HI.out.len
            have hi1 := HI.out.1.h1
            have hi2 := HI.out.1.h2
            have hi3 := HI.out.1.h3
            have hi4 := HI.out.1.h4
            have HSi := Lib.hid (HI.out.box)
            have hsi := (Array.getElem?_eq_some_iff.1 HSi.out).1
            obtain ⟨c0, c1, c2, c3, c4, c5, c6, c7, c8, c9, c10, c11, c12, c13, c14, c15⟩ := cells16 HSi.out
            obtain ⟨fc0, fc1, fc2, fc3, fc4, fc5, fc6, fc7, fc8, fc9, fc10, fc11, fc12, fc13, fc14, fc15⟩ := froz16 HSi.out
            by_cases hin : i < j ∧ j < hi
            · obtain ⟨hin1, hin2⟩ := hin
              have hjn : j < Lu.length := by have := HHI.out; omega
              have d3 : decide ((i : Int) + 1 < (j : Int) + 1) = true := decide_eq_true (by omega)
              have d4 : decide ((j : Int) + 1 < (hi : Int) + 1) = true := decide_eq_true (by omega)
              have HLU := Lib.hid ((show ∀ x ∈ Lu, -2147483647 ≤ x ∧ x ≤ 2147483647 from fun x hx => HLL.out x (HI.out.2.1.mem_iff.1 hx)))
              have HAsk := Lib.hid (fun W (hb : Below wr.heap.size wr W) => tAsk_c W sb c h nm so na ca (hkeep hb HI.out.2.2.1.hc.1) (HI.out.2.2.1.hp.below hb) hn hti HMM.out (List.getElem?_set_self htl) h4 (by omega) HLU.out (L0.length : Int) (wd : Int) ((lo : Int) + 1) i j (hkeep hb HI.out.2.2.1.hs.1) (by omega) hjn (fun x hx => by simp only [List.mem_cons, List.mem_nil_iff, or_false] at hx; rcases hx with rfl | rfl | rfl | rfl | rfl <;> omega))
              go_wp2_with fail
              go_quiet (fail)
              go_wp2_with fail
              refine (HAsk.out _ (bdn (Below.refl _ _) _)).mono ?_
              rintro e1 w1 ⟨rfl, hb⟩
              have HIa := Lib.hid (HI.out.below (below_next (bdn (Below.refl _ _) _) hb))
              clear hb d3 d4 c0 c1 c2 c3 c4 c5 c6 c7 c8 c9 c10 c11 c12 c13 c14 c15 fc0 fc1 fc2 fc3 fc4 fc5 fc6 fc7 fc8 fc9 fc10 fc11 fc12 fc13 fc14 fc15
              by_cases hD : gI Lu j < gI Lu i
              · have dD : decide (gI Lu j < gI Lu i) = true := decide_eq_true hD
                go_wp2_with fail
                refine (tAns_yes _ (HIa.out.below (below1 _ _)).2.2.1 hsb hcb hb0 hn hti HMM.out h4 htl (by omega) (by omega) hjn HLU.out).mono ?_
                rintro e2 w2 ⟨rfl, O2, hS2, hK2⟩
                have HRn := Lib.hid ((show RunI base n0 O0 w0 h c sb nm so na ca M AA ti O w L0 b2 (rotL Lu i j) wd p lo (i + 1) (j + 1) O2 w2 from by have q1 : (((i + 1 : Nat) : Int) + 1) = (i : Int) + 1 + 1 := (by push_cast; rfl); have q2 : (((j + 1 : Nat) : Int) + 1) = (j : Int) + 1 + 1 := (by push_cast; rfl); unfold RunI; rw [q1, q2]; exact ⟨HIa.out.1.less hin1 (by have := HHI.out; omega) hjn hD, (rot_perm (by omega) hjn).trans HIa.out.2.1, hS2, hK2 b2 oAc (HIa.out.below (below1 _ _)).2.2.2.1.1 (npb (by decide)) HIa.out.2.2.2.1.2 hbs, (HIa.out.below (below1 _ _)).2.2.2.2.trans hK2⟩))
                clear hS2 hK2 dD hD
                have Hs2 := Lib.hid (HRn.out.2.2.1.hs.1)
                have Hc2 := Lib.hid (HRn.out.2.2.1.hc.1)
                have hs2l := (Array.getElem?_eq_some_iff.1 Hs2.out).1
                have hc2l := (Array.getElem?_eq_some_iff.1 Hc2.out).1
                obtain ⟨s0, s1, s2, s3, s4, s5, s6, s7, s8, s9, s10, s11, s12, s13, s14, s15⟩ := cells16 Hs2.out
                obtain ⟨q0, q1, q2, q3, q4, q5, q6, q7, q8, q9, q10, q11, q12, q13, q14, q15⟩ := cells16 Hc2.out
                go_wp2
                go_roundg (L0.length - (i + 1))
                case measure => omega
                case rel => exact ⟨rotL Lu i j, i + 1, j + 1, O2, rfl, HRn⟩
              · have dD : decide (gI Lu j < gI Lu i) = false := decide_eq_false hD
                go_wp2_with fail
                refine (tAns_no _ sb c ti V.nil _ _ _ _ _ (HIa.out.below (below1 _ _)).box ⟨by omega, by omega⟩).mono ?_
                rintro e2 w2 ⟨rfl, hn2, ho2⟩
                have HRn := Lib.hid ((show RunI base n0 O0 w0 h c sb nm so na ca M AA ti O w L0 b2 Lu wd p lo (i + 1) j Oc w2 from by have q1 : (((i + 1 : Nat) : Int) + 1) = (i : Int) + 1 + 1 := (by push_cast; rfl); unfold RunI; rw [q1]; exact ⟨HIa.out.1.more hin1 (by have := HHI.out; omega) hjn (by omega), HIa.out.2.1, (HIa.out.below (below1 _ _)).2.2.1.store hsb hcb ho2 hn2, ⟨(ho2.block b2 hbs (Array.getElem?_eq_some_iff.1 (HIa.out.below (below1 _ _)).2.2.2.1.1).1).trans (HIa.out.below (below1 _ _)).2.2.2.1.1, HIa.out.2.2.2.1.2⟩, (HIa.out.below (below1 _ _)).2.2.2.2.only ho2⟩))
                clear hn2 ho2 dD hD
                have Hs2 := Lib.hid (HRn.out.2.2.1.hs.1)
                have Hc2 := Lib.hid (HRn.out.2.2.1.hc.1)
                have hs2l := (Array.getElem?_eq_some_iff.1 Hs2.out).1
                have hc2l := (Array.getElem?_eq_some_iff.1 Hc2.out).1
                obtain ⟨s0, s1, s2, s3, s4, s5, s6, s7, s8, s9, s10, s11, s12, s13, s14, s15⟩ := cells16 Hs2.out
                obtain ⟨q0, q1, q2, q3, q4, q5, q6, q7, q8, q9, q10, q11, q12, q13, q14, q15⟩ := cells16 Hc2.out
                go_wp2
                go_roundg (L0.length - (i + 1))
                case measure => omega
                case rel => exact ⟨Lu, i + 1, j, Oc, rfl, HRn⟩
            · by_cases h1 : i < j
              · have h2 : hi ≤ j := by omega
                have d3 : decide ((i : Int) + 1 < (j : Int) + 1) = true := decide_eq_true (by omega)
                have d3n : decide (i < j) = true := decide_eq_true (by omega)
                have d3i : decide ((i : Int) < (j : Int)) = true := decide_eq_true (by omega)
                have d4 : decide ((j : Int) + 1 < (hi : Int) + 1) = false := decide_eq_false (by omega)
                have d4n : decide (j < hi) = false := decide_eq_false (by omega)
                have d4i : decide ((j : Int) < (hi : Int)) = false := decide_eq_false (by omega)
                go_wp2_with fail
                go_quiet (fail)
                go_wp2_with fail
                have e2 : IntKind.i64.wrap (2 * (wd : Int)) = 2 * (wd : Int) := w64_in (by omega) (by omega)
                have e3 : IntKind.i64.wrap ((lo : Int) + 1 + 2 * (wd : Int)) = (lo : Int) + 1 + 2 * (wd : Int) := w64_in (by omega) (by omega)
                refine wp_region_lex mixed (by kernel_rfl) ?_
                go_wp2
                refine ⟨by kernel_rfl, ?_⟩
                go_wp2_with fail
                refine (run_begin HI.out hsb hcb hbs (Only.of_mods (mods_drew (mods_setCell (F := fun k => k = sb) (b := sb) (Mods.of_below (bdn (Below.refl _ _) nq)) (.inl rfl) (.int .i64 ((lo : Int) + 1 + 2 * (wd : Int)))))) (wd2 := wd) (p2 := p + 1) (lo2 := lo + 2 * wd) (x := (i : Int) + 1) (y := (j : Int) + 1) (by rw [show (((lo + 2 * wd : Nat) : Int) + 1) = (lo : Int) + 1 + 2 * (wd : Int) by push_cast; omega]; exact heap_setCell_same (w := wr.drewN nq) HI.out.box 13 (.int .i64 ((lo : Int) + 1 + 2 * (wd : Int)))) (HI.out.1.next (fun hx => by have := HHI.out; omega)) (by omega) (by omega)).mono ?_
                rintro en w2 ⟨rfl, hr⟩
                have HRn := Lib.hid (hr)
                clear hr e2 e3 d3 d3n d3i c0 c1 c2 c3 c4 c5 c6 c7 c8 c9 c10 c11 c12 c13 c14 c15 fc0 fc1 fc2 fc3 fc4 fc5 fc6 fc7 fc8 fc9 fc10 fc11 fc12 fc13 fc14 fc15
                go_wp2
                go_roundg (L0.length - (lo + 2 * wd))
                case measure => omega
                case rel => exact ⟨Lu, p + 1, lo + 2 * wd, Oc, rfl, by omega, HRn⟩
              · have h2 : j ≤ i := by omega
                have d3 : decide ((i : Int) + 1 < (j : Int) + 1) = false := decide_eq_false (by omega)
                have d3n : decide (i < j) = false := decide_eq_false (by omega)
                have d3i : decide ((i : Int) < (j : Int)) = false := decide_eq_false (by omega)
                go_wp2_with fail
                go_quiet (fail)
                go_wp2_with fail
                have e2 : IntKind.i64.wrap (2 * (wd : Int)) = 2 * (wd : Int) := w64_in (by omega) (by omega)
                have e3 : IntKind.i64.wrap ((lo : Int) + 1 + 2 * (wd : Int)) = (lo : Int) + 1 + 2 * (wd : Int) := w64_in (by omega) (by omega)
                refine wp_region_lex mixed (by kernel_rfl) ?_
                go_wp2
                refine ⟨by kernel_rfl, ?_⟩
                go_wp2_with fail
                refine (run_begin HI.out hsb hcb hbs (Only.of_mods (mods_drew (mods_setCell (F := fun k => k = sb) (b := sb) (Mods.of_below (bdn (Below.refl _ _) nq)) (.inl rfl) (.int .i64 ((lo : Int) + 1 + 2 * (wd : Int)))))) (wd2 := wd) (p2 := p + 1) (lo2 := lo + 2 * wd) (x := (i : Int) + 1) (y := (j : Int) + 1) (by rw [show (((lo + 2 * wd : Nat) : Int) + 1) = (lo : Int) + 1 + 2 * (wd : Int) by push_cast; omega]; exact heap_setCell_same (w := wr.drewN nq) HI.out.box 13 (.int .i64 ((lo : Int) + 1 + 2 * (wd : Int)))) (HI.out.1.next (fun hx => by have := HHI.out; omega)) (by omega) (by omega)).mono ?_
                rintro en w2 ⟨rfl, hr⟩
                have HRn := Lib.hid (hr)
                clear hr e2 e3 d3 d3n d3i c0 c1 c2 c3 c4 c5 c6 c7 c8 c9 c10 c11 c12 c13 c14 c15 fc0 fc1 fc2 fc3 fc4 fc5 fc6 fc7 fc8 fc9 fc10 fc11 fc12 fc13 fc14 fc15
                go_wp2
                go_roundg (L0.length - (lo + 2 * wd))
                case measure => omega
                case rel => exact ⟨Lu, p + 1, lo + 2 * wd, Oc, rfl, by omega, HRn⟩
        · have d2 : decide ((lo : Int) + 1 + (wd : Int) ≤ (L0.length : Int)) = false := decide_eq_false (by omega)
          go_wp2_with fail
          go_quiet (fail)
          go_wp2_with fail
          refine (run_begin (HM.out.below (bdn (Below.refl _ _) _)) hsb hcb hbs (Only.of_mods (mods_setCell (F := fun k => k = sb) (b := sb) (mods_setCell (F := fun k => k = sb) (b := sb) (Mods.refl _ _) (.inl rfl) _) (.inl rfl) _)) (wd2 := 2 * wd) (p2 := 0) (lo2 := 0) (x := (lo : Int) + 1) (y := ((lo + wd : Nat) : Int) + 1) (by have := heap_setCell_same (heap_setCell_same (HM.out.below (bdn (Below.refl _ _) nq)).box 12 (.int .i64 (2 * (wd : Int)))) 13 (.int .i64 1); rwa [show (2 * (wd : Int)) = ((2 * wd : Nat) : Int) by push_cast; rfl] at this) (by rw [Nat.zero_add]; exact HM.out.1.pass (by omega)) (by omega) (by omega)).mono ?_
          rintro e1 w1 ⟨rfl, hr⟩
          have HRn := Lib.hid (hr)
          clear hr e1 d2 c0 c1 c2 c3 c4 c5 c6 c7 c8 c9 c10 c11 c12 c13 c14 c15 fc0 fc1 fc2 fc3 fc4 fc5 fc6 fc7 fc8 fc9 fc10 fc11 fc12 fc13 fc14 fc15
          go_wp2
          go_roundg (2 * L0.length - 2 * wd)
          case measure => omega
          case rel => exact ⟨Lt, 2 * wd, Ob, rfl, by omega, Lib.hid (by have := HRn.out; rw [Nat.zero_add] at this; exact this)⟩
    · have d1 : decide ((wd : Int) < (L0.length : Int)) = false := decide_eq_false (by omega)
      go_wp2_with fail
      go_quiet (fail)
      go_wp2_with fail
      refine (tEnd_c _ c h nm (.slice so na ca) (hkeep (bdn (Below.refl _ _) _) HR.out.2.2.1.hc.1) none 0 0 [] (Vals.nilslice _) (by simp)).mono ?_
      rintro e1 w1 ⟨so3, cap3, rfl, hr, hb⟩
      have HRx := Lib.hid (HR.out.below (below_next (bdn (Below.refl _ _) _) hb))
      have HRw := Lib.hid (hr)
      have Hb2 := Lib.hid (HRx.out.2.2.2.1.1)
      have hy2 : b2 < w1.heap.size := (Array.getElem?_eq_some_iff.1 Hb2.out).1
      have HY2 := Lib.hid ((Array.getElem?_eq_some_iff.1 HR.out.2.2.2.1.1).1)
      clear hr hb c0 c1 c2 c3 c4 c5 c6 c7 c8 c9 c10 c11 c12 c13 c14 c15 fc0 fc1 fc2 fc3 fc4 fc5 fc6 fc7 fc8 fc9 fc10 fc11 fc12 fc13 fc14 fc15
      obtain ⟨a0, a1, a2, a3, a4, a5, a6, a7, a8, a9, a10, a11⟩ := cells12 Hb2.out
      obtain ⟨fa0, fa1, fa2, fa3, fa4, fa5, fa6, fa7, fa8, fa9, fa10, fa11⟩ := froz12 Hb2.out
      go_wp2
      refine bodyPost_ret (by simp [results, Tryz.results69, go_sem, hy2, a0, a1, a2, a3, a4, a5, a6, a7, a8, a9, a10, a11]; first | done | rfl) rfl ?_
      exact run_done HRx.out HRw.out HY2.out HWB.out hw0 (by omega) _ _ _ _ _ _ _ _ _ _ _ _
def SortPost (base n : Nat) (O : Nat → Prop) (h : Nat) (M : LH) (AA : List (List V)) (ti : Nat) (L0 : List Int) (w : World) (e : Ending) (w' : World) : Prop := ∃ Ls so3 cap3 O3, e = .returned (acV 1 0 V.nil (.slice so3 0 cap3) ⟨#[]⟩ 0 0 (.slice none 0 0)) ∧ w'.ownsRow w.heap.size 30 5 (.slice so3 0 cap3) 0 (rowV []) ∧ List.Perm Ls L0 ∧ Asc Ls 0 Ls.length ∧ PHp base n w' h M (AA.set ti (Ls.map nI)) O3 ∧ QS base O w O3 w'
set_option maxRecDepth 100000 in
set_option maxHeartbeats 40000000 in
theorem tSort_c (w : World) (c h : Nat) (nm : ByteArray) (so : Option Addr) (cap : Nat) {base n : Nat} {M : LH} {AA : List (List V)} {O : Nat → Prop} (hP : PHp base n w h M AA O) (hb0 : base ≤ w.heap.size) (hn : n ≤ 900) {ti : Nat} (hti : ti ≤ 100000) {o : LO} {L0 : List Int} (hM : M[ti]? = some o) (hA : AA[ti]? = some (L0.map nI)) (h4 : o.kind = 4) (hl : L0.length ≤ 300) (hLs : ∀ x ∈ L0, -2147483647 ≤ x ∧ x ≤ 2147483647) (HC : Held w O c (oCt h nm (.slice so 1 cap)))
    (hX : Vals w (.slice so 1 cap) [⟨4, 0, 0, ⟨#[]⟩, (ti : Int) + 1⟩]) :
    Calls Tryz.prog 30 #[.pointer (some ⟨c, 0, none⟩)] w (SortPost base n O h M AA ti L0 w) := by
  have hcl0 := (Array.getElem?_eq_some_iff.1 HC.1).1
  have htl : ti < AA.length := (List.getElem?_eq_some_iff.1 hA).1
  have HTab := Lib.hid (fun W (hb : Below w.heap.size w W) => tTable_c W c h nm _ 1 cap _ (hkeep hb HC.1) (Vals.below hX hb) (by simp) 0 0 rfl 0 0 ⟨#[]⟩ ((ti : Int) + 1) rfl none 0 0)
  have HArg := Lib.hid (fun W (g : Nat) (hb : Below w.heap.size w W) (hg : W.heap[g]? = some (oV 0 0 0 ⟨#[]⟩ 0)) => tArg_def W c h nm so 1 cap (hkeep hb HC.1) 1 (by decide) ⟨#[102, 117, 110, 99, 116, 105, 111, 110]⟩ 67 g 1 1 0 0 0 ⟨#[]⟩ 0 hg (Nat.le_refl _))
  have HLen := Lib.hid (fun W (hb : Below w.heap.size w W) => (by have := tLen_c W c h nm _ (hkeep hb HC.1) (hP.below hb) hti hM hA h4; rw [List.length_map] at this; exact this : Calls Tryz.prog 55 #[.pointer (some ⟨c, 0, none⟩), .agg #[.int .i64 4, .int .i64 0, .int .i64 0, .string ⟨#[]⟩, .int .i64 ((ti : Int) + 1)]] W (IntPost W L0.length)))
  have HCC := Lib.hid (HC)
  have HPP := Lib.hid (hP)
  have HAA := Lib.hid ((show AA.set ti (L0.map nI) = AA from set_same hA))
  have HMM := Lib.hid (hM)
  have HLL := Lib.hid (hLs)
  clear HC hX hP hM hA hLs
  go_enter Tryz.func30, Tryz.ntmps30
  go_wp2_with fail
  refine (HTab.out _ (below1 _ _)).mono ?_
  rintro e w1 ⟨rfl, hb⟩
  have Ha1 := Lib.hid (hkeep hb (heap1 w oAc))
  have HW1 := Lib.hid (below_next (below1 _ _) hb)
  clear hb
  obtain ⟨W2, hW2⟩ : ∃ W2, W2 = w1.alloc (oV 4 0 0 ⟨#[]⟩ ((ti : Int) + 1)) := ⟨_, rfl⟩
  have HW2 := Lib.hid ((show Below w.heap.size w W2 by rw [hW2]; exact HW1.out.alloc HW1.out.size _))
  have Ha2 := Lib.hid ((show W2.heap[w.heap.size]? = some oAc by rw [hW2]; exact heap1_old Ha1.out _))
  have Ht2 := Lib.hid ((show W2.heap[w1.heap.size]? = some (oV 4 0 0 ⟨#[]⟩ ((ti : Int) + 1)) by rw [hW2]; exact heap1 _ _))
  obtain ⟨bt, hbt⟩ : ∃ bt, bt = w1.heap.size := ⟨_, rfl⟩
  rw [← hbt] at Ht2
  go_upto_region 3 with fail
  try rw [show w1.alloc (oV 4 0 0 ⟨#[]⟩ ((ti : Int) + 1)) = W2 from hW2.symm]
  try rw [← hbt]
  clear hW2 hbt
  go_wp2_with fail
  refine (HArg.out _ W2.heap.size (HW2.out.alloc HW2.out.size _) (heap_new W2 _)).mono ?_
  rintro e w3 ⟨rfl, hb⟩
  have Ha3 := Lib.hid (hkeep hb (heap1_old Ha2.out _))
  have Ht3 := Lib.hid (hkeep hb (heap1_old Ht2.out _))
  have HW3 := Lib.hid (below_next (HW2.out.alloc HW2.out.size _) hb)
  clear hb
  obtain ⟨W4, hW4⟩ : ∃ W4, W4 = w3.alloc (oV 0 0 0 ⟨#[]⟩ 0) := ⟨_, rfl⟩
  have HW4 := Lib.hid ((show Below w.heap.size w W4 by rw [hW4]; exact HW3.out.alloc HW3.out.size _))
  have Ha4 := Lib.hid ((show W4.heap[w.heap.size]? = some oAc by rw [hW4]; exact heap1_old Ha3.out _))
  have Ht4 := Lib.hid ((show W4.heap[bt]? = some (oV 4 0 0 ⟨#[]⟩ ((ti : Int) + 1)) by rw [hW4]; exact heap1_old Ht3.out _))
  have Hn4 := Lib.hid ((show W4.heap[w3.heap.size]? = some (oV 0 0 0 ⟨#[]⟩ 0) by rw [hW4]; exact heap1 _ _))
  obtain ⟨bn, hbn⟩ : ∃ bn, bn = w3.heap.size := ⟨_, rfl⟩
  rw [← hbn] at Hn4
  have hyt := (Array.getElem?_eq_some_iff.1 Ht4.out).1
  obtain ⟨t0, t1, t2, t3, t4⟩ := cells5 Ht4.out
  obtain ⟨ft0, ft1, ft2, ft3, ft4⟩ := froz5 Ht4.out
  go_upto_region 4 with fail
  try rw [show w3.alloc (oV 0 0 0 ⟨#[]⟩ 0) = W4 from hW4.symm]
  try rw [← hbn]
  clear hW4 hbn
  go_wp2_with fail
  refine (HLen.out _ HW4.out).mono ?_
  rintro e w5 ⟨rfl, hb⟩
  have Ha5 := Lib.hid (hkeep hb Ha4.out)
  have Ht5 := Lib.hid (hkeep hb Ht4.out)
  have Hn5 := Lib.hid (hkeep hb Hn4.out)
  have HW5 := Lib.hid (below_next HW4.out hb)
  have HC5 := Lib.hid (hkeep HW5.out (show w.heap[c]? = _ from HCC.out.1))
  clear hb t0 t1 t2 t3 t4 ft0 ft1 ft2 ft3 ft4 hyt
  have d1 : decide ((L0.length : Int) > 65536) = false := decide_eq_false (by omega)
  have hyt := (Array.getElem?_eq_some_iff.1 Ht5.out).1
  have hyn := (Array.getElem?_eq_some_iff.1 Hn5.out).1
  have hyc := (Array.getElem?_eq_some_iff.1 HC5.out).1
  obtain ⟨t0, t1, t2, t3, t4⟩ := cells5 Ht5.out
  obtain ⟨ft0, ft1, ft2, ft3, ft4⟩ := froz5 Ht5.out
  obtain ⟨u0, u1, u2, u3, u4⟩ := cells5 Hn5.out
  obtain ⟨fu0, fu1, fu2, fu3, fu4⟩ := froz5 Hn5.out
  obtain ⟨q0, q1, q2, q3, q4, q5, q6, q7, q8, q9, q10, q11, q12, q13, q14, q15⟩ := cells16 HC5.out
  obtain ⟨W6, hW6⟩ : ∃ W6, W6 = w5.alloc (.cells #[.pointer (some ⟨c, 0, none⟩), .int .i64 4, .int .i64 0, .int .i64 0, .string ⟨#[]⟩, .int .i64 ((ti : Int) + 1), .int .i64 0, .int .i64 0, .int .i64 0, .string ⟨#[]⟩, .int .i64 0, .int .i64 (L0.length : Int), .int .i64 1, .int .i64 1, .int .i64 0, .int .i64 0] 116) := ⟨_, rfl⟩
  have HW6 := Lib.hid ((show Below w.heap.size w W6 by rw [hW6]; exact HW5.out.alloc HW5.out.size _))
  have Ha6 := Lib.hid ((show W6.heap[w.heap.size]? = some oAc by rw [hW6]; exact heap1_old Ha5.out _))
  have Hs6 := Lib.hid ((show W6.heap[w5.heap.size]? = some (oSo c ti V.nil (L0.length : Int) 1 1 0 0) by rw [hW6]; exact heap1 _ _))
  obtain ⟨sb, hsb⟩ : ∃ sb, sb = w5.heap.size := ⟨_, rfl⟩
  rw [← hsb] at Hs6
  have HZ5 := Lib.hid ((show w.heap.size ≤ sb by rw [hsb]; exact HW5.out.size))
  have HCS := Lib.hid ((show c ≠ sb by have := HZ5.out; omega))
  have HAS := Lib.hid ((show w.heap.size ≠ sb by have h1 := (Array.getElem?_eq_some_iff.1 Ha5.out).1; rw [hsb]; omega))
  go_upto_region 10 with fail
  try rw [show w5.alloc (.cells #[.pointer (some ⟨c, 0, none⟩), .int .i64 4, .int .i64 0, .int .i64 0, .string ⟨#[]⟩, .int .i64 ((ti : Int) + 1), .int .i64 0, .int .i64 0, .int .i64 0, .string ⟨#[]⟩, .int .i64 0, .int .i64 (L0.length : Int), .int .i64 1, .int .i64 1, .int .i64 0, .int .i64 0] 116) = W6 from hW6.symm]
  try rw [← hsb]
  clear hW6 hsb q0 q1 q2 q3 q4 q5 q6 q7 q8 q9 q10 q11 q12 q13 q14 q15 t0 t1 t2 t3 t4 ft0 ft1 ft2 ft3 ft4 u0 u1 u2 u3 u4 fu0 fu1 fu2 fu3 fu4 hyt hyn hyc d1
  go_wp2_with fail
  refine (tBegin_c W6 sb c ti V.nil _ _ _ _ _ Hs6.out ⟨by omega, by omega⟩ ⟨by omega, by omega⟩).mono ?_
  rintro e w7 ⟨rfl, hn7, hm7⟩
  have HO7 := Lib.hid (Only.of_mods hm7)
  have HS7 := Lib.hid (hn7)
  clear hn7 hm7
  have HSR := Lib.hid ((show SRun base n O w h c sb nm (.slice so 1 cap) M AA ti V.nil L0 (L0.length : Int) 1 1 1 2 O w7 from ⟨by rw [HAA.out]; exact (HPP.out.below HW6.out).modsS Hs6.out (npb (by decide)) (fun e => by have := HPP.out.lt _ e; have := HZ5.out; omega) (Only.mods HO7.out), (QS.of_below HW6.out).only HZ5.out HO7.out, ⟨(HO7.out.block c HCS.out (Array.getElem?_eq_some_iff.1 (hkeep HW6.out HCC.out.1)).1).trans (hkeep HW6.out HCC.out.1), HCC.out.2⟩, ⟨HS7.out, fun e => by have := HPP.out.lt _ e; have := HZ5.out; omega⟩⟩))
  have Ha7 := Lib.hid (((HO7.out.block _ HAS.out (Array.getElem?_eq_some_iff.1 Ha6.out).1).trans Ha6.out))
  go_wp2_with fail
  refine (tRun_c w7 HSR.out HZ5.out HCS.out hb0 (by omega) hti HMM.out h4 htl hl HLL.out).mono ?_
  rintro e w8 ⟨so3, cap3, Ls, O3, rfl, hr, hp, ha, hP, hq, hk⟩
  obtain ⟨ha8, hno8⟩ := hk w.heap.size oAc Ha7.out (npb (by decide)) (fun e => Nat.lt_irrefl _ (HPP.out.lt _ e)) HAS.out
  have Ha8 := Lib.hid (ha8)
  have HR8 := Lib.hid (hr)
  have HPE := Lib.hid (hp)
  have HAS8 := Lib.hid (ha)
  have HP8 := Lib.hid (hP)
  have HQ8 := Lib.hid (hq)
  have HZ7 := Lib.hid ((show w.heap.size < w7.heap.size from (Array.getElem?_eq_some_iff.1 Ha7.out).1))
  have hya : w.heap.size < w8.heap.size := (Array.getElem?_eq_some_iff.1 Ha8.out).1
  clear ha8 hno8 hk hr hp ha hP hq
  obtain ⟨a0, a1, a2, a3, a4, a5, a6, a7, a8, a9, a10, a11⟩ := cells12 Ha8.out
  obtain ⟨fa0, fa1, fa2, fa3, fa4, fa5, fa6, fa7, fa8, fa9, fa10, fa11⟩ := froz12 Ha8.out
  go_wp2
  refine bodyPost_ret (by simp [results, Tryz.results30, go_sem, hya, a0, a1, a2, a3, a4, a5, a6, a7, a8, a9, a10, a11]; first | done | rfl) rfl ?_
  exact ⟨Ls, so3, cap3, O3, rfl, ownsRow_base (row_twelve HR8.out (row_away HR8.out HZ7.out) _ _ _ _ _ _ _ _ _ _ _ _) (Nat.le_of_lt HZ7.out), HPE.out, HAS8.out, HP8.out.mods Ha8.out (mods_twelve (F := fun k => k = w.heap.size) (Mods.refl _ _) (b := w.heap.size) (.inl rfl) 0 1 2 3 4 5 6 7 8 9 10 11 _ _ _ _ _ _ _ _ _ _ _ _), HQ8.out.only (Nat.le_refl _) (Only.of_mods (mods_twelve (F := fun k => k = w.heap.size) (Mods.refl _ _) (b := w.heap.size) (.inl rfl) 0 1 2 3 4 5 6 7 8 9 10 11 _ _ _ _ _ _ _ _ _ _ _ _))⟩
set_option maxRecDepth 100000 in
set_option maxHeartbeats 2000000 in
theorem sort_begin (w : World) (h : Nat) (so : Option Addr) (cap : Nat) {base n : Nat} {M : LH} {AA : List (List V)} {O : Nat → Prop} (hP : PHp base n w h M AA O) (hb0 : base ≤ w.heap.size) (hn : n ≤ 900) {ti : Nat} (hti : ti ≤ 100000) {o : LO} {L0 : List Int} (hM : M[ti]? = some o) (hA : AA[ti]? = some (L0.map nI)) (h4 : o.kind = 4) (hl : L0.length ≤ 300) (hLs : ∀ x ∈ L0, -2147483647 ≤ x ∧ x ≤ 2147483647) (hX : Vals w (.slice so 1 cap) [⟨4, 0, 0, ⟨#[]⟩, (ti : Int) + 1⟩]) :
    Calls Tryz.prog 12 #[.pointer (some ⟨h, 0, none⟩), .string ⟨#[116, 97, 98, 108, 101, 46, 115, 111, 114, 116]⟩, .slice so 1 cap] w (SortPost base n O h M AA ti L0 w) := by
  have HTP := Lib.hid (fun W => (show Calls Tryz.prog 24 #[.string ⟨#[116, 97, 98, 108, 101, 46, 115, 111, 114, 116]⟩, .string ⟨#[116, 97, 98, 108, 101, 46]⟩] W (fun e w' => e = .returned (.string ⟨#[115, 111, 114, 116]⟩) ∧ w' = W) from Tryz.strings_TrimPrefix ⟨#[116, 97, 98, 108, 101, 46, 115, 111, 114, 116]⟩ ⟨#[116, 97, 98, 108, 101, 46]⟩ W))
  have HMM := Lib.hid (fun W c (hb : Below w.heap.size w W) (hc : W.heap[c]? = some (oCt h ⟨#[115, 111, 114, 116]⟩ (.slice so 1 cap))) (hle : w.heap.size ≤ c) => tSort_c W c h ⟨#[115, 111, 114, 116]⟩ so cap (hP.below hb) (Nat.le_trans hb0 hb.size) hn hti hM hA h4 hl hLs ⟨hc, fun e => by have := hP.lt _ e; omega⟩ (Vals.below hX hb))
  have HOL := Lib.hid (hP.lt)
  clear hP hM hA hLs hX
  go_enter Tryz.func12, Tryz.ntmps12
  go_wp2_with fail
  refine (HTP.out _).mono ?_
  rintro e w1 ⟨rfl, rfl⟩
  go_wp2_with fail
  refine (HMM.out _ _ (below2w _ _ _) (heap2_b w oAc (oCt h ⟨#[115, 111, 114, 116]⟩ (.slice so 1 cap))) (by omega)).mono ?_
  rintro e w3 ⟨Ls, so3, cap3, O3, rfl, hr, hp, ha, hP3, hq3⟩
  have HR3 := Lib.hid (hr)
  have HPE := Lib.hid (hp)
  have HAS := Lib.hid (ha)
  have HP3 := Lib.hid (hP3)
  have HQ3 := Lib.hid (hq3)
  have Ha3 := Lib.hid ((Held.qs (O := O) ⟨heap2_a w oAc (oCt h ⟨#[115, 111, 114, 116]⟩ (.slice so 1 cap)), fun e => Nat.lt_irrefl _ (HOL.out _ e)⟩ hq3 (npb (by decide))).1)
  clear hr hp ha hP3 hq3
  have hya : w.heap.size < w3.heap.size := (Array.getElem?_eq_some_iff.1 Ha3.out).1
  obtain ⟨a0, a1, a2, a3, a4, a5, a6, a7, a8, a9, a10, a11⟩ := cells12 Ha3.out
  obtain ⟨fa0, fa1, fa2, fa3, fa4, fa5, fa6, fa7, fa8, fa9, fa10, fa11⟩ := froz12 Ha3.out
  go_wp2
  refine bodyPost_ret (by simp [results, Tryz.results12, go_sem, hya, a0, a1, a2, a3, a4, a5, a6, a7, a8, a9, a10, a11]; first | done | rfl) rfl ?_
  exact ⟨Ls, so3, cap3, O3, rfl, ownsRow_base (row_twelve HR3.out (row_away HR3.out (by simp <;> omega)) _ _ _ _ _ _ _ _ _ _ _ _) (by simp <;> omega), HPE.out, HAS.out, HP3.out.mods Ha3.out (mods_twelve (F := fun k => k = w.heap.size) (Mods.refl _ _) (b := w.heap.size) (.inl rfl) 0 1 2 3 4 5 6 7 8 9 10 11 _ _ _ _ _ _ _ _ _ _ _ _), ((QS.of_below (below2w w oAc (oCt h ⟨#[115, 111, 114, 116]⟩ (.slice so 1 cap)))).trans HQ3.out).only (Nat.le_refl _) (Only.of_mods (mods_twelve (F := fun k => k = w.heap.size) (Mods.refl _ _) (b := w.heap.size) (.inl rfl) 0 1 2 3 4 5 6 7 8 9 10 11 _ _ _ _ _ _ _ _ _ _ _ _))⟩
end Go.Proofs.YtpbcmlnjiocmoaaGreatDoorR
