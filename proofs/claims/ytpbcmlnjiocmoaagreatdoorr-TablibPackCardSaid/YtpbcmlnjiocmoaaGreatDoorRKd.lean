import Derived.Test.YtpbcmlnjiocmoaaGreatDoorRKg
import Derived.Test.YtpbcmlnjiocmoaaGreatDoorRKc
import Derived.Test.YtpbcmlnjiocmoaaGreatDoorRKp
set_option linter.unusedVariables false
set_option linter.unusedSimpArgs false
set_option maxRecDepth 100000
set_option maxHeartbeats 2000000
namespace Go.Proofs.YtpbcmlnjiocmoaaGreatDoorR
open Go.RowKit Go.Proofs.Lexi
set_option maxRecDepth 100000 in
set_option maxHeartbeats 2000000 in
theorem kbegin_concat (w : World) (h : Nat) (so : Option Addr) (n cap : Nat) (kind op : Int) (fk fp fq : Int) (fs : ByteArray) (fr : Int) (A : List V) (s : ByteArray) (level next : Int) (K : List V)
    (HM : ∀ W c, Below w.heap.size w W → W.heap[c]? = some (oCt h ⟨#[99, 111, 110, 99, 97, 116]⟩ (.slice so n cap)) → w.heap.size ≤ c → Calls Tryz.prog 25 #[.pointer (some ⟨c, 0, none⟩)] W (ActPost (fun k => k = c) W kind op ⟨fk, fp, fq, fs, fr⟩ A s level next K)) :
    Calls Tryz.prog 12 #[.pointer (some ⟨h, 0, none⟩), .string ⟨#[116, 97, 98, 108, 101, 46, 99, 111, 110, 99, 97, 116]⟩, .slice so n cap] w (ActPost NoF w kind op ⟨fk, fp, fq, fs, fr⟩ A s level next K) := by
  have HTP := Lib.hid (fun W => (show Calls Tryz.prog 24 #[.string ⟨#[116, 97, 98, 108, 101, 46, 99, 111, 110, 99, 97, 116]⟩, .string ⟨#[116, 97, 98, 108, 101, 46]⟩] W (fun e w' => e = .returned (.string ⟨#[99, 111, 110, 99, 97, 116]⟩) ∧ w' = W) from Tryz.strings_TrimPrefix ⟨#[116, 97, 98, 108, 101, 46, 99, 111, 110, 99, 97, 116]⟩ ⟨#[116, 97, 98, 108, 101, 46]⟩ W))
  have HMM := Lib.hid (HM)
  clear HM
  go_enter Tryz.func12, Tryz.ntmps12
  go_wp2_with fail
  refine (HTP.out _).mono ?_
  rintro e w1 ⟨rfl, rfl⟩
  go_wp2_with fail
  refine (HMM.out _ _ (below2w _ _ _) (heap2_b w oAc (oCt h ⟨#[99, 111, 110, 99, 97, 116]⟩ (.slice so n cap))) (by omega)).mono ?_
  rintro e w3 ⟨so3, cap3, sk3, ck3, rfl, hr, hk, hm⟩
  have HR3 := Lib.hid (hr)
  have HK3 := Lib.hid (hk)
  have Ha3 := Lib.hid (mkeep hm (heap2_a w oAc (oCt h ⟨#[99, 111, 110, 99, 97, 116]⟩ (.slice so n cap))) (by omega))
  have HW3 := Lib.hid (Mods.below (Mods.trans (Mods.of_below (below2w w oAc (oCt h ⟨#[99, 111, 110, 99, 97, 116]⟩ (.slice so n cap)))) hm) (Nat.le_refl _) (fun k hk h => by omega))
  clear hr hk hm
  have hya : w.heap.size < w3.heap.size := (Array.getElem?_eq_some_iff.1 Ha3.out).1
  obtain ⟨a0, a1, a2, a3, a4, a5, a6, a7, a8, a9, a10, a11⟩ := cells12 Ha3.out
  obtain ⟨fa0, fa1, fa2, fa3, fa4, fa5, fa6, fa7, fa8, fa9, fa10, fa11⟩ := froz12 Ha3.out
  go_wp2
  refine bodyPost_ret (by simp [results, Tryz.results12, go_sem, hya, a0, a1, a2, a3, a4, a5, a6, a7, a8, a9, a10, a11]; first | done | rfl) rfl ?_
  exact act_end (B := w.heap.size + 1) (ownsRow_base HR3.out (by simp <;> omega)) (ownsRow_base HK3.out (by simp <;> omega)) (Mods.of_below HW3.out) (Nat.le_refl _) (Nat.lt_succ_self _) _ _ _ _ _ _ _ _ _ _ _ _
/-- Begin of concat, as the laws call it. -/
theorem concat_begin (w : World) (h : Nat) {base n : Nat} {M : LH} {AA : List (List V)} {O : Nat → Prop} (hP : PHp base n w h M AA O) (hn : n ≤ 1000) {ti : Nat} (hti : ti ≤ 100000) {o : LO} {A : List V} (hM : M[ti]? = some o) (hA : AA[ti]? = some A) (h4 : o.kind = 4) (hl : A.length ≤ 1000) (sep : ByteArray) (hsep : sep.size ≤ 4096) (so : Option Addr) (cap : Nat) (hX : Vals w (.slice so 2 cap) [⟨4, 0, 0, ⟨#[]⟩, (ti : Int) + 1⟩, strV sep]) (hT : ∀ v ∈ A, sE (strOf v) = 0 ∧ (txt v).size ≤ 4096) (htab : Pow10 w) (S : List UInt8) (hS : S = conP A sep A.length) :
    Calls Tryz.prog 12 #[.pointer (some ⟨h, 0, none⟩), .string ⟨#[116, 97, 98, 108, 101, 46, 99, 111, 110, 99, 97, 116]⟩, .slice so 2 cap] w (fun e w' => ∃ so3 cap3 sk3 ck3, e = .returned (acV (conK S) 0 V.nil (.slice so3 (conA S).length cap3) ⟨#[]⟩ (conL S) 0 (.slice sk3 0 ck3)) ∧ w'.ownsRow w.heap.size 30 5 (.slice so3 (conA S).length cap3) (conA S).length (rowV (conA S)) ∧ Below w.heap.size w w') := by
  refine (kbegin_concat w h so 2 cap (conK S) 0 0 0 0 ⟨#[]⟩ 0 (conA S) ⟨#[]⟩ (conL S) 0 [] (fun W c hb hc _ => concat_c W c h _ so cap hc (hP.below hb) hn hti hM hA h4 hl sep hsep (Vals.below hX hb) hT (htab.stays hb) S hS)).mono ?_
  rintro e w' ⟨so3, cap3, sk3, ck3, rfl, hr, hk, hm⟩
  exact ⟨so3, cap3, sk3, ck3, rfl, hr, mods_below hm⟩
set_option maxRecDepth 100000 in
set_option maxHeartbeats 2000000 in
theorem lives_c (w : World) (htab : Pow10 w) : Calls Tryz.prog 9 #[] w (BoolPost w true) := by
  have HTB := Lib.hid (fun W (hb : Below w.heap.size w W) => htab.stays hb)
  have HK := Lib.hid (fun W x => kNum_c W x)
  clear htab
  go_enter Tryz.func9, Tryz.ntmps9
  go_wp2_with fail
  refine (pNew_c _).mono ?_
  rintro e w1 ⟨h, rfl, hP1, hb1⟩
  have HP1 := Lib.hid (hP1)
  have HW1 := Lib.hid (hb1)
  have hz1 := hb1.size
  clear hP1 hb1
  go_wp2_with fail
  refine (HK.out _ 1).mono ?_
  rintro e w2 ⟨rfl, hb⟩
  have HW2 := Lib.hid (hb)
  clear hb
  go_wp2_with fail
  refine (HK.out _ 2).mono ?_
  rintro e w3 ⟨rfl, hb⟩
  have HW3 := Lib.hid (below_next HW2.out hb)
  clear hb
  go_wp2_with fail
  refine (HK.out _ 3).mono ?_
  rintro e w4 ⟨rfl, hb⟩
  have HW4 := Lib.hid (below_next HW3.out hb)
  clear hb
  obtain ⟨W5, hW5⟩ : ∃ W5, W5 = w4.alloc (.cells (rowV oneL).toArray 30) := ⟨_, rfl⟩
  have HB5 := Lib.hid ((show Below w1.heap.size w1 W5 by rw [hW5]; exact HW4.out.alloc HW4.out.size _))
  have HR5 := Lib.hid ((show W5.ownsRow w4.heap.size 30 5 (.slice (some ⟨w4.heap.size, 0, none⟩) oneL.length oneL.length) oneL.length (rowV oneL) by rw [hW5]; exact row_lit w4 oneL (by decide)))
  have HP5 := Lib.hid (HP1.out.below HB5.out)
  have HG5 := Lib.hid ((show W5.heap[w4.heap.size]? = some (.cells (rowV oneL).toArray 30) by rw [hW5]; exact heap1 _ _))
  have hz4 := HW4.out.size
  have hlist : Calls Tryz.prog 11 #[.pointer (some ⟨h, 0, none⟩), .slice (some ⟨w4.heap.size, 0, none⟩) 3 3] (w4.alloc (.cells #[.int .i64 2, .int .i64 1, .int .i64 1, .string ⟨#[]⟩, .int .i64 0, .int .i64 2, .int .i64 2, .int .i64 1, .string ⟨#[]⟩, .int .i64 0, .int .i64 2, .int .i64 3, .int .i64 1, .string ⟨#[]⟩, .int .i64 0] 30)) (fun e w' => e = .returned (.tuple #[.agg #[.int .i64 4, .int .i64 0, .int .i64 0, .string ⟨#[]⟩, .int .i64 1], .bool true]) ∧ ∃ O', PHp w.heap.size (0 + oneL.length) w' h ([] ++ [⟨4, V.nil, []⟩]) ([] ++ [oneL]) O' ∧ QS w.heap.size (fun _ => False) W5 O' w') := by
    have hl := list_c W5 h HP5.out (by have := HB5.out.size; omega) (some ⟨w4.heap.size, 0, none⟩) 3 oneL (by decide) (by decide) rfl (Vals.of_row HR5.out) w4.heap.size (rowV oneL).toArray (.inr ⟨⟨0, rfl⟩, HG5.out, fun e => e⟩) oneL_ok
    rw [show w4.alloc (.cells #[.int .i64 2, .int .i64 1, .int .i64 1, .string ⟨#[]⟩, .int .i64 0, .int .i64 2, .int .i64 2, .int .i64 1, .string ⟨#[]⟩, .int .i64 0, .int .i64 2, .int .i64 3, .int .i64 1, .string ⟨#[]⟩, .int .i64 0] 30) = W5 from hW5.symm]
    exact hl
  have HB5q := Lib.hid (HB5.out)
  have HLI := Lib.hid (hlist)
  clear hlist hW5
  go_wp2_with fail
  refine HLI.out.mono ?_
  rintro e w6 ⟨rfl, O6, hP6, hq6⟩
  have HP6 := Lib.hid (hP6)
  have HB6 := Lib.hid ((show Below w.heap.size w w6 from (below_next HW1.out HB5q.out).trans (hq6.below (by have := HB5q.out.size; omega))))
  have hz6 := HB6.out.size
  clear hP6 hq6
  go_upto_region 5 with fail
  obtain ⟨W7, hW7⟩ : ∃ W7, W7 = w6.alloc (oV 4 0 0 ⟨#[]⟩ 1) := ⟨_, rfl⟩
  have HB7 := Lib.hid ((show Below w.heap.size w W7 by rw [hW7]; exact HB6.out.alloc HB6.out.size _))
  have HT7 := Lib.hid ((show W7.heap[w6.heap.size]? = some (oV 4 0 0 ⟨#[]⟩ 1) by rw [hW7]; exact heap1 _ _))
  have HP7 := Lib.hid ((show PHp w.heap.size (0 + oneL.length) W7 h ([] ++ [⟨4, V.nil, []⟩]) ([] ++ [oneL]) O6 by rw [hW7]; exact HP6.out.below (below1 _ _)))
  have hz7 : w6.heap.size < W7.heap.size := (Array.getElem?_eq_some_iff.1 HT7.out).1
  try rw [show w6.alloc (oV 4 0 0 ⟨#[]⟩ 1) = W7 from hW7.symm]
  clear hW7
  have HBG := Lib.hid (fun (W : World) (m : Nat) (hb : Below W7.heap.size W7 W) (hX : W.heap[m]? = some (.cells #[.int .i64 4, .int .i64 0, .int .i64 0, .string ⟨#[]⟩, .int .i64 1, .int .i64 3, .int .i64 0, .int .i64 0, .string ⟨#[45]⟩, .int .i64 0] 30)) => (show Calls Tryz.prog 12 #[.pointer (some ⟨h, 0, none⟩), .string ⟨#[116, 97, 98, 108, 101, 46, 99, 111, 110, 99, 97, 116]⟩, .slice (some ⟨m, 0, none⟩) 2 2] W (fun e w' => ∃ so3 cap3 sk3 ck3, e = .returned (acV 1 0 V.nil (.slice so3 1 cap3) ⟨#[]⟩ 0 0 (.slice sk3 0 ck3)) ∧ w'.ownsRow W.heap.size 30 5 (.slice so3 1 cap3) 1 (rowV [strV ⟨#[49, 45, 50, 45, 51]⟩]) ∧ Below W.heap.size W w') from concat_begin W h (HP7.out.below hb) (by decide) (ti := 0) (by decide) (o := ⟨4, V.nil, []⟩) (A := oneL) rfl rfl rfl (by decide) ⟨#[45]⟩ (by decide) (some ⟨m, 0, none⟩) 2 (two_vals hX) oneL_txt (HTB.out _ (below_next HB7.out hb)) [49, 45, 50, 45, 51] oneL_con))
  have HST := Lib.hid (fun W s => kStr_c W s)
  go_cut [4] (fun s4 wx => ∃ nb so3 cap3 sk3 ck3, s4 = .pointer (some ⟨nb, 0, none⟩) ∧ Hid (wx.heap[nb]? = some (.cells #[.int .i64 1, .int .i64 0, .int .i64 0, .int .i64 0, .int .i64 0, .string ⟨#[]⟩, .int .i64 0, .slice so3 1 cap3, .string ⟨#[]⟩, .int .i64 0, .int .i64 0, .slice sk3 0 ck3] 35) ∧ wx.ownsRow W7.heap.size 30 5 (.slice so3 1 cap3) 1 (rowV [strV ⟨#[49, 45, 50, 45, 51]⟩]) ∧ Below W7.heap.size W7 wx))
  case first =>
    have SO := Lib.hid (fun (W : World) (hb : Below W7.heap.size W7 W) => (show W.cell? ⟨w6.heap.size, 0, none⟩ = some (.int .i64 4) ∧ W.cell? ⟨w6.heap.size, 1, none⟩ = some (.int .i64 0) ∧ W.cell? ⟨w6.heap.size, 2, none⟩ = some (.int .i64 0) ∧ W.cell? ⟨w6.heap.size, 3, none⟩ = some (.string ⟨#[]⟩) ∧ W.cell? ⟨w6.heap.size, 4, none⟩ = some (.int .i64 1) ∧ Hid (Below W7.heap.size W7 W) from ⟨(cells5 (hkeep hb HT7.out)).1, (cells5 (hkeep hb HT7.out)).2.1, (cells5 (hkeep hb HT7.out)).2.2.1, (cells5 (hkeep hb HT7.out)).2.2.2.1, (cells5 (hkeep hb HT7.out)).2.2.2.2, Lib.hid hb⟩))
    have BA := Lib.hid (fun (W : World) (o : Obj) (hb : Below W7.heap.size W7 W) => (show Below W7.heap.size W7 (W.alloc o) from hb.alloc hb.size o))
    have BD := Lib.hid (fun (W : World) (hb : Below W7.heap.size W7 W) => (show Below W7.heap.size W7 W.drew from hb.drew))
    have B12 := Lib.hid (fun (W : World) (b : Nat) (x0 x1 x2 x3 x4 x5 x6 x7 x8 x9 x10 x11 : Value) (hb : Below W7.heap.size W7 W) (hbb : W7.heap.size ≤ b) => below_twelve hb hbb x0 x1 x2 x3 x4 x5 x6 x7 x8 x9 x10 x11)
    have hbR : Below W7.heap.size W7 W7 := Below.refl _ _
    have hbD : Below W7.heap.size W7 W7.drew := (Below.refl _ _).drew
    go_region_held3 (fun w' => w'.cell? ⟨w6.heap.size, 0, none⟩ = some (.int .i64 4) ∧ w'.cell? ⟨w6.heap.size, 1, none⟩ = some (.int .i64 0) ∧ w'.cell? ⟨w6.heap.size, 2, none⟩ = some (.int .i64 0) ∧ w'.cell? ⟨w6.heap.size, 3, none⟩ = some (.string ⟨#[]⟩) ∧ w'.cell? ⟨w6.heap.size, 4, none⟩ = some (.int .i64 1) ∧ Hid (Below W7.heap.size W7 w'))
      (with_reducible refine SO.out _ ?_; repeat (first | with_reducible assumption | (with_reducible refine BA.out _ _ ?_) | (with_reducible refine BD.out _ ?_) | (with_reducible refine B12.out _ _ _ _ _ _ _ _ _ _ _ _ _ _ ?_ ?_) | omega | (simp <;> omega)))
      (first | (go_at_call 10; (with_reducible refine (HST.out _ _).mono ?_); rintro e nw1 ⟨rfl, hb⟩; have hb1 := below_next (prjK5 (by assumption)) hb; have hzb1 := hb1.size; (first | ((with_reducible have Hz1 := Lib.hid (hkeep hb (heap_newD W7 oAc))); have hza1 := (Array.getElem?_eq_some_iff.1 Hz1.out).1) | ((with_reducible have Hz1 := Lib.hid (hkeep hb (heap_new W7 oAc))); have hza1 := (Array.getElem?_eq_some_iff.1 Hz1.out).1) | skip); clear hb) | (go_at_call 12; (with_reducible refine (HBG.out _ _ (prjK5 (by assumption)) (by first | exact heap_new _ _ | exact heap2_a _ _ _ | exact heap2_b _ _ _)).mono ?_); rintro e nw2 ⟨so3, cap3, sk3, ck3, rfl, hr, hb⟩; have hb2 := below_next (prjK5 (by assumption)) hb; have hzb2 := hb2.size; (first | ((with_reducible have Hz2 := Lib.hid (hkeep hb (heap2_b nw1 _ oAc))); have hza2 := (Array.getElem?_eq_some_iff.1 Hz2.out).1; obtain ⟨z0, z1, z2, z3, z4, z5, z6, z7, z8, z9, z10, z11⟩ := cells12 Hz2.out; obtain ⟨fz0, fz1, fz2, fz3, fz4, fz5, fz6, fz7, fz8, fz9, fz10, fz11⟩ := froz12 Hz2.out) | ((with_reducible have Hz2 := Lib.hid (hkeep hb (heap2_a nw1 oAc _))); have hza2 := (Array.getElem?_eq_some_iff.1 Hz2.out).1; obtain ⟨z0, z1, z2, z3, z4, z5, z6, z7, z8, z9, z10, z11⟩ := cells12 Hz2.out; obtain ⟨fz0, fz1, fz2, fz3, fz4, fz5, fz6, fz7, fz8, fz9, fz10, fz11⟩ := froz12 Hz2.out) | ((with_reducible have Hz2 := Lib.hid (hkeep hb (heap1_old Hz1.out _))); have hza2 := (Array.getElem?_eq_some_iff.1 Hz2.out).1; obtain ⟨z0, z1, z2, z3, z4, z5, z6, z7, z8, z9, z10, z11⟩ := cells12 Hz2.out; obtain ⟨fz0, fz1, fz2, fz3, fz4, fz5, fz6, fz7, fz8, fz9, fz10, fz11⟩ := froz12 Hz2.out) | skip); have HR3 := Lib.hid hr; clear hr; clear hb))
    all_goals
      go_wp2_with fail
      go_meet
      first
      | (with_reducible refine ⟨_, so3, cap3, sk3, ck3, rfl, Lib.hid ⟨heap_new _ _, ownsRow_base (ownsRow_ext (below_ext (below1 _ _) (Nat.le_refl _)) HR3.out) ?_, hb2.alloc hb2.size _⟩⟩; (first | omega | (simp <;> omega)))
      | (refine ⟨_, so3, cap3, sk3, ck3, rfl, Lib.hid ⟨heap12_at Hz2.out _ _ _ _ _ _ _ _ _ _ _ _, ownsRow_base (row_twelve HR3.out (row_away HR3.out ?_) _ _ _ _ _ _ _ _ _ _ _ _) ?_, below_twelve hb2 (by first | omega | (simp <;> omega)) _ _ _ _ _ _ _ _ _ _ _ _⟩⟩ <;> first | omega | (simp <;> omega))
      | trace_state
  case rest =>
    obtain ⟨nb, so3, cap3, sk3, ck3, rfl, hx⟩ := hcut
    have HN := Lib.hid (hx.out.1)
    have HBx := Lib.hid (below_next HB7.out hx.out.2.2)
    obtain ⟨g3, rfl, hg3, hc3, hrw⟩ := row_one hx.out.2.1
    have HRW := Lib.hid (hrw)
    have hnl := (Array.getElem?_eq_some_iff.1 HN.out).1
    have hEQ := fun W => eqs_run W ⟨#[49, 45, 50, 45, 51]⟩
    clear hx hrw
    go_upto_region 6 with fail
    have SO := Lib.hid (fun (W : World) (hb : Below wc.heap.size wc W) => (show W.cell? ⟨nb, 0, none⟩ = some (.int .i64 1) ∧ W.cell? ⟨nb, 7, none⟩ = some (.slice (some ⟨g3, 0, none⟩) 1 cap3) ∧ W.cell? ⟨g3, 0, none⟩ = some (.int .i64 3) ∧ W.cell? ⟨g3, 1, none⟩ = some (.int .i64 0) ∧ W.cell? ⟨g3, 2, none⟩ = some (.int .i64 0) ∧ W.cell? ⟨g3, 3, none⟩ = some (.string ⟨#[49, 45, 50, 45, 51]⟩) ∧ W.cell? ⟨g3, 4, none⟩ = some (.int .i64 0) ∧ Hid (Below wc.heap.size wc W) from ⟨(cells12 (hkeep hb HN.out)).1, (cells12 (hkeep hb HN.out)).2.2.2.2.2.2.2.1, (HRW.out W hb).1, (HRW.out W hb).2.1, (HRW.out W hb).2.2.1, (HRW.out W hb).2.2.2.1, (HRW.out W hb).2.2.2.2, Lib.hid hb⟩))
    have BA := Lib.hid (fun (W : World) (o : Obj) (hb : Below wc.heap.size wc W) => (show Below wc.heap.size wc (W.alloc o) from hb.alloc hb.size o))
    have BD := Lib.hid (fun (W : World) (hb : Below wc.heap.size wc W) => (show Below wc.heap.size wc W.drew from hb.drew))
    have hbR : Below wc.heap.size wc wc := Below.refl _ _
    have hbD : Below wc.heap.size wc wc.drew := (Below.refl _ _).drew
    go_region_held3 (fun w' => w'.cell? ⟨nb, 0, none⟩ = some (.int .i64 1) ∧ w'.cell? ⟨nb, 7, none⟩ = some (.slice (some ⟨g3, 0, none⟩) 1 cap3) ∧ w'.cell? ⟨g3, 0, none⟩ = some (.int .i64 3) ∧ w'.cell? ⟨g3, 1, none⟩ = some (.int .i64 0) ∧ w'.cell? ⟨g3, 2, none⟩ = some (.int .i64 0) ∧ w'.cell? ⟨g3, 3, none⟩ = some (.string ⟨#[49, 45, 50, 45, 51]⟩) ∧ w'.cell? ⟨g3, 4, none⟩ = some (.int .i64 0) ∧ Hid (Below wc.heap.size wc w'))
      (with_reducible refine SO.out _ ?_; repeat (first | with_reducible assumption | (with_reducible refine BA.out _ _ ?_) | (with_reducible refine BD.out _ ?_) | omega))
      (first | (go_at_call 10; (with_reducible refine (HST.out _ _).mono ?_); rintro e nw1 ⟨rfl, hb⟩; have hb1 := below_next (prjK7 (by assumption)) hb; have hzb1 := hb1.size; clear hb))
    go_wp2
    go_ret
    exact bool_done rfl (below_next HBx.out hb1)
set_option maxRecDepth 100000 in
set_option maxHeartbeats 2000000 in
theorem jbegin_pack (w : World) (h : Nat) (so : Option Addr) (k cap : Nat) {base n : Nat} {O : Nat → Prop} {M : LH} {AA : List (List V)} (kind : Int) (fk fp fq : Int) (fs : ByteArray) (fr : Int) (A : List V) (s : ByteArray) (level next : Int) (K : List V) (hO : ∀ b, O b → b < w.heap.size)
    (HM : ∀ W c, Below w.heap.size w W → W.heap[c]? = some (oCt h ⟨#[112, 97, 99, 107]⟩ (.slice so k cap)) → w.heap.size ≤ c → Calls Tryz.prog 28 #[.pointer (some ⟨c, 0, none⟩)] W (PrP base n O h M AA kind ⟨fk, fp, fq, fs, fr⟩ A s level next K W)) :
    Calls Tryz.prog 12 #[.pointer (some ⟨h, 0, none⟩), .string ⟨#[116, 97, 98, 108, 101, 46, 112, 97, 99, 107]⟩, .slice so k cap] w (PrP base n O h M AA kind ⟨fk, fp, fq, fs, fr⟩ A s level next K w) := by
  have HTP := Lib.hid (fun W => (show Calls Tryz.prog 24 #[.string ⟨#[116, 97, 98, 108, 101, 46, 112, 97, 99, 107]⟩, .string ⟨#[116, 97, 98, 108, 101, 46]⟩] W (fun e w' => e = .returned (.string ⟨#[112, 97, 99, 107]⟩) ∧ w' = W) from Tryz.strings_TrimPrefix ⟨#[116, 97, 98, 108, 101, 46, 112, 97, 99, 107]⟩ ⟨#[116, 97, 98, 108, 101, 46]⟩ W))
  have HMM := Lib.hid (HM)
  have HO := Lib.hid (hO)
  clear HM hO
  go_enter Tryz.func12, Tryz.ntmps12
  go_wp2_with fail
  refine (HTP.out _).mono ?_
  rintro e w1 ⟨rfl, rfl⟩
  go_wp2_with fail
  refine (HMM.out _ _ (below2w _ _ _) (heap2_b w oAc (oCt h ⟨#[112, 97, 99, 107]⟩ (.slice so k cap))) (by omega)).mono ?_
  rintro e w3 ⟨so3, cap3, sk3, ck3, O3, rfl, hr, hk, hP3, hq3, hno⟩
  have HR3 := Lib.hid (hr)
  have HK3 := Lib.hid (hk)
  have HP3 := Lib.hid (hP3)
  have HQ3 := Lib.hid (hq3)
  have HNO := Lib.hid (hno)
  have Ha3 := Lib.hid ((Held.qs (O := O) ⟨heap2_a w oAc (oCt h ⟨#[112, 97, 99, 107]⟩ (.slice so k cap)), fun e => Nat.lt_irrefl _ (HO.out _ e)⟩ hq3 (npb (by decide))).1)
  clear hr hk hP3 hq3 hno
  have hya : w.heap.size < w3.heap.size := (Array.getElem?_eq_some_iff.1 Ha3.out).1
  obtain ⟨a0, a1, a2, a3, a4, a5, a6, a7, a8, a9, a10, a11⟩ := cells12 Ha3.out
  obtain ⟨fa0, fa1, fa2, fa3, fa4, fa5, fa6, fa7, fa8, fa9, fa10, fa11⟩ := froz12 Ha3.out
  go_wp2
  refine bodyPost_ret (by simp [results, Tryz.results12, go_sem, hya, a0, a1, a2, a3, a4, a5, a6, a7, a8, a9, a10, a11]; first | done | rfl) rfl ?_
  exact prP_end HR3.out HK3.out HP3.out ((QS.of_below (below2w w oAc (oCt h ⟨#[112, 97, 99, 107]⟩ (.slice so k cap)))).trans HQ3.out) Ha3.out (Nat.le_refl _) (by simp <;> omega) (by simp <;> omega) HNO.out _ _ _ _ _ _ _ _ _ _ _ _
set_option maxRecDepth 100000 in
set_option maxHeartbeats 2000000 in
theorem kbegin_unpack (w : World) (h : Nat) (so : Option Addr) (n cap : Nat) (kind op : Int) (fk fp fq : Int) (fs : ByteArray) (fr : Int) (A : List V) (s : ByteArray) (level next : Int) (K : List V)
    (HM : ∀ W c, Below w.heap.size w W → W.heap[c]? = some (oCt h ⟨#[117, 110, 112, 97, 99, 107]⟩ (.slice so n cap)) → w.heap.size ≤ c → Calls Tryz.prog 31 #[.pointer (some ⟨c, 0, none⟩)] W (ActPost (fun k => k = c) W kind op ⟨fk, fp, fq, fs, fr⟩ A s level next K)) :
    Calls Tryz.prog 12 #[.pointer (some ⟨h, 0, none⟩), .string ⟨#[116, 97, 98, 108, 101, 46, 117, 110, 112, 97, 99, 107]⟩, .slice so n cap] w (ActPost NoF w kind op ⟨fk, fp, fq, fs, fr⟩ A s level next K) := by
  have HTP := Lib.hid (fun W => (show Calls Tryz.prog 24 #[.string ⟨#[116, 97, 98, 108, 101, 46, 117, 110, 112, 97, 99, 107]⟩, .string ⟨#[116, 97, 98, 108, 101, 46]⟩] W (fun e w' => e = .returned (.string ⟨#[117, 110, 112, 97, 99, 107]⟩) ∧ w' = W) from Tryz.strings_TrimPrefix ⟨#[116, 97, 98, 108, 101, 46, 117, 110, 112, 97, 99, 107]⟩ ⟨#[116, 97, 98, 108, 101, 46]⟩ W))
  have HMM := Lib.hid (HM)
  clear HM
  go_enter Tryz.func12, Tryz.ntmps12
  go_wp2_with fail
  refine (HTP.out _).mono ?_
  rintro e w1 ⟨rfl, rfl⟩
  go_wp2_with fail
  refine (HMM.out _ _ (below2w _ _ _) (heap2_b w oAc (oCt h ⟨#[117, 110, 112, 97, 99, 107]⟩ (.slice so n cap))) (by omega)).mono ?_
  rintro e w3 ⟨so3, cap3, sk3, ck3, rfl, hr, hk, hm⟩
  have HR3 := Lib.hid (hr)
  have HK3 := Lib.hid (hk)
  have Ha3 := Lib.hid (mkeep hm (heap2_a w oAc (oCt h ⟨#[117, 110, 112, 97, 99, 107]⟩ (.slice so n cap))) (by omega))
  have HW3 := Lib.hid (Mods.below (Mods.trans (Mods.of_below (below2w w oAc (oCt h ⟨#[117, 110, 112, 97, 99, 107]⟩ (.slice so n cap)))) hm) (Nat.le_refl _) (fun k hk h => by omega))
  clear hr hk hm
  have hya : w.heap.size < w3.heap.size := (Array.getElem?_eq_some_iff.1 Ha3.out).1
  obtain ⟨a0, a1, a2, a3, a4, a5, a6, a7, a8, a9, a10, a11⟩ := cells12 Ha3.out
  obtain ⟨fa0, fa1, fa2, fa3, fa4, fa5, fa6, fa7, fa8, fa9, fa10, fa11⟩ := froz12 Ha3.out
  go_wp2
  refine bodyPost_ret (by simp [results, Tryz.results12, go_sem, hya, a0, a1, a2, a3, a4, a5, a6, a7, a8, a9, a10, a11]; first | done | rfl) rfl ?_
  exact act_end (B := w.heap.size + 1) (ownsRow_base HR3.out (by simp <;> omega)) (ownsRow_base HK3.out (by simp <;> omega)) (Mods.of_below HW3.out) (Nat.le_refl _) (Nat.lt_succ_self _) _ _ _ _ _ _ _ _ _ _ _ _
theorem pack_begin (w : World) (h : Nat) {base n : Nat} {M0 : LH} {AA0 : List (List V)} {O : Nat → Prop} (vs : List V) (hP : PHp base n w h M0 AA0 O) (hb0 : base ≤ w.heap.size) (hn : n + vs.length ≤ 980) (hL : AA0.length = M0.length) (hM0 : M0.length ≤ 900) (so : Option Addr) (cap : Nat) (hA : Vals w (.slice so vs.length cap) vs) (g : Nat) (cs : Array Value) (hG : vs = [] ∨ (∃ o, so = some ⟨g, o, none⟩) ∧ Held w O g (.cells cs 30)) (hV : ∀ v ∈ vs, validV v = true ∧ WfV v) (hl : vs.length ≤ 300) :
    Calls Tryz.prog 12 #[.pointer (some ⟨h, 0, none⟩), .string ⟨#[116, 97, 98, 108, 101, 46, 112, 97, 99, 107]⟩, .slice so vs.length cap] w (PkPost base (n + vs.length + 1) O h M0 AA0 vs w) :=
  jbegin_pack w h so vs.length cap 1 0 0 0 ⟨#[]⟩ 0 [⟨4, 0, 0, ⟨#[]⟩, (M0.length : Int) + 1⟩] ⟨#[]⟩ 0 0 [] hP.lt (fun W c hb hc hle => tPack_c W c h _ so cap vs (hP.below hb) (by have := hb.size; omega) hn hL hM0 ⟨hc, fun e => by have := hP.lt _ e; omega⟩ (Vals.below hA hb) g cs (hG.imp id (fun h => ⟨h.1, h.2.below hb⟩)) hV hl)
theorem unpack_begin (w : World) (h : Nat) {base n : Nat} {M : LH} {AA : List (List V)} {O : Nat → Prop} (hP : PHp base n w h M AA O) (hn : n ≤ 1000) {ti : Nat} (hti : ti ≤ 100000) (vs : List V) (hM : M[ti]? = some ⟨4, V.nil, pkE vs⟩) (hA : AA[ti]? = some (vs.take (fstNil vs))) (hl : vs.length ≤ 300) (hV : ∀ v ∈ vs, validV v = true ∧ WfV v) (ga cap : Nat) (hX : Vals w (.slice (some ⟨ga, 0, none⟩) 3 cap) [⟨4, 0, 0, ⟨#[]⟩, (ti : Int) + 1⟩, ⟨2, 1, 1, ⟨#[]⟩, 0⟩, ⟨2, (vs.length : Nat), 1, ⟨#[]⟩, 0⟩]) :
    Calls Tryz.prog 12 #[.pointer (some ⟨h, 0, none⟩), .string ⟨#[116, 97, 98, 108, 101, 46, 117, 110, 112, 97, 99, 107]⟩, .slice (some ⟨ga, 0, none⟩) 3 cap] w (UnPost vs w) := by
  have hta : (vs.take (fstNil vs)).length ≤ 1000 := by rw [List.length_take]; omega
  unfold UnPost upK upA upL
  by_cases hm : vs.length ≤ 200
  · rw [if_pos hm, if_pos hm, if_pos hm]
    refine (kbegin_unpack w h (some ⟨ga, 0, none⟩) 3 cap 1 0 0 0 0 ⟨#[]⟩ 0 vs ⟨#[]⟩ 0 0 [] (fun W c hb hc _ => tUnpack_ok W c h _ ga cap hc (hP.below hb) hti hM hA rfl hta vs hl (Vals.below hX hb) hm (fun W' hb' j v hv => ?_))).mono ?_
    · have hj : j < vs.length := (List.getElem?_eq_some_iff.1 hv).1
      have := pGetT_c ((hP.below hb).below hb') hn hM hA rfl 4 0 0 ⟨#[]⟩ ((ti : Int) + 1) rfl rfl ⟨by omega, by omega⟩ 2 ((j : Int) + 1) 1 ⟨#[]⟩ 0 (valid_num (by omega) (by omega)) (wf_num (by omega) (by omega))
      rw [show tgetM (vs.take (fstNil vs)) (⟨4, V.nil, pkE vs⟩ : LO).L ⟨2, (j : Int) + 1, 1, ⟨#[]⟩, 0⟩ = v from pk_tget (fun v hv => (hV v hv).1) (by omega) hv] at this
      exact this
    · rintro e w' ⟨so3, cap3, sk3, ck3, rfl, hr, hk, hm⟩
      exact ⟨so3, cap3, sk3, ck3, rfl, hr, hk, mods_below hm⟩
  · rw [if_neg hm, if_neg hm, if_neg hm]
    refine (kbegin_unpack w h (some ⟨ga, 0, none⟩) 3 cap 2 0 0 0 0 ⟨#[]⟩ 0 [strV ⟨#[116, 111, 111, 32, 109, 97, 110, 121, 32, 114, 101, 115, 117, 108, 116, 115, 32, 116, 111, 32, 117, 110, 112, 97, 99, 107]⟩] ⟨#[]⟩ 1 0 [] (fun W c hb hc _ => tUnpack_many W c h _ ga cap hc (hP.below hb) hti hM hA rfl hta vs hl (Vals.below hX hb) (by omega))).mono ?_
    rintro e w' ⟨so3, cap3, sk3, ck3, rfl, hr, hk, hm⟩
    exact ⟨so3, cap3, sk3, ck3, rfl, hr, hk, mods_below hm⟩
/-- Get of the number of values. -/
theorem getN_c {w : World} {h : Nat} {base n : Nat} {M : LH} {AA : List (List V)} {O : Nat → Prop} (hP : PHp base n w h M AA O) (hn : n ≤ 1000) {ti : Nat} (hti : ti ≤ 100000) (vs : List V) (hM : M[ti]? = some ⟨4, V.nil, pkE vs⟩) (hA : AA[ti]? = some (vs.take (fstNil vs))) :
    Calls Tryz.prog 21 #[.pointer (some ⟨h, 0, none⟩), tabA ti, .agg #[.int .i64 3, .int .i64 0, .int .i64 0, .string sN, .int .i64 0]] w (fun e w' => e = .returned (.tuple #[.agg #[.int .i64 2, .int .i64 (vs.length : Nat), .int .i64 1, .string ⟨#[]⟩, .int .i64 0], .int .i64 0]) ∧ Below w.heap.size w w') := by
  have := pGetT_c hP hn hM hA rfl 4 0 0 ⟨#[]⟩ ((ti : Int) + 1) rfl rfl ⟨by omega, by omega⟩ 3 0 0 sN 0 (valid_str (by decide)) (wf_str (by decide))
  rw [show tgetM (vs.take (fstNil vs)) (⟨4, V.nil, pkE vs⟩ : LO).L ⟨3, 0, 0, sN, 0⟩ = ⟨2, (vs.length : Nat), 1, ⟨#[]⟩, 0⟩ from by
    unfold tgetM
    rw [show inA (vs.take (fstNil vs)) ⟨3, 0, 0, sN, 0⟩ = false from rfl]
    exact pkE_n vs] at this
  exact this
end Go.Proofs.YtpbcmlnjiocmoaaGreatDoorR
