import Derived.Test.YtpbcmlnjiocmoaaGreatDoorRKb
import Derived.Test.YtpbcmlnjiocmoaaGreatDoorRKc
set_option linter.unusedVariables false
set_option linter.unusedSimpArgs false
set_option maxRecDepth 100000
set_option maxHeartbeats 40000000
namespace Go.Proofs.YtpbcmlnjiocmoaaGreatDoorR
open Go.RowKit Go.Proofs.Lexi
set_option maxRecDepth 100000 in
set_option maxHeartbeats 2000000 in
theorem kbegin_concat (w : World) (h : Nat) (so : Option Addr) (n cap : Nat) (kind op : Int) (fk fp fq : Int) (fs : ByteArray) (fr : Int) (A : List V) (s : ByteArray) (level next : Int) (K : List V)
    (HM : ∀ W c, Below w.heap.size w W → W.heap[c]? = some (oCt h ⟨#[99, 111, 110, 99, 97, 116]⟩ (.slice so n cap)) → w.heap.size ≤ c → Calls Tryz.prog 25 #[.pointer (some ⟨c, 0, none⟩)] W (ActPost (fun k => k = c) W kind op ⟨fk, fp, fq, fs, fr⟩ A s level next K)) :
    Calls Tryz.prog 12 #[.pointer (some ⟨h, 0, none⟩), .string ⟨#[116, 97, 98, 108, 101, 46, 99, 111, 110, 99, 97, 116]⟩, .slice so n cap] w (ActPost NoF w kind op ⟨fk, fp, fq, fs, fr⟩ A s level next K) := by
  have HTP := Lib.hid (fun W => (show Calls Tryz.prog 24 #[.string ⟨#[116, 97, 98, 108, 101, 46, 99, 111, 110, 99, 97, 116]⟩, .string ⟨#[116, 97, 98, 108, 101, 46]⟩] W (fun e w' => e = .returned (.string ⟨#[99, 111, 110, 99, 97, 116]⟩) ∧ w' = W) from Tryz.strings_TrimPrefix ⟨#[116, 97, 98, 108, 101, 46, 99, 111, 110, 99, 97, 116]⟩ ⟨#[116, 97, 98, 108, 101, 46]⟩ W))
  have HMM := Lib.hid (HM)
  clear HM
  go_enter Tryz.func12, Tryz.ntmps12
  go_wp2_with fail
  refine (HTP.out _).mono ?_
  rintro e w1 ⟨rfl, rfl⟩
  go_wp2_with fail
  refine (HMM.out _ _ (below2w _ _ _) (heap2_b w oAc (oCt h ⟨#[99, 111, 110, 99, 97, 116]⟩ (.slice so n cap))) (by omega)).mono ?_
  rintro e w3 ⟨so3, cap3, sk3, ck3, rfl, hr, hk, hm⟩
  have HR3 := Lib.hid (hr)
  have HK3 := Lib.hid (hk)
  have Ha3 := Lib.hid (mkeep hm (heap2_a w oAc (oCt h ⟨#[99, 111, 110, 99, 97, 116]⟩ (.slice so n cap))) (by omega))
  have HW3 := Lib.hid (Mods.below (Mods.trans (Mods.of_below (below2w w oAc (oCt h ⟨#[99, 111, 110, 99, 97, 116]⟩ (.slice so n cap)))) hm) (Nat.le_refl _) (fun k hk h => by omega))
  clear hr hk hm
  have hya : w.heap.size < w3.heap.size := (Array.getElem?_eq_some_iff.1 Ha3.out).1
  obtain ⟨a0, a1, a2, a3, a4, a5, a6, a7, a8, a9, a10, a11⟩ := cells12 Ha3.out
  obtain ⟨fa0, fa1, fa2, fa3, fa4, fa5, fa6, fa7, fa8, fa9, fa10, fa11⟩ := froz12 Ha3.out
  go_wp2
  refine bodyPost_ret (by simp [results, Tryz.results12, go_sem, hya, a0, a1, a2, a3, a4, a5, a6, a7, a8, a9, a10, a11]; first | done | rfl) rfl ?_
  exact act_end (B := w.heap.size + 1) (ownsRow_base HR3.out (by simp <;> omega)) (ownsRow_base HK3.out (by simp <;> omega)) (Mods.of_below HW3.out) (Nat.le_refl _) (Nat.lt_succ_self _) _ _ _ _ _ _ _ _ _ _ _ _
/-- Begin of concat, as the laws call it. -/
theorem concat_begin (w : World) (h : Nat) {base n : Nat} {M : LH} {AA : List (List V)} {O : Nat → Prop} (hP : PHp base n w h M AA O) (hn : n ≤ 1000) {ti : Nat} (hti : ti ≤ 100000) {o : LO} {A : List V} (hM : M[ti]? = some o) (hA : AA[ti]? = some A) (h4 : o.kind = 4) (hl : A.length ≤ 1000) (sep : ByteArray) (hsep : sep.size ≤ 4096) (so : Option Addr) (cap : Nat) (hX : Vals w (.slice so 2 cap) [⟨4, 0, 0, ⟨#[]⟩, (ti : Int) + 1⟩, strV sep]) (hT : ∀ v ∈ A, sE (strOf v) = 0 ∧ (txt v).size ≤ 4096) (htab : Pow10 w) (S : List UInt8) (hS : S = conP A sep A.length) :
    Calls Tryz.prog 12 #[.pointer (some ⟨h, 0, none⟩), .string ⟨#[116, 97, 98, 108, 101, 46, 99, 111, 110, 99, 97, 116]⟩, .slice so 2 cap] w (fun e w' => ∃ so3 cap3 sk3 ck3, e = .returned (acV (conK S) 0 V.nil (.slice so3 (conA S).length cap3) ⟨#[]⟩ (conL S) 0 (.slice sk3 0 ck3)) ∧ w'.ownsRow w.heap.size 30 5 (.slice so3 (conA S).length cap3) (conA S).length (rowV (conA S)) ∧ Below w.heap.size w w') := by
  refine (kbegin_concat w h so 2 cap (conK S) 0 0 0 0 ⟨#[]⟩ 0 (conA S) ⟨#[]⟩ (conL S) 0 [] (fun W c hb hc _ => concat_c W c h _ so cap hc (hP.below hb) hn hti hM hA h4 hl sep hsep (Vals.below hX hb) hT (htab.stays hb) S hS)).mono ?_
  rintro e w' ⟨so3, cap3, sk3, ck3, rfl, hr, hk, hm⟩
  exact ⟨so3, cap3, sk3, ck3, rfl, hr, mods_below hm⟩
set_option maxRecDepth 100000 in
set_option maxHeartbeats 2000000 in
theorem lives_c (w : World) (htab : Pow10 w) : Calls Tryz.prog 9 #[] w (BoolPost w true) := by
  have HTB := Lib.hid (fun W (hb : Below w.heap.size w W) => htab.stays hb)
  have HK := Lib.hid (fun W x => kNum_c W x)
  clear htab
  go_enter Tryz.func9, Tryz.ntmps9
  go_wp2_with fail
  refine (pNew_c _).mono ?_
  rintro e w1 ⟨h, rfl, hP1, hb1⟩
  have HP1 := Lib.hid (hP1)
  have HW1 := Lib.hid (hb1)
  have hz1 := hb1.size
  clear hP1 hb1
  go_wp2_with fail
  refine (HK.out _ 1).mono ?_
  rintro e w2 ⟨rfl, hb⟩
  have HW2 := Lib.hid (hb)
  clear hb
  go_wp2_with fail
  refine (HK.out _ 2).mono ?_
  rintro e w3 ⟨rfl, hb⟩
  have HW3 := Lib.hid (below_next HW2.out hb)
  clear hb
  go_wp2_with fail
  refine (HK.out _ 3).mono ?_
  rintro e w4 ⟨rfl, hb⟩
  have HW4 := Lib.hid (below_next HW3.out hb)
  clear hb
  obtain ⟨W5, hW5⟩ : ∃ W5, W5 = w4.alloc (.cells (rowV oneL).toArray 30) := ⟨_, rfl⟩
  have HB5 := Lib.hid ((show Below w1.heap.size w1 W5 by rw [hW5]; exact HW4.out.alloc HW4.out.size _))
  have HR5 := Lib.hid ((show W5.ownsRow w4.heap.size 30 5 (.slice (some ⟨w4.heap.size, 0, none⟩) oneL.length oneL.length) oneL.length (rowV oneL) by rw [hW5]; exact row_lit w4 oneL (by decide)))
  have HP5 := Lib.hid (HP1.out.below HB5.out)
  have HG5 := Lib.hid ((show W5.heap[w4.heap.size]? = some (.cells (rowV oneL).toArray 30) by rw [hW5]; exact heap1 _ _))
  have hz4 := HW4.out.size
  have hlist : Calls Tryz.prog 11 #[.pointer (some ⟨h, 0, none⟩), .slice (some ⟨w4.heap.size, 0, none⟩) 3 3] (w4.alloc (.cells #[.int .i64 2, .int .i64 1, .int .i64 1, .string ⟨#[]⟩, .int .i64 0, .int .i64 2, .int .i64 2, .int .i64 1, .string ⟨#[]⟩, .int .i64 0, .int .i64 2, .int .i64 3, .int .i64 1, .string ⟨#[]⟩, .int .i64 0] 30)) (fun e w' => e = .returned (.tuple #[.agg #[.int .i64 4, .int .i64 0, .int .i64 0, .string ⟨#[]⟩, .int .i64 1], .bool true]) ∧ ∃ O', PHp w.heap.size (0 + oneL.length) w' h ([] ++ [⟨4, V.nil, []⟩]) ([] ++ [oneL]) O' ∧ QS w.heap.size (fun _ => False) W5 O' w') := by
    have hl := list_c W5 h HP5.out (by have := HB5.out.size; omega) (some ⟨w4.heap.size, 0, none⟩) 3 oneL (by decide) (by decide) rfl (Vals.of_row HR5.out) w4.heap.size (rowV oneL).toArray (.inr ⟨⟨0, rfl⟩, HG5.out, fun e => e⟩) oneL_ok
    rw [show w4.alloc (.cells #[.int .i64 2, .int .i64 1, .int .i64 1, .string ⟨#[]⟩, .int .i64 0, .int .i64 2, .int .i64 2, .int .i64 1, .string ⟨#[]⟩, .int .i64 0, .int .i64 2, .int .i64 3, .int .i64 1, .string ⟨#[]⟩, .int .i64 0] 30) = W5 from hW5.symm]
    exact hl
  have HB5q := Lib.hid (HB5.out)
  have HLI := Lib.hid (hlist)
  clear hlist hW5
  go_wp2_with fail
  refine HLI.out.mono ?_
  rintro e w6 ⟨rfl, O6, hP6, hq6⟩
  have HP6 := Lib.hid (hP6)
  have HB6 := Lib.hid ((show Below w.heap.size w w6 from (below_next HW1.out HB5q.out).trans (hq6.below (by have := HB5q.out.size; omega))))
  have hz6 := HB6.out.size
  clear hP6 hq6
  go_upto_region 5 with fail
  obtain ⟨W7, hW7⟩ : ∃ W7, W7 = w6.alloc (oV 4 0 0 ⟨#[]⟩ 1) := ⟨_, rfl⟩
  have HB7 := Lib.hid ((show Below w.heap.size w W7 by rw [hW7]; exact HB6.out.alloc HB6.out.size _))
  have HT7 := Lib.hid ((show W7.heap[w6.heap.size]? = some (oV 4 0 0 ⟨#[]⟩ 1) by rw [hW7]; exact heap1 _ _))
  have HP7 := Lib.hid ((show PHp w.heap.size (0 + oneL.length) W7 h ([] ++ [⟨4, V.nil, []⟩]) ([] ++ [oneL]) O6 by rw [hW7]; exact HP6.out.below (below1 _ _)))
  have hz7 : w6.heap.size < W7.heap.size := (Array.getElem?_eq_some_iff.1 HT7.out).1
  try rw [show w6.alloc (oV 4 0 0 ⟨#[]⟩ 1) = W7 from hW7.symm]
  clear hW7
  have HBG := Lib.hid (fun (W : World) (m : Nat) (hb : Below W7.heap.size W7 W) (hX : W.heap[m]? = some (.cells #[.int .i64 4, .int .i64 0, .int .i64 0, .string ⟨#[]⟩, .int .i64 1, .int .i64 3, .int .i64 0, .int .i64 0, .string ⟨#[45]⟩, .int .i64 0] 30)) => (show Calls Tryz.prog 12 #[.pointer (some ⟨h, 0, none⟩), .string ⟨#[116, 97, 98, 108, 101, 46, 99, 111, 110, 99, 97, 116]⟩, .slice (some ⟨m, 0, none⟩) 2 2] W (fun e w' => ∃ so3 cap3 sk3 ck3, e = .returned (acV 1 0 V.nil (.slice so3 1 cap3) ⟨#[]⟩ 0 0 (.slice sk3 0 ck3)) ∧ w'.ownsRow W.heap.size 30 5 (.slice so3 1 cap3) 1 (rowV [strV ⟨#[49, 45, 50, 45, 51]⟩]) ∧ Below W.heap.size W w') from concat_begin W h (HP7.out.below hb) (by decide) (ti := 0) (by decide) (o := ⟨4, V.nil, []⟩) (A := oneL) rfl rfl rfl (by decide) ⟨#[45]⟩ (by decide) (some ⟨m, 0, none⟩) 2 (two_vals hX) oneL_txt (HTB.out _ (below_next HB7.out hb)) [49, 45, 50, 45, 51] oneL_con))
  have HST := Lib.hid (fun W s => kStr_c W s)
  go_cut [4] (fun s4 wx => ∃ nb so3 cap3 sk3 ck3, s4 = .pointer (some ⟨nb, 0, none⟩) ∧ Hid (wx.heap[nb]? = some (.cells #[.int .i64 1, .int .i64 0, .int .i64 0, .int .i64 0, .int .i64 0, .string ⟨#[]⟩, .int .i64 0, .slice so3 1 cap3, .string ⟨#[]⟩, .int .i64 0, .int .i64 0, .slice sk3 0 ck3] 35) ∧ wx.ownsRow W7.heap.size 30 5 (.slice so3 1 cap3) 1 (rowV [strV ⟨#[49, 45, 50, 45, 51]⟩]) ∧ Below W7.heap.size W7 wx))
  case first =>
    have SO := Lib.hid (fun (W : World) (hb : Below W7.heap.size W7 W) => (show W.cell? ⟨w6.heap.size, 0, none⟩ = some (.int .i64 4) ∧ W.cell? ⟨w6.heap.size, 1, none⟩ = some (.int .i64 0) ∧ W.cell? ⟨w6.heap.size, 2, none⟩ = some (.int .i64 0) ∧ W.cell? ⟨w6.heap.size, 3, none⟩ = some (.string ⟨#[]⟩) ∧ W.cell? ⟨w6.heap.size, 4, none⟩ = some (.int .i64 1) ∧ Hid (Below W7.heap.size W7 W) from ⟨(cells5 (hkeep hb HT7.out)).1, (cells5 (hkeep hb HT7.out)).2.1, (cells5 (hkeep hb HT7.out)).2.2.1, (cells5 (hkeep hb HT7.out)).2.2.2.1, (cells5 (hkeep hb HT7.out)).2.2.2.2, Lib.hid hb⟩))
    have BA := Lib.hid (fun (W : World) (o : Obj) (hb : Below W7.heap.size W7 W) => (show Below W7.heap.size W7 (W.alloc o) from hb.alloc hb.size o))
    have BD := Lib.hid (fun (W : World) (hb : Below W7.heap.size W7 W) => (show Below W7.heap.size W7 W.drew from hb.drew))
    have B12 := Lib.hid (fun (W : World) (b : Nat) (x0 x1 x2 x3 x4 x5 x6 x7 x8 x9 x10 x11 : Value) (hb : Below W7.heap.size W7 W) (hbb : W7.heap.size ≤ b) => below_twelve hb hbb x0 x1 x2 x3 x4 x5 x6 x7 x8 x9 x10 x11)
    have hbR : Below W7.heap.size W7 W7 := Below.refl _ _
    have hbD : Below W7.heap.size W7 W7.drew := (Below.refl _ _).drew
    go_region_held3 (fun w' => w'.cell? ⟨w6.heap.size, 0, none⟩ = some (.int .i64 4) ∧ w'.cell? ⟨w6.heap.size, 1, none⟩ = some (.int .i64 0) ∧ w'.cell? ⟨w6.heap.size, 2, none⟩ = some (.int .i64 0) ∧ w'.cell? ⟨w6.heap.size, 3, none⟩ = some (.string ⟨#[]⟩) ∧ w'.cell? ⟨w6.heap.size, 4, none⟩ = some (.int .i64 1) ∧ Hid (Below W7.heap.size W7 w'))
      (with_reducible refine SO.out _ ?_; repeat (first | with_reducible assumption | (with_reducible refine BA.out _ _ ?_) | (with_reducible refine BD.out _ ?_) | (with_reducible refine B12.out _ _ _ _ _ _ _ _ _ _ _ _ _ _ ?_ ?_) | omega | (simp <;> omega)))
      (first | (go_at_call 10; (with_reducible refine (HST.out _ _).mono ?_); rintro e nw1 ⟨rfl, hb⟩; have hb1 := below_next (prjK5 (by assumption)) hb; have hzb1 := hb1.size; (first | ((with_reducible have Hz1 := Lib.hid (hkeep hb (heap_newD W7 oAc))); have hza1 := (Array.getElem?_eq_some_iff.1 Hz1.out).1) | ((with_reducible have Hz1 := Lib.hid (hkeep hb (heap_new W7 oAc))); have hza1 := (Array.getElem?_eq_some_iff.1 Hz1.out).1) | skip); clear hb) | (go_at_call 12; (with_reducible refine (HBG.out _ _ (prjK5 (by assumption)) (by first | exact heap_new _ _ | exact heap2_a _ _ _ | exact heap2_b _ _ _)).mono ?_); rintro e nw2 ⟨so3, cap3, sk3, ck3, rfl, hr, hb⟩; have hb2 := below_next (prjK5 (by assumption)) hb; have hzb2 := hb2.size; (first | ((with_reducible have Hz2 := Lib.hid (hkeep hb (heap2_b nw1 _ oAc))); have hza2 := (Array.getElem?_eq_some_iff.1 Hz2.out).1; obtain ⟨z0, z1, z2, z3, z4, z5, z6, z7, z8, z9, z10, z11⟩ := cells12 Hz2.out; obtain ⟨fz0, fz1, fz2, fz3, fz4, fz5, fz6, fz7, fz8, fz9, fz10, fz11⟩ := froz12 Hz2.out) | ((with_reducible have Hz2 := Lib.hid (hkeep hb (heap2_a nw1 oAc _))); have hza2 := (Array.getElem?_eq_some_iff.1 Hz2.out).1; obtain ⟨z0, z1, z2, z3, z4, z5, z6, z7, z8, z9, z10, z11⟩ := cells12 Hz2.out; obtain ⟨fz0, fz1, fz2, fz3, fz4, fz5, fz6, fz7, fz8, fz9, fz10, fz11⟩ := froz12 Hz2.out) | ((with_reducible have Hz2 := Lib.hid (hkeep hb (heap1_old Hz1.out _))); have hza2 := (Array.getElem?_eq_some_iff.1 Hz2.out).1; obtain ⟨z0, z1, z2, z3, z4, z5, z6, z7, z8, z9, z10, z11⟩ := cells12 Hz2.out; obtain ⟨fz0, fz1, fz2, fz3, fz4, fz5, fz6, fz7, fz8, fz9, fz10, fz11⟩ := froz12 Hz2.out) | skip); have HR3 := Lib.hid hr; clear hr; clear hb))
    all_goals
      go_wp2_with fail
      go_meet
      first
      | (with_reducible refine ⟨_, so3, cap3, sk3, ck3, rfl, Lib.hid ⟨heap_new _ _, ownsRow_base (ownsRow_ext (below_ext (below1 _ _) (Nat.le_refl _)) HR3.out) ?_, hb2.alloc hb2.size _⟩⟩; (first | omega | (simp <;> omega)))
      | (refine ⟨_, so3, cap3, sk3, ck3, rfl, Lib.hid ⟨heap12_at Hz2.out _ _ _ _ _ _ _ _ _ _ _ _, ownsRow_base (row_twelve HR3.out (row_away HR3.out ?_) _ _ _ _ _ _ _ _ _ _ _ _) ?_, below_twelve hb2 (by first | omega | (simp <;> omega)) _ _ _ _ _ _ _ _ _ _ _ _⟩⟩ <;> first | omega | (simp <;> omega))
      | trace_state
  case rest =>
    obtain ⟨nb, so3, cap3, sk3, ck3, rfl, hx⟩ := hcut
    have HN := Lib.hid (hx.out.1)
    have HBx := Lib.hid (below_next HB7.out hx.out.2.2)
    obtain ⟨g3, rfl, hg3, hc3, hrw⟩ := row_one hx.out.2.1
    have HRW := Lib.hid (hrw)
    have hnl := (Array.getElem?_eq_some_iff.1 HN.out).1
    have hEQ := fun W => eqs_run W ⟨#[49, 45, 50, 45, 51]⟩
    clear hx hrw
    go_upto_region 6 with fail
    have SO := Lib.hid (fun (W : World) (hb : Below wc.heap.size wc W) => (show W.cell? ⟨nb, 0, none⟩ = some (.int .i64 1) ∧ W.cell? ⟨nb, 7, none⟩ = some (.slice (some ⟨g3, 0, none⟩) 1 cap3) ∧ W.cell? ⟨g3, 0, none⟩ = some (.int .i64 3) ∧ W.cell? ⟨g3, 1, none⟩ = some (.int .i64 0) ∧ W.cell? ⟨g3, 2, none⟩ = some (.int .i64 0) ∧ W.cell? ⟨g3, 3, none⟩ = some (.string ⟨#[49, 45, 50, 45, 51]⟩) ∧ W.cell? ⟨g3, 4, none⟩ = some (.int .i64 0) ∧ Hid (Below wc.heap.size wc W) from ⟨(cells12 (hkeep hb HN.out)).1, (cells12 (hkeep hb HN.out)).2.2.2.2.2.2.2.1, (HRW.out W hb).1, (HRW.out W hb).2.1, (HRW.out W hb).2.2.1, (HRW.out W hb).2.2.2.1, (HRW.out W hb).2.2.2.2, Lib.hid hb⟩))
    have BA := Lib.hid (fun (W : World) (o : Obj) (hb : Below wc.heap.size wc W) => (show Below wc.heap.size wc (W.alloc o) from hb.alloc hb.size o))
    have BD := Lib.hid (fun (W : World) (hb : Below wc.heap.size wc W) => (show Below wc.heap.size wc W.drew from hb.drew))
    have hbR : Below wc.heap.size wc wc := Below.refl _ _
    have hbD : Below wc.heap.size wc wc.drew := (Below.refl _ _).drew
    go_region_held3 (fun w' => w'.cell? ⟨nb, 0, none⟩ = some (.int .i64 1) ∧ w'.cell? ⟨nb, 7, none⟩ = some (.slice (some ⟨g3, 0, none⟩) 1 cap3) ∧ w'.cell? ⟨g3, 0, none⟩ = some (.int .i64 3) ∧ w'.cell? ⟨g3, 1, none⟩ = some (.int .i64 0) ∧ w'.cell? ⟨g3, 2, none⟩ = some (.int .i64 0) ∧ w'.cell? ⟨g3, 3, none⟩ = some (.string ⟨#[49, 45, 50, 45, 51]⟩) ∧ w'.cell? ⟨g3, 4, none⟩ = some (.int .i64 0) ∧ Hid (Below wc.heap.size wc w'))
      (with_reducible refine SO.out _ ?_; repeat (first | with_reducible assumption | (with_reducible refine BA.out _ _ ?_) | (with_reducible refine BD.out _ ?_) | omega))
      (first | (go_at_call 10; (with_reducible refine (HST.out _ _).mono ?_); rintro e nw1 ⟨rfl, hb⟩; have hb1 := below_next (prjK7 (by assumption)) hb; have hzb1 := hb1.size; clear hb))
    go_wp2
    go_ret
    exact bool_done rfl (below_next HBx.out hb1)
theorem kJoin_c (w : World) (so : Option Addr) (cap : Nat) (l : List ByteArray) (hS : Strs w so l) (hcap : l.length ≤ cap) (hl : l.length ≤ 60) (hs : ∀ s ∈ l, s.size ≤ 500) (sep : ByteArray) (hsep : sep.size ≤ 100) : Calls Tryz.prog 13 #[.slice so l.length cap, .string sep] w (fun e w' => e = .returned (.string (joinB l sep)) ∧ Below w.heap.size w w') := by
  rcases hS with rfl | ⟨g, o, rfl, hc⟩
  · refine (Tryz.strings_Join_none so cap sep w).mono ?_
    rintro e w' ⟨rfl, rfl⟩
    exact ⟨rfl, Below.refl _ _⟩
  · by_cases hne : l = []
    · subst hne
      refine (Tryz.strings_Join_none (some ⟨g, o, none⟩) cap sep w).mono ?_
      rintro e w' ⟨rfl, rfl⟩
      exact ⟨rfl, Below.refl _ _⟩
    · have hg : g < w.heap.size := by
        obtain ⟨x, hx⟩ : ∃ x, l[0]? = some x := ⟨_, List.getElem?_eq_getElem (List.length_pos_iff.2 hne)⟩
        exact World.block_lt_of_cell? _ _ (hc 0 x hx)
      exact Tryz.strings_Join g o cap l sep w (fun j x hx => hc j x hx) hg (by omega) hcap (by have := joinB_len hl hs hsep; omega)
set_option maxRecDepth 100000 in
set_option maxHeartbeats 40000000 in
theorem concat_law (w : World) (htab : Pow10 w) (so : Option Addr) (cap : Nat) (l : List ByteArray) (sep : ByteArray) (hS : Strs w so l) (hl : l.length ≤ 60) (hsep : sep.size ≤ 100) (hcap : l.length ≤ cap) :
    Calls Tryz.prog 3 #[.slice so l.length cap, .string sep] w (BoolPost w true) := by
  have HTB := Lib.hid (fun W (hb : Below w.heap.size w W) => htab.stays hb)
  have HLV := Lib.hid (fun W (hb : Below w.heap.size w W) => lives_c W (htab.stays hb))
  have HST := Lib.hid (fun W s => kStr_c W s)
  have HS := Lib.hid (hS)
  have d1 : decide ((l.length : Int) > 60) = false := decide_eq_false (by omega)
  have d2 : decide ((sep.size : Int) > 100) = false := decide_eq_false (by omega)
  clear htab hS
  go_enter Tryz.func3, Tryz.ntmps3
  go_wp2_with fail
  refine (pNew_c _).mono ?_
  rintro e w1 ⟨h, rfl, hP1, hb1⟩
  have HP1 := Lib.hid (hP1)
  have HW1 := Lib.hid (hb1)
  have hz1 := hb1.size
  clear hP1 hb1
  go_wp2
  go_loopg [6, 7] l.length (fun gg s6 s7 wr => ∃ i so2 cap2, i + gg = l.length ∧ s7 = .int .i64 (i : Int) ∧ s6 = .slice so2 i cap2 ∧ Hid (LwR w1 l i (.slice so2 i cap2) wr))
  case atStart => exact ⟨0, none, 0, by omega, rfl, rfl, World.ownsRow_nil _ _ _ _, Below.refl _ _, fun s hs => by simp at hs⟩
  case round =>
    obtain ⟨i, so2, cap2, hi, rfl, rfl, HR⟩ := hrel
    have HRo := Lib.hid (HR.out.1)
    have HB := Lib.hid (HR.out.2.1)
    have HSZ := Lib.hid (HR.out.2.2)
    have hzr := HB.out.size
    clear HR
    by_cases hlt : i < l.length
    · have d3 : decide ((i : Int) < (l.length : Int)) = true := decide_eq_true (by omega)
      obtain ⟨s, hs⟩ : ∃ s, l[i]? = some s := ⟨_, List.getElem?_eq_getElem hlt⟩
      obtain ⟨gs, og, rfl, hcells⟩ := HS.out.resolve_left (fun e => by rw [e] at hlt; simp at hlt)
      have hbr := below_next HW1.out HB.out
      have hc0 : wr.cell? ⟨gs, og + i, none⟩ = some (.string s) := keepCell hbr (hcells i s hs)
      have hgs : gs < wr.heap.size := World.block_lt_of_cell? _ _ hc0
      have Hs := Lib.hid (hs)
      have HBr := Lib.hid (hbr)
      clear hcells hbr hs
      by_cases hq : s.size ≤ 500
      · have d4 : decide ((s.size : Int) > 500) = false := decide_eq_false (by omega)
        go_wp2_with fail
        refine (HST.out _ s).mono ?_
        rintro e w2 ⟨rfl, hb⟩
        have HB2 := Lib.hid (below_next HB.out hb)
        have HRo2 := Lib.hid (ownsRow_ext (below_ext hb (Nat.le_refl _)) HRo.out)
        have hz2 := HB2.out.size
        clear hb hc0
        go_wp2_with (at_builtin; refine wpList_append_vals rfl (.tmp 43) (.tmp 49) rfl w1.heap.size (.slice so2 i cap2) i _ rfl (ownsRow_ext (below_ext (below1 _ _) (Nat.le_refl _)) HRo2.out) _ [strV s] rfl (vals_one _ (strV s)) (by simp; omega) (by simp; omega) ?_)
        intro so5 cap5 w5 hown hgrow
        have HO5 := Lib.hid (hown)
        have HB5 := Lib.hid (below_grown (HB2.out.alloc HB2.out.size _) hgrow (by simp; omega) (fun b hb => (ownBlock_lt HRo2.out hb).1))
        clear hown hgrow
        go_wp2
        go_roundg (l.length - (i + 1))
        case measure => omega
        case rel =>
          have e1 : l.take (i + 1) = l.take i ++ [s] := by rw [List.take_add_one, Hs.out]; rfl
          refine ⟨i + 1, so5, cap5, by omega, by push_cast; rfl, rfl, ?_, HB5.out, fun x hx => ?_⟩
          · rw [show (l.map strV).take (i + 1) = (l.map strV).take i ++ [strV s] by rw [List.take_add_one, List.getElem?_map, Hs.out]; rfl, rowV_append]
            exact HO5.out
          · rw [e1] at hx
            rcases List.mem_append.1 hx with hx | hx
            · exact HSZ.out x hx
            · rw [List.mem_singleton.1 hx]; exact hq
      · have d4 : decide ((s.size : Int) > 500) = true := decide_eq_true (by omega)
        go_wp2_with fail
        refine (HLV.out _ HBr.out).mono ?_
        rintro e w3 ⟨rfl, hb⟩
        have HB3 := Lib.hid (below_next HBr.out hb)
        clear hb
        go_wp2
        go_ret
        exact bool_done rfl HB3.out
    · have hii : i = l.length := by omega
      subst hii
      have d3 : decide ((l.length : Int) < (l.length : Int)) = false := decide_eq_false (by omega)
      have HSA := Lib.hid ((show ∀ s ∈ l, s.size ≤ 500 by have := HSZ.out; rwa [List.take_length] at this))
      have HBr := Lib.hid (below_next HW1.out HB.out)
      have hrow : wr.ownsRow w1.heap.size 30 5 (.slice so2 (l.map strV).length cap2) (l.map strV).length (rowV (l.map strV)) := by have := HRo.out; rw [List.take_of_length_le (by simp)] at this; rwa [List.length_map]
      obtain ⟨g5, cs5, hG5⟩ : ∃ g5 cs5, l.map strV = [] ∨ (∃ o, so2 = some ⟨g5, o, none⟩) ∧ Held wr (fun _ => False) g5 (.cells cs5 30) := by
        rcases hrow.2 with ⟨_, e⟩ | ⟨g, cap', cur, e, _, hg, _⟩
        · exact ⟨0, #[], .inl (List.eq_nil_of_length_eq_zero e)⟩
        · injection e with e _ _
          exact ⟨g, cur, .inr ⟨⟨0, e⟩, hg, fun h => h⟩⟩
      have hlist := list_c wr h (HP1.out.below HB.out) (by omega) so2 cap2 (l.map strV) (by rw [List.length_map]; omega) (by decide) rfl (Vals.of_row hrow) g5 cs5 hG5 (str_ok HSA.out)
      rw [List.length_map] at hlist
      have HLI := Lib.hid (hlist)
      have HJN := Lib.hid (fun W (hb : Below w.heap.size w W) => kJoin_c W so cap l (Strs.below HS.out hb) hcap hl HSA.out sep hsep)
      obtain ⟨X, hX⟩ : ∃ X, X = joinB l sep := ⟨_, rfl⟩
      have HXC := Lib.hid ((show X.data.toList = conP (l.map strV) sep (l.map strV).length by rw [hX]; exact joinB_con l sep))
      rw [← hX] at HJN
      clear hlist hrow hG5 hX
      go_wp2_with fail
      refine HLI.out.mono ?_
      rintro e w6 ⟨rfl, O6, hP6, hq6⟩
      have HP6 := Lib.hid (hP6)
      have HB6 := Lib.hid ((show Below w.heap.size w w6 from HBr.out.trans (hq6.below (by omega))))
      have hz6 := HB6.out.size
      clear hP6 hq6
      go_upto_region 12 with fail
      obtain ⟨W7, hW7⟩ : ∃ W7, W7 = w6.alloc (oV 4 0 0 ⟨#[]⟩ 1) := ⟨_, rfl⟩
      have HB7 := Lib.hid ((show Below w.heap.size w W7 by rw [hW7]; exact HB6.out.alloc HB6.out.size _))
      have HT7 := Lib.hid ((show W7.heap[w6.heap.size]? = some (oV 4 0 0 ⟨#[]⟩ 1) by rw [hW7]; exact heap1 _ _))
      have HP7 := Lib.hid ((show PHp w.heap.size (0 + l.length) W7 h ([] ++ [⟨4, V.nil, []⟩]) ([] ++ [l.map strV]) O6 by rw [hW7]; exact HP6.out.below (below1 _ _)))
      have hz7 : w6.heap.size < W7.heap.size := (Array.getElem?_eq_some_iff.1 HT7.out).1
      try rw [show w6.alloc (oV 4 0 0 ⟨#[]⟩ 1) = W7 from hW7.symm]
      clear hW7
      by_cases hx : X.size ≤ 4096
      · have d5 : decide ((X.size : Int) > 4096) = false := decide_eq_false (by omega)
        have hbg : ∀ (W : World) (m : Nat) (hb : Below W7.heap.size W7 W) (hX : W.heap[m]? = some (.cells #[.int .i64 4, .int .i64 0, .int .i64 0, .string ⟨#[]⟩, .int .i64 1, .int .i64 3, .int .i64 0, .int .i64 0, .string sep, .int .i64 0] 30)), Calls Tryz.prog 12 #[.pointer (some ⟨h, 0, none⟩), .string ⟨#[116, 97, 98, 108, 101, 46, 99, 111, 110, 99, 97, 116]⟩, .slice (some ⟨m, 0, none⟩) 2 2] W (fun e w' => ∃ so3 cap3 sk3 ck3, e = .returned (acV 1 0 V.nil (.slice so3 1 cap3) ⟨#[]⟩ 0 0 (.slice sk3 0 ck3)) ∧ w'.ownsRow W.heap.size 30 5 (.slice so3 1 cap3) 1 (rowV [strV X]) ∧ Below W.heap.size W w') := fun W m hb hX => by
          have := concat_begin W h (HP7.out.below hb) (by omega) (ti := 0) (by decide) (o := ⟨4, V.nil, []⟩) (A := l.map strV) rfl rfl rfl (by rw [List.length_map]; omega) sep (by omega) (some ⟨m, 0, none⟩) 2 (two_vals hX) (str_txts HSA.out) (HTB.out _ (below_next HB7.out hb)) X.data.toList HXC.out
          have hxs : X.data.toList.length ≤ 4096 := by rw [size_data]; exact hx
          unfold conK conA conL at this
          rw [if_pos hxs, if_pos hxs, if_pos hxs, ofData] at this
          exact this
        have HBG := Lib.hid (hbg)
        clear hbg
        go_cut [10] (fun s10 wx => ∃ nb so3 cap3 sk3 ck3, s10 = .pointer (some ⟨nb, 0, none⟩) ∧ Hid (wx.heap[nb]? = some (.cells #[.int .i64 1, .int .i64 0, .int .i64 0, .int .i64 0, .int .i64 0, .string ⟨#[]⟩, .int .i64 0, .slice so3 1 cap3, .string ⟨#[]⟩, .int .i64 0, .int .i64 0, .slice sk3 0 ck3] 35) ∧ wx.ownsRow W7.heap.size 30 5 (.slice so3 1 cap3) 1 (rowV [strV X]) ∧ Below W7.heap.size W7 wx))
        case first =>
          have SO := Lib.hid (fun (W : World) (hb : Below W7.heap.size W7 W) => (show W.cell? ⟨w6.heap.size, 0, none⟩ = some (.int .i64 4) ∧ W.cell? ⟨w6.heap.size, 1, none⟩ = some (.int .i64 0) ∧ W.cell? ⟨w6.heap.size, 2, none⟩ = some (.int .i64 0) ∧ W.cell? ⟨w6.heap.size, 3, none⟩ = some (.string ⟨#[]⟩) ∧ W.cell? ⟨w6.heap.size, 4, none⟩ = some (.int .i64 1) ∧ Hid (Below W7.heap.size W7 W) from ⟨(cells5 (hkeep hb HT7.out)).1, (cells5 (hkeep hb HT7.out)).2.1, (cells5 (hkeep hb HT7.out)).2.2.1, (cells5 (hkeep hb HT7.out)).2.2.2.1, (cells5 (hkeep hb HT7.out)).2.2.2.2, Lib.hid hb⟩))
          have BA := Lib.hid (fun (W : World) (o : Obj) (hb : Below W7.heap.size W7 W) => (show Below W7.heap.size W7 (W.alloc o) from hb.alloc hb.size o))
          have BD := Lib.hid (fun (W : World) (hb : Below W7.heap.size W7 W) => (show Below W7.heap.size W7 W.drew from hb.drew))
          have B12 := Lib.hid (fun (W : World) (b : Nat) (x0 x1 x2 x3 x4 x5 x6 x7 x8 x9 x10 x11 : Value) (hb : Below W7.heap.size W7 W) (hbb : W7.heap.size ≤ b) => below_twelve hb hbb x0 x1 x2 x3 x4 x5 x6 x7 x8 x9 x10 x11)
          have hbR : Below W7.heap.size W7 W7 := Below.refl _ _
          have hbD : Below W7.heap.size W7 W7.drew := (Below.refl _ _).drew
          go_region_held3 (fun w' => w'.cell? ⟨w6.heap.size, 0, none⟩ = some (.int .i64 4) ∧ w'.cell? ⟨w6.heap.size, 1, none⟩ = some (.int .i64 0) ∧ w'.cell? ⟨w6.heap.size, 2, none⟩ = some (.int .i64 0) ∧ w'.cell? ⟨w6.heap.size, 3, none⟩ = some (.string ⟨#[]⟩) ∧ w'.cell? ⟨w6.heap.size, 4, none⟩ = some (.int .i64 1) ∧ Hid (Below W7.heap.size W7 w'))
            (with_reducible refine SO.out _ ?_; repeat (first | with_reducible assumption | (with_reducible refine BA.out _ _ ?_) | (with_reducible refine BD.out _ ?_) | (with_reducible refine B12.out _ _ _ _ _ _ _ _ _ _ _ _ _ _ ?_ ?_) | omega | (simp <;> omega)))
            (first | (go_at_call 10; (with_reducible refine (HST.out _ _).mono ?_); rintro e nw1 ⟨rfl, hb⟩; have hb1 := below_next (prjK5 (by assumption)) hb; have hzb1 := hb1.size; (first | ((with_reducible have Hz1 := Lib.hid (hkeep hb (heap_newD W7 oAc))); have hza1 := (Array.getElem?_eq_some_iff.1 Hz1.out).1) | ((with_reducible have Hz1 := Lib.hid (hkeep hb (heap_new W7 oAc))); have hza1 := (Array.getElem?_eq_some_iff.1 Hz1.out).1) | skip); clear hb) | (go_at_call 12; (with_reducible refine (HBG.out _ _ (prjK5 (by assumption)) (by first | exact heap_new _ _ | exact heap2_a _ _ _ | exact heap2_b _ _ _)).mono ?_); rintro e nw2 ⟨so3, cap3, sk3, ck3, rfl, hr, hb⟩; have hb2 := below_next (prjK5 (by assumption)) hb; have hzb2 := hb2.size; (first | ((with_reducible have Hz2 := Lib.hid (hkeep hb (heap2_b nw1 _ oAc))); have hza2 := (Array.getElem?_eq_some_iff.1 Hz2.out).1; obtain ⟨z0, z1, z2, z3, z4, z5, z6, z7, z8, z9, z10, z11⟩ := cells12 Hz2.out; obtain ⟨fz0, fz1, fz2, fz3, fz4, fz5, fz6, fz7, fz8, fz9, fz10, fz11⟩ := froz12 Hz2.out) | ((with_reducible have Hz2 := Lib.hid (hkeep hb (heap2_a nw1 oAc _))); have hza2 := (Array.getElem?_eq_some_iff.1 Hz2.out).1; obtain ⟨z0, z1, z2, z3, z4, z5, z6, z7, z8, z9, z10, z11⟩ := cells12 Hz2.out; obtain ⟨fz0, fz1, fz2, fz3, fz4, fz5, fz6, fz7, fz8, fz9, fz10, fz11⟩ := froz12 Hz2.out) | ((with_reducible have Hz2 := Lib.hid (hkeep hb (heap1_old Hz1.out _))); have hza2 := (Array.getElem?_eq_some_iff.1 Hz2.out).1; obtain ⟨z0, z1, z2, z3, z4, z5, z6, z7, z8, z9, z10, z11⟩ := cells12 Hz2.out; obtain ⟨fz0, fz1, fz2, fz3, fz4, fz5, fz6, fz7, fz8, fz9, fz10, fz11⟩ := froz12 Hz2.out) | skip); have HR3 := Lib.hid hr; clear hr; clear hb))
          all_goals
            go_wp2_with fail
            go_meet
            first
            | (with_reducible refine ⟨_, so3, cap3, sk3, ck3, rfl, Lib.hid ⟨heap_new _ _, ownsRow_base (ownsRow_ext (below_ext (below1 _ _) (Nat.le_refl _)) HR3.out) ?_, hb2.alloc hb2.size _⟩⟩; (first | omega | (simp <;> omega)))
            | (refine ⟨_, so3, cap3, sk3, ck3, rfl, Lib.hid ⟨heap12_at Hz2.out _ _ _ _ _ _ _ _ _ _ _ _, ownsRow_base (row_twelve HR3.out (row_away HR3.out ?_) _ _ _ _ _ _ _ _ _ _ _ _) ?_, below_twelve hb2 (by first | omega | (simp <;> omega)) _ _ _ _ _ _ _ _ _ _ _ _⟩⟩ <;> first | omega | (simp <;> omega))
        case rest =>
          obtain ⟨nb, so3, cap3, sk3, ck3, rfl, hx2⟩ := hcut
          have HN := Lib.hid (hx2.out.1)
          have HBx := Lib.hid (below_next HB7.out hx2.out.2.2)
          obtain ⟨g3, rfl, hg3, hc3, hrw⟩ := row_one hx2.out.2.1
          have HRW := Lib.hid (hrw)
          clear hx2 hrw
          go_wp2_with fail
          refine (HJN.out _ HBx.out).mono ?_
          rintro e w13 ⟨rfl, hb⟩
          have HN9 := Lib.hid (hkeep hb HN.out)
          have HB9 := Lib.hid (below_next HBx.out hb)
          have HRW9 := Lib.hid ((fun W (hb2 : Below w13.heap.size w13 W) => HRW.out W (below_next hb hb2)))
          have hnl := (Array.getElem?_eq_some_iff.1 HN9.out).1
          have hg39 : g3 < w13.heap.size := by have := hb.size; omega
          clear hb
          have hEQ := fun W => eqs_run W X
          go_upto_region 16 with fail
          have SO := Lib.hid (fun (W : World) (hb : Below w13.heap.size w13 W) => (show W.cell? ⟨nb, 0, none⟩ = some (.int .i64 1) ∧ W.cell? ⟨nb, 7, none⟩ = some (.slice (some ⟨g3, 0, none⟩) 1 cap3) ∧ W.cell? ⟨g3, 0, none⟩ = some (.int .i64 3) ∧ W.cell? ⟨g3, 1, none⟩ = some (.int .i64 0) ∧ W.cell? ⟨g3, 2, none⟩ = some (.int .i64 0) ∧ W.cell? ⟨g3, 3, none⟩ = some (.string X) ∧ W.cell? ⟨g3, 4, none⟩ = some (.int .i64 0) ∧ Hid (Below w13.heap.size w13 W) from ⟨(cells12 (hkeep hb HN9.out)).1, (cells12 (hkeep hb HN9.out)).2.2.2.2.2.2.2.1, (HRW9.out W hb).1, (HRW9.out W hb).2.1, (HRW9.out W hb).2.2.1, (HRW9.out W hb).2.2.2.1, (HRW9.out W hb).2.2.2.2, Lib.hid hb⟩))
          have BA := Lib.hid (fun (W : World) (o : Obj) (hb : Below w13.heap.size w13 W) => (show Below w13.heap.size w13 (W.alloc o) from hb.alloc hb.size o))
          have BD := Lib.hid (fun (W : World) (hb : Below w13.heap.size w13 W) => (show Below w13.heap.size w13 W.drew from hb.drew))
          have hbR : Below w13.heap.size w13 w13 := Below.refl _ _
          have hbD : Below w13.heap.size w13 w13.drew := (Below.refl _ _).drew
          go_region_held3 (fun w' => w'.cell? ⟨nb, 0, none⟩ = some (.int .i64 1) ∧ w'.cell? ⟨nb, 7, none⟩ = some (.slice (some ⟨g3, 0, none⟩) 1 cap3) ∧ w'.cell? ⟨g3, 0, none⟩ = some (.int .i64 3) ∧ w'.cell? ⟨g3, 1, none⟩ = some (.int .i64 0) ∧ w'.cell? ⟨g3, 2, none⟩ = some (.int .i64 0) ∧ w'.cell? ⟨g3, 3, none⟩ = some (.string X) ∧ w'.cell? ⟨g3, 4, none⟩ = some (.int .i64 0) ∧ Hid (Below w13.heap.size w13 w'))
            (with_reducible refine SO.out _ ?_; repeat (first | with_reducible assumption | (with_reducible refine BA.out _ _ ?_) | (with_reducible refine BD.out _ ?_) | omega))
            (first | (go_at_call 10; (with_reducible refine (HST.out _ _).mono ?_); rintro e nw1 ⟨rfl, hb⟩; have hb1 := below_next (prjK7 (by assumption)) hb; have hzb1 := hb1.size; clear hb) | (go_at_call 9; (with_reducible refine (HLV.out _ (below_next HB9.out (prjK7 (by assumption)))).mono ?_); rintro e nw2 ⟨rfl, hb⟩; have hb2 := below_next (prjK7 (by assumption)) hb; have hzb2 := hb2.size; clear hb))
          go_wp2
          go_ret
          exact bool_done rfl (below_next HB9.out hb2)
      · have d5 : decide ((X.size : Int) > 4096) = true := decide_eq_true (by omega)
        have hbg : ∀ (W : World) (m : Nat) (hb : Below W7.heap.size W7 W) (hX : W.heap[m]? = some (.cells #[.int .i64 4, .int .i64 0, .int .i64 0, .string ⟨#[]⟩, .int .i64 1, .int .i64 3, .int .i64 0, .int .i64 0, .string sep, .int .i64 0] 30)), Calls Tryz.prog 12 #[.pointer (some ⟨h, 0, none⟩), .string ⟨#[116, 97, 98, 108, 101, 46, 99, 111, 110, 99, 97, 116]⟩, .slice (some ⟨m, 0, none⟩) 2 2] W (fun e w' => ∃ so3 cap3 sk3 ck3, e = .returned (acV 2 0 V.nil (.slice so3 1 cap3) ⟨#[]⟩ 1 0 (.slice sk3 0 ck3)) ∧ w'.ownsRow W.heap.size 30 5 (.slice so3 1 cap3) 1 (rowV [strV tooLong]) ∧ Below W.heap.size W w') := fun W m hb hX => by
          have := concat_begin W h (HP7.out.below hb) (by omega) (ti := 0) (by decide) (o := ⟨4, V.nil, []⟩) (A := l.map strV) rfl rfl rfl (by rw [List.length_map]; omega) sep (by omega) (some ⟨m, 0, none⟩) 2 (two_vals hX) (str_txts HSA.out) (HTB.out _ (below_next HB7.out hb)) X.data.toList HXC.out
          have hxs : ¬ X.data.toList.length ≤ 4096 := by rw [size_data]; exact hx
          unfold conK conA conL at this
          rw [if_neg hxs, if_neg hxs, if_neg hxs] at this
          exact this
        have HBG := Lib.hid (hbg)
        clear hbg
        go_cut [10] (fun s10 wx => ∃ nb so3 cap3 sk3 ck3, s10 = .pointer (some ⟨nb, 0, none⟩) ∧ Hid (wx.heap[nb]? = some (.cells #[.int .i64 2, .int .i64 0, .int .i64 0, .int .i64 0, .int .i64 0, .string ⟨#[]⟩, .int .i64 0, .slice so3 1 cap3, .string ⟨#[]⟩, .int .i64 1, .int .i64 0, .slice sk3 0 ck3] 35) ∧ wx.ownsRow W7.heap.size 30 5 (.slice so3 1 cap3) 1 (rowV [strV tooLong]) ∧ Below W7.heap.size W7 wx))
        case first =>
          have SO := Lib.hid (fun (W : World) (hb : Below W7.heap.size W7 W) => (show W.cell? ⟨w6.heap.size, 0, none⟩ = some (.int .i64 4) ∧ W.cell? ⟨w6.heap.size, 1, none⟩ = some (.int .i64 0) ∧ W.cell? ⟨w6.heap.size, 2, none⟩ = some (.int .i64 0) ∧ W.cell? ⟨w6.heap.size, 3, none⟩ = some (.string ⟨#[]⟩) ∧ W.cell? ⟨w6.heap.size, 4, none⟩ = some (.int .i64 1) ∧ Hid (Below W7.heap.size W7 W) from ⟨(cells5 (hkeep hb HT7.out)).1, (cells5 (hkeep hb HT7.out)).2.1, (cells5 (hkeep hb HT7.out)).2.2.1, (cells5 (hkeep hb HT7.out)).2.2.2.1, (cells5 (hkeep hb HT7.out)).2.2.2.2, Lib.hid hb⟩))
          have BA := Lib.hid (fun (W : World) (o : Obj) (hb : Below W7.heap.size W7 W) => (show Below W7.heap.size W7 (W.alloc o) from hb.alloc hb.size o))
          have BD := Lib.hid (fun (W : World) (hb : Below W7.heap.size W7 W) => (show Below W7.heap.size W7 W.drew from hb.drew))
          have B12 := Lib.hid (fun (W : World) (b : Nat) (x0 x1 x2 x3 x4 x5 x6 x7 x8 x9 x10 x11 : Value) (hb : Below W7.heap.size W7 W) (hbb : W7.heap.size ≤ b) => below_twelve hb hbb x0 x1 x2 x3 x4 x5 x6 x7 x8 x9 x10 x11)
          have hbR : Below W7.heap.size W7 W7 := Below.refl _ _
          have hbD : Below W7.heap.size W7 W7.drew := (Below.refl _ _).drew
          go_region_held3 (fun w' => w'.cell? ⟨w6.heap.size, 0, none⟩ = some (.int .i64 4) ∧ w'.cell? ⟨w6.heap.size, 1, none⟩ = some (.int .i64 0) ∧ w'.cell? ⟨w6.heap.size, 2, none⟩ = some (.int .i64 0) ∧ w'.cell? ⟨w6.heap.size, 3, none⟩ = some (.string ⟨#[]⟩) ∧ w'.cell? ⟨w6.heap.size, 4, none⟩ = some (.int .i64 1) ∧ Hid (Below W7.heap.size W7 w'))
            (with_reducible refine SO.out _ ?_; repeat (first | with_reducible assumption | (with_reducible refine BA.out _ _ ?_) | (with_reducible refine BD.out _ ?_) | (with_reducible refine B12.out _ _ _ _ _ _ _ _ _ _ _ _ _ _ ?_ ?_) | omega | (simp <;> omega)))
            (first | (go_at_call 10; (with_reducible refine (HST.out _ _).mono ?_); rintro e nw1 ⟨rfl, hb⟩; have hb1 := below_next (prjK5 (by assumption)) hb; have hzb1 := hb1.size; (first | ((with_reducible have Hz1 := Lib.hid (hkeep hb (heap_newD W7 oAc))); have hza1 := (Array.getElem?_eq_some_iff.1 Hz1.out).1) | ((with_reducible have Hz1 := Lib.hid (hkeep hb (heap_new W7 oAc))); have hza1 := (Array.getElem?_eq_some_iff.1 Hz1.out).1) | skip); clear hb) | (go_at_call 12; (with_reducible refine (HBG.out _ _ (prjK5 (by assumption)) (by first | exact heap_new _ _ | exact heap2_a _ _ _ | exact heap2_b _ _ _)).mono ?_); rintro e nw2 ⟨so3, cap3, sk3, ck3, rfl, hr, hb⟩; have hb2 := below_next (prjK5 (by assumption)) hb; have hzb2 := hb2.size; (first | ((with_reducible have Hz2 := Lib.hid (hkeep hb (heap2_b nw1 _ oAc))); have hza2 := (Array.getElem?_eq_some_iff.1 Hz2.out).1; obtain ⟨z0, z1, z2, z3, z4, z5, z6, z7, z8, z9, z10, z11⟩ := cells12 Hz2.out; obtain ⟨fz0, fz1, fz2, fz3, fz4, fz5, fz6, fz7, fz8, fz9, fz10, fz11⟩ := froz12 Hz2.out) | ((with_reducible have Hz2 := Lib.hid (hkeep hb (heap2_a nw1 oAc _))); have hza2 := (Array.getElem?_eq_some_iff.1 Hz2.out).1; obtain ⟨z0, z1, z2, z3, z4, z5, z6, z7, z8, z9, z10, z11⟩ := cells12 Hz2.out; obtain ⟨fz0, fz1, fz2, fz3, fz4, fz5, fz6, fz7, fz8, fz9, fz10, fz11⟩ := froz12 Hz2.out) | ((with_reducible have Hz2 := Lib.hid (hkeep hb (heap1_old Hz1.out _))); have hza2 := (Array.getElem?_eq_some_iff.1 Hz2.out).1; obtain ⟨z0, z1, z2, z3, z4, z5, z6, z7, z8, z9, z10, z11⟩ := cells12 Hz2.out; obtain ⟨fz0, fz1, fz2, fz3, fz4, fz5, fz6, fz7, fz8, fz9, fz10, fz11⟩ := froz12 Hz2.out) | skip); have HR3 := Lib.hid hr; clear hr; clear hb))
          all_goals
            go_wp2_with fail
            go_meet
            first
            | (with_reducible refine ⟨_, so3, cap3, sk3, ck3, rfl, Lib.hid ⟨heap_new _ _, ownsRow_base (ownsRow_ext (below_ext (below1 _ _) (Nat.le_refl _)) HR3.out) ?_, hb2.alloc hb2.size _⟩⟩; (first | omega | (simp <;> omega)))
            | (refine ⟨_, so3, cap3, sk3, ck3, rfl, Lib.hid ⟨heap12_at Hz2.out _ _ _ _ _ _ _ _ _ _ _ _, ownsRow_base (row_twelve HR3.out (row_away HR3.out ?_) _ _ _ _ _ _ _ _ _ _ _ _) ?_, below_twelve hb2 (by first | omega | (simp <;> omega)) _ _ _ _ _ _ _ _ _ _ _ _⟩⟩ <;> first | omega | (simp <;> omega))
        case rest =>
          obtain ⟨nb, so3, cap3, sk3, ck3, rfl, hx2⟩ := hcut
          have HN := Lib.hid (hx2.out.1)
          have HBx := Lib.hid (below_next HB7.out hx2.out.2.2)
          obtain ⟨g3, rfl, hg3, hc3, hrw⟩ := row_one hx2.out.2.1
          have HRW := Lib.hid (hrw)
          clear hx2 hrw
          go_wp2_with fail
          refine (HJN.out _ HBx.out).mono ?_
          rintro e w13 ⟨rfl, hb⟩
          have HN9 := Lib.hid (hkeep hb HN.out)
          have HB9 := Lib.hid (below_next HBx.out hb)
          have HRW9 := Lib.hid ((fun W (hb2 : Below w13.heap.size w13 W) => HRW.out W (below_next hb hb2)))
          have hnl := (Array.getElem?_eq_some_iff.1 HN9.out).1
          have hg39 : g3 < w13.heap.size := by have := hb.size; omega
          clear hb
          obtain ⟨a0, a1, a2, a3, a4, a5, a6, a7, a8, a9, a10, a11⟩ := cells12 HN9.out
          obtain ⟨fa0, fa1, fa2, fa3, fa4, fa5, fa6, fa7, fa8, fa9, fa10, fa11⟩ := froz12 HN9.out
          go_wp2_with fail
          refine (HLV.out _ HB9.out).mono ?_
          rintro e w15 ⟨rfl, hb⟩
          have HBl := Lib.hid (below_next HB9.out hb)
          clear hb
          go_wp2
          go_ret
          exact bool_done rfl HBl.out
set_option maxRecDepth 100000 in
set_option maxHeartbeats 2000000 in
theorem concat_long (w : World) (htab : Pow10 w) (so : Option Addr) (n cap : Nat) (sep : ByteArray) (hl : 60 < n ∨ (n ≤ 60 ∧ 100 < sep.size)) :
    Calls Tryz.prog 3 #[.slice so n cap, .string sep] w (BoolPost w true) := by
  have HLV := Lib.hid (fun W (hb : Below w.heap.size w W) => lives_c W (htab.stays hb))
  clear htab
  rcases hl with hl | ⟨hl, hs⟩
  · have d1 : decide ((n : Int) > 60) = true := decide_eq_true (by omega)
    go_enter Tryz.func3, Tryz.ntmps3
    go_wp2_with fail
    refine (pNew_c _).mono ?_
    rintro e w1 ⟨h, rfl, hP1, hb1⟩
    have HW1 := Lib.hid (hb1)
    clear hP1 hb1
    go_wp2_with fail
    refine (HLV.out _ HW1.out).mono ?_
    rintro e w3 ⟨rfl, hb⟩
    have HB3 := Lib.hid (below_next HW1.out hb)
    clear hb
    go_wp2
    go_ret
    exact bool_done rfl HB3.out
  · have d1 : decide ((n : Int) > 60) = false := decide_eq_false (by omega)
    have d2 : decide ((sep.size : Int) > 100) = true := decide_eq_true (by omega)
    go_enter Tryz.func3, Tryz.ntmps3
    go_wp2_with fail
    refine (pNew_c _).mono ?_
    rintro e w1 ⟨h, rfl, hP1, hb1⟩
    have HW1 := Lib.hid (hb1)
    clear hP1 hb1
    go_wp2_with fail
    refine (HLV.out _ HW1.out).mono ?_
    rintro e w3 ⟨rfl, hb⟩
    have HB3 := Lib.hid (below_next HW1.out hb)
    clear hb
    go_wp2
    go_ret
    exact bool_done rfl HB3.out
theorem concat_all (w : World) (htab : Pow10 w) (so : Option Addr) (cap : Nat) (l : List ByteArray) (hS : l = [] ∨ ∃ g o, so = some ⟨g, o, none⟩ ∧ ∀ (i : Nat) s, l[i]? = some s → w.cell? ⟨g, o + i, none⟩ = some (.string s)) (hcap : l.length ≤ cap) (sep : ByteArray) :
    Calls Tryz.prog 3 #[.slice so l.length cap, .string sep] w (BoolPost w true) := by
  by_cases h1 : 60 < l.length
  · exact concat_long w htab so l.length cap sep (.inl h1)
  · by_cases h2 : 100 < sep.size
    · exact concat_long w htab so l.length cap sep (.inr ⟨by omega, h2⟩)
    · exact concat_law w htab so cap l sep hS (by omega) (by omega) hcap
end Go.Proofs.YtpbcmlnjiocmoaaGreatDoorR
