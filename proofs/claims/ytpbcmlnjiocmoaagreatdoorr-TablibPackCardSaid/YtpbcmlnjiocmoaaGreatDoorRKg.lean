import Derived.Test.YtpbcmlnjiocmoaaGreatDoorRTq
set_option linter.unusedVariables false
set_option linter.unusedSimpArgs false
set_option maxRecDepth 100000
set_option maxHeartbeats 40000000
namespace Go.Proofs.YtpbcmlnjiocmoaaGreatDoorR
open Go.RowKit Go.Proofs.Lexi
set_option maxRecDepth 100000 in
set_option maxHeartbeats 40000000 in
theorem tGet_c (w : World) (c h : Nat) (nm : ByteArray) (so : Option Addr) (na ca : Nat) (HC : w.heap[c]? = some (oCt h nm (.slice so na ca))) {base n : Nat} {M : LH} {AA : List (List V)} {O : Nat → Prop} (hP : PHp base n w h M AA O) (hn : n ≤ 1000) {ti : Nat} (hti : ti ≤ 100000) {o : LO} {A : List V} (hM : M[ti]? = some o) (hA : AA[ti]? = some A) (h4 : o.kind = 4) {x : Nat} (hx : x < A.length) (hl : A.length ≤ 100000) (k : Int) (hk : k = (x : Int) + 1) {vk vp vq : Int} {vs : ByteArray} {vr : Int} (hv : A[x]? = some ⟨vk, vp, vq, vs, vr⟩) :
    Calls Tryz.prog 56 #[.pointer (some ⟨c, 0, none⟩), .agg #[.int .i64 4, .int .i64 0, .int .i64 0, .string ⟨#[]⟩, .int .i64 ((ti : Int) + 1)], .int .i64 k] w (ValPost w ⟨vk, vp, vq, vs, vr⟩) := by
  subst hk
  have HO := Lib.hid (fun W => pOfInt_top W ((x : Int) + 1) (by omega) (by omega))
  have HG := Lib.hid (fun W (hb : Below w.heap.size w W) => get_in (hP.below hb) hn hti hM hA h4 hx hl hv)
  have HCC := Lib.hid (HC)
  have hc : c < w.heap.size := (Array.getElem?_eq_some_iff.1 HC).1
  clear HC hP hM hA hv
  go_enter Tryz.func56, Tryz.ntmps56
  go_upto_region 1 with fail
  obtain ⟨W1, hW1⟩ : ∃ W1, W1 = (w.alloc (oV 4 0 0 ⟨#[]⟩ ((ti : Int) + 1))).alloc (oV 0 0 0 ⟨#[]⟩ 0) := ⟨_, rfl⟩
  have HB1 := Lib.hid ((show Below w.heap.size w W1 by rw [hW1]; exact below2w _ _ _))
  have HT1 := Lib.hid ((show W1.heap[w.heap.size]? = some (oV 4 0 0 ⟨#[]⟩ ((ti : Int) + 1)) by rw [hW1]; exact heap2_a _ _ _))
  have HR1 := Lib.hid ((show W1.heap[w.heap.size + 1]? = some (oV 0 0 0 ⟨#[]⟩ 0) by rw [hW1]; exact heap2_b _ _ _))
  have HC1 := Lib.hid ((show W1.heap[c]? = some (oCt h nm (.slice so na ca)) by exact hkeep HB1.out HCC.out))
  have hz1 : w.heap.size + 1 < W1.heap.size := (Array.getElem?_eq_some_iff.1 HR1.out).1
  try rw [show (w.alloc (oV 4 0 0 ⟨#[]⟩ ((ti : Int) + 1))).alloc (oV 0 0 0 ⟨#[]⟩ 0) = W1 from hW1.symm]
  clear hW1
  go_cut [7, 8] (fun s7 s8 wx => ∃ nb, s7 = .pointer (some ⟨nb, 0, none⟩) ∧ s8 = .int .i64 0 ∧ Hid (wx.heap[nb]? = some (oV vk vp vq vs vr) ∧ Below W1.heap.size W1 wx))
  case first =>
    have SO := Lib.hid (fun (W : World) (hb : Below W1.heap.size W1 W) => (show W.cell? ⟨c, 0, none⟩ = some (.pointer (some ⟨h, 0, none⟩)) ∧ W.cell? ⟨w.heap.size, 0, none⟩ = some (.int .i64 4) ∧ W.cell? ⟨w.heap.size, 1, none⟩ = some (.int .i64 0) ∧ W.cell? ⟨w.heap.size, 2, none⟩ = some (.int .i64 0) ∧ W.cell? ⟨w.heap.size, 3, none⟩ = some (.string ⟨#[]⟩) ∧ W.cell? ⟨w.heap.size, 4, none⟩ = some (.int .i64 ((ti : Int) + 1)) ∧ Hid (Below W1.heap.size W1 W) from ⟨(cells16 (hkeep hb HC1.out)).1, (cells5 (hkeep hb HT1.out)).1, (cells5 (hkeep hb HT1.out)).2.1, (cells5 (hkeep hb HT1.out)).2.2.1, (cells5 (hkeep hb HT1.out)).2.2.2.1, (cells5 (hkeep hb HT1.out)).2.2.2.2, Lib.hid hb⟩))
    have BA := Lib.hid (fun (W : World) (o : Obj) (hb : Below W1.heap.size W1 W) => (show Below W1.heap.size W1 (W.alloc o) from hb.alloc hb.size o))
    have BD := Lib.hid (fun (W : World) (hb : Below W1.heap.size W1 W) => (show Below W1.heap.size W1 W.drew from hb.drew))
    have B5 := Lib.hid (fun (W : World) (b : Nat) (x0 x1 x2 x3 x4 : Value) (hb : Below W1.heap.size W1 W) (hbb : W1.heap.size ≤ b) => below_five hb hbb x0 x1 x2 x3 x4)
    have hbR : Below W1.heap.size W1 W1 := Below.refl _ _
    have hbD : Below W1.heap.size W1 W1.drew := (Below.refl _ _).drew
    go_region_held3 (fun w' => w'.cell? ⟨c, 0, none⟩ = some (.pointer (some ⟨h, 0, none⟩)) ∧ w'.cell? ⟨w.heap.size, 0, none⟩ = some (.int .i64 4) ∧ w'.cell? ⟨w.heap.size, 1, none⟩ = some (.int .i64 0) ∧ w'.cell? ⟨w.heap.size, 2, none⟩ = some (.int .i64 0) ∧ w'.cell? ⟨w.heap.size, 3, none⟩ = some (.string ⟨#[]⟩) ∧ w'.cell? ⟨w.heap.size, 4, none⟩ = some (.int .i64 ((ti : Int) + 1)) ∧ Hid (Below W1.heap.size W1 w'))
      (with_reducible refine SO.out _ ?_; repeat (first | with_reducible assumption | (with_reducible refine BA.out _ _ ?_) | (with_reducible refine BD.out _ ?_) | (with_reducible refine B5.out _ _ _ _ _ _ _ ?_ ?_) | omega))
      (first | (go_at_call 54; (with_reducible refine (HO.out _).mono ?_); rintro e nw1 ⟨rfl, hb⟩; have hb1 := below_next (prjK6 (by assumption)) hb; have hzb1 := hb1.size; (first | ((with_reducible have Hz1 := Lib.hid (hkeep hb (heap_newD W1 (oV 0 0 0 ⟨#[]⟩ 0)))); have hza1 := (Array.getElem?_eq_some_iff.1 Hz1.out).1) | ((with_reducible have Hz1 := Lib.hid (hkeep hb (heap_new W1 (oV 0 0 0 ⟨#[]⟩ 0)))); have hza1 := (Array.getElem?_eq_some_iff.1 Hz1.out).1) | skip); clear hb) | (go_at_call 21; (with_reducible refine (HG.out _ (below_next HB1.out (prjK6 (by assumption)))).mono ?_); rintro e nw2 ⟨rfl, hb⟩; have hb2 := below_next (prjK6 (by assumption)) hb; have hzb2 := hb2.size; (first | ((with_reducible have Hz2 := Lib.hid (hkeep hb (heap_newD W1 (oV 0 0 0 ⟨#[]⟩ 0)))); have hza2 := (Array.getElem?_eq_some_iff.1 Hz2.out).1; obtain ⟨z0, z1, z2, z3, z4⟩ := cells5 Hz2.out; obtain ⟨fz0, fz1, fz2, fz3, fz4⟩ := froz5 Hz2.out) | ((with_reducible have Hz2 := Lib.hid (hkeep hb (heap_new W1 (oV 0 0 0 ⟨#[]⟩ 0)))); have hza2 := (Array.getElem?_eq_some_iff.1 Hz2.out).1; obtain ⟨z0, z1, z2, z3, z4⟩ := cells5 Hz2.out; obtain ⟨fz0, fz1, fz2, fz3, fz4⟩ := froz5 Hz2.out) | ((with_reducible have Hz2 := Lib.hid (hkeep hb (heap_new nw1 (oV 0 0 0 ⟨#[]⟩ 0)))); have hza2 := (Array.getElem?_eq_some_iff.1 Hz2.out).1; obtain ⟨z0, z1, z2, z3, z4⟩ := cells5 Hz2.out; obtain ⟨fz0, fz1, fz2, fz3, fz4⟩ := froz5 Hz2.out) | ((with_reducible have Hz2 := Lib.hid (hkeep hb Hz1.out)); have hza2 := (Array.getElem?_eq_some_iff.1 Hz2.out).1; obtain ⟨z0, z1, z2, z3, z4⟩ := cells5 Hz2.out; obtain ⟨fz0, fz1, fz2, fz3, fz4⟩ := froz5 Hz2.out) | skip); clear hb))
    all_goals
      go_wp2_with fail
      go_meet
      first
      | (with_reducible refine ⟨_, rfl, rfl, Lib.hid ⟨heap_new _ _, hb2.alloc hb2.size _⟩⟩)
      | (refine ⟨_, rfl, rfl, Lib.hid ⟨heap_five_at Hz2.out _ _ _ _ _, below_five hb2 ?_ _ _ _ _ _⟩⟩ <;> omega)
  case rest =>
    obtain ⟨nb, rfl, rfl, hx⟩ := hcut
    have HN := Lib.hid (hx.out.1)
    have HR2 := Lib.hid (hkeep hx.out.2 HR1.out)
    have HB2 := Lib.hid (below_next HB1.out hx.out.2)
    clear hx
    have hyr : w.heap.size + 1 < wc.heap.size := (Array.getElem?_eq_some_iff.1 HR2.out).1
    have hyn : nb < wc.heap.size := (Array.getElem?_eq_some_iff.1 HN.out).1
    obtain ⟨r0, r1, r2, r3, r4⟩ := cells5 HR2.out
    obtain ⟨fr0, fr1, fr2, fr3, fr4⟩ := froz5 HR2.out
    obtain ⟨v0, v1, v2, v3, v4⟩ := cells5 HN.out
    obtain ⟨fv0, fv1, fv2, fv3, fv4⟩ := froz5 HN.out
    go_wp2
    refine bodyPost_ret (by simp [results, Tryz.results56, go_sem, hyr, r0, r1, r2, r3, r4]; first | done | rfl) rfl ?_
    exact val_done rfl (below_five HB2.out (by omega) _ _ _ _ _)
set_option maxRecDepth 100000 in
set_option maxHeartbeats 2000000 in
theorem tFail_c (w : World) (c h : Nat) (nm : ByteArray) (so : Option Addr) (n cap : Nat) (HC : w.heap[c]? = some (oCt h nm (.slice so n cap))) (t : ByteArray) (ht : t.size ≤ 4096) :
    Calls Tryz.prog 57 #[.pointer (some ⟨c, 0, none⟩), .string t] w (FailedC w c h nm (.slice so n cap) t) := by
  have HE := Lib.hid (fun W => pError_c W t ht)
  have HCC := Lib.hid (HC)
  have hcl := (Array.getElem?_eq_some_iff.1 HC).1
  clear HC
  obtain ⟨c0, c1, c2, c3, c4, c5, c6, c7, c8, c9, c10, c11, c12, c13, c14, c15⟩ := cells16 HCC.out
  obtain ⟨fc0, fc1, fc2, fc3, fc4, fc5, fc6, fc7, fc8, fc9, fc10, fc11, fc12, fc13, fc14, fc15⟩ := froz16 HCC.out
  go_enter Tryz.func57, Tryz.ntmps57
  go_wp2_with fail
  refine (HE.out _).mono ?_
  rintro e w1 ⟨so1, cap1, rfl, hr, hb⟩
  have HR1 := Lib.hid (hr)
  have HW1 := Lib.hid (hb)
  have HC1 := Lib.hid (hkeep hb HCC.out)
  clear hr hb c0 c1 c2 c3 c4 c5 c6 c7 c8 c9 c10 c11 c12 c13 c14 c15 fc0 fc1 fc2 fc3 fc4 fc5 fc6 fc7 fc8 fc9 fc10 fc11 fc12 fc13 fc14 fc15
  obtain ⟨c0, c1, c2, c3, c4, c5, c6, c7, c8, c9, c10, c11, c12, c13, c14, c15⟩ := cells16 HC1.out
  obtain ⟨fc0, fc1, fc2, fc3, fc4, fc5, fc6, fc7, fc8, fc9, fc10, fc11, fc12, fc13, fc14, fc15⟩ := froz16 HC1.out
  have hcl1 := (Array.getElem?_eq_some_iff.1 HC1.out).1
  go_wp2
  go_end0
  exact ⟨rfl, so1, cap1, heap16_bad HC1.out _ _ _ _ _ _ _ _ _ _ _ _ _, row_13 HR1.out (fun e => by have := (ownBlock_lt HR1.out e).1; omega) _ _ _ _ _ _ _ _ _ _ _ _ _, mods_13 (F := fun k => k = c) (b := c) (Mods.of_below HW1.out) (.inl rfl) _ _ _ _ _ _ _ _ _ _ _ _ _⟩
set_option maxRecDepth 100000 in
set_option maxHeartbeats 2000000 in
theorem tEnd_bad (w : World) (c h : Nat) (nm : ByteArray) (so : Option Addr) (n cap : Nat) (so1 : Option Addr) (cap1 : Nat) (HC : w.heap[c]? = some (oCtB h nm (.slice so n cap) so1 cap1)) (sl : Value) :
    Calls Tryz.prog 60 #[.pointer (some ⟨c, 0, none⟩), sl] w (fun e w' => e = .returned (acV 2 0 V.nil (.slice so1 1 cap1) ⟨#[]⟩ 1 0 (.slice none 0 0)) ∧ Below w.heap.size w w') := by
  have hcl := (Array.getElem?_eq_some_iff.1 HC).1
  obtain ⟨W, hW⟩ : ∃ W, W = w.alloc oAc := ⟨_, rfl⟩
  have HC1 := Lib.hid ((show W.heap[c]? = some (oCtB h nm (.slice so n cap) so1 cap1) by rw [hW]; exact heap1_old HC oAc))
  have Ha1 := Lib.hid ((show W.heap[w.heap.size]? = some oAc by rw [hW]; exact heap1 w oAc))
  have HW1 := Lib.hid ((show Below w.heap.size w W by rw [hW]; exact below1 w oAc))
  have hcl2 := (Array.getElem?_eq_some_iff.1 HC1.out).1
  clear HC
  obtain ⟨c0, c1, c2, c3, c4, c5, c6, c7, c8, c9, c10, c11, c12, c13, c14, c15⟩ := cells16 HC1.out
  obtain ⟨fc0, fc1, fc2, fc3, fc4, fc5, fc6, fc7, fc8, fc9, fc10, fc11, fc12, fc13, fc14, fc15⟩ := froz16 HC1.out
  go_enter Tryz.func60, Tryz.ntmps60
  go_upto_region 1 with fail
  rw [show w.alloc oAc = W from hW.symm]
  clear hW
  have hya : w.heap.size < W.heap.size := (Array.getElem?_eq_some_iff.1 Ha1.out).1
  obtain ⟨a0, a1, a2, a3, a4, a5, a6, a7, a8, a9, a10, a11⟩ := cells12 Ha1.out
  obtain ⟨fa0, fa1, fa2, fa3, fa4, fa5, fa6, fa7, fa8, fa9, fa10, fa11⟩ := froz12 Ha1.out
  go_wp2
  refine bodyPost_ret (by simp [results, Tryz.results60, go_sem, hya, a0, a1, a2, a3, a4, a5, a6, a7, a8, a9, a10, a11, c0, c1, c2, c3, c4, c5, c6, c7, c8, c9, c10, c11, c12, c13, c14, c15]; first | done | rfl) rfl ?_
  exact ⟨rfl, below_twelve HW1.out (Nat.le_refl _) _ _ _ _ _ _ _ _ _ _ _ _⟩
theorem bLen_c (B b : Nat) (l : List UInt8) (w : World) (h : Lib.IsBuilder 74 5 B b (Lib.byteCells l) w) : Calls Tryz.prog 59 #[.pointer (some ⟨b, 0, none⟩)] w (fun e w' => e = .returned (.int .i64 l.length) ∧ w' = w) := by
  have := Tryz.Builder_Len B b (Lib.byteCells l) w h
  rwa [Lib.byteCells_length] at this
theorem wrS_c (B b : Nat) (l : List UInt8) (s : ByteArray) (w : World) (h : Lib.IsBuilder 74 5 B b (Lib.byteCells l) w) (h1 : l.length ≤ 100000) (h2 : s.size ≤ 100000) (hBw : B ≤ w.heap.size) :
    Calls Tryz.prog 34 #[.pointer (some ⟨b, 0, none⟩), .string s] w (fun e w' => e = .returned (.tuple #[.int .i64 s.size, .nilIface]) ∧ Lib.IsBuilder 74 5 B b (Lib.byteCells (l ++ s.data.toList)) w' ∧ Below B w w') := by
  refine (writeString_c B b (Lib.byteCells l) s w h (by rw [Lib.byteCells_length]; omega) hBw).mono ?_
  rintro e w' ⟨h1, h2, h3⟩
  exact ⟨h1, by rw [Lib.byteCells_append, ← Lib.strCells_eq]; exact h2, h3⟩
set_option maxRecDepth 100000 in
set_option maxHeartbeats 2000000 in
theorem conText_c (w : World) (s : ByteArray) (htab : Pow10 w) : Calls Tryz.prog 49 #[.agg #[.int .i64 3, .int .i64 0, .int .i64 0, .string s, .int .i64 0]] w (BoolPost w true) := by
  have HS := Lib.hid (fun W (hb : Below w.heap.size w W) => (show Calls Tryz.prog 50 #[.agg #[.int .i64 3, .int .i64 0, .int .i64 0, .string s, .int .i64 0]] W (fun e w' => e = .returned (.tuple #[.string s, .int .i64 0]) ∧ Below W.heap.size W w') from pStr_c W 3 0 0 s 0 (htab.stays hb)))
  clear htab
  go_enter Tryz.func49, Tryz.ntmps49
  go_wp2_with fail
  refine (HS.out _ (below1 _ _)).mono ?_
  rintro e w1 ⟨rfl, hb⟩
  have HW1 := Lib.hid (below_next (below1 _ _) hb)
  clear hb
  go_wp2
  go_ret
  exact ⟨rfl, HW1.out⟩
theorem str_txt {w W : World} {v : V} (h : sE (strOf v) = 0) (htab : Pow10 W) : Calls Tryz.prog 50 #[.agg #[.int .i64 v.k, .int .i64 v.p, .int .i64 v.q, .string v.s, .int .i64 v.r]] W (fun e w' => e = .returned (.tuple #[.string (txt v), .int .i64 0]) ∧ Below W.heap.size W w') := by
  have := pStr_c W v.k v.p v.q v.s v.r htab
  unfold SrPost at this
  rw [show (⟨v.k, v.p, v.q, v.s, v.r⟩ : V) = v from rfl, h] at this
  exact this
set_option maxRecDepth 100000 in
set_option maxHeartbeats 2000000 in
theorem concat_c (w : World) (c h : Nat) (nm : ByteArray) (so : Option Addr) (cap : Nat) (HC : w.heap[c]? = some (oCt h nm (.slice so 2 cap))) {base n : Nat} {M : LH} {AA : List (List V)} {O : Nat → Prop} (hP : PHp base n w h M AA O) (hn : n ≤ 1000) {ti : Nat} (hti : ti ≤ 100000) {o : LO} {A : List V} (hM : M[ti]? = some o) (hA : AA[ti]? = some A) (h4 : o.kind = 4) (hl : A.length ≤ 1000) (sep : ByteArray) (hsep : sep.size ≤ 4096) (hX : Vals w (.slice so 2 cap) [⟨4, 0, 0, ⟨#[]⟩, (ti : Int) + 1⟩, strV sep]) (hT : ∀ v ∈ A, sE (strOf v) = 0 ∧ (txt v).size ≤ 4096) (htab : Pow10 w) (S : List UInt8) (hS : S = conP A sep A.length) :
    Calls Tryz.prog 25 #[.pointer (some ⟨c, 0, none⟩)] w (ActPost (fun k => k = c) w (conK S) 0 V.nil (conA S) ⟨#[]⟩ (conL S) 0 []) := by
  have hcl := (Array.getElem?_eq_some_iff.1 HC).1
  have HTab := Lib.hid (fun W (hb : Below w.heap.size w W) => tTable_c W c h nm so 2 cap _ (hkeep hb HC) (Vals.below hX hb) (by simp) 0 0 rfl 0 0 ⟨#[]⟩ ((ti : Int) + 1) rfl none 0 0)
  have HOS := Lib.hid (fun W => pOfString_c W ⟨#[]⟩)
  have HArg := Lib.hid (fun W (hb : Below w.heap.size w W) (oth : Value) => tArg_concat W c h nm so 2 cap _ (hkeep hb HC) (Vals.below hX hb) (by simp) 1 1 rfl ⟨#[115, 116, 114, 105, 110, 103]⟩ 3 0 0 sep 0 rfl (by decide) oth (fun W' hb' => conText_c W' sep (htab.stays (below_next hb hb'))))
  have HStr := Lib.hid (fun W (hb : Below w.heap.size w W) => (show Calls Tryz.prog 50 #[.agg #[.int .i64 3, .int .i64 0, .int .i64 0, .string sep, .int .i64 0]] W (fun e w' => e = .returned (.tuple #[.string sep, .int .i64 0]) ∧ Below W.heap.size W w') from pStr_c W 3 0 0 sep 0 (htab.stays hb)))
  have HInt := Lib.hid (fun W (hb : Below w.heap.size w W) (j : Int) (hj : (2 : Nat) ≤ j) (g : Nat) (p : Int) (hg : W.heap[g]? = some (oV 2 p 1 ⟨#[]⟩ 0)) => tInt_def W c h nm so 2 cap (hkeep hb HC) j hj g 1 1 2 p 1 ⟨#[]⟩ 0 hg (Nat.le_refl 1))
  have HOI := Lib.hid (fun W (x : Int) (h1 : -2147483647 ≤ x) (h2 : x ≤ 2147483647) => pOfInt_top W x h1 h2)
  have HLen := Lib.hid (fun W (hb : Below w.heap.size w W) => tLen_c W c h nm _ (hkeep hb HC) (hP.below hb) hti hM hA h4)
  have HGet := Lib.hid (fun W (hb : Below w.heap.size w W) (x : Nat) (hx : x < A.length) (v : V) (hv : A[x]? = some v) => tGet_c W c h nm so 2 cap (hkeep hb HC) (hP.below hb) hn hti hM hA h4 hx (by omega) ((x : Int) + 1) rfl (vk := v.k) (vp := v.p) (vq := v.q) (vs := v.s) (vr := v.r) hv)
  have HTX := Lib.hid (fun W (hb : Below w.heap.size w W) (v : V) (hv : v ∈ A) => str_txt (w := W) (v := v) (hT v hv).1 (htab.stays hb))
  have HTZ := Lib.hid (fun (v : V) (hv : v ∈ A) => (hT v hv).2)
  have HFail := Lib.hid (fun W (hb : Below w.heap.size w W) => tFail_c W c h nm so 2 cap (hkeep hb HC) tooLong (by decide))
  unfold tooLong at HFail
  have HEnd := Lib.hid (fun W (hb : Below w.heap.size w W) so2 n2 cap2 A2 (hA2 : Vals W (.slice so2 n2 cap2) A2) (hl2 : A2.length ≤ 1000) => tEnd_c W c h nm _ (hkeep hb HC) so2 n2 cap2 A2 hA2 hl2)
  have HCC := Lib.hid (HC)
  have HSS := Lib.hid (hS)
  obtain ⟨kk, hkk⟩ : ∃ kk, kk = conK S := ⟨_, rfl⟩
  obtain ⟨ka, hka⟩ : ∃ ka, ka = conA S := ⟨_, rfl⟩
  obtain ⟨kl, hkl⟩ : ∃ kl, kl = conL S := ⟨_, rfl⟩
  rw [← hkk, ← hka, ← hkl]
  have HKK := Lib.hid (hkk)
  have HKA := Lib.hid (hka)
  have HKL := Lib.hid (hkl)
  clear HC hX hP hM hA hT htab hS hkk hka hkl
  go_enter Tryz.func25, Tryz.ntmps25
  go_wp2_with fail
  refine (HTab.out _ (below1 _ _)).mono ?_
  rintro e w1 ⟨rfl, hb⟩
  have Ha1 := Lib.hid (hkeep hb (heap1 w oAc))
  have HW1 := Lib.hid (below_next (below1 _ _) hb)
  have hz1 := hb.size
  try simp at hz1
  clear hb
  go_wp2_with fail
  refine (HOS.out _).mono ?_
  rintro e w2 ⟨rfl, hb⟩
  have Ha2 := Lib.hid (hkeep hb (heap1_old Ha1.out _))
  have Ht2 := Lib.hid (hkeep hb (heap1 w1 (oV 4 0 0 ⟨#[]⟩ ((ti : Int) + 1))))
  have HW2 := Lib.hid (below_next (HW1.out.alloc HW1.out.size (oV 4 0 0 ⟨#[]⟩ ((ti : Int) + 1))) hb)
  have hz2 := hb.size
  try simp at hz2
  clear hb
  go_wp2_with fail
  refine (HArg.out _ (HW2.out.alloc HW2.out.size _) _).mono ?_
  rintro e w3 ⟨rfl, hb⟩
  have Ha3 := Lib.hid (hkeep hb (heap1_old Ha2.out _))
  have Ht3 := Lib.hid (hkeep hb (heap1_old Ht2.out _))
  have HW3 := Lib.hid (below_next (HW2.out.alloc HW2.out.size _) hb)
  have hz3 := hb.size
  try simp at hz3
  clear hb
  go_wp2_with fail
  refine (HStr.out _ HW3.out).mono ?_
  rintro e w4 ⟨rfl, hb⟩
  have Ha4 := Lib.hid (hkeep hb Ha3.out)
  have Ht4 := Lib.hid (hkeep hb Ht3.out)
  have HW4 := Lib.hid (below_next HW3.out hb)
  have hz4 := hb.size
  clear hb
  go_wp2_with fail
  refine (HOI.out _ 1 (by decide) (by decide)).mono ?_
  rintro e w5 ⟨rfl, hb⟩
  have Ha5 := Lib.hid (hkeep hb Ha4.out)
  have Ht5 := Lib.hid (hkeep hb Ht4.out)
  have HW5 := Lib.hid (below_next HW4.out hb)
  have hz5 := hb.size
  clear hb
  go_wp2_with fail
  refine (HInt.out _ (HW5.out.alloc HW5.out.size _) 2 (by decide) _ _ (heap1 _ _)).mono ?_
  rintro e w6 ⟨rfl, hb⟩
  have Ha6 := Lib.hid (hkeep hb (heap1_old Ha5.out _))
  have Ht6 := Lib.hid (hkeep hb (heap1_old Ht5.out _))
  have HW6 := Lib.hid (below_next (HW5.out.alloc HW5.out.size _) hb)
  have hz6 := hb.size
  try simp at hz6
  clear hb
  have hyt : w1.heap.size < w6.heap.size := (Array.getElem?_eq_some_iff.1 Ht6.out).1
  obtain ⟨t0, t1, t2, t3, t4⟩ := cells5 Ht6.out
  obtain ⟨ft0, ft1, ft2, ft3, ft4⟩ := froz5 Ht6.out
  go_wp2_with fail
  refine (HLen.out _ HW6.out).mono ?_
  rintro e w7 ⟨rfl, hb⟩
  have Ha7 := Lib.hid (hkeep hb Ha6.out)
  have Ht7 := Lib.hid (hkeep hb Ht6.out)
  have HW7 := Lib.hid (below_next HW6.out hb)
  have hz7 := hb.size
  clear hb t0 t1 t2 t3 t4 ft0 ft1 ft2 ft3 ft4
  go_wp2_with fail
  refine (HOI.out _ _ (by omega) (by omega)).mono ?_
  rintro e w8 ⟨rfl, hb⟩
  have Ha8 := Lib.hid (hkeep hb Ha7.out)
  have Ht8 := Lib.hid (hkeep hb Ht7.out)
  have HW8 := Lib.hid (below_next HW7.out hb)
  have hz8 := hb.size
  clear hb
  go_wp2_with fail
  refine (HInt.out _ (HW8.out.alloc HW8.out.size _) 3 (by decide) _ _ (heap1 _ _)).mono ?_
  rintro e w9 ⟨rfl, hb⟩
  have Ha9 := Lib.hid (hkeep hb (heap1_old Ha8.out _))
  have Ht9 := Lib.hid (hkeep hb (heap1_old Ht8.out _))
  have HW9 := Lib.hid (below_next (HW8.out.alloc HW8.out.size _) hb)
  have hz9 := hb.size
  try simp at hz9
  clear hb
  have hyt9 : w1.heap.size < w9.heap.size := (Array.getElem?_eq_some_iff.1 Ht9.out).1
  have hya9 : w.heap.size < w9.heap.size := (Array.getElem?_eq_some_iff.1 Ha9.out).1
  go_wp2
  go_loopg [10] A.length (fun gg s10 wr => ∃ i, i + gg = A.length ∧ s10 = .int .i64 ((i : Int) + 1) ∧ Hid (ConR w c h nm (.slice so 2 cap) ti w1.heap.size w9.heap.size (conP A sep i) wr))
  case atStart =>
    exact ⟨0, by omega, rfl, heap1_old Ha9.out _, heap1_old Ht9.out _, Lib.fresh_isBuilder _ _ _, by simp, .inl ⟨HW9.out.alloc HW9.out.size _, by rw [conP_zero]; exact Nat.zero_le _⟩⟩
  case round =>
    obtain ⟨i, hi, rfl, HR⟩ := hrel
    obtain ⟨hRa, hRt, hRB, hzr, hok | hbad⟩ := HR.out
    · clear HR
      have Ha := Lib.hid (hRa)
      have Ht := Lib.hid (hRt)
      have HB := Lib.hid (hRB)
      have HW := Lib.hid (hok.1)
      have hPl := hok.2
      clear hRa hRt hRB hok
      have HC0 := Lib.hid (hkeep HW.out HCC.out)
      have hclr := (Array.getElem?_eq_some_iff.1 HC0.out).1
      have c15 : wr.cell? ⟨c, 15, none⟩ = some (.bool false) := by rw [cell_of_heap HC0.out]; rfl
      by_cases hlt : i < A.length
      · have d1 : decide ((i : Int) + 1 ≤ (A.length : Int)) = true := decide_eq_true (by omega)
        obtain ⟨v, hv⟩ : ∃ v, A[i]? = some v := ⟨_, List.getElem?_eq_getElem hlt⟩
        have hvm := List.mem_of_getElem? hv
        have HTV := Lib.hid (HTX.out _ HW.out v hvm)
        have HTSZ := Lib.hid (HTZ.out v hvm)
        have HGV := Lib.hid (HGet.out wr HW.out i hlt v hv)
        have HST := Lib.hid (fun W (hb : Below w.heap.size w W) => HTX.out W hb v hvm)
        have HPS := Lib.hid ((conP_succ (sep := sep) hv))
        clear hv hvm HTV
        obtain ⟨vk, vp, vq, vs, vr⟩ := v
        obtain ⟨X, hX⟩ : ∃ X, X = txt ⟨vk, vp, vq, vs, vr⟩ := ⟨_, rfl⟩
        rw [← hX] at HPS HTSZ HST
        clear hX
        have hyt : w1.heap.size < wr.heap.size := (Array.getElem?_eq_some_iff.1 Ht.out).1
        obtain ⟨t0, t1, t2, t3, t4⟩ := cells5 Ht.out
        obtain ⟨ft0, ft1, ft2, ft3, ft4⟩ := froz5 Ht.out
        go_wp2_with fail
        refine (HGV.out).mono ?_
        rintro e w10 ⟨rfl, hb⟩
        have Ha10 := Lib.hid (hkeep hb Ha.out)
        have Ht10 := Lib.hid (hkeep hb Ht.out)
        have HB10 := Lib.hid (bld_below HB.out hb)
        have HW10 := Lib.hid (below_next HW.out hb)
        have hz10 := hb.size
        clear hb t0 t1 t2 t3 t4 ft0 ft1 ft2 ft3 ft4 c15
        go_wp2_with fail
        refine (HST.out _ HW10.out).mono ?_
        rintro e w11 ⟨rfl, hb⟩
        have Ha11 := Lib.hid (hkeep hb Ha10.out)
        have Ht11 := Lib.hid (hkeep hb Ht10.out)
        have HB11 := Lib.hid (bld_below HB10.out hb)
        have HW11 := Lib.hid (below_next HW10.out hb)
        have hz11 := hb.size
        clear hb
        have hX2 : X.size ≤ 4096 := HTSZ.out
        by_cases h0 : i = 0
        · have d2 : decide ((i : Int) + 1 > 1) = false := decide_eq_false (by omega)
          have e0 : conP A sep i = [] := by rw [h0]; rfl
          have HB11' := HB11.out
          rw [e0] at HB11'
          have HPQ := Lib.hid ((show conP A sep (i + 1) = [] ++ X.data.toList by rw [HPS.out, if_pos h0]; rfl))
          have HBW := Lib.hid (HB11')
          clear HB11'
          have hWl : ([] : List UInt8).length ≤ 9000 := by decide
          have HaW := Lib.hid (Ha11.out)
          have HtW := Lib.hid (Ht11.out)
          have HWW := Lib.hid (HW11.out)
          have hzW : w9.heap.size ≤ w11.heap.size := by omega
          go_wp2_with fail
          refine (wrS_c _ _ _ X _ HBW.out (by omega) (by omega) (by omega)).mono ?_
          rintro e w13 ⟨rfl, hB, hb⟩
          rw [← HPQ.out] at hB
          have HB13 := Lib.hid (hB)
          have Ha13 := Lib.hid (bkeep hb HaW.out hya9)
          have Ht13 := Lib.hid (bkeep hb HtW.out hyt9)
          have HW13 := Lib.hid (below_bel HWW.out hb (by omega))
          have hz13 : w9.heap.size ≤ w13.heap.size := by have := hb.size; omega
          clear hB hb hWl
          obtain ⟨Q, hQ⟩ : ∃ Q, Q = conP A sep (i + 1) := ⟨_, rfl⟩
          rw [← hQ] at HB13
          have HQ := Lib.hid (hQ)
          clear hQ
          go_wp2_with fail
          refine (bLen_c _ _ Q _ HB13.out).mono ?_
          rintro e w14 ⟨rfl, rfl⟩
          by_cases hq : Q.length ≤ 4096
          · have d3 : decide ((Q.length : Int) > 4096) = false := decide_eq_false (by omega)
            go_wp2
            go_roundg (A.length - (i + 1))
            case measure => omega
            case rel =>
              exact ⟨i + 1, by omega, by first | (push_cast; rfl) | (rw [h0]; rfl), Ha13.out, Ht13.out, by rw [← HQ.out]; exact HB13.out, hz13, .inl ⟨HW13.out, by rw [← HQ.out]; exact hq⟩⟩
          · have d3 : decide ((Q.length : Int) > 4096) = true := decide_eq_true (by omega)
            go_wp2_with fail
            refine (HFail.out _ HW13.out).mono ?_
            rintro e w15 ⟨rfl, so5, cap5, hC5, hr5, hm5⟩
            have HC15 := Lib.hid (hC5)
            have HR15 := Lib.hid (hr5)
            have HM15 := Lib.hid (Mods.trans (Mods.of_below HW13.out) hm5)
            have Ha15 := Lib.hid (mkeep hm5 Ha13.out (by omega))
            have Ht15 := Lib.hid (mkeep hm5 Ht13.out (by omega))
            have HB15 := Lib.hid (bld_keep HB13.out (fun g hg1 hg2 => hm5.block g hg2 (by omega)))
            have hz15 : w9.heap.size ≤ w15.heap.size := by have := hm5.size; omega
            have hlt13 := (Array.getElem?_eq_some_iff.1 Ha13.out).1
            clear hC5 hr5 hm5
            go_wp2
            go_roundg (A.length - (i + 1))
            case measure => omega
            case rel =>
              exact ⟨i + 1, by omega, by first | (push_cast; rfl) | (rw [h0]; rfl), Ha15.out, Ht15.out, by rw [← HQ.out]; exact HB15.out, hz15, .inr ⟨so5, cap5, HC15.out, ownsRow_base HR15.out (by omega), HM15.out, by rw [← HQ.out]; omega⟩⟩
        · have d2 : decide ((i : Int) + 1 > 1) = true := decide_eq_true (by omega)
          go_wp2_with fail
          refine (wrS_c _ _ _ sep _ HB11.out (by omega) (by omega) (by omega)).mono ?_
          rintro e w12 ⟨rfl, hB, hb⟩
          have HBW := Lib.hid (hB)
          have HaW := Lib.hid (bkeep hb Ha11.out hya9)
          have HtW := Lib.hid (bkeep hb Ht11.out hyt9)
          have HWW := Lib.hid (below_bel HW11.out hb (by omega))
          have hzW : w9.heap.size ≤ w12.heap.size := by have := hb.size; omega
          have HPQ := Lib.hid ((show conP A sep (i + 1) = (conP A sep i ++ sep.data.toList) ++ X.data.toList by rw [HPS.out, if_neg h0]))
          have hWl : (conP A sep i ++ sep.data.toList).length ≤ 9000 := by rw [List.length_append, size_data]; omega
          clear hB hb
          go_wp2_with fail
          refine (wrS_c _ _ _ X _ HBW.out (by omega) (by omega) (by omega)).mono ?_
          rintro e w13 ⟨rfl, hB, hb⟩
          rw [← HPQ.out] at hB
          have HB13 := Lib.hid (hB)
          have Ha13 := Lib.hid (bkeep hb HaW.out hya9)
          have Ht13 := Lib.hid (bkeep hb HtW.out hyt9)
          have HW13 := Lib.hid (below_bel HWW.out hb (by omega))
          have hz13 : w9.heap.size ≤ w13.heap.size := by have := hb.size; omega
          clear hB hb hWl
          obtain ⟨Q, hQ⟩ : ∃ Q, Q = conP A sep (i + 1) := ⟨_, rfl⟩
          rw [← hQ] at HB13
          have HQ := Lib.hid (hQ)
          clear hQ
          go_wp2_with fail
          refine (bLen_c _ _ Q _ HB13.out).mono ?_
          rintro e w14 ⟨rfl, rfl⟩
          by_cases hq : Q.length ≤ 4096
          · have d3 : decide ((Q.length : Int) > 4096) = false := decide_eq_false (by omega)
            go_wp2
            go_roundg (A.length - (i + 1))
            case measure => omega
            case rel =>
              exact ⟨i + 1, by omega, by first | (push_cast; rfl) | (rw [h0]; rfl), Ha13.out, Ht13.out, by rw [← HQ.out]; exact HB13.out, hz13, .inl ⟨HW13.out, by rw [← HQ.out]; exact hq⟩⟩
          · have d3 : decide ((Q.length : Int) > 4096) = true := decide_eq_true (by omega)
            go_wp2_with fail
            refine (HFail.out _ HW13.out).mono ?_
            rintro e w15 ⟨rfl, so5, cap5, hC5, hr5, hm5⟩
            have HC15 := Lib.hid (hC5)
            have HR15 := Lib.hid (hr5)
            have HM15 := Lib.hid (Mods.trans (Mods.of_below HW13.out) hm5)
            have Ha15 := Lib.hid (mkeep hm5 Ha13.out (by omega))
            have Ht15 := Lib.hid (mkeep hm5 Ht13.out (by omega))
            have HB15 := Lib.hid (bld_keep HB13.out (fun g hg1 hg2 => hm5.block g hg2 (by omega)))
            have hz15 : w9.heap.size ≤ w15.heap.size := by have := hm5.size; omega
            have hlt13 := (Array.getElem?_eq_some_iff.1 Ha13.out).1
            clear hC5 hr5 hm5
            go_wp2
            go_roundg (A.length - (i + 1))
            case measure => omega
            case rel =>
              exact ⟨i + 1, by omega, by first | (push_cast; rfl) | (rw [h0]; rfl), Ha15.out, Ht15.out, by rw [← HQ.out]; exact HB15.out, hz15, .inr ⟨so5, cap5, HC15.out, ownsRow_base HR15.out (by omega), HM15.out, by rw [← HQ.out]; omega⟩⟩
      · have hii : i = A.length := by omega
        subst hii
        have d1 : decide ((A.length : Int) + 1 ≤ (A.length : Int)) = false := decide_eq_false (by omega)
        rw [← HSS.out] at HB hPl
        go_wp2_with fail
        refine (Tryz.Builder_String_any _ _ S _ HB.out hzr).mono ?_
        rintro e w20 ⟨rfl, hb⟩
        have Ha20 := Lib.hid (bkeep hb Ha.out hya9)
        have HW20 := Lib.hid (below_bel HW.out hb (by omega))
        clear hb c15
        go_wp2_with fail
        refine (pOfString_c _ _).mono ?_
        rintro e w21 ⟨rfl, hb⟩
        have Ha21 := Lib.hid (hkeep hb Ha20.out)
        have HW21 := Lib.hid (below_next HW20.out hb)
        clear hb
        go_wp2_with fail
        refine (HEnd.out _ (HW21.out.alloc HW21.out.size _) _ _ _ [strV ⟨S.toArray⟩] (vals_one _ (strV ⟨S.toArray⟩)) (by simp)).mono ?_
        rintro e w22 ⟨so3, cap3, rfl, hr, hb⟩
        have HR3 := Lib.hid (hr)
        have Ha22 := Lib.hid (hkeep hb (heap1_old Ha21.out _))
        have HW22 := Lib.hid (below_next (HW21.out.alloc HW21.out.size _) hb)
        have hz21 := HW21.out.size
        have hlt21 := (Array.getElem?_eq_some_iff.1 Ha21.out).1
        clear hr hb
        have hya : w.heap.size < w22.heap.size := (Array.getElem?_eq_some_iff.1 Ha22.out).1
        obtain ⟨a0, a1, a2, a3, a4, a5, a6, a7, a8, a9, a10, a11⟩ := cells12 Ha22.out
        obtain ⟨fa0, fa1, fa2, fa3, fa4, fa5, fa6, fa7, fa8, fa9, fa10, fa11⟩ := froz12 Ha22.out
        go_wp2
        refine bodyPost_ret (by simp [results, Tryz.results25, go_sem, hya, a0, a1, a2, a3, a4, a5, a6, a7, a8, a9, a10, a11]; first | done | rfl) rfl ?_
        rw [HKK.out, HKA.out, HKL.out]
        unfold conK conA conL
        rw [if_pos hPl, if_pos hPl, if_pos hPl]
        exact act_end (A := [strV ⟨S.toArray⟩]) (K := []) (B := w.heap.size + 1) (ownsRow_base HR3.out (by simp; omega)) (World.ownsRow_nil _ _ _ _) (Mods.of_below HW22.out) (Nat.le_refl _) (Nat.lt_succ_self _) _ _ _ _ _ _ _ _ _ _ _ _
    · obtain ⟨so5, cap5, hC5, hr5, hm5, hbig⟩ := hbad
      clear HR
      have Ha := Lib.hid (hRa)
      have HB := Lib.hid (hRB)
      have HC0 := Lib.hid (hC5)
      have HR5 := Lib.hid (hr5)
      have HM5 := Lib.hid (hm5)
      have hclr := (Array.getElem?_eq_some_iff.1 HC0.out).1
      have hSl : ¬ S.length ≤ 4096 := by
        rw [HSS.out]
        have := conP_len_le (A := A) (sep := sep) i (A.length - i) (by omega)
        rw [show i + (A.length - i) = A.length by omega] at this
        omega
      clear hRa hRt hRB hC5 hr5 hm5
      have c15 : wr.cell? ⟨c, 15, none⟩ = some (.bool true) := by rw [cell_of_heap HC0.out]; rfl
      obtain ⟨P, hP⟩ : ∃ P, P = conP A sep i := ⟨_, rfl⟩
      rw [← hP] at HB
      have hbigP := Lib.hid ((show 4096 < P.length by rw [hP]; exact hbig))
      clear hP hbig
      rcases Bool.eq_false_or_eq_true (decide ((i : Int) + 1 ≤ (A.length : Int))) with d1 | d1
      all_goals
        go_wp2_with fail
        refine (bStr_k _ _ P _ HB.out (fun e => by have := hbigP.out; rw [e] at this; simp at this)).mono ?_
        rintro e w20 ⟨rfl, hb, hkp⟩
        have Ha20 := Lib.hid (bkeep hb Ha.out hya9)
        have HC20 := Lib.hid (bkeep hb HC0.out (by omega))
        have HR20 := Lib.hid (row_others HR5.out hkp HB.out)
        have HM20 := Lib.hid (mods_bel HM5.out hb (by omega))
        clear hb hkp c15
        go_wp2_with fail
        refine (pOfString_c _ _).mono ?_
        rintro e w21 ⟨rfl, hb⟩
        have Ha21 := Lib.hid (hkeep hb Ha20.out)
        have HC21 := Lib.hid (hkeep hb HC20.out)
        have HR21 := Lib.hid (ownsRow_ext (below_ext hb (Nat.le_refl _)) HR20.out)
        have HM21 := Lib.hid (mods_next HM20.out hb)
        clear hb
        go_wp2_with fail
        refine (tEnd_bad _ c h nm so 2 cap so5 cap5 (heap1_old HC21.out _) _).mono ?_
        rintro e w22 ⟨rfl, hb⟩
        have Ha22 := Lib.hid (hkeep hb (heap1_old Ha21.out _))
        have HR22 := Lib.hid (ownsRow_ext (below_ext hb (Nat.le_refl _)) (ownsRow_ext (below_ext (below1 _ _) (Nat.le_refl _)) HR21.out))
        have HM22 := Lib.hid (mods_next (mods_alloc HM21.out _) hb)
        clear hb
        have hya : w.heap.size < w22.heap.size := (Array.getElem?_eq_some_iff.1 Ha22.out).1
        obtain ⟨a0, a1, a2, a3, a4, a5, a6, a7, a8, a9, a10, a11⟩ := cells12 Ha22.out
        obtain ⟨fa0, fa1, fa2, fa3, fa4, fa5, fa6, fa7, fa8, fa9, fa10, fa11⟩ := froz12 Ha22.out
        go_wp2
        refine bodyPost_ret (by simp [results, Tryz.results25, go_sem, hya, a0, a1, a2, a3, a4, a5, a6, a7, a8, a9, a10, a11]; first | done | rfl) rfl ?_
        rw [HKK.out, HKA.out, HKL.out]
        unfold conK conA conL
        rw [if_neg hSl, if_neg hSl, if_neg hSl]
        exact act_end (A := [strV tooLong]) (K := []) (B := w.heap.size + 1) HR22.out (World.ownsRow_nil _ _ _ _) HM22.out (Nat.le_refl _) (Nat.lt_succ_self _) _ _ _ _ _ _ _ _ _ _ _ _
set_option maxRecDepth 100000 in
set_option maxHeartbeats 40000000 in
theorem tGetX_c (w : World) (c h : Nat) (nm : ByteArray) (so : Option Addr) (na ca : Nat) (HC : w.heap[c]? = some (oCt h nm (.slice so na ca))) (ti x : Nat) (hx : x ≤ 100000) (k : Int) (hk : k = (x : Int) + 1) (vk vp vq : Int) (vs : ByteArray) (vr : Int)
    (HGG : ∀ W, Below w.heap.size w W → Calls Tryz.prog 21 #[.pointer (some ⟨h, 0, none⟩), tabA ti, .agg #[.int .i64 2, .int .i64 ((x : Int) + 1), .int .i64 1, .string ⟨#[]⟩, .int .i64 0]] W (fun e w' => e = .returned (.tuple #[.agg #[.int .i64 vk, .int .i64 vp, .int .i64 vq, .string vs, .int .i64 vr], .int .i64 0]) ∧ Below W.heap.size W w')) :
    Calls Tryz.prog 56 #[.pointer (some ⟨c, 0, none⟩), .agg #[.int .i64 4, .int .i64 0, .int .i64 0, .string ⟨#[]⟩, .int .i64 ((ti : Int) + 1)], .int .i64 k] w (ValPost w ⟨vk, vp, vq, vs, vr⟩) := by
  subst hk
  have HO := Lib.hid (fun W => pOfInt_top W ((x : Int) + 1) (by omega) (by omega))
  have HG := Lib.hid (HGG)
  have HCC := Lib.hid (HC)
  have hc : c < w.heap.size := (Array.getElem?_eq_some_iff.1 HC).1
  clear HC HGG
  go_enter Tryz.func56, Tryz.ntmps56
  go_upto_region 1 with fail
  obtain ⟨W1, hW1⟩ : ∃ W1, W1 = (w.alloc (oV 4 0 0 ⟨#[]⟩ ((ti : Int) + 1))).alloc (oV 0 0 0 ⟨#[]⟩ 0) := ⟨_, rfl⟩
  have HB1 := Lib.hid ((show Below w.heap.size w W1 by rw [hW1]; exact below2w _ _ _))
  have HT1 := Lib.hid ((show W1.heap[w.heap.size]? = some (oV 4 0 0 ⟨#[]⟩ ((ti : Int) + 1)) by rw [hW1]; exact heap2_a _ _ _))
  have HR1 := Lib.hid ((show W1.heap[w.heap.size + 1]? = some (oV 0 0 0 ⟨#[]⟩ 0) by rw [hW1]; exact heap2_b _ _ _))
  have HC1 := Lib.hid ((show W1.heap[c]? = some (oCt h nm (.slice so na ca)) by exact hkeep HB1.out HCC.out))
  have hz1 : w.heap.size + 1 < W1.heap.size := (Array.getElem?_eq_some_iff.1 HR1.out).1
  try rw [show (w.alloc (oV 4 0 0 ⟨#[]⟩ ((ti : Int) + 1))).alloc (oV 0 0 0 ⟨#[]⟩ 0) = W1 from hW1.symm]
  clear hW1
  go_cut [7, 8] (fun s7 s8 wx => ∃ nb, s7 = .pointer (some ⟨nb, 0, none⟩) ∧ s8 = .int .i64 0 ∧ Hid (wx.heap[nb]? = some (oV vk vp vq vs vr) ∧ Below W1.heap.size W1 wx))
  case first =>
    have SO := Lib.hid (fun (W : World) (hb : Below W1.heap.size W1 W) => (show W.cell? ⟨c, 0, none⟩ = some (.pointer (some ⟨h, 0, none⟩)) ∧ W.cell? ⟨w.heap.size, 0, none⟩ = some (.int .i64 4) ∧ W.cell? ⟨w.heap.size, 1, none⟩ = some (.int .i64 0) ∧ W.cell? ⟨w.heap.size, 2, none⟩ = some (.int .i64 0) ∧ W.cell? ⟨w.heap.size, 3, none⟩ = some (.string ⟨#[]⟩) ∧ W.cell? ⟨w.heap.size, 4, none⟩ = some (.int .i64 ((ti : Int) + 1)) ∧ Hid (Below W1.heap.size W1 W) from ⟨(cells16 (hkeep hb HC1.out)).1, (cells5 (hkeep hb HT1.out)).1, (cells5 (hkeep hb HT1.out)).2.1, (cells5 (hkeep hb HT1.out)).2.2.1, (cells5 (hkeep hb HT1.out)).2.2.2.1, (cells5 (hkeep hb HT1.out)).2.2.2.2, Lib.hid hb⟩))
    have BA := Lib.hid (fun (W : World) (o : Obj) (hb : Below W1.heap.size W1 W) => (show Below W1.heap.size W1 (W.alloc o) from hb.alloc hb.size o))
    have BD := Lib.hid (fun (W : World) (hb : Below W1.heap.size W1 W) => (show Below W1.heap.size W1 W.drew from hb.drew))
    have B5 := Lib.hid (fun (W : World) (b : Nat) (x0 x1 x2 x3 x4 : Value) (hb : Below W1.heap.size W1 W) (hbb : W1.heap.size ≤ b) => below_five hb hbb x0 x1 x2 x3 x4)
    have hbR : Below W1.heap.size W1 W1 := Below.refl _ _
    have hbD : Below W1.heap.size W1 W1.drew := (Below.refl _ _).drew
    go_region_held3 (fun w' => w'.cell? ⟨c, 0, none⟩ = some (.pointer (some ⟨h, 0, none⟩)) ∧ w'.cell? ⟨w.heap.size, 0, none⟩ = some (.int .i64 4) ∧ w'.cell? ⟨w.heap.size, 1, none⟩ = some (.int .i64 0) ∧ w'.cell? ⟨w.heap.size, 2, none⟩ = some (.int .i64 0) ∧ w'.cell? ⟨w.heap.size, 3, none⟩ = some (.string ⟨#[]⟩) ∧ w'.cell? ⟨w.heap.size, 4, none⟩ = some (.int .i64 ((ti : Int) + 1)) ∧ Hid (Below W1.heap.size W1 w'))
      (with_reducible refine SO.out _ ?_; repeat (first | with_reducible assumption | (with_reducible refine BA.out _ _ ?_) | (with_reducible refine BD.out _ ?_) | (with_reducible refine B5.out _ _ _ _ _ _ _ ?_ ?_) | omega))
      (first | (go_at_call 54; (with_reducible refine (HO.out _).mono ?_); rintro e nw1 ⟨rfl, hb⟩; have hb1 := below_next (prjK6 (by assumption)) hb; have hzb1 := hb1.size; (first | ((with_reducible have Hz1 := Lib.hid (hkeep hb (heap_newD W1 (oV 0 0 0 ⟨#[]⟩ 0)))); have hza1 := (Array.getElem?_eq_some_iff.1 Hz1.out).1) | ((with_reducible have Hz1 := Lib.hid (hkeep hb (heap_new W1 (oV 0 0 0 ⟨#[]⟩ 0)))); have hza1 := (Array.getElem?_eq_some_iff.1 Hz1.out).1) | skip); clear hb) | (go_at_call 21; (with_reducible refine (HG.out _ (below_next HB1.out (prjK6 (by assumption)))).mono ?_); rintro e nw2 ⟨rfl, hb⟩; have hb2 := below_next (prjK6 (by assumption)) hb; have hzb2 := hb2.size; (first | ((with_reducible have Hz2 := Lib.hid (hkeep hb (heap_newD W1 (oV 0 0 0 ⟨#[]⟩ 0)))); have hza2 := (Array.getElem?_eq_some_iff.1 Hz2.out).1; obtain ⟨z0, z1, z2, z3, z4⟩ := cells5 Hz2.out; obtain ⟨fz0, fz1, fz2, fz3, fz4⟩ := froz5 Hz2.out) | ((with_reducible have Hz2 := Lib.hid (hkeep hb (heap_new W1 (oV 0 0 0 ⟨#[]⟩ 0)))); have hza2 := (Array.getElem?_eq_some_iff.1 Hz2.out).1; obtain ⟨z0, z1, z2, z3, z4⟩ := cells5 Hz2.out; obtain ⟨fz0, fz1, fz2, fz3, fz4⟩ := froz5 Hz2.out) | ((with_reducible have Hz2 := Lib.hid (hkeep hb (heap_new nw1 (oV 0 0 0 ⟨#[]⟩ 0)))); have hza2 := (Array.getElem?_eq_some_iff.1 Hz2.out).1; obtain ⟨z0, z1, z2, z3, z4⟩ := cells5 Hz2.out; obtain ⟨fz0, fz1, fz2, fz3, fz4⟩ := froz5 Hz2.out) | ((with_reducible have Hz2 := Lib.hid (hkeep hb Hz1.out)); have hza2 := (Array.getElem?_eq_some_iff.1 Hz2.out).1; obtain ⟨z0, z1, z2, z3, z4⟩ := cells5 Hz2.out; obtain ⟨fz0, fz1, fz2, fz3, fz4⟩ := froz5 Hz2.out) | skip); clear hb))
    all_goals
      go_wp2_with fail
      go_meet
      first
      | (with_reducible refine ⟨_, rfl, rfl, Lib.hid ⟨heap_new _ _, hb2.alloc hb2.size _⟩⟩)
      | (refine ⟨_, rfl, rfl, Lib.hid ⟨heap_five_at Hz2.out _ _ _ _ _, below_five hb2 ?_ _ _ _ _ _⟩⟩ <;> omega)
  case rest =>
    obtain ⟨nb, rfl, rfl, hx⟩ := hcut
    have HN := Lib.hid (hx.out.1)
    have HR2 := Lib.hid (hkeep hx.out.2 HR1.out)
    have HB2 := Lib.hid (below_next HB1.out hx.out.2)
    clear hx
    have hyr : w.heap.size + 1 < wc.heap.size := (Array.getElem?_eq_some_iff.1 HR2.out).1
    have hyn : nb < wc.heap.size := (Array.getElem?_eq_some_iff.1 HN.out).1
    obtain ⟨r0, r1, r2, r3, r4⟩ := cells5 HR2.out
    obtain ⟨fr0, fr1, fr2, fr3, fr4⟩ := froz5 HR2.out
    obtain ⟨v0, v1, v2, v3, v4⟩ := cells5 HN.out
    obtain ⟨fv0, fv1, fv2, fv3, fv4⟩ := froz5 HN.out
    go_wp2
    refine bodyPost_ret (by simp [results, Tryz.results56, go_sem, hyr, r0, r1, r2, r3, r4]; first | done | rfl) rfl ?_
    exact val_done rfl (below_five HB2.out (by omega) _ _ _ _ _)
set_option maxRecDepth 100000 in
set_option maxHeartbeats 2000000 in
theorem tUnpack_many (w : World) (c h : Nat) (nm : ByteArray) (ga cap : Nat) (HC : w.heap[c]? = some (oCt h nm (.slice (some ⟨ga, 0, none⟩) 3 cap))) {base n : Nat} {M : LH} {AA : List (List V)} {O : Nat → Prop} (hP : PHp base n w h M AA O) {ti : Nat} (hti : ti ≤ 100000) {o : LO} {A : List V} (hM : M[ti]? = some o) (hA : AA[ti]? = some A) (h4 : o.kind = 4) (hl : A.length ≤ 1000) (vs : List V) (hvl : vs.length ≤ 300) (hX : Vals w (.slice (some ⟨ga, 0, none⟩) 3 cap) [⟨4, 0, 0, ⟨#[]⟩, (ti : Int) + 1⟩, ⟨2, 1, 1, ⟨#[]⟩, 0⟩, ⟨2, (vs.length : Nat), 1, ⟨#[]⟩, 0⟩]) (hm : 200 < vs.length) :
    Calls Tryz.prog 31 #[.pointer (some ⟨c, 0, none⟩)] w (ActPost (fun k => k = c) w 2 0 V.nil [strV ⟨#[116, 111, 111, 32, 109, 97, 110, 121, 32, 114, 101, 115, 117, 108, 116, 115, 32, 116, 111, 32, 117, 110, 112, 97, 99, 107]⟩] ⟨#[]⟩ 1 0 []) := by
  have hcl := (Array.getElem?_eq_some_iff.1 HC).1
  have HTab := Lib.hid (fun W (hb : Below w.heap.size w W) => tTable_c W c h nm _ 3 cap _ (hkeep hb HC) (Vals.below hX hb) (by simp) 0 0 rfl 0 0 ⟨#[]⟩ ((ti : Int) + 1) rfl none 0 0)
  have HOI := Lib.hid (fun W (x : Int) (h1 : -2147483647 ≤ x) (h2 : x ≤ 2147483647) => pOfInt_top W x h1 h2)
  have HI1 := Lib.hid (fun W (hb : Below w.heap.size w W) (so2 : Option Addr) => tInt_ok W c h nm _ 3 cap _ (hkeep hb HC) (Vals.below hX hb) (by simp) 1 1 rfl 1 ⟨#[]⟩ 0 rfl (valid_num (by decide) (by decide)) so2 1 1)
  have HI2 := Lib.hid (fun W (hb : Below w.heap.size w W) (so2 : Option Addr) => tInt_ok W c h nm _ 3 cap _ (hkeep hb HC) (Vals.below hX hb) (by simp) 2 2 rfl (vs.length : Nat) ⟨#[]⟩ 0 rfl (valid_num (by omega) (by omega)) so2 1 1)
  have HLen := Lib.hid (fun W (hb : Below w.heap.size w W) => tLen_c W c h nm _ (hkeep hb HC) (hP.below hb) hti hM hA h4)
  have HCC := Lib.hid (HC)
  have HFail := Lib.hid (fun W (hb : Below w.heap.size w W) => tFail_c W c h nm _ 3 cap (hkeep hb HC) ⟨#[116, 111, 111, 32, 109, 97, 110, 121, 32, 114, 101, 115, 117, 108, 116, 115, 32, 116, 111, 32, 117, 110, 112, 97, 99, 107]⟩ (by decide))
  clear HC hX hP hM hA
  go_enter Tryz.func31, Tryz.ntmps31
  go_wp2_with fail
  refine (HTab.out _ (below1 _ _)).mono ?_
  rintro e w1 ⟨rfl, hb⟩
  have Ha1 := Lib.hid (hkeep hb (heap1 w oAc))
  have HW1 := Lib.hid (below_next (below1 _ _) hb)
  have hz1 := hb.size
  try simp at hz1
  clear hb
  go_wp2_with fail
  refine (HOI.out _ 1 (by decide) (by decide)).mono ?_
  rintro e w2 ⟨rfl, hb⟩
  have Ha2 := Lib.hid (hkeep hb (heap1_old Ha1.out _))
  have Ht2 := Lib.hid (hkeep hb (heap1 w1 (oV 4 0 0 ⟨#[]⟩ ((ti : Int) + 1))))
  have HW2 := Lib.hid (below_next (HW1.out.alloc HW1.out.size (oV 4 0 0 ⟨#[]⟩ ((ti : Int) + 1))) hb)
  clear hb
  go_wp2_with fail
  refine (HI1.out _ (HW2.out.alloc HW2.out.size _) _).mono ?_
  rintro e w3 ⟨rfl, hb⟩
  have Ha3 := Lib.hid (hkeep hb (heap1_old Ha2.out _))
  have Ht3 := Lib.hid (hkeep hb (heap1_old Ht2.out _))
  have HW3 := Lib.hid (below_next (HW2.out.alloc HW2.out.size _) hb)
  have hyt3 : w1.heap.size < w3.heap.size := (Array.getElem?_eq_some_iff.1 Ht3.out).1
  clear hb
  obtain ⟨t0, t1, t2, t3, t4⟩ := cells5 Ht3.out
  obtain ⟨ft0, ft1, ft2, ft3, ft4⟩ := froz5 Ht3.out
  go_wp2_with fail
  refine (HLen.out _ HW3.out).mono ?_
  rintro e w4 ⟨rfl, hb⟩
  have Ha4 := Lib.hid (hkeep hb Ha3.out)
  have Ht4 := Lib.hid (hkeep hb Ht3.out)
  have HW4 := Lib.hid (below_next HW3.out hb)
  clear hb t0 t1 t2 t3 t4 ft0 ft1 ft2 ft3 ft4
  go_wp2_with fail
  refine (HOI.out _ _ (by omega) (by omega)).mono ?_
  rintro e w5 ⟨rfl, hb⟩
  have Ha5 := Lib.hid (hkeep hb Ha4.out)
  have Ht5 := Lib.hid (hkeep hb Ht4.out)
  have HW5 := Lib.hid (below_next HW4.out hb)
  clear hb
  go_wp2_with fail
  refine (HI2.out _ (HW5.out.alloc HW5.out.size _) _).mono ?_
  rintro e w6 ⟨rfl, hb⟩
  have Ha6 := Lib.hid (hkeep hb (heap1_old Ha5.out _))
  have Ht6 := Lib.hid (hkeep hb (heap1_old Ht5.out _))
  have HW6 := Lib.hid (below_next (HW5.out.alloc HW5.out.size _) hb)
  have hz6 := HW6.out.size
  have hya6 : w.heap.size < w6.heap.size := (Array.getElem?_eq_some_iff.1 Ha6.out).1
  have hyt6 : w1.heap.size < w6.heap.size := (Array.getElem?_eq_some_iff.1 Ht6.out).1
  clear hb
  have e1 : IntKind.i64.wrap ((vs.length : Int) - 1) = (vs.length : Int) - 1 := IntWalk.i64_in _ (by omega)
  have d1 : decide ((vs.length : Int) - 1 ≥ 200) = true := decide_eq_true (by omega)
  go_wp2_with fail
  refine (HFail.out _ HW6.out).mono ?_
  rintro e w7 ⟨rfl, so5, cap5, hC5, hr5, hm5⟩
  have HC7 := Lib.hid (hC5)
  have HR7 := Lib.hid (hr5)
  have HM7 := Lib.hid (Mods.trans (Mods.of_below HW6.out) hm5)
  have Ha7 := Lib.hid (mkeep hm5 Ha6.out (by omega))
  have hlc := (Array.getElem?_eq_some_iff.1 HC7.out).1
  clear hC5 hr5 hm5
  have c15 : w7.cell? ⟨c, 15, none⟩ = some (.bool true) := by rw [cell_of_heap HC7.out]; rfl
  have d2 : decide ((1 : Int) ≤ (vs.length : Int)) = true := decide_eq_true (by omega)
  go_wp2
  go_loopg [6, 7] 0 (fun gg s6 s7 wr => s6 = .slice none 0 0 ∧ s7 = .int .i64 1 ∧ wr = w7)
  case atStart => exact ⟨rfl, rfl, rfl⟩
  case round =>
  obtain ⟨rfl, rfl, hwr⟩ := hrel
  subst hwr
  go_wp2_with fail
  refine (tEnd_bad _ c h nm _ 3 cap so5 cap5 HC7.out _).mono ?_
  rintro e w8 ⟨rfl, hb⟩
  have Ha8 := Lib.hid (hkeep hb Ha7.out)
  have HR8 := Lib.hid (ownsRow_ext (below_ext hb (Nat.le_refl _)) HR7.out)
  have HM8 := Lib.hid (mods_next HM7.out hb)
  clear hb c15
  have hya : w.heap.size < w8.heap.size := (Array.getElem?_eq_some_iff.1 Ha8.out).1
  obtain ⟨a0, a1, a2, a3, a4, a5, a6, a7, a8, a9, a10, a11⟩ := cells12 Ha8.out
  obtain ⟨fa0, fa1, fa2, fa3, fa4, fa5, fa6, fa7, fa8, fa9, fa10, fa11⟩ := froz12 Ha8.out
  go_wp2
  refine bodyPost_ret (by simp [results, Tryz.results31, go_sem, hya, a0, a1, a2, a3, a4, a5, a6, a7, a8, a9, a10, a11]; first | done | rfl) rfl ?_
  exact act_end (A := [strV ⟨#[116, 111, 111, 32, 109, 97, 110, 121, 32, 114, 101, 115, 117, 108, 116, 115, 32, 116, 111, 32, 117, 110, 112, 97, 99, 107]⟩]) (K := []) (B := w.heap.size + 1) (ownsRow_base HR8.out (by omega)) (World.ownsRow_nil _ _ _ _) HM8.out (Nat.le_refl _) (Nat.lt_succ_self _) _ _ _ _ _ _ _ _ _ _ _ _
set_option maxRecDepth 100000 in
set_option maxHeartbeats 2000000 in
theorem tUnpack_ok (w : World) (c h : Nat) (nm : ByteArray) (ga cap : Nat) (HC : w.heap[c]? = some (oCt h nm (.slice (some ⟨ga, 0, none⟩) 3 cap))) {base n : Nat} {M : LH} {AA : List (List V)} {O : Nat → Prop} (hP : PHp base n w h M AA O) {ti : Nat} (hti : ti ≤ 100000) {o : LO} {A : List V} (hM : M[ti]? = some o) (hA : AA[ti]? = some A) (h4 : o.kind = 4) (hl : A.length ≤ 1000) (vs : List V) (hvl : vs.length ≤ 300) (hX : Vals w (.slice (some ⟨ga, 0, none⟩) 3 cap) [⟨4, 0, 0, ⟨#[]⟩, (ti : Int) + 1⟩, ⟨2, 1, 1, ⟨#[]⟩, 0⟩, ⟨2, (vs.length : Nat), 1, ⟨#[]⟩, 0⟩]) (hm : vs.length ≤ 200)
    (HGG : ∀ W, Below w.heap.size w W → ∀ (j : Nat) (v : V), vs[j]? = some v → Calls Tryz.prog 21 #[.pointer (some ⟨h, 0, none⟩), tabA ti, .agg #[.int .i64 2, .int .i64 ((j : Int) + 1), .int .i64 1, .string ⟨#[]⟩, .int .i64 0]] W (fun e w' => e = .returned (.tuple #[.agg #[.int .i64 v.k, .int .i64 v.p, .int .i64 v.q, .string v.s, .int .i64 v.r], .int .i64 0]) ∧ Below W.heap.size W w')) :
    Calls Tryz.prog 31 #[.pointer (some ⟨c, 0, none⟩)] w (ActPost (fun k => k = c) w 1 0 V.nil vs ⟨#[]⟩ 0 0 []) := by
  have hcl := (Array.getElem?_eq_some_iff.1 HC).1
  have HTab := Lib.hid (fun W (hb : Below w.heap.size w W) => tTable_c W c h nm _ 3 cap _ (hkeep hb HC) (Vals.below hX hb) (by simp) 0 0 rfl 0 0 ⟨#[]⟩ ((ti : Int) + 1) rfl none 0 0)
  have HOI := Lib.hid (fun W (x : Int) (h1 : -2147483647 ≤ x) (h2 : x ≤ 2147483647) => pOfInt_top W x h1 h2)
  have HI1 := Lib.hid (fun W (hb : Below w.heap.size w W) (so2 : Option Addr) => tInt_ok W c h nm _ 3 cap _ (hkeep hb HC) (Vals.below hX hb) (by simp) 1 1 rfl 1 ⟨#[]⟩ 0 rfl (valid_num (by decide) (by decide)) so2 1 1)
  have HI2 := Lib.hid (fun W (hb : Below w.heap.size w W) (so2 : Option Addr) => tInt_ok W c h nm _ 3 cap _ (hkeep hb HC) (Vals.below hX hb) (by simp) 2 2 rfl (vs.length : Nat) ⟨#[]⟩ 0 rfl (valid_num (by omega) (by omega)) so2 1 1)
  have HLen := Lib.hid (fun W (hb : Below w.heap.size w W) => tLen_c W c h nm _ (hkeep hb HC) (hP.below hb) hti hM hA h4)
  have HCC := Lib.hid (HC)
  have HGet := Lib.hid (fun W (hb : Below w.heap.size w W) (j : Nat) (v : V) (hv : vs[j]? = some v) => tGetX_c W c h nm _ 3 cap (hkeep hb HC) ti j (by have := (List.getElem?_eq_some_iff.1 hv).1; omega) ((j : Int) + 1) rfl v.k v.p v.q v.s v.r (fun W' hb' => HGG W' (below_next hb hb') j v hv))
  have HEnd := Lib.hid (fun W (hb : Below w.heap.size w W) so2 cap2 (hA2 : Vals W (.slice so2 vs.length cap2) vs) => tEnd_c W c h nm _ (hkeep hb HC) so2 vs.length cap2 vs hA2 (by omega))
  clear HC hX hP hM hA HGG
  go_enter Tryz.func31, Tryz.ntmps31
  go_wp2_with fail
  refine (HTab.out _ (below1 _ _)).mono ?_
  rintro e w1 ⟨rfl, hb⟩
  have Ha1 := Lib.hid (hkeep hb (heap1 w oAc))
  have HW1 := Lib.hid (below_next (below1 _ _) hb)
  have hz1 := hb.size
  try simp at hz1
  clear hb
  go_wp2_with fail
  refine (HOI.out _ 1 (by decide) (by decide)).mono ?_
  rintro e w2 ⟨rfl, hb⟩
  have Ha2 := Lib.hid (hkeep hb (heap1_old Ha1.out _))
  have Ht2 := Lib.hid (hkeep hb (heap1 w1 (oV 4 0 0 ⟨#[]⟩ ((ti : Int) + 1))))
  have HW2 := Lib.hid (below_next (HW1.out.alloc HW1.out.size (oV 4 0 0 ⟨#[]⟩ ((ti : Int) + 1))) hb)
  clear hb
  go_wp2_with fail
  refine (HI1.out _ (HW2.out.alloc HW2.out.size _) _).mono ?_
  rintro e w3 ⟨rfl, hb⟩
  have Ha3 := Lib.hid (hkeep hb (heap1_old Ha2.out _))
  have Ht3 := Lib.hid (hkeep hb (heap1_old Ht2.out _))
  have HW3 := Lib.hid (below_next (HW2.out.alloc HW2.out.size _) hb)
  have hyt3 : w1.heap.size < w3.heap.size := (Array.getElem?_eq_some_iff.1 Ht3.out).1
  clear hb
  obtain ⟨t0, t1, t2, t3, t4⟩ := cells5 Ht3.out
  obtain ⟨ft0, ft1, ft2, ft3, ft4⟩ := froz5 Ht3.out
  go_wp2_with fail
  refine (HLen.out _ HW3.out).mono ?_
  rintro e w4 ⟨rfl, hb⟩
  have Ha4 := Lib.hid (hkeep hb Ha3.out)
  have Ht4 := Lib.hid (hkeep hb Ht3.out)
  have HW4 := Lib.hid (below_next HW3.out hb)
  clear hb t0 t1 t2 t3 t4 ft0 ft1 ft2 ft3 ft4
  go_wp2_with fail
  refine (HOI.out _ _ (by omega) (by omega)).mono ?_
  rintro e w5 ⟨rfl, hb⟩
  have Ha5 := Lib.hid (hkeep hb Ha4.out)
  have Ht5 := Lib.hid (hkeep hb Ht4.out)
  have HW5 := Lib.hid (below_next HW4.out hb)
  clear hb
  go_wp2_with fail
  refine (HI2.out _ (HW5.out.alloc HW5.out.size _) _).mono ?_
  rintro e w6 ⟨rfl, hb⟩
  have Ha6 := Lib.hid (hkeep hb (heap1_old Ha5.out _))
  have Ht6 := Lib.hid (hkeep hb (heap1_old Ht5.out _))
  have HW6 := Lib.hid (below_next (HW5.out.alloc HW5.out.size _) hb)
  have hz6 := HW6.out.size
  have hya6 : w.heap.size < w6.heap.size := (Array.getElem?_eq_some_iff.1 Ha6.out).1
  have hyt6 : w1.heap.size < w6.heap.size := (Array.getElem?_eq_some_iff.1 Ht6.out).1
  clear hb
  have e1 : IntKind.i64.wrap ((vs.length : Int) - 1) = (vs.length : Int) - 1 := IntWalk.i64_in _ (by omega)
  have d1 : decide ((vs.length : Int) - 1 ≥ 200) = false := decide_eq_false (by omega)
  go_wp2
  go_loopg [6, 7] vs.length (fun gg s6 s7 wr => ∃ i so2 cap2, i + gg = vs.length ∧ s7 = .int .i64 ((i : Int) + 1) ∧ s6 = .slice so2 i cap2 ∧ Hid (UpR w6 vs i (.slice so2 i cap2) wr))
  case atStart => exact ⟨0, none, 0, by omega, rfl, rfl, World.ownsRow_nil _ _ _ _, Below.refl _ _⟩
  case round =>
    obtain ⟨i, so2, cap2, hi, rfl, rfl, HR⟩ := hrel
    have HRo := Lib.hid (HR.out.1)
    have HBx := Lib.hid (HR.out.2)
    have HB := Lib.hid (below_next HW6.out HBx.out)
    have HAr := Lib.hid (hkeep HBx.out Ha6.out)
    have HTr := Lib.hid (hkeep HBx.out Ht6.out)
    have hzr := HBx.out.size
    have hyt := (Array.getElem?_eq_some_iff.1 HTr.out).1
    have hyr := (Array.getElem?_eq_some_iff.1 HAr.out).1
    clear HR
    by_cases hlt : i < vs.length
    · have d2 : decide ((i : Int) + 1 ≤ (vs.length : Int)) = true := decide_eq_true (by omega)
      obtain ⟨v, hv⟩ : ∃ v, vs[i]? = some v := ⟨_, List.getElem?_eq_getElem (by omega)⟩
      have HGV := Lib.hid (HGet.out wr HB.out i v hv)
      have HV := Lib.hid (hv)
      have HC0 := Lib.hid (hkeep HB.out HCC.out)
      have hclr := (Array.getElem?_eq_some_iff.1 HC0.out).1
      have c15 : wr.cell? ⟨c, 15, none⟩ = some (.bool false) := by rw [cell_of_heap HC0.out]; rfl
      clear hv
      obtain ⟨vk, vp, vq, vt, vr⟩ := v
      obtain ⟨t0, t1, t2, t3, t4⟩ := cells5 HTr.out
      obtain ⟨ft0, ft1, ft2, ft3, ft4⟩ := froz5 HTr.out
      go_wp2_with fail
      refine (HGV.out).mono ?_
      rintro e w10 ⟨rfl, hb⟩
      have HRo2 := Lib.hid (ownsRow_ext (below_ext hb (Nat.le_refl _)) HRo.out)
      have HB2 := Lib.hid (below_next HBx.out hb)
      have hz2 := hb.size
      clear hb t0 t1 t2 t3 t4 ft0 ft1 ft2 ft3 ft4 c15
      go_wp2_with (at_builtin; refine wpList_append_vals rfl (.tmp 40) (.tmp 45) rfl w6.heap.size (.slice so2 i cap2) i _ rfl (ownsRow_ext (below_ext (below1 _ _) (Nat.le_refl _)) HRo2.out) _ [⟨vk, vp, vq, vt, vr⟩] rfl (vals_one _ ⟨vk, vp, vq, vt, vr⟩) (by simp; omega) (by simp; omega) ?_)
      intro so5 cap5 w5 hown hgrow
      have HO5 := Lib.hid (hown)
      have HB5 := Lib.hid (below_grown (HB2.out.alloc HB2.out.size _) hgrow (by simp; omega) (fun b hb => (ownBlock_lt HRo2.out hb).1))
      clear hown hgrow
      go_wp2
      go_roundg (vs.length - (i + 1))
      case measure => omega
      case rel =>
        refine ⟨i + 1, so5, cap5, by omega, by push_cast; rfl, rfl, ?_, HB5.out⟩
        rw [List.take_add_one, HV.out, Option.toList_some, rowV_append]
        exact HO5.out
    · have hii : i = vs.length := by omega
      subst hii
      have d2 : decide ((vs.length : Int) + 1 ≤ (vs.length : Int)) = false := decide_eq_false (by omega)
      have hrow : Vals wr (.slice so2 vs.length cap2) vs := by
        have := HRo.out
        rw [List.take_length] at this
        exact Vals.of_row this
      go_wp2_with fail
      refine (HEnd.out _ HB.out so2 cap2 hrow).mono ?_
      rintro e w20 ⟨so3, cap3, rfl, hr, hb⟩
      have HR3 := Lib.hid (hr)
      have Ha20 := Lib.hid (hkeep hb HAr.out)
      have HW20 := Lib.hid (below_next HB.out hb)
      clear hr hb hrow
      have hya : w.heap.size < w20.heap.size := (Array.getElem?_eq_some_iff.1 Ha20.out).1
      obtain ⟨a0, a1, a2, a3, a4, a5, a6, a7, a8, a9, a10, a11⟩ := cells12 Ha20.out
      obtain ⟨fa0, fa1, fa2, fa3, fa4, fa5, fa6, fa7, fa8, fa9, fa10, fa11⟩ := froz12 Ha20.out
      go_wp2
      refine bodyPost_ret (by simp [results, Tryz.results31, go_sem, hya, a0, a1, a2, a3, a4, a5, a6, a7, a8, a9, a10, a11]; first | done | rfl) rfl ?_
      exact act_end (A := vs) (K := []) (B := w.heap.size + 1) (ownsRow_base HR3.out (by omega)) (World.ownsRow_nil _ _ _ _) (Mods.of_below HW20.out) (Nat.le_refl _) (Nat.lt_succ_self _) _ _ _ _ _ _ _ _ _ _ _ _
end Go.Proofs.YtpbcmlnjiocmoaaGreatDoorR
