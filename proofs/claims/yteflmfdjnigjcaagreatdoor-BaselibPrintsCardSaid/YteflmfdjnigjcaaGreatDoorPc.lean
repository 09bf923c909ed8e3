import Derived.Test.YteflmfdjnigjcaaGreatDoorTq
import Derived.Test.YteflmfdjnigjcaaGreatDoorBq
set_option linter.unusedVariables false
set_option linter.unusedSimpArgs false
set_option maxRecDepth 100000
set_option maxHeartbeats 2000000
namespace Go.Proofs.YteflmfdjnigjcaaGreatDoor
open Go.RowKit Go.Proofs.Lexi
set_option maxRecDepth 100000 in
set_option maxHeartbeats 2000000 in
theorem hName_none (w : World) (hv : Value) (k p q : Int) (s : ByteArray) (r : Int) (F : ∀ W, Below w.heap.size w W → Calls Tryz.prog 31 #[hv, .agg #[.int .i64 k, .int .i64 p, .int .i64 q, .string s, .int .i64 r]] W (PtrPost W (.pointer none))) : Calls Tryz.prog 127 #[hv, .agg #[.int .i64 k, .int .i64 p, .int .i64 q, .string s, .int .i64 r]] w (fun e w' => e = .returned (.tuple #[.string ⟨#[]⟩, .bool false]) ∧ Below w.heap.size w w') := by
  have HF := Lib.hid (F)
  clear F
  go_enter Tryz.func127, Tryz.ntmps127
  go_wp2_with fail
  refine (HF.out _ (below1 _ _)).mono ?_
  rintro e w1 ⟨rfl, hb⟩
  have HW1 := Lib.hid (below_next (below1 _ _) hb)
  clear hb
  go_wp2
  go_ret2
  exact ⟨rfl, HW1.out⟩
theorem vText_str (w : World) (p q : Int) (s : ByteArray) (r : Int) : Calls Tryz.prog 126 #[.agg #[.int .i64 3, .int .i64 p, .int .i64 q, .string s, .int .i64 r]] w (fun e w' => e = .returned (.string s) ∧ Below w.heap.size w w') := by
  go_enter Tryz.func126, Tryz.ntmps126
  go_wp2
  go_ret
  exact ⟨rfl, below1 _ _⟩
theorem pTextStr_c {base n : Nat} {w : World} {h : Nat} {M : LH} {AA : List (List V)} {O : Nat → Prop} (hP : PHp base n w h M AA O) (hn : n ≤ 1000) (s : ByteArray) (hs : s.size ≤ 4096) :
    Calls Tryz.prog 89 #[.pointer (some ⟨h, 0, none⟩), .agg #[.int .i64 3, .int .i64 0, .int .i64 0, .string s, .int .i64 0]] w (NdPost w (ndVal (strV s))) := by
  obtain ⟨⟨bo, bt, H, h1, h2, h2a, h3, h4, h5⟩, h6⟩ := id hP
  have hz : i64 0 := ⟨by decide, by decide⟩
  refine mText_val w _ 3 0 0 s 0 s hs (fun W x hb => ?_) (fun W hb => ?_) (fun W hb => vText_str W 0 0 s 0)
  · exact pHand_nil W _ 3 0 0 s 0 x 0 0 0 ⟨#[]⟩ 0 rfl (fun W' hb' => by have := pMeta_c W' h bo bt H ((h1.below hb).below hb') 3 0 0 s 0 hz; rwa [meta_zero] at this)
  · exact hName_none W _ 3 0 0 s 0 (fun W' hb' => by have := phfind_c W' h bo bt H ((h1.below hb).below hb') 3 0 0 s 0 hz; rwa [find_zero] at this)
theorem pTextTab_c {base n : Nat} {w : World} {h : Nat} {M : LH} {AA : List (List V)} {O : Nat → Prop} (hP : PHp base n w h M AA O) (hn : n ≤ 1000) (k p q : Int) (s : ByteArray) (r : Int) (hr : i64 r) (fk fp fq : Int) (fs : ByteArray) (fr : Int) (hf : fk ≠ 0) (hh : handH M ⟨k, p, q, s, r⟩ toStrN = ⟨fk, fp, fq, fs, fr⟩) :
    Calls Tryz.prog 89 #[.pointer (some ⟨h, 0, none⟩), .agg #[.int .i64 k, .int .i64 p, .int .i64 q, .string s, .int .i64 r]] w (NdCall1 w ⟨fk, fp, fq, fs, fr⟩ ⟨k, p, q, s, r⟩) := by
  obtain ⟨⟨bo, bt, H, h1, h2, h2a, h3, h4, h5⟩, h6⟩ := id hP
  refine mText_call w _ k p q s r fk fp fq fs fr hf (fun W hb => ?_)
  have := pHand_c W h bo bt H (h1.below hb) (small_up h3 hn) k p q s r hr toStrN (by decide)
  rwa [h2, hh] at this
theorem pTextStr2_c {base n : Nat} {w : World} {h : Nat} {M : LH} {AA : List (List V)} {O : Nat → Prop} (hP : PHp base n w h M AA O) (hn : n ≤ 1000) (s : ByteArray) (hs : s.size ≤ 4096) :
    Calls Tryz.prog 89 #[.pointer (some ⟨h, 0, none⟩), .agg #[.int .i64 3, .int .i64 0, .int .i64 0, .string s, .int .i64 0]] w (fun e w' => e = .returned (.agg #[.int .i64 1, .int .i64 3, .int .i64 0, .int .i64 0, .string s, .int .i64 0, .int .i64 0, .int .i64 0, .int .i64 0, .string ⟨#[]⟩, .int .i64 0, .slice none 0 0, .int .i64 0, .string ⟨#[]⟩]) ∧ Below w.heap.size w w') := by
  refine (pTextStr_c hP hn s hs).mono ?_
  rintro e w' ⟨av, rfl, hA, hb⟩
  rcases hA with ⟨_, rfl⟩ | ⟨_, _, _, h, _⟩
  · exact ⟨rfl, hb⟩
  · cases h
/-- The line of texts that lie in a block of their own. -/
theorem line_row (w : World) (base : Nat) (so : Option Addr) (cap : Nat) (A : List V) (ho : w.ownsRow base 9 1 (.slice so A.length cap) A.length (A.map fun v => .string v.s)) (hl : A.length ≤ 1000) (hs : ∀ v ∈ A, IsStr v) :
    Calls Tryz.prog 134 #[.slice so A.length cap] w (LinePost w (lineOf A)) := by
  have hlen : (Lib.join ((A.map V.s).map (·.data.toList)) [9]).length ≤ 10000000 := by
    have := join_len ((A.map V.s).map (·.data.toList)) [9] 4096 (fun x hx => by
      rw [List.mem_map] at hx
      obtain ⟨y, hy, rfl⟩ := hx
      rw [List.mem_map] at hy
      obtain ⟨v, hv, rfl⟩ := hy
      rw [size_data]
      exact (hs v hv).2.2.2.2)
    rw [List.length_map, List.length_map] at this
    have h2 : A.length * (4096 + [(9 : UInt8)].length) ≤ 1000 * 4097 := Nat.mul_le_mul hl (Nat.le_refl _)
    omega
  refine line_c w so A.length cap (lineOf A) ?_ (fun W hb => ?_)
  · have h2 : (lineOf A).size = (Lib.join ((A.map V.s).map (·.data.toList)) [9]).length := by unfold lineOf; simp [ByteArray.size]
    omega
  · by_cases hA : A = []
    · subst hA
      refine (Tryz.strings_Join_none so cap ⟨#[9]⟩ W).mono ?_
      rintro e w' ⟨rfl, rfl⟩
      exact ⟨rfl, Below.refl _ _⟩
    · obtain ⟨h1, h2⟩ := ho
      rcases h2 with ⟨h3, h4⟩ | ⟨g, c2, cur, h3, h4, h5, h6, h7, h8, h9⟩
      · exact absurd (List.eq_nil_of_length_eq_zero h4) hA
      · injection h3 with h3 _ h10
        subst h3 h10
        have hcells : ∀ (j : Nat) x, (A.map V.s)[j]? = some x → w.cell? ⟨g, j, none⟩ = some (.string x) := fun j x hx => by
          rw [cell_of_heap h5, ← Array.getElem?_toList]
          have hj : j < A.length := by have := (List.getElem?_eq_some_iff.1 hx).1; rwa [List.length_map] at this
          have h10 : (cur.toList.take (A.length * 1))[j]? = some (.string x) := by
            rw [h9, List.getElem?_map]
            rw [List.getElem?_map] at hx
            cases hv : A[j]? with
            | none => rw [hv] at hx; cases hx
            | some v => rw [hv] at hx; injection hx with hx; rw [← hx]; rfl
          rwa [List.getElem?_take, if_pos (by omega)] at h10
        have := join_c w g cap (A.map V.s) (fun h => hA (List.map_eq_nil_iff.1 h)) hcells (Array.getElem?_eq_some_iff.1 h5).1 (by rw [List.length_map]; exact h6) (by rw [List.length_map]; exact hl) ⟨#[9]⟩ (by show (Lib.join _ [9]).length ≤ _; omega) W hb
        rw [List.length_map] at this
        exact this
set_option maxRecDepth 100000 in
set_option maxHeartbeats 2000000 in
theorem show_line (w : World) (c h : Nat) (nm : ByteArray) (so : Option Addr) (k cap : Nat) (A : List V) (HC : w.heap[c]? = some (oClH h nm (.slice so k cap))) (hA : Vals w (.slice so k cap) A) (hl : A.length ≤ 1000) {base n0 : Nat} {M : LH} {AA : List (List V)} {O : Nat → Prop} (hP : PHp base n0 w h M AA O) (hn : n0 ≤ 1000) (hs : ∀ v ∈ A, IsStr v) :
    Calls Tryz.prog 91 #[.pointer (some ⟨c, 0, none⟩)] w (LinePost w (lineOf A)) := by
  have hk : k = A.length := by obtain ⟨_, _, e, _⟩ := hA; injection e
  subst hk
  obtain ⟨i1, hi1, hi1a, hi1b, hi1c⟩ := info_parts infoStr
  obtain ⟨T, hT⟩ : ∃ T, T = lineOf A := ⟨_, rfl⟩
  rw [← hT]
  have HTT := Lib.hid (hT)
  clear hT
  have HA := Lib.hid (hA)
  have HP := Lib.hid (hP)
  have HS := Lib.hid (hs)
  have HCC := Lib.hid (HC)
  have hcl := (Array.getElem?_eq_some_iff.1 HC).1
  obtain ⟨c0, c1, c2, c3, c4, c5, c6, c7, c8, c9, c10, c11, c12, c13, c14, c15⟩ := cells16 (heap1_old HC oAc)
  clear hA hP hs HC
  go_enter Tryz.func91, Tryz.ntmps91
  go_wp2
  clear c0 c1 c2 c3 c4 c5 c6 c7 c8 c9 c10 c11 c12 c13 c14 c15
  go_loopg [3, 12] A.length (fun gg s3 s12 wr => ∃ i so2 cap2, i + gg = A.length ∧ s12 = .int .i64 (i : Int) ∧ s3 = .slice so2 i cap2 ∧ Hid (ShowR w c (oClH h nm (.slice so A.length cap)) A i (.slice so2 i cap2) wr))
  case atStart => exact ⟨0, none, 0, by omega, rfl, rfl, World.ownsRow_nil _ _ _ _, below1 _ _, heap1 _ _, heap1_old HCC.out _⟩
  case round =>
    obtain ⟨i, so2, cap2, hi, rfl, rfl, HR⟩ := hrel
    by_cases hlt : i < A.length
    · obtain ⟨v, hv⟩ : ∃ v, A[i]? = some v := ⟨_, List.getElem?_eq_getElem hlt⟩
      have hvs := HS.out v (List.mem_of_getElem? hv)
      obtain ⟨vk, vp, vq, s, vr⟩ := v
      obtain ⟨h1, h2, h3, h4, hsz⟩ := hvs
      have h1 : vk = 3 := h1
      have h2 : vp = 0 := h2
      have h3 : vq = 0 := h3
      have h4 : vr = 0 := h4
      subst h1 h2 h3 h4
      have hsz : s.size ≤ 4096 := hsz
      have hne : A ≠ [] := fun h => by rw [h] at hlt; simp at hlt
      obtain ⟨g1, o1, rfl⟩ := Vals.some_of HA.out hne
      clear hne
      have HB := Lib.hid (HR.out.2.1)
      obtain ⟨hg1, b0, b1, b2, b3, b4⟩ : g1 < wr.heap.size ∧ wr.cell? ⟨g1, o1 + i * 5, none⟩ = some (.int .i64 3) ∧ wr.cell? ⟨g1, o1 + i * 5 + 1, none⟩ = some (.int .i64 0) ∧ wr.cell? ⟨g1, o1 + i * 5 + 2, none⟩ = some (.int .i64 0) ∧ wr.cell? ⟨g1, o1 + i * 5 + 3, none⟩ = some (.string s) ∧ wr.cell? ⟨g1, o1 + i * 5 + 4, none⟩ = some (.int .i64 0) := Vals.at_ (Vals.below HA.out HB.out) hv
      have HV := Lib.hid (hv)
      have HRow := Lib.hid (HR.out.1)
      have HAc := Lib.hid (HR.out.2.2.1)
      have HC0 := Lib.hid (HR.out.2.2.2)
      have HSZ := Lib.hid (hsz)
      clear hv HR hsz
      have hzr := HB.out.size
      go_upto_region 5 with fail
      obtain ⟨W1, hW1⟩ : ∃ W1, W1 = wr.alloc (oV 3 0 0 s 0) := ⟨_, rfl⟩
      have HB1 := Lib.hid ((show Below w.heap.size w W1 by rw [hW1]; exact HB.out.alloc HB.out.size _))
      have HV1 := Lib.hid ((show W1.heap[wr.heap.size]? = some (oV 3 0 0 s 0) by rw [hW1]; exact heap1 _ _))
      have HC1 := Lib.hid ((show W1.heap[c]? = some (oClH h nm (.slice (some ⟨g1, o1, none⟩) A.length cap)) by rw [hW1]; exact heap1_old HC0.out _))
      have HRo1 := Lib.hid ((show W1.ownsRow (w.heap.size + 1) 9 1 (.slice so2 i cap2) i ((A.take i).map fun v => .string v.s) by rw [hW1]; exact ownsRow_ext (below_ext (below1 _ _) (Nat.le_refl _)) HRow.out))
      have HAc1 := Lib.hid ((show W1.heap[w.heap.size]? = some oAc by rw [hW1]; exact heap1_old HAc.out _))
      have hz1 : wr.heap.size < W1.heap.size := by rw [hW1]; simp
      try rw [show wr.alloc (oV 3 0 0 s 0) = W1 from hW1.symm]
      clear hW1 b0 b1 b2 b3 b4 hg1
      have HT := Lib.hid (fun W (hb : Below W1.heap.size W1 W) => pTextStr2_c ((HP.out.below HB1.out).below hb) hn s HSZ.out)
      go_cut [6] (fun s6 wx => ∃ nb, s6 = .pointer (some ⟨nb, 0, none⟩) ∧ Hid (wx.heap[nb]? = some (oNdS s) ∧ Below W1.heap.size W1 wx ∧ W1.heap.size ≤ nb))
      case first =>
        have SO := Lib.hid (fun (W : World) (hb : Below W1.heap.size W1 W) => (show W.cell? ⟨c, 0, none⟩ = some (.pointer (some ⟨h, 0, none⟩)) ∧ W.cell? ⟨wr.heap.size, 0, none⟩ = some (.int .i64 3) ∧ W.cell? ⟨wr.heap.size, 1, none⟩ = some (.int .i64 0) ∧ W.cell? ⟨wr.heap.size, 2, none⟩ = some (.int .i64 0) ∧ W.cell? ⟨wr.heap.size, 3, none⟩ = some (.string s) ∧ W.cell? ⟨wr.heap.size, 4, none⟩ = some (.int .i64 0) ∧ Hid (Below W1.heap.size W1 W) from ⟨(cells16 (hkeep hb HC1.out)).1, (cells5 (hkeep hb HV1.out)).1, (cells5 (hkeep hb HV1.out)).2.1, (cells5 (hkeep hb HV1.out)).2.2.1, (cells5 (hkeep hb HV1.out)).2.2.2.1, (cells5 (hkeep hb HV1.out)).2.2.2.2, Lib.hid hb⟩))
        have BA := Lib.hid (fun (W : World) (o : Obj) (hb : Below W1.heap.size W1 W) => (show Below W1.heap.size W1 (W.alloc o) from hb.alloc hb.size o))
        have BD := Lib.hid (fun (W : World) (hb : Below W1.heap.size W1 W) => (show Below W1.heap.size W1 W.drew from hb.drew))
        have B14 := Lib.hid (fun (W : World) (b : Nat) (x0 x1 x2 x3 x4 x5 x6 x7 x8 x9 x10 x11 x12 x13 : Value) (hb : Below W1.heap.size W1 W) (hbb : W1.heap.size ≤ b) => below_fourteen hb hbb x0 x1 x2 x3 x4 x5 x6 x7 x8 x9 x10 x11 x12 x13)
        have hbR : Below W1.heap.size W1 W1 := Below.refl _ _
        have hbD : Below W1.heap.size W1 W1.drew := (Below.refl _ _).drew
        go_region_held3 (fun w' => w'.cell? ⟨c, 0, none⟩ = some (.pointer (some ⟨h, 0, none⟩)) ∧ w'.cell? ⟨wr.heap.size, 0, none⟩ = some (.int .i64 3) ∧ w'.cell? ⟨wr.heap.size, 1, none⟩ = some (.int .i64 0) ∧ w'.cell? ⟨wr.heap.size, 2, none⟩ = some (.int .i64 0) ∧ w'.cell? ⟨wr.heap.size, 3, none⟩ = some (.string s) ∧ w'.cell? ⟨wr.heap.size, 4, none⟩ = some (.int .i64 0) ∧ Hid (Below W1.heap.size W1 w'))
          (with_reducible refine SO.out _ ?_; repeat (first | with_reducible assumption | (with_reducible refine BA.out _ _ ?_) | (with_reducible refine BD.out _ ?_) | (with_reducible refine B14.out _ _ _ _ _ _ _ _ _ _ _ _ _ _ _ _ ?_ ?_) | omega))
          (first | (go_at_call 89; (with_reducible refine (HT.out _ (prj6a (by assumption))).mono ?_); rintro e nw1 ⟨rfl, hb⟩; have hb1 := below_next (prj6a (by assumption)) hb; have hz1b := hb1.size; (first | ((with_reducible have Hza := Lib.hid (hkeep hb (heap_newD W1 oNd))); have hza1 := (Array.getElem?_eq_some_iff.1 Hza.out).1; obtain ⟨z0, z1, z2, z3, z4, z5, z6, z7, z8, z9, z10, z11, z12, z13⟩ := cells14 Hza.out; obtain ⟨fz0, fz1, fz2, fz3, fz4, fz5, fz6, fz7, fz8, fz9, fz10, fz11, fz12, fz13⟩ := froz14 Hza.out) | ((with_reducible have Hza := Lib.hid (hkeep hb (heap_new W1 oNd))); have hza1 := (Array.getElem?_eq_some_iff.1 Hza.out).1; obtain ⟨z0, z1, z2, z3, z4, z5, z6, z7, z8, z9, z10, z11, z12, z13⟩ := cells14 Hza.out; obtain ⟨fz0, fz1, fz2, fz3, fz4, fz5, fz6, fz7, fz8, fz9, fz10, fz11, fz12, fz13⟩ := froz14 Hza.out) | skip); clear hb))
        all_goals
          go_wp2_with fail
          go_meet
          first
          | (with_reducible refine ⟨_, rfl, Lib.hid ⟨heap_new _ _, hb1.alloc hb1.size _, hb1.size⟩⟩)
          | (refine ⟨_, rfl, Lib.hid ⟨heap14_at Hza.out _ _ _ _ _ _ _ _ _ _ _ _ _ _, below_fourteen hb1 (Nat.le_refl _) _ _ _ _ _ _ _ _ _ _ _ _ _ _, Nat.le_refl _⟩⟩)
      case rest =>
        obtain ⟨nb, rfl, hx⟩ := hcut
        have HN2 := Lib.hid (hx.out.1)
        have HB2 := Lib.hid (below_next HB1.out hx.out.2.1)
        have HRo2 := Lib.hid (ownsRow_ext (below_ext hx.out.2.1 (Nat.le_refl _)) HRo1.out)
        have HAc2 := Lib.hid (hkeep hx.out.2.1 HAc1.out)
        have HC2 := Lib.hid (hkeep hx.out.2.1 HC1.out)
        have hz2 := hx.out.2.1.size
        have hnl := (Array.getElem?_eq_some_iff.1 HN2.out).1
        clear hx
        obtain ⟨n0, n1, n2, n3, n4, n5, n6, n7, n8, n9, n10, n11, n12, n13⟩ := cells14 HN2.out
        obtain ⟨xs, hxs⟩ : ∃ xs, xs = (A.take i).map (fun v : V => Value.string v.s) := ⟨_, rfl⟩
        rw [← hxs] at HRo2
        have HXS := Lib.hid (hxs)
        clear hxs
        go_wp2_with (at_builtin; refine wpList_append_own_at _ rfl (.tmp 27) (.tmp 31) 22 rfl (w.heap.size + 1) 9 i1 _ 1 16 Tryz.underlying22 hi1 hi1a hi1b hi1c rfl (by decide) (.slice so2 i cap2) i xs rfl ?A _ 1 1 [.string s] rfl rfl ?B ?C ?D ?E ?F ?G)
        case A => exact ownsRow_ext (below_ext (below1 _ _) (Nat.le_refl _)) HRo2.out
        case C => rfl
        case D => unfold maxLen; omega
        case E => omega
        case F => have := HB2.out.size; omega
        case G =>
          intro v' w5 hown hgrow _ hat
          obtain ⟨rb', cap', rfl⟩ := slice_shape hown (by omega)
          have hlo : ∀ b, (Value.slice so2 i cap2).ownBlock = some b → w.heap.size + 1 ≤ b := fun b hb => (ownBlock_lt HRo2.out hb).1
          have HB5 := Lib.hid (below_grown (HB2.out.alloc HB2.out.size _) hgrow (by have := HB2.out.size; simp; omega) (fun b hb => by have := hlo b hb; omega))
          have hcw : c < wc.heap.size := (Array.getElem?_eq_some_iff.1 HC2.out).1
          have haw : w.heap.size < wc.heap.size := (Array.getElem?_eq_some_iff.1 HAc2.out).1
          have HC5 := Lib.hid (hkeep HB5.out HCC.out)
          have HAc5 := Lib.hid ((hgrow.block w.heap.size (by simp; omega) (fun e => by have := hlo _ e.symm; omega)).trans (heap1_old HAc2.out _))
          have HO5 := Lib.hid (hown)
          clear hown hgrow hat hlo n0 n1 n2 n3 n4 n5 n6 n7 n8 n9 n10 n11 n12 n13
          go_wp2
          go_roundg (A.length - (i + 1))
          case measure => omega
          case rel =>
            refine ⟨i + 1, some ⟨rb', 0, none⟩, cap', by omega, by push_cast; rfl, rfl, ?_, HB5.out, HAc5.out, HC5.out⟩
            have := HO5.out
            rwa [show (A.take (i + 1)).map (fun v : V => Value.string v.s) = xs ++ [.string s] from by rw [HXS.out, List.take_add_one, HV.out, List.map_append]; rfl]
    · have hii : i = A.length := by omega
      subst hii
      have HB := Lib.hid (HR.out.2.1)
      have HRo := Lib.hid (HR.out.1)
      have HAc := Lib.hid (HR.out.2.2.1)
      clear HR
      have hline : ∀ W, Below wr.heap.size wr W → Calls Tryz.prog 134 #[.slice so2 A.length cap2] W (LinePost W T) := fun W hb => by
        rw [HTT.out]
        exact line_row W (w.heap.size + 1) so2 cap2 A (ownsRow_ext (below_ext hb (Nat.le_refl _)) (by have := HRo.out; rwa [List.take_length] at this)) hl HS.out
      have HL := Lib.hid (hline)
      clear hline
      go_wp2_with fail
      refine (HL.out _ (Below.refl _ _)).mono ?_
      rintro e w1 ⟨⟨so1, cap1, sk1, ck1, rfl, hr, hk⟩, hb⟩
      have HR1 := Lib.hid (hr)
      have HK1 := Lib.hid (hk)
      have HA1 := Lib.hid (hkeep hb HAc.out)
      have HW1 := Lib.hid (below_next HB.out hb)
      have hlt1 := (Array.getElem?_eq_some_iff.1 HAc.out).1
      have hzw := HB.out.size
      clear hr hk hb
      have hya : w.heap.size < w1.heap.size := (Array.getElem?_eq_some_iff.1 HA1.out).1
      obtain ⟨a0, a1, a2, a3, a4, a5, a6, a7, a8, a9, a10, a11⟩ := cells12 HA1.out
      obtain ⟨fa0, fa1, fa2, fa3, fa4, fa5, fa6, fa7, fa8, fa9, fa10, fa11⟩ := froz12 HA1.out
      go_wp2
      refine bodyPost_ret (by simp [results, Tryz.results91, go_sem, hya, a0, a1, a2, a3, a4, a5, a6, a7, a8, a9, a10, a11]; first | done | rfl) rfl ?_
      exact ⟨⟨so1, cap1, sk1, ck1, rfl, ownsRow_base (row_twelve HR1.out (row_away HR1.out hlt1) _ _ _ _ _ _ _ _ _ _ _ _) hzw, ownsRow_base (row_twelve HK1.out (row_away HK1.out hlt1) _ _ _ _ _ _ _ _ _ _ _ _) hzw⟩, below_twelve HW1.out (Nat.le_refl _) _ _ _ _ _ _ _ _ _ _ _ _⟩
end Go.Proofs.YteflmfdjnigjcaaGreatDoor
