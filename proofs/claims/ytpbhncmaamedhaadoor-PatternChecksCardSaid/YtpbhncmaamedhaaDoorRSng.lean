import Derived.Test.YtpbhncmaamedhaaDoorRSpc
namespace Go.Proofs.YtpbhncmaamedhaaDoor
open Go.RowKit Go.Proofs.Lexi

/-! The reference's readSingle (51). -/
def SgPost (w0 : World) (ob : Nat) (anc fin : Bool) (k : Nat) (R : Except Nat (St × Nat)) (e : Ending) (w' : World) : Prop :=
  match R with
  | .error _ => e = .returned (.tuple #[.int .i64 0, .bool false]) ∧ Below w0.heap.size w0 w'
  | .ok (s', m) => e = .returned (.tuple #[.int .i64 ((k + m : Nat) : Int), .bool true]) ∧ PPost w0 ob anc fin s' w'
section
variable {w0 w' : World} {ob : Nat} {anc fin : Bool} {k : Nat} {s' : St} {R : Except Nat (St × Nat)}
theorem sg_err {c : Nat} (hR : R = .error c) (h : Below w0.heap.size w0 w') : SgPost w0 ob anc fin k R (.returned (.tuple #[.int .i64 0, .bool false])) w' := by subst hR; exact ⟨rfl, h⟩
theorem sg_ok {m : Nat} {n : Int} (hR : R = .ok (s', m)) (hn : n = ((k + m : Nat) : Int)) (h : PPost w0 ob anc fin s' w') : SgPost w0 ob anc fin k R (.returned (.tuple #[.int .i64 n, .bool true])) w' := by subst hR hn; exact ⟨rfl, h⟩
end
theorem quant_ways (p : ByteArray) (nx : Nat) : (p.size ≤ nx) ∨ (∃ h : nx < p.size, ((p[nx].toNat : Int) == 42) = false ∧ ((p[nx].toNat : Int) == 43) = false ∧ ((p[nx].toNat : Int) == 45) = false ∧ ((p[nx].toNat : Int) == 63) = false ∧ isQ p[nx].toNat = false)
    ∨ (∃ h : nx < p.size, ((p[nx].toNat : Int) == 42) = true ∧ isQ p[nx].toNat = true) ∨ (∃ h : nx < p.size, ((p[nx].toNat : Int) == 42) = false ∧ ((p[nx].toNat : Int) == 43) = true ∧ isQ p[nx].toNat = true)
    ∨ (∃ h : nx < p.size, ((p[nx].toNat : Int) == 42) = false ∧ ((p[nx].toNat : Int) == 43) = false ∧ ((p[nx].toNat : Int) == 45) = true ∧ isQ p[nx].toNat = true)
    ∨ (∃ h : nx < p.size, ((p[nx].toNat : Int) == 42) = false ∧ ((p[nx].toNat : Int) == 43) = false ∧ ((p[nx].toNat : Int) == 45) = false ∧ ((p[nx].toNat : Int) == 63) = true ∧ isQ p[nx].toNat = true) := by
  by_cases h : nx < p.size
  · right
    have e : ∀ j : Nat, ((p[nx].toNat : Int) == (j : Int)) = (p[nx].toNat == j) := fun j => by rw [Bool.eq_iff_iff]; simp; omega
    have e1 := e 42
    have e2 := e 43
    have e3 := e 45
    have e4 := e 63
    simp only [Int.cast_ofNat_Int] at e1 e2 e3 e4
    cases h1 : p[nx].toNat == 42 with
    | true => exact .inr (.inl ⟨h, e1.trans h1, by simp only [isQ, h1, Bool.true_or]⟩)
    | false =>
      cases h2 : p[nx].toNat == 43 with
      | true => exact .inr (.inr (.inl ⟨h, e1.trans h1, e2.trans h2, by simp only [isQ, h2, Bool.true_or, Bool.or_true]⟩))
      | false =>
        cases h3 : p[nx].toNat == 45 with
        | true => exact .inr (.inr (.inr (.inl ⟨h, e1.trans h1, e2.trans h2, e3.trans h3, by simp only [isQ, h3, Bool.true_or, Bool.or_true]⟩)))
        | false =>
          cases h4 : p[nx].toNat == 63 with
          | true => exact .inr (.inr (.inr (.inr ⟨h, e1.trans h1, e2.trans h2, e3.trans h3, e4.trans h4, by simp only [isQ, h4, Bool.or_true]⟩)))
          | false => exact .inl ⟨h, e1.trans h1, e2.trans h2, e3.trans h3, e4.trans h4, by simp only [isQ, h1, h2, h3, h4, Bool.or_false]⟩
  · exact .inl (by omega)
/-- The item that is being read: its cells in block xb, its marks in block sb. -/
structure XSt (w W : World) (xb sb : Nat) (S : Nat → Bool) (q : Nat) : Prop where
  below : Below w.heap.size w W
  hx : W.heap[xb]? = some (.cells #[.int .i64 1, .slice (some ⟨sb, 0, none⟩) 256 256, .int .u8 q, .int .u8 0, .int .u8 0, .int .i64 0] 114 (0, 0))
  hs : RSet W sb S
  x0 : w.heap.size ≤ xb
  s0 : w.heap.size ≤ sb
  ne : xb ≠ sb
theorem XSt.start (w : World) : XSt w ((w.alloc (.cells (setC noMark) 4)).alloc (.cells #[.int .i64 1, .slice (some ⟨w.heap.size, 0, none⟩) 256 256, .int .u8 0, .int .u8 0, .int .u8 0, .int .i64 0] 114)) (w.heap.size + 1) w.heap.size noMark 0 := by
  refine ⟨((Below.refl _ _).alloc (Nat.le_refl _) _).alloc (by simp) _, ?_, ?_, by omega, Nat.le_refl _, by omega⟩
  · have := heap_new (w.alloc (.cells (setC noMark) 4)) (.cells #[.int .i64 1, .slice (some ⟨w.heap.size, 0, none⟩) 256 256, .int .u8 0, .int .u8 0, .int .u8 0, .int .i64 0] 114)
    simpa using this
  · unfold RSet
    rw [Below.heap_alloc _ _ _ (by simp), heap_new]
theorem XSt.quant {w W : World} {xb sb : Nat} {S : Nat → Bool} (h : XSt w W xb sb S 0) (q : Nat) : XSt w (W.setCell ⟨xb, 2, none⟩ (.int .u8 q)) xb sb S q := by
  refine ⟨h.below.setCell h.x0 _, ?_, ?_, h.x0, h.s0, h.ne⟩
  · rw [heap_setCell_same h.hx]; rfl
  · exact h.hs.ext (Below.heap_setCell _ _ _ _ (Ne.symm h.ne))
theorem XSt.marks {w W W' : World} {xb sb : Nat} {S S' : Nat → Bool} {q : Nat} (h : XSt w W xb sb S q) (hg : W.grownBy W' (some sb)) (hs : RSet W' sb S') : XSt w W' xb sb S' q := by
  refine ⟨below_row h.below h.s0 hg, ?_, hs, h.x0, h.s0, h.ne⟩
  rw [hg.block xb (Array.getElem?_eq_some_iff.1 h.hx).1 (fun e => h.ne (by injection e))]
  exact h.hx
theorem XSt.newSet {w W W' : World} {xb sb : Nat} {S S' : Nat → Bool} {q : Nat} (h : XSt w W xb sb S q) (hb : Below W.heap.size W W') (hs : RSet W' W.heap.size S') : XSt w (W'.setCell ⟨xb, 1, none⟩ (.slice (some ⟨W.heap.size, 0, none⟩) 256 256)) xb W.heap.size S' q := by
  have hlt := (Array.getElem?_eq_some_iff.1 h.hx).1
  have hx' := (below_ext hb (Nat.le_refl _)).get h.hx
  refine ⟨(h.below.trans (hb.mono h.below.size)).setCell h.x0 _, ?_, ?_, h.x0, h.below.size, by omega⟩
  · rw [heap_setCell_same hx']; rfl
  · exact hs.ext (Below.heap_setCell _ _ _ _ (by show W.heap.size ≠ xb; omega))
theorem XSt.item {w0 w W : World} {ob xb sb : Nat} {S : Nat → Bool} {q : Nat} {anc fin : Bool} {s : St} {ps : List Bool} {vi vo vc vp : Value} {vs : List Value} (x : XSt w W xb sb S q) (h : PSt w0 ob w anc fin s ps vi vo vc vp vs) :
    ItemR W w0.heap.size (MutR ob vi vo vc vp) ⟨7, 0, 0, 0, S, q⟩ (.slice (some ⟨sb, 0, none⟩) 256 256) := by
  unfold ItemR
  rw [if_pos (show Item.sets _ = true from rfl)]
  have := x.s0
  refine ⟨_, rfl, Nat.le_trans h.below.size x.s0, fun hm => ?_, x.hs⟩
  rcases hm with e | e | e | e | e
  · have := h.lt; omega
  · have := (ownBlock_lt h.oi e).2; omega
  · have := (ownBlock_lt h.oo e).2; omega
  · have := (ownBlock_lt h.oc e).2; omega
  · have := (ownBlock_lt h.op e).2; omega
set_option maxRecDepth 100000 in
set_option maxHeartbeats 8000000 in
theorem sing_plain {w0 w : World} {ob : Nat} {anc fin : Bool} {s : St} {ps : List Bool} {vi vo vc vp : Value} {vs : List Value} (h : PSt w0 ob w anc fin s ps vi vo vc vp vs) (hv : RInv s ps) (p : ByteArray) (k : Nat) (hk : k < p.size) (hp : p.size ≤ 5000) (hi : s.items.length ≤ k) (h46 : ¬ p[k].toNat = 46) (h37 : ¬ p[k].toNat = 37) (h91 : ¬ p[k].toNat = 91) :
    Calls Tryd.prog 51 #[.pointer (some ⟨ob, 0, none⟩), .string p, .int .i64 k] w (SgPost w0 ob anc fin k (singleM p[k].toNat ((bytesOf p).drop (k + 1)) s)) := by
  obtain ⟨i14, hi14, hi14a, hi14b, hi14c⟩ := info_parts Tryd.info114
  obtain ⟨R, hR⟩ : ∃ R, R = singleM p[k].toNat ((bytesOf p).drop (k + 1)) s := ⟨_, rfl⟩
  rw [← hR]
  have HR := Lib.hid hR
  have H := Lib.hid h
  have HV := Lib.hid hv
  have hlt := h.lt
  clear hR h hv
  have hmk := make_marks
  have t46 : ((p[k].toNat : Int) == 46) = false := by rw [beq_eq_false_iff_ne]; omega
  have t37 : ((p[k].toNat : Int) == 37) = false := by rw [beq_eq_false_iff_ne]; omega
  have t91 : ((p[k].toNat : Int) == 91) = false := by rw [beq_eq_false_iff_ne]; omega
  have HB := Lib.hid (show baseM p[k].toNat ((bytesOf p).drop (k + 1)) = some (eqS p[k].toNat, (bytesOf p).drop (k + 1)) by unfold baseM; rw [if_neg h46, if_neg h37, if_neg h91])
  clear h46 h37 h91
  have hb1 := UInt8.toNat_lt p[k]
  go_enter Tryd.func51, Tryd.ntmps51
  go_wp2_with (simp only [hmk])
  obtain ⟨W1, hW1⟩ : ∃ W1, W1 = (w.alloc (.cells (setC noMark) 4)).alloc (.cells #[.int .i64 1, .slice (some ⟨w.heap.size, 0, none⟩) 256 256, .int .u8 0, .int .u8 0, .int .u8 0, .int .i64 0] 114) := ⟨_, rfl⟩
  have hx1 := XSt.start w
  rw [← hW1] at hx1 ⊢
  have hsz : w.heap.size < W1.heap.size := by rw [hW1]; simp; omega
  have hox : ob ≠ (w.heap.size + 1) := by omega
  have hxo : (w.heap.size + 1) ≠ ob := by omega
  have hos : ob ≠ w.heap.size := by omega
  have ccell := hx1.hs.cell hb1
  have cfz := hx1.hs.fz p[k].toNat
  have y1 : W1.cell? ⟨(w.heap.size + 1), 1, none⟩ = some (.slice (some ⟨w.heap.size, 0, none⟩) 256 256) := by rw [cell_of_heap hx1.hx]; rfl
  have HX1 := Lib.hid (hx1.marks (grown_set _ w.heap.size p[k].toNat (.bool true)) ((hx1.hs.set p[k].toNat true).congr (S' := eqS p[k].toNat) fun j _ => by
      unfold setAt eqS noMark
      by_cases e : j = p[k].toNat
      · rw [if_pos e]; simp [e]
      · rw [if_neg e]; simp [e]))
  have HW1 := Lib.hid hW1
  clear hW1 hx1 hmk
  refine wp_region_lex mixed (by kernel_rfl) ?_
  go_wp2
  refine ⟨by kernel_rfl, ?_⟩
  obtain ⟨W2, hW2⟩ : ∃ W2, W2 = (W1.setCell ⟨w.heap.size, p[k].toNat, none⟩ (.bool true)).drew := ⟨_, rfl⟩
  have hx2 : XSt w W2 (w.heap.size + 1) w.heap.size (eqS p[k].toNat) 0 := by rw [hW2]; exact ⟨HX1.out.below.drew, HX1.out.hx, HX1.out.hs, HX1.out.x0, HX1.out.s0, HX1.out.ne⟩
  have HX2 := Lib.hid hx2
  rw [← hW2]
  clear hW2 hx2 ccell cfz y1
  have y0 : W2.cell? ⟨(w.heap.size + 1), 0, none⟩ = some (.int .i64 1) := by rw [cell_of_heap HX2.out.hx]; rfl
  have y1 : W2.cell? ⟨(w.heap.size + 1), 1, none⟩ = some (.slice (some ⟨w.heap.size, 0, none⟩) 256 256) := by rw [cell_of_heap HX2.out.hx]; rfl
  have y2 : W2.cell? ⟨(w.heap.size + 1), 2, none⟩ = some (.int .u8 0) := by rw [cell_of_heap HX2.out.hx]; rfl
  have y3 : W2.cell? ⟨(w.heap.size + 1), 3, none⟩ = some (.int .u8 0) := by rw [cell_of_heap HX2.out.hx]; rfl
  have y4 : W2.cell? ⟨(w.heap.size + 1), 4, none⟩ = some (.int .u8 0) := by rw [cell_of_heap HX2.out.hx]; rfl
  have y5 : W2.cell? ⟨(w.heap.size + 1), 5, none⟩ = some (.int .i64 0) := by rw [cell_of_heap HX2.out.hx]; rfl
  have yf : W2.frozen? ⟨(w.heap.size + 1), 2, none⟩ = false := by simp [World.frozen?, HX2.out.hx]
  have HP := Lib.hid (H.out.grow HX2.out.below)
  have z0 : W2.cell? ⟨ob, 0, none⟩ = some vi := by rw [cell_of_heap HP.out.hr]; rfl
  have zlt := HP.out.lt
  have QW : Hid (∀ q m, quantM ((bytesOf p).drop (k + 1)) = (q, m) → R = .ok ({ s with items := s.items ++ [⟨7, 0, 0, 0, (eqS p[k].toNat), q⟩] }, k + 1 - k + m)) := fun q m hq => by rw [HR.out]; exact single_of HB.out (by omega) (by omega) hq
  rcases quant_ways p (k + 1) with hq | ⟨hq, t1, t2, t3, t4, tq⟩ | ⟨hq, t1, tq⟩ | ⟨hq, t1, t2, tq⟩ | ⟨hq, t1, t2, t3, tq⟩ | ⟨hq, t1, t2, t3, t4, tq⟩
  · have HQ := Lib.hid (QW.out _ _ (quant_end hq))
    have HX := HX2
    have HP2 := HP
    have IT := Lib.hid (HX.out.item H.out)
    go_wp2
    refine wp_region_lex mixed (by kernel_rfl) ?_
    go_wp2_with (at_builtin; refine wpList_append_own_at _ rfl (.tmp 109) (.tmp 111) 64 rfl w0.heap.size 114 i14 _ 6 48 Tryd.underlying64 hi14 hi14a hi14b hi14c rfl (by decide) vi s.items.length (rowR s.items vs) rfl ?_ ⟨_, 0, none⟩ 1 1 [_, _, _, _, _, _] rfl rfl (cells_sixR _ _ _ _ _ _ _ _ _ (by simp)) ?_ ?_ ?_ ?_ ?_)
    · exact ownsRow_ext (below_ext ((Below.refl _ _).alloc (Nat.le_refl _) _).drew (Nat.le_refl _)) HP2.out.oi
    · intro u hu
      simp only [List.mem_cons, List.not_mem_nil, or_false] at hu
      rcases hu with rfl | rfl | rfl | rfl | rfl | rfl <;> rfl
    · unfold maxLen; omega
    · omega
    · first | (have := HP2.out.below.size; simp at this ⊢; omega) | (have := HP2.out.below.size; simp; omega)
    · intro v1 w1 hown hgrow _ hat
      obtain ⟨g1, cap1, rfl⟩ := slice_shape hown (by omega)
      have hr1 := hr_push ((Below.refl _ _).alloc (Nat.le_refl _) _).drew hgrow HP2.out.hr HP2.out.five.oa
      have c10 : w1.cell? ⟨ob, 0, none⟩ = some vi := by rw [cell_of_heap hr1]; rfl
      have f10 : w1.frozen? ⟨ob, 0, none⟩ = false := by simp [World.frozen?, hr1]
      have H1 := Lib.hid (HP2.out.pushItem ((Below.refl _ _).alloc (Nat.le_refl _) _).drew IT.out hown hgrow (by simpa using hat))
      clear hown hgrow hat hr1
      go_wp2
      refine ⟨by kernel_rfl, ?_⟩
      go_wp2
      go_ret2
      exact sg_ok HQ.out (by omega) ⟨_, _, _, _, _, _, H1.out, pinv_items HV.out _⟩
  · have HQ := Lib.hid (QW.out _ _ (quant_no hq tq))
    clear tq
    have HX := HX2
    have HP2 := HP
    have IT := Lib.hid (HX.out.item H.out)
    go_wp2
    refine wp_region_lex mixed (by kernel_rfl) ?_
    go_wp2_with (at_builtin; refine wpList_append_own_at _ rfl (.tmp 109) (.tmp 111) 64 rfl w0.heap.size 114 i14 _ 6 48 Tryd.underlying64 hi14 hi14a hi14b hi14c rfl (by decide) vi s.items.length (rowR s.items vs) rfl ?_ ⟨_, 0, none⟩ 1 1 [_, _, _, _, _, _] rfl rfl (cells_sixR _ _ _ _ _ _ _ _ _ (by simp)) ?_ ?_ ?_ ?_ ?_)
    · exact ownsRow_ext (below_ext ((Below.refl _ _).alloc (Nat.le_refl _) _).drew (Nat.le_refl _)) HP2.out.oi
    · intro u hu
      simp only [List.mem_cons, List.not_mem_nil, or_false] at hu
      rcases hu with rfl | rfl | rfl | rfl | rfl | rfl <;> rfl
    · unfold maxLen; omega
    · omega
    · first | (have := HP2.out.below.size; simp at this ⊢; omega) | (have := HP2.out.below.size; simp; omega)
    · intro v1 w1 hown hgrow _ hat
      obtain ⟨g1, cap1, rfl⟩ := slice_shape hown (by omega)
      have hr1 := hr_push ((Below.refl _ _).alloc (Nat.le_refl _) _).drew hgrow HP2.out.hr HP2.out.five.oa
      have c10 : w1.cell? ⟨ob, 0, none⟩ = some vi := by rw [cell_of_heap hr1]; rfl
      have f10 : w1.frozen? ⟨ob, 0, none⟩ = false := by simp [World.frozen?, hr1]
      have H1 := Lib.hid (HP2.out.pushItem ((Below.refl _ _).alloc (Nat.le_refl _) _).drew IT.out hown hgrow (by simpa using hat))
      clear hown hgrow hat hr1
      go_wp2
      refine ⟨by kernel_rfl, ?_⟩
      go_wp2
      go_ret2
      exact sg_ok HQ.out (by omega) ⟨_, _, _, _, _, _, H1.out, pinv_items HV.out _⟩
  · have HQ := Lib.hid (QW.out _ _ (quant_yes hq tq))
    clear tq
    have HX := Lib.hid (HX2.out.quant p[k + 1].toNat)
    have HP2 := Lib.hid (H.out.grow HX.out.below)
    have IT := Lib.hid (HX.out.item H.out)
    go_wp2
    refine wp_region_lex mixed (by kernel_rfl) ?_
    go_wp2_with (at_builtin; refine wpList_append_own_at _ rfl (.tmp 109) (.tmp 111) 64 rfl w0.heap.size 114 i14 _ 6 48 Tryd.underlying64 hi14 hi14a hi14b hi14c rfl (by decide) vi s.items.length (rowR s.items vs) rfl ?_ ⟨_, 0, none⟩ 1 1 [_, _, _, _, _, _] rfl rfl (cells_sixR _ _ _ _ _ _ _ _ _ (by simp)) ?_ ?_ ?_ ?_ ?_)
    · exact ownsRow_ext (below_ext ((Below.refl _ _).alloc (Nat.le_refl _) _).drew (Nat.le_refl _)) HP2.out.oi
    · intro u hu
      simp only [List.mem_cons, List.not_mem_nil, or_false] at hu
      rcases hu with rfl | rfl | rfl | rfl | rfl | rfl <;> rfl
    · unfold maxLen; omega
    · omega
    · first | (have := HP2.out.below.size; simp at this ⊢; omega) | (have := HP2.out.below.size; simp; omega)
    · intro v1 w1 hown hgrow _ hat
      obtain ⟨g1, cap1, rfl⟩ := slice_shape hown (by omega)
      have hr1 := hr_push ((Below.refl _ _).alloc (Nat.le_refl _) _).drew hgrow HP2.out.hr HP2.out.five.oa
      have c10 : w1.cell? ⟨ob, 0, none⟩ = some vi := by rw [cell_of_heap hr1]; rfl
      have f10 : w1.frozen? ⟨ob, 0, none⟩ = false := by simp [World.frozen?, hr1]
      have H1 := Lib.hid (HP2.out.pushItem ((Below.refl _ _).alloc (Nat.le_refl _) _).drew IT.out hown hgrow (by simpa using hat))
      clear hown hgrow hat hr1
      go_wp2
      refine ⟨by kernel_rfl, ?_⟩
      go_wp2
      go_ret2
      exact sg_ok HQ.out (by omega) ⟨_, _, _, _, _, _, H1.out, pinv_items HV.out _⟩
  · have HQ := Lib.hid (QW.out _ _ (quant_yes hq tq))
    clear tq
    have HX := Lib.hid (HX2.out.quant p[k + 1].toNat)
    have HP2 := Lib.hid (H.out.grow HX.out.below)
    have IT := Lib.hid (HX.out.item H.out)
    go_wp2
    refine wp_region_lex mixed (by kernel_rfl) ?_
    go_wp2_with (at_builtin; refine wpList_append_own_at _ rfl (.tmp 109) (.tmp 111) 64 rfl w0.heap.size 114 i14 _ 6 48 Tryd.underlying64 hi14 hi14a hi14b hi14c rfl (by decide) vi s.items.length (rowR s.items vs) rfl ?_ ⟨_, 0, none⟩ 1 1 [_, _, _, _, _, _] rfl rfl (cells_sixR _ _ _ _ _ _ _ _ _ (by simp)) ?_ ?_ ?_ ?_ ?_)
    · exact ownsRow_ext (below_ext ((Below.refl _ _).alloc (Nat.le_refl _) _).drew (Nat.le_refl _)) HP2.out.oi
    · intro u hu
      simp only [List.mem_cons, List.not_mem_nil, or_false] at hu
      rcases hu with rfl | rfl | rfl | rfl | rfl | rfl <;> rfl
    · unfold maxLen; omega
    · omega
    · first | (have := HP2.out.below.size; simp at this ⊢; omega) | (have := HP2.out.below.size; simp; omega)
    · intro v1 w1 hown hgrow _ hat
      obtain ⟨g1, cap1, rfl⟩ := slice_shape hown (by omega)
      have hr1 := hr_push ((Below.refl _ _).alloc (Nat.le_refl _) _).drew hgrow HP2.out.hr HP2.out.five.oa
      have c10 : w1.cell? ⟨ob, 0, none⟩ = some vi := by rw [cell_of_heap hr1]; rfl
      have f10 : w1.frozen? ⟨ob, 0, none⟩ = false := by simp [World.frozen?, hr1]
      have H1 := Lib.hid (HP2.out.pushItem ((Below.refl _ _).alloc (Nat.le_refl _) _).drew IT.out hown hgrow (by simpa using hat))
      clear hown hgrow hat hr1
      go_wp2
      refine ⟨by kernel_rfl, ?_⟩
      go_wp2
      go_ret2
      exact sg_ok HQ.out (by omega) ⟨_, _, _, _, _, _, H1.out, pinv_items HV.out _⟩
  · have HQ := Lib.hid (QW.out _ _ (quant_yes hq tq))
    clear tq
    have HX := Lib.hid (HX2.out.quant p[k + 1].toNat)
    have HP2 := Lib.hid (H.out.grow HX.out.below)
    have IT := Lib.hid (HX.out.item H.out)
    go_wp2
    refine wp_region_lex mixed (by kernel_rfl) ?_
    go_wp2_with (at_builtin; refine wpList_append_own_at _ rfl (.tmp 109) (.tmp 111) 64 rfl w0.heap.size 114 i14 _ 6 48 Tryd.underlying64 hi14 hi14a hi14b hi14c rfl (by decide) vi s.items.length (rowR s.items vs) rfl ?_ ⟨_, 0, none⟩ 1 1 [_, _, _, _, _, _] rfl rfl (cells_sixR _ _ _ _ _ _ _ _ _ (by simp)) ?_ ?_ ?_ ?_ ?_)
    · exact ownsRow_ext (below_ext ((Below.refl _ _).alloc (Nat.le_refl _) _).drew (Nat.le_refl _)) HP2.out.oi
    · intro u hu
      simp only [List.mem_cons, List.not_mem_nil, or_false] at hu
      rcases hu with rfl | rfl | rfl | rfl | rfl | rfl <;> rfl
    · unfold maxLen; omega
    · omega
    · first | (have := HP2.out.below.size; simp at this ⊢; omega) | (have := HP2.out.below.size; simp; omega)
    · intro v1 w1 hown hgrow _ hat
      obtain ⟨g1, cap1, rfl⟩ := slice_shape hown (by omega)
      have hr1 := hr_push ((Below.refl _ _).alloc (Nat.le_refl _) _).drew hgrow HP2.out.hr HP2.out.five.oa
      have c10 : w1.cell? ⟨ob, 0, none⟩ = some vi := by rw [cell_of_heap hr1]; rfl
      have f10 : w1.frozen? ⟨ob, 0, none⟩ = false := by simp [World.frozen?, hr1]
      have H1 := Lib.hid (HP2.out.pushItem ((Below.refl _ _).alloc (Nat.le_refl _) _).drew IT.out hown hgrow (by simpa using hat))
      clear hown hgrow hat hr1
      go_wp2
      refine ⟨by kernel_rfl, ?_⟩
      go_wp2
      go_ret2
      exact sg_ok HQ.out (by omega) ⟨_, _, _, _, _, _, H1.out, pinv_items HV.out _⟩
  · have HQ := Lib.hid (QW.out _ _ (quant_yes hq tq))
    clear tq
    have HX := Lib.hid (HX2.out.quant p[k + 1].toNat)
    have HP2 := Lib.hid (H.out.grow HX.out.below)
    have IT := Lib.hid (HX.out.item H.out)
    go_wp2
    refine wp_region_lex mixed (by kernel_rfl) ?_
    go_wp2_with (at_builtin; refine wpList_append_own_at _ rfl (.tmp 109) (.tmp 111) 64 rfl w0.heap.size 114 i14 _ 6 48 Tryd.underlying64 hi14 hi14a hi14b hi14c rfl (by decide) vi s.items.length (rowR s.items vs) rfl ?_ ⟨_, 0, none⟩ 1 1 [_, _, _, _, _, _] rfl rfl (cells_sixR _ _ _ _ _ _ _ _ _ (by simp)) ?_ ?_ ?_ ?_ ?_)
    · exact ownsRow_ext (below_ext ((Below.refl _ _).alloc (Nat.le_refl _) _).drew (Nat.le_refl _)) HP2.out.oi
    · intro u hu
      simp only [List.mem_cons, List.not_mem_nil, or_false] at hu
      rcases hu with rfl | rfl | rfl | rfl | rfl | rfl <;> rfl
    · unfold maxLen; omega
    · omega
    · first | (have := HP2.out.below.size; simp at this ⊢; omega) | (have := HP2.out.below.size; simp; omega)
    · intro v1 w1 hown hgrow _ hat
      obtain ⟨g1, cap1, rfl⟩ := slice_shape hown (by omega)
      have hr1 := hr_push ((Below.refl _ _).alloc (Nat.le_refl _) _).drew hgrow HP2.out.hr HP2.out.five.oa
      have c10 : w1.cell? ⟨ob, 0, none⟩ = some vi := by rw [cell_of_heap hr1]; rfl
      have f10 : w1.frozen? ⟨ob, 0, none⟩ = false := by simp [World.frozen?, hr1]
      have H1 := Lib.hid (HP2.out.pushItem ((Below.refl _ _).alloc (Nat.le_refl _) _).drew IT.out hown hgrow (by simpa using hat))
      clear hown hgrow hat hr1
      go_wp2
      refine ⟨by kernel_rfl, ?_⟩
      go_wp2
      go_ret2
      exact sg_ok HQ.out (by omega) ⟨_, _, _, _, _, _, H1.out, pinv_items HV.out _⟩
set_option maxRecDepth 100000 in
set_option maxHeartbeats 8000000 in
theorem sing_dot {w0 w : World} {ob : Nat} {anc fin : Bool} {s : St} {ps : List Bool} {vi vo vc vp : Value} {vs : List Value} (h : PSt w0 ob w anc fin s ps vi vo vc vp vs) (hv : RInv s ps) (p : ByteArray) (k : Nat) (hk : k < p.size) (hp : p.size ≤ 5000) (hi : s.items.length ≤ k) (hc : p[k].toNat = 46) :
    Calls Tryd.prog 51 #[.pointer (some ⟨ob, 0, none⟩), .string p, .int .i64 k] w (SgPost w0 ob anc fin k (singleM p[k].toNat ((bytesOf p).drop (k + 1)) s)) := by
  obtain ⟨i14, hi14, hi14a, hi14b, hi14c⟩ := info_parts Tryd.info114
  obtain ⟨R, hR⟩ : ∃ R, R = singleM p[k].toNat ((bytesOf p).drop (k + 1)) s := ⟨_, rfl⟩
  rw [← hR]
  have HR := Lib.hid hR
  have H := Lib.hid h
  have HV := Lib.hid hv
  have hlt := h.lt
  clear hR h hv
  have hmk := make_marks
  have t46 : ((p[k].toNat : Int) == 46) = true := by rw [hc]; rfl
  have HB := Lib.hid (show baseM p[k].toNat ((bytesOf p).drop (k + 1)) = some (anyS, (bytesOf p).drop (k + 1)) by unfold baseM; rw [if_pos hc])
  clear hc
  go_enter Tryd.func51, Tryd.ntmps51
  go_wp2_with (simp only [hmk])
  obtain ⟨W1, hW1⟩ : ∃ W1, W1 = (w.alloc (.cells (setC noMark) 4)).alloc (.cells #[.int .i64 1, .slice (some ⟨w.heap.size, 0, none⟩) 256 256, .int .u8 0, .int .u8 0, .int .u8 0, .int .i64 0] 114) := ⟨_, rfl⟩
  have hx1 := XSt.start w
  rw [← hW1] at hx1 ⊢
  have hsz : w.heap.size < W1.heap.size := by rw [hW1]; simp; omega
  have hox : ob ≠ (w.heap.size + 1) := by omega
  have hxo : (w.heap.size + 1) ≠ ob := by omega
  have hos : ob ≠ w.heap.size := by omega
  have HX1 := Lib.hid hx1
  clear hW1 hx1 hmk
  go_loopg [9] 256 (fun gg v wr => PairRel W1 w.heap.size noMark anyS gg v wr)
  case atStart => exact PairRel.start HX1.out.hs
  case round =>
    obtain ⟨c, rfl, rfl, hc, hg, hs⟩ := hrel
    have hx := HX1.out.marks hg hs
    have y1 : wr.cell? ⟨(w.heap.size + 1), 1, none⟩ = some (.slice (some ⟨w.heap.size, 0, none⟩) 256 256) := by rw [cell_of_heap hx.hx]; rfl
    by_cases hc2 : c < 256
    · have ccell := hs.cell hc2
      have cfz := hs.fz c
      have HN := Lib.hid (PairRel.put hc2 hg hs rfl)
      clear hs hg hx
      go_wp2
      go_roundg (256 - (c + 1))
      case measure => omega
      case rel => exact HN.out
    · have hge : ¬ ((c : Int) < 256) := by omega
      have HX2 := Lib.hid (HX1.out.marks hg (hs.congr (S' := anyS) fun j hj => by simp [anyS]; right; omega))
      clear hs hg hx y1
      have y0 : wr.cell? ⟨(w.heap.size + 1), 0, none⟩ = some (.int .i64 1) := by rw [cell_of_heap HX2.out.hx]; rfl
      have y1 : wr.cell? ⟨(w.heap.size + 1), 1, none⟩ = some (.slice (some ⟨w.heap.size, 0, none⟩) 256 256) := by rw [cell_of_heap HX2.out.hx]; rfl
      have y2 : wr.cell? ⟨(w.heap.size + 1), 2, none⟩ = some (.int .u8 0) := by rw [cell_of_heap HX2.out.hx]; rfl
      have y3 : wr.cell? ⟨(w.heap.size + 1), 3, none⟩ = some (.int .u8 0) := by rw [cell_of_heap HX2.out.hx]; rfl
      have y4 : wr.cell? ⟨(w.heap.size + 1), 4, none⟩ = some (.int .u8 0) := by rw [cell_of_heap HX2.out.hx]; rfl
      have y5 : wr.cell? ⟨(w.heap.size + 1), 5, none⟩ = some (.int .i64 0) := by rw [cell_of_heap HX2.out.hx]; rfl
      have yf : wr.frozen? ⟨(w.heap.size + 1), 2, none⟩ = false := by simp [World.frozen?, HX2.out.hx]
      have HP := Lib.hid (H.out.grow HX2.out.below)
      have z0 : wr.cell? ⟨ob, 0, none⟩ = some vi := by rw [cell_of_heap HP.out.hr]; rfl
      have zlt := HP.out.lt
      have QW : Hid (∀ q m, quantM ((bytesOf p).drop (k + 1)) = (q, m) → R = .ok ({ s with items := s.items ++ [⟨7, 0, 0, 0, anyS, q⟩] }, k + 1 - k + m)) := fun q m hq => by rw [HR.out]; exact single_of HB.out (by omega) (by omega) hq
      rcases quant_ways p (k + 1) with hq | ⟨hq, t1, t2, t3, t4, tq⟩ | ⟨hq, t1, tq⟩ | ⟨hq, t1, t2, tq⟩ | ⟨hq, t1, t2, t3, tq⟩ | ⟨hq, t1, t2, t3, t4, tq⟩
      · have HQ := Lib.hid (QW.out _ _ (quant_end hq))
        have HX := HX2
        have HP2 := HP
        have IT := Lib.hid (HX.out.item H.out)
        go_wp2
        refine wp_region_lex mixed (by kernel_rfl) ?_
        go_wp2_with (at_builtin; refine wpList_append_own_at _ rfl (.tmp 109) (.tmp 111) 64 rfl w0.heap.size 114 i14 _ 6 48 Tryd.underlying64 hi14 hi14a hi14b hi14c rfl (by decide) vi s.items.length (rowR s.items vs) rfl ?_ ⟨_, 0, none⟩ 1 1 [_, _, _, _, _, _] rfl rfl (cells_sixR _ _ _ _ _ _ _ _ _ (by simp)) ?_ ?_ ?_ ?_ ?_)
        · exact ownsRow_ext (below_ext ((Below.refl _ _).alloc (Nat.le_refl _) _).drew (Nat.le_refl _)) HP2.out.oi
        · intro u hu
          simp only [List.mem_cons, List.not_mem_nil, or_false] at hu
          rcases hu with rfl | rfl | rfl | rfl | rfl | rfl <;> rfl
        · unfold maxLen; omega
        · omega
        · first | (have := HP2.out.below.size; simp at this ⊢; omega) | (have := HP2.out.below.size; simp; omega)
        · intro v1 w1 hown hgrow _ hat
          obtain ⟨g1, cap1, rfl⟩ := slice_shape hown (by omega)
          have hr1 := hr_push ((Below.refl _ _).alloc (Nat.le_refl _) _).drew hgrow HP2.out.hr HP2.out.five.oa
          have c10 : w1.cell? ⟨ob, 0, none⟩ = some vi := by rw [cell_of_heap hr1]; rfl
          have f10 : w1.frozen? ⟨ob, 0, none⟩ = false := by simp [World.frozen?, hr1]
          have H1 := Lib.hid (HP2.out.pushItem ((Below.refl _ _).alloc (Nat.le_refl _) _).drew IT.out hown hgrow (by simpa using hat))
          clear hown hgrow hat hr1
          go_wp2
          refine ⟨by kernel_rfl, ?_⟩
          go_wp2
          go_ret2
          exact sg_ok HQ.out (by omega) ⟨_, _, _, _, _, _, H1.out, pinv_items HV.out _⟩
      · have HQ := Lib.hid (QW.out _ _ (quant_no hq tq))
        clear tq
        have HX := HX2
        have HP2 := HP
        have IT := Lib.hid (HX.out.item H.out)
        go_wp2
        refine wp_region_lex mixed (by kernel_rfl) ?_
        go_wp2_with (at_builtin; refine wpList_append_own_at _ rfl (.tmp 109) (.tmp 111) 64 rfl w0.heap.size 114 i14 _ 6 48 Tryd.underlying64 hi14 hi14a hi14b hi14c rfl (by decide) vi s.items.length (rowR s.items vs) rfl ?_ ⟨_, 0, none⟩ 1 1 [_, _, _, _, _, _] rfl rfl (cells_sixR _ _ _ _ _ _ _ _ _ (by simp)) ?_ ?_ ?_ ?_ ?_)
        · exact ownsRow_ext (below_ext ((Below.refl _ _).alloc (Nat.le_refl _) _).drew (Nat.le_refl _)) HP2.out.oi
        · intro u hu
          simp only [List.mem_cons, List.not_mem_nil, or_false] at hu
          rcases hu with rfl | rfl | rfl | rfl | rfl | rfl <;> rfl
        · unfold maxLen; omega
        · omega
        · first | (have := HP2.out.below.size; simp at this ⊢; omega) | (have := HP2.out.below.size; simp; omega)
        · intro v1 w1 hown hgrow _ hat
          obtain ⟨g1, cap1, rfl⟩ := slice_shape hown (by omega)
          have hr1 := hr_push ((Below.refl _ _).alloc (Nat.le_refl _) _).drew hgrow HP2.out.hr HP2.out.five.oa
          have c10 : w1.cell? ⟨ob, 0, none⟩ = some vi := by rw [cell_of_heap hr1]; rfl
          have f10 : w1.frozen? ⟨ob, 0, none⟩ = false := by simp [World.frozen?, hr1]
          have H1 := Lib.hid (HP2.out.pushItem ((Below.refl _ _).alloc (Nat.le_refl _) _).drew IT.out hown hgrow (by simpa using hat))
          clear hown hgrow hat hr1
          go_wp2
          refine ⟨by kernel_rfl, ?_⟩
          go_wp2
          go_ret2
          exact sg_ok HQ.out (by omega) ⟨_, _, _, _, _, _, H1.out, pinv_items HV.out _⟩
      · have HQ := Lib.hid (QW.out _ _ (quant_yes hq tq))
        clear tq
        have HX := Lib.hid (HX2.out.quant p[k + 1].toNat)
        have HP2 := Lib.hid (H.out.grow HX.out.below)
        have IT := Lib.hid (HX.out.item H.out)
        go_wp2
        refine wp_region_lex mixed (by kernel_rfl) ?_
        go_wp2_with (at_builtin; refine wpList_append_own_at _ rfl (.tmp 109) (.tmp 111) 64 rfl w0.heap.size 114 i14 _ 6 48 Tryd.underlying64 hi14 hi14a hi14b hi14c rfl (by decide) vi s.items.length (rowR s.items vs) rfl ?_ ⟨_, 0, none⟩ 1 1 [_, _, _, _, _, _] rfl rfl (cells_sixR _ _ _ _ _ _ _ _ _ (by simp)) ?_ ?_ ?_ ?_ ?_)
        · exact ownsRow_ext (below_ext ((Below.refl _ _).alloc (Nat.le_refl _) _).drew (Nat.le_refl _)) HP2.out.oi
        · intro u hu
          simp only [List.mem_cons, List.not_mem_nil, or_false] at hu
          rcases hu with rfl | rfl | rfl | rfl | rfl | rfl <;> rfl
        · unfold maxLen; omega
        · omega
        · first | (have := HP2.out.below.size; simp at this ⊢; omega) | (have := HP2.out.below.size; simp; omega)
        · intro v1 w1 hown hgrow _ hat
          obtain ⟨g1, cap1, rfl⟩ := slice_shape hown (by omega)
          have hr1 := hr_push ((Below.refl _ _).alloc (Nat.le_refl _) _).drew hgrow HP2.out.hr HP2.out.five.oa
          have c10 : w1.cell? ⟨ob, 0, none⟩ = some vi := by rw [cell_of_heap hr1]; rfl
          have f10 : w1.frozen? ⟨ob, 0, none⟩ = false := by simp [World.frozen?, hr1]
          have H1 := Lib.hid (HP2.out.pushItem ((Below.refl _ _).alloc (Nat.le_refl _) _).drew IT.out hown hgrow (by simpa using hat))
          clear hown hgrow hat hr1
          go_wp2
          refine ⟨by kernel_rfl, ?_⟩
          go_wp2
          go_ret2
          exact sg_ok HQ.out (by omega) ⟨_, _, _, _, _, _, H1.out, pinv_items HV.out _⟩
      · have HQ := Lib.hid (QW.out _ _ (quant_yes hq tq))
        clear tq
        have HX := Lib.hid (HX2.out.quant p[k + 1].toNat)
        have HP2 := Lib.hid (H.out.grow HX.out.below)
        have IT := Lib.hid (HX.out.item H.out)
        go_wp2
        refine wp_region_lex mixed (by kernel_rfl) ?_
        go_wp2_with (at_builtin; refine wpList_append_own_at _ rfl (.tmp 109) (.tmp 111) 64 rfl w0.heap.size 114 i14 _ 6 48 Tryd.underlying64 hi14 hi14a hi14b hi14c rfl (by decide) vi s.items.length (rowR s.items vs) rfl ?_ ⟨_, 0, none⟩ 1 1 [_, _, _, _, _, _] rfl rfl (cells_sixR _ _ _ _ _ _ _ _ _ (by simp)) ?_ ?_ ?_ ?_ ?_)
        · exact ownsRow_ext (below_ext ((Below.refl _ _).alloc (Nat.le_refl _) _).drew (Nat.le_refl _)) HP2.out.oi
        · intro u hu
          simp only [List.mem_cons, List.not_mem_nil, or_false] at hu
          rcases hu with rfl | rfl | rfl | rfl | rfl | rfl <;> rfl
        · unfold maxLen; omega
        · omega
        · first | (have := HP2.out.below.size; simp at this ⊢; omega) | (have := HP2.out.below.size; simp; omega)
        · intro v1 w1 hown hgrow _ hat
          obtain ⟨g1, cap1, rfl⟩ := slice_shape hown (by omega)
          have hr1 := hr_push ((Below.refl _ _).alloc (Nat.le_refl _) _).drew hgrow HP2.out.hr HP2.out.five.oa
          have c10 : w1.cell? ⟨ob, 0, none⟩ = some vi := by rw [cell_of_heap hr1]; rfl
          have f10 : w1.frozen? ⟨ob, 0, none⟩ = false := by simp [World.frozen?, hr1]
          have H1 := Lib.hid (HP2.out.pushItem ((Below.refl _ _).alloc (Nat.le_refl _) _).drew IT.out hown hgrow (by simpa using hat))
          clear hown hgrow hat hr1
          go_wp2
          refine ⟨by kernel_rfl, ?_⟩
          go_wp2
          go_ret2
          exact sg_ok HQ.out (by omega) ⟨_, _, _, _, _, _, H1.out, pinv_items HV.out _⟩
      · have HQ := Lib.hid (QW.out _ _ (quant_yes hq tq))
        clear tq
        have HX := Lib.hid (HX2.out.quant p[k + 1].toNat)
        have HP2 := Lib.hid (H.out.grow HX.out.below)
        have IT := Lib.hid (HX.out.item H.out)
        go_wp2
        refine wp_region_lex mixed (by kernel_rfl) ?_
        go_wp2_with (at_builtin; refine wpList_append_own_at _ rfl (.tmp 109) (.tmp 111) 64 rfl w0.heap.size 114 i14 _ 6 48 Tryd.underlying64 hi14 hi14a hi14b hi14c rfl (by decide) vi s.items.length (rowR s.items vs) rfl ?_ ⟨_, 0, none⟩ 1 1 [_, _, _, _, _, _] rfl rfl (cells_sixR _ _ _ _ _ _ _ _ _ (by simp)) ?_ ?_ ?_ ?_ ?_)
        · exact ownsRow_ext (below_ext ((Below.refl _ _).alloc (Nat.le_refl _) _).drew (Nat.le_refl _)) HP2.out.oi
        · intro u hu
          simp only [List.mem_cons, List.not_mem_nil, or_false] at hu
          rcases hu with rfl | rfl | rfl | rfl | rfl | rfl <;> rfl
        · unfold maxLen; omega
        · omega
        · first | (have := HP2.out.below.size; simp at this ⊢; omega) | (have := HP2.out.below.size; simp; omega)
        · intro v1 w1 hown hgrow _ hat
          obtain ⟨g1, cap1, rfl⟩ := slice_shape hown (by omega)
          have hr1 := hr_push ((Below.refl _ _).alloc (Nat.le_refl _) _).drew hgrow HP2.out.hr HP2.out.five.oa
          have c10 : w1.cell? ⟨ob, 0, none⟩ = some vi := by rw [cell_of_heap hr1]; rfl
          have f10 : w1.frozen? ⟨ob, 0, none⟩ = false := by simp [World.frozen?, hr1]
          have H1 := Lib.hid (HP2.out.pushItem ((Below.refl _ _).alloc (Nat.le_refl _) _).drew IT.out hown hgrow (by simpa using hat))
          clear hown hgrow hat hr1
          go_wp2
          refine ⟨by kernel_rfl, ?_⟩
          go_wp2
          go_ret2
          exact sg_ok HQ.out (by omega) ⟨_, _, _, _, _, _, H1.out, pinv_items HV.out _⟩
      · have HQ := Lib.hid (QW.out _ _ (quant_yes hq tq))
        clear tq
        have HX := Lib.hid (HX2.out.quant p[k + 1].toNat)
        have HP2 := Lib.hid (H.out.grow HX.out.below)
        have IT := Lib.hid (HX.out.item H.out)
        go_wp2
        refine wp_region_lex mixed (by kernel_rfl) ?_
        go_wp2_with (at_builtin; refine wpList_append_own_at _ rfl (.tmp 109) (.tmp 111) 64 rfl w0.heap.size 114 i14 _ 6 48 Tryd.underlying64 hi14 hi14a hi14b hi14c rfl (by decide) vi s.items.length (rowR s.items vs) rfl ?_ ⟨_, 0, none⟩ 1 1 [_, _, _, _, _, _] rfl rfl (cells_sixR _ _ _ _ _ _ _ _ _ (by simp)) ?_ ?_ ?_ ?_ ?_)
        · exact ownsRow_ext (below_ext ((Below.refl _ _).alloc (Nat.le_refl _) _).drew (Nat.le_refl _)) HP2.out.oi
        · intro u hu
          simp only [List.mem_cons, List.not_mem_nil, or_false] at hu
          rcases hu with rfl | rfl | rfl | rfl | rfl | rfl <;> rfl
        · unfold maxLen; omega
        · omega
        · first | (have := HP2.out.below.size; simp at this ⊢; omega) | (have := HP2.out.below.size; simp; omega)
        · intro v1 w1 hown hgrow _ hat
          obtain ⟨g1, cap1, rfl⟩ := slice_shape hown (by omega)
          have hr1 := hr_push ((Below.refl _ _).alloc (Nat.le_refl _) _).drew hgrow HP2.out.hr HP2.out.five.oa
          have c10 : w1.cell? ⟨ob, 0, none⟩ = some vi := by rw [cell_of_heap hr1]; rfl
          have f10 : w1.frozen? ⟨ob, 0, none⟩ = false := by simp [World.frozen?, hr1]
          have H1 := Lib.hid (HP2.out.pushItem ((Below.refl _ _).alloc (Nat.le_refl _) _).drew IT.out hown hgrow (by simpa using hat))
          clear hown hgrow hat hr1
          go_wp2
          refine ⟨by kernel_rfl, ?_⟩
          go_wp2
          go_ret2
          exact sg_ok HQ.out (by omega) ⟨_, _, _, _, _, _, H1.out, pinv_items HV.out _⟩
set_option maxRecDepth 100000 in
set_option maxHeartbeats 8000000 in
theorem sing_pct {w0 w : World} {ob : Nat} {anc fin : Bool} {s : St} {ps : List Bool} {vi vo vc vp : Value} {vs : List Value} (h : PSt w0 ob w anc fin s ps vi vo vc vp vs) (hv : RInv s ps) (p : ByteArray) (k : Nat) (hk : k < p.size) (hp : p.size ≤ 5000) (hi : s.items.length ≤ k) (hc : p[k].toNat = 37) :
    Calls Tryd.prog 51 #[.pointer (some ⟨ob, 0, none⟩), .string p, .int .i64 k] w (SgPost w0 ob anc fin k (singleM p[k].toNat ((bytesOf p).drop (k + 1)) s)) := by
  obtain ⟨i14, hi14, hi14a, hi14b, hi14c⟩ := info_parts Tryd.info114
  obtain ⟨R, hR⟩ : ∃ R, R = singleM p[k].toNat ((bytesOf p).drop (k + 1)) s := ⟨_, rfl⟩
  rw [← hR]
  have HR := Lib.hid hR
  have H := Lib.hid h
  have HV := Lib.hid hv
  have hlt := h.lt
  clear hR h hv
  have hmk := make_marks
  have t46 : ((p[k].toNat : Int) == 46) = false := by rw [beq_eq_false_iff_ne]; omega
  have t37 : ((p[k].toNat : Int) == 37) = true := by rw [hc]; rfl
  have hR2 : baseM p[k].toNat ((bytesOf p).drop (k + 1)) = (match (bytesOf p).drop (k + 1) with | [] => none | d :: r1 => (pairS d).map fun S => (S, r1)) := by unfold baseM; rw [if_neg (by omega), if_pos hc]; rfl
  clear hc
  by_cases hn : k + 1 < p.size
  · rw [bytesOf_drop p (k + 1) hn] at hR2
    have hb1 := UInt8.toNat_lt p[k + 1]
    have HR2 := Lib.hid (show baseM p[k].toNat ((bytesOf p).drop (k + 1)) = (pairS p[k + 1].toNat).map fun S => (S, (bytesOf p).drop (k + 2)) by rw [bytesOf_drop p (k + 1) hn]; exact hR2)
    clear hR2
    have tg1 : decide ((p.size : Int) ≤ (k : Int) + 1) = false := by simp; omega
    have tg2 : decide (p.size ≤ k + 1) = false := by simp; omega
    go_enter Tryd.func51, Tryd.ntmps51
    go_wp2_with (simp only [hmk])
    obtain ⟨W1, hW1⟩ : ∃ W1, W1 = (w.alloc (.cells (setC noMark) 4)).alloc (.cells #[.int .i64 1, .slice (some ⟨w.heap.size, 0, none⟩) 256 256, .int .u8 0, .int .u8 0, .int .u8 0, .int .i64 0] 114) := ⟨_, rfl⟩
    have hx1 := XSt.start w
    rw [← hW1] at hx1 ⊢
    have hsz : w.heap.size < W1.heap.size := by rw [hW1]; simp; omega
    have hox : ob ≠ (w.heap.size + 1) := by omega
    have hxo : (w.heap.size + 1) ≠ ob := by omega
    have hos : ob ≠ w.heap.size := by omega
    have y1 : W1.cell? ⟨(w.heap.size + 1), 1, none⟩ = some (.slice (some ⟨w.heap.size, 0, none⟩) 256 256) := by rw [cell_of_heap hx1.hx]; rfl
    have HX1 := Lib.hid hx1
    have RP := Lib.hid (rpair_c w.heap.size p[k + 1].toNat hb1 noMark W1.drew hx1.hs)
    clear hW1 hx1 hmk
    refine wp_region_lex mixed (by kernel_rfl) ?_
    go_wp2_with fail
    refine RP.out.mono ?_
    rintro e W2 ⟨rfl, hg, hset⟩
    have hx1d : XSt w W1.drew (w.heap.size + 1) w.heap.size noMark 0 := ⟨HX1.out.below.drew, HX1.out.hx, HX1.out.hs, HX1.out.x0, HX1.out.s0, HX1.out.ne⟩
    have hbw := below_row hx1d.below hx1d.s0 hg
    cases hps : pairS p[k + 1].toNat with
    | none =>
      have HE := Lib.hid (show R = .error 4 by rw [HR.out]; exact single_err (by rw [HR2.out, hps]; rfl))
      have HBB := Lib.hid (H.out.below.trans (hbw.mono H.out.below.size))
      clear hps hset hg hx1d hbw
      go_wp2
      refine ⟨by kernel_rfl, ?_⟩
      go_wp2
      go_ret2
      exact sg_err HE.out HBB.out
    | some S =>
      have HB := Lib.hid (show baseM p[k].toNat ((bytesOf p).drop (k + 1)) = some (S, (bytesOf p).drop (k + 2)) by rw [HR2.out, hps]; rfl)
      have HX2 := Lib.hid (hx1d.marks hg ((hset S hps).congr (S' := S) fun j _ => by simp [noMark]))
      clear hps hset hg hx1d hbw y1
      go_wp2
      refine ⟨by kernel_rfl, ?_⟩
      have y0 : W2.cell? ⟨(w.heap.size + 1), 0, none⟩ = some (.int .i64 1) := by rw [cell_of_heap HX2.out.hx]; rfl
      have y1 : W2.cell? ⟨(w.heap.size + 1), 1, none⟩ = some (.slice (some ⟨w.heap.size, 0, none⟩) 256 256) := by rw [cell_of_heap HX2.out.hx]; rfl
      have y2 : W2.cell? ⟨(w.heap.size + 1), 2, none⟩ = some (.int .u8 0) := by rw [cell_of_heap HX2.out.hx]; rfl
      have y3 : W2.cell? ⟨(w.heap.size + 1), 3, none⟩ = some (.int .u8 0) := by rw [cell_of_heap HX2.out.hx]; rfl
      have y4 : W2.cell? ⟨(w.heap.size + 1), 4, none⟩ = some (.int .u8 0) := by rw [cell_of_heap HX2.out.hx]; rfl
      have y5 : W2.cell? ⟨(w.heap.size + 1), 5, none⟩ = some (.int .i64 0) := by rw [cell_of_heap HX2.out.hx]; rfl
      have yf : W2.frozen? ⟨(w.heap.size + 1), 2, none⟩ = false := by simp [World.frozen?, HX2.out.hx]
      have HP := Lib.hid (H.out.grow HX2.out.below)
      have z0 : W2.cell? ⟨ob, 0, none⟩ = some vi := by rw [cell_of_heap HP.out.hr]; rfl
      have zlt := HP.out.lt
      have QW : Hid (∀ q m, quantM ((bytesOf p).drop (k + 2)) = (q, m) → R = .ok ({ s with items := s.items ++ [⟨7, 0, 0, 0, S, q⟩] }, k + 2 - k + m)) := fun q m hq => by rw [HR.out]; exact single_of HB.out (by omega) (by omega) hq
      rcases quant_ways p (k + 2) with hq | ⟨hq, t1, t2, t3, t4, tq⟩ | ⟨hq, t1, tq⟩ | ⟨hq, t1, t2, tq⟩ | ⟨hq, t1, t2, t3, tq⟩ | ⟨hq, t1, t2, t3, t4, tq⟩
      · have HQ := Lib.hid (QW.out _ _ (quant_end hq))
        have HX := HX2
        have HP2 := HP
        have IT := Lib.hid (HX.out.item H.out)
        go_wp2
        refine wp_region_lex mixed (by kernel_rfl) ?_
        go_wp2_with (at_builtin; refine wpList_append_own_at _ rfl (.tmp 109) (.tmp 111) 64 rfl w0.heap.size 114 i14 _ 6 48 Tryd.underlying64 hi14 hi14a hi14b hi14c rfl (by decide) vi s.items.length (rowR s.items vs) rfl ?_ ⟨_, 0, none⟩ 1 1 [_, _, _, _, _, _] rfl rfl (cells_sixR _ _ _ _ _ _ _ _ _ (by simp)) ?_ ?_ ?_ ?_ ?_)
        · exact ownsRow_ext (below_ext ((Below.refl _ _).alloc (Nat.le_refl _) _).drew (Nat.le_refl _)) HP2.out.oi
        · intro u hu
          simp only [List.mem_cons, List.not_mem_nil, or_false] at hu
          rcases hu with rfl | rfl | rfl | rfl | rfl | rfl <;> rfl
        · unfold maxLen; omega
        · omega
        · first | (have := HP2.out.below.size; simp at this ⊢; omega) | (have := HP2.out.below.size; simp; omega)
        · intro v1 w1 hown hgrow _ hat
          obtain ⟨g1, cap1, rfl⟩ := slice_shape hown (by omega)
          have hr1 := hr_push ((Below.refl _ _).alloc (Nat.le_refl _) _).drew hgrow HP2.out.hr HP2.out.five.oa
          have c10 : w1.cell? ⟨ob, 0, none⟩ = some vi := by rw [cell_of_heap hr1]; rfl
          have f10 : w1.frozen? ⟨ob, 0, none⟩ = false := by simp [World.frozen?, hr1]
          have H1 := Lib.hid (HP2.out.pushItem ((Below.refl _ _).alloc (Nat.le_refl _) _).drew IT.out hown hgrow (by simpa using hat))
          clear hown hgrow hat hr1
          go_wp2
          refine ⟨by kernel_rfl, ?_⟩
          go_wp2
          go_ret2
          exact sg_ok HQ.out (by omega) ⟨_, _, _, _, _, _, H1.out, pinv_items HV.out _⟩
      · have HQ := Lib.hid (QW.out _ _ (quant_no hq tq))
        clear tq
        have HX := HX2
        have HP2 := HP
        have IT := Lib.hid (HX.out.item H.out)
        go_wp2
        refine wp_region_lex mixed (by kernel_rfl) ?_
        go_wp2_with (at_builtin; refine wpList_append_own_at _ rfl (.tmp 109) (.tmp 111) 64 rfl w0.heap.size 114 i14 _ 6 48 Tryd.underlying64 hi14 hi14a hi14b hi14c rfl (by decide) vi s.items.length (rowR s.items vs) rfl ?_ ⟨_, 0, none⟩ 1 1 [_, _, _, _, _, _] rfl rfl (cells_sixR _ _ _ _ _ _ _ _ _ (by simp)) ?_ ?_ ?_ ?_ ?_)
        · exact ownsRow_ext (below_ext ((Below.refl _ _).alloc (Nat.le_refl _) _).drew (Nat.le_refl _)) HP2.out.oi
        · intro u hu
          simp only [List.mem_cons, List.not_mem_nil, or_false] at hu
          rcases hu with rfl | rfl | rfl | rfl | rfl | rfl <;> rfl
        · unfold maxLen; omega
        · omega
        · first | (have := HP2.out.below.size; simp at this ⊢; omega) | (have := HP2.out.below.size; simp; omega)
        · intro v1 w1 hown hgrow _ hat
          obtain ⟨g1, cap1, rfl⟩ := slice_shape hown (by omega)
          have hr1 := hr_push ((Below.refl _ _).alloc (Nat.le_refl _) _).drew hgrow HP2.out.hr HP2.out.five.oa
          have c10 : w1.cell? ⟨ob, 0, none⟩ = some vi := by rw [cell_of_heap hr1]; rfl
          have f10 : w1.frozen? ⟨ob, 0, none⟩ = false := by simp [World.frozen?, hr1]
          have H1 := Lib.hid (HP2.out.pushItem ((Below.refl _ _).alloc (Nat.le_refl _) _).drew IT.out hown hgrow (by simpa using hat))
          clear hown hgrow hat hr1
          go_wp2
          refine ⟨by kernel_rfl, ?_⟩
          go_wp2
          go_ret2
          exact sg_ok HQ.out (by omega) ⟨_, _, _, _, _, _, H1.out, pinv_items HV.out _⟩
      · have HQ := Lib.hid (QW.out _ _ (quant_yes hq tq))
        clear tq
        have HX := Lib.hid (HX2.out.quant p[k + 2].toNat)
        have HP2 := Lib.hid (H.out.grow HX.out.below)
        have IT := Lib.hid (HX.out.item H.out)
        go_wp2
        refine wp_region_lex mixed (by kernel_rfl) ?_
        go_wp2_with (at_builtin; refine wpList_append_own_at _ rfl (.tmp 109) (.tmp 111) 64 rfl w0.heap.size 114 i14 _ 6 48 Tryd.underlying64 hi14 hi14a hi14b hi14c rfl (by decide) vi s.items.length (rowR s.items vs) rfl ?_ ⟨_, 0, none⟩ 1 1 [_, _, _, _, _, _] rfl rfl (cells_sixR _ _ _ _ _ _ _ _ _ (by simp)) ?_ ?_ ?_ ?_ ?_)
        · exact ownsRow_ext (below_ext ((Below.refl _ _).alloc (Nat.le_refl _) _).drew (Nat.le_refl _)) HP2.out.oi
        · intro u hu
          simp only [List.mem_cons, List.not_mem_nil, or_false] at hu
          rcases hu with rfl | rfl | rfl | rfl | rfl | rfl <;> rfl
        · unfold maxLen; omega
        · omega
        · first | (have := HP2.out.below.size; simp at this ⊢; omega) | (have := HP2.out.below.size; simp; omega)
        · intro v1 w1 hown hgrow _ hat
          obtain ⟨g1, cap1, rfl⟩ := slice_shape hown (by omega)
          have hr1 := hr_push ((Below.refl _ _).alloc (Nat.le_refl _) _).drew hgrow HP2.out.hr HP2.out.five.oa
          have c10 : w1.cell? ⟨ob, 0, none⟩ = some vi := by rw [cell_of_heap hr1]; rfl
          have f10 : w1.frozen? ⟨ob, 0, none⟩ = false := by simp [World.frozen?, hr1]
          have H1 := Lib.hid (HP2.out.pushItem ((Below.refl _ _).alloc (Nat.le_refl _) _).drew IT.out hown hgrow (by simpa using hat))
          clear hown hgrow hat hr1
          go_wp2
          refine ⟨by kernel_rfl, ?_⟩
          go_wp2
          go_ret2
          exact sg_ok HQ.out (by omega) ⟨_, _, _, _, _, _, H1.out, pinv_items HV.out _⟩
      · have HQ := Lib.hid (QW.out _ _ (quant_yes hq tq))
        clear tq
        have HX := Lib.hid (HX2.out.quant p[k + 2].toNat)
        have HP2 := Lib.hid (H.out.grow HX.out.below)
        have IT := Lib.hid (HX.out.item H.out)
        go_wp2
        refine wp_region_lex mixed (by kernel_rfl) ?_
        go_wp2_with (at_builtin; refine wpList_append_own_at _ rfl (.tmp 109) (.tmp 111) 64 rfl w0.heap.size 114 i14 _ 6 48 Tryd.underlying64 hi14 hi14a hi14b hi14c rfl (by decide) vi s.items.length (rowR s.items vs) rfl ?_ ⟨_, 0, none⟩ 1 1 [_, _, _, _, _, _] rfl rfl (cells_sixR _ _ _ _ _ _ _ _ _ (by simp)) ?_ ?_ ?_ ?_ ?_)
        · exact ownsRow_ext (below_ext ((Below.refl _ _).alloc (Nat.le_refl _) _).drew (Nat.le_refl _)) HP2.out.oi
        · intro u hu
          simp only [List.mem_cons, List.not_mem_nil, or_false] at hu
          rcases hu with rfl | rfl | rfl | rfl | rfl | rfl <;> rfl
        · unfold maxLen; omega
        · omega
        · first | (have := HP2.out.below.size; simp at this ⊢; omega) | (have := HP2.out.below.size; simp; omega)
        · intro v1 w1 hown hgrow _ hat
          obtain ⟨g1, cap1, rfl⟩ := slice_shape hown (by omega)
          have hr1 := hr_push ((Below.refl _ _).alloc (Nat.le_refl _) _).drew hgrow HP2.out.hr HP2.out.five.oa
          have c10 : w1.cell? ⟨ob, 0, none⟩ = some vi := by rw [cell_of_heap hr1]; rfl
          have f10 : w1.frozen? ⟨ob, 0, none⟩ = false := by simp [World.frozen?, hr1]
          have H1 := Lib.hid (HP2.out.pushItem ((Below.refl _ _).alloc (Nat.le_refl _) _).drew IT.out hown hgrow (by simpa using hat))
          clear hown hgrow hat hr1
          go_wp2
          refine ⟨by kernel_rfl, ?_⟩
          go_wp2
          go_ret2
          exact sg_ok HQ.out (by omega) ⟨_, _, _, _, _, _, H1.out, pinv_items HV.out _⟩
      · have HQ := Lib.hid (QW.out _ _ (quant_yes hq tq))
        clear tq
        have HX := Lib.hid (HX2.out.quant p[k + 2].toNat)
        have HP2 := Lib.hid (H.out.grow HX.out.below)
        have IT := Lib.hid (HX.out.item H.out)
        go_wp2
        refine wp_region_lex mixed (by kernel_rfl) ?_
        go_wp2_with (at_builtin; refine wpList_append_own_at _ rfl (.tmp 109) (.tmp 111) 64 rfl w0.heap.size 114 i14 _ 6 48 Tryd.underlying64 hi14 hi14a hi14b hi14c rfl (by decide) vi s.items.length (rowR s.items vs) rfl ?_ ⟨_, 0, none⟩ 1 1 [_, _, _, _, _, _] rfl rfl (cells_sixR _ _ _ _ _ _ _ _ _ (by simp)) ?_ ?_ ?_ ?_ ?_)
        · exact ownsRow_ext (below_ext ((Below.refl _ _).alloc (Nat.le_refl _) _).drew (Nat.le_refl _)) HP2.out.oi
        · intro u hu
          simp only [List.mem_cons, List.not_mem_nil, or_false] at hu
          rcases hu with rfl | rfl | rfl | rfl | rfl | rfl <;> rfl
        · unfold maxLen; omega
        · omega
        · first | (have := HP2.out.below.size; simp at this ⊢; omega) | (have := HP2.out.below.size; simp; omega)
        · intro v1 w1 hown hgrow _ hat
          obtain ⟨g1, cap1, rfl⟩ := slice_shape hown (by omega)
          have hr1 := hr_push ((Below.refl _ _).alloc (Nat.le_refl _) _).drew hgrow HP2.out.hr HP2.out.five.oa
          have c10 : w1.cell? ⟨ob, 0, none⟩ = some vi := by rw [cell_of_heap hr1]; rfl
          have f10 : w1.frozen? ⟨ob, 0, none⟩ = false := by simp [World.frozen?, hr1]
          have H1 := Lib.hid (HP2.out.pushItem ((Below.refl _ _).alloc (Nat.le_refl _) _).drew IT.out hown hgrow (by simpa using hat))
          clear hown hgrow hat hr1
          go_wp2
          refine ⟨by kernel_rfl, ?_⟩
          go_wp2
          go_ret2
          exact sg_ok HQ.out (by omega) ⟨_, _, _, _, _, _, H1.out, pinv_items HV.out _⟩
      · have HQ := Lib.hid (QW.out _ _ (quant_yes hq tq))
        clear tq
        have HX := Lib.hid (HX2.out.quant p[k + 2].toNat)
        have HP2 := Lib.hid (H.out.grow HX.out.below)
        have IT := Lib.hid (HX.out.item H.out)
        go_wp2
        refine wp_region_lex mixed (by kernel_rfl) ?_
        go_wp2_with (at_builtin; refine wpList_append_own_at _ rfl (.tmp 109) (.tmp 111) 64 rfl w0.heap.size 114 i14 _ 6 48 Tryd.underlying64 hi14 hi14a hi14b hi14c rfl (by decide) vi s.items.length (rowR s.items vs) rfl ?_ ⟨_, 0, none⟩ 1 1 [_, _, _, _, _, _] rfl rfl (cells_sixR _ _ _ _ _ _ _ _ _ (by simp)) ?_ ?_ ?_ ?_ ?_)
        · exact ownsRow_ext (below_ext ((Below.refl _ _).alloc (Nat.le_refl _) _).drew (Nat.le_refl _)) HP2.out.oi
        · intro u hu
          simp only [List.mem_cons, List.not_mem_nil, or_false] at hu
          rcases hu with rfl | rfl | rfl | rfl | rfl | rfl <;> rfl
        · unfold maxLen; omega
        · omega
        · first | (have := HP2.out.below.size; simp at this ⊢; omega) | (have := HP2.out.below.size; simp; omega)
        · intro v1 w1 hown hgrow _ hat
          obtain ⟨g1, cap1, rfl⟩ := slice_shape hown (by omega)
          have hr1 := hr_push ((Below.refl _ _).alloc (Nat.le_refl _) _).drew hgrow HP2.out.hr HP2.out.five.oa
          have c10 : w1.cell? ⟨ob, 0, none⟩ = some vi := by rw [cell_of_heap hr1]; rfl
          have f10 : w1.frozen? ⟨ob, 0, none⟩ = false := by simp [World.frozen?, hr1]
          have H1 := Lib.hid (HP2.out.pushItem ((Below.refl _ _).alloc (Nat.le_refl _) _).drew IT.out hown hgrow (by simpa using hat))
          clear hown hgrow hat hr1
          go_wp2
          refine ⟨by kernel_rfl, ?_⟩
          go_wp2
          go_ret2
          exact sg_ok HQ.out (by omega) ⟨_, _, _, _, _, _, H1.out, pinv_items HV.out _⟩
  · have HE := Lib.hid (show R = .error 4 by rw [HR.out]; exact single_err (by rw [hR2, bytesOf_end p (k + 1) (by omega)]))
    clear hR2
    go_enter Tryd.func51, Tryd.ntmps51
    go_wp2_with (simp only [hmk])
    obtain ⟨W1, hW1⟩ : ∃ W1, W1 = (w.alloc (.cells (setC noMark) 4)).alloc (.cells #[.int .i64 1, .slice (some ⟨w.heap.size, 0, none⟩) 256 256, .int .u8 0, .int .u8 0, .int .u8 0, .int .i64 0] 114) := ⟨_, rfl⟩
    have hx1 := XSt.start w
    rw [← hW1] at hx1 ⊢
    have hsz : w.heap.size < W1.heap.size := by rw [hW1]; simp; omega
    have hox : ob ≠ (w.heap.size + 1) := by omega
    have hxo : (w.heap.size + 1) ≠ ob := by omega
    have hos : ob ≠ w.heap.size := by omega
    have HBB := Lib.hid (H.out.below.trans (hx1.below.drew.mono H.out.below.size))
    clear hW1 hx1 hmk
    have tg1 : decide ((p.size : Int) ≤ (k : Int) + 1) = true := by simp; omega
    have tg2 : decide (p.size ≤ k + 1) = true := by simp; omega
    refine wp_region_lex mixed (by kernel_rfl) ?_
    go_wp2
    refine ⟨by kernel_rfl, ?_⟩
    go_wp2
    go_ret2
    exact sg_err HE.out HBB.out
set_option maxRecDepth 100000 in
set_option maxHeartbeats 8000000 in
theorem sing_set {w0 w : World} {ob : Nat} {anc fin : Bool} {s : St} {ps : List Bool} {vi vo vc vp : Value} {vs : List Value} (h : PSt w0 ob w anc fin s ps vi vo vc vp vs) (hv : RInv s ps) (p : ByteArray) (k : Nat) (hk : k < p.size) (hp : p.size ≤ 5000) (hi : s.items.length ≤ k) (hc : p[k].toNat = 91) :
    Calls Tryd.prog 51 #[.pointer (some ⟨ob, 0, none⟩), .string p, .int .i64 k] w (SgPost w0 ob anc fin k (singleM p[k].toNat ((bytesOf p).drop (k + 1)) s)) := by
  obtain ⟨i14, hi14, hi14a, hi14b, hi14c⟩ := info_parts Tryd.info114
  obtain ⟨R, hR⟩ : ∃ R, R = singleM p[k].toNat ((bytesOf p).drop (k + 1)) s := ⟨_, rfl⟩
  rw [← hR]
  have HR := Lib.hid hR
  have H := Lib.hid h
  have HV := Lib.hid hv
  have hlt := h.lt
  clear hR h hv
  have hmk := make_marks
  have t46 : ((p[k].toNat : Int) == 46) = false := by rw [beq_eq_false_iff_ne]; omega
  have t37 : ((p[k].toNat : Int) == 37) = false := by rw [beq_eq_false_iff_ne]; omega
  have t91 : ((p[k].toNat : Int) == 91) = true := by rw [hc]; rfl
  have HR2 := Lib.hid (show baseM p[k].toNat ((bytesOf p).drop (k + 1)) = setM ((bytesOf p).drop (k + 1)) by unfold baseM; rw [if_neg (by omega), if_neg (by omega), if_pos hc])
  clear hc
  go_enter Tryd.func51, Tryd.ntmps51
  go_wp2_with (simp only [hmk])
  obtain ⟨W1, hW1⟩ : ∃ W1, W1 = (w.alloc (.cells (setC noMark) 4)).alloc (.cells #[.int .i64 1, .slice (some ⟨w.heap.size, 0, none⟩) 256 256, .int .u8 0, .int .u8 0, .int .u8 0, .int .i64 0] 114) := ⟨_, rfl⟩
  have hx1 := XSt.start w
  rw [← hW1] at hx1 ⊢
  have hsz : w.heap.size < W1.heap.size := by rw [hW1]; simp; omega
  have hox : ob ≠ (w.heap.size + 1) := by omega
  have hxo : (w.heap.size + 1) ≠ ob := by omega
  have hos : ob ≠ w.heap.size := by omega
  have HX1 := Lib.hid hx1
  have RS := Lib.hid (readSet_c p (k : Int) k rfl hk hp W1)
  clear hW1 hx1 hmk
  refine RS.out.mono ?_
  rintro e W2 ⟨hb, hq⟩
  cases hsm : setM ((bytesOf p).drop (k + 1)) with
  | none =>
    rw [hsm] at hq
    obtain rfl := hq
    have HE := Lib.hid (show R = .error 4 by rw [HR.out]; exact single_err (by rw [HR2.out, hsm]))
    have hbb := HX1.out.below.trans (hb.mono HX1.out.below.size)
    have HBB := Lib.hid (H.out.below.trans (hbb.mono H.out.below.size))
    clear hsm hb hbb
    go_wp2
    go_ret2
    exact sg_err HE.out HBB.out
  | some q =>
    obtain ⟨S, rest⟩ := q
    rw [hsm] at hq
    obtain ⟨rfl, hset⟩ := hq
    have hlen := setM_len' hsm
    rw [List.length_drop, bytesOf_length] at hlen
    simp only at hlen
    obtain ⟨N, hN⟩ : ∃ N : Nat, N = p.size - rest.length := ⟨_, rfl⟩
    have hN1 : N ≤ p.size := by omega
    have hN2 : k + 2 ≤ N := by omega
    have HB := Lib.hid (show baseM p[k].toNat ((bytesOf p).drop (k + 1)) = some (S, (bytesOf p).drop N) by rw [HR2.out, hsm, hN, ← suffix_drop (setM_suffix hsm)])
    have hxn := HX1.out.newSet hb hset
    obtain ⟨sb2, hsb2⟩ : ∃ sb2, sb2 = W1.heap.size := ⟨_, rfl⟩
    rw [← hsb2] at hxn ⊢
    rw [← hN]
    have hxx := (below_ext hb (Nat.le_refl _)).get HX1.out.hx
    have yf1 : W2.frozen? ⟨(w.heap.size + 1), 1, none⟩ = false := by simp [World.frozen?, hxx]
    have hbb := HX1.out.below.trans (hb.mono HX1.out.below.size)
    have y0 : W2.cell? ⟨(w.heap.size + 1), 0, none⟩ = some (.int .i64 1) := by rw [cell_of_heap hxx]; rfl
    have y1 : W2.cell? ⟨(w.heap.size + 1), 1, none⟩ = some (.slice (some ⟨w.heap.size, 0, none⟩) 256 256) := by rw [cell_of_heap hxx]; rfl
    have y2 : W2.cell? ⟨(w.heap.size + 1), 2, none⟩ = some (.int .u8 0) := by rw [cell_of_heap hxx]; rfl
    have y3 : W2.cell? ⟨(w.heap.size + 1), 3, none⟩ = some (.int .u8 0) := by rw [cell_of_heap hxx]; rfl
    have y4 : W2.cell? ⟨(w.heap.size + 1), 4, none⟩ = some (.int .u8 0) := by rw [cell_of_heap hxx]; rfl
    have y5 : W2.cell? ⟨(w.heap.size + 1), 5, none⟩ = some (.int .i64 0) := by rw [cell_of_heap hxx]; rfl
    have yf : W2.frozen? ⟨(w.heap.size + 1), 2, none⟩ = false := by simp [World.frozen?, hxx]
    have HP := Lib.hid (H.out.grow hbb)
    have z0 : W2.cell? ⟨ob, 0, none⟩ = some vi := by rw [cell_of_heap HP.out.hr]; rfl
    have zlt := HP.out.lt
    have HXN := Lib.hid hxn
    clear hsm hb hset hlen hN hxn hxx hsb2 hos hbb HP
    have HP := Lib.hid (H.out.grow HXN.out.below)
    have QW : Hid (∀ q m, quantM ((bytesOf p).drop (N)) = (q, m) → R = .ok ({ s with items := s.items ++ [⟨7, 0, 0, 0, S, q⟩] }, N - k + m)) := fun q m hq => by rw [HR.out]; exact single_of HB.out (by omega) (by omega) hq
    rcases quant_ways p (N) with hq | ⟨hq, t1, t2, t3, t4, tq⟩ | ⟨hq, t1, tq⟩ | ⟨hq, t1, t2, tq⟩ | ⟨hq, t1, t2, t3, tq⟩ | ⟨hq, t1, t2, t3, t4, tq⟩
    · have HQ := Lib.hid (QW.out _ _ (quant_end hq))
      have HX := HXN
      have HP2 := HP
      have IT := Lib.hid (HX.out.item H.out)
      go_wp2
      refine wp_region_lex mixed (by kernel_rfl) ?_
      go_wp2_with (at_builtin; refine wpList_append_own_at _ rfl (.tmp 109) (.tmp 111) 64 rfl w0.heap.size 114 i14 _ 6 48 Tryd.underlying64 hi14 hi14a hi14b hi14c rfl (by decide) vi s.items.length (rowR s.items vs) rfl ?_ ⟨_, 0, none⟩ 1 1 [_, _, _, _, _, _] rfl rfl (cells_sixR _ _ _ _ _ _ _ _ _ (by simp)) ?_ ?_ ?_ ?_ ?_)
      · exact ownsRow_ext (below_ext ((Below.refl _ _).alloc (Nat.le_refl _) _).drew (Nat.le_refl _)) HP2.out.oi
      · intro u hu
        simp only [List.mem_cons, List.not_mem_nil, or_false] at hu
        rcases hu with rfl | rfl | rfl | rfl | rfl | rfl <;> rfl
      · unfold maxLen; omega
      · omega
      · first | (have := HP2.out.below.size; simp at this ⊢; omega) | (have := HP2.out.below.size; simp; omega)
      · intro v1 w1 hown hgrow _ hat
        obtain ⟨g1, cap1, rfl⟩ := slice_shape hown (by omega)
        have hr1 := hr_push ((Below.refl _ _).alloc (Nat.le_refl _) _).drew hgrow HP2.out.hr HP2.out.five.oa
        have c10 : w1.cell? ⟨ob, 0, none⟩ = some vi := by rw [cell_of_heap hr1]; rfl
        have f10 : w1.frozen? ⟨ob, 0, none⟩ = false := by simp [World.frozen?, hr1]
        have H1 := Lib.hid (HP2.out.pushItem ((Below.refl _ _).alloc (Nat.le_refl _) _).drew IT.out hown hgrow (by simpa using hat))
        clear hown hgrow hat hr1
        go_wp2
        refine ⟨by kernel_rfl, ?_⟩
        go_wp2
        go_ret2
        exact sg_ok HQ.out (by omega) ⟨_, _, _, _, _, _, H1.out, pinv_items HV.out _⟩
    · have HQ := Lib.hid (QW.out _ _ (quant_no hq tq))
      clear tq
      have HX := HXN
      have HP2 := HP
      have IT := Lib.hid (HX.out.item H.out)
      go_wp2
      refine wp_region_lex mixed (by kernel_rfl) ?_
      go_wp2_with (at_builtin; refine wpList_append_own_at _ rfl (.tmp 109) (.tmp 111) 64 rfl w0.heap.size 114 i14 _ 6 48 Tryd.underlying64 hi14 hi14a hi14b hi14c rfl (by decide) vi s.items.length (rowR s.items vs) rfl ?_ ⟨_, 0, none⟩ 1 1 [_, _, _, _, _, _] rfl rfl (cells_sixR _ _ _ _ _ _ _ _ _ (by simp)) ?_ ?_ ?_ ?_ ?_)
      · exact ownsRow_ext (below_ext ((Below.refl _ _).alloc (Nat.le_refl _) _).drew (Nat.le_refl _)) HP2.out.oi
      · intro u hu
        simp only [List.mem_cons, List.not_mem_nil, or_false] at hu
        rcases hu with rfl | rfl | rfl | rfl | rfl | rfl <;> rfl
      · unfold maxLen; omega
      · omega
      · first | (have := HP2.out.below.size; simp at this ⊢; omega) | (have := HP2.out.below.size; simp; omega)
      · intro v1 w1 hown hgrow _ hat
        obtain ⟨g1, cap1, rfl⟩ := slice_shape hown (by omega)
        have hr1 := hr_push ((Below.refl _ _).alloc (Nat.le_refl _) _).drew hgrow HP2.out.hr HP2.out.five.oa
        have c10 : w1.cell? ⟨ob, 0, none⟩ = some vi := by rw [cell_of_heap hr1]; rfl
        have f10 : w1.frozen? ⟨ob, 0, none⟩ = false := by simp [World.frozen?, hr1]
        have H1 := Lib.hid (HP2.out.pushItem ((Below.refl _ _).alloc (Nat.le_refl _) _).drew IT.out hown hgrow (by simpa using hat))
        clear hown hgrow hat hr1
        go_wp2
        refine ⟨by kernel_rfl, ?_⟩
        go_wp2
        go_ret2
        exact sg_ok HQ.out (by omega) ⟨_, _, _, _, _, _, H1.out, pinv_items HV.out _⟩
    · have HQ := Lib.hid (QW.out _ _ (quant_yes hq tq))
      clear tq
      have HX := Lib.hid (HXN.out.quant p[N].toNat)
      have HP2 := Lib.hid (H.out.grow HX.out.below)
      have IT := Lib.hid (HX.out.item H.out)
      go_wp2
      refine wp_region_lex mixed (by kernel_rfl) ?_
      go_wp2_with (at_builtin; refine wpList_append_own_at _ rfl (.tmp 109) (.tmp 111) 64 rfl w0.heap.size 114 i14 _ 6 48 Tryd.underlying64 hi14 hi14a hi14b hi14c rfl (by decide) vi s.items.length (rowR s.items vs) rfl ?_ ⟨_, 0, none⟩ 1 1 [_, _, _, _, _, _] rfl rfl (cells_sixR _ _ _ _ _ _ _ _ _ (by simp)) ?_ ?_ ?_ ?_ ?_)
      · exact ownsRow_ext (below_ext ((Below.refl _ _).alloc (Nat.le_refl _) _).drew (Nat.le_refl _)) HP2.out.oi
      · intro u hu
        simp only [List.mem_cons, List.not_mem_nil, or_false] at hu
        rcases hu with rfl | rfl | rfl | rfl | rfl | rfl <;> rfl
      · unfold maxLen; omega
      · omega
      · first | (have := HP2.out.below.size; simp at this ⊢; omega) | (have := HP2.out.below.size; simp; omega)
      · intro v1 w1 hown hgrow _ hat
        obtain ⟨g1, cap1, rfl⟩ := slice_shape hown (by omega)
        have hr1 := hr_push ((Below.refl _ _).alloc (Nat.le_refl _) _).drew hgrow HP2.out.hr HP2.out.five.oa
        have c10 : w1.cell? ⟨ob, 0, none⟩ = some vi := by rw [cell_of_heap hr1]; rfl
        have f10 : w1.frozen? ⟨ob, 0, none⟩ = false := by simp [World.frozen?, hr1]
        have H1 := Lib.hid (HP2.out.pushItem ((Below.refl _ _).alloc (Nat.le_refl _) _).drew IT.out hown hgrow (by simpa using hat))
        clear hown hgrow hat hr1
        go_wp2
        refine ⟨by kernel_rfl, ?_⟩
        go_wp2
        go_ret2
        exact sg_ok HQ.out (by omega) ⟨_, _, _, _, _, _, H1.out, pinv_items HV.out _⟩
    · have HQ := Lib.hid (QW.out _ _ (quant_yes hq tq))
      clear tq
      have HX := Lib.hid (HXN.out.quant p[N].toNat)
      have HP2 := Lib.hid (H.out.grow HX.out.below)
      have IT := Lib.hid (HX.out.item H.out)
      go_wp2
      refine wp_region_lex mixed (by kernel_rfl) ?_
      go_wp2_with (at_builtin; refine wpList_append_own_at _ rfl (.tmp 109) (.tmp 111) 64 rfl w0.heap.size 114 i14 _ 6 48 Tryd.underlying64 hi14 hi14a hi14b hi14c rfl (by decide) vi s.items.length (rowR s.items vs) rfl ?_ ⟨_, 0, none⟩ 1 1 [_, _, _, _, _, _] rfl rfl (cells_sixR _ _ _ _ _ _ _ _ _ (by simp)) ?_ ?_ ?_ ?_ ?_)
      · exact ownsRow_ext (below_ext ((Below.refl _ _).alloc (Nat.le_refl _) _).drew (Nat.le_refl _)) HP2.out.oi
      · intro u hu
        simp only [List.mem_cons, List.not_mem_nil, or_false] at hu
        rcases hu with rfl | rfl | rfl | rfl | rfl | rfl <;> rfl
      · unfold maxLen; omega
      · omega
      · first | (have := HP2.out.below.size; simp at this ⊢; omega) | (have := HP2.out.below.size; simp; omega)
      · intro v1 w1 hown hgrow _ hat
        obtain ⟨g1, cap1, rfl⟩ := slice_shape hown (by omega)
        have hr1 := hr_push ((Below.refl _ _).alloc (Nat.le_refl _) _).drew hgrow HP2.out.hr HP2.out.five.oa
        have c10 : w1.cell? ⟨ob, 0, none⟩ = some vi := by rw [cell_of_heap hr1]; rfl
        have f10 : w1.frozen? ⟨ob, 0, none⟩ = false := by simp [World.frozen?, hr1]
        have H1 := Lib.hid (HP2.out.pushItem ((Below.refl _ _).alloc (Nat.le_refl _) _).drew IT.out hown hgrow (by simpa using hat))
        clear hown hgrow hat hr1
        go_wp2
        refine ⟨by kernel_rfl, ?_⟩
        go_wp2
        go_ret2
        exact sg_ok HQ.out (by omega) ⟨_, _, _, _, _, _, H1.out, pinv_items HV.out _⟩
    · have HQ := Lib.hid (QW.out _ _ (quant_yes hq tq))
      clear tq
      have HX := Lib.hid (HXN.out.quant p[N].toNat)
      have HP2 := Lib.hid (H.out.grow HX.out.below)
      have IT := Lib.hid (HX.out.item H.out)
      go_wp2
      refine wp_region_lex mixed (by kernel_rfl) ?_
      go_wp2_with (at_builtin; refine wpList_append_own_at _ rfl (.tmp 109) (.tmp 111) 64 rfl w0.heap.size 114 i14 _ 6 48 Tryd.underlying64 hi14 hi14a hi14b hi14c rfl (by decide) vi s.items.length (rowR s.items vs) rfl ?_ ⟨_, 0, none⟩ 1 1 [_, _, _, _, _, _] rfl rfl (cells_sixR _ _ _ _ _ _ _ _ _ (by simp)) ?_ ?_ ?_ ?_ ?_)
      · exact ownsRow_ext (below_ext ((Below.refl _ _).alloc (Nat.le_refl _) _).drew (Nat.le_refl _)) HP2.out.oi
      · intro u hu
        simp only [List.mem_cons, List.not_mem_nil, or_false] at hu
        rcases hu with rfl | rfl | rfl | rfl | rfl | rfl <;> rfl
      · unfold maxLen; omega
      · omega
      · first | (have := HP2.out.below.size; simp at this ⊢; omega) | (have := HP2.out.below.size; simp; omega)
      · intro v1 w1 hown hgrow _ hat
        obtain ⟨g1, cap1, rfl⟩ := slice_shape hown (by omega)
        have hr1 := hr_push ((Below.refl _ _).alloc (Nat.le_refl _) _).drew hgrow HP2.out.hr HP2.out.five.oa
        have c10 : w1.cell? ⟨ob, 0, none⟩ = some vi := by rw [cell_of_heap hr1]; rfl
        have f10 : w1.frozen? ⟨ob, 0, none⟩ = false := by simp [World.frozen?, hr1]
        have H1 := Lib.hid (HP2.out.pushItem ((Below.refl _ _).alloc (Nat.le_refl _) _).drew IT.out hown hgrow (by simpa using hat))
        clear hown hgrow hat hr1
        go_wp2
        refine ⟨by kernel_rfl, ?_⟩
        go_wp2
        go_ret2
        exact sg_ok HQ.out (by omega) ⟨_, _, _, _, _, _, H1.out, pinv_items HV.out _⟩
    · have HQ := Lib.hid (QW.out _ _ (quant_yes hq tq))
      clear tq
      have HX := Lib.hid (HXN.out.quant p[N].toNat)
      have HP2 := Lib.hid (H.out.grow HX.out.below)
      have IT := Lib.hid (HX.out.item H.out)
      go_wp2
      refine wp_region_lex mixed (by kernel_rfl) ?_
      go_wp2_with (at_builtin; refine wpList_append_own_at _ rfl (.tmp 109) (.tmp 111) 64 rfl w0.heap.size 114 i14 _ 6 48 Tryd.underlying64 hi14 hi14a hi14b hi14c rfl (by decide) vi s.items.length (rowR s.items vs) rfl ?_ ⟨_, 0, none⟩ 1 1 [_, _, _, _, _, _] rfl rfl (cells_sixR _ _ _ _ _ _ _ _ _ (by simp)) ?_ ?_ ?_ ?_ ?_)
      · exact ownsRow_ext (below_ext ((Below.refl _ _).alloc (Nat.le_refl _) _).drew (Nat.le_refl _)) HP2.out.oi
      · intro u hu
        simp only [List.mem_cons, List.not_mem_nil, or_false] at hu
        rcases hu with rfl | rfl | rfl | rfl | rfl | rfl <;> rfl
      · unfold maxLen; omega
      · omega
      · first | (have := HP2.out.below.size; simp at this ⊢; omega) | (have := HP2.out.below.size; simp; omega)
      · intro v1 w1 hown hgrow _ hat
        obtain ⟨g1, cap1, rfl⟩ := slice_shape hown (by omega)
        have hr1 := hr_push ((Below.refl _ _).alloc (Nat.le_refl _) _).drew hgrow HP2.out.hr HP2.out.five.oa
        have c10 : w1.cell? ⟨ob, 0, none⟩ = some vi := by rw [cell_of_heap hr1]; rfl
        have f10 : w1.frozen? ⟨ob, 0, none⟩ = false := by simp [World.frozen?, hr1]
        have H1 := Lib.hid (HP2.out.pushItem ((Below.refl _ _).alloc (Nat.le_refl _) _).drew IT.out hown hgrow (by simpa using hat))
        clear hown hgrow hat hr1
        go_wp2
        refine ⟨by kernel_rfl, ?_⟩
        go_wp2
        go_ret2
        exact sg_ok HQ.out (by omega) ⟨_, _, _, _, _, _, H1.out, pinv_items HV.out _⟩
theorem readSingle_c {w0 w : World} {ob : Nat} {anc fin : Bool} {s : St} {ps : List Bool} {vi vo vc vp : Value} {vs : List Value} (h : PSt w0 ob w anc fin s ps vi vo vc vp vs) (hv : RInv s ps) (p : ByteArray) (k : Nat) (hk : k < p.size) (hp : p.size ≤ 5000) (hi : s.items.length ≤ k) : Calls Tryd.prog 51 #[.pointer (some ⟨ob, 0, none⟩), .string p, .int .i64 k] w (SgPost w0 ob anc fin k (singleM p[k].toNat ((bytesOf p).drop (k + 1)) s)) := by
  by_cases h1 : p[k].toNat = 46
  · exact sing_dot h hv p k hk hp hi h1
  · by_cases h2 : p[k].toNat = 37
    · exact sing_pct h hv p k hk hp hi h2
    · by_cases h3 : p[k].toNat = 91
      · exact sing_set h hv p k hk hp hi h3
      · exact sing_plain h hv p k hk hp hi h1 h2 h3
end Go.Proofs.YtpbhncmaamedhaaDoor
