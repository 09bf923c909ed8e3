import Derived.Test.YtpbhncmaamedhaaDoorRP2
import Derived.Test.YtpbhncmaamedhaaDoorParse
namespace Go.Proofs.YtpbhncmaamedhaaDoor
open Go.RowKit Go.Proofs.Lexi

/-! The reference's readSingle (51). -/
def SgPost (w0 : World) (ob : Nat) (anc fin : Bool) (k : Nat) (R : Except Nat (St × Nat)) (e : Ending) (w' : World) : Prop :=
  match R with
  | .error _ => e = .returned (.tuple #[.int .i64 0, .bool false]) ∧ Below w0.heap.size w0 w'
  | .ok (s', m) => e = .returned (.tuple #[.int .i64 ((k + m : Nat) : Int), .bool true]) ∧ PPost w0 ob anc fin s' w'
section
variable {w0 w' : World} {ob : Nat} {anc fin : Bool} {k : Nat} {s' : St} {R : Except Nat (St × Nat)}
theorem sg_err {c : Nat} (hR : R = .error c) (h : Below w0.heap.size w0 w') : SgPost w0 ob anc fin k R (.returned (.tuple #[.int .i64 0, .bool false])) w' := by subst hR; exact ⟨rfl, h⟩
theorem sg_ok {m : Nat} {n : Int} (hR : R = .ok (s', m)) (hn : n = ((k + m : Nat) : Int)) (h : PPost w0 ob anc fin s' w') : SgPost w0 ob anc fin k R (.returned (.tuple #[.int .i64 n, .bool true])) w' := by subst hR hn; exact ⟨rfl, h⟩
end
theorem quant_ways (p : ByteArray) (nx : Nat) : (p.size ≤ nx) ∨ (∃ h : nx < p.size, ((p[nx].toNat : Int) == 42) = false ∧ ((p[nx].toNat : Int) == 43) = false ∧ ((p[nx].toNat : Int) == 45) = false ∧ ((p[nx].toNat : Int) == 63) = false ∧ isQ p[nx].toNat = false)
    ∨ (∃ h : nx < p.size, ((p[nx].toNat : Int) == 42) = true ∧ isQ p[nx].toNat = true) ∨ (∃ h : nx < p.size, ((p[nx].toNat : Int) == 42) = false ∧ ((p[nx].toNat : Int) == 43) = true ∧ isQ p[nx].toNat = true)
    ∨ (∃ h : nx < p.size, ((p[nx].toNat : Int) == 42) = false ∧ ((p[nx].toNat : Int) == 43) = false ∧ ((p[nx].toNat : Int) == 45) = true ∧ isQ p[nx].toNat = true)
    ∨ (∃ h : nx < p.size, ((p[nx].toNat : Int) == 42) = false ∧ ((p[nx].toNat : Int) == 43) = false ∧ ((p[nx].toNat : Int) == 45) = false ∧ ((p[nx].toNat : Int) == 63) = true ∧ isQ p[nx].toNat = true) := by
  by_cases h : nx < p.size
  · right
    have e : ∀ j : Nat, ((p[nx].toNat : Int) == (j : Int)) = (p[nx].toNat == j) := fun j => by rw [Bool.eq_iff_iff]; simp; omega
    have e1 := e 42
    have e2 := e 43
    have e3 := e 45
    have e4 := e 63
    simp only [Int.cast_ofNat_Int] at e1 e2 e3 e4
    cases h1 : p[nx].toNat == 42 with
    | true => exact .inr (.inl ⟨h, e1.trans h1, by simp only [isQ, h1, Bool.true_or]⟩)
    | false =>
      cases h2 : p[nx].toNat == 43 with
      | true => exact .inr (.inr (.inl ⟨h, e1.trans h1, e2.trans h2, by simp only [isQ, h2, Bool.true_or, Bool.or_true]⟩))
      | false =>
        cases h3 : p[nx].toNat == 45 with
        | true => exact .inr (.inr (.inr (.inl ⟨h, e1.trans h1, e2.trans h2, e3.trans h3, by simp only [isQ, h3, Bool.true_or, Bool.or_true]⟩)))
        | false =>
          cases h4 : p[nx].toNat == 63 with
          | true => exact .inr (.inr (.inr (.inr ⟨h, e1.trans h1, e2.trans h2, e3.trans h3, e4.trans h4, by simp only [isQ, h4, Bool.or_true]⟩)))
          | false => exact .inl ⟨h, e1.trans h1, e2.trans h2, e3.trans h3, e4.trans h4, by simp only [isQ, h1, h2, h3, h4, Bool.or_false]⟩
  · exact .inl (by omega)
/-- The item that is being read: its cells in block xb, its marks in block sb. -/
structure XSt (w W : World) (xb sb : Nat) (S : Nat → Bool) (q : Nat) : Prop where
  below : Below w.heap.size w W
  hx : W.heap[xb]? = some (.cells #[.int .i64 1, .slice (some ⟨sb, 0, none⟩) 256 256, .int .u8 q, .int .u8 0, .int .u8 0, .int .i64 0] 114 (0, 0))
  hs : RSet W sb S
  x0 : w.heap.size ≤ xb
  s0 : w.heap.size ≤ sb
  ne : xb ≠ sb
theorem XSt.start (w : World) : XSt w ((w.alloc (.cells (setC noMark) 4)).alloc (.cells #[.int .i64 1, .slice (some ⟨w.heap.size, 0, none⟩) 256 256, .int .u8 0, .int .u8 0, .int .u8 0, .int .i64 0] 114)) (w.heap.size + 1) w.heap.size noMark 0 := by
  refine ⟨((Below.refl _ _).alloc (Nat.le_refl _) _).alloc (by simp) _, ?_, ?_, by omega, Nat.le_refl _, by omega⟩
  · have := heap_new (w.alloc (.cells (setC noMark) 4)) (.cells #[.int .i64 1, .slice (some ⟨w.heap.size, 0, none⟩) 256 256, .int .u8 0, .int .u8 0, .int .u8 0, .int .i64 0] 114)
    simpa using this
  · unfold RSet
    rw [Below.heap_alloc _ _ _ (by simp), heap_new]
theorem XSt.quant {w W : World} {xb sb : Nat} {S : Nat → Bool} (h : XSt w W xb sb S 0) (q : Nat) : XSt w (W.setCell ⟨xb, 2, none⟩ (.int .u8 q)) xb sb S q := by
  refine ⟨h.below.setCell h.x0 _, ?_, ?_, h.x0, h.s0, h.ne⟩
  · rw [heap_setCell_same h.hx]; rfl
  · exact h.hs.ext (Below.heap_setCell _ _ _ _ (Ne.symm h.ne))
theorem XSt.marks {w W W' : World} {xb sb : Nat} {S S' : Nat → Bool} {q : Nat} (h : XSt w W xb sb S q) (hg : W.grownBy W' (some sb)) (hs : RSet W' sb S') : XSt w W' xb sb S' q := by
  refine ⟨below_row h.below h.s0 hg, ?_, hs, h.x0, h.s0, h.ne⟩
  rw [hg.block xb (Array.getElem?_eq_some_iff.1 h.hx).1 (fun e => h.ne (by injection e))]
  exact h.hx
theorem XSt.newSet {w W W' : World} {xb sb : Nat} {S S' : Nat → Bool} {q : Nat} (h : XSt w W xb sb S q) (hb : Below W.heap.size W W') (hs : RSet W' W.heap.size S') : XSt w (W'.setCell ⟨xb, 1, none⟩ (.slice (some ⟨W.heap.size, 0, none⟩) 256 256)) xb W.heap.size S' q := by
  have hlt := (Array.getElem?_eq_some_iff.1 h.hx).1
  have hx' := (below_ext hb (Nat.le_refl _)).get h.hx
  refine ⟨(h.below.trans (hb.mono h.below.size)).setCell h.x0 _, ?_, ?_, h.x0, h.below.size, by omega⟩
  · rw [heap_setCell_same hx']; rfl
  · exact hs.ext (Below.heap_setCell _ _ _ _ (by show W.heap.size ≠ xb; omega))
theorem XSt.item {w0 w W : World} {ob xb sb : Nat} {S : Nat → Bool} {q : Nat} {anc fin : Bool} {s : St} {ps : List Bool} {vi vo vc vp : Value} {vs : List Value} (x : XSt w W xb sb S q) (h : PSt w0 ob w anc fin s ps vi vo vc vp vs) :
    ItemR W w0.heap.size (MutR ob vi vo vc vp) ⟨7, 0, 0, 0, S, q⟩ (.slice (some ⟨sb, 0, none⟩) 256 256) := by
  unfold ItemR
  rw [if_pos (show Item.sets _ = true from rfl)]
  have := x.s0
  refine ⟨_, rfl, Nat.le_trans h.below.size x.s0, fun hm => ?_, x.hs⟩
  rcases hm with e | e | e | e | e
  · have := h.lt; omega
  · have := (ownBlock_lt h.oi e).2; omega
  · have := (ownBlock_lt h.oo e).2; omega
  · have := (ownBlock_lt h.oc e).2; omega
  · have := (ownBlock_lt h.op e).2; omega
set_option maxRecDepth 100000 in
set_option maxHeartbeats 8000000 in
theorem sing_plain {w0 w : World} {ob : Nat} {anc fin : Bool} {s : St} {ps : List Bool} {vi vo vc vp : Value} {vs : List Value} (h : PSt w0 ob w anc fin s ps vi vo vc vp vs) (hv : RInv s ps) (p : ByteArray) (k : Nat) (hk : k < p.size) (hp : p.size ≤ 5000) (hi : s.items.length ≤ k) (h46 : ¬ p[k].toNat = 46) (h37 : ¬ p[k].toNat = 37) (h91 : ¬ p[k].toNat = 91) :
    Calls Tryd.prog 51 #[.pointer (some ⟨ob, 0, none⟩), .string p, .int .i64 k] w (SgPost w0 ob anc fin k (singleM p[k].toNat ((bytesOf p).drop (k + 1)) s)) := by
  obtain ⟨i14, hi14, hi14a, hi14b, hi14c⟩ := info_parts Tryd.info114
  obtain ⟨R, hR⟩ : ∃ R, R = singleM p[k].toNat ((bytesOf p).drop (k + 1)) s := ⟨_, rfl⟩
  rw [← hR]
  have HR := Lib.hid hR
  have H := Lib.hid h
  have HV := Lib.hid hv
  have hlt := h.lt
  clear hR h hv
  have hmk := make_marks
  have t46 : ((p[k].toNat : Int) == 46) = false := by rw [beq_eq_false_iff_ne]; omega
  have t37 : ((p[k].toNat : Int) == 37) = false := by rw [beq_eq_false_iff_ne]; omega
  have t91 : ((p[k].toNat : Int) == 91) = false := by rw [beq_eq_false_iff_ne]; omega
  have HB := Lib.hid (show baseM p[k].toNat ((bytesOf p).drop (k + 1)) = some (eqS p[k].toNat, (bytesOf p).drop (k + 1)) by unfold baseM; rw [if_neg h46, if_neg h37, if_neg h91])
  clear h46 h37 h91
  have hb1 := UInt8.toNat_lt p[k]
  go_enter Tryd.func51, Tryd.ntmps51
  go_wp2_with (simp only [hmk])
  obtain ⟨W1, hW1⟩ : ∃ W1, W1 = (w.alloc (.cells (setC noMark) 4)).alloc (.cells #[.int .i64 1, .slice (some ⟨w.heap.size, 0, none⟩) 256 256, .int .u8 0, .int .u8 0, .int .u8 0, .int .i64 0] 114) := ⟨_, rfl⟩
  have hx1 := XSt.start w
  rw [← hW1] at hx1 ⊢
  have hsz : w.heap.size < W1.heap.size := by rw [hW1]; simp; omega
  have hox : ob ≠ (w.heap.size + 1) := by omega
  have hxo : (w.heap.size + 1) ≠ ob := by omega
  have hos : ob ≠ w.heap.size := by omega
  have ccell := hx1.hs.cell hb1
  have cfz := hx1.hs.fz p[k].toNat
  have y1 : W1.cell? ⟨(w.heap.size + 1), 1, none⟩ = some (.slice (some ⟨w.heap.size, 0, none⟩) 256 256) := by rw [cell_of_heap hx1.hx]; rfl
  have HX1 := Lib.hid (hx1.marks (grown_set _ w.heap.size p[k].toNat (.bool true)) ((hx1.hs.set p[k].toNat true).congr (S' := eqS p[k].toNat) fun j _ => by
      unfold setAt eqS noMark
      by_cases e : j = p[k].toNat
      · rw [if_pos e]; simp [e]
      · rw [if_neg e]; simp [e]))
  have HW1 := Lib.hid hW1
  clear hW1 hx1 hmk
  refine wp_region_lex mixed (by kernel_rfl) ?_
  go_wp2
  refine ⟨by kernel_rfl, ?_⟩
  obtain ⟨W2, hW2⟩ : ∃ W2, W2 = (W1.setCell ⟨w.heap.size, p[k].toNat, none⟩ (.bool true)).drew := ⟨_, rfl⟩
  have hx2 : XSt w W2 (w.heap.size + 1) w.heap.size (eqS p[k].toNat) 0 := by rw [hW2]; exact ⟨HX1.out.below.drew, HX1.out.hx, HX1.out.hs, HX1.out.x0, HX1.out.s0, HX1.out.ne⟩
  have HX2 := Lib.hid hx2
  rw [← hW2]
  clear hW2 hx2 ccell cfz y1
  have y0 : W2.cell? ⟨(w.heap.size + 1), 0, none⟩ = some (.int .i64 1) := by rw [cell_of_heap HX2.out.hx]; rfl
  have y1 : W2.cell? ⟨(w.heap.size + 1), 1, none⟩ = some (.slice (some ⟨w.heap.size, 0, none⟩) 256 256) := by rw [cell_of_heap HX2.out.hx]; rfl
  have y2 : W2.cell? ⟨(w.heap.size + 1), 2, none⟩ = some (.int .u8 0) := by rw [cell_of_heap HX2.out.hx]; rfl
  have y3 : W2.cell? ⟨(w.heap.size + 1), 3, none⟩ = some (.int .u8 0) := by rw [cell_of_heap HX2.out.hx]; rfl
  have y4 : W2.cell? ⟨(w.heap.size + 1), 4, none⟩ = some (.int .u8 0) := by rw [cell_of_heap HX2.out.hx]; rfl
  have y5 : W2.cell? ⟨(w.heap.size + 1), 5, none⟩ = some (.int .i64 0) := by rw [cell_of_heap HX2.out.hx]; rfl
  have yf : W2.frozen? ⟨(w.heap.size + 1), 2, none⟩ = false := by simp [World.frozen?, HX2.out.hx]
  have HP := Lib.hid (H.out.grow HX2.out.below)
  have z0 : W2.cell? ⟨ob, 0, none⟩ = some vi := by rw [cell_of_heap HP.out.hr]; rfl
  have zlt := HP.out.lt
  have QW : Hid (∀ q m, quantM ((bytesOf p).drop (k + 1)) = (q, m) → R = .ok ({ s with items := s.items ++ [⟨7, 0, 0, 0, (eqS p[k].toNat), q⟩] }, k + 1 - k + m)) := fun q m hq => by rw [HR.out]; exact single_of HB.out (by omega) (by omega) hq
  rcases quant_ways p (k + 1) with hq | ⟨hq, t1, t2, t3, t4, tq⟩ | ⟨hq, t1, tq⟩ | ⟨hq, t1, t2, tq⟩ | ⟨hq, t1, t2, t3, tq⟩ | ⟨hq, t1, t2, t3, t4, tq⟩
  · have HQ := Lib.hid (QW.out _ _ (quant_end hq))
    have HX := HX2
    have HP2 := HP
    have IT := Lib.hid (HX.out.item H.out)
    go_wp2
    refine wp_region_lex mixed (by kernel_rfl) ?_
    go_wp2_with (at_builtin; refine wpList_append_own_at _ rfl (.tmp 109) (.tmp 111) 64 rfl w0.heap.size 114 i14 _ 6 48 Tryd.underlying64 hi14 hi14a hi14b hi14c rfl (by decide) vi s.items.length (rowR s.items vs) rfl ?_ ⟨_, 0, none⟩ 1 1 [_, _, _, _, _, _] rfl rfl (cells_sixR _ _ _ _ _ _ _ _ _ (by simp)) ?_ ?_ ?_ ?_ ?_)
    · exact ownsRow_ext (below_ext ((Below.refl _ _).alloc (Nat.le_refl _) _).drew (Nat.le_refl _)) HP2.out.oi
    · intro u hu
      simp only [List.mem_cons, List.not_mem_nil, or_false] at hu
      rcases hu with rfl | rfl | rfl | rfl | rfl | rfl <;> rfl
    · unfold maxLen; omega
    · omega
    · first | (have := HP2.out.below.size; simp at this ⊢; omega) | (have := HP2.out.below.size; simp; omega)
    · intro v1 w1 hown hgrow _ hat
      obtain ⟨g1, cap1, rfl⟩ := slice_shape hown (by omega)
      have hr1 := hr_push ((Below.refl _ _).alloc (Nat.le_refl _) _).drew hgrow HP2.out.hr HP2.out.five.oa
      have c10 : w1.cell? ⟨ob, 0, none⟩ = some vi := by rw [cell_of_heap hr1]; rfl
      have f10 : w1.frozen? ⟨ob, 0, none⟩ = false := by simp [World.frozen?, hr1]
      have H1 := Lib.hid (HP2.out.pushItem ((Below.refl _ _).alloc (Nat.le_refl _) _).drew IT.out hown hgrow (by simpa using hat))
      clear hown hgrow hat hr1
      go_wp2
      refine ⟨by kernel_rfl, ?_⟩
      go_wp2
      go_ret2
      exact sg_ok HQ.out (by omega) ⟨_, _, _, _, _, _, H1.out, pinv_items HV.out _⟩
  · have HQ := Lib.hid (QW.out _ _ (quant_no hq tq))
    clear tq
    have HX := HX2
    have HP2 := HP
    have IT := Lib.hid (HX.out.item H.out)
    go_wp2
    refine wp_region_lex mixed (by kernel_rfl) ?_
    go_wp2_with (at_builtin; refine wpList_append_own_at _ rfl (.tmp 109) (.tmp 111) 64 rfl w0.heap.size 114 i14 _ 6 48 Tryd.underlying64 hi14 hi14a hi14b hi14c rfl (by decide) vi s.items.length (rowR s.items vs) rfl ?_ ⟨_, 0, none⟩ 1 1 [_, _, _, _, _, _] rfl rfl (cells_sixR _ _ _ _ _ _ _ _ _ (by simp)) ?_ ?_ ?_ ?_ ?_)
    · exact ownsRow_ext (below_ext ((Below.refl _ _).alloc (Nat.le_refl _) _).drew (Nat.le_refl _)) HP2.out.oi
    · intro u hu
      simp only [List.mem_cons, List.not_mem_nil, or_false] at hu
      rcases hu with rfl | rfl | rfl | rfl | rfl | rfl <;> rfl
    · unfold maxLen; omega
    · omega
    · first | (have := HP2.out.below.size; simp at this ⊢; omega) | (have := HP2.out.below.size; simp; omega)
    · intro v1 w1 hown hgrow _ hat
      obtain ⟨g1, cap1, rfl⟩ := slice_shape hown (by omega)
      have hr1 := hr_push ((Below.refl _ _).alloc (Nat.le_refl _) _).drew hgrow HP2.out.hr HP2.out.five.oa
      have c10 : w1.cell? ⟨ob, 0, none⟩ = some vi := by rw [cell_of_heap hr1]; rfl
      have f10 : w1.frozen? ⟨ob, 0, none⟩ = false := by simp [World.frozen?, hr1]
      have H1 := Lib.hid (HP2.out.pushItem ((Below.refl _ _).alloc (Nat.le_refl _) _).drew IT.out hown hgrow (by simpa using hat))
      clear hown hgrow hat hr1
      go_wp2
      refine ⟨by kernel_rfl, ?_⟩
      go_wp2
      go_ret2
      exact sg_ok HQ.out (by omega) ⟨_, _, _, _, _, _, H1.out, pinv_items HV.out _⟩
  · have HQ := Lib.hid (QW.out _ _ (quant_yes hq tq))
    clear tq
    have HX := Lib.hid (HX2.out.quant p[k + 1].toNat)
    have HP2 := Lib.hid (H.out.grow HX.out.below)
    have IT := Lib.hid (HX.out.item H.out)
    go_wp2
    refine wp_region_lex mixed (by kernel_rfl) ?_
    go_wp2_with (at_builtin; refine wpList_append_own_at _ rfl (.tmp 109) (.tmp 111) 64 rfl w0.heap.size 114 i14 _ 6 48 Tryd.underlying64 hi14 hi14a hi14b hi14c rfl (by decide) vi s.items.length (rowR s.items vs) rfl ?_ ⟨_, 0, none⟩ 1 1 [_, _, _, _, _, _] rfl rfl (cells_sixR _ _ _ _ _ _ _ _ _ (by simp)) ?_ ?_ ?_ ?_ ?_)
    · exact ownsRow_ext (below_ext ((Below.refl _ _).alloc (Nat.le_refl _) _).drew (Nat.le_refl _)) HP2.out.oi
    · intro u hu
      simp only [List.mem_cons, List.not_mem_nil, or_false] at hu
      rcases hu with rfl | rfl | rfl | rfl | rfl | rfl <;> rfl
    · unfold maxLen; omega
    · omega
    · first | (have := HP2.out.below.size; simp at this ⊢; omega) | (have := HP2.out.below.size; simp; omega)
    · intro v1 w1 hown hgrow _ hat
      obtain ⟨g1, cap1, rfl⟩ := slice_shape hown (by omega)
      have hr1 := hr_push ((Below.refl _ _).alloc (Nat.le_refl _) _).drew hgrow HP2.out.hr HP2.out.five.oa
      have c10 : w1.cell? ⟨ob, 0, none⟩ = some vi := by rw [cell_of_heap hr1]; rfl
      have f10 : w1.frozen? ⟨ob, 0, none⟩ = false := by simp [World.frozen?, hr1]
      have H1 := Lib.hid (HP2.out.pushItem ((Below.refl _ _).alloc (Nat.le_refl _) _).drew IT.out hown hgrow (by simpa using hat))
      clear hown hgrow hat hr1
      go_wp2
      refine ⟨by kernel_rfl, ?_⟩
      go_wp2
      go_ret2
      exact sg_ok HQ.out (by omega) ⟨_, _, _, _, _, _, H1.out, pinv_items HV.out _⟩
  · have HQ := Lib.hid (QW.out _ _ (quant_yes hq tq))
    clear tq
    have HX := Lib.hid (HX2.out.quant p[k + 1].toNat)
    have HP2 := Lib.hid (H.out.grow HX.out.below)
    have IT := Lib.hid (HX.out.item H.out)
    go_wp2
    refine wp_region_lex mixed (by kernel_rfl) ?_
    go_wp2_with (at_builtin; refine wpList_append_own_at _ rfl (.tmp 109) (.tmp 111) 64 rfl w0.heap.size 114 i14 _ 6 48 Tryd.underlying64 hi14 hi14a hi14b hi14c rfl (by decide) vi s.items.length (rowR s.items vs) rfl ?_ ⟨_, 0, none⟩ 1 1 [_, _, _, _, _, _] rfl rfl (cells_sixR _ _ _ _ _ _ _ _ _ (by simp)) ?_ ?_ ?_ ?_ ?_)
    · exact ownsRow_ext (below_ext ((Below.refl _ _).alloc (Nat.le_refl _) _).drew (Nat.le_refl _)) HP2.out.oi
    · intro u hu
      simp only [List.mem_cons, List.not_mem_nil, or_false] at hu
      rcases hu with rfl | rfl | rfl | rfl | rfl | rfl <;> rfl
    · unfold maxLen; omega
    · omega
    · first | (have := HP2.out.below.size; simp at this ⊢; omega) | (have := HP2.out.below.size; simp; omega)
    · intro v1 w1 hown hgrow _ hat
      obtain ⟨g1, cap1, rfl⟩ := slice_shape hown (by omega)
      have hr1 := hr_push ((Below.refl _ _).alloc (Nat.le_refl _) _).drew hgrow HP2.out.hr HP2.out.five.oa
      have c10 : w1.cell? ⟨ob, 0, none⟩ = some vi := by rw [cell_of_heap hr1]; rfl
      have f10 : w1.frozen? ⟨ob, 0, none⟩ = false := by simp [World.frozen?, hr1]
      have H1 := Lib.hid (HP2.out.pushItem ((Below.refl _ _).alloc (Nat.le_refl _) _).drew IT.out hown hgrow (by simpa using hat))
      clear hown hgrow hat hr1
      go_wp2
      refine ⟨by kernel_rfl, ?_⟩
      go_wp2
      go_ret2
      exact sg_ok HQ.out (by omega) ⟨_, _, _, _, _, _, H1.out, pinv_items HV.out _⟩
  · have HQ := Lib.hid (QW.out _ _ (quant_yes hq tq))
    clear tq
    have HX := Lib.hid (HX2.out.quant p[k + 1].toNat)
    have HP2 := Lib.hid (H.out.grow HX.out.below)
    have IT := Lib.hid (HX.out.item H.out)
    go_wp2
    refine wp_region_lex mixed (by kernel_rfl) ?_
    go_wp2_with (at_builtin; refine wpList_append_own_at _ rfl (.tmp 109) (.tmp 111) 64 rfl w0.heap.size 114 i14 _ 6 48 Tryd.underlying64 hi14 hi14a hi14b hi14c rfl (by decide) vi s.items.length (rowR s.items vs) rfl ?_ ⟨_, 0, none⟩ 1 1 [_, _, _, _, _, _] rfl rfl (cells_sixR _ _ _ _ _ _ _ _ _ (by simp)) ?_ ?_ ?_ ?_ ?_)
    · exact ownsRow_ext (below_ext ((Below.refl _ _).alloc (Nat.le_refl _) _).drew (Nat.le_refl _)) HP2.out.oi
    · intro u hu
      simp only [List.mem_cons, List.not_mem_nil, or_false] at hu
      rcases hu with rfl | rfl | rfl | rfl | rfl | rfl <;> rfl
    · unfold maxLen; omega
    · omega
    · first | (have := HP2.out.below.size; simp at this ⊢; omega) | (have := HP2.out.below.size; simp; omega)
    · intro v1 w1 hown hgrow _ hat
      obtain ⟨g1, cap1, rfl⟩ := slice_shape hown (by omega)
      have hr1 := hr_push ((Below.refl _ _).alloc (Nat.le_refl _) _).drew hgrow HP2.out.hr HP2.out.five.oa
      have c10 : w1.cell? ⟨ob, 0, none⟩ = some vi := by rw [cell_of_heap hr1]; rfl
      have f10 : w1.frozen? ⟨ob, 0, none⟩ = false := by simp [World.frozen?, hr1]
      have H1 := Lib.hid (HP2.out.pushItem ((Below.refl _ _).alloc (Nat.le_refl _) _).drew IT.out hown hgrow (by simpa using hat))
      clear hown hgrow hat hr1
      go_wp2
      refine ⟨by kernel_rfl, ?_⟩
      go_wp2
      go_ret2
      exact sg_ok HQ.out (by omega) ⟨_, _, _, _, _, _, H1.out, pinv_items HV.out _⟩
  · have HQ := Lib.hid (QW.out _ _ (quant_yes hq tq))
    clear tq
    have HX := Lib.hid (HX2.out.quant p[k + 1].toNat)
    have HP2 := Lib.hid (H.out.grow HX.out.below)
    have IT := Lib.hid (HX.out.item H.out)
    go_wp2
    refine wp_region_lex mixed (by kernel_rfl) ?_
    go_wp2_with (at_builtin; refine wpList_append_own_at _ rfl (.tmp 109) (.tmp 111) 64 rfl w0.heap.size 114 i14 _ 6 48 Tryd.underlying64 hi14 hi14a hi14b hi14c rfl (by decide) vi s.items.length (rowR s.items vs) rfl ?_ ⟨_, 0, none⟩ 1 1 [_, _, _, _, _, _] rfl rfl (cells_sixR _ _ _ _ _ _ _ _ _ (by simp)) ?_ ?_ ?_ ?_ ?_)
    · exact ownsRow_ext (below_ext ((Below.refl _ _).alloc (Nat.le_refl _) _).drew (Nat.le_refl _)) HP2.out.oi
    · intro u hu
      simp only [List.mem_cons, List.not_mem_nil, or_false] at hu
      rcases hu with rfl | rfl | rfl | rfl | rfl | rfl <;> rfl
    · unfold maxLen; omega
    · omega
    · first | (have := HP2.out.below.size; simp at this ⊢; omega) | (have := HP2.out.below.size; simp; omega)
    · intro v1 w1 hown hgrow _ hat
      obtain ⟨g1, cap1, rfl⟩ := slice_shape hown (by omega)
      have hr1 := hr_push ((Below.refl _ _).alloc (Nat.le_refl _) _).drew hgrow HP2.out.hr HP2.out.five.oa
      have c10 : w1.cell? ⟨ob, 0, none⟩ = some vi := by rw [cell_of_heap hr1]; rfl
      have f10 : w1.frozen? ⟨ob, 0, none⟩ = false := by simp [World.frozen?, hr1]
      have H1 := Lib.hid (HP2.out.pushItem ((Below.refl _ _).alloc (Nat.le_refl _) _).drew IT.out hown hgrow (by simpa using hat))
      clear hown hgrow hat hr1
      go_wp2
      refine ⟨by kernel_rfl, ?_⟩
      go_wp2
      go_ret2
      exact sg_ok HQ.out (by omega) ⟨_, _, _, _, _, _, H1.out, pinv_items HV.out _⟩
set_option maxRecDepth 100000 in
set_option maxHeartbeats 8000000 in
theorem sing_dot {w0 w : World} {ob : Nat} {anc fin : Bool} {s : St} {ps : List Bool} {vi vo vc vp : Value} {vs : List Value} (h : PSt w0 ob w anc fin s ps vi vo vc vp vs) (hv : RInv s ps) (p : ByteArray) (k : Nat) (hk : k < p.size) (hp : p.size ≤ 5000) (hi : s.items.length ≤ k) (hc : p[k].toNat = 46) :
    Calls Tryd.prog 51 #[.pointer (some ⟨ob, 0, none⟩), .string p, .int .i64 k] w (SgPost w0 ob anc fin k (singleM p[k].toNat ((bytesOf p).drop (k + 1)) s)) := by
  obtain ⟨i14, hi14, hi14a, hi14b, hi14c⟩ := info_parts Tryd.info114
  obtain ⟨R, hR⟩ : ∃ R, R = singleM p[k].toNat ((bytesOf p).drop (k + 1)) s := ⟨_, rfl⟩
  rw [← hR]
  have HR := Lib.hid hR
  have H := Lib.hid h
  have HV := Lib.hid hv
  have hlt := h.lt
  clear hR h hv
  have hmk := make_marks
  have t46 : ((p[k].toNat : Int) == 46) = true := by rw [hc]; rfl
  have HB := Lib.hid (show baseM p[k].toNat ((bytesOf p).drop (k + 1)) = some (anyS, (bytesOf p).drop (k + 1)) by unfold baseM; rw [if_pos hc])
  clear hc
  go_enter Tryd.func51, Tryd.ntmps51
  go_wp2_with (simp only [hmk])
  obtain ⟨W1, hW1⟩ : ∃ W1, W1 = (w.alloc (.cells (setC noMark) 4)).alloc (.cells #[.int .i64 1, .slice (some ⟨w.heap.size, 0, none⟩) 256 256, .int .u8 0, .int .u8 0, .int .u8 0, .int .i64 0] 114) := ⟨_, rfl⟩
  have hx1 := XSt.start w
  rw [← hW1] at hx1 ⊢
  have hsz : w.heap.size < W1.heap.size := by rw [hW1]; simp; omega
  have hox : ob ≠ (w.heap.size + 1) := by omega
  have hxo : (w.heap.size + 1) ≠ ob := by omega
  have hos : ob ≠ w.heap.size := by omega
  have HX1 := Lib.hid hx1
  clear hW1 hx1 hmk
  go_loopg [9] 256 (fun gg v wr => PairRel W1 w.heap.size noMark anyS gg v wr)
  case atStart => exact PairRel.start HX1.out.hs
  case round =>
    obtain ⟨c, rfl, rfl, hc, hg, hs⟩ := hrel
    have hx := HX1.out.marks hg hs
    have y1 : wr.cell? ⟨(w.heap.size + 1), 1, none⟩ = some (.slice (some ⟨w.heap.size, 0, none⟩) 256 256) := by rw [cell_of_heap hx.hx]; rfl
    by_cases hc2 : c < 256
    · have ccell := hs.cell hc2
      have cfz := hs.fz c
      have HN := Lib.hid (PairRel.put hc2 hg hs rfl)
      clear hs hg hx
      go_wp2
      go_roundg (256 - (c + 1))
      case measure => omega
      case rel => exact HN.out
    · have hge : ¬ ((c : Int) < 256) := by omega
      have HX2 := Lib.hid (HX1.out.marks hg (hs.congr (S' := anyS) fun j hj => by simp [anyS]; right; omega))
      clear hs hg hx y1
      have y0 : wr.cell? ⟨(w.heap.size + 1), 0, none⟩ = some (.int .i64 1) := by rw [cell_of_heap HX2.out.hx]; rfl
      have y1 : wr.cell? ⟨(w.heap.size + 1), 1, none⟩ = some (.slice (some ⟨w.heap.size, 0, none⟩) 256 256) := by rw [cell_of_heap HX2.out.hx]; rfl
      have y2 : wr.cell? ⟨(w.heap.size + 1), 2, none⟩ = some (.int .u8 0) := by rw [cell_of_heap HX2.out.hx]; rfl
      have y3 : wr.cell? ⟨(w.heap.size + 1), 3, none⟩ = some (.int .u8 0) := by rw [cell_of_heap HX2.out.hx]; rfl
      have y4 : wr.cell? ⟨(w.heap.size + 1), 4, none⟩ = some (.int .u8 0) := by rw [cell_of_heap HX2.out.hx]; rfl
      have y5 : wr.cell? ⟨(w.heap.size + 1), 5, none⟩ = some (.int .i64 0) := by rw [cell_of_heap HX2.out.hx]; rfl
      have yf : wr.frozen? ⟨(w.heap.size + 1), 2, none⟩ = false := by simp [World.frozen?, HX2.out.hx]
      have HP := Lib.hid (H.out.grow HX2.out.below)
      have z0 : wr.cell? ⟨ob, 0, none⟩ = some vi := by rw [cell_of_heap HP.out.hr]; rfl
      have zlt := HP.out.lt
      have QW : Hid (∀ q m, quantM ((bytesOf p).drop (k + 1)) = (q, m) → R = .ok ({ s with items := s.items ++ [⟨7, 0, 0, 0, anyS, q⟩] }, k + 1 - k + m)) := fun q m hq => by rw [HR.out]; exact single_of HB.out (by omega) (by omega) hq
      rcases quant_ways p (k + 1) with hq | ⟨hq, t1, t2, t3, t4, tq⟩ | ⟨hq, t1, tq⟩ | ⟨hq, t1, t2, tq⟩ | ⟨hq, t1, t2, t3, tq⟩ | ⟨hq, t1, t2, t3, t4, tq⟩
      · have HQ := Lib.hid (QW.out _ _ (quant_end hq))
        have HX := HX2
        have HP2 := HP
        have IT := Lib.hid (HX.out.item H.out)
        go_wp2
        refine wp_region_lex mixed (by kernel_rfl) ?_
        go_wp2_with (at_builtin; refine wpList_append_own_at _ rfl (.tmp 109) (.tmp 111) 64 rfl w0.heap.size 114 i14 _ 6 48 Tryd.underlying64 hi14 hi14a hi14b hi14c rfl (by decide) vi s.items.length (rowR s.items vs) rfl ?_ ⟨_, 0, none⟩ 1 1 [_, _, _, _, _, _] rfl rfl (cells_sixR _ _ _ _ _ _ _ _ _ (by simp)) ?_ ?_ ?_ ?_ ?_)
        · exact ownsRow_ext (below_ext ((Below.refl _ _).alloc (Nat.le_refl _) _).drew (Nat.le_refl _)) HP2.out.oi
        · intro u hu
          simp only [List.mem_cons, List.not_mem_nil, or_false] at hu
          rcases hu with rfl | rfl | rfl | rfl | rfl | rfl <;> rfl
        · unfold maxLen; omega
        · omega
        · first | (have := HP2.out.below.size; simp at this ⊢; omega) | (have := HP2.out.below.size; simp; omega)
        · intro v1 w1 hown hgrow _ hat
          obtain ⟨g1, cap1, rfl⟩ := slice_shape hown (by omega)
          have hr1 := hr_push ((Below.refl _ _).alloc (Nat.le_refl _) _).drew hgrow HP2.out.hr HP2.out.five.oa
          have c10 : w1.cell? ⟨ob, 0, none⟩ = some vi := by rw [cell_of_heap hr1]; rfl
          have f10 : w1.frozen? ⟨ob, 0, none⟩ = false := by simp [World.frozen?, hr1]
          have H1 := Lib.hid (HP2.out.pushItem ((Below.refl _ _).alloc (Nat.le_refl _) _).drew IT.out hown hgrow (by simpa using hat))
          clear hown hgrow hat hr1
          go_wp2
          refine ⟨by kernel_rfl, ?_⟩
          go_wp2
          go_ret2
          exact sg_ok HQ.out (by omega) ⟨_, _, _, _, _, _, H1.out, pinv_items HV.out _⟩
      · have HQ := Lib.hid (QW.out _ _ (quant_no hq tq))
        clear tq
        have HX := HX2
        have HP2 := HP
        have IT := Lib.hid (HX.out.item H.out)
        go_wp2
        refine wp_region_lex mixed (by kernel_rfl) ?_
        go_wp2_with (at_builtin; refine wpList_append_own_at _ rfl (.tmp 109) (.tmp 111) 64 rfl w0.heap.size 114 i14 _ 6 48 Tryd.underlying64 hi14 hi14a hi14b hi14c rfl (by decide) vi s.items.length (rowR s.items vs) rfl ?_ ⟨_, 0, none⟩ 1 1 [_, _, _, _, _, _] rfl rfl (cells_sixR _ _ _ _ _ _ _ _ _ (by simp)) ?_ ?_ ?_ ?_ ?_)
        · exact ownsRow_ext (below_ext ((Below.refl _ _).alloc (Nat.le_refl _) _).drew (Nat.le_refl _)) HP2.out.oi
        · intro u hu
          simp only [List.mem_cons, List.not_mem_nil, or_false] at hu
          rcases hu with rfl | rfl | rfl | rfl | rfl | rfl <;> rfl
        · unfold maxLen; omega
        · omega
        · first | (have := HP2.out.below.size; simp at this ⊢; omega) | (have := HP2.out.below.size; simp; omega)
        · intro v1 w1 hown hgrow _ hat
          obtain ⟨g1, cap1, rfl⟩ := slice_shape hown (by omega)
          have hr1 := hr_push ((Below.refl _ _).alloc (Nat.le_refl _) _).drew hgrow HP2.out.hr HP2.out.five.oa
          have c10 : w1.cell? ⟨ob, 0, none⟩ = some vi := by rw [cell_of_heap hr1]; rfl
          have f10 : w1.frozen? ⟨ob, 0, none⟩ = false := by simp [World.frozen?, hr1]
          have H1 := Lib.hid (HP2.out.pushItem ((Below.refl _ _).alloc (Nat.le_refl _) _).drew IT.out hown hgrow (by simpa using hat))
          clear hown hgrow hat hr1
          go_wp2
          refine ⟨by kernel_rfl, ?_⟩
          go_wp2
          go_ret2
          exact sg_ok HQ.out (by omega) ⟨_, _, _, _, _, _, H1.out, pinv_items HV.out _⟩
      · have HQ := Lib.hid (QW.out _ _ (quant_yes hq tq))
        clear tq
        have HX := Lib.hid (HX2.out.quant p[k + 1].toNat)
        have HP2 := Lib.hid (H.out.grow HX.out.below)
        have IT := Lib.hid (HX.out.item H.out)
        go_wp2
        refine wp_region_lex mixed (by kernel_rfl) ?_
        go_wp2_with (at_builtin; refine wpList_append_own_at _ rfl (.tmp 109) (.tmp 111) 64 rfl w0.heap.size 114 i14 _ 6 48 Tryd.underlying64 hi14 hi14a hi14b hi14c rfl (by decide) vi s.items.length (rowR s.items vs) rfl ?_ ⟨_, 0, none⟩ 1 1 [_, _, _, _, _, _] rfl rfl (cells_sixR _ _ _ _ _ _ _ _ _ (by simp)) ?_ ?_ ?_ ?_ ?_)
        · exact ownsRow_ext (below_ext ((Below.refl _ _).alloc (Nat.le_refl _) _).drew (Nat.le_refl _)) HP2.out.oi
        · intro u hu
          simp only [List.mem_cons, List.not_mem_nil, or_false] at hu
          rcases hu with rfl | rfl | rfl | rfl | rfl | rfl <;> rfl
        · unfold maxLen; omega
        · omega
        · first | (have := HP2.out.below.size; simp at this ⊢; omega) | (have := HP2.out.below.size; simp; omega)
        · intro v1 w1 hown hgrow _ hat
          obtain ⟨g1, cap1, rfl⟩ := slice_shape hown (by omega)
          have hr1 := hr_push ((Below.refl _ _).alloc (Nat.le_refl _) _).drew hgrow HP2.out.hr HP2.out.five.oa
          have c10 : w1.cell? ⟨ob, 0, none⟩ = some vi := by rw [cell_of_heap hr1]; rfl
          have f10 : w1.frozen? ⟨ob, 0, none⟩ = false := by simp [World.frozen?, hr1]
          have H1 := Lib.hid (HP2.out.pushItem ((Below.refl _ _).alloc (Nat.le_refl _) _).drew IT.out hown hgrow (by simpa using hat))
          clear hown hgrow hat hr1
          go_wp2
          refine ⟨by kernel_rfl, ?_⟩
          go_wp2
          go_ret2
          exact sg_ok HQ.out (by omega) ⟨_, _, _, _, _, _, H1.out, pinv_items HV.out _⟩
      · have HQ := Lib.hid (QW.out _ _ (quant_yes hq tq))
        clear tq
        have HX := Lib.hid (HX2.out.quant p[k + 1].toNat)
        have HP2 := Lib.hid (H.out.grow HX.out.below)
        have IT := Lib.hid (HX.out.item H.out)
        go_wp2
        refine wp_region_lex mixed (by kernel_rfl) ?_
        go_wp2_with (at_builtin; refine wpList_append_own_at _ rfl (.tmp 109) (.tmp 111) 64 rfl w0.heap.size 114 i14 _ 6 48 Tryd.underlying64 hi14 hi14a hi14b hi14c rfl (by decide) vi s.items.length (rowR s.items vs) rfl ?_ ⟨_, 0, none⟩ 1 1 [_, _, _, _, _, _] rfl rfl (cells_sixR _ _ _ _ _ _ _ _ _ (by simp)) ?_ ?_ ?_ ?_ ?_)
        · exact ownsRow_ext (below_ext ((Below.refl _ _).alloc (Nat.le_refl _) _).drew (Nat.le_refl _)) HP2.out.oi
        · intro u hu
          simp only [List.mem_cons, List.not_mem_nil, or_false] at hu
          rcases hu with rfl | rfl | rfl | rfl | rfl | rfl <;> rfl
        · unfold maxLen; omega
        · omega
        · first | (have := HP2.out.below.size; simp at this ⊢; omega) | (have := HP2.out.below.size; simp; omega)
        · intro v1 w1 hown hgrow _ hat
          obtain ⟨g1, cap1, rfl⟩ := slice_shape hown (by omega)
          have hr1 := hr_push ((Below.refl _ _).alloc (Nat.le_refl _) _).drew hgrow HP2.out.hr HP2.out.five.oa
          have c10 : w1.cell? ⟨ob, 0, none⟩ = some vi := by rw [cell_of_heap hr1]; rfl
          have f10 : w1.frozen? ⟨ob, 0, none⟩ = false := by simp [World.frozen?, hr1]
          have H1 := Lib.hid (HP2.out.pushItem ((Below.refl _ _).alloc (Nat.le_refl _) _).drew IT.out hown hgrow (by simpa using hat))
          clear hown hgrow hat hr1
          go_wp2
          refine ⟨by kernel_rfl, ?_⟩
          go_wp2
          go_ret2
          exact sg_ok HQ.out (by omega) ⟨_, _, _, _, _, _, H1.out, pinv_items HV.out _⟩
      · have HQ := Lib.hid (QW.out _ _ (quant_yes hq tq))
        clear tq
        have HX := Lib.hid (HX2.out.quant p[k + 1].toNat)
        have HP2 := Lib.hid (H.out.grow HX.out.below)
        have IT := Lib.hid (HX.out.item H.out)
        go_wp2
        refine wp_region_lex mixed (by kernel_rfl) ?_
        go_wp2_with (at_builtin; refine wpList_append_own_at _ rfl (.tmp 109) (.tmp 111) 64 rfl w0.heap.size 114 i14 _ 6 48 Tryd.underlying64 hi14 hi14a hi14b hi14c rfl (by decide) vi s.items.length (rowR s.items vs) rfl ?_ ⟨_, 0, none⟩ 1 1 [_, _, _, _, _, _] rfl rfl (cells_sixR _ _ _ _ _ _ _ _ _ (by simp)) ?_ ?_ ?_ ?_ ?_)
        · exact ownsRow_ext (below_ext ((Below.refl _ _).alloc (Nat.le_refl _) _).drew (Nat.le_refl _)) HP2.out.oi
        · intro u hu
          simp only [List.mem_cons, List.not_mem_nil, or_false] at hu
          rcases hu with rfl | rfl | rfl | rfl | rfl | rfl <;> rfl
        · unfold maxLen; omega
        · omega
        · first | (have := HP2.out.below.size; simp at this ⊢; omega) | (have := HP2.out.below.size; simp; omega)
        · intro v1 w1 hown hgrow _ hat
          obtain ⟨g1, cap1, rfl⟩ := slice_shape hown (by omega)
          have hr1 := hr_push ((Below.refl _ _).alloc (Nat.le_refl _) _).drew hgrow HP2.out.hr HP2.out.five.oa
          have c10 : w1.cell? ⟨ob, 0, none⟩ = some vi := by rw [cell_of_heap hr1]; rfl
          have f10 : w1.frozen? ⟨ob, 0, none⟩ = false := by simp [World.frozen?, hr1]
          have H1 := Lib.hid (HP2.out.pushItem ((Below.refl _ _).alloc (Nat.le_refl _) _).drew IT.out hown hgrow (by simpa using hat))
          clear hown hgrow hat hr1
          go_wp2
          refine ⟨by kernel_rfl, ?_⟩
          go_wp2
          go_ret2
          exact sg_ok HQ.out (by omega) ⟨_, _, _, _, _, _, H1.out, pinv_items HV.out _⟩
      · have HQ := Lib.hid (QW.out _ _ (quant_yes hq tq))
        clear tq
        have HX := Lib.hid (HX2.out.quant p[k + 1].toNat)
        have HP2 := Lib.hid (H.out.grow HX.out.below)
        have IT := Lib.hid (HX.out.item H.out)
        go_wp2
        refine wp_region_lex mixed (by kernel_rfl) ?_
        go_wp2_with (at_builtin; refine wpList_append_own_at _ rfl (.tmp 109) (.tmp 111) 64 rfl w0.heap.size 114 i14 _ 6 48 Tryd.underlying64 hi14 hi14a hi14b hi14c rfl (by decide) vi s.items.length (rowR s.items vs) rfl ?_ ⟨_, 0, none⟩ 1 1 [_, _, _, _, _, _] rfl rfl (cells_sixR _ _ _ _ _ _ _ _ _ (by simp)) ?_ ?_ ?_ ?_ ?_)
        · exact ownsRow_ext (below_ext ((Below.refl _ _).alloc (Nat.le_refl _) _).drew (Nat.le_refl _)) HP2.out.oi
        · intro u hu
          simp only [List.mem_cons, List.not_mem_nil, or_false] at hu
          rcases hu with rfl | rfl | rfl | rfl | rfl | rfl <;> rfl
        · unfold maxLen; omega
        · omega
        · first | (have := HP2.out.below.size; simp at this ⊢; omega) | (have := HP2.out.below.size; simp; omega)
        · intro v1 w1 hown hgrow _ hat
          obtain ⟨g1, cap1, rfl⟩ := slice_shape hown (by omega)
          have hr1 := hr_push ((Below.refl _ _).alloc (Nat.le_refl _) _).drew hgrow HP2.out.hr HP2.out.five.oa
          have c10 : w1.cell? ⟨ob, 0, none⟩ = some vi := by rw [cell_of_heap hr1]; rfl
          have f10 : w1.frozen? ⟨ob, 0, none⟩ = false := by simp [World.frozen?, hr1]
          have H1 := Lib.hid (HP2.out.pushItem ((Below.refl _ _).alloc (Nat.le_refl _) _).drew IT.out hown hgrow (by simpa using hat))
          clear hown hgrow hat hr1
          go_wp2
          refine ⟨by kernel_rfl, ?_⟩
          go_wp2
          go_ret2
          exact sg_ok HQ.out (by omega) ⟨_, _, _, _, _, _, H1.out, pinv_items HV.out _⟩
set_option maxRecDepth 100000 in
set_option maxHeartbeats 8000000 in
theorem sing_pct {w0 w : World} {ob : Nat} {anc fin : Bool} {s : St} {ps : List Bool} {vi vo vc vp : Value} {vs : List Value} (h : PSt w0 ob w anc fin s ps vi vo vc vp vs) (hv : RInv s ps) (p : ByteArray) (k : Nat) (hk : k < p.size) (hp : p.size ≤ 5000) (hi : s.items.length ≤ k) (hc : p[k].toNat = 37) :
    Calls Tryd.prog 51 #[.pointer (some ⟨ob, 0, none⟩), .string p, .int .i64 k] w (SgPost w0 ob anc fin k (singleM p[k].toNat ((bytesOf p).drop (k + 1)) s)) := by
  obtain ⟨i14, hi14, hi14a, hi14b, hi14c⟩ := info_parts Tryd.info114
  obtain ⟨R, hR⟩ : ∃ R, R = singleM p[k].toNat ((bytesOf p).drop (k + 1)) s := ⟨_, rfl⟩
  rw [← hR]
  have HR := Lib.hid hR
  have H := Lib.hid h
  have HV := Lib.hid hv
  have hlt := h.lt
  clear hR h hv
  have hmk := make_marks
  have t46 : ((p[k].toNat : Int) == 46) = false := by rw [beq_eq_false_iff_ne]; omega
  have t37 : ((p[k].toNat : Int) == 37) = true := by rw [hc]; rfl
  have hR2 : baseM p[k].toNat ((bytesOf p).drop (k + 1)) = (match (bytesOf p).drop (k + 1) with | [] => none | d :: r1 => (pairS d).map fun S => (S, r1)) := by unfold baseM; rw [if_neg (by omega), if_pos hc]; rfl
  clear hc
  by_cases hn : k + 1 < p.size
  · rw [bytesOf_drop p (k + 1) hn] at hR2
    have hb1 := UInt8.toNat_lt p[k + 1]
    have HR2 := Lib.hid (show baseM p[k].toNat ((bytesOf p).drop (k + 1)) = (pairS p[k + 1].toNat).map fun S => (S, (bytesOf p).drop (k + 2)) by rw [bytesOf_drop p (k + 1) hn]; exact hR2)
    clear hR2
    have tg1 : decide ((p.size : Int) ≤ (k : Int) + 1) = false := by simp; omega
    have tg2 : decide (p.size ≤ k + 1) = false := by simp; omega
    go_enter Tryd.func51, Tryd.ntmps51
    go_wp2_with (simp only [hmk])
    obtain ⟨W1, hW1⟩ : ∃ W1, W1 = (w.alloc (.cells (setC noMark) 4)).alloc (.cells #[.int .i64 1, .slice (some ⟨w.heap.size, 0, none⟩) 256 256, .int .u8 0, .int .u8 0, .int .u8 0, .int .i64 0] 114) := ⟨_, rfl⟩
    have hx1 := XSt.start w
    rw [← hW1] at hx1 ⊢
    have hsz : w.heap.size < W1.heap.size := by rw [hW1]; simp; omega
    have hox : ob ≠ (w.heap.size + 1) := by omega
    have hxo : (w.heap.size + 1) ≠ ob := by omega
    have hos : ob ≠ w.heap.size := by omega
    have y1 : W1.cell? ⟨(w.heap.size + 1), 1, none⟩ = some (.slice (some ⟨w.heap.size, 0, none⟩) 256 256) := by rw [cell_of_heap hx1.hx]; rfl
    have HX1 := Lib.hid hx1
    have RP := Lib.hid (rpair_c w.heap.size p[k + 1].toNat hb1 noMark W1.drew hx1.hs)
    clear hW1 hx1 hmk
    refine wp_region_lex mixed (by kernel_rfl) ?_
    go_wp2_with fail
    refine RP.out.mono ?_
    rintro e W2 ⟨rfl, hg, hset⟩
    have hx1d : XSt w W1.drew (w.heap.size + 1) w.heap.size noMark 0 := ⟨HX1.out.below.drew, HX1.out.hx, HX1.out.hs, HX1.out.x0, HX1.out.s0, HX1.out.ne⟩
    have hbw := below_row hx1d.below hx1d.s0 hg
    cases hps : pairS p[k + 1].toNat with
    | none =>
      have HE := Lib.hid (show R = .error 4 by rw [HR.out]; exact single_err (by rw [HR2.out, hps]; rfl))
      have HBB := Lib.hid (H.out.below.trans (hbw.mono H.out.below.size))
      clear hps hset hg hx1d hbw
      go_wp2
      refine ⟨by kernel_rfl, ?_⟩
      go_wp2
      go_ret2
      exact sg_err HE.out HBB.out
    | some S =>
      have HB := Lib.hid (show baseM p[k].toNat ((bytesOf p).drop (k + 1)) = some (S, (bytesOf p).drop (k + 2)) by rw [HR2.out, hps]; rfl)
      have HX2 := Lib.hid (hx1d.marks hg ((hset S hps).congr (S' := S) fun j _ => by simp [noMark]))
      clear hps hset hg hx1d hbw y1
      go_wp2
      refine ⟨by kernel_rfl, ?_⟩
      have y0 : W2.cell? ⟨(w.heap.size + 1), 0, none⟩ = some (.int .i64 1) := by rw [cell_of_heap HX2.out.hx]; rfl
      have y1 : W2.cell? ⟨(w.heap.size + 1), 1, none⟩ = some (.slice (some ⟨w.heap.size, 0, none⟩) 256 256) := by rw [cell_of_heap HX2.out.hx]; rfl
      have y2 : W2.cell? ⟨(w.heap.size + 1), 2, none⟩ = some (.int .u8 0) := by rw [cell_of_heap HX2.out.hx]; rfl
      have y3 : W2.cell? ⟨(w.heap.size + 1), 3, none⟩ = some (.int .u8 0) := by rw [cell_of_heap HX2.out.hx]; rfl
      have y4 : W2.cell? ⟨(w.heap.size + 1), 4, none⟩ = some (.int .u8 0) := by rw [cell_of_heap HX2.out.hx]; rfl
      have y5 : W2.cell? ⟨(w.heap.size + 1), 5, none⟩ = some (.int .i64 0) := by rw [cell_of_heap HX2.out.hx]; rfl
      have yf : W2.frozen? ⟨(w.heap.size + 1), 2, none⟩ = false := by simp [World.frozen?, HX2.out.hx]
      have HP := Lib.hid (H.out.grow HX2.out.below)
      have z0 : W2.cell? ⟨ob, 0, none⟩ = some vi := by rw [cell_of_heap HP.out.hr]; rfl
      have zlt := HP.out.lt
      have QW : Hid (∀ q m, quantM ((bytesOf p).drop (k + 2)) = (q, m) → R = .ok ({ s with items := s.items ++ [⟨7, 0, 0, 0, S, q⟩] }, k + 2 - k + m)) := fun q m hq => by rw [HR.out]; exact single_of HB.out (by omega) (by omega) hq
      rcases quant_ways p (k + 2) with hq | ⟨hq, t1, t2, t3, t4, tq⟩ | ⟨hq, t1, tq⟩ | ⟨hq, t1, t2, tq⟩ | ⟨hq, t1, t2, t3, tq⟩ | ⟨hq, t1, t2, t3, t4, tq⟩
      · have HQ := Lib.hid (QW.out _ _ (quant_end hq))
        have HX := HX2
        have HP2 := HP
        have IT := Lib.hid (HX.out.item H.out)
        go_wp2
        refine wp_region_lex mixed (by kernel_rfl) ?_
        go_wp2_with (at_builtin; refine wpList_append_own_at _ rfl (.tmp 109) (.tmp 111) 64 rfl w0.heap.size 114 i14 _ 6 48 Tryd.underlying64 hi14 hi14a hi14b hi14c rfl (by decide) vi s.items.length (rowR s.items vs) rfl ?_ ⟨_, 0, none⟩ 1 1 [_, _, _, _, _, _] rfl rfl (cells_sixR _ _ _ _ _ _ _ _ _ (by simp)) ?_ ?_ ?_ ?_ ?_)
        · exact ownsRow_ext (below_ext ((Below.refl _ _).alloc (Nat.le_refl _) _).drew (Nat.le_refl _)) HP2.out.oi
        · intro u hu
          simp only [List.mem_cons, List.not_mem_nil, or_false] at hu
          rcases hu with rfl | rfl | rfl | rfl | rfl | rfl <;> rfl
        · unfold maxLen; omega
        · omega
        · first | (have := HP2.out.below.size; simp at this ⊢; omega) | (have := HP2.out.below.size; simp; omega)
        · intro v1 w1 hown hgrow _ hat
          obtain ⟨g1, cap1, rfl⟩ := slice_shape hown (by omega)
          have hr1 := hr_push ((Below.refl _ _).alloc (Nat.le_refl _) _).drew hgrow HP2.out.hr HP2.out.five.oa
          have c10 : w1.cell? ⟨ob, 0, none⟩ = some vi := by rw [cell_of_heap hr1]; rfl
          have f10 : w1.frozen? ⟨ob, 0, none⟩ = false := by simp [World.frozen?, hr1]
          have H1 := Lib.hid (HP2.out.pushItem ((Below.refl _ _).alloc (Nat.le_refl _) _).drew IT.out hown hgrow (by simpa using hat))
          clear hown hgrow hat hr1
          go_wp2
          refine ⟨by kernel_rfl, ?_⟩
          go_wp2
          go_ret2
          exact sg_ok HQ.out (by omega) ⟨_, _, _, _, _, _, H1.out, pinv_items HV.out _⟩
      · have HQ := Lib.hid (QW.out _ _ (quant_no hq tq))
        clear tq
        have HX := HX2
        have HP2 := HP
        have IT := Lib.hid (HX.out.item H.out)
        go_wp2
        refine wp_region_lex mixed (by kernel_rfl) ?_
        go_wp2_with (at_builtin; refine wpList_append_own_at _ rfl (.tmp 109) (.tmp 111) 64 rfl w0.heap.size 114 i14 _ 6 48 Tryd.underlying64 hi14 hi14a hi14b hi14c rfl (by decide) vi s.items.length (rowR s.items vs) rfl ?_ ⟨_, 0, none⟩ 1 1 [_, _, _, _, _, _] rfl rfl (cells_sixR _ _ _ _ _ _ _ _ _ (by simp)) ?_ ?_ ?_ ?_ ?_)
        · exact ownsRow_ext (below_ext ((Below.refl _ _).alloc (Nat.le_refl _) _).drew (Nat.le_refl _)) HP2.out.oi
        · intro u hu
          simp only [List.mem_cons, List.not_mem_nil, or_false] at hu
          rcases hu with rfl | rfl | rfl | rfl | rfl | rfl <;> rfl
        · unfold maxLen; omega
        · omega
        · first | (have := HP2.out.below.size; simp at this ⊢; omega) | (have := HP2.out.below.size; simp; omega)
        · intro v1 w1 hown hgrow _ hat
          obtain ⟨g1, cap1, rfl⟩ := slice_shape hown (by omega)
          have hr1 := hr_push ((Below.refl _ _).alloc (Nat.le_refl _) _).drew hgrow HP2.out.hr HP2.out.five.oa
          have c10 : w1.cell? ⟨ob, 0, none⟩ = some vi := by rw [cell_of_heap hr1]; rfl
          have f10 : w1.frozen? ⟨ob, 0, none⟩ = false := by simp [World.frozen?, hr1]
          have H1 := Lib.hid (HP2.out.pushItem ((Below.refl _ _).alloc (Nat.le_refl _) _).drew IT.out hown hgrow (by simpa using hat))
          clear hown hgrow hat hr1
          go_wp2
          refine ⟨by kernel_rfl, ?_⟩
          go_wp2
          go_ret2
          exact sg_ok HQ.out (by omega) ⟨_, _, _, _, _, _, H1.out, pinv_items HV.out _⟩
      · have HQ := Lib.hid (QW.out _ _ (quant_yes hq tq))
        clear tq
        have HX := Lib.hid (HX2.out.quant p[k + 2].toNat)
        have HP2 := Lib.hid (H.out.grow HX.out.below)
        have IT := Lib.hid (HX.out.item H.out)
        go_wp2
        refine wp_region_lex mixed (by kernel_rfl) ?_
        go_wp2_with (at_builtin; refine wpList_append_own_at _ rfl (.tmp 109) (.tmp 111) 64 rfl w0.heap.size 114 i14 _ 6 48 Tryd.underlying64 hi14 hi14a hi14b hi14c rfl (by decide) vi s.items.length (rowR s.items vs) rfl ?_ ⟨_, 0, none⟩ 1 1 [_, _, _, _, _, _] rfl rfl (cells_sixR _ _ _ _ _ _ _ _ _ (by simp)) ?_ ?_ ?_ ?_ ?_)
        · exact ownsRow_ext (below_ext ((Below.refl _ _).alloc (Nat.le_refl _) _).drew (Nat.le_refl _)) HP2.out.oi
        · intro u hu
          simp only [List.mem_cons, List.not_mem_nil, or_false] at hu
          rcases hu with rfl | rfl | rfl | rfl | rfl | rfl <;> rfl
        · unfold maxLen; omega
        · omega
        · first | (have := HP2.out.below.size; simp at this ⊢; omega) | (have := HP2.out.below.size; simp; omega)
        · intro v1 w1 hown hgrow _ hat
          obtain ⟨g1, cap1, rfl⟩ := slice_shape hown (by omega)
          have hr1 := hr_push ((Below.refl _ _).alloc (Nat.le_refl _) _).drew hgrow HP2.out.hr HP2.out.five.oa
          have c10 : w1.cell? ⟨ob, 0, none⟩ = some vi := by rw [cell_of_heap hr1]; rfl
          have f10 : w1.frozen? ⟨ob, 0, none⟩ = false := by simp [World.frozen?, hr1]
          have H1 := Lib.hid (HP2.out.pushItem ((Below.refl _ _).alloc (Nat.le_refl _) _).drew IT.out hown hgrow (by simpa using hat))
          clear hown hgrow hat hr1
          go_wp2
          refine ⟨by kernel_rfl, ?_⟩
          go_wp2
          go_ret2
          exact sg_ok HQ.out (by omega) ⟨_, _, _, _, _, _, H1.out, pinv_items HV.out _⟩
      · have HQ := Lib.hid (QW.out _ _ (quant_yes hq tq))
        clear tq
        have HX := Lib.hid (HX2.out.quant p[k + 2].toNat)
        have HP2 := Lib.hid (H.out.grow HX.out.below)
        have IT := Lib.hid (HX.out.item H.out)
        go_wp2
        refine wp_region_lex mixed (by kernel_rfl) ?_
        go_wp2_with (at_builtin; refine wpList_append_own_at _ rfl (.tmp 109) (.tmp 111) 64 rfl w0.heap.size 114 i14 _ 6 48 Tryd.underlying64 hi14 hi14a hi14b hi14c rfl (by decide) vi s.items.length (rowR s.items vs) rfl ?_ ⟨_, 0, none⟩ 1 1 [_, _, _, _, _, _] rfl rfl (cells_sixR _ _ _ _ _ _ _ _ _ (by simp)) ?_ ?_ ?_ ?_ ?_)
        · exact ownsRow_ext (below_ext ((Below.refl _ _).alloc (Nat.le_refl _) _).drew (Nat.le_refl _)) HP2.out.oi
        · intro u hu
          simp only [List.mem_cons, List.not_mem_nil, or_false] at hu
          rcases hu with rfl | rfl | rfl | rfl | rfl | rfl <;> rfl
        · unfold maxLen; omega
        · omega
        · first | (have := HP2.out.below.size; simp at this ⊢; omega) | (have := HP2.out.below.size; simp; omega)
        · intro v1 w1 hown hgrow _ hat
          obtain ⟨g1, cap1, rfl⟩ := slice_shape hown (by omega)
          have hr1 := hr_push ((Below.refl _ _).alloc (Nat.le_refl _) _).drew hgrow HP2.out.hr HP2.out.five.oa
          have c10 : w1.cell? ⟨ob, 0, none⟩ = some vi := by rw [cell_of_heap hr1]; rfl
          have f10 : w1.frozen? ⟨ob, 0, none⟩ = false := by simp [World.frozen?, hr1]
          have H1 := Lib.hid (HP2.out.pushItem ((Below.refl _ _).alloc (Nat.le_refl _) _).drew IT.out hown hgrow (by simpa using hat))
          clear hown hgrow hat hr1
          go_wp2
          refine ⟨by kernel_rfl, ?_⟩
          go_wp2
          go_ret2
          exact sg_ok HQ.out (by omega) ⟨_, _, _, _, _, _, H1.out, pinv_items HV.out _⟩
      · have HQ := Lib.hid (QW.out _ _ (quant_yes hq tq))
        clear tq
        have HX := Lib.hid (HX2.out.quant p[k + 2].toNat)
        have HP2 := Lib.hid (H.out.grow HX.out.below)
        have IT := Lib.hid (HX.out.item H.out)
        go_wp2
        refine wp_region_lex mixed (by kernel_rfl) ?_
        go_wp2_with (at_builtin; refine wpList_append_own_at _ rfl (.tmp 109) (.tmp 111) 64 rfl w0.heap.size 114 i14 _ 6 48 Tryd.underlying64 hi14 hi14a hi14b hi14c rfl (by decide) vi s.items.length (rowR s.items vs) rfl ?_ ⟨_, 0, none⟩ 1 1 [_, _, _, _, _, _] rfl rfl (cells_sixR _ _ _ _ _ _ _ _ _ (by simp)) ?_ ?_ ?_ ?_ ?_)
        · exact ownsRow_ext (below_ext ((Below.refl _ _).alloc (Nat.le_refl _) _).drew (Nat.le_refl _)) HP2.out.oi
        · intro u hu
          simp only [List.mem_cons, List.not_mem_nil, or_false] at hu
          rcases hu with rfl | rfl | rfl | rfl | rfl | rfl <;> rfl
        · unfold maxLen; omega
        · omega
        · first | (have := HP2.out.below.size; simp at this ⊢; omega) | (have := HP2.out.below.size; simp; omega)
        · intro v1 w1 hown hgrow _ hat
          obtain ⟨g1, cap1, rfl⟩ := slice_shape hown (by omega)
          have hr1 := hr_push ((Below.refl _ _).alloc (Nat.le_refl _) _).drew hgrow HP2.out.hr HP2.out.five.oa
          have c10 : w1.cell? ⟨ob, 0, none⟩ = some vi := by rw [cell_of_heap hr1]; rfl
          have f10 : w1.frozen? ⟨ob, 0, none⟩ = false := by simp [World.frozen?, hr1]
          have H1 := Lib.hid (HP2.out.pushItem ((Below.refl _ _).alloc (Nat.le_refl _) _).drew IT.out hown hgrow (by simpa using hat))
          clear hown hgrow hat hr1
          go_wp2
          refine ⟨by kernel_rfl, ?_⟩
          go_wp2
          go_ret2
          exact sg_ok HQ.out (by omega) ⟨_, _, _, _, _, _, H1.out, pinv_items HV.out _⟩
      · have HQ := Lib.hid (QW.out _ _ (quant_yes hq tq))
        clear tq
        have HX := Lib.hid (HX2.out.quant p[k + 2].toNat)
        have HP2 := Lib.hid (H.out.grow HX.out.below)
        have IT := Lib.hid (HX.out.item H.out)
        go_wp2
        refine wp_region_lex mixed (by kernel_rfl) ?_
        go_wp2_with (at_builtin; refine wpList_append_own_at _ rfl (.tmp 109) (.tmp 111) 64 rfl w0.heap.size 114 i14 _ 6 48 Tryd.underlying64 hi14 hi14a hi14b hi14c rfl (by decide) vi s.items.length (rowR s.items vs) rfl ?_ ⟨_, 0, none⟩ 1 1 [_, _, _, _, _, _] rfl rfl (cells_sixR _ _ _ _ _ _ _ _ _ (by simp)) ?_ ?_ ?_ ?_ ?_)
        · exact ownsRow_ext (below_ext ((Below.refl _ _).alloc (Nat.le_refl _) _).drew (Nat.le_refl _)) HP2.out.oi
        · intro u hu
          simp only [List.mem_cons, List.not_mem_nil, or_false] at hu
          rcases hu with rfl | rfl | rfl | rfl | rfl | rfl <;> rfl
        · unfold maxLen; omega
        · omega
        · first | (have := HP2.out.below.size; simp at this ⊢; omega) | (have := HP2.out.below.size; simp; omega)
        · intro v1 w1 hown hgrow _ hat
          obtain ⟨g1, cap1, rfl⟩ := slice_shape hown (by omega)
          have hr1 := hr_push ((Below.refl _ _).alloc (Nat.le_refl _) _).drew hgrow HP2.out.hr HP2.out.five.oa
          have c10 : w1.cell? ⟨ob, 0, none⟩ = some vi := by rw [cell_of_heap hr1]; rfl
          have f10 : w1.frozen? ⟨ob, 0, none⟩ = false := by simp [World.frozen?, hr1]
          have H1 := Lib.hid (HP2.out.pushItem ((Below.refl _ _).alloc (Nat.le_refl _) _).drew IT.out hown hgrow (by simpa using hat))
          clear hown hgrow hat hr1
          go_wp2
          refine ⟨by kernel_rfl, ?_⟩
          go_wp2
          go_ret2
          exact sg_ok HQ.out (by omega) ⟨_, _, _, _, _, _, H1.out, pinv_items HV.out _⟩
  · have HE := Lib.hid (show R = .error 4 by rw [HR.out]; exact single_err (by rw [hR2, bytesOf_end p (k + 1) (by omega)]))
    clear hR2
    go_enter Tryd.func51, Tryd.ntmps51
    go_wp2_with (simp only [hmk])
    obtain ⟨W1, hW1⟩ : ∃ W1, W1 = (w.alloc (.cells (setC noMark) 4)).alloc (.cells #[.int .i64 1, .slice (some ⟨w.heap.size, 0, none⟩) 256 256, .int .u8 0, .int .u8 0, .int .u8 0, .int .i64 0] 114) := ⟨_, rfl⟩
    have hx1 := XSt.start w
    rw [← hW1] at hx1 ⊢
    have hsz : w.heap.size < W1.heap.size := by rw [hW1]; simp; omega
    have hox : ob ≠ (w.heap.size + 1) := by omega
    have hxo : (w.heap.size + 1) ≠ ob := by omega
    have hos : ob ≠ w.heap.size := by omega
    have HBB := Lib.hid (H.out.below.trans (hx1.below.drew.mono H.out.below.size))
    clear hW1 hx1 hmk
    have tg1 : decide ((p.size : Int) ≤ (k : Int) + 1) = true := by simp; omega
    have tg2 : decide (p.size ≤ k + 1) = true := by simp; omega
    refine wp_region_lex mixed (by kernel_rfl) ?_
    go_wp2
    refine ⟨by kernel_rfl, ?_⟩
    go_wp2
    go_ret2
    exact sg_err HE.out HBB.out
set_option maxRecDepth 100000 in
set_option maxHeartbeats 8000000 in
theorem sing_set {w0 w : World} {ob : Nat} {anc fin : Bool} {s : St} {ps : List Bool} {vi vo vc vp : Value} {vs : List Value} (h : PSt w0 ob w anc fin s ps vi vo vc vp vs) (hv : RInv s ps) (p : ByteArray) (k : Nat) (hk : k < p.size) (hp : p.size ≤ 5000) (hi : s.items.length ≤ k) (hc : p[k].toNat = 91) :
    Calls Tryd.prog 51 #[.pointer (some ⟨ob, 0, none⟩), .string p, .int .i64 k] w (SgPost w0 ob anc fin k (singleM p[k].toNat ((bytesOf p).drop (k + 1)) s)) := by
  obtain ⟨i14, hi14, hi14a, hi14b, hi14c⟩ := info_parts Tryd.info114
  obtain ⟨R, hR⟩ : ∃ R, R = singleM p[k].toNat ((bytesOf p).drop (k + 1)) s := ⟨_, rfl⟩
  rw [← hR]
  have HR := Lib.hid hR
  have H := Lib.hid h
  have HV := Lib.hid hv
  have hlt := h.lt
  clear hR h hv
  have hmk := make_marks
  have t46 : ((p[k].toNat : Int) == 46) = false := by rw [beq_eq_false_iff_ne]; omega
  have t37 : ((p[k].toNat : Int) == 37) = false := by rw [beq_eq_false_iff_ne]; omega
  have t91 : ((p[k].toNat : Int) == 91) = true := by rw [hc]; rfl
  have HR2 := Lib.hid (show baseM p[k].toNat ((bytesOf p).drop (k + 1)) = setM ((bytesOf p).drop (k + 1)) by unfold baseM; rw [if_neg (by omega), if_neg (by omega), if_pos hc])
  clear hc
  go_enter Tryd.func51, Tryd.ntmps51
  go_wp2_with (simp only [hmk])
  obtain ⟨W1, hW1⟩ : ∃ W1, W1 = (w.alloc (.cells (setC noMark) 4)).alloc (.cells #[.int .i64 1, .slice (some ⟨w.heap.size, 0, none⟩) 256 256, .int .u8 0, .int .u8 0, .int .u8 0, .int .i64 0] 114) := ⟨_, rfl⟩
  have hx1 := XSt.start w
  rw [← hW1] at hx1 ⊢
  have hsz : w.heap.size < W1.heap.size := by rw [hW1]; simp; omega
  have hox : ob ≠ (w.heap.size + 1) := by omega
  have hxo : (w.heap.size + 1) ≠ ob := by omega
  have hos : ob ≠ w.heap.size := by omega
  have HX1 := Lib.hid hx1
  have RS := Lib.hid (readSet_c p (k : Int) k rfl hk hp W1)
  clear hW1 hx1 hmk
  refine RS.out.mono ?_
  rintro e W2 ⟨hb, hq⟩
  cases hsm : setM ((bytesOf p).drop (k + 1)) with
  | none =>
    rw [hsm] at hq
    obtain rfl := hq
    have HE := Lib.hid (show R = .error 4 by rw [HR.out]; exact single_err (by rw [HR2.out, hsm]))
    have hbb := HX1.out.below.trans (hb.mono HX1.out.below.size)
    have HBB := Lib.hid (H.out.below.trans (hbb.mono H.out.below.size))
    clear hsm hb hbb
    go_wp2
    go_ret2
    exact sg_err HE.out HBB.out
  | some q =>
    obtain ⟨S, rest⟩ := q
    rw [hsm] at hq
    obtain ⟨rfl, hset⟩ := hq
    have hlen := setM_len' hsm
    rw [List.length_drop, bytesOf_length] at hlen
    simp only at hlen
    obtain ⟨N, hN⟩ : ∃ N : Nat, N = p.size - rest.length := ⟨_, rfl⟩
    have hN1 : N ≤ p.size := by omega
    have hN2 : k + 2 ≤ N := by omega
    have HB := Lib.hid (show baseM p[k].toNat ((bytesOf p).drop (k + 1)) = some (S, (bytesOf p).drop N) by rw [HR2.out, hsm, hN, ← suffix_drop (setM_suffix hsm)])
    have hxn := HX1.out.newSet hb hset
    obtain ⟨sb2, hsb2⟩ : ∃ sb2, sb2 = W1.heap.size := ⟨_, rfl⟩
    rw [← hsb2] at hxn ⊢
    rw [← hN]
    have hxx := (below_ext hb (Nat.le_refl _)).get HX1.out.hx
    have yf1 : W2.frozen? ⟨(w.heap.size + 1), 1, none⟩ = false := by simp [World.frozen?, hxx]
    have hbb := HX1.out.below.trans (hb.mono HX1.out.below.size)
    have y0 : W2.cell? ⟨(w.heap.size + 1), 0, none⟩ = some (.int .i64 1) := by rw [cell_of_heap hxx]; rfl
    have y1 : W2.cell? ⟨(w.heap.size + 1), 1, none⟩ = some (.slice (some ⟨w.heap.size, 0, none⟩) 256 256) := by rw [cell_of_heap hxx]; rfl
    have y2 : W2.cell? ⟨(w.heap.size + 1), 2, none⟩ = some (.int .u8 0) := by rw [cell_of_heap hxx]; rfl
    have y3 : W2.cell? ⟨(w.heap.size + 1), 3, none⟩ = some (.int .u8 0) := by rw [cell_of_heap hxx]; rfl
    have y4 : W2.cell? ⟨(w.heap.size + 1), 4, none⟩ = some (.int .u8 0) := by rw [cell_of_heap hxx]; rfl
    have y5 : W2.cell? ⟨(w.heap.size + 1), 5, none⟩ = some (.int .i64 0) := by rw [cell_of_heap hxx]; rfl
    have yf : W2.frozen? ⟨(w.heap.size + 1), 2, none⟩ = false := by simp [World.frozen?, hxx]
    have HP := Lib.hid (H.out.grow hbb)
    have z0 : W2.cell? ⟨ob, 0, none⟩ = some vi := by rw [cell_of_heap HP.out.hr]; rfl
    have zlt := HP.out.lt
    have HXN := Lib.hid hxn
    clear hsm hb hset hlen hN hxn hxx hsb2 hos hbb HP
    have HP := Lib.hid (H.out.grow HXN.out.below)
    have QW : Hid (∀ q m, quantM ((bytesOf p).drop (N)) = (q, m) → R = .ok ({ s with items := s.items ++ [⟨7, 0, 0, 0, S, q⟩] }, N - k + m)) := fun q m hq => by rw [HR.out]; exact single_of HB.out (by omega) (by omega) hq
    rcases quant_ways p (N) with hq | ⟨hq, t1, t2, t3, t4, tq⟩ | ⟨hq, t1, tq⟩ | ⟨hq, t1, t2, tq⟩ | ⟨hq, t1, t2, t3, tq⟩ | ⟨hq, t1, t2, t3, t4, tq⟩
    · have HQ := Lib.hid (QW.out _ _ (quant_end hq))
      have HX := HXN
      have HP2 := HP
      have IT := Lib.hid (HX.out.item H.out)
      go_wp2
      refine wp_region_lex mixed (by kernel_rfl) ?_
      go_wp2_with (at_builtin; refine wpList_append_own_at _ rfl (.tmp 109) (.tmp 111) 64 rfl w0.heap.size 114 i14 _ 6 48 Tryd.underlying64 hi14 hi14a hi14b hi14c rfl (by decide) vi s.items.length (rowR s.items vs) rfl ?_ ⟨_, 0, none⟩ 1 1 [_, _, _, _, _, _] rfl rfl (cells_sixR _ _ _ _ _ _ _ _ _ (by simp)) ?_ ?_ ?_ ?_ ?_)
      · exact ownsRow_ext (below_ext ((Below.refl _ _).alloc (Nat.le_refl _) _).drew (Nat.le_refl _)) HP2.out.oi
      · intro u hu
        simp only [List.mem_cons, List.not_mem_nil, or_false] at hu
        rcases hu with rfl | rfl | rfl | rfl | rfl | rfl <;> rfl
      · unfold maxLen; omega
      · omega
      · first | (have := HP2.out.below.size; simp at this ⊢; omega) | (have := HP2.out.below.size; simp; omega)
      · intro v1 w1 hown hgrow _ hat
        obtain ⟨g1, cap1, rfl⟩ := slice_shape hown (by omega)
        have hr1 := hr_push ((Below.refl _ _).alloc (Nat.le_refl _) _).drew hgrow HP2.out.hr HP2.out.five.oa
        have c10 : w1.cell? ⟨ob, 0, none⟩ = some vi := by rw [cell_of_heap hr1]; rfl
        have f10 : w1.frozen? ⟨ob, 0, none⟩ = false := by simp [World.frozen?, hr1]
        have H1 := Lib.hid (HP2.out.pushItem ((Below.refl _ _).alloc (Nat.le_refl _) _).drew IT.out hown hgrow (by simpa using hat))
        clear hown hgrow hat hr1
        go_wp2
        refine ⟨by kernel_rfl, ?_⟩
        go_wp2
        go_ret2
        exact sg_ok HQ.out (by omega) ⟨_, _, _, _, _, _, H1.out, pinv_items HV.out _⟩
    · have HQ := Lib.hid (QW.out _ _ (quant_no hq tq))
      clear tq
      have HX := HXN
      have HP2 := HP
      have IT := Lib.hid (HX.out.item H.out)
      go_wp2
      refine wp_region_lex mixed (by kernel_rfl) ?_
      go_wp2_with (at_builtin; refine wpList_append_own_at _ rfl (.tmp 109) (.tmp 111) 64 rfl w0.heap.size 114 i14 _ 6 48 Tryd.underlying64 hi14 hi14a hi14b hi14c rfl (by decide) vi s.items.length (rowR s.items vs) rfl ?_ ⟨_, 0, none⟩ 1 1 [_, _, _, _, _, _] rfl rfl (cells_sixR _ _ _ _ _ _ _ _ _ (by simp)) ?_ ?_ ?_ ?_ ?_)
      · exact ownsRow_ext (below_ext ((Below.refl _ _).alloc (Nat.le_refl _) _).drew (Nat.le_refl _)) HP2.out.oi
      · intro u hu
        simp only [List.mem_cons, List.not_mem_nil, or_false] at hu
        rcases hu with rfl | rfl | rfl | rfl | rfl | rfl <;> rfl
      · unfold maxLen; omega
      · omega
      · first | (have := HP2.out.below.size; simp at this ⊢; omega) | (have := HP2.out.below.size; simp; omega)
      · intro v1 w1 hown hgrow _ hat
        obtain ⟨g1, cap1, rfl⟩ := slice_shape hown (by omega)
        have hr1 := hr_push ((Below.refl _ _).alloc (Nat.le_refl _) _).drew hgrow HP2.out.hr HP2.out.five.oa
        have c10 : w1.cell? ⟨ob, 0, none⟩ = some vi := by rw [cell_of_heap hr1]; rfl
        have f10 : w1.frozen? ⟨ob, 0, none⟩ = false := by simp [World.frozen?, hr1]
        have H1 := Lib.hid (HP2.out.pushItem ((Below.refl _ _).alloc (Nat.le_refl _) _).drew IT.out hown hgrow (by simpa using hat))
        clear hown hgrow hat hr1
        go_wp2
        refine ⟨by kernel_rfl, ?_⟩
        go_wp2
        go_ret2
        exact sg_ok HQ.out (by omega) ⟨_, _, _, _, _, _, H1.out, pinv_items HV.out _⟩
    · have HQ := Lib.hid (QW.out _ _ (quant_yes hq tq))
      clear tq
      have HX := Lib.hid (HXN.out.quant p[N].toNat)
      have HP2 := Lib.hid (H.out.grow HX.out.below)
      have IT := Lib.hid (HX.out.item H.out)
      go_wp2
      refine wp_region_lex mixed (by kernel_rfl) ?_
      go_wp2_with (at_builtin; refine wpList_append_own_at _ rfl (.tmp 109) (.tmp 111) 64 rfl w0.heap.size 114 i14 _ 6 48 Tryd.underlying64 hi14 hi14a hi14b hi14c rfl (by decide) vi s.items.length (rowR s.items vs) rfl ?_ ⟨_, 0, none⟩ 1 1 [_, _, _, _, _, _] rfl rfl (cells_sixR _ _ _ _ _ _ _ _ _ (by simp)) ?_ ?_ ?_ ?_ ?_)
      · exact ownsRow_ext (below_ext ((Below.refl _ _).alloc (Nat.le_refl _) _).drew (Nat.le_refl _)) HP2.out.oi
      · intro u hu
        simp only [List.mem_cons, List.not_mem_nil, or_false] at hu
        rcases hu with rfl | rfl | rfl | rfl | rfl | rfl <;> rfl
      · unfold maxLen; omega
      · omega
      · first | (have := HP2.out.below.size; simp at this ⊢; omega) | (have := HP2.out.below.size; simp; omega)
      · intro v1 w1 hown hgrow _ hat
        obtain ⟨g1, cap1, rfl⟩ := slice_shape hown (by omega)
        have hr1 := hr_push ((Below.refl _ _).alloc (Nat.le_refl _) _).drew hgrow HP2.out.hr HP2.out.five.oa
        have c10 : w1.cell? ⟨ob, 0, none⟩ = some vi := by rw [cell_of_heap hr1]; rfl
        have f10 : w1.frozen? ⟨ob, 0, none⟩ = false := by simp [World.frozen?, hr1]
        have H1 := Lib.hid (HP2.out.pushItem ((Below.refl _ _).alloc (Nat.le_refl _) _).drew IT.out hown hgrow (by simpa using hat))
        clear hown hgrow hat hr1
        go_wp2
        refine ⟨by kernel_rfl, ?_⟩
        go_wp2
        go_ret2
        exact sg_ok HQ.out (by omega) ⟨_, _, _, _, _, _, H1.out, pinv_items HV.out _⟩
    · have HQ := Lib.hid (QW.out _ _ (quant_yes hq tq))
      clear tq
      have HX := Lib.hid (HXN.out.quant p[N].toNat)
      have HP2 := Lib.hid (H.out.grow HX.out.below)
      have IT := Lib.hid (HX.out.item H.out)
      go_wp2
      refine wp_region_lex mixed (by kernel_rfl) ?_
      go_wp2_with (at_builtin; refine wpList_append_own_at _ rfl (.tmp 109) (.tmp 111) 64 rfl w0.heap.size 114 i14 _ 6 48 Tryd.underlying64 hi14 hi14a hi14b hi14c rfl (by decide) vi s.items.length (rowR s.items vs) rfl ?_ ⟨_, 0, none⟩ 1 1 [_, _, _, _, _, _] rfl rfl (cells_sixR _ _ _ _ _ _ _ _ _ (by simp)) ?_ ?_ ?_ ?_ ?_)
      · exact ownsRow_ext (below_ext ((Below.refl _ _).alloc (Nat.le_refl _) _).drew (Nat.le_refl _)) HP2.out.oi
      · intro u hu
        simp only [List.mem_cons, List.not_mem_nil, or_false] at hu
        rcases hu with rfl | rfl | rfl | rfl | rfl | rfl <;> rfl
      · unfold maxLen; omega
      · omega
      · first | (have := HP2.out.below.size; simp at this ⊢; omega) | (have := HP2.out.below.size; simp; omega)
      · intro v1 w1 hown hgrow _ hat
        obtain ⟨g1, cap1, rfl⟩ := slice_shape hown (by omega)
        have hr1 := hr_push ((Below.refl _ _).alloc (Nat.le_refl _) _).drew hgrow HP2.out.hr HP2.out.five.oa
        have c10 : w1.cell? ⟨ob, 0, none⟩ = some vi := by rw [cell_of_heap hr1]; rfl
        have f10 : w1.frozen? ⟨ob, 0, none⟩ = false := by simp [World.frozen?, hr1]
        have H1 := Lib.hid (HP2.out.pushItem ((Below.refl _ _).alloc (Nat.le_refl _) _).drew IT.out hown hgrow (by simpa using hat))
        clear hown hgrow hat hr1
        go_wp2
        refine ⟨by kernel_rfl, ?_⟩
        go_wp2
        go_ret2
        exact sg_ok HQ.out (by omega) ⟨_, _, _, _, _, _, H1.out, pinv_items HV.out _⟩
    · have HQ := Lib.hid (QW.out _ _ (quant_yes hq tq))
      clear tq
      have HX := Lib.hid (HXN.out.quant p[N].toNat)
      have HP2 := Lib.hid (H.out.grow HX.out.below)
      have IT := Lib.hid (HX.out.item H.out)
      go_wp2
      refine wp_region_lex mixed (by kernel_rfl) ?_
      go_wp2_with (at_builtin; refine wpList_append_own_at _ rfl (.tmp 109) (.tmp 111) 64 rfl w0.heap.size 114 i14 _ 6 48 Tryd.underlying64 hi14 hi14a hi14b hi14c rfl (by decide) vi s.items.length (rowR s.items vs) rfl ?_ ⟨_, 0, none⟩ 1 1 [_, _, _, _, _, _] rfl rfl (cells_sixR _ _ _ _ _ _ _ _ _ (by simp)) ?_ ?_ ?_ ?_ ?_)
      · exact ownsRow_ext (below_ext ((Below.refl _ _).alloc (Nat.le_refl _) _).drew (Nat.le_refl _)) HP2.out.oi
      · intro u hu
        simp only [List.mem_cons, List.not_mem_nil, or_false] at hu
        rcases hu with rfl | rfl | rfl | rfl | rfl | rfl <;> rfl
      · unfold maxLen; omega
      · omega
      · first | (have := HP2.out.below.size; simp at this ⊢; omega) | (have := HP2.out.below.size; simp; omega)
      · intro v1 w1 hown hgrow _ hat
        obtain ⟨g1, cap1, rfl⟩ := slice_shape hown (by omega)
        have hr1 := hr_push ((Below.refl _ _).alloc (Nat.le_refl _) _).drew hgrow HP2.out.hr HP2.out.five.oa
        have c10 : w1.cell? ⟨ob, 0, none⟩ = some vi := by rw [cell_of_heap hr1]; rfl
        have f10 : w1.frozen? ⟨ob, 0, none⟩ = false := by simp [World.frozen?, hr1]
        have H1 := Lib.hid (HP2.out.pushItem ((Below.refl _ _).alloc (Nat.le_refl _) _).drew IT.out hown hgrow (by simpa using hat))
        clear hown hgrow hat hr1
        go_wp2
        refine ⟨by kernel_rfl, ?_⟩
        go_wp2
        go_ret2
        exact sg_ok HQ.out (by omega) ⟨_, _, _, _, _, _, H1.out, pinv_items HV.out _⟩
    · have HQ := Lib.hid (QW.out _ _ (quant_yes hq tq))
      clear tq
      have HX := Lib.hid (HXN.out.quant p[N].toNat)
      have HP2 := Lib.hid (H.out.grow HX.out.below)
      have IT := Lib.hid (HX.out.item H.out)
      go_wp2
      refine wp_region_lex mixed (by kernel_rfl) ?_
      go_wp2_with (at_builtin; refine wpList_append_own_at _ rfl (.tmp 109) (.tmp 111) 64 rfl w0.heap.size 114 i14 _ 6 48 Tryd.underlying64 hi14 hi14a hi14b hi14c rfl (by decide) vi s.items.length (rowR s.items vs) rfl ?_ ⟨_, 0, none⟩ 1 1 [_, _, _, _, _, _] rfl rfl (cells_sixR _ _ _ _ _ _ _ _ _ (by simp)) ?_ ?_ ?_ ?_ ?_)
      · exact ownsRow_ext (below_ext ((Below.refl _ _).alloc (Nat.le_refl _) _).drew (Nat.le_refl _)) HP2.out.oi
      · intro u hu
        simp only [List.mem_cons, List.not_mem_nil, or_false] at hu
        rcases hu with rfl | rfl | rfl | rfl | rfl | rfl <;> rfl
      · unfold maxLen; omega
      · omega
      · first | (have := HP2.out.below.size; simp at this ⊢; omega) | (have := HP2.out.below.size; simp; omega)
      · intro v1 w1 hown hgrow _ hat
        obtain ⟨g1, cap1, rfl⟩ := slice_shape hown (by omega)
        have hr1 := hr_push ((Below.refl _ _).alloc (Nat.le_refl _) _).drew hgrow HP2.out.hr HP2.out.five.oa
        have c10 : w1.cell? ⟨ob, 0, none⟩ = some vi := by rw [cell_of_heap hr1]; rfl
        have f10 : w1.frozen? ⟨ob, 0, none⟩ = false := by simp [World.frozen?, hr1]
        have H1 := Lib.hid (HP2.out.pushItem ((Below.refl _ _).alloc (Nat.le_refl _) _).drew IT.out hown hgrow (by simpa using hat))
        clear hown hgrow hat hr1
        go_wp2
        refine ⟨by kernel_rfl, ?_⟩
        go_wp2
        go_ret2
        exact sg_ok HQ.out (by omega) ⟨_, _, _, _, _, _, H1.out, pinv_items HV.out _⟩
theorem readSingle_c {w0 w : World} {ob : Nat} {anc fin : Bool} {s : St} {ps : List Bool} {vi vo vc vp : Value} {vs : List Value} (h : PSt w0 ob w anc fin s ps vi vo vc vp vs) (hv : RInv s ps) (p : ByteArray) (k : Nat) (hk : k < p.size) (hp : p.size ≤ 5000) (hi : s.items.length ≤ k) : Calls Tryd.prog 51 #[.pointer (some ⟨ob, 0, none⟩), .string p, .int .i64 k] w (SgPost w0 ob anc fin k (singleM p[k].toNat ((bytesOf p).drop (k + 1)) s)) := by
  by_cases h1 : p[k].toNat = 46
  · exact sing_dot h hv p k hk hp hi h1
  · by_cases h2 : p[k].toNat = 37
    · exact sing_pct h hv p k hk hp hi h2
    · by_cases h3 : p[k].toNat = 91
      · exact sing_set h hv p k hk hp hi h3
      · exact sing_plain h hv p k hk hp hi h1 h2 h3
end Go.Proofs.YtpbhncmaamedhaaDoor

namespace Go.Proofs.YtpbhncmaamedhaaDoor
open Go.RowKit Go.Proofs.Lexi

/-! The reference's read (28). -/
def ReadEnd (w : World) (ob : Nat) (anc : Bool) (R : Except Nat (St × Bool)) (e : Ending) (w' : World) : Prop :=
  match R with
  | .error c => e = .returned (.tuple #[.pointer none, .int .i64 c]) ∧ Below w.heap.size w w'
  | .ok (s, fin) => if s.opened = [] then e = .returned (.tuple #[.pointer (some ⟨ob, 0, none⟩), .int .i64 0]) ∧ PPost w ob anc fin s w'
      else e = .returned (.tuple #[.pointer none, .int .i64 4]) ∧ Below w.heap.size w w'
theorem ReadEnd.err {w w' : World} {ob : Nat} {anc : Bool} {R : Except Nat (St × Bool)} {c : Nat} {d : Int} (hR : R = .error c) (hd : d = c) (hb : Below w.heap.size w w') : ReadEnd w ob anc R (.returned (.tuple #[.pointer none, .int .i64 d])) w' := by
  subst hR hd; exact ⟨rfl, hb⟩
theorem ReadEnd.ok {w w' : World} {ob : Nat} {anc fin : Bool} {R : Except Nat (St × Bool)} {s : St} (hR : R = .ok (s, fin)) (ho : s.opened = []) (hb : PPost w ob anc fin s w') : ReadEnd w ob anc R (.returned (.tuple #[.pointer (some ⟨ob, 0, none⟩), .int .i64 0])) w' := by
  subst hR; simp only [ReadEnd, ho, if_true]; exact ⟨trivial, hb⟩
theorem ReadEnd.left {w w' : World} {ob : Nat} {anc fin : Bool} {R : Except Nat (St × Bool)} {s : St} (hR : R = .ok (s, fin)) (ho : ¬ s.opened = []) (hb : Below w.heap.size w w') : ReadEnd w ob anc R (.returned (.tuple #[.pointer none, .int .i64 4])) w' := by
  subst hR; simp only [ReadEnd, ho, if_false]; exact ⟨trivial, hb⟩
def ReadRel (w0 : World) (ob : Nat) (p : ByteArray) (anc : Bool) (R : Except Nat (St × Bool)) (g : Nat) (v : Value) (wr : World) : Prop :=
  ∃ k s, g = p.size - k ∧ v = .int .i64 (k : Nat) ∧ k ≤ p.size ∧ PPost w0 ob anc false s wr ∧ Wf s ∧ s.items.length ≤ k ∧ parseGo ((bytesOf p).drop k).length ((bytesOf p).drop k) s = R
theorem ReadRel.next {w0 : World} {ob : Nat} {p : ByteArray} {anc : Bool} {R : Except Nat (St × Bool)} {k m : Nat} {s s' : St} {wr : World} {n : Int} (hat : k < p.size) (hw : Wf s) (hi : s.items.length ≤ k) (hd : ¬ (p[k].toNat = 36 ∧ (bytesOf p).drop (k + 1) = []))
    (hR : parseGo ((bytesOf p).drop k).length ((bytesOf p).drop k) s = R) (hs : stepM p[k].toNat ((bytesOf p).drop (k + 1)) s = .ok (s', m)) (hr : PPost w0 ob anc false s' wr) (hn : n = ((k + m : Nat) : Int)) :
    ReadRel w0 ob p anc R (p.size - (k + m)) (.int .i64 n) wr ∧ p.size - (k + m) < p.size - k := by
  have h := step_ok hs
  have m1 := h.m1
  have m2 := h.m2
  rw [List.length_drop, bytesOf_length] at m2
  refine ⟨⟨k + m, s', rfl, by rw [hn], by omega, hr, h.wf hw, by rw [h.il]; omega, ?_⟩, by omega⟩
  rw [bytesOf_drop p k hat, parseGo_next hd hs] at hR
  have e : (p[k].toNat :: (bytesOf p).drop (k + 1)).drop m = (bytesOf p).drop (k + m) := by rw [← bytesOf_drop p k hat, List.drop_drop]
  rw [e] at hR
  exact hR
theorem step_bounds {p : ByteArray} {k m : Nat} {s s' : St} (hat : k < p.size) (hs : stepM p[k].toNat ((bytesOf p).drop (k + 1)) s = .ok (s', m)) : 1 ≤ m ∧ k + m ≤ p.size := by
  have h := step_ok hs
  have m1 := h.m1
  have m2 := h.m2
  rw [List.length_drop, bytesOf_length] at m2
  omega
theorem step_e {c : Nat} {r : List Nat} {s : St} {e : Nat} (h : stepM c r s = .error e) : e = 3 ∨ e = 4 := by
  unfold stepM at h
  split at h
  · exact bracket_e h
  · split at h
    · split at h
      · rename_i R hR; subst h; exact .inr (percent_e hR)
      · exact .inr (single_e h)
    · exact .inr (single_e h)
theorem opened_slice {w : World} {base : Nat} {v : Value} {l : List Nat} (ho : w.ownsRow base 3 1 v l.length (l.map intV)) : (∃ ao cap, v = .slice ao 0 cap ∧ l = []) ∨ (∃ ao m cap, v = .slice ao (m + 1) cap ∧ ¬ l = [] ∧ m + 1 = l.length) := by
  cases l with
  | nil =>
    rcases ho.2 with ⟨e, _⟩ | ⟨g, cap, cur, e, _⟩
    · exact .inl ⟨_, _, e, rfl⟩
    · exact .inl ⟨_, _, e, rfl⟩
  | cons a l =>
    rcases ho.2 with ⟨e, h⟩ | ⟨g, cap, cur, e, _⟩
    · simp at h
    · exact .inr ⟨_, l.length, _, e, by simp, by simp⟩
theorem rd_start (w : World) (anc : Bool) : PSt w w.heap.size (w.alloc (.cells #[.slice none 0 0, .bool anc, .bool false, .int .i64 0, .slice none 0 0, .slice none 0 0, .slice none 0 0] 68)) anc false St.zero [] (.slice none 0 0) (.slice none 0 0) (.slice none 0 0) (.slice none 0 0) [] := by
  refine ⟨(Below.refl _ _).alloc (Nat.le_refl _) _, heap_new _ _, Nat.le_refl _, World.ownsRow_nil _ _ _ _, World.ownsRow_nil _ _ _ _, World.ownsRow_nil _ _ _ _, World.ownsRow_nil _ _ _ _, rfl, fun j hj => (by cases hj), ?_⟩
  constructor
  all_goals (intro g h h'; first | (cases h'; done) | (cases h; done))
theorem rd_zero : RInv St.zero [] := ⟨rfl, fun n hn => (by simp at hn)⟩
theorem rd_wf : Wf St.zero := ⟨rfl, by decide, fun n hn => (by cases hn), by decide⟩
set_option maxRecDepth 100000 in
set_option maxHeartbeats 4000000 in
theorem read_go (p : ByteArray) (hp : p.size ≤ 5000) (w : World) (anc : Bool) (at0 : Nat) (hst : (p.size = 0 ∧ anc = false ∧ at0 = 0) ∨ (∃ h : 0 < p.size, ¬ p[0].toNat = 94 ∧ anc = false ∧ at0 = 0) ∨ (∃ h : 0 < p.size, p[0].toNat = 94 ∧ anc = true ∧ at0 = 1)) :
    Calls Tryd.prog 28 #[.string p] w (ReadEnd w w.heap.size anc (parseGo ((bytesOf p).drop at0).length ((bytesOf p).drop at0) St.zero)) := by
  have hat0 : at0 ≤ p.size := by rcases hst with ⟨_, _, h⟩ | ⟨_, _, _, h⟩ | ⟨_, _, _, h⟩ <;> omega
  have hs0 := rd_start w false
  have hs1 := rd_start w true
  have hstart : ∀ R W, parseGo ((bytesOf p).drop at0).length ((bytesOf p).drop at0) St.zero = R → PSt w w.heap.size W anc false St.zero [] (.slice none 0 0) (.slice none 0 0) (.slice none 0 0) (.slice none 0 0) [] → ReadRel w w.heap.size p anc R (p.size - at0) (.int .i64 (at0 : Nat)) W :=
    fun R W hR h => ⟨at0, St.zero, rfl, rfl, hat0, ⟨_, _, _, _, _, _, h, rd_zero⟩, rd_wf, by simp [St.zero], hR⟩
  generalize HR : parseGo ((bytesOf p).drop at0).length ((bytesOf p).drop at0) St.zero = R at hstart ⊢
  have HS := Lib.hid (fun W => hstart R W rfl)
  have H0 := Lib.hid hs0
  have H1 := Lib.hid hs1
  clear hstart HR hs0 hs1
  rcases hst with ⟨h0, hanc, hat⟩ | ⟨hl, h94, hanc, hat⟩ | ⟨hl, h94, hanc, hat⟩
  focus
    have e1 : (!p.toList.isEmpty) = false := by rw [toList_nil h0]; rfl
    have HA := Lib.hid hanc
    have HT := Lib.hid hat
    have HX := Lib.hid (HS.out _ (by rw [hanc]; exact H0.out))
    clear hanc hat
    clear h0
    go_enter Tryd.func28, Tryd.ntmps28
    go_wp2
    clear e1
  rotate_left
  focus
    have t94 : ((p[0].toNat : Int) == 94) = false := by rw [beq_eq_false_iff_ne]; omega
    have e1 : (!p.toList.isEmpty) = true := by simpa using toList_ne hl
    have HA := Lib.hid hanc
    have HT := Lib.hid hat
    have HX := Lib.hid (HS.out _ (by rw [hanc]; exact H0.out))
    clear hanc hat
    clear h94
    go_enter Tryd.func28, Tryd.ntmps28
    go_wp2
    clear e1 t94
  rotate_left
  focus
    have t94 : ((p[0].toNat : Int) == 94) = true := by rw [h94]; rfl
    have e1 : (!p.toList.isEmpty) = true := by simpa using toList_ne hl
    have HA := Lib.hid hanc
    have HT := Lib.hid hat
    have HX := Lib.hid (HS.out _ (by rw [hanc]; exact H1.out))
    clear hanc hat
    clear h94
    go_enter Tryd.func28, Tryd.ntmps28
    go_wp2
    clear e1 t94
  rotate_left
  all_goals
    go_loopg [5] (p.size - at0) (fun g v wr => ReadRel w w.heap.size p anc R g v wr)
    case atStart =>
      have h := HX.out
      rw [HT.out] at h
      rw [HT.out]
      exact h
    case round =>
      clear HS HX H0 H1
      obtain ⟨k, s, rfl, rfl, hle, ⟨ps, vi, vo, vc, vp, vs, hR, hv⟩, hwf, hi, hgo⟩ := hrel
      have ol := hwf.ol
      have c16 := hwf.c16
      have h4 : wr.cell? ⟨w.heap.size, 4, none⟩ = some vo := by rw [cell_of_heap hR.hr]; rfl
      have HRR := Lib.hid hR
      have HV := Lib.hid hv
      have HWF := Lib.hid hwf
      have HGO := Lib.hid hgo
      have HO := opened_slice hR.oo
      clear hwf hgo hv hR
      by_cases hlt : k < p.size
      · by_cases hd : p[k].toNat = 36 ∧ k + 1 = p.size
        · have t36 : ((p[k].toNat : Int) == 36) = true := by rw [hd.1]; rfl
          have tl : ((k : Int) == (p.size : Int) - 1) = true := by rw [beq_iff_eq]; omega
          have c2 : wr.cell? ⟨w.heap.size, 2, none⟩ = some (.bool false) := by rw [cell_of_heap HRR.out.hr]; rfl
          have f2 := HRR.out.frozen 2
          have HP := Lib.hid (HRR.out.setr (k := 2) (u := .bool true) (anc' := anc) (fin' := true) (caps' := s.caps) rfl)
          have HE := Lib.hid (show R = .ok (s, true) from by
            rw [← HGO.out, bytesOf_drop p k hlt, bytesOf_end p (k + 1) (by omega), hd.1]
            simp [parseGo])
          clear hd HGO
          rcases HO with ⟨ao, cap, rfl, ho⟩ | ⟨ao, m, cap, rfl, ho, hm⟩
          · have HOO := Lib.hid ho
            clear ho
            go_wp2
            go_ret2
            exact ReadEnd.ok HE.out HOO.out ⟨_, _, _, _, _, _, HP.out, HV.out⟩
          · have HOO := Lib.hid ho
            clear ho
            go_wp2
            go_ret2
            exact ReadEnd.left HE.out HOO.out HP.out.below
        · have HD := Lib.hid (show ¬ (p[k].toNat = 36 ∧ (bytesOf p).drop (k + 1) = []) from fun h => hd ⟨h.1, by
            have := congrArg List.length h.2
            rw [List.length_drop, bytesOf_length] at this
            simp at this; omega⟩)
          have tt : ((p[k].toNat : Int) == 36) = false ∨ (((p[k].toNat : Int) == 36) = true ∧ ((k : Int) == (p.size : Int) - 1) = false) := by
            by_cases h36 : p[k].toNat = 36
            · right; exact ⟨by rw [h36]; rfl, by rw [beq_eq_false_iff_ne]; have : ¬ k + 1 = p.size := fun h => hd ⟨h36, h⟩; omega⟩
            · left; rw [beq_eq_false_iff_ne]; omega
          clear hd HO
          rcases tt with t36 | ⟨t36, tl⟩
          all_goals
            go_wp2_with fail
            refine (special_c HRR.out HV.out HWF.out p k hlt hp hi).mono ?_
            intro e w1 hpost
            have hst := special_step p[k].toNat ((bytesOf p).drop (k + 1)) s
            cases hsm : specialM p[k].toNat ((bytesOf p).drop (k + 1)) s with
            | none =>
              rw [hsm] at hpost hst
              obtain ⟨rfl, ps1, vi1, vo1, vc1, vp1, vs1, hR1, hv1⟩ := hpost
              have HST := Lib.hid hst
              have HR1 := Lib.hid hR1
              have HV1 := Lib.hid hv1
              clear hst hsm hR1 hv1 HRR HV
              go_wp2_with fail
              refine (readSingle_c HR1.out HV1.out p k hlt hp hi).mono ?_
              intro e w2 hpost
              cases hsg : singleM p[k].toNat ((bytesOf p).drop (k + 1)) s with
              | error c =>
                rw [hsg] at hpost
                obtain ⟨rfl, hb⟩ := hpost
                have HB := Lib.hid hb
                have HC := Lib.hid (single_e hsg)
                have ER := Lib.hid (ParseRel.bad (p := p) hlt HD.out HGO.out (by rw [HST.out]; exact hsg))
                clear hb hsg HST
                go_wp2
                go_ret2
                exact ReadEnd.err ER.out (by rw [HC.out]; rfl) HB.out
              | ok q =>
                obtain ⟨s', m⟩ := q
                rw [hsg] at hpost
                obtain ⟨rfl, hb⟩ := hpost
                obtain ⟨m1, m2⟩ := step_bounds hlt (by rw [HST.out]; exact hsg)
                obtain ⟨N1, N2⟩ := ReadRel.next (p := p) hlt HWF.out hi HD.out HGO.out (by rw [HST.out]; exact hsg) hb rfl
                have HN := Lib.hid N1
                clear hb hsg HST N1
                go_wp2
                go_roundg (p.size - (k + m))
                case measure => exact N2
                case rel => exact HN.out
            | some Q =>
              rw [hsm] at hpost hst
              cases Q with
              | error c =>
                obtain ⟨⟨n, rfl⟩, hb⟩ := hpost
                have HB := Lib.hid hb
                have ER := Lib.hid (ParseRel.bad (p := p) hlt HD.out HGO.out hst)
                rcases step_e hst with rfl | rfl
                all_goals
                  clear hb hst hsm
                  go_wp2
                  go_ret2
                  exact ReadEnd.err ER.out rfl HB.out
              | ok q =>
                obtain ⟨s', m⟩ := q
                obtain ⟨rfl, hb⟩ := hpost
                obtain ⟨m1, m2⟩ := step_bounds hlt hst
                obtain ⟨N1, N2⟩ := ReadRel.next (p := p) hlt HWF.out hi HD.out HGO.out hst hb rfl
                have HN := Lib.hid N1
                clear hb hst hsm N1
                go_wp2
                go_roundg (p.size - (k + m))
                case measure => exact N2
                case rel => exact HN.out
      · have hk : k = p.size := by omega
        have HE := Lib.hid (show R = .ok (s, false) from by
          rw [← HGO.out, bytesOf_end p k (by omega)]
          simp [parseGo])
        clear HGO
        rcases HO with ⟨ao, cap, rfl, ho⟩ | ⟨ao, m, cap, rfl, ho, hm⟩
        · have HOO := Lib.hid ho
          clear ho
          go_wp2
          go_ret2
          exact ReadEnd.ok HE.out HOO.out ⟨_, _, _, _, _, _, HRR.out, HV.out⟩
        · have HOO := Lib.hid ho
          clear ho
          go_wp2
          go_ret2
          exact ReadEnd.left HE.out HOO.out HRR.out.below
/-- What read returns. -/
def ReadPost (w : World) (R : Except Nat (St × Bool × Bool)) (e : Ending) (w' : World) : Prop :=
  match R with
  | .error c => e = .returned (.tuple #[.pointer none, .int .i64 c]) ∧ Below w.heap.size w w'
  | .ok (s, anc, fin) => e = .returned (.tuple #[.pointer (some ⟨w.heap.size, 0, none⟩), .int .i64 0]) ∧ PPost w w.heap.size anc fin s w'
theorem readPost_of {w : World} {p : ByteArray} {e : Ending} {w' : World} {anc : Bool} {at0 : Nat} (h : ReadEnd w w.heap.size anc (parseGo ((bytesOf p).drop at0).length ((bytesOf p).drop at0) St.zero) e w')
    (ha : ((bytesOf p).head? == some 94) = anc) (hr : (if ((bytesOf p).head? == some 94) = true then (bytesOf p).tail else bytesOf p) = (bytesOf p).drop at0) : ReadPost w (parseM (bytesOf p)) e w' := by
  unfold parseM
  simp only [hr]
  unfold ReadEnd at h
  cases hg : parseGo ((bytesOf p).drop at0).length ((bytesOf p).drop at0) St.zero with
  | error c => rw [hg] at h; exact h
  | ok q =>
    obtain ⟨s, fin⟩ := q
    rw [hg] at h
    simp only [] at h ⊢
    by_cases ho : s.opened = []
    · simp only [ho, if_true] at h ⊢
      rw [ha]
      exact h
    · simp only [ho, if_false] at h ⊢
      exact h
theorem read_c (p : ByteArray) (hp : p.size ≤ 5000) (w : World) : Calls Tryd.prog 28 #[.string p] w (ReadPost w (parseM (bytesOf p))) := by
  by_cases h0 : p.size = 0
  · have e : bytesOf p = [] := List.eq_nil_of_length_eq_zero (by rw [bytesOf_length]; exact h0)
    exact (read_go p hp w false 0 (.inl ⟨h0, rfl, rfl⟩)).mono fun e w' h => readPost_of h (by simp [*]) (by simp [*])
  · have hl : 0 < p.size := by omega
    have e := bytesOf_drop p 0 hl
    rw [List.drop_zero] at e
    by_cases h94 : p[0].toNat = 94
    · exact (read_go p hp w true 1 (.inr (.inr ⟨hl, h94, rfl, rfl⟩))).mono fun _ w' h => readPost_of h (by rw [e, h94]; rfl) (by rw [e, h94]; simp)
    · exact (read_go p hp w false 0 (.inr (.inl ⟨hl, h94, rfl, rfl⟩))).mono fun _ w' h => readPost_of h (by rw [e]; simp [h94]) (by rw [e]; simp [h94])
end Go.Proofs.YtpbhncmaamedhaaDoor
