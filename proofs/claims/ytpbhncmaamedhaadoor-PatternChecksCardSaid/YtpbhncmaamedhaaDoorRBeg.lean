import Derived.Test.YtpbhncmaamedhaaDoorRPt
namespace Go.Proofs.YtpbhncmaamedhaaDoor
open Go.RowKit Go.Proofs.Lexi

/-! The reference's begins (66): a capture or a position is noted. -/
def BgPost (w0 : World) (ob : Nat) (anc fin : Bool) (R : Except Nat St) (e : Ending) (w' : World) : Prop :=
  match R with
  | .error c => e = .returned (.int .i64 c) ∧ Below w0.heap.size w0 w'
  | .ok s' => e = .returned (.int .i64 0) ∧ PPost w0 ob anc fin s' w'
def openS (s : St) : St := { s with items := s.items ++ [mkItem 1 s.caps], caps := s.caps + 1, opened := s.opened ++ [s.caps], ended := s.ended ++ [false] }
def placeS (s : St) : St := { s with items := s.items ++ [mkItem 3 s.caps], caps := s.caps + 1, ended := s.ended ++ [false] }
theorem cells_sixR (w : World) (x0 x1 x2 x3 x4 x5 : Value) (t : TypeId) (B : Nat) (hB : B = w.heap.size) : ∀ j u, [x0, x1, x2, x3, x4, x5][j]? = some u → (w.alloc (.cells #[x0, x1, x2, x3, x4, x5] t)).cell? ((⟨B, 0, none⟩ : Addr).add j) = some u := cells_six w x0 x1 x2 x3 x4 x5 t B hB
theorem pinv_open {s : St} {ps : List Bool} (h : RInv s ps) (hw : Wf s) : RInv (openS s) (ps ++ [false]) := by
  refine ⟨by simp [openS, h.len], fun n hn => ?_⟩
  by_cases hlt : n < ps.length
  · rw [getD_left _ _ _ _ hlt] at hn
    obtain ⟨h1, h2⟩ := h.pos n hn
    refine ⟨?_, ?_⟩
    · show (s.ended ++ [false]).getD n false = false
      rw [getD_left _ _ _ _ (by rw [hw.el, ← h.len]; exact hlt)]; exact h1
    · show n ∉ s.opened ++ [s.caps]
      simp only [List.mem_append, List.mem_singleton, not_or]
      exact ⟨h2, by rw [← h.len]; omega⟩
  · exfalso
    by_cases he : n = ps.length
    · subst he; rw [getD_last] at hn; cases hn
    · rw [List.getD_eq_getElem?_getD, List.getElem?_eq_none (by simp; omega)] at hn; cases hn
theorem pinv_place {s : St} {ps : List Bool} (h : RInv s ps) (hw : Wf s) : RInv (placeS s) (ps ++ [true]) := by
  refine ⟨by simp [placeS, h.len], fun n hn => ?_⟩
  by_cases hlt : n < ps.length
  · rw [getD_left _ _ _ _ hlt] at hn
    obtain ⟨h1, h2⟩ := h.pos n hn
    refine ⟨?_, h2⟩
    show (s.ended ++ [false]).getD n false = false
    rw [getD_left _ _ _ _ (by rw [hw.el, ← h.len]; exact hlt)]; exact h1
  · by_cases he : n = ps.length
    · subst he
      refine ⟨?_, fun hm => ?_⟩
      · show (s.ended ++ [false]).getD ps.length false = false
        rw [h.len, ← hw.el, getD_last]
      · have := hw.op _ hm
        rw [← h.len] at this; omega
    · rw [List.getD_eq_getElem?_getD, List.getElem?_eq_none (by simp; omega)] at hn; cases hn
set_option maxRecDepth 100000 in
set_option maxHeartbeats 1000000 in
theorem begins_lim {w0 w : World} {ob : Nat} {anc fin : Bool} {s : St} {ps : List Bool} {vi vo vc vp : Value} {vs : List Value} (h : PSt w0 ob w anc fin s ps vi vo vc vp vs) (hc : s.caps = 16) (k : Int) :
    Calls Tryd.prog 66 #[.pointer (some ⟨ob, 0, none⟩), .int .i64 k] w (BgPost w0 ob anc fin (.error 3)) := by
  have h3 : w.cell? ⟨ob, 3, none⟩ = some (.int .i64 16) := by rw [cell_of_heap h.hr, hc]; rfl
  have HB := Lib.hid h.below
  clear h hc
  go_enter Tryd.func66, Tryd.ntmps66
  go_wp2
  go_ret
  exact ⟨rfl, HB.out⟩
set_option maxRecDepth 100000 in
set_option maxHeartbeats 4000000 in
theorem begins_place {w0 w : World} {ob : Nat} {anc fin : Bool} {s : St} {ps : List Bool} {vi vo vc vp : Value} {vs : List Value} (h : PSt w0 ob w anc fin s ps vi vo vc vp vs) (hv : RInv s ps) (hw : Wf s) (hc : s.caps < 16) (hi : s.items.length ≤ 20000) :
    Calls Tryd.prog 66 #[.pointer (some ⟨ob, 0, none⟩), .int .i64 4] w (BgPost w0 ob anc fin (.ok (placeS s))) := by
  obtain ⟨i14, hi14, hi14a, hi14b, hi14c⟩ := info_parts Tryd.info114
  obtain ⟨i3, hi3, hi3a, hi3b, hi3c⟩ := info_parts Tryd.info3
  obtain ⟨i4, hi4, hi4a, hi4b, hi4c⟩ := info_parts Tryd.info4
  have h0 : w.cell? ⟨ob, 0, none⟩ = some vi := by rw [cell_of_heap h.hr]; rfl
  have h3 : w.cell? ⟨ob, 3, none⟩ = some (.int .i64 s.caps) := by rw [cell_of_heap h.hr]; rfl
  have t16 : ((s.caps : Int) == 16) = false := by rw [beq_eq_false_iff_ne]; omega
  have ol := hw.ol
  have el : s.ended.length ≤ 16 := by rw [hw.el]; omega
  have pl : ps.length ≤ 16 := by rw [hv.len]; omega
  have hlt := h.lt
  have H := Lib.hid h
  have HV := Lib.hid (pinv_place hv hw)
  clear h hv hw
  go_enter Tryd.func66, Tryd.ntmps66
  go_wp2
  refine wp_region_lex mixed (by kernel_rfl) ?_
  go_wp2_with (at_builtin; refine wpList_append_own_at _ rfl (.tmp 14) (.tmp 21) 64 rfl w0.heap.size 114 i14 _ 6 48 Tryd.underlying64 hi14 hi14a hi14b hi14c rfl (by decide) vi s.items.length (rowR s.items vs) rfl ?_ ⟨_, 0, none⟩ 1 1 [_, _, _, _, _, _] rfl rfl (cells_sixR _ _ _ _ _ _ _ _ _ (by simp)) ?_ ?_ ?_ ?_ ?_)
  · exact ownsRow_ext (below_ext (((Below.refl _ _).alloc (Nat.le_refl _) _).drew) (Nat.le_refl _)) H.out.oi
  · intro u hu
    simp only [List.mem_cons, List.not_mem_nil, or_false] at hu
    rcases hu with rfl | rfl | rfl | rfl | rfl | rfl <;> rfl
  · unfold maxLen; omega
  · omega
  · have := H.out.below.size; simp at this ⊢; omega
  · intro v1 w1 hown hgrow _ hat
    obtain ⟨g1, cap1, rfl⟩ := slice_shape hown (by omega)
    have hr1 := hr_push (((Below.refl _ _).alloc (Nat.le_refl _) _).drew) hgrow H.out.hr H.out.five.oa
    have c10 : w1.cell? ⟨ob, 0, none⟩ = some (vi) := by rw [cell_of_heap hr1]; rfl
    have c13 : w1.cell? ⟨ob, 3, none⟩ = some (.int .i64 s.caps) := by rw [cell_of_heap hr1]; rfl
    have c14 : w1.cell? ⟨ob, 4, none⟩ = some (vo) := by rw [cell_of_heap hr1]; rfl
    have c15 : w1.cell? ⟨ob, 5, none⟩ = some (vc) := by rw [cell_of_heap hr1]; rfl
    have c16 : w1.cell? ⟨ob, 6, none⟩ = some (vp) := by rw [cell_of_heap hr1]; rfl
    have f1 : w1.frozen? ⟨ob, 0, none⟩ = false := by simp [World.frozen?, hr1]
    have f1b : w1.frozen? ⟨ob, 3, none⟩ = false := by simp [World.frozen?, hr1]
    have H1 := Lib.hid (H.out.pushItem (((Below.refl _ _).alloc (Nat.le_refl _) _).drew) (itemR_plain _ _ _ 3 s.caps 0 0 rfl) hown hgrow (by simpa using hat))
    clear hown hgrow hat hr1
    go_wp2
    refine ⟨by kernel_rfl, ?_⟩
    go_wp2_with (at_builtin; refine wpList_append_own_at _ rfl (.tmp 44) (.tmp 45) 66 rfl w0.heap.size 4 i4 _ 1 1 Tryd.underlying66 hi4 hi4a hi4b hi4c rfl (by decide) vc s.ended.length (s.ended.map .bool) rfl ?_ ⟨_, 0, none⟩ 1 1 [_] rfl rfl (cell_one_at _ _ _ _ (by simp)) ?_ ?_ ?_ ?_ ?_)
    · exact ownsRow_ext (below_ext (((Below.refl _ _).alloc (Nat.le_refl _) _)) (Nat.le_refl _)) H1.out.oc
    · first | rfl | (intro u hu; simp only [List.mem_singleton] at hu; subst hu; rfl)
    · unfold maxLen; omega
    · omega
    · have := H1.out.below.size; simp at this ⊢; omega
    · intro v2 w2 hown hgrow _ hat
      obtain ⟨g2, cap2, rfl⟩ := slice_shape hown (by omega)
      have hr2 := hr_push (((Below.refl _ _).alloc (Nat.le_refl _) _)) hgrow H1.out.hr H1.out.five.oc
      have c23 : w2.cell? ⟨ob, 3, none⟩ = some (.int .i64 s.caps) := by rw [cell_of_heap hr2]; rfl
      have c25 : w2.cell? ⟨ob, 5, none⟩ = some (vc) := by rw [cell_of_heap hr2]; rfl
      have c26 : w2.cell? ⟨ob, 6, none⟩ = some (vp) := by rw [cell_of_heap hr2]; rfl
      have f2 : w2.frozen? ⟨ob, 5, none⟩ = false := by simp [World.frozen?, hr2]
      have f2b : w2.frozen? ⟨ob, 3, none⟩ = false := by simp [World.frozen?, hr2]
      have H3 := Lib.hid (H1.out.pushClosed (((Below.refl _ _).alloc (Nat.le_refl _) _)) (x := false) hown hgrow (by simpa using hat))
      clear hown hgrow hat hr2
      go_wp2_with (at_builtin; refine wpList_append_own_at _ rfl (.tmp 53) (.tmp 56) 66 rfl w0.heap.size 4 i4 _ 1 1 Tryd.underlying66 hi4 hi4a hi4b hi4c rfl (by decide) vp ps.length (ps.map .bool) rfl ?_ ⟨_, 0, none⟩ 1 1 [_] rfl rfl (cell_one_at _ _ _ _ (by simp)) ?_ ?_ ?_ ?_ ?_)
      · exact ownsRow_ext (below_ext (((Below.refl _ _).alloc (Nat.le_refl _) _)) (Nat.le_refl _)) H3.out.op
      · first | rfl | (intro u hu; simp only [List.mem_singleton] at hu; subst hu; rfl)
      · unfold maxLen; omega
      · omega
      · have := H3.out.below.size; simp at this ⊢; omega
      · intro v3 w3 hown hgrow _ hat
        obtain ⟨g3, cap3, rfl⟩ := slice_shape hown (by omega)
        have hr3 := hr_push (((Below.refl _ _).alloc (Nat.le_refl _) _)) hgrow H3.out.hr H3.out.five.od
        have c33 : w3.cell? ⟨ob, 3, none⟩ = some (.int .i64 s.caps) := by rw [cell_of_heap hr3]; rfl
        have c36 : w3.cell? ⟨ob, 6, none⟩ = some (vp) := by rw [cell_of_heap hr3]; rfl
        have f3 : w3.frozen? ⟨ob, 6, none⟩ = false := by simp [World.frozen?, hr3]
        have f3b : w3.frozen? ⟨ob, 3, none⟩ = false := by simp [World.frozen?, hr3]
        have H4 := Lib.hid (H3.out.pushPos (((Below.refl _ _).alloc (Nat.le_refl _) _)) (x := true) hown hgrow (by simpa using hat))
        clear hown hgrow hat hr3
        go_wp2
        go_ret
        exact ⟨rfl, _, _, _, _, _, _, H4.out.setr (k := 3) (caps' := s.caps + 1) rfl, HV.out⟩
set_option maxRecDepth 100000 in
set_option maxHeartbeats 4000000 in
theorem begins_open {w0 w : World} {ob : Nat} {anc fin : Bool} {s : St} {ps : List Bool} {vi vo vc vp : Value} {vs : List Value} (h : PSt w0 ob w anc fin s ps vi vo vc vp vs) (hv : RInv s ps) (hw : Wf s) (hc : s.caps < 16) (hi : s.items.length ≤ 20000) :
    Calls Tryd.prog 66 #[.pointer (some ⟨ob, 0, none⟩), .int .i64 2] w (BgPost w0 ob anc fin (.ok (openS s))) := by
  obtain ⟨i14, hi14, hi14a, hi14b, hi14c⟩ := info_parts Tryd.info114
  obtain ⟨i3, hi3, hi3a, hi3b, hi3c⟩ := info_parts Tryd.info3
  obtain ⟨i4, hi4, hi4a, hi4b, hi4c⟩ := info_parts Tryd.info4
  have h0 : w.cell? ⟨ob, 0, none⟩ = some vi := by rw [cell_of_heap h.hr]; rfl
  have h3 : w.cell? ⟨ob, 3, none⟩ = some (.int .i64 s.caps) := by rw [cell_of_heap h.hr]; rfl
  have t16 : ((s.caps : Int) == 16) = false := by rw [beq_eq_false_iff_ne]; omega
  have ol := hw.ol
  have el : s.ended.length ≤ 16 := by rw [hw.el]; omega
  have pl : ps.length ≤ 16 := by rw [hv.len]; omega
  have hlt := h.lt
  have H := Lib.hid h
  have HV := Lib.hid (pinv_open hv hw)
  clear h hv hw
  go_enter Tryd.func66, Tryd.ntmps66
  go_wp2
  refine wp_region_lex mixed (by kernel_rfl) ?_
  go_wp2_with (at_builtin; refine wpList_append_own_at _ rfl (.tmp 14) (.tmp 21) 64 rfl w0.heap.size 114 i14 _ 6 48 Tryd.underlying64 hi14 hi14a hi14b hi14c rfl (by decide) vi s.items.length (rowR s.items vs) rfl ?_ ⟨_, 0, none⟩ 1 1 [_, _, _, _, _, _] rfl rfl (cells_sixR _ _ _ _ _ _ _ _ _ (by simp)) ?_ ?_ ?_ ?_ ?_)
  · exact ownsRow_ext (below_ext (((Below.refl _ _).alloc (Nat.le_refl _) _).drew) (Nat.le_refl _)) H.out.oi
  · intro u hu
    simp only [List.mem_cons, List.not_mem_nil, or_false] at hu
    rcases hu with rfl | rfl | rfl | rfl | rfl | rfl <;> rfl
  · unfold maxLen; omega
  · omega
  · have := H.out.below.size; simp at this ⊢; omega
  · intro v1 w1 hown hgrow _ hat
    obtain ⟨g1, cap1, rfl⟩ := slice_shape hown (by omega)
    have hr1 := hr_push (((Below.refl _ _).alloc (Nat.le_refl _) _).drew) hgrow H.out.hr H.out.five.oa
    have c10 : w1.cell? ⟨ob, 0, none⟩ = some (vi) := by rw [cell_of_heap hr1]; rfl
    have c13 : w1.cell? ⟨ob, 3, none⟩ = some (.int .i64 s.caps) := by rw [cell_of_heap hr1]; rfl
    have c14 : w1.cell? ⟨ob, 4, none⟩ = some (vo) := by rw [cell_of_heap hr1]; rfl
    have c15 : w1.cell? ⟨ob, 5, none⟩ = some (vc) := by rw [cell_of_heap hr1]; rfl
    have c16 : w1.cell? ⟨ob, 6, none⟩ = some (vp) := by rw [cell_of_heap hr1]; rfl
    have f1 : w1.frozen? ⟨ob, 0, none⟩ = false := by simp [World.frozen?, hr1]
    have f1b : w1.frozen? ⟨ob, 3, none⟩ = false := by simp [World.frozen?, hr1]
    have H1 := Lib.hid (H.out.pushItem (((Below.refl _ _).alloc (Nat.le_refl _) _).drew) (itemR_plain _ _ _ 1 s.caps 0 0 rfl) hown hgrow (by simpa using hat))
    clear hown hgrow hat hr1
    go_wp2
    refine ⟨by kernel_rfl, ?_⟩
    go_wp2
    refine wp_region_lex mixed (by kernel_rfl) ?_
    go_wp2_with (at_builtin; refine wpList_append_own_at _ rfl (.tmp 31) (.tmp 36) 65 rfl w0.heap.size 3 i3 _ 1 8 Tryd.underlying65 hi3 hi3a hi3b hi3c rfl (by decide) vo s.opened.length (s.opened.map intV) rfl ?_ ⟨_, 0, none⟩ 1 1 [_] rfl rfl (cell_one_at _ _ _ _ (by simp)) ?_ ?_ ?_ ?_ ?_)
    · exact ownsRow_ext (below_ext (((Below.refl _ _).alloc (Nat.le_refl _) _).drew) (Nat.le_refl _)) H1.out.oo
    · first | rfl | (intro u hu; simp only [List.mem_singleton] at hu; subst hu; rfl)
    · unfold maxLen; omega
    · omega
    · have := H1.out.below.size; simp at this ⊢; omega
    · intro v2 w2 hown hgrow _ hat
      obtain ⟨g2, cap2, rfl⟩ := slice_shape hown (by omega)
      have hr2 := hr_push (((Below.refl _ _).alloc (Nat.le_refl _) _).drew) hgrow H1.out.hr H1.out.five.ob
      have c23 : w2.cell? ⟨ob, 3, none⟩ = some (.int .i64 s.caps) := by rw [cell_of_heap hr2]; rfl
      have c24 : w2.cell? ⟨ob, 4, none⟩ = some (vo) := by rw [cell_of_heap hr2]; rfl
      have c25 : w2.cell? ⟨ob, 5, none⟩ = some (vc) := by rw [cell_of_heap hr2]; rfl
      have c26 : w2.cell? ⟨ob, 6, none⟩ = some (vp) := by rw [cell_of_heap hr2]; rfl
      have f2 : w2.frozen? ⟨ob, 4, none⟩ = false := by simp [World.frozen?, hr2]
      have f2b : w2.frozen? ⟨ob, 3, none⟩ = false := by simp [World.frozen?, hr2]
      have H2 := Lib.hid (H1.out.pushOpen (((Below.refl _ _).alloc (Nat.le_refl _) _).drew) (x := s.caps) hown hgrow (by simpa using hat))
      clear hown hgrow hat hr2
      go_wp2
      refine ⟨by kernel_rfl, ?_⟩
      go_wp2_with (at_builtin; refine wpList_append_own_at _ rfl (.tmp 44) (.tmp 45) 66 rfl w0.heap.size 4 i4 _ 1 1 Tryd.underlying66 hi4 hi4a hi4b hi4c rfl (by decide) vc s.ended.length (s.ended.map .bool) rfl ?_ ⟨_, 0, none⟩ 1 1 [_] rfl rfl (cell_one_at _ _ _ _ (by simp)) ?_ ?_ ?_ ?_ ?_)
      · exact ownsRow_ext (below_ext (((Below.refl _ _).alloc (Nat.le_refl _) _)) (Nat.le_refl _)) H2.out.oc
      · first | rfl | (intro u hu; simp only [List.mem_singleton] at hu; subst hu; rfl)
      · unfold maxLen; omega
      · omega
      · have := H2.out.below.size; simp at this ⊢; omega
      · intro v3 w3 hown hgrow _ hat
        obtain ⟨g3, cap3, rfl⟩ := slice_shape hown (by omega)
        have hr3 := hr_push (((Below.refl _ _).alloc (Nat.le_refl _) _)) hgrow H2.out.hr H2.out.five.oc
        have c33 : w3.cell? ⟨ob, 3, none⟩ = some (.int .i64 s.caps) := by rw [cell_of_heap hr3]; rfl
        have c35 : w3.cell? ⟨ob, 5, none⟩ = some (vc) := by rw [cell_of_heap hr3]; rfl
        have c36 : w3.cell? ⟨ob, 6, none⟩ = some (vp) := by rw [cell_of_heap hr3]; rfl
        have f3 : w3.frozen? ⟨ob, 5, none⟩ = false := by simp [World.frozen?, hr3]
        have f3b : w3.frozen? ⟨ob, 3, none⟩ = false := by simp [World.frozen?, hr3]
        have H3 := Lib.hid (H2.out.pushClosed (((Below.refl _ _).alloc (Nat.le_refl _) _)) (x := false) hown hgrow (by simpa using hat))
        clear hown hgrow hat hr3
        go_wp2_with (at_builtin; refine wpList_append_own_at _ rfl (.tmp 53) (.tmp 56) 66 rfl w0.heap.size 4 i4 _ 1 1 Tryd.underlying66 hi4 hi4a hi4b hi4c rfl (by decide) vp ps.length (ps.map .bool) rfl ?_ ⟨_, 0, none⟩ 1 1 [_] rfl rfl (cell_one_at _ _ _ _ (by simp)) ?_ ?_ ?_ ?_ ?_)
        · exact ownsRow_ext (below_ext (((Below.refl _ _).alloc (Nat.le_refl _) _)) (Nat.le_refl _)) H3.out.op
        · first | rfl | (intro u hu; simp only [List.mem_singleton] at hu; subst hu; rfl)
        · unfold maxLen; omega
        · omega
        · have := H3.out.below.size; simp at this ⊢; omega
        · intro v4 w4 hown hgrow _ hat
          obtain ⟨g4, cap4, rfl⟩ := slice_shape hown (by omega)
          have hr4 := hr_push (((Below.refl _ _).alloc (Nat.le_refl _) _)) hgrow H3.out.hr H3.out.five.od
          have c43 : w4.cell? ⟨ob, 3, none⟩ = some (.int .i64 s.caps) := by rw [cell_of_heap hr4]; rfl
          have c46 : w4.cell? ⟨ob, 6, none⟩ = some (vp) := by rw [cell_of_heap hr4]; rfl
          have f4 : w4.frozen? ⟨ob, 6, none⟩ = false := by simp [World.frozen?, hr4]
          have f4b : w4.frozen? ⟨ob, 3, none⟩ = false := by simp [World.frozen?, hr4]
          have H4 := Lib.hid (H3.out.pushPos (((Below.refl _ _).alloc (Nat.le_refl _) _)) (x := false) hown hgrow (by simpa using hat))
          clear hown hgrow hat hr4
          go_wp2
          go_ret
          exact ⟨rfl, _, _, _, _, _, _, H4.out.setr (k := 3) (caps' := s.caps + 1) rfl, HV.out⟩
end Go.Proofs.YtpbhncmaamedhaaDoor
