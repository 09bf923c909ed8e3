import Derived.Test.YtpbhncmaamedhaaDoorAdd
namespace Go.Proofs.YtpbhncmaamedhaaDoor
open Go.RowKit Go.Proofs.Lexi

/-! The plain model of reading a pattern. Errors: 3 is ErrLimit, 4 is ErrForm. -/
def mkItem (kind n : Nat) : Item := ⟨kind, n, 0, 0, noSet, 0⟩
def bracketM (c : Nat) (r : List Nat) (s : St) : Except Nat (St × Nat) :=
  if c = 41 then
    match s.opened.reverse with
    | [] => .error 4
    | n :: l => .ok ({ s with items := s.items ++ [mkItem 2 n], opened := l.reverse, ended := s.ended.set n true }, 1)
  else if 16 ≤ s.caps then .error 3
  else if r.head? = some 41 then .ok ({ s with items := s.items ++ [mkItem 3 s.caps], caps := s.caps + 1, ended := s.ended ++ [false] }, 2)
  else .ok ({ s with items := s.items ++ [mkItem 1 s.caps], caps := s.caps + 1, opened := s.opened ++ [s.caps], ended := s.ended ++ [false] }, 1)
structure Wf (s : St) : Prop where
  el : s.ended.length = s.caps
  c16 : s.caps ≤ 16
  op : ∀ n ∈ s.opened, n < s.caps
  ol : s.opened.length ≤ s.caps

/-- What a method of the reader leaves: an error, or the next state. -/
def RdPost (w0 : World) (rb : Nat) (p : ByteArray) (at_ : Nat) (anc fin : Bool) (R : Except Nat (St × Nat)) (e : Ending) (w' : World) : Prop :=
  match R with
  | .error c => e = .returned (.int .i64 c) ∧ Below w0.heap.size w0 w'
  | .ok (s', m) => e = .returned (.int .i64 0) ∧ RPost w0 rb p (at_ + m) anc fin s' w'
theorem Tryd.info3 : (Tryd.prog.info? 3).map (fun i => (i.zero, i.size, i.bytes)) = some (some (.int .i64 0), 1, 8) := by kernel_rfl
theorem Tryd.info4 : (Tryd.prog.info? 4).map (fun i => (i.zero, i.size, i.bytes)) = some (some (.bool false), 1, 1) := by kernel_rfl
theorem RSt.drew {w0 w : World} {rb : Nat} {p : ByteArray} {at_ : Nat} {anc fin : Bool} {s : St} {vo ve vi : Value} {vs : List Value} (h : RSt w0 rb w p at_ anc fin s vo ve vi vs) : RSt w0 rb w.drew p at_ anc fin s vo ve vi vs := h.grow (Below.refl _ _).drew
theorem itemOK_plain (w : World) (A : Nat) (M : Nat → Prop) (k n x y : Nat) (hk : (k == 5 || k == 7) = false) : ItemOK w A M ⟨k, n, x, y, noSet, 0⟩ .nilFunc := by
  unfold ItemOK; rw [if_neg]; simp only [Item.sets, hk]; decide

set_option maxRecDepth 100000 in
set_option maxHeartbeats 1000000 in
theorem bracket_shut {w0 w : World} {rb : Nat} {p : ByteArray} {at_ : Nat} {anc fin : Bool} {s : St} {vo ve vi : Value} {vs : List Value} (h : RSt w0 rb w p at_ anc fin s vo ve vi vs) (hw : Wf s) (hat : at_ < p.size) (hp : p.size ≤ 5000) (hi : s.items.length ≤ at_)
    (hc : p[at_].toNat = 41) : Calls Tryd.prog 47 #[.pointer (some ⟨rb, 0, none⟩)] w (RdPost w0 rb p at_ anc fin (bracketM p[at_].toNat ((bytesOf p).drop (at_ + 1)) s)) := by
  have h0 : w.cell? ⟨rb, 0, none⟩ = some (.string p) := by rw [cell_of_heap h.hr]; rfl
  have h1 : w.cell? ⟨rb, 1, none⟩ = some (.int .i64 at_) := by rw [cell_of_heap h.hr]; rfl
  have h2 : w.cell? ⟨rb, 2, none⟩ = some vo := by rw [cell_of_heap h.hr]; rfl
  have h3 : w.cell? ⟨rb, 3, none⟩ = some ve := by rw [cell_of_heap h.hr]; rfl
  have t41 : ((p[at_].toNat : Int) == 41) = true := by rw [hc]; rfl
  have ol := hw.ol
  have c16 := hw.c16
  rcases List.eq_nil_or_concat s.opened with ho | ⟨l, x, ho⟩
  · have E := Lib.hid (show bracketM p[at_].toNat ((bytesOf p).drop (at_ + 1)) s = .error 4 by simp [bracketM, hc, ho])
    have hnil : ∃ ao cap, vo = .slice ao 0 cap := by
      rcases h.oo.2 with ⟨e, _⟩ | ⟨g, cap, cur, e, _⟩
      · exact ⟨_, _, e⟩
      · exact ⟨_, _, by rw [e, ho]; rfl⟩
    obtain ⟨ao, cap, rfl⟩ := hnil
    have HB := Lib.hid h.below
    clear h hc ho hw
    go_enter Tryd.func47, Tryd.ntmps47
    go_wp2
    refine wp_region_lex mixed (by kernel_rfl) ?_
    go_wp2
    refine ⟨by kernel_rfl, ?_⟩
    go_wp2
    go_ret
    rw [E.out]
    exact ⟨rfl, HB.out.drew⟩
  · rw [List.concat_eq_append] at ho
    have hx : x < s.caps := hw.op x (by rw [ho]; simp)
    have hx' : x < s.ended.length := by rw [hw.el]; exact hx
    have E := Lib.hid (show bracketM p[at_].toNat ((bytesOf p).drop (at_ + 1)) s = .ok ({ s with items := s.items ++ [mkItem 2 x], opened := l, ended := s.ended.set x true }, 1) by simp [bracketM, hc, ho])
    obtain ⟨g, cap, rfl⟩ := slice_shape h.oo (by rw [ho]; simp)
    obtain ⟨ge, ce, rfl⟩ := slice_shape h.oe (by omega)
    have HL := Lib.hid (show s.opened.length = l.length + 1 by rw [ho]; simp)
    have k1 : w.cell? ⟨g, l.length, none⟩ = some (.int .i64 x) := by rw [h.oo.cellAt l.length (by rw [ho]; simp), ho]; simp [intV]
    obtain ⟨b, k2⟩ : ∃ b, w.cell? ⟨ge, x, none⟩ = some (.bool b) := by rw [h.oe.cellAt x (by omega)]; simp [hx']
    have k3 := h.oe.frozenAt x
    have d : ge ≠ g := fun e => h.d4 g rfl (by rw [e]; rfl)
    have d2 : ge ≠ rb := fun e => h.d2 (by rw [e]; rfl)
    have hl : l.length ≤ 16 := by have := HL.out; omega
    rw [HL.out] at h2
    have HH := Lib.hid h
    have HO := Lib.hid ho
    have hee : s.ended.length ≤ 16 := by rw [hw.el]; exact c16
    clear h hc ho hw ol
    go_enter Tryd.func47, Tryd.ntmps47
    go_wp2
    refine wp_region_lex mixed (by kernel_rfl) ?_
    go_wp2
    refine ⟨by kernel_rfl, ?_⟩
    go_wp2
    refine wp_region_lex mixed (by kernel_rfl) ?_
    go_wp2
    refine ⟨by kernel_rfl, ?_⟩
    go_wp2_with fail
    have R1 := (HH.out.drew.drew.setEnded x hx')
    refine (add_c R1 (mkItem 2 x) .nilFunc (itemOK_plain _ _ _ _ _ _ _ rfl) (.inl rfl) 1 1 rfl (by omega) (by simp; omega)).mono ?_
    rintro e w1 ⟨rfl, vo', ve', vi', vs', R2⟩
    obtain ⟨g', cap', rfl⟩ := slice_shape R2.oo (by rw [HL.out]; omega)
    have j2 : w1.cell? ⟨rb, 2, none⟩ = some (.slice (some ⟨g', 0, none⟩) (l.length + 1) cap') := by rw [cell_of_heap R2.hr, ← HL.out]; rfl
    have j3 := R2.frozen 2
    have hcap : l.length ≤ cap' := by
      rcases R2.oo.2 with ⟨e, _⟩ | ⟨_, _, _, e, _, _, h, _⟩
      · cases e
      · injection e with _ _ e3; subst e3; have := HL.out; simp only at h; omega
    have HP := Lib.hid (show RSt w0 rb w1 p (at_ + 1) anc fin _ (.slice (some ⟨g', 0, none⟩) (l.length + 1) cap') ve' vi' vs' from by rw [← HL.out]; exact R2)
    clear R2 R1
    go_wp2
    go_ret
    rw [E.out]
    exact ⟨rfl, _, _, _, _, RSt.pop (s := { s with items := s.items ++ [mkItem 2 x], ended := s.ended.set x true }) (l := l) (x := x) HO.out rfl HP.out⟩

set_option maxRecDepth 100000 in
set_option maxHeartbeats 2000000 in
theorem bracket_open {w0 w : World} {rb : Nat} {p : ByteArray} {at_ : Nat} {anc fin : Bool} {s : St} {vo ve vi : Value} {vs : List Value} (h : RSt w0 rb w p at_ anc fin s vo ve vi vs) (hw : Wf s) (hat : at_ < p.size) (hp : p.size ≤ 5000) (hi : s.items.length ≤ at_)
    (hc : ¬ p[at_].toNat = 41) : Calls Tryd.prog 47 #[.pointer (some ⟨rb, 0, none⟩)] w (RdPost w0 rb p at_ anc fin (bracketM p[at_].toNat ((bytesOf p).drop (at_ + 1)) s)) := by
  obtain ⟨i3, hi3, hz30, hz31, hz32⟩ := info_parts Tryd.info3
  obtain ⟨i4, hi4, hz40, hz41, hz42⟩ := info_parts Tryd.info4
  have h0 : w.cell? ⟨rb, 0, none⟩ = some (.string p) := by rw [cell_of_heap h.hr]; rfl
  have h1 : w.cell? ⟨rb, 1, none⟩ = some (.int .i64 at_) := by rw [cell_of_heap h.hr]; rfl
  have h3 : w.cell? ⟨rb, 3, none⟩ = some ve := by rw [cell_of_heap h.hr]; rfl
  have h5 : w.cell? ⟨rb, 5, none⟩ = some (.int .i64 s.caps) := by rw [cell_of_heap h.hr]; rfl
  have f5 := h.frozen 5
  have t41 : ((p[at_].toNat : Int) == 41) = false := by rw [beq_eq_false_iff_ne]; omega
  have ol := hw.ol
  have hrb := h.rb1
  have c16 := hw.c16
  have hsz := h.below.size
  by_cases hlim : 16 ≤ s.caps
  · have E := Lib.hid (show bracketM p[at_].toNat ((bytesOf p).drop (at_ + 1)) s = .error 3 by simp [bracketM, hc, hlim])
    have HB := Lib.hid h.below
    clear h hc hw
    go_enter Tryd.func47, Tryd.ntmps47
    go_wp2
    refine wp_region_lex mixed (by kernel_rfl) ?_
    go_wp2
    refine ⟨by kernel_rfl, ?_⟩
    go_wp2
    go_ret
    rw [E.out]
    exact ⟨rfl, HB.out.drew⟩
  · have hel : s.ended.length ≤ 16 := by rw [hw.el]; exact c16
    have H1 := Lib.hid (h.setr (k := 5) (u := .int .i64 ((s.caps : Int) + 1)) (at' := at_) (anc' := anc) (fin' := fin) (caps' := s.caps + 1) (by rfl))
    have HBW := Lib.hid (show Below (w.setCell ⟨rb, 5, none⟩ (.int .i64 ((s.caps : Int) + 1))).heap.size (w.setCell ⟨rb, 5, none⟩ (.int .i64 ((s.caps : Int) + 1))) ((w.setCell ⟨rb, 5, none⟩ (.int .i64 ((s.caps : Int) + 1))).alloc (.cells #[.bool false] 4)).drew from ((Below.refl _ _).alloc (Nat.le_refl _) _).drew)
    clear h
    by_cases hn1 : at_ + 1 < p.size
    · by_cases hn2 : p[at_ + 1].toNat = 41
      · have hpl : ((bytesOf p).drop (at_ + 1)).head? = some 41 := by rw [bytesOf_drop p (at_ + 1) hn1, hn2]; rfl
        have E := Lib.hid (show bracketM p[at_].toNat ((bytesOf p).drop (at_ + 1)) s = .ok ({ s with items := s.items ++ [mkItem 3 s.caps], caps := s.caps + 1, ended := s.ended ++ [false] }, 2) by simp only [bracketM, hc, hlim, hpl, if_true, if_false])
        have t2 : ((p[at_ + 1].toNat : Int) == 41) = true := by rw [hn2]; rfl
        clear hn2
        clear hc hw hpl
        go_enter Tryd.func47, Tryd.ntmps47
        go_wp2
        refine wp_region_lex mixed (by kernel_rfl) ?_
        go_wp2
        refine ⟨by kernel_rfl, ?_⟩
        go_wp2_with (at_builtin; refine wpList_append_own_at _ rfl (.tmp 74) (.tmp 75) 66 rfl w0.heap.size 4 i4 _ 1 1 Tryd.underlying66 hi4 hz40 hz41 hz42 rfl (by decide) ve s.ended.length (s.ended.map .bool) rfl ?_ ⟨_, 0, none⟩ 1 1 [_] rfl rfl (cell_one_at _ _ _ _ (by simp)) ?_ ?_ ?_ ?_ ?_)
        · exact ownsRow_ext (below_ext HBW.out (Nat.le_refl _)) H1.out.oe
        · first | rfl | (intro u hu; simp only [List.mem_singleton] at hu; subst hu; rfl)
        · unfold maxLen; omega
        · omega
        · simp; omega
        · intro v' w2 hown hgrow _ hat'
          obtain ⟨g', cap', rfl⟩ := slice_shape hown (by omega)
          have hr2 := Pushed.rbk HBW.out hgrow H1.out.hr H1.out.d2
          have c0 : w2.cell? ⟨rb, 0, none⟩ = some (.string p) := by rw [cell_of_heap hr2]; rfl
          have c1 : w2.cell? ⟨rb, 1, none⟩ = some (.int .i64 at_) := by rw [cell_of_heap hr2]; rfl
          have c2 : w2.cell? ⟨rb, 2, none⟩ = some vo := by rw [cell_of_heap hr2]; rfl
          have c3 : w2.cell? ⟨rb, 3, none⟩ = some ve := by rw [cell_of_heap hr2]; rfl
          have f2 : w2.frozen? ⟨rb, 2, none⟩ = false := by simp [World.frozen?, hr2]
          have f3 : w2.frozen? ⟨rb, 3, none⟩ = false := by simp [World.frozen?, hr2]
          have H3 := Lib.hid (H1.out.pushEnded (x := false) HBW.out hown hgrow (by simpa using hat'))
          have hrb2 : rb < w2.heap.size := (Array.getElem?_eq_some_iff.1 hr2).1
          have hsz2 := hgrow.size
          simp at hsz2
          clear hown hgrow hat' hr2
          go_wp2
          refine wp_region_lex mixed (by kernel_rfl) ?_
          go_wp2
          refine ⟨by kernel_rfl, ?_⟩
          go_wp2_with fail
          refine (add_c H3.out.drew (mkItem 3 s.caps) .nilFunc (itemOK_plain _ _ _ _ _ _ _ rfl) (.inl rfl) 2 2 rfl (by omega) (by simp; omega)).mono ?_
          rintro e w4 ⟨rfl, HR⟩
          have HR := Lib.hid HR
          go_wp2
          go_ret
          rw [E.out]
          exact ⟨rfl, HR.out⟩
      · have hpl : ¬ ((bytesOf p).drop (at_ + 1)).head? = some 41 := by rw [bytesOf_drop p (at_ + 1) hn1]; simp; omega
        have E := Lib.hid (show bracketM p[at_].toNat ((bytesOf p).drop (at_ + 1)) s = .ok ({ s with items := s.items ++ [mkItem 1 s.caps], caps := s.caps + 1, opened := s.opened ++ [s.caps], ended := s.ended ++ [false] }, 1) by simp only [bracketM, hc, hlim, hpl, if_false])
        have t2 : ((p[at_ + 1].toNat : Int) == 41) = false := by rw [beq_eq_false_iff_ne]; omega
        clear hn2
        clear hc hw hpl
        go_enter Tryd.func47, Tryd.ntmps47
        go_wp2
        refine wp_region_lex mixed (by kernel_rfl) ?_
        go_wp2
        refine ⟨by kernel_rfl, ?_⟩
        go_wp2_with (at_builtin; refine wpList_append_own_at _ rfl (.tmp 74) (.tmp 75) 66 rfl w0.heap.size 4 i4 _ 1 1 Tryd.underlying66 hi4 hz40 hz41 hz42 rfl (by decide) ve s.ended.length (s.ended.map .bool) rfl ?_ ⟨_, 0, none⟩ 1 1 [_] rfl rfl (cell_one_at _ _ _ _ (by simp)) ?_ ?_ ?_ ?_ ?_)
        · exact ownsRow_ext (below_ext HBW.out (Nat.le_refl _)) H1.out.oe
        · first | rfl | (intro u hu; simp only [List.mem_singleton] at hu; subst hu; rfl)
        · unfold maxLen; omega
        · omega
        · simp; omega
        · intro v' w2 hown hgrow _ hat'
          obtain ⟨g', cap', rfl⟩ := slice_shape hown (by omega)
          have hr2 := Pushed.rbk HBW.out hgrow H1.out.hr H1.out.d2
          have c0 : w2.cell? ⟨rb, 0, none⟩ = some (.string p) := by rw [cell_of_heap hr2]; rfl
          have c1 : w2.cell? ⟨rb, 1, none⟩ = some (.int .i64 at_) := by rw [cell_of_heap hr2]; rfl
          have c2 : w2.cell? ⟨rb, 2, none⟩ = some vo := by rw [cell_of_heap hr2]; rfl
          have c3 : w2.cell? ⟨rb, 3, none⟩ = some ve := by rw [cell_of_heap hr2]; rfl
          have f2 : w2.frozen? ⟨rb, 2, none⟩ = false := by simp [World.frozen?, hr2]
          have f3 : w2.frozen? ⟨rb, 3, none⟩ = false := by simp [World.frozen?, hr2]
          have H3 := Lib.hid (H1.out.pushEnded (x := false) HBW.out hown hgrow (by simpa using hat'))
          have hrb2 : rb < w2.heap.size := (Array.getElem?_eq_some_iff.1 hr2).1
          have hsz2 := hgrow.size
          simp at hsz2
          clear hown hgrow hat' hr2
          go_wp2
          refine wp_region_lex mixed (by kernel_rfl) ?_
          go_wp2
          refine ⟨by kernel_rfl, ?_⟩
          go_wp2_with (at_builtin; refine wpList_append_own_at _ rfl (.tmp 111) (.tmp 113) 65 rfl w0.heap.size 3 i3 _ 1 8 Tryd.underlying65 hi3 hz30 hz31 hz32 rfl (by decide) vo s.opened.length (s.opened.map intV) rfl ?_ ⟨_, 0, none⟩ 1 1 [_] rfl rfl (cell_one_at _ _ _ _ (by simp)) ?_ ?_ ?_ ?_ ?_)
          · exact ownsRow_ext (below_ext (((Below.refl _ _).alloc (Nat.le_refl _) _).drew) (Nat.le_refl _)) H3.out.oo
          · first | rfl | (intro u hu; simp only [List.mem_singleton] at hu; subst hu; rfl)
          · unfold maxLen; omega
          · omega
          · simp; omega
          · intro v4 w4 hown hgrow _ hat'
            obtain ⟨g4, cap4, rfl⟩ := slice_shape hown (by omega)
            have hbw : Below (w2.setCell ⟨rb, 3, none⟩ (.slice (some ⟨g', 0, none⟩) (s.ended.length + 1) cap')).heap.size (w2.setCell ⟨rb, 3, none⟩ (.slice (some ⟨g', 0, none⟩) (s.ended.length + 1) cap')) ((w2.setCell ⟨rb, 3, none⟩ (.slice (some ⟨g', 0, none⟩) (s.ended.length + 1) cap')).alloc (.cells #[.int .i64 s.caps] 3)).drew := ((Below.refl _ _).alloc (Nat.le_refl _) _).drew
            have hr4 := Pushed.rbk hbw hgrow H3.out.hr H3.out.d1
            have e2 : w4.cell? ⟨rb, 2, none⟩ = some vo := by rw [cell_of_heap hr4]; rfl
            have g2 : w4.frozen? ⟨rb, 2, none⟩ = false := by simp [World.frozen?, hr4]
            have H4 := Lib.hid (H3.out.pushOpened (x := s.caps) hbw hown hgrow (by simpa using hat'))
            clear hown hgrow hat' hr4 hbw
            go_wp2_with fail
            refine (add_c H4.out (mkItem 1 s.caps) .nilFunc (itemOK_plain _ _ _ _ _ _ _ rfl) (.inl rfl) 1 1 rfl (by omega) (by simp; omega)).mono ?_
            rintro e w5 ⟨rfl, HR⟩
            have HR := Lib.hid HR
            go_wp2
            go_ret
            rw [E.out]
            exact ⟨rfl, HR.out⟩
    · have hpl : ¬ ((bytesOf p).drop (at_ + 1)).head? = some 41 := by rw [bytesOf_end p (at_ + 1) (by omega)]; simp
      have E := Lib.hid (show bracketM p[at_].toNat ((bytesOf p).drop (at_ + 1)) s = .ok ({ s with items := s.items ++ [mkItem 1 s.caps], caps := s.caps + 1, opened := s.opened ++ [s.caps], ended := s.ended ++ [false] }, 1) by simp only [bracketM, hc, hlim, hpl, if_false])
      clear hc hw hpl
      go_enter Tryd.func47, Tryd.ntmps47
      go_wp2
      refine wp_region_lex mixed (by kernel_rfl) ?_
      go_wp2
      refine ⟨by kernel_rfl, ?_⟩
      go_wp2_with (at_builtin; refine wpList_append_own_at _ rfl (.tmp 74) (.tmp 75) 66 rfl w0.heap.size 4 i4 _ 1 1 Tryd.underlying66 hi4 hz40 hz41 hz42 rfl (by decide) ve s.ended.length (s.ended.map .bool) rfl ?_ ⟨_, 0, none⟩ 1 1 [_] rfl rfl (cell_one_at _ _ _ _ (by simp)) ?_ ?_ ?_ ?_ ?_)
      · exact ownsRow_ext (below_ext HBW.out (Nat.le_refl _)) H1.out.oe
      · first | rfl | (intro u hu; simp only [List.mem_singleton] at hu; subst hu; rfl)
      · unfold maxLen; omega
      · omega
      · simp; omega
      · intro v' w2 hown hgrow _ hat'
        obtain ⟨g', cap', rfl⟩ := slice_shape hown (by omega)
        have hr2 := Pushed.rbk HBW.out hgrow H1.out.hr H1.out.d2
        have c0 : w2.cell? ⟨rb, 0, none⟩ = some (.string p) := by rw [cell_of_heap hr2]; rfl
        have c1 : w2.cell? ⟨rb, 1, none⟩ = some (.int .i64 at_) := by rw [cell_of_heap hr2]; rfl
        have c2 : w2.cell? ⟨rb, 2, none⟩ = some vo := by rw [cell_of_heap hr2]; rfl
        have c3 : w2.cell? ⟨rb, 3, none⟩ = some ve := by rw [cell_of_heap hr2]; rfl
        have f2 : w2.frozen? ⟨rb, 2, none⟩ = false := by simp [World.frozen?, hr2]
        have f3 : w2.frozen? ⟨rb, 3, none⟩ = false := by simp [World.frozen?, hr2]
        have H3 := Lib.hid (H1.out.pushEnded (x := false) HBW.out hown hgrow (by simpa using hat'))
        have hrb2 : rb < w2.heap.size := (Array.getElem?_eq_some_iff.1 hr2).1
        have hsz2 := hgrow.size
        simp at hsz2
        clear hown hgrow hat' hr2
        go_wp2
        refine wp_region_lex mixed (by kernel_rfl) ?_
        go_wp2
        refine ⟨by kernel_rfl, ?_⟩
        go_wp2_with (at_builtin; refine wpList_append_own_at _ rfl (.tmp 111) (.tmp 113) 65 rfl w0.heap.size 3 i3 _ 1 8 Tryd.underlying65 hi3 hz30 hz31 hz32 rfl (by decide) vo s.opened.length (s.opened.map intV) rfl ?_ ⟨_, 0, none⟩ 1 1 [_] rfl rfl (cell_one_at _ _ _ _ (by simp)) ?_ ?_ ?_ ?_ ?_)
        · exact ownsRow_ext (below_ext (((Below.refl _ _).alloc (Nat.le_refl _) _).drew) (Nat.le_refl _)) H3.out.oo
        · first | rfl | (intro u hu; simp only [List.mem_singleton] at hu; subst hu; rfl)
        · unfold maxLen; omega
        · omega
        · simp; omega
        · intro v4 w4 hown hgrow _ hat'
          obtain ⟨g4, cap4, rfl⟩ := slice_shape hown (by omega)
          have hbw : Below (w2.setCell ⟨rb, 3, none⟩ (.slice (some ⟨g', 0, none⟩) (s.ended.length + 1) cap')).heap.size (w2.setCell ⟨rb, 3, none⟩ (.slice (some ⟨g', 0, none⟩) (s.ended.length + 1) cap')) ((w2.setCell ⟨rb, 3, none⟩ (.slice (some ⟨g', 0, none⟩) (s.ended.length + 1) cap')).alloc (.cells #[.int .i64 s.caps] 3)).drew := ((Below.refl _ _).alloc (Nat.le_refl _) _).drew
          have hr4 := Pushed.rbk hbw hgrow H3.out.hr H3.out.d1
          have e2 : w4.cell? ⟨rb, 2, none⟩ = some vo := by rw [cell_of_heap hr4]; rfl
          have g2 : w4.frozen? ⟨rb, 2, none⟩ = false := by simp [World.frozen?, hr4]
          have H4 := Lib.hid (H3.out.pushOpened (x := s.caps) hbw hown hgrow (by simpa using hat'))
          clear hown hgrow hat' hr4 hbw
          go_wp2_with fail
          refine (add_c H4.out (mkItem 1 s.caps) .nilFunc (itemOK_plain _ _ _ _ _ _ _ rfl) (.inl rfl) 1 1 rfl (by omega) (by simp; omega)).mono ?_
          rintro e w5 ⟨rfl, HR⟩
          have HR := Lib.hid HR
          go_wp2
          go_ret
          rw [E.out]
          exact ⟨rfl, HR.out⟩
theorem bracket_c {w0 w : World} {rb : Nat} {p : ByteArray} {at_ : Nat} {anc fin : Bool} {s : St} {vo ve vi : Value} {vs : List Value} (h : RSt w0 rb w p at_ anc fin s vo ve vi vs) (hw : Wf s) (hat : at_ < p.size) (hp : p.size ≤ 5000) (hi : s.items.length ≤ at_) :
    Calls Tryd.prog 47 #[.pointer (some ⟨rb, 0, none⟩)] w (RdPost w0 rb p at_ anc fin (bracketM p[at_].toNat ((bytesOf p).drop (at_ + 1)) s)) := by
  by_cases hc : p[at_].toNat = 41
  · exact bracket_shut h hw hat hp hi hc
  · exact bracket_open h hw hat hp hi hc
end Go.Proofs.YtpbhncmaamedhaaDoor
