import Derived.Test.YtpbcmlnjiocmoaaGreatDoorRRng
import Derived.Test.YtpbcmlnjiocmoaaGreatDoorRHpX
set_option linter.unusedVariables false
set_option linter.unusedSimpArgs false
set_option maxRecDepth 100000
set_option maxHeartbeats 2000000
namespace Go.Proofs.YtpbcmlnjiocmoaaGreatDoorR
open Go.RowKit Go.Proofs.Lexi
set_option maxRecDepth 100000 in
set_option maxHeartbeats 2000000 in
theorem pNewTable_c (w : World) (h bo bt : Nat) (H : List PO) (hH : HpAt w h bo bt H) (hl : H.length ≤ 1000) : Calls Tryz.prog 22 #[.pointer (some ⟨h, 0, none⟩)] w (GrowPost w h bo bt H ⟨4, V.nil, []⟩) := by
  have hlt : h < w.heap.size := (Array.getElem?_eq_some_iff.1 hH.hh).1
  obtain ⟨E0, hE0⟩ := hH.touched
  have hbt : bt < w.heap.size := hE0.lt
  have hbo : bo < w.heap.size := hH.objs.lt
  have hHH := Lib.hid hH
  clear hH hE0
  go_enter Tryz.func22, Tryz.ntmps22
  go_wp2_with fail
  refine (ptabNew_c _).mono ?_
  intro e w1 hpost
  obtain ⟨t, ht0⟩ : ∃ t, t = w1.heap.size - 1 := ⟨_, rfl⟩
  rw [← ht0] at hpost
  obtain ⟨rfl, ⟨m, g, hT, hm, hg, ht⟩, hb⟩ := hpost
  simp at hm hg ht
  have HT := Lib.hid hT
  have HB1 := Lib.hid (below_next (below1 _ _) hb)
  have HR1 := Lib.hid (hkeep hb (heap1 w (oV 0 0 0 ⟨#[]⟩ 0)))
  have hz1 := hb.size
  simp at hz1
  clear hb hT ht0
  go_wp2_with fail
  have hHW := hHH.out.below (HB1.out.alloc HB1.out.size (.cells #[.int .i64 4, .int .i64 0, .string ⟨#[]⟩, .pointer (some ⟨t, 0, none⟩), .int .i64 0, .int .i64 0, .int .i64 0, .string ⟨#[]⟩, .int .i64 0, .slice none 0 0] 94))
  have hx : PObj (w1.alloc (.cells #[.int .i64 4, .int .i64 0, .string ⟨#[]⟩, .pointer (some ⟨t, 0, none⟩), .int .i64 0, .int .i64 0, .int .i64 0, .string ⟨#[]⟩, .int .i64 0, .slice none 0 0] 94)) (⟨4, 0, ⟨#[]⟩, V.nil, .slice none 0 0, w1.heap.size, t, m, g, .slice none 0 0, [], .slice none 0 0, []⟩ : PO) := ⟨heap1 _ _, .inl rfl, wf_nil, fun h => absurd h (show ¬ (4 : Int) = 5 by decide), fun _ => tabW_below (tabW_of HT.out) (below1 _ _)⟩
  obtain ⟨hsep, hgg⟩ := sep_new (x := (⟨4, 0, ⟨#[]⟩, V.nil, .slice none 0 0, w1.heap.size, t, m, g, .slice none 0 0, [], .slice none 0 0, []⟩ : PO)) hHH.out (HB1.out.size) (fun _ => ⟨by show w.heap.size ≤ m; omega, by show w.heap.size ≤ g; omega, by show w.heap.size ≤ t; omega⟩) rfl rfl
  refine (pCreate_c _ h bo bt H hHW hl (⟨4, 0, ⟨#[]⟩, V.nil, .slice none 0 0, w1.heap.size, t, m, g, .slice none 0 0, [], .slice none 0 0, []⟩ : PO) hx hsep hgg).mono ?_
  rintro e w3 ⟨rfl, hA, hM⟩
  have HA := Lib.hid hA
  have HM := Lib.hid hM
  have HBW := Lib.hid (HB1.out.alloc HB1.out.size (.cells #[.int .i64 4, .int .i64 0, .string ⟨#[]⟩, .pointer (some ⟨t, 0, none⟩), .int .i64 0, .int .i64 0, .int .i64 0, .string ⟨#[]⟩, .int .i64 0, .slice none 0 0] 94))
  have HR3 := Lib.hid (mods_keep hM (heap1_old HR1.out _) (fun e => by rcases e with e | e | e <;> omega))
  have hyr : w.heap.size < w3.heap.size := (Array.getElem?_eq_some_iff.1 HR3.out).1
  clear hA hM hHW hx hsep hgg
  have r0 : w3.cell? ⟨w.heap.size, 0, none⟩ = some (.int .i64 0) := by rw [cell_of_heap HR3.out]; rfl
  have r1 : w3.cell? ⟨w.heap.size, 1, none⟩ = some (.int .i64 0) := by rw [cell_of_heap HR3.out]; rfl
  have r2 : w3.cell? ⟨w.heap.size, 2, none⟩ = some (.int .i64 0) := by rw [cell_of_heap HR3.out]; rfl
  have r3 : w3.cell? ⟨w.heap.size, 3, none⟩ = some (.string ⟨#[]⟩) := by rw [cell_of_heap HR3.out]; rfl
  have r4 : w3.cell? ⟨w.heap.size, 4, none⟩ = some (.int .i64 0) := by rw [cell_of_heap HR3.out]; rfl
  have fr0 : w3.frozen? ⟨w.heap.size, 0, none⟩ = false := frozen_of_heap HR3.out _
  have fr1 : w3.frozen? ⟨w.heap.size, 1, none⟩ = false := frozen_of_heap HR3.out _
  have fr2 : w3.frozen? ⟨w.heap.size, 2, none⟩ = false := frozen_of_heap HR3.out _
  have fr3 : w3.frozen? ⟨w.heap.size, 3, none⟩ = false := frozen_of_heap HR3.out _
  have fr4 : w3.frozen? ⟨w.heap.size, 4, none⟩ = false := frozen_of_heap HR3.out _
  go_wp2
  refine bodyPost_ret (by simp [results, Tryz.results22, go_sem, hyr, r0, r1, r2, r3, r4]; first | done | rfl) rfl ?_
  refine grow_end hHH.out HBW.out HA.out HM.out HR3.out (mods_five (F := fun b => b = w.heap.size) (Mods.refl _ _) (.inl rfl) _ _ _ _ _) rfl ⟨rfl, rfl, rfl⟩ (fun b hb => ?_) _ rfl
  rcases hb with e | ⟨_, e | (e | e | hb) | hb⟩
  · have e : b = w1.heap.size := e
    have := HB1.out.size
    omega
  · have e : b = t := e
    omega
  · have e : b = m := e
    omega
  · have e : b = g := e
    omega
  · cases hb
  · cases hb
set_option maxRecDepth 100000 in
set_option maxHeartbeats 2000000 in
theorem pNew_c (w : World) : Calls Tryz.prog 8 #[] w (fun e w' => ∃ h, e = .returned (.pointer (some ⟨h, 0, none⟩)) ∧ PHp w.heap.size 0 w' h [] [] (fun _ => False) ∧ Below w.heap.size w w') := by
  have hmm := @run_makeMap Tryz.prog
  go_enter Tryz.func8, Tryz.ntmps8
  go_wp2
  go_ret
  have hb : Below w.heap.size w (((w.alloc (.map #[] 0)).alloc (.map #[] 0)).alloc (.cells #[.map (some w.heap.size), .int .i64 0, .map (some (w.heap.size + 1))] 63)) := (below2w _ _ _).alloc (by simp; omega) _
  refine ⟨w.heap.size + 1 + 1, rfl, ⟨⟨w.heap.size, w.heap.size + 1, [], ⟨heap3_c _ _ _ _, ?_, ⟨[], ?_⟩, fun x hx => (by cases hx), .nil, by omega, fun x hx => (by cases hx)⟩, rfl, rfl, fun x hx => (by cases hx), ?_, fun x hx => (by cases hx)⟩, fun b hb => hb.elim⟩, hb⟩
  · exact (mapAt_new 3 w).keep (by rw [heap3_a, heap_new])
  · refine MapAt.keep (w := (w.alloc (.map #[] 0)).alloc (.map #[] 0)) ?_ (Below.heap_alloc _ _ _ (by simp))
    have := mapAt_new (P := Tryz.prog) 3 (w.alloc (.map #[] 0))
    simpa using this
  · rintro b (rfl | rfl | rfl | ⟨x, hx, _⟩)
    · omega
    · omega
    · omega
    · cases hx
/-- Set of a heap, from what Set of the table does. -/
theorem pSetT_c {base n n' : Nat} {w : World} {h : Nat} {M : LH} {AA : List (List V)} {O : Nat → Prop} (hP : PHp base n w h M AA O) (hb : base ≤ w.heap.size) (hn : n ≤ n') {i : Nat} {o : LO} {A : List V} (hi : M[i]? = some o) (hA : AA[i]? = some A) (h4 : o.kind = 4) (k1 p1 q1 : Int) (s1 : ByteArray) (r1 : Int) (hk1 : k1 = 4) (hr1 : r1 = (i : Int) + 1) (hr : i64 r1) (kk pp qq : Int) (ss : ByteArray) (rr : Int) (hk : validV ⟨kk, pp, qq, ss, rr⟩ = true) (hk0 : kk ≠ 0) (k2 p2 q2 : Int) (s2 : ByteArray) (r2 : Int) (hv : validV ⟨k2, p2, q2, s2, r2⟩ = true) (L' : List Sl) (A' : List V) (hL' : L'.length ≤ n') (hA' : A'.length ≤ n')
    (S : ∀ W t m g sv av, TabW W t m g sv o.L av A → Calls Tryz.prog 46 #[.pointer (some ⟨t, 0, none⟩), .agg #[.int .i64 kk, .int .i64 pp, .int .i64 qq, .string ss, .int .i64 rr], .agg #[.int .i64 k2, .int .i64 p2, .int .i64 q2, .string s2, .int .i64 r2]] W (TWPost W t m g sv av L' A')) :
    Calls Tryz.prog 23 #[.pointer (some ⟨h, 0, none⟩), .agg #[.int .i64 k1, .int .i64 p1, .int .i64 q1, .string s1, .int .i64 r1], .agg #[.int .i64 kk, .int .i64 pp, .int .i64 qq, .string ss, .int .i64 rr], .agg #[.int .i64 k2, .int .i64 p2, .int .i64 q2, .string s2, .int .i64 r2]] w (SetTPost base n' w h M AA O i o L' A') := by
  obtain ⟨bo, bt, H, x, h1, h2, h2a, h3, h4a, h5, hix, hx4, hmt, hL, hAx, hf, _, _⟩ := php_at hP hi hA h4 (p1 := p1) (q1 := q1) (s1 := s1) hk1 hr1
  have T := fun W (hb : Below w.heap.size w W) => ptab_c W h bo bt H (h1.below hb) k1 p1 q1 s1 r1 hr
  have U := fun W H' (hH' : HpAt W h bo bt H') => pTouch_c W h bo bt H' hH' k1 p1 q1 s1 r1 hr
  have V := fun W => pvalidV_c W kk pp qq ss rr
  have E := fun W => pElem_c W k2 p2 q2 s2 r2
  rw [hf] at T
  rw [hk] at V
  rw [elem_valid hv] at E
  have T : ∀ W, Below w.heap.size w W → Calls Tryz.prog 36 #[.pointer (some ⟨h, 0, none⟩), .agg #[.int .i64 k1, .int .i64 p1, .int .i64 q1, .string s1, .int .i64 r1]] W (PtrPost W x.tabv) := T
  unfold PO.tabv at T
  rw [if_pos hx4] at T
  have hT := (h1.one x (List.mem_of_getElem? hix)).tb hx4
  rw [hL, hAx] at hT
  refine (pSet_ok w h bo bt H h1 i x hix hx4 L' A' k1 p1 q1 s1 r1 kk pp qq ss rr (beq_eq_false_iff_ne.2 hk0) k2 p2 q2 s2 r2 T V E (fun W hW => S W _ _ _ _ _ (tabW_below hT hW)) U).mono ?_
  rintro e w' ⟨he, m', g', sv', av', hH', hM', hown⟩
  obtain ⟨O', e1, e2⟩ := php_set h1 h3 h4a h5 hP.lt hb hn hix hx4 hL' hA' hH' hM' hown
  rw [h2, h2a, hmt] at e1
  exact ⟨he, O', e1, e2⟩
/-- Get of a packed heap at a table. -/
theorem pGetT_c {base n : Nat} {w : World} {h : Nat} {M : LH} {AA : List (List V)} {O : Nat → Prop} (hP : PHp base n w h M AA O) (hn : n ≤ 1000) {i : Nat} {o : LO} {A : List V} (hi : M[i]? = some o) (hA : AA[i]? = some A) (h4 : o.kind = 4) (k1 p1 q1 : Int) (s1 : ByteArray) (r1 : Int) (hk1 : k1 = 4) (hr1 : r1 = (i : Int) + 1) (hr : i64 r1) (kk pp qq : Int) (ss : ByteArray) (rr : Int) (hk : validV ⟨kk, pp, qq, ss, rr⟩ = true) (hkw : WfV ⟨kk, pp, qq, ss, rr⟩) :
    Calls Tryz.prog 21 #[.pointer (some ⟨h, 0, none⟩), .agg #[.int .i64 k1, .int .i64 p1, .int .i64 q1, .string s1, .int .i64 r1], .agg #[.int .i64 kk, .int .i64 pp, .int .i64 qq, .string ss, .int .i64 rr]] w (VrPost w (.ok (tgetM A o.L ⟨kk, pp, qq, ss, rr⟩))) := by
  obtain ⟨bo, bt, H, x, h1, h2, h2a, h3, h4a, h5, hix, hx4, hmt, hL, hAx, hf, _, _⟩ := php_at hP hi hA h4 (p1 := p1) (q1 := q1) (s1 := s1) hk1 hr1
  have := pGetK_c w h bo bt H h1 (fun y hy => ⟨Nat.le_trans (h3 y hy).1 hn, Nat.le_trans (h3 y hy).2 hn⟩) k1 p1 q1 s1 r1 hr kk pp qq ss rr hk hkw
  rwa [show getP H ⟨k1, p1, q1, s1, r1⟩ ⟨kk, pp, qq, ss, rr⟩ = .ok (tgetM A o.L ⟨kk, pp, qq, ss, rr⟩) from by unfold getP; rw [hf]; show (if x.kind = 4 then _ else _) = _; rw [if_pos hx4, hL, hAx]] at this
theorem pLenT_c {base n : Nat} {w : World} {h : Nat} {M : LH} {AA : List (List V)} {O : Nat → Prop} (hP : PHp base n w h M AA O) {i : Nat} {o : LO} {A : List V} (hi : M[i]? = some o) (hA : AA[i]? = some A) (h4 : o.kind = 4) (k1 p1 q1 : Int) (s1 : ByteArray) (r1 : Int) (hk1 : k1 = 4) (hr1 : r1 = (i : Int) + 1) (hr : i64 r1) :
    Calls Tryz.prog 16 #[.pointer (some ⟨h, 0, none⟩), .agg #[.int .i64 k1, .int .i64 p1, .int .i64 q1, .string s1, .int .i64 r1]] w (PtrPost w (.tuple #[.int .i64 (A.length : Nat), .int .i64 0])) := by
  obtain ⟨bo, bt, H, x, h1, h2, h2a, h3, h4a, h5, hix, hx4, hmt, hL, hAx, hf, _, _⟩ := php_at hP hi hA h4 (p1 := p1) (q1 := q1) (s1 := s1) hk1 hr1
  have := pLenK_c w h bo bt H h1 k1 p1 q1 s1 r1 hr
  rwa [show lenP H ⟨k1, p1, q1, s1, r1⟩ = .tuple #[.int .i64 (A.length : Nat), .int .i64 0] from by unfold lenP; rw [hf]; show (if x.kind = 4 then _ else _) = _; rw [if_pos hx4, hAx]] at this
theorem pNewTableP_c {base n : Nat} {w : World} {h : Nat} {M : LH} {AA : List (List V)} {O : Nat → Prop} (hP : PHp base n w h M AA O) (hb : base ≤ w.heap.size) (hl : M.length ≤ 1000) :
    Calls Tryz.prog 22 #[.pointer (some ⟨h, 0, none⟩)] w (fun e w' => e = .returned (.tuple #[.agg #[.int .i64 4, .int .i64 0, .int .i64 0, .string ⟨#[]⟩, .int .i64 ((M.length : Int) + 1)], .int .i64 0]) ∧ PHp base n w' h (M ++ [⟨4, V.nil, []⟩]) (AA ++ [[]]) O ∧ QS base O w O w') :=
  grow_php hP hb hl (fun bo bt H hH hlH => pNewTable_c w h bo bt H hH hlH)
end Go.Proofs.YtpbcmlnjiocmoaaGreatDoorR
