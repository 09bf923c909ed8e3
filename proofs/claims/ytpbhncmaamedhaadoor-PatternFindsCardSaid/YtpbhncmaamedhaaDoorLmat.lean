import Derived.Test.YtpbhncmaamedhaaDoorSame
namespace Go.Proofs.YtpbhncmaamedhaaDoor
open Go.RowKit Go.Proofs.Lexi

/-! The law's own 'match' (24) and 'large' (11). -/
def IntsR (w : World) (v : Value) (ps : List (Int × Int)) : Prop := ∃ ao cap, v = .slice ao (2 * ps.length) cap ∧ (0 < ps.length → ∃ g o, ao = some ⟨g, o, none⟩ ∧ g < w.heap.size ∧
  ∀ k, k < ps.length → w.cell? ⟨g, o + 2 * k, none⟩ = some (.int .i64 (ps.getD k (0, 0)).1) ∧ w.cell? ⟨g, o + (2 * k + 1), none⟩ = some (.int .i64 (ps.getD k (0, 0)).2))
def LmPost (w : World) (f t : Int) (ps : List (Int × Int)) (e : Ending) (w' : World) : Prop := Below w.heap.size w w' ∧ ∃ u, e = .returned (.agg #[.int .i64 f, .int .i64 t, u]) ∧ CapsV w' w.heap.size u ps
theorem cells_two (w : World) (x0 x1 : Value) (t : TypeId) (B : Nat) (hB : B = w.heap.size) : ∀ j u, [x0, x1][j]? = some u → (w.alloc (.cells #[x0, x1] t)).cell? ((⟨B, 0, none⟩ : Addr).add j) = some u := by
  intro j u hj
  subst hB
  have e : (⟨w.heap.size, 0, none⟩ : Addr).add j = ⟨w.heap.size, j, none⟩ := by unfold Addr.add; split <;> simp_all
  rw [e, cell_of_heap (heap_new _ _)]
  simpa using hj
theorem take_snocP {l : List (Int × Int)} {k : Nat} (h : k < l.length) : (l.take (k + 1)).flatMap pairP = (l.take k).flatMap pairP ++ pairP (l.getD k (0, 0)) := by
  rw [List.take_succ_eq_append_getElem h, List.flatMap_append]
  simp [List.getD_eq_getElem?_getD, h]
def LmRel (w : World) (f t : Int) (ps : List (Int × Int)) (gg : Nat) (vi : Value) (wr : World) : Prop := ∃ (k : Nat) (v : Value), gg = ps.length - k ∧ vi = .int .i64 ((2 * k : Nat) : Int) ∧ k ≤ ps.length ∧ Below w.heap.size w wr ∧ w.heap.size + 2 ≤ wr.heap.size ∧ wr.heap[w.heap.size]? = some resMatch ∧
  wr.heap[w.heap.size + 1]? = some (.cells #[.int .i64 f, .int .i64 t, v] 29 (0, 0)) ∧ wr.ownsRow (w.heap.size + 2) 43 2 v k ((ps.take k).flatMap pairP)
set_option maxRecDepth 100000 in
set_option maxHeartbeats 4000000 in
theorem lmatch_c (f t : Int) (v : Value) (ps : List (Int × Int)) (w : World) (hv : IntsR w v ps) (hl : ps.length ≤ 1000) :
    Calls Tryd.prog 24 #[.int .i64 f, .int .i64 t, v] w (LmPost w f t ps) := by
  obtain ⟨ao, cap, rfl, hc⟩ := hv
  obtain ⟨i0, hi0, hz0, hz1, hz2⟩ := info_parts Tryd.info43
  have HC := Lib.hid hc
  have HS0 := Lib.hid (show LmRel w f t ps ps.length (.int .i64 0) ((w.alloc resMatch).alloc (.cells #[.int .i64 f, .int .i64 t, .slice none 0 0] 29)) from
    ⟨0, .slice none 0 0, rfl, rfl, Nat.zero_le _, ((Below.refl _ _).alloc (Nat.le_refl _) _).alloc (by simp) _, by simp, heap2_a' _ _ _, heap2_b' _ _ _, World.ownsRow_nil _ _ _ _⟩)
  obtain ⟨N, hN⟩ : ∃ N, N = 2 * ps.length := ⟨_, rfl⟩
  rw [← hN]
  have HN := Lib.hid hN
  have hNl : N ≤ 2000 := by omega
  clear hc hN
  go_enter Tryd.func24, Tryd.ntmps24
  go_wp2
  go_loopg [8] ps.length (fun gg vi wr => LmRel w f t ps gg vi wr)
  case atStart => exact HS0.out
  case round =>
    clear HS0
    obtain ⟨k, v, rfl, rfl, hk, hb, hsz, hres, hm, hown⟩ := hrel
    obtain ⟨i, hi⟩ : ∃ i, i = 2 * k := ⟨_, rfl⟩
    rw [← hi]
    have hil : i ≤ 2000 := by omega
    have m0 : wr.cell? ⟨w.heap.size + 1, 0, none⟩ = some (.int .i64 f) := by rw [cell_of_heap hm]; rfl
    have m1 : wr.cell? ⟨w.heap.size + 1, 1, none⟩ = some (.int .i64 t) := by rw [cell_of_heap hm]; rfl
    have m2 : wr.cell? ⟨w.heap.size + 1, 2, none⟩ = some v := by rw [cell_of_heap hm]; rfl
    obtain ⟨q0, q1, q2, z0, z1, z2⟩ := cell3 hres
    have HB := Lib.hid hb
    have HRES := Lib.hid hres
    have HM := Lib.hid hm
    have HOWN := Lib.hid hown
    have HI := Lib.hid hi
    have hnb : v.ownBlock ≠ some (w.heap.size + 1) := fun e => by have := (ownBlock_lt hown e).1; omega
    have hnb0 : v.ownBlock ≠ some w.heap.size := fun e => by have := (ownBlock_lt hown e).1; omega
    have HNB := Lib.hid hnb
    have HNB0 := Lib.hid hnb0
    clear hb hres hm hown hnb hnb0
    by_cases hlt : k < ps.length
    · obtain ⟨g, o, rfl, hg, hcc⟩ := HC.out (by omega)
      have hin : i + 1 < N := by have := HN.out; omega
      obtain ⟨x, y, hxy⟩ : ∃ x y, ps.getD k (0, 0) = (x, y) := ⟨_, _, rfl⟩
      have hc2 := hcc k hlt
      rw [hxy, ← hi] at hc2
      have c0 : wr.cell? ⟨g, o + i, none⟩ = some (.int .i64 x) := by rw [HB.out.cell (p := ⟨g, o + i, none⟩) hg]; exact hc2.1
      have c1 : wr.cell? ⟨g, o + (i + 1), none⟩ = some (.int .i64 y) := by rw [HB.out.cell (p := ⟨g, o + (i + 1), none⟩) hg]; exact hc2.2
      have HXY := Lib.hid hxy
      clear hi hcc hxy hc2
      have HVS := Lib.hid (show ∃ a n c, v = .slice a n c from by
        rcases HOWN.out.2 with ⟨h, _⟩ | ⟨g, cap, cur, h, _⟩
        · exact ⟨_, _, _, h⟩
        · exact ⟨_, _, _, h⟩)
      go_wp2
      refine wp_region_lex mixed (by kernel_rfl) ?_
      go_wp2_with (at_builtin; refine wpList_append_own_at _ rfl (.tmp 20) (.tmp 31) 27 rfl (w.heap.size + 2) 43 i0 _ 2 16 Tryd.underlying27 hi0 hz0 hz1 hz2 rfl (by decide) v k ((ps.take k).flatMap pairP) rfl ?_ ⟨_, 0, none⟩ 1 1 [_, _] rfl rfl (cells_two _ _ _ _ _ (by simp)) ?_ ?_ ?_ ?_ ?_)
      · exact ownsRow_ext (below_ext ((Below.refl _ _).drew.alloc (by simp) _) (Nat.le_refl _)) HOWN.out
      · intro u hu
        simp only [List.mem_cons, List.not_mem_nil, or_false] at hu
        rcases hu with rfl | rfl <;> rfl
      · unfold maxLen; omega
      · omega
      · simp; omega
      · intro v' w2 hown' hgrow _ hat
        have hnew : w2.heap[w.heap.size + 1]? = some (.cells #[.int .i64 f, .int .i64 t, v] 29 (0, 0)) := by
          rw [hgrow.block _ (by simp; omega) (fun e => HNB.out e.symm)]
          show (wr.alloc (.cells #[.int .i64 x, .int .i64 y] 43)).heap[w.heap.size + 1]? = _
          rw [Below.heap_alloc _ _ _ (by omega)]; exact HM.out
        have hres2 : w2.heap[w.heap.size]? = some resMatch := by
          rw [hgrow.block _ (by simp; omega) (fun e => HNB0.out e.symm)]
          show (wr.alloc (.cells #[.int .i64 x, .int .i64 y] 43)).heap[w.heap.size]? = _
          rw [Below.heap_alloc _ _ _ (by omega)]; exact HRES.out
        have y2 : w2.cell? ⟨w.heap.size + 1, 2, none⟩ = some v := by rw [cell_of_heap hnew]; rfl
        have fz : w2.frozen? ⟨w.heap.size + 1, 2, none⟩ = false := by simp [World.frozen?, hnew]
        have hsz2 := hgrow.size
        simp at hsz2
        have hbn : Below w.heap.size w w2 := ((HB.out.drew.alloc (by simp; omega) (.cells #[.int .i64 x, .int .i64 y] 43)).grown hgrow (by simp; omega) (fun kk hkk => by have := (ownBlock_lt HOWN.out hkk).1; omega))
        have hnb' : v'.ownBlock ≠ some (w.heap.size + 1) := fun e => by have := (ownBlock_lt hown' e).1; omega
        have HN2 := Lib.hid (show LmRel w f t ps (ps.length - (k + 1)) (.int .i64 ((2 * (k + 1) : Nat) : Int)) (w2.setCell ⟨w.heap.size + 1, 2, none⟩ v') from
          ⟨k + 1, v', rfl, rfl, by omega, hbn.setCell (p := ⟨w.heap.size + 1, 2, none⟩) (by simp) _, by simp; omega, by rw [Below.heap_setCell _ _ _ _ (by simp)]; exact hres2, by rw [heap_setCell_same hnew]; rfl, ownsRow_set (a := ⟨w.heap.size + 1, 2, none⟩) (by rw [take_snocP hlt, HXY.out]; exact hown') hnb' _⟩)
        have HIE := Lib.hid (show ((i : Int) + 2) = ((2 * (k + 1) : Nat) : Int) from by have := HI.out; omega)
        obtain ⟨av, nv, cv, rfl⟩ : ∃ a n c, v' = .slice a n c := by
          rcases hown'.2 with ⟨h, _⟩ | ⟨g, cap, cur, h, _⟩
          · exact ⟨_, _, _, h⟩
          · exact ⟨_, _, _, h⟩
        clear hown' hgrow hat hnew hres2 hbn hnb'
        go_wp2
        refine ⟨by kernel_rfl, ?_⟩
        go_wp2
        go_roundg (ps.length - (k + 1))
        case measure => omega
        case rel => exact (by rw [HIE.out]; exact HN2.out)
    · have hge : ¬ ((i : Int) + 1 < (N : Int)) := by have := HN.out; omega
      have hown2 : wr.ownsRow (w.heap.size + 2) 43 2 v ps.length (ps.flatMap pairP) := by
        have := HOWN.out
        rw [show k = ps.length by omega, List.take_length] at this
        exact this
      have HOW := Lib.hid (ownsRow_base (ownsRow_set3 hown2 HNB0.out (.int .i64 f) (.int .i64 t) v) (show w.heap.size ≤ w.heap.size + 2 by omega))
      obtain ⟨av, nv, cv, rfl⟩ : ∃ a n c, v = .slice a n c := by
        rcases hown2.2 with ⟨h, _⟩ | ⟨g, cap, cur, h, _⟩
        · exact ⟨_, _, _, h⟩
        · exact ⟨_, _, _, h⟩
      obtain ⟨r0, r1, r2⟩ := read3 q0 q1 q2 (.int .i64 f) (.int .i64 t) (.slice av nv cv)
      have HR0 := Lib.hid r0
      have HR1 := Lib.hid r1
      have HR2 := Lib.hid r2
      clear r0 r1 r2 hown2 hi
      go_wp2
      refine bodyPost_ret (v := .agg #[.int .i64 f, .int .i64 t, .slice av nv cv]) (by simp [results, Tryd.results24, go_sem, HR0.out, HR1.out, HR2.out]) rfl ?_
      exact ⟨below_set3 HB.out (Nat.le_refl _) _ _ _, _, rfl, HOW.out⟩
def largeM (s p : ByteArray) : Bool := decide (5000 < s.size) || decide (600 < p.size)
theorem large_c (s p : ByteArray) (w : World) : Calls Tryd.prog 11 #[.string s, .string p] w fun e w' => e = .returned (.bool (largeM s p)) ∧ w = w' := by
  go_enter Tryd.func11, Tryd.ntmps11
  go_wp2
  all_goals (go_ret; exact ⟨ret_bool (by unfold largeM; rw [Bool.eq_iff_iff]; simp; omega), rfl⟩)
end Go.Proofs.YtpbhncmaamedhaaDoor
