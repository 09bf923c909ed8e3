import Derived.Test.YtpbhncmaamedhaaDoorSetM
namespace Go.Proofs.YtpbhncmaamedhaaDoor
open Go.RowKit Go.Proofs.Lexi
theorem Tryd.info84 : (Tryd.prog.info? 84).map (fun i => (i.zero, i.size, i.bytes)) = some (some .nilFunc, 1, 8) := by kernel_rfl
theorem mixed : Tryd.prog.follows .mixedOrders = true := by kernel_rfl
theorem SetRel.start {p : ByteArray} {w : World} {nt : Bool} {k0 : Nat} (hk : k0 ≤ p.size) : SetRel p w nt k0 (setGo true ((bytesOf p).drop k0) []) (.int .i64 (k0 : Int)) ((w.alloc (.cells #[.bool nt] 4)).alloc (.cells #[.slice none 0 0] 123)) := by
  refine ⟨k0, .slice none 0 0, [], [], rfl, Nat.le_refl _, hk, by simp, by omega, ⟨?_, ?_, ?_, ?_, rfl, ?_, ?_⟩, by simp⟩
  · exact ((Below.refl _ _).alloc (Nat.le_refl _) _).alloc (by simp) _
  · rw [Below.heap_alloc _ _ _ (by simp), heap_new]
  · have := heap_new (w.alloc (.cells #[.bool nt] 4)) (.cells #[.slice none 0 0] 123)
    simpa using this
  · exact World.ownsRow_nil _ _ _ _
  · intro j hj; cases hj
  · simp

theorem cell_one_at (w : World) (x : Value) (t : TypeId) (B : Nat) (hB : B = w.heap.size) : ∀ j u, [x][j]? = some u → (w.alloc (.cells #[x] t)).cell? ((⟨B, 0, none⟩ : Addr).add j) = some u := by
  subst hB; exact cell_one_new w x t
theorem heap2_a (w : World) (o1 o2 : Obj) : ((w.alloc o1).alloc o2).drew.heap[w.heap.size]? = some o1 := by
  show ((w.alloc o1).alloc o2).heap[w.heap.size]? = some o1
  rw [Below.heap_alloc _ _ _ (by simp), heap_new]
theorem heap2_b (w : World) (o1 o2 : Obj) : ((w.alloc o1).alloc o2).drew.heap[w.heap.size + 1]? = some o2 := by
  have := heap_new (w.alloc o1) o2
  rw [World.size_alloc] at this
  exact this
theorem below2 (w : World) (o1 o2 : Obj) : Below w.heap.size w ((w.alloc o1).alloc o2).drew := (((Below.refl _ _).alloc (Nat.le_refl _) _).alloc (by simp) _).drew
set_option maxRecDepth 100000 in
set_option maxHeartbeats 2000000 in
theorem set_loop (p : ByteArray) (at_ : Nat) (hat : at_ < p.size) (hp : p.size ≤ 5000) (w : World) (nt : Bool) (k0 : Nat) (hk0 : k0 ≤ p.size)
   (hst : (at_ + 1 < p.size ∧ (∃ h : at_ + 1 < p.size, p[at_ + 1].toNat = 94) ∧ nt = true ∧ k0 = at_ + 2) ∨ (at_ + 1 < p.size ∧ (∃ h : at_ + 1 < p.size, ¬ p[at_ + 1].toNat = 94) ∧ nt = false ∧ k0 = at_ + 1) ∨ (p.size ≤ at_ + 1 ∧ nt = false ∧ k0 = at_ + 1)) :
    Calls Tryd.prog 61 #[.string p, .int .i64 at_] w (SetEnd w p.size nt (setGo true ((bytesOf p).drop k0) [])) := by
  obtain ⟨i0, hi, hz0, hz1, hz2⟩ := info_parts Tryd.info84
  have hstart := Lib.hid (SetRel.start (p := p) (w := w) (nt := nt) hk0)
  generalize HR : setGo true ((bytesOf p).drop k0) [] = R at *
  clear HR
  rcases hst with ⟨h1, ⟨_, h94⟩, hnt, hk⟩ | ⟨h1, ⟨_, h94⟩, hnt, hk⟩ | ⟨h1, hnt, hk⟩
  focus
    have h94' : (((p[at_ + 1]).toNat : Int) == 94) = true := by rw [h94]; rfl
    clear h94
    have HK := Lib.hid hk
    have HNT := Lib.hid hnt
    clear hk hnt
    go_enter Tryd.func61, Tryd.ntmps61
    go_wp2
    have hq1 : k0 ≤ at_ + 2 := by have := HK.out; omega
    have hq2 : at_ + 2 ≤ k0 := by have := HK.out; omega
    have HKK := Lib.hid (show ((k0 : Nat) : Int) = (at_ : Int) + 1 + 1 from by have := HK.out; omega)
    clear h94'
  rotate_left
  focus
    have h94' : (((p[at_ + 1]).toNat : Int) == 94) = false := by rw [beq_eq_false_iff_ne]; omega
    clear h94
    have HK := Lib.hid hk
    have HNT := Lib.hid hnt
    clear hk hnt
    go_enter Tryd.func61, Tryd.ntmps61
    go_wp2
    have hq1 : k0 ≤ at_ + 1 := by have := HK.out; omega
    have hq2 : at_ + 1 ≤ k0 := by have := HK.out; omega
    have HKK := Lib.hid (show ((k0 : Nat) : Int) = (at_ : Int) + 1 from by have := HK.out; omega)
    clear h94'
  rotate_left
  focus
    have HK := Lib.hid hk
    have HNT := Lib.hid hnt
    clear hk hnt
    go_enter Tryd.func61, Tryd.ntmps61
    go_wp2
    have hq1 : k0 ≤ at_ + 1 := by have := HK.out; omega
    have hq2 : at_ + 1 ≤ k0 := by have := HK.out; omega
    have HKK := Lib.hid (show ((k0 : Nat) : Int) = (at_ : Int) + 1 from by have := HK.out; omega)
    go_loopw [7] (fun kk wr => SetRel p w nt k0 R kk wr) (fun kk _ => p.size - (intOf kk).toNat)
    case atStart => have h := hstart.out; rw [HKK.out] at h; rw [HNT.out] at h ⊢; exact h
    case round =>
      clear hstart
      obtain ⟨k, vs, vals, acc, rfl, hk1, hk2, hl, h0, hst, hR⟩ := hrel
      have hE := Lib.hid (SetEnd.no (R := R) (n := p.size) hst (by rw [← hR, bytesOf_end p k (by omega)]; rfl))
      clear hst hR h0
      go_wp2
      go_ret3
      exact hE.out
  all_goals
    clear h1
    go_loopw [7] (fun kk wr => SetRel p w nt k0 R kk wr) (fun kk _ => p.size - (intOf kk).toNat)
    case atStart => have h := hstart.out; rw [HKK.out] at h; rw [HNT.out] at h ⊢; exact h
    case round =>
      clear hstart
      obtain ⟨k, vs, vals, acc, rfl, hk1, hk2, hl, h0, hst, hR⟩ := hrel
      have HST := Lib.hid hst
      have HRR := Lib.hid hR
      have H0 := Lib.hid h0
      have hv1 : wr.cell? ⟨w.heap.size + 1, 0, none⟩ = some vs := by rw [cell_of_heap hst.hv]; rfl
      have hsz := hst.size
      clear hst hR h0
      by_cases hlt : k < p.size
      · by_cases c93 : p[k].toNat = 93 ∧ k0 < k
        · obtain ⟨c93, hfst⟩ := c93
          have hE := Lib.hid (SetEnd.yes (R := R) (p := p) (k := k) HST.out hlt (by omega) (H0.out hfst) (by rw [← HRR.out, bytesOf_drop p k hlt, c93, show decide (k = k0) = false from by simp; omega]; exact setGo_end _ _))
          have h93 : ((p[k].toNat : Int) == 93) = true := by rw [c93]; rfl
          clear c93
          go_wp2
          go_ret3
          exact hE.out
        · by_cases c37 : p[k].toNat = 37
          · have h93 : ((p[k].toNat : Int) == 93) = false := by rw [beq_eq_false_iff_ne]; omega
            have h37 : ((p[k].toNat : Int) == 37) = true := by rw [c37]; rfl
            have HC := Lib.hid c37
            clear c37 c93
            by_cases hk3 : k + 1 < p.size
            · go_wp2_with fail
              refine (pair_c _ (UInt8.toNat_lt _) _).mono ?_
              rintro e w1 ⟨v, rfl, hx, hset⟩
              have hgo := HRR.out
              rw [bytesOf_drop p k hlt, HC.out, bytesOf_drop p (k + 1) hk3, setGo_pct] at hgo
              cases hps : pairS (p[k + 1].toNat) with
              | none =>
                rw [hps] at hgo
                have hE := Lib.hid (SetEnd.no' (R := R) (n := p.size) HST.out hx hgo.symm)
                clear hgo hset hps hx
                go_wp2
                go_ret3
                exact hE.out
              | some S =>
                rw [hps] at hgo
                have hRn : setGo false ((bytesOf p).drop (k + 2)) (acc ++ [S]) = R := hgo
                have hset := hset S hps
                obtain ⟨f, caps, rfl, _, _⟩ := hset w1 (fun _ _ _ => rfl)
                have hv2 : w1.cell? ⟨w.heap.size + 1, 0, none⟩ = some vs := by rw [hx.cell (by have := HST.out.size; simp; omega)]; exact hv1
                clear hps hgo
                go_wp2_with (at_builtin; refine wpList_append_own_at _ rfl (.tmp 78) (.tmp 80) 123 rfl (w.heap.size + 2) 84 i0 .nilFunc 1 8 Tryd.underlying123 hi hz0 hz1 hz2 rfl (by decide) vs vals.length vals rfl (HST.out.owned hx _) ⟨_, 0, none⟩ 1 1 [_] rfl rfl (cell_one_at _ _ _ _ (by simp)) ?_ ?_ ?_ ?_ ?_)
                · first | rfl | (intro u hu; simp only [List.mem_singleton] at hu; subst hu; rfl)
                · unfold maxLen; omega
                · omega
                · have := HST.out.size; have := hx.size; simp; omega
                · intro v' w2 hown hgrow _ hat
                  obtain ⟨g', cap', rfl⟩ := slice_shape hown (by omega)
                  obtain ⟨hc2, hf2⟩ := HST.out.cellv hx hgrow
                  have HN := Lib.hid (SetRel.next (p := p) (R := R) hk1 (j := k + 2) (by omega) (by omega) hl HST.out hx hRn hset hown hgrow hat rfl)
                  clear hown hgrow hat hx hRn hset
                  go_wp2
                  go_roundw
                  case rel => exact HN.out
                  case measure => simp [intOf]; omega
            · have hE := Lib.hid (SetEnd.no (R := R) (n := p.size) HST.out (by rw [← HRR.out, bytesOf_drop p k hlt, HC.out, bytesOf_end p (k + 1) (by omega)]; exact setGo_pct0 _ _))
              go_wp2
              go_ret3
              exact hE.out
          · have h37 : ((p[k].toNat : Int) == 37) = false := by rw [beq_eq_false_iff_ne]; omega
            have HNE := Lib.hid (show ¬ (p[k].toNat = 93 ∧ decide (k = k0) = false) from by simp; omega)
            have HN37 := Lib.hid c37
            obtain ⟨b93, hb93⟩ : ∃ b, ((p[k].toNat : Int) == 93) = b := ⟨_, rfl⟩
            have hgo := HRR.out
            rw [bytesOf_drop p k hlt] at hgo
            by_cases hr : ∃ (h : k + 2 < p.size), p[k + 1].toNat = 45 ∧ ¬ p[k + 2].toNat = 93
            · obtain ⟨hk4, h45, hn93⟩ := hr
              rw [bytesOf_drop p (k + 1) (by omega), bytesOf_drop p (k + 1 + 1) hk4, h45, setGo_range _ _ _ _ _ HNE.out HN37.out hn93] at hgo
              have t45 : ((p[k + 1].toNat : Int) == 45) = true := by rw [h45]; rfl
              have t93 : ((p[k + 2].toNat : Int) != 93) = true := by rw [bne_iff_ne]; omega
              have hfirst : b93 = true → k ≤ k0 := fun e => by subst e; simp at hb93; omega
              have HGO := Lib.hid hgo
              clear h45 hn93 hgo c93 c37
              cases b93 with
              | true =>
                have hfirst := hfirst rfl
                go_wp2
                go_region
                · have hx := below2 wr (.cells #[.int .u8 p[k].toNat] 5) (.cells #[.int .u8 p[k + 2].toNat] 5)
                  have hset := isSet_range ((wr.alloc (.cells #[.int .u8 p[k].toNat] 5)).alloc (.cells #[.int .u8 p[k + 2].toNat] 5)).drew wr.heap.size wr.heap.size (wr.heap.size + 1) p[k].toNat p[k + 2].toNat (heap2_a wr _ _) (heap2_b wr _ _) (by omega) (by omega)
                  have hRn := HGO.out
                  have hv2 : ((wr.alloc (.cells #[.int .u8 p[k].toNat] 5)).alloc (.cells #[.int .u8 p[k + 2].toNat] 5)).drew.cell? ⟨w.heap.size + 1, 0, none⟩ = some vs := by rw [hx.cell (by simp; omega)]; exact hv1
                  generalize ((wr.alloc (.cells #[.int .u8 p[k].toNat] 5)).alloc (.cells #[.int .u8 p[k + 2].toNat] 5)).drew = W1 at hx hset hv2 ⊢
                  go_wp2_with (at_builtin; refine wpList_append_own_at _ rfl (.tmp 111) (.tmp 113) 123 rfl (w.heap.size + 2) 84 i0 .nilFunc 1 8 Tryd.underlying123 hi hz0 hz1 hz2 rfl (by decide) vs vals.length vals rfl (HST.out.owned hx _) ⟨_, 0, none⟩ 1 1 [_] rfl rfl (cell_one_at _ _ _ _ (by simp)) ?_ ?_ ?_ ?_ ?_)
                  · first | rfl | (intro u hu; simp only [List.mem_singleton] at hu; subst hu; rfl)
                  · unfold maxLen; omega
                  · omega
                  · have := HST.out.size; have := hx.size; simp at *; omega
                  · intro v' w2 hown hgrow _ hat
                    obtain ⟨g', cap', rfl⟩ := slice_shape hown (by omega)
                    obtain ⟨hc2, hf2⟩ := HST.out.cellv hx hgrow
                    have HN := Lib.hid (SetRel.next (p := p) (R := R) hk1 (j := k + 3) (by omega) (by omega) hl HST.out hx hRn hset hown hgrow hat rfl)
                    clear hown hgrow hat hx hRn hset
                    go_wp2
                    go_roundw
                    case rel => exact HN.out
                    case measure => simp [intOf]; omega
                · have hx := below2 wr (.cells #[.int .u8 p[k + 2].toNat] 5) (.cells #[.int .u8 p[k].toNat] 5)
                  have hset := isSet_range ((wr.alloc (.cells #[.int .u8 p[k + 2].toNat] 5)).alloc (.cells #[.int .u8 p[k].toNat] 5)).drew wr.heap.size (wr.heap.size + 1) wr.heap.size p[k].toNat p[k + 2].toNat (heap2_b wr _ _) (heap2_a wr _ _) (by omega) (by omega)
                  have hRn := HGO.out
                  have hv2 : ((wr.alloc (.cells #[.int .u8 p[k + 2].toNat] 5)).alloc (.cells #[.int .u8 p[k].toNat] 5)).drew.cell? ⟨w.heap.size + 1, 0, none⟩ = some vs := by rw [hx.cell (by simp; omega)]; exact hv1
                  generalize ((wr.alloc (.cells #[.int .u8 p[k + 2].toNat] 5)).alloc (.cells #[.int .u8 p[k].toNat] 5)).drew = W1 at hx hset hv2 ⊢
                  go_wp2_with (at_builtin; refine wpList_append_own_at _ rfl (.tmp 111) (.tmp 113) 123 rfl (w.heap.size + 2) 84 i0 .nilFunc 1 8 Tryd.underlying123 hi hz0 hz1 hz2 rfl (by decide) vs vals.length vals rfl (HST.out.owned hx _) ⟨_, 0, none⟩ 1 1 [_] rfl rfl (cell_one_at _ _ _ _ (by simp)) ?_ ?_ ?_ ?_ ?_)
                  · first | rfl | (intro u hu; simp only [List.mem_singleton] at hu; subst hu; rfl)
                  · unfold maxLen; omega
                  · omega
                  · have := HST.out.size; have := hx.size; simp at *; omega
                  · intro v' w2 hown hgrow _ hat
                    obtain ⟨g', cap', rfl⟩ := slice_shape hown (by omega)
                    obtain ⟨hc2, hf2⟩ := HST.out.cellv hx hgrow
                    have HN := Lib.hid (SetRel.next (p := p) (R := R) hk1 (j := k + 3) (by omega) (by omega) hl HST.out hx hRn hset hown hgrow hat rfl)
                    clear hown hgrow hat hx hRn hset
                    go_wp2
                    go_roundw
                    case rel => exact HN.out
                    case measure => simp [intOf]; omega
              | false =>
                clear hfirst
                go_wp2
                go_region
                · have hx := below2 wr (.cells #[.int .u8 p[k].toNat] 5) (.cells #[.int .u8 p[k + 2].toNat] 5)
                  have hset := isSet_range ((wr.alloc (.cells #[.int .u8 p[k].toNat] 5)).alloc (.cells #[.int .u8 p[k + 2].toNat] 5)).drew wr.heap.size wr.heap.size (wr.heap.size + 1) p[k].toNat p[k + 2].toNat (heap2_a wr _ _) (heap2_b wr _ _) (by omega) (by omega)
                  have hRn := HGO.out
                  have hv2 : ((wr.alloc (.cells #[.int .u8 p[k].toNat] 5)).alloc (.cells #[.int .u8 p[k + 2].toNat] 5)).drew.cell? ⟨w.heap.size + 1, 0, none⟩ = some vs := by rw [hx.cell (by simp; omega)]; exact hv1
                  generalize ((wr.alloc (.cells #[.int .u8 p[k].toNat] 5)).alloc (.cells #[.int .u8 p[k + 2].toNat] 5)).drew = W1 at hx hset hv2 ⊢
                  go_wp2_with (at_builtin; refine wpList_append_own_at _ rfl (.tmp 111) (.tmp 113) 123 rfl (w.heap.size + 2) 84 i0 .nilFunc 1 8 Tryd.underlying123 hi hz0 hz1 hz2 rfl (by decide) vs vals.length vals rfl (HST.out.owned hx _) ⟨_, 0, none⟩ 1 1 [_] rfl rfl (cell_one_at _ _ _ _ (by simp)) ?_ ?_ ?_ ?_ ?_)
                  · first | rfl | (intro u hu; simp only [List.mem_singleton] at hu; subst hu; rfl)
                  · unfold maxLen; omega
                  · omega
                  · have := HST.out.size; have := hx.size; simp at *; omega
                  · intro v' w2 hown hgrow _ hat
                    obtain ⟨g', cap', rfl⟩ := slice_shape hown (by omega)
                    obtain ⟨hc2, hf2⟩ := HST.out.cellv hx hgrow
                    have HN := Lib.hid (SetRel.next (p := p) (R := R) hk1 (j := k + 3) (by omega) (by omega) hl HST.out hx hRn hset hown hgrow hat rfl)
                    clear hown hgrow hat hx hRn hset
                    go_wp2
                    go_roundw
                    case rel => exact HN.out
                    case measure => simp [intOf]; omega
                · have hx := below2 wr (.cells #[.int .u8 p[k + 2].toNat] 5) (.cells #[.int .u8 p[k].toNat] 5)
                  have hset := isSet_range ((wr.alloc (.cells #[.int .u8 p[k + 2].toNat] 5)).alloc (.cells #[.int .u8 p[k].toNat] 5)).drew wr.heap.size (wr.heap.size + 1) wr.heap.size p[k].toNat p[k + 2].toNat (heap2_b wr _ _) (heap2_a wr _ _) (by omega) (by omega)
                  have hRn := HGO.out
                  have hv2 : ((wr.alloc (.cells #[.int .u8 p[k + 2].toNat] 5)).alloc (.cells #[.int .u8 p[k].toNat] 5)).drew.cell? ⟨w.heap.size + 1, 0, none⟩ = some vs := by rw [hx.cell (by simp; omega)]; exact hv1
                  generalize ((wr.alloc (.cells #[.int .u8 p[k + 2].toNat] 5)).alloc (.cells #[.int .u8 p[k].toNat] 5)).drew = W1 at hx hset hv2 ⊢
                  go_wp2_with (at_builtin; refine wpList_append_own_at _ rfl (.tmp 111) (.tmp 113) 123 rfl (w.heap.size + 2) 84 i0 .nilFunc 1 8 Tryd.underlying123 hi hz0 hz1 hz2 rfl (by decide) vs vals.length vals rfl (HST.out.owned hx _) ⟨_, 0, none⟩ 1 1 [_] rfl rfl (cell_one_at _ _ _ _ (by simp)) ?_ ?_ ?_ ?_ ?_)
                  · first | rfl | (intro u hu; simp only [List.mem_singleton] at hu; subst hu; rfl)
                  · unfold maxLen; omega
                  · omega
                  · have := HST.out.size; have := hx.size; simp at *; omega
                  · intro v' w2 hown hgrow _ hat
                    obtain ⟨g', cap', rfl⟩ := slice_shape hown (by omega)
                    obtain ⟨hc2, hf2⟩ := HST.out.cellv hx hgrow
                    have HN := Lib.hid (SetRel.next (p := p) (R := R) hk1 (j := k + 3) (by omega) (by omega) hl HST.out hx hRn hset hown hgrow hat rfl)
                    clear hown hgrow hat hx hRn hset
                    go_wp2
                    go_roundw
                    case rel => exact HN.out
                    case measure => simp [intOf]; omega
            · have hgo2 : setGo false ((bytesOf p).drop (k + 1)) (acc ++ [eqS p[k].toNat]) = R := by
                rw [setGo_one _ _ _ _ HNE.out HN37.out] at hgo
                · exact hgo
                · intro y r' e
                  by_cases h1 : k + 1 < p.size
                  · rw [bytesOf_drop p (k + 1) h1] at e
                    injection e with e1 e2
                    by_cases h2 : k + 2 < p.size
                    · rw [bytesOf_drop p (k + 1 + 1) h2] at e2
                      injection e2 with e2 _
                      rw [← e2]
                      by_cases h3 : p[k + 2].toNat = 93
                      · exact h3
                      · exact absurd ⟨h2, e1, h3⟩ hr
                    · rw [bytesOf_end p (k + 1 + 1) (by omega)] at e2; cases e2
                  · rw [bytesOf_end p (k + 1) (by omega)] at e; cases e
              have hRn := hgo2
              have hset := isSet_eq wr p[k].toNat
              have hx : Below wr.heap.size wr (wr.alloc (.cells #[.int .u8 p[k].toNat] 5)) := (Below.refl _ _).alloc (Nat.le_refl _) _
              have hv2 : (wr.alloc (.cells #[.int .u8 p[k].toNat] 5)).cell? ⟨w.heap.size + 1, 0, none⟩ = some vs := by rw [hx.cell (by have := HST.out.size; simp; omega)]; exact hv1
              have hfirst : b93 = true → k ≤ k0 := fun e => by rw [e] at hb93; simp at hb93; omega
              have hways : (¬ k + 2 < p.size) ∨ (∃ h : k + 2 < p.size, ((p[k + 1].toNat : Int) == 45) = false) ∨ (∃ h : k + 2 < p.size, ((p[k + 1].toNat : Int) == 45) = true ∧ ((p[k + 2].toNat : Int) != 93) = false) := by
                by_cases h1 : k + 2 < p.size
                · by_cases h2 : p[k + 1].toNat = 45
                  · refine .inr (.inr ⟨h1, by rw [h2]; rfl, ?_⟩)
                    by_cases h3 : p[k + 2].toNat = 93
                    · rw [h3]; rfl
                    · exact absurd ⟨h1, h2, h3⟩ hr
                  · exact .inr (.inl ⟨h1, by rw [beq_eq_false_iff_ne]; omega⟩)
                · exact .inl h1
              have HGO2 := Lib.hid hgo2
              have hb : b93 = false ∨ (b93 = true ∧ k ≤ k0) := by cases b93 with | false => exact .inl rfl | true => exact .inr ⟨rfl, hfirst rfl⟩
              clear hgo2 hRn hgo hr c93 c37 hfirst
              rcases hb with rfl | ⟨rfl, hfirst⟩ <;> rcases hways with hk4 | ⟨hk4, h45⟩ | ⟨hk4, h45, h93⟩
              all_goals
                go_wp2_with (at_builtin; refine wpList_append_own_at _ rfl (.tmp 39) (.tmp 41) 123 rfl (w.heap.size + 2) 84 i0 .nilFunc 1 8 Tryd.underlying123 hi hz0 hz1 hz2 rfl (by decide) vs vals.length vals rfl (HST.out.owned hx _) ⟨_, 0, none⟩ 1 1 [_] rfl rfl (cell_one_at _ _ _ _ (by simp)) ?_ ?_ ?_ ?_ ?_)
                · first | rfl | (intro u hu; simp only [List.mem_singleton] at hu; subst hu; rfl)
                · unfold maxLen; omega
                · omega
                · have := HST.out.size; have := hx.size; simp at *; omega
                · intro v' w2 hown hgrow _ hat
                  obtain ⟨g', cap', rfl⟩ := slice_shape hown (by omega)
                  obtain ⟨hc2, hf2⟩ := HST.out.cellv hx hgrow
                  have HN := Lib.hid (SetRel.next (p := p) (R := R) hk1 (j := k + 1) (by omega) (by omega) hl HST.out hx HGO2.out hset hown hgrow (by simpa using hat) rfl)
                  clear hown hgrow hat hx hset
                  go_wp2
                  go_roundw
                  case rel => exact HN.out
                  case measure => simp [intOf]; omega
      · have hE := Lib.hid (SetEnd.no (R := R) (n := p.size) HST.out (by rw [← HRR.out, bytesOf_end p k (by omega)]; rfl))
        go_wp2
        go_ret3
        exact hE.out

/-- What (61) 'set' does: the function value, the index behind the set. -/
def SetPost (w : World) (p : ByteArray) (at_ : Nat) (e : Ending) (w' : World) : Prop :=
  Below w.heap.size w w' ∧ match setM ((bytesOf p).drop (at_ + 1)) with
    | none => e = .returned (.tuple #[.nilFunc, .int .i64 0, .bool false])
    | some (S, rest) => ∃ v, e = .returned (.tuple #[v, .int .i64 ((p.size - rest.length : Nat) : Int), .bool true]) ∧ IsSet w' w.heap.size w'.heap.size v S
theorem setPost_of {w : World} {p : ByteArray} {at_ : Nat} {e : Ending} {w' : World} {nt : Bool} {R : Option (List (Nat → Bool) × List Nat)} (h : SetEnd w p.size nt R e w')
    (hR : setM ((bytesOf p).drop (at_ + 1)) = R.map (fun q => (setRes q.1 nt, q.2))) : SetPost w p at_ e w' := by
  refine ⟨h.1, ?_⟩
  rw [hR]
  cases R with
  | none => exact h.2
  | some q => obtain ⟨Ss, rest⟩ := q; exact h.2
theorem set_c (p : ByteArray) (at_ : Nat) (hat : at_ < p.size) (hp : p.size ≤ 5000) (w : World) : Calls Tryd.prog 61 #[.string p, .int .i64 at_] w (SetPost w p at_) := by
  by_cases h1 : at_ + 1 < p.size
  · by_cases h2 : p[at_ + 1].toNat = 94
    · refine (set_loop p at_ hat hp w true (at_ + 2) (by omega) (.inl ⟨h1, ⟨h1, h2⟩, rfl, rfl⟩)).mono fun e w' h => setPost_of h ?_
      rw [bytesOf_drop p (at_ + 1) h1, h2]; rfl
    · refine (set_loop p at_ hat hp w false (at_ + 1) (by omega) (.inr (.inl ⟨h1, ⟨h1, h2⟩, rfl, rfl⟩))).mono fun e w' h => setPost_of h ?_
      rw [bytesOf_drop p (at_ + 1) h1]
      simp only [setM, if_neg h2]
  · refine (set_loop p at_ hat hp w false (at_ + 1) (by omega) (.inr (.inr ⟨by omega, rfl, rfl⟩))).mono fun e w' h => setPost_of h ?_
    rw [bytesOf_end p (at_ + 1) (by omega)]; rfl
end Go.Proofs.YtpbhncmaamedhaaDoor
