import Derived.Test.YtpbcmlnjiocmoaaGreatDoorRHpZ
set_option linter.unusedVariables false
set_option linter.unusedSimpArgs false
set_option maxRecDepth 100000
set_option maxHeartbeats 40000000
namespace Go.Proofs.YtpbcmlnjiocmoaaGreatDoorR
open Go.RowKit Go.Proofs.Lexi
set_option maxRecDepth 100000 in
set_option maxHeartbeats 2000000 in
theorem tshrink_c (w : World) (t m g : Nat) (sv : Value) (L : List Sl) (av : Value) (A : List V) (hT : TabW w t m g sv L av A) (hl : A.length ≤ 100000) : Calls Tryz.prog 81 #[.pointer (some ⟨t, 0, none⟩)] w (ShrinkPost w t m g sv L av (shrinkM A)) := by
  have htl : t < w.heap.size := (Array.getElem?_eq_some_iff.1 hT.ht).1
  have f0 : w.frozen? ⟨t, 0, none⟩ = false := frozen_of_heap hT.ht _
  obtain ⟨P, hP⟩ : ∃ P, P = shrinkM A := ⟨_, rfl⟩
  rw [← hP]
  have HP := Lib.hid (hP.symm)
  rcases hT.lw with ⟨rfl, rfl⟩ | ⟨ga, cap, cur, rfl, hcur, hcap, _⟩
  · have t0 : w.cell? ⟨t, 0, none⟩ = some (.slice none 0 0) := by rw [cell_of_heap hT.ht]; rfl
    have HT := Lib.hid (hT)
    clear hT hP
    go_enter Tryz.func81, Tryz.ntmps81
    go_wp2
    go_loopg [2] 1 (fun gg s2 wr => gg = 1 ∧ s2 = .int .i64 0 ∧ w = wr)
    case atStart => exact ⟨rfl, rfl, rfl⟩
    case round =>
      obtain ⟨rfl, rfl, rfl⟩ := hrel
      go_wp2
      refine bodyPost_ret (by simp [results, Tryz.results81, go_sem]; first | done | rfl) rfl ?_
      refine ⟨rfl, .slice none 0 0, ?_, fun b hb => hb, mods_setCell (F := (· = t)) (Mods.refl _ _) (.inl rfl) _⟩
      have hm : Mods (TbF t (.slice none 0 0)) w (w.setCell ⟨t, 0, none⟩ (.slice none 0 0)) := mods_setCell (Mods.refl _ _) (.inl (.inl rfl)) _
      have h : shrinkM [] = P := HP.out
      rw [← h]
      exact ⟨heap_setCell_same HT.out.ht 0 _, listW_nil _, fun v hv => (by cases hv), om_keepF HT.out.om HT.out.ht HT.out.lw hm⟩
  · have t0 : w.cell? ⟨t, 0, none⟩ = some (.slice (some ⟨ga, 0, none⟩) A.length cap) := by rw [cell_of_heap hT.ht]; rfl
    have HT := Lib.hid (hT)
    clear hT hP hcur
    go_enter Tryz.func81, Tryz.ntmps81
    go_wp2
    go_loopg [2] A.length (fun gg s2 wr => ∃ n : Nat, n = gg ∧ s2 = .int .i64 (n : Int) ∧ w = wr ∧ n ≤ A.length ∧ Hid (shrinkM (A.take n) = P))
    case atStart => exact ⟨A.length, rfl, rfl, rfl, Nat.le_refl _, Lib.hid (by rw [List.take_length]; exact HP.out)⟩
    case round =>
      obtain ⟨n, rfl, rfl, rfl, hn, HI⟩ := hrel
      by_cases hz : n = 0
      · subst hz
        go_wp2
        refine bodyPost_ret (by simp [results, Tryz.results81, go_sem]; first | done | rfl) rfl ?_
        have h := HI.out
        rw [List.take_zero] at h
        refine ⟨rfl, .slice (some ⟨ga, 0, none⟩) 0 0, ?_, fun b hb => hb, mods_setCell (F := (· = t)) (Mods.refl _ _) (.inl rfl) _⟩
        have hc := tabW_cut HT.out 0 (Nat.zero_le _)
        rw [List.take_zero] at hc
        rw [← h]
        exact hc
      · obtain ⟨i, rfl⟩ : ∃ i, n = i + 1 := ⟨n - 1, by omega⟩
        obtain ⟨v, hv⟩ : ∃ v, A[i]? = some v := ⟨_, List.getElem?_eq_getElem (by omega)⟩
        obtain ⟨c0, c1, c2, c3, c4⟩ := listW_five HT.out.lw hv
        have hi1 : (i : Int) < (A.length : Int) := by omega
        by_cases hk : v.k = 0
        · have ek : (v.k == 0) = true := beq_iff_eq.2 hk
          have HN := Lib.hid (shrink_nil (A := A.take i) hk)
          have HV := Lib.hid (hv)
          clear hv hk
          go_wp2
          go_roundg i
          case measure => omega
          case rel => exact ⟨i, rfl, by push_cast; first | rfl | omega, rfl, by omega, Lib.hid (by have h := HI.out; rw [take_last HV.out, HN.out] at h; exact h)⟩
        · have ek : (v.k == 0) = false := beq_eq_false_iff_ne.2 hk
          have HN := Lib.hid (shrink_stop (A := A.take i) hk)
          have HV := Lib.hid (hv)
          clear hv hk
          go_wp2
          refine bodyPost_ret (by simp [results, Tryz.results81, go_sem]; first | done | rfl) rfl ?_
          have h := HI.out
          rw [take_last HV.out, HN.out] at h
          refine ⟨rfl, .slice (some ⟨ga, 0, none⟩) (i + 1) (i + 1), ?_, fun b hb => hb, mods_setCell (F := (· = t)) (Mods.refl _ _) (.inl rfl) _⟩
          have hc := tabW_cut HT.out (i + 1) hn
          rw [take_last HV.out, h] at hc
          exact hc
set_option maxRecDepth 100000 in
set_option maxHeartbeats 2000000 in
theorem pomNext_miss (w : World) (m g : Nat) (sv : Value) (L : List Sl) (hO : OMap w m g sv L) (k p q : Int) (s : ByteArray) (r : Int) (hk : WfV ⟨k, p, q, s, r⟩) (hne : eqV ⟨k, p, q, s, r⟩ V.nil = false) (ha : ∀ x ∈ L, x.k ≠ ⟨k, p, q, s, r⟩) :
    Calls Tryz.prog 99 #[.pointer (some ⟨m, 0, none⟩), .agg #[.int .i64 k, .int .i64 p, .int .i64 q, .string s, .int .i64 r]] w (NextPost w V.nil V.nil false 13) := by
  have hlt : m < w.heap.size := (Array.getElem?_eq_some_iff.1 hO.hm).1
  have hgl : g < w.heap.size := by obtain ⟨E, f, hE, _⟩ := hO.map; exact hE.lt
  have HM := Lib.hid (hkeep (below3w w (oV k p q s r) (oV 0 0 0 ⟨#[]⟩ 0) (oV 0 0 0 ⟨#[]⟩ 0)) hO.hm)
  have m1 : (((w.alloc (oV k p q s r)).alloc (oV 0 0 0 ⟨#[]⟩ 0)).alloc (oV 0 0 0 ⟨#[]⟩ 0)).cell? ⟨m, 1, none⟩ = some (.map (some g)) := by rw [cell_of_heap HM.out]; rfl
  have NE : ∀ W, (binOp .neq 30 (.agg #[.int .i64 k, .int .i64 p, .int .i64 q, .string s, .int .i64 r]) (.agg #[.int .i64 0, .int .i64 0, .int .i64 0, .string ⟨#[]⟩, .int .i64 0])).run Tryz.prog W = .ok (.bool true) W := fun W => by
    have h := neq_run W k p q s r 0 0 0 ⟨#[]⟩ 0
    rw [show eqV ⟨k, p, q, s, r⟩ ⟨0, 0, 0, ⟨#[]⟩, 0⟩ = false from hne] at h
    exact h
  have HLK := Lib.hid (fun (W : World) (h : W.heap[g]? = w.heap[g]?) => (show (Instr.lookup 142 (.map (some g)) (.agg #[.int .i64 k, .int .i64 p, .int .i64 q, .string s, .int .i64 r]) true).run Tryz.prog W = .ok (.tuple #[.int .i64 0, .bool false]) W from om_absent hO hk ha W h))
  have key : ∀ W : World, W.heap = (((w.alloc (oV k p q s r)).alloc (oV 0 0 0 ⟨#[]⟩ 0)).alloc (oV 0 0 0 ⟨#[]⟩ 0)).heap → W.heap[g]? = w.heap[g]? := fun W h => by rw [h]; exact (below3w w _ _ _).block g hgl
  have KEY := Lib.hid (key)
  clear hO hk ha hne key
  go_enter Tryz.func99, Tryz.ntmps99
  go_wp2
  refine wp_region_lex mixed (by kernel_rfl) ?_
  go_wp2_with (at_lookup; refine wpList_look_map _ rfl _ _ _ _ rfl _ _ _ rfl rfl (HLK.out _ (KEY.out _ rfl)) ?_)
  refine ⟨by kernel_rfl, ?_⟩
  go_wp2
  refine bodyPost_ret (by simp [results, Tryz.results99, go_sem]; first | done | rfl) rfl ?_
  exact ⟨rfl, by first | exact (below3w _ _ _ _).drew | exact below3w _ _ _ _⟩
theorem wpList_append_one {w : World} {ops : Array Oper} {rest : List Oper} {o : Oper} {a : Act} {Q : Exit → Act → World → Prop} (hgd : o.guard = none) (s y : Operand)
    (ho : o.op = .call { callee := .builtin .append, args := #[s, y], argTypes := #[26, 26] }) (v : Value) (A : List V) (hs : a.eval s = v) (hv : ListW w v A) (hl : A.length ≤ 1000000)
    (ad : Addr) (c : Nat) (x : V) (hy : a.eval y = .slice (some ad) 1 c) (hx : ∀ j u, (vCells x)[j]? = some u → w.cell? (ad.add j) = some u)
    (h : ∀ v' w', ListW w' v' (A ++ [x]) → w.grownBy w' v.ownBlock → (v'.ownBlock = v.ownBlock ∨ v'.ownBlock = some w.heap.size) → wpList Tryz.prog ops Q rest (a.put o.dst v') w') :
    wpList Tryz.prog ops Q (o :: rest) a w := by
  refine wpList_plain hgd fun K hK => ?_
  obtain ⟨v', w', hr, h2, h3, h4⟩ := append_one hv hl ad c x hx o.type
  unfold Oper.wp
  simp [execOp, ho, resolve, invoke, builtin, hs, hy, hr, Result.andThen]
  exact hK _ _ (h v' w' h2 h3 h4)
set_option maxRecDepth 100000 in
set_option maxHeartbeats 40000000 in
theorem tadd_c (w : World) (t m g : Nat) (sv : Value) (L : List Sl) (av : Value) (A : List V) (hT : TabW w t m g sv L av A) (hl : A.length ≤ 100000) (hL : L.length ≤ 1000) (k p q : Int) (s : ByteArray) (r : Int) (hv : validV ⟨k, p, q, s, r⟩ = true) (hw : WfV ⟨k, p, q, s, r⟩) (hk : k ≠ 0)
    (ha1 : ∀ x ∈ L, x.k ≠ ⟨2, (A.length : Int) + 1, 1, ⟨#[]⟩, 0⟩) (ha2 : getM L ⟨2, (A.length : Int) + 1 + 1, 1, ⟨#[]⟩, 0⟩ = V.nil) :
    Calls Tryz.prog 82 #[.pointer (some ⟨t, 0, none⟩), .agg #[.int .i64 k, .int .i64 p, .int .i64 q, .string s, .int .i64 r]] w (TAddPost w t m g sv L av (A ++ [⟨k, p, q, s, r⟩])) := by
  obtain ⟨so, cap, rfl, hcap⟩ := listW_shape hT.lw
  have htl : t < w.heap.size := (Array.getElem?_eq_some_iff.1 hT.ht).1
  have ek : (k == 0) = false := beq_eq_false_iff_ne.2 hk
  have ek2 : (k != 0) = true := bne_iff_ne.2 hk
  have HT := Lib.hid (hT)
  have HX := Lib.hid ((⟨hw, hv⟩ : WfV ⟨k, p, q, s, r⟩ ∧ validV ⟨k, p, q, s, r⟩ = true))
  have HA1 := Lib.hid (ha1)
  have HA2 := Lib.hid (ha2)
  have HCAP := Lib.hid (hcap)
  clear hT hv hw hk ha1 ha2 hcap
  go_enter Tryz.func82, Tryz.ntmps82
  go_wp2
  go_loopg [4] 1 (fun gg s4 wr => s4 = .bool false ∧ Hid (AddR w t m g sv L (.slice so A.length cap) A ⟨k, p, q, s, r⟩ gg wr))
  case atStart => exact ⟨rfl, Lib.hid (.inl ⟨rfl, heap1 _ _, below1 _ _⟩)⟩
  case round =>
    obtain ⟨rfl, HR⟩ := hrel
    rcases HR.out with ⟨rfl, hbox, hbw⟩ | ⟨rfl, hbox, av', hT', hsub, hmd⟩
    · have Hv0 := Lib.hid (hbox)
      have HW0 := Lib.hid (hbw)
      clear hbox hbw HR
      have HT0 := Lib.hid (tabW_below HT.out HW0.out)
      have hz0 := HW0.out.size
      have hyt : t < wr.heap.size := by omega
      have hyv : w.heap.size < wr.heap.size := (Array.getElem?_eq_some_iff.1 Hv0.out).1
      have t0 : wr.cell? ⟨t, 0, none⟩ = some (.slice so A.length cap) := by rw [cell_of_heap HT0.out.ht]; rfl
      have ft0 : wr.frozen? ⟨t, 0, none⟩ = false := frozen_of_heap HT0.out.ht _
      obtain ⟨v0, v1, v2, v3, v4⟩ := cells5 Hv0.out
      obtain ⟨fv0, fv1, fv2, fv3, fv4⟩ := froz5 Hv0.out
      go_wp2
      refine wp_region_lex mixed (by kernel_rfl) ?_
      go_wp2_with (at_builtin; refine wpList_append_one rfl (.tmp 21) (.tmp 23) rfl (.slice so A.length cap) A rfl (listW_below HT0.out.lw ((Below.refl _ _).drew.alloc (Nat.le_refl _) _)) (by omega) _ 1 ⟨k, p, q, s, r⟩ rfl (cell_one _ ⟨k, p, q, s, r⟩) ?_)
      intro v' w' h2 h3 h4
      have hlen : (A ++ [(⟨k, p, q, s, r⟩ : V)]).length = A.length + 1 := by simp
      obtain ⟨so2, cap2, e2, hcap2⟩ := listW_shape h2
      rw [hlen] at e2
      subst e2
      clear hlen
      have hgrow := tabW_grow (tabW_below HT0.out ((Below.refl _ _).drew.alloc (Nat.le_refl _) _)) HX.out h2 h3
      have hsz3 := h3.size
      simp at hsz3
      have HG := Lib.hid (hgrow)
      have hbz : w'.heap[w.heap.size]? = some (oV k p q s r) := (h3.block w.heap.size (by simp; omega) (fun e => by have := listW_lt HT.out.lw e.symm; omega)).trans (heap1_old (w := wr.drew) Hv0.out _)
      have HBZ := Lib.hid (hbz)
      have HSUB := Lib.hid (sub_of h4 (show w.heap.size ≤ _ by omega))
      have HNE := Lib.hid (own_ne (b := w.heap.size) h4 (fun g hg => listW_lt HT.out.lw hg) (by omega))
      clear h2 h3 h4 hgrow hbz v0 v1 v2 v3 v4 fv0 fv1 fv2 fv3 fv4 t0 ft0 hyt hyv
      have t0 : w'.cell? ⟨t, 0, none⟩ = some (.slice so A.length cap) := by rw [cell_of_heap HG.out.2.2]; rfl
      have ft0 : w'.frozen? ⟨t, 0, none⟩ = false := frozen_of_heap HG.out.2.2 _
      have hyt : t < w'.heap.size := by omega
      go_wp2
      refine ⟨by kernel_rfl, ?_⟩
      obtain ⟨W3, hW3⟩ : ∃ W3, W3 = w'.setCell ⟨t, 0, none⟩ (.slice so2 (A.length + 1) cap2) := ⟨_, rfl⟩
      have HT3 := Lib.hid ((show TabW W3 t m g sv L (.slice so2 (A.length + 1) cap2) (A ++ [(⟨k, p, q, s, r⟩ : V)]) by rw [hW3]; exact HG.out.1))
      have HM3 := Lib.hid ((show Mods (TbF t (.slice so A.length cap)) w W3 by rw [hW3]; exact Mods.trans (Mods.of_below (HW0.out.drew.alloc HW0.out.size _)) HG.out.2.1))
      have HV3 := Lib.hid ((show W3.heap[w.heap.size]? = some (oV k p q s r) by rw [hW3, Below.heap_setCell _ _ _ _ (show w.heap.size ≠ t by omega)]; exact HBZ.out))
      have hz3 : wr.heap.size ≤ W3.heap.size := by rw [hW3]; simp; omega
      rw [show w'.setCell ⟨t, 0, none⟩ (.slice so2 (A.length + 1) cap2) = W3 from hW3.symm]
      clear hW3 t0 ft0 hyt
      have HN1 := Lib.hid (fun W (hb : Below W3.heap.size W3 W) => pomNext_miss W m g sv L (om_keep_below HT3.out.om hb) 2 ((A.length : Int) + 1) 1 ⟨#[]⟩ 0 (wf_num (by omega) (by omega)) (eqv_num _) HA1.out)
      have HOI := Lib.hid (fun W => pOfInt_top W ((A.length : Int) + 1) (by omega) (by omega))
      go_upto_region 4 with fail
      go_cut [4, 8] (fun s4 s8 wx => s4 = .bool false ∧ s8 = .int .i64 13 ∧ Hid (Below W3.heap.size W3 wx))
      case first =>
        have SO := Lib.hid (fun (W : World) (hb : Below W3.heap.size W3 W) => (show W.cell? ⟨t, 0, none⟩ = some (.slice so2 (A.length + 1) cap2) ∧ W.cell? ⟨t, 1, none⟩ = some (.pointer (some ⟨m, 0, none⟩)) ∧ Hid (Below W3.heap.size W3 W) from ⟨(cells2 (hkeep hb HT3.out.ht)).1, (cells2 (hkeep hb HT3.out.ht)).2, Lib.hid hb⟩))
        have BA := Lib.hid (fun (W : World) (o : Obj) (hb : Below W3.heap.size W3 W) => (show Below W3.heap.size W3 (W.alloc o) from hb.alloc hb.size o))
        have BD := Lib.hid (fun (W : World) (hb : Below W3.heap.size W3 W) => (show Below W3.heap.size W3 W.drew from hb.drew))
        have B5 := Lib.hid (fun (W : World) (b : Nat) (c0 c1 c2 c3 c4 : Value) (hb : Below W3.heap.size W3 W) (hbb : W3.heap.size ≤ b) => below_five hb hbb c0 c1 c2 c3 c4)
        have hbR : Below W3.heap.size W3 W3 := Below.refl _ _
        have hbD : Below W3.heap.size W3 W3.drew := (Below.refl _ _).drew
        go_region_held3 (fun w' => w'.cell? ⟨t, 0, none⟩ = some (.slice so2 (A.length + 1) cap2) ∧ w'.cell? ⟨t, 1, none⟩ = some (.pointer (some ⟨m, 0, none⟩)) ∧ Hid (Below W3.heap.size W3 w'))
          (with_reducible refine SO.out _ ?_; repeat (first | with_reducible assumption | (with_reducible refine BA.out _ _ ?_) | (with_reducible refine BD.out _ ?_) | (with_reducible refine B5.out _ _ _ _ _ _ _ ?_ ?_) | omega))
          (first | (go_at_call 54; (with_reducible refine (HOI.out _).mono ?_); rintro e nw1 ⟨rfl, hb⟩; have hb1 := below_next (prj2a (by assumption)) hb; have hz1 := hb1.size; (first | (with_reducible have Hza := Lib.hid (hkeep hb (heap_newD W3 oZ))) | (with_reducible have Hza := Lib.hid (hkeep hb (heap_new W3 oZ))) | (with_reducible have Hza := Lib.hid (hkeep hb (heap2_aD W3 oZ oZ))) | (with_reducible have Hza := Lib.hid (hkeep hb (heap2_a W3 oZ oZ))) | skip); (first | (with_reducible have Hzb := Lib.hid (hkeep hb (heap2_bD W3 oZ oZ))) | (with_reducible have Hzb := Lib.hid (hkeep hb (heap2_b W3 oZ oZ))) | skip); (try have hza1 := (Array.getElem?_eq_some_iff.1 Hza.out).1); (try have hzb1 := (Array.getElem?_eq_some_iff.1 Hzb.out).1); clear hb) | (go_at_call 99; (with_reducible refine (HN1.out _ (prj2a (by assumption))).mono ?_); rintro e nw2 ⟨rfl, hb⟩; have hb2 := below_next (prj2a (by assumption)) hb; have hz2 := hb2.size; (first | ((with_reducible have Hqp := Lib.hid (hkeep hb (Hza.out))); (obtain ⟨plt, pa0, pa1, pa2, pa3, pa4, pf0, pf1, pf2, pf3, pf4⟩ := box5 Hqp.out)) | ((with_reducible have Hqp := Lib.hid (hkeep hb (heap1_old Hza.out _))); (obtain ⟨plt, pa0, pa1, pa2, pa3, pa4, pf0, pf1, pf2, pf3, pf4⟩ := box5 Hqp.out)) | ((with_reducible have Hqp := Lib.hid (hkeep hb (heap1_old (heap1_old Hza.out _) _))); (obtain ⟨plt, pa0, pa1, pa2, pa3, pa4, pf0, pf1, pf2, pf3, pf4⟩ := box5 Hqp.out)) | skip); (first | ((with_reducible have Hqq := Lib.hid (hkeep hb (Hzb.out))); (obtain ⟨qlt, qa0, qa1, qa2, qa3, qa4, qf0, qf1, qf2, qf3, qf4⟩ := box5 Hqq.out)) | ((with_reducible have Hqq := Lib.hid (hkeep hb (heap1_old Hzb.out _))); (obtain ⟨qlt, qa0, qa1, qa2, qa3, qa4, qf0, qf1, qf2, qf3, qf4⟩ := box5 Hqq.out)) | ((with_reducible have Hqq := Lib.hid (hkeep hb (heap1_old (heap1_old Hzb.out _) _))); (obtain ⟨qlt, qa0, qa1, qa2, qa3, qa4, qf0, qf1, qf2, qf3, qf4⟩ := box5 Hqq.out)) | skip); (first | ((with_reducible have Hqu := Lib.hid (hkeep hb (heap_new nw1 oZ))); (obtain ⟨ult, ua0, ua1, ua2, ua3, ua4, uf0, uf1, uf2, uf3, uf4⟩ := box5 Hqu.out)) | ((with_reducible have Hqu := Lib.hid (hkeep hb (heap2_a nw1 oZ oZ))); (obtain ⟨ult, ua0, ua1, ua2, ua3, ua4, uf0, uf1, uf2, uf3, uf4⟩ := box5 Hqu.out)) | skip); (first | ((with_reducible have Hqv := Lib.hid (hkeep hb (heap2_b nw1 oZ oZ))); (obtain ⟨vlt, va0, va1, va2, va3, va4, vf0, vf1, vf2, vf3, vf4⟩ := box5 Hqv.out)) | skip); clear hb))
        all_goals
          go_wp2_with fail
          go_meet
          exact ⟨rfl, rfl, Lib.hid (prj2a (by assumption))⟩
      case rest =>
        obtain ⟨rfl, rfl, hbx⟩ := hcut
        have HT4 := Lib.hid (tabW_below HT3.out hbx.out)
        have HV4 := Lib.hid (hkeep hbx.out HV3.out)
        have HM4 := Lib.hid (Mods.trans HM3.out (Mods.of_below hbx.out))
        have hz4 := hbx.out.size
        clear hbx
        have HG4 := Lib.hid (fun W (hb : OMap W m g sv L) => (show Calls Tryz.prog 78 #[.pointer (some ⟨m, 0, none⟩), .agg #[.int .i64 2, .int .i64 ((A.length : Int) + 1 + 1), .int .i64 1, .string ⟨#[]⟩, .int .i64 0]] W (fun e w' => e = .returned (.agg #[.int .i64 0, .int .i64 0, .int .i64 0, .string ⟨#[]⟩, .int .i64 0]) ∧ Below W.heap.size W w') from by have h := pomGet_c W m g sv L hb hL 2 ((A.length : Int) + 1 + 1) 1 ⟨#[]⟩ 0 (wf_num (by omega) (by omega)); rw [HA2.out] at h; exact h))
        have HOJ := Lib.hid (fun W => (show Calls Tryz.prog 54 #[.int .i64 (IntKind.i64.wrap ((A.length : Int) + 1 + 1))] W (fun e w' => e = .returned (.agg #[.int .i64 2, .int .i64 ((A.length : Int) + 1 + 1), .int .i64 1, .string ⟨#[]⟩, .int .i64 0]) ∧ Below W.heap.size W w') from by rw [w64_in (by omega) (by omega)]; exact pOfInt_top W ((A.length : Int) + 1 + 1) (by omega) (by omega)))
        have SO := Lib.hid (fun (W : World) (hb : Mods (fun b => b = w.heap.size) wc W) => (show W.cell? ⟨t, 0, none⟩ = some (.slice so2 (A.length + 1) cap2) ∧ W.cell? ⟨t, 1, none⟩ = some (.pointer (some ⟨m, 0, none⟩)) ∧ Hid (Mods (fun b => b = w.heap.size) wc W) from ⟨(cells2 (mkeep hb HT4.out.ht (by omega))).1, (cells2 (mkeep hb HT4.out.ht (by omega))).2, Lib.hid hb⟩))
        have SO5 := Lib.hid (fun (W : World) (c0 c1 c2 c3 c4 : Value) (hb : Mods (fun b => b = w.heap.size) wc W) => SO.out _ (mods_setCell (mods_setCell (mods_setCell (mods_setCell (mods_setCell hb (.inl rfl) c0 (o := 0)) (.inl rfl) c1 (o := 1)) (.inl rfl) c2 (o := 2)) (.inl rfl) c3 (o := 3)) (.inl rfl) c4 (o := 4)))
        have TO := Lib.hid (fun (W : World) (hb : Mods (fun b => b = w.heap.size) wc W) => (tabW_mods HT4.out HV4.out HNE.out hb).om)
        have hbR : Mods (fun b => b = w.heap.size) wc wc := Mods.refl _ _
        have hbD : Mods (fun b => b = w.heap.size) wc wc.drew := Mods.of_below (Below.refl _ _).drew
        go_wp2
        go_region_held3 (fun w' => w'.cell? ⟨t, 0, none⟩ = some (.slice so2 (A.length + 1) cap2) ∧ w'.cell? ⟨t, 1, none⟩ = some (.pointer (some ⟨m, 0, none⟩)) ∧ Hid (Mods (fun b => b = w.heap.size) wc w'))
          (first | with_reducible exact SO.out _ (by assumption) | with_reducible exact SO5.out _ _ _ _ _ _ (by assumption))
          (first | (go_at_call 54; (with_reducible refine (HOJ.out _).mono ?_); rintro e nw3 ⟨rfl, hb⟩; have hb3 := mods_next (prj2a (by assumption)) hb; have HV5 := Lib.hid (hkeep hb HV4.out); clear hb) | (go_at_call 78; (with_reducible refine (HG4.out _ (TO.out _ (prj2a (by assumption)))).mono ?_); rintro e nw4 ⟨rfl, hb⟩; have hb4 := mods_next (prj2a (by assumption)) hb; have HV6 := Lib.hid (hkeep hb HV5.out); (obtain ⟨v0, v1, v2, v3, v4⟩ := cells5 HV6.out); (obtain ⟨fv0, fv1, fv2, fv3, fv4⟩ := froz5 HV6.out); clear hb))
        go_wp2
        go_roundg 0
        case measure => omega
        case rel =>
          refine ⟨rfl, Lib.hid (.inr ⟨rfl, heap_five_at HV6.out _ _ _ _ _, _, tabW_mods HT4.out HV4.out HNE.out (mods_setCell (mods_setCell (mods_setCell (mods_setCell (mods_setCell hb4 (.inl rfl) _) (.inl rfl) _) (.inl rfl) _) (.inl rfl) _) (.inl rfl) _), HSUB.out, ?_⟩)⟩
          exact mods_new HM4.out (Nat.le_refl _) (mods_setCell (mods_setCell (mods_setCell (mods_setCell (mods_setCell hb4 (.inl rfl) _) (.inl rfl) _) (.inl rfl) _) (.inl rfl) _) (.inl rfl) _)
    · have Hv0 := Lib.hid (hbox)
      have HT0 := Lib.hid (hT')
      have HS0 := Lib.hid (hsub)
      have HM0 := Lib.hid (hmd)
      clear hbox hT' hsub hmd HR
      have hyv : w.heap.size < wr.heap.size := (Array.getElem?_eq_some_iff.1 Hv0.out).1
      obtain ⟨v0, v1, v2, v3, v4⟩ := cells5 Hv0.out
      obtain ⟨fv0, fv1, fv2, fv3, fv4⟩ := froz5 Hv0.out
      go_wp2
      refine bodyPost_ret (by simp [results, Tryz.results82, go_sem]; first | done | rfl) rfl ?_
      exact ⟨rfl, av', HT0.out, HS0.out, HM0.out⟩
set_option maxRecDepth 100000 in
set_option maxHeartbeats 2000000 in
theorem twSet_push (w : World) (t m g : Nat) (sv : Value) (L : List Sl) (av : Value) (A : List V) (hT : TabW w t m g sv L av A) (hl : A.length ≤ 100000) (hL : L.length ≤ 1000) (x : Int) (hx : x = (A.length : Int) + 1) (s : ByteArray) (r : Int) (hk : validV ⟨2, x, 1, s, r⟩ = true)
    (k2 p2 q2 : Int) (s2 : ByteArray) (r2 : Int) (hv : validV ⟨k2, p2, q2, s2, r2⟩ = true) (hw : WfV ⟨k2, p2, q2, s2, r2⟩) (hn : k2 ≠ 0)
    (ha1 : ∀ x ∈ L, x.k ≠ ⟨2, (A.length : Int) + 1, 1, ⟨#[]⟩, 0⟩) (ha2 : getM L ⟨2, (A.length : Int) + 1 + 1, 1, ⟨#[]⟩, 0⟩ = V.nil) :
    Calls Tryz.prog 46 #[.pointer (some ⟨t, 0, none⟩), .agg #[.int .i64 2, .int .i64 x, .int .i64 1, .string s, .int .i64 r], .agg #[.int .i64 k2, .int .i64 p2, .int .i64 q2, .string s2, .int .i64 r2]] w (TSetPost w t m g sv L av (A ++ [⟨k2, p2, q2, s2, r2⟩])) := by
  subst hx
  obtain ⟨so, cap, rfl, hcap⟩ := listW_shape hT.lw
  have HV1 := Lib.hid (fun W => (show Calls Tryz.prog 43 #[.agg #[.int .i64 2, .int .i64 ((A.length : Int) + 1), .int .i64 1, .string s, .int .i64 r]] W (BoolPost W true) from by have h := pvalidV_c W 2 ((A.length : Int) + 1) 1 s r; rw [hk] at h; exact h))
  have HV2 := Lib.hid (fun W => (show Calls Tryz.prog 43 #[.agg #[.int .i64 k2, .int .i64 p2, .int .i64 q2, .string s2, .int .i64 r2]] W (BoolPost W true) from by have h := pvalidV_c W k2 p2 q2 s2 r2; rw [hv] at h; exact h))
  have HI := Lib.hid (fun W => (show Calls Tryz.prog 77 #[.agg #[.int .i64 2, .int .i64 ((A.length : Int) + 1), .int .i64 1, .string s, .int .i64 r]] W (IntBool W ((A.length : Int) + 1) true) from by have h := tint_c W 2 ((A.length : Int) + 1) 1 s r; rw [show intB ⟨2, (A.length : Int) + 1, 1, s, r⟩ = true from by unfold intB; rw [hk]; rfl] at h; exact h))
  have HADD := Lib.hid (fun W (hb : Below w.heap.size w W) => tadd_c W t m g sv L _ A (tabW_below hT hb) hl hL k2 p2 q2 s2 r2 hv hw hn ha1 ha2)
  have HT := Lib.hid (hT)
  have htl : t < w.heap.size := (Array.getElem?_eq_some_iff.1 hT.ht).1
  have d1 : decide (((A.length : Int) + 1) ≥ 1) = true := decide_eq_true (by omega)
  have d2 : decide (((A.length : Int) + 1) ≤ (A.length : Int)) = false := decide_eq_false (by omega)
  have d3 : ¬ ((A.length : Int) + 1) ≤ (A.length : Int) := by omega
  have d4 : (k2 != 0) = true := bne_iff_ne.2 hn
  have d5 : (A.length : Int) ≤ 100000 := by omega
  clear hT hk hv hw hn ha1 ha2
  go_enter Tryz.func46, Tryz.ntmps46
  go_wp2_with fail
  refine (HV1.out _).mono ?_
  rintro e w1 ⟨rfl, hb⟩
  have Ha1 := Lib.hid (hkeep hb (heap2_a w (oV 2 ((A.length : Int) + 1) 1 s r) (oV k2 p2 q2 s2 r2)))
  have Hb1 := Lib.hid (hkeep hb (heap2_b w (oV 2 ((A.length : Int) + 1) 1 s r) (oV k2 p2 q2 s2 r2)))
  have HW1 := Lib.hid (below_next (below2w _ _ _) hb)
  clear hb
  obtain ⟨b0, b1, b2, b3, b4⟩ := cells5 Hb1.out
  obtain ⟨fb0, fb1, fb2, fb3, fb4⟩ := froz5 Hb1.out
  go_wp2_with fail
  refine (HV2.out _).mono ?_
  rintro e w2 ⟨rfl, hb⟩
  have Ha2 := Lib.hid (hkeep hb Ha1.out)
  have Hb2 := Lib.hid (hkeep hb Hb1.out)
  have HW2 := Lib.hid (below_next HW1.out hb)
  clear hb b0 b1 b2 b3 b4 fb0 fb1 fb2 fb3 fb4
  obtain ⟨a0, a1, a2, a3, a4⟩ := cells5 Ha2.out
  obtain ⟨fa0, fa1, fa2, fa3, fa4⟩ := froz5 Ha2.out
  go_wp2_with fail
  refine (HI.out _).mono ?_
  rintro e w3 ⟨rfl, hb⟩
  have Hb3 := Lib.hid (hkeep hb Hb2.out)
  have HW3 := Lib.hid (below_next HW2.out hb)
  clear hb a0 a1 a2 a3 a4 fa0 fa1 fa2 fa3 fa4
  have t0 : w3.cell? ⟨t, 0, none⟩ = some (.slice so A.length cap) := by rw [cell_of_heap (hkeep HW3.out HT.out.ht)]; rfl
  have hz3 := HW3.out.size
  have hyb : w.heap.size + 1 < w3.heap.size := (Array.getElem?_eq_some_iff.1 Hb3.out).1
  have hyt : t < w3.heap.size := by omega
  obtain ⟨b0, b1, b2, b3, b4⟩ := cells5 Hb3.out
  obtain ⟨fb0, fb1, fb2, fb3, fb4⟩ := froz5 Hb3.out
  go_wp2_with fail
  refine (HADD.out _ HW3.out).mono ?_
  rintro e w4 ⟨rfl, av', hT', hsub, hmd⟩
  have HT4 := Lib.hid (hT')
  have HS4 := Lib.hid (hsub)
  have HM4 := Lib.hid (Mods.trans (Mods.of_below HW3.out) hmd)
  clear hT' hsub hmd t0 b0 b1 b2 b3 b4 fb0 fb1 fb2 fb3 fb4
  go_wp2
  go_ret
  exact ⟨rfl, av', HT4.out, fun b hb => (HS4.out b hb).imp id (fun h => by omega), HM4.out⟩
theorem get_in {base n : Nat} {w : World} {h : Nat} {M : LH} {AA : List (List V)} {O : Nat → Prop} (hP : PHp base n w h M AA O) (hn : n ≤ 1000) {ti : Nat} (hti : ti ≤ 100000) {o : LO} {A : List V} (hM : M[ti]? = some o) (hA : AA[ti]? = some A) (h4 : o.kind = 4) {x : Nat} (hx : x < A.length) (hl : A.length ≤ 100000) {vk vp vq : Int} {vs : ByteArray} {vr : Int} (hv : A[x]? = some ⟨vk, vp, vq, vs, vr⟩) :
    Calls Tryz.prog 21 #[.pointer (some ⟨h, 0, none⟩), .agg #[.int .i64 4, .int .i64 0, .int .i64 0, .string ⟨#[]⟩, .int .i64 ((ti : Int) + 1)], .agg #[.int .i64 2, .int .i64 ((x : Int) + 1), .int .i64 1, .string ⟨#[]⟩, .int .i64 0]] w (fun e w' => e = .returned (.tuple #[.agg #[.int .i64 vk, .int .i64 vp, .int .i64 vq, .string vs, .int .i64 vr], .int .i64 0]) ∧ Below w.heap.size w w') := by
  have := pGetT_c hP hn hM hA h4 4 0 0 ⟨#[]⟩ ((ti : Int) + 1) rfl rfl ⟨by omega, by omega⟩ 2 ((x : Int) + 1) 1 ⟨#[]⟩ 0 (valid_num (by omega) (by omega)) (wf_num (by omega) (by omega))
  rw [tget_in hx hl hv] at this
  exact this
/-- Set behind the list, where the map has no numbers. -/
theorem set_push_c {base n : Nat} {w : World} {h : Nat} {M : LH} {AA : List (List V)} {O : Nat → Prop} (hP : PHp base n w h M AA O) (hb : base ≤ w.heap.size) (hn : n ≤ 999) {ti : Nat} (hti : ti ≤ 100000) {o : LO} {A : List V} (hM : M[ti]? = some o) (hA : AA[ti]? = some A) (h4 : o.kind = 4) (hcl : ∀ y ∈ o.L, y.k.k ≠ 2) (vk vp vq : Int) (vs : ByteArray) (vr : Int) (h0 : vk ≠ 0) (hv : validV ⟨vk, vp, vq, vs, vr⟩ = true) (hw : WfV ⟨vk, vp, vq, vs, vr⟩) :
    Calls Tryz.prog 23 #[.pointer (some ⟨h, 0, none⟩), .agg #[.int .i64 4, .int .i64 0, .int .i64 0, .string ⟨#[]⟩, .int .i64 ((ti : Int) + 1)], .agg #[.int .i64 2, .int .i64 ((A.length : Int) + 1), .int .i64 1, .string ⟨#[]⟩, .int .i64 0], .agg #[.int .i64 vk, .int .i64 vp, .int .i64 vq, .string vs, .int .i64 vr]] w (fun e w' => e = .returned (.int .i64 0) ∧ ∃ O', PHp base (n + 1) w' h M (AA.set ti (A ++ [⟨vk, vp, vq, vs, vr⟩])) O' ∧ QS base O w O' w') := by
  obtain ⟨bo, bt, H, y, _, _, _, _, _, _, _, _, _, _, _, _, hLn, hAn⟩ := php_at hP hM hA h4 (k1 := 4) (p1 := 0) (q1 := 0) (s1 := ⟨#[]⟩) rfl rfl
  refine (pSetT_c hP hb (Nat.le_succ n) hM hA h4 4 0 0 ⟨#[]⟩ ((ti : Int) + 1) rfl rfl ⟨by omega, by omega⟩ 2 ((A.length : Int) + 1) 1 ⟨#[]⟩ 0 (valid_num (by omega) (by omega)) (by decide) vk vp vq vs vr hv o.L (A ++ [⟨vk, vp, vq, vs, vr⟩]) (by omega) (by rw [List.length_append, List.length_singleton]; omega) (fun W t m g sv av hT => ?_)).mono ?_
  · refine (twSet_push W t m g sv o.L av A hT (by omega) (by omega) ((A.length : Int) + 1) rfl ⟨#[]⟩ 0 (valid_num (by omega) (by omega)) vk vp vq vs vr hv hw h0 (fun y hy e => hcl y hy (by rw [e])) ?_).mono (fun _ _ h => h.tw)
    exact get_absent (fun y hy e => hcl y hy (by rw [e]))
  · rintro e w' ⟨he, O', h1, h2⟩
    rw [set_same (show M[ti]? = some ⟨4, o.mt, o.L⟩ by rw [hM, ← h4])] at h1
    exact ⟨he, O', h1, h2⟩
set_option maxRecDepth 100000 in
set_option maxHeartbeats 2000000 in
theorem twInsert_in (w : World) (t m g : Nat) (sv : Value) (L : List Sl) (av : Value) (A : List V) (hT : TabW w t m g sv L av A) (hl : A.length ≤ 100000) (hL : L.length ≤ 1000) (x P : Nat) (hP : A.length = P + 1) (hx : x < P) (k : Int) (hk : k = (x : Int) + 1) (vk vp vq : Int) (vs : ByteArray) (vr : Int) (h0 : vk ≠ 0) (hv : validV ⟨vk, vp, vq, vs, vr⟩ = true) (hw : WfV ⟨vk, vp, vq, vs, vr⟩) (hcl : ∀ y ∈ L, y.k.k ≠ 2) (hA0 : ∀ v ∈ A, v.k ≠ 0) :
    Calls Tryz.prog 91 #[.pointer (some ⟨t, 0, none⟩), .int .i64 k, .agg #[.int .i64 vk, .int .i64 vp, .int .i64 vq, .string vs, .int .i64 vr]] w (TSetPost w t m g sv L av (insM A x ⟨vk, vp, vq, vs, vr⟩)) := by
  subst hk
  obtain ⟨ga, cap, e, hga, hcap⟩ := listW_some hT.lw (fun h => by rw [h] at hP; simp at hP)
  subst e
  have HV := Lib.hid (fun W => (show Calls Tryz.prog 43 #[.agg #[.int .i64 vk, .int .i64 vp, .int .i64 vq, .string vs, .int .i64 vr]] W (BoolPost W true) from by have h := pvalidV_c W vk vp vq vs vr; rw [hv] at h; exact h))
  have HT := Lib.hid (hT)
  have HPP := Lib.hid (hP)
  have HX := Lib.hid ((⟨hw, hv⟩ : WfV ⟨vk, vp, vq, vs, vr⟩ ∧ validV ⟨vk, vp, vq, vs, vr⟩ = true))
  have hc1 : P + 1 ≤ cap := by omega
  have hP5 : P + 1 ≤ 100000 := by omega
  have htl : t < w.heap.size := (Array.getElem?_eq_some_iff.1 hT.ht).1
  obtain ⟨la, hla⟩ : ∃ la, A[P]? = some la := ⟨_, List.getElem?_eq_getElem (by omega)⟩
  have HLA := Lib.hid (hla)
  have HA0 := Lib.hid (hA0)
  have q1 : ((x : Int) + 1 == (P : Int) + 1 + 1) = false := beq_eq_false_iff_ne.2 (by omega)
  have d1 : decide ((x : Int) + 1 < 1) = false := decide_eq_false (by omega)
  have d2 : decide ((x : Int) + 1 > (P : Int) + 1 + 1) = false := decide_eq_false (by omega)
  have t0 : (w.alloc (oV vk vp vq vs vr)).cell? ⟨t, 0, none⟩ = some (.slice (some ⟨ga, 0, none⟩) (P + 1) cap) := by rw [cell_of_heap (heap1_old hT.ht _), hP]; rfl
  clear hT hv hw hla hA0 hP hcap hl
  go_enter Tryz.func91, Tryz.ntmps91
  go_wp2_with fail
  refine (HV.out _).mono ?_
  rintro e w1 ⟨rfl, hb⟩
  have Ha1 := Lib.hid (hkeep hb (heap1 w (oV vk vp vq vs vr)))
  have HW1 := Lib.hid (below_next (below1 _ _) hb)
  have hz1 := HW1.out.size
  clear hb t0
  obtain ⟨lk, lp, lq, ls, lr⟩ := la
  have t0 : w1.cell? ⟨t, 0, none⟩ = some (.slice (some ⟨ga, 0, none⟩) (P + 1) cap) := by rw [cell_of_heap (hkeep HW1.out HT.out.ht), HPP.out]; rfl
  obtain ⟨c0, c1, c2, c3, c4⟩ := listW_five (listW_below HT.out.lw HW1.out) HLA.out
  have hyt : t < w1.heap.size := by omega
  have hyg : ga < w1.heap.size := by omega
  go_upto_region 11 with fail
  obtain ⟨W2, hW2⟩ : ∃ W2, W2 = w1.alloc (oV lk lp lq ls lr) := ⟨_, rfl⟩
  have HB2 := Lib.hid ((show Below w1.heap.size w1 W2 by rw [hW2]; exact below1 _ _))
  have Hl2 := Lib.hid ((show W2.heap[w1.heap.size]? = some (oV lk lp lq ls lr) by rw [hW2]; exact heap1 _ _))
  have Ha2 := Lib.hid (hkeep HB2.out Ha1.out)
  have HT2 := Lib.hid (tabW_below (tabW_below HT.out HW1.out) HB2.out)
  have hz2 : w1.heap.size < W2.heap.size := (Array.getElem?_eq_some_iff.1 Hl2.out).1
  try rw [show w1.alloc (oV lk lp lq ls lr) = W2 from hW2.symm]
  clear hW2 t0 c0 c1 c2 c3 c4 hyt hyg
  obtain ⟨cur, hcur⟩ := listW_block HT2.out.lw (show (Value.slice (some ⟨ga, 0, none⟩) A.length cap).ownBlock = some ga from rfl)
  have HCU := Lib.hid (hcur)
  have HDC := Lib.hid (drop_cells HT2.out.lw x (P - x) (by have := HPP.out; omega))
  obtain ⟨B, hB⟩ : ∃ B, B = (A.drop x).take (P - x) := ⟨_, rfl⟩
  rw [← hB] at HDC
  have HBE := Lib.hid (hB)
  have hBl : B.length = P - x := by rw [hB, List.length_take, List.length_drop]; have := HPP.out; omega
  clear hcur hB
  have t0 : W2.cell? ⟨t, 0, none⟩ = some (.slice (some ⟨ga, 0, none⟩) (P + 1) cap) := by rw [cell_of_heap HT2.out.ht, HPP.out]; rfl
  have hyt : t < W2.heap.size := by omega
  have hyg : ga < W2.heap.size := by omega
  obtain ⟨W3, hW3⟩ : ∃ W3, W3 = W2.drew.setRow ga (cur.toList.take ((x + 1) * 5) ++ (rowV B ++ cur.toList.drop ((x + 1) * 5 + (rowV B).length))).toArray := ⟨_, rfl⟩
  have hsp := tabW_splice (w := W2.drew) (HT2.out.drewT) HCU.out (x + 1) B (by have := HPP.out; omega) (fun v hv => HT2.out.wfA v (by rw [HBE.out] at hv; exact List.mem_of_mem_drop (List.mem_of_mem_take hv)))
  rw [← hW3] at hsp
  have hrun : (Builtin.copy_ #[26, 26] 3 #[.slice (some ⟨ga, (x + 1) * 5, none⟩) (P - x) (cap - (x + 1)), .slice (some ⟨ga, x * 5, none⟩) (P - x) (cap - x)]).run Tryz.prog W2.drew = .ok (.int .i64 ((P - x : Nat) : Int)) W3 := by
    have h := run_copy_wide (P := Tryz.prog) W2.drew 26 26 3 30 5 ga ((x + 1) * 5) (P - x) (cap - (x + 1)) ⟨ga, x * 5, none⟩ (P - x) (cap - x) cur 30 (rowV B) Tryz.underlying26 info25s HCU.out (by rw [rowV_len, hBl, show Nat.min (P - x) (P - x) = P - x from Nat.min_self _]) HDC.out (by have h5 := HT2.out.lw; rw [rowV_len, hBl]; exact listW_fit h5 HCU.out (by have := HPP.out; omega)) (fun u hu => rowV_one u hu)
    rw [show Nat.min (P - x) (P - x) = P - x from Nat.min_self _, List.append_assoc, ← hW3] at h
    exact h
  have HT3 := Lib.hid (hsp.1)
  have HM3 := Lib.hid (hsp.2)
  have Hl3 := Lib.hid ((mkeep hsp.2 (show W2.drew.heap[w1.heap.size]? = some (oV lk lp lq ls lr) from Hl2.out) (tb_new htl HT.out.lw HW1.out.size)))
  have Ha3 := Lib.hid ((mkeep hsp.2 (show W2.drew.heap[w.heap.size]? = some (oV vk vp vq vs vr) from Ha2.out) (tb_new htl HT.out.lw (Nat.le_refl _))))
  clear hsp hW3
  refine wp_region_lex mixed (by kernel_rfl) ?_
  go_wp2
  refine ⟨by kernel_rfl, ?_⟩
  obtain ⟨A1, hA1⟩ : ∃ A1, A1 = A.take (x + 1) ++ (B ++ A.drop (x + 1 + B.length)) := ⟨_, rfl⟩
  have hA1l : A1.length = P + 1 := by
    rw [hA1]
    simp only [List.length_append, List.length_take, List.length_drop]
    have := HPP.out
    omega
  rw [← hA1] at HT3
  have HA1 := Lib.hid (hA1)
  clear hA1 hrun t0
  have hz3 := HM3.out.size
  have hz3' : W2.heap.size ≤ W3.heap.size := hz3
  have HTH := Lib.hid (listW_there HT3.out.lw (i := x) (by omega))
  have t0 : W3.cell? ⟨t, 0, none⟩ = some (.slice (some ⟨ga, 0, none⟩) (P + 1) cap) := by rw [cell_of_heap HT3.out.ht, HPP.out]; rfl
  have hyt3 : t < W3.heap.size := by omega
  have hyg3 : ga < W3.heap.size := by omega
  have hyv3 : w.heap.size < W3.heap.size := (Array.getElem?_eq_some_iff.1 Ha3.out).1
  obtain ⟨v0, v1, v2, v3, v4⟩ := cells5 Ha3.out
  obtain ⟨fv0, fv1, fv2, fv3, fv4⟩ := froz5 Ha3.out
  go_upto_region 12 with fail
  refine wp_region_lex mixed (by kernel_rfl) ?_
  go_wp2_with (refine wpList_store_mid rfl 30 _ _ rfl ga (x * 5) _ rfl rfl HTH.out info25 (by simp [Value.oneCell']) ?_)
  refine ⟨by kernel_rfl, ?_⟩
  have hput := tabW_put HT3.out.drewT (i := x) (by omega) HX.out
  change TabW (W3.drew.setCells ga (x * 5) (vCells ⟨vk, vp, vq, vs, vr⟩)) _ _ _ _ _ _ _ ∧ _ at hput
  obtain ⟨W4, hW4⟩ : ∃ W4, W4 = W3.drew.setCells ga (x * 5) (vCells ⟨vk, vp, vq, vs, vr⟩) := ⟨_, rfl⟩
  rw [← hW4] at hput
  have hgoal : W3.drew.setCells ga (x * 5) [.int .i64 vk, .int .i64 vp, .int .i64 vq, .string vs, .int .i64 vr] = W4 := hW4.symm
  try simp only [hgoal]
  clear hW4 hgoal
  have HT4 := Lib.hid (hput.1)
  have HM4 := Lib.hid (hput.2)
  have Hl4 := Lib.hid ((mkeep hput.2 (show W3.drew.heap[w1.heap.size]? = some (oV lk lp lq ls lr) from Hl3.out) (tb_new htl HT.out.lw HW1.out.size)))
  clear hput t0 v0 v1 v2 v3 v4 fv0 fv1 fv2 fv3 fv4 hyv3
  have hyl4 : w1.heap.size < W4.heap.size := (Array.getElem?_eq_some_iff.1 Hl4.out).1
  obtain ⟨l0, l1, l2, l3, l4⟩ := cells5 Hl4.out
  obtain ⟨fl0, fl1, fl2, fl3, fl4⟩ := froz5 Hl4.out
  have hlast := HT.out.wfA _ (List.mem_of_getElem? HLA.out)
  have hl0 := HA0.out _ (List.mem_of_getElem? HLA.out)
  have HAD := Lib.hid (tadd_c W4 t m g sv L _ _ HT4.out (by rw [List.length_set]; omega) hL lk lp lq ls lr hlast.2 hlast.1 hl0 (fun y hy e => hcl y hy (by rw [e])) (get_absent (fun y hy e => hcl y hy (by rw [e]))))
  clear hlast hl0
  go_wp2_with fail
  refine HAD.out.mono ?_
  rintro e w5 ⟨rfl, av', hT5, hown5, hm5⟩
  have HT5 := Lib.hid (hT5)
  have HO5 := Lib.hid (hown5)
  have HM5 := Lib.hid (hm5)
  clear hT5 hown5 hm5 l0 l1 l2 l3 l4 fl0 fl1 fl2 fl3 fl4
  go_wp2
  go_ret
  have hM4w : Mods (TbF t (.slice (some ⟨ga, 0, none⟩) A.length cap)) w W4 := Mods.trans (Mods.of_below (below_next HW1.out HB2.out).drew) (Mods.trans (Mods.trans HM3.out (Mods.of_below (Below.refl _ _).drew)) HM4.out)
  refine ⟨rfl, av', ?_, fun b hb => (HO5.out b hb).imp id (Nat.le_trans hM4w.size), Mods.trans hM4w HM5.out⟩
  rw [← ins_eq HPP.out hx HLA.out HBE.out HA1.out]
  exact HT5.out
set_option maxRecDepth 100000 in
set_option maxHeartbeats 2000000 in
theorem twInsert_last (w : World) (t m g : Nat) (sv : Value) (L : List Sl) (av : Value) (A : List V) (hT : TabW w t m g sv L av A) (hl : A.length ≤ 100000) (hL : L.length ≤ 1000) (P : Nat) (hP : A.length = P + 1) (k : Int) (hk : k = (P : Int) + 1) (vk vp vq : Int) (vs : ByteArray) (vr : Int) (h0 : vk ≠ 0) (hv : validV ⟨vk, vp, vq, vs, vr⟩ = true) (hw : WfV ⟨vk, vp, vq, vs, vr⟩) (hcl : ∀ y ∈ L, y.k.k ≠ 2) (hA0 : ∀ v ∈ A, v.k ≠ 0) :
    Calls Tryz.prog 91 #[.pointer (some ⟨t, 0, none⟩), .int .i64 k, .agg #[.int .i64 vk, .int .i64 vp, .int .i64 vq, .string vs, .int .i64 vr]] w (TSetPost w t m g sv L av (insM A P ⟨vk, vp, vq, vs, vr⟩)) := by
  subst hk
  obtain ⟨ga, cap, e, hga, hcap⟩ := listW_some hT.lw (fun h => by rw [h] at hP; simp at hP)
  subst e
  have HV := Lib.hid (fun W => (show Calls Tryz.prog 43 #[.agg #[.int .i64 vk, .int .i64 vp, .int .i64 vq, .string vs, .int .i64 vr]] W (BoolPost W true) from by have h := pvalidV_c W vk vp vq vs vr; rw [hv] at h; exact h))
  have HT := Lib.hid (hT)
  have HPP := Lib.hid (hP)
  have HX := Lib.hid ((⟨hw, hv⟩ : WfV ⟨vk, vp, vq, vs, vr⟩ ∧ validV ⟨vk, vp, vq, vs, vr⟩ = true))
  have hc1 : P + 1 ≤ cap := by omega
  have hP5 : P + 1 ≤ 100000 := by omega
  have htl : t < w.heap.size := (Array.getElem?_eq_some_iff.1 hT.ht).1
  obtain ⟨la, hla⟩ : ∃ la, A[P]? = some la := ⟨_, List.getElem?_eq_getElem (by omega)⟩
  have HLA := Lib.hid (hla)
  have HA0 := Lib.hid (hA0)
  have q1 : ((P : Int) + 1 == (P : Int) + 1 + 1) = false := beq_eq_false_iff_ne.2 (by omega)
  have d1 : decide ((P : Int) + 1 < 1) = false := decide_eq_false (by omega)
  have d2 : decide ((P : Int) + 1 > (P : Int) + 1 + 1) = false := decide_eq_false (by omega)
  have t0 : (w.alloc (oV vk vp vq vs vr)).cell? ⟨t, 0, none⟩ = some (.slice (some ⟨ga, 0, none⟩) (P + 1) cap) := by rw [cell_of_heap (heap1_old hT.ht _), hP]; rfl
  clear hT hv hw hla hA0 hP hcap hl
  go_enter Tryz.func91, Tryz.ntmps91
  go_wp2_with fail
  refine (HV.out _).mono ?_
  rintro e w1 ⟨rfl, hb⟩
  have Ha1 := Lib.hid (hkeep hb (heap1 w (oV vk vp vq vs vr)))
  have HW1 := Lib.hid (below_next (below1 _ _) hb)
  have hz1 := HW1.out.size
  clear hb t0
  obtain ⟨lk, lp, lq, ls, lr⟩ := la
  have t0 : w1.cell? ⟨t, 0, none⟩ = some (.slice (some ⟨ga, 0, none⟩) (P + 1) cap) := by rw [cell_of_heap (hkeep HW1.out HT.out.ht), HPP.out]; rfl
  obtain ⟨c0, c1, c2, c3, c4⟩ := listW_five (listW_below HT.out.lw HW1.out) HLA.out
  have hyt : t < w1.heap.size := by omega
  have hyg : ga < w1.heap.size := by omega
  go_upto_region 11 with fail
  obtain ⟨W2, hW2⟩ : ∃ W2, W2 = w1.alloc (oV lk lp lq ls lr) := ⟨_, rfl⟩
  have HB2 := Lib.hid ((show Below w1.heap.size w1 W2 by rw [hW2]; exact below1 _ _))
  have Hl2 := Lib.hid ((show W2.heap[w1.heap.size]? = some (oV lk lp lq ls lr) by rw [hW2]; exact heap1 _ _))
  have Ha2 := Lib.hid (hkeep HB2.out Ha1.out)
  have HT2 := Lib.hid (tabW_below (tabW_below HT.out HW1.out) HB2.out)
  have hz2 : w1.heap.size < W2.heap.size := (Array.getElem?_eq_some_iff.1 Hl2.out).1
  try rw [show w1.alloc (oV lk lp lq ls lr) = W2 from hW2.symm]
  clear hW2 t0 c0 c1 c2 c3 c4 hyt hyg
  have t0 : W2.cell? ⟨t, 0, none⟩ = some (.slice (some ⟨ga, 0, none⟩) (P + 1) cap) := by rw [cell_of_heap HT2.out.ht, HPP.out]; rfl
  have hyt : t < W2.heap.size := by omega
  have hyg : ga < W2.heap.size := by omega
  have hr2 := run_copy_zero (P := Tryz.prog) W2.drew 26 26 3 30 5 (some ⟨ga, (P + 1) * 5, none⟩) (some ⟨ga, P * 5, none⟩) 0 (cap - (P + 1)) 0 (cap - P) Tryz.underlying26 info25s rfl
  have hr3 := run_copy_zero (P := Tryz.prog) W2.drew 26 26 3 30 5 (some ⟨ga, 0, none⟩) (some ⟨ga, P * 5, none⟩) 0 0 0 (cap - P) Tryz.underlying26 info25s rfl
  have hr4 := run_copy_zero (P := Tryz.prog) W2.drew 26 26 3 30 5 (some ⟨ga, 0, none⟩) (some ⟨ga, P * 5, none⟩) 0 0 0 1 Tryz.underlying26 info25s rfl
  obtain ⟨A1, hA1⟩ : ∃ A1, A1 = A := ⟨_, rfl⟩
  have HA1 := Lib.hid (hA1)
  have hA1l : A1.length = P + 1 := by rw [hA1]; exact HPP.out
  clear hA1
  obtain ⟨W3, hW3⟩ : ∃ W3, W3 = W2.drew := ⟨_, rfl⟩
  have hz3 : W2.heap.size ≤ W3.heap.size := by rw [hW3]; exact Nat.le_refl _
  have HT3 := Lib.hid ((show TabW W3 t m g sv L (.slice (some ⟨ga, 0, none⟩) A.length cap) A1 by rw [hW3, HA1.out]; exact HT2.out.drewT))
  have HM3 := Lib.hid ((show Mods (TbF t (.slice (some ⟨ga, 0, none⟩) A.length cap)) W2.drew W3 by rw [hW3]; exact Mods.refl _ _))
  have Hl3 := Lib.hid ((show W3.heap[w1.heap.size]? = some (oV lk lp lq ls lr) by rw [hW3]; exact Hl2.out))
  have Ha3 := Lib.hid ((show W3.heap[w.heap.size]? = some (oV vk vp vq vs vr) by rw [hW3]; exact Ha2.out))
  have HW3 := Lib.hid (hW3)
  have hcases : P + 1 = cap ∨ P + 1 < cap := by omega
  rcases hcases with rfl | hcc
  · refine wp_region_lex mixed (by kernel_rfl) ?_
    go_wp2
    refine ⟨by kernel_rfl, ?_⟩
    try rw [show W2.drew = W3 from HW3.out.symm]
    clear t0 hr2 hr3 hr4 hW3
    have HTH := Lib.hid (listW_there HT3.out.lw (i := P) (by omega))
    have t0 : W3.cell? ⟨t, 0, none⟩ = some (.slice (some ⟨ga, 0, none⟩) (P + 1) (P + 1)) := by rw [cell_of_heap HT3.out.ht, HPP.out]; rfl
    have hyt3 : t < W3.heap.size := by omega
    have hyg3 : ga < W3.heap.size := by omega
    have hyv3 : w.heap.size < W3.heap.size := (Array.getElem?_eq_some_iff.1 Ha3.out).1
    obtain ⟨v0, v1, v2, v3, v4⟩ := cells5 Ha3.out
    obtain ⟨fv0, fv1, fv2, fv3, fv4⟩ := froz5 Ha3.out
    go_upto_region 12 with fail
    refine wp_region_lex mixed (by kernel_rfl) ?_
    go_wp2_with (refine wpList_store_mid rfl 30 _ _ rfl ga (P * 5) _ rfl rfl HTH.out info25 (by simp [Value.oneCell']) ?_)
    refine ⟨by kernel_rfl, ?_⟩
    have hput := tabW_put HT3.out.drewT (i := P) (by omega) HX.out
    change TabW (W3.drew.setCells ga (P * 5) (vCells ⟨vk, vp, vq, vs, vr⟩)) _ _ _ _ _ _ _ ∧ _ at hput
    obtain ⟨W4, hW4⟩ : ∃ W4, W4 = W3.drew.setCells ga (P * 5) (vCells ⟨vk, vp, vq, vs, vr⟩) := ⟨_, rfl⟩
    rw [← hW4] at hput
    have hgoal : W3.drew.setCells ga (P * 5) [.int .i64 vk, .int .i64 vp, .int .i64 vq, .string vs, .int .i64 vr] = W4 := hW4.symm
    try simp only [hgoal]
    clear hW4 hgoal
    have HT4 := Lib.hid (hput.1)
    have HM4 := Lib.hid (hput.2)
    have Hl4 := Lib.hid ((mkeep hput.2 (show W3.drew.heap[w1.heap.size]? = some (oV lk lp lq ls lr) from Hl3.out) (tb_new htl HT.out.lw HW1.out.size)))
    clear hput t0 v0 v1 v2 v3 v4 fv0 fv1 fv2 fv3 fv4 hyv3
    have hyl4 : w1.heap.size < W4.heap.size := (Array.getElem?_eq_some_iff.1 Hl4.out).1
    obtain ⟨l0, l1, l2, l3, l4⟩ := cells5 Hl4.out
    obtain ⟨fl0, fl1, fl2, fl3, fl4⟩ := froz5 Hl4.out
    have hlast := HT.out.wfA _ (List.mem_of_getElem? HLA.out)
    have hl0 := HA0.out _ (List.mem_of_getElem? HLA.out)
    have HAD := Lib.hid (tadd_c W4 t m g sv L _ _ HT4.out (by rw [List.length_set]; omega) hL lk lp lq ls lr hlast.2 hlast.1 hl0 (fun y hy e => hcl y hy (by rw [e])) (get_absent (fun y hy e => hcl y hy (by rw [e]))))
    clear hlast hl0
    go_wp2_with fail
    refine HAD.out.mono ?_
    rintro e w5 ⟨rfl, av', hT5, hown5, hm5⟩
    have HT5 := Lib.hid (hT5)
    have HO5 := Lib.hid (hown5)
    have HM5 := Lib.hid (hm5)
    clear hT5 hown5 hm5 l0 l1 l2 l3 l4 fl0 fl1 fl2 fl3 fl4
    go_wp2
    go_ret
    have hM4w : Mods (TbF t (.slice (some ⟨ga, 0, none⟩) A.length (P + 1))) w W4 := Mods.trans (Mods.of_below (below_next HW1.out HB2.out).drew) (Mods.trans (Mods.trans HM3.out (Mods.of_below (Below.refl _ _).drew)) HM4.out)
    refine ⟨rfl, av', ?_, fun b hb => (HO5.out b hb).imp id (Nat.le_trans hM4w.size), Mods.trans hM4w HM5.out⟩
    rw [← ins_last HPP.out HLA.out, ← HA1.out]
    exact HT5.out
  · refine wp_region_lex mixed (by kernel_rfl) ?_
    go_wp2
    refine ⟨by kernel_rfl, ?_⟩
    try rw [show W2.drew = W3 from HW3.out.symm]
    clear t0 hr2 hr3 hr4 hW3
    have HTH := Lib.hid (listW_there HT3.out.lw (i := P) (by omega))
    have t0 : W3.cell? ⟨t, 0, none⟩ = some (.slice (some ⟨ga, 0, none⟩) (P + 1) cap) := by rw [cell_of_heap HT3.out.ht, HPP.out]; rfl
    have hyt3 : t < W3.heap.size := by omega
    have hyg3 : ga < W3.heap.size := by omega
    have hyv3 : w.heap.size < W3.heap.size := (Array.getElem?_eq_some_iff.1 Ha3.out).1
    obtain ⟨v0, v1, v2, v3, v4⟩ := cells5 Ha3.out
    obtain ⟨fv0, fv1, fv2, fv3, fv4⟩ := froz5 Ha3.out
    go_upto_region 12 with fail
    refine wp_region_lex mixed (by kernel_rfl) ?_
    go_wp2_with (refine wpList_store_mid rfl 30 _ _ rfl ga (P * 5) _ rfl rfl HTH.out info25 (by simp [Value.oneCell']) ?_)
    refine ⟨by kernel_rfl, ?_⟩
    have hput := tabW_put HT3.out.drewT (i := P) (by omega) HX.out
    change TabW (W3.drew.setCells ga (P * 5) (vCells ⟨vk, vp, vq, vs, vr⟩)) _ _ _ _ _ _ _ ∧ _ at hput
    obtain ⟨W4, hW4⟩ : ∃ W4, W4 = W3.drew.setCells ga (P * 5) (vCells ⟨vk, vp, vq, vs, vr⟩) := ⟨_, rfl⟩
    rw [← hW4] at hput
    have hgoal : W3.drew.setCells ga (P * 5) [.int .i64 vk, .int .i64 vp, .int .i64 vq, .string vs, .int .i64 vr] = W4 := hW4.symm
    try simp only [hgoal]
    clear hW4 hgoal
    have HT4 := Lib.hid (hput.1)
    have HM4 := Lib.hid (hput.2)
    have Hl4 := Lib.hid ((mkeep hput.2 (show W3.drew.heap[w1.heap.size]? = some (oV lk lp lq ls lr) from Hl3.out) (tb_new htl HT.out.lw HW1.out.size)))
    clear hput t0 v0 v1 v2 v3 v4 fv0 fv1 fv2 fv3 fv4 hyv3
    have hyl4 : w1.heap.size < W4.heap.size := (Array.getElem?_eq_some_iff.1 Hl4.out).1
    obtain ⟨l0, l1, l2, l3, l4⟩ := cells5 Hl4.out
    obtain ⟨fl0, fl1, fl2, fl3, fl4⟩ := froz5 Hl4.out
    have hlast := HT.out.wfA _ (List.mem_of_getElem? HLA.out)
    have hl0 := HA0.out _ (List.mem_of_getElem? HLA.out)
    have HAD := Lib.hid (tadd_c W4 t m g sv L _ _ HT4.out (by rw [List.length_set]; omega) hL lk lp lq ls lr hlast.2 hlast.1 hl0 (fun y hy e => hcl y hy (by rw [e])) (get_absent (fun y hy e => hcl y hy (by rw [e]))))
    clear hlast hl0
    go_wp2_with fail
    refine HAD.out.mono ?_
    rintro e w5 ⟨rfl, av', hT5, hown5, hm5⟩
    have HT5 := Lib.hid (hT5)
    have HO5 := Lib.hid (hown5)
    have HM5 := Lib.hid (hm5)
    clear hT5 hown5 hm5 l0 l1 l2 l3 l4 fl0 fl1 fl2 fl3 fl4
    go_wp2
    go_ret
    have hM4w : Mods (TbF t (.slice (some ⟨ga, 0, none⟩) A.length cap)) w W4 := Mods.trans (Mods.of_below (below_next HW1.out HB2.out).drew) (Mods.trans (Mods.trans HM3.out (Mods.of_below (Below.refl _ _).drew)) HM4.out)
    refine ⟨rfl, av', ?_, fun b hb => (HO5.out b hb).imp id (Nat.le_trans hM4w.size), Mods.trans hM4w HM5.out⟩
    rw [← ins_last HPP.out HLA.out, ← HA1.out]
    exact HT5.out
set_option maxRecDepth 100000 in
set_option maxHeartbeats 2000000 in
theorem twInsert_push (w : World) (t m g : Nat) (sv : Value) (L : List Sl) (av : Value) (A : List V) (hT : TabW w t m g sv L av A) (hl : A.length ≤ 99999) (hL : L.length ≤ 1000) (k : Int) (hk : k = (A.length : Int) + 1) (vk vp vq : Int) (vs : ByteArray) (vr : Int) (h0 : vk ≠ 0) (hv : validV ⟨vk, vp, vq, vs, vr⟩ = true) (hw : WfV ⟨vk, vp, vq, vs, vr⟩) (hcl : ∀ y ∈ L, y.k.k ≠ 2) :
    Calls Tryz.prog 91 #[.pointer (some ⟨t, 0, none⟩), .int .i64 k, .agg #[.int .i64 vk, .int .i64 vp, .int .i64 vq, .string vs, .int .i64 vr]] w (TSetPost w t m g sv L av (A ++ [⟨vk, vp, vq, vs, vr⟩])) := by
  subst hk
  obtain ⟨so, cap, rfl, hcap⟩ := listW_shape hT.lw
  have HV := Lib.hid (fun W => (show Calls Tryz.prog 43 #[.agg #[.int .i64 vk, .int .i64 vp, .int .i64 vq, .string vs, .int .i64 vr]] W (BoolPost W true) from by have h := pvalidV_c W vk vp vq vs vr; rw [hv] at h; exact h))
  have HOI := Lib.hid (fun W => pOfInt_top W ((A.length : Int) + 1) (by omega) (by omega))
  have HSet := Lib.hid (fun W (hb : Below w.heap.size w W) => twSet_push W t m g sv L _ A (tabW_below hT hb) (by omega) hL ((A.length : Int) + 1) rfl ⟨#[]⟩ 0 (valid_num (by omega) (by omega)) vk vp vq vs vr hv hw h0 (fun y hy e => hcl y hy (by rw [e])) (get_absent (fun y hy e => hcl y hy (by rw [e]))))
  have HT := Lib.hid (hT)
  have htl : t < w.heap.size := (Array.getElem?_eq_some_iff.1 hT.ht).1
  have q1 : ((A.length : Int) + 1 == (A.length : Int) + 1) = true := beq_self_eq_true _
  have d1 : decide ((A.length : Int) + 1 < 1) = false := decide_eq_false (by omega)
  have d2 : decide ((A.length : Int) + 1 > (A.length : Int) + 1) = false := decide_eq_false (by omega)
  have t0 : (w.alloc (oV vk vp vq vs vr)).cell? ⟨t, 0, none⟩ = some (.slice so A.length cap) := by rw [cell_of_heap (heap1_old hT.ht _)]; rfl
  clear hT hv hw hcap
  go_enter Tryz.func91, Tryz.ntmps91
  go_wp2_with fail
  refine (HV.out _).mono ?_
  rintro e w1 ⟨rfl, hb⟩
  have Ha1 := Lib.hid (hkeep hb (heap1 w (oV vk vp vq vs vr)))
  have HW1 := Lib.hid (below_next (below1 _ _) hb)
  clear hb t0
  go_upto_region 9 with fail
  have HKP := Lib.hid (fun (W W' : World) (hb : Below w1.heap.size w1 W) (hm : Mods (TbF t (.slice so A.length cap)) W W') => mkeep hm (hkeep hb Ha1.out) (tb_new htl HT.out.lw (Nat.le_refl _)))
  have SOQ := Lib.hid (fun (W : World) (h1 : W.heap[w.heap.size]? = some (oV vk vp vq vs vr)) => (show W.cell? ⟨w.heap.size, 0, none⟩ = some (.int .i64 vk) ∧ W.cell? ⟨w.heap.size, 1, none⟩ = some (.int .i64 vp) ∧ W.cell? ⟨w.heap.size, 2, none⟩ = some (.int .i64 vq) ∧ W.cell? ⟨w.heap.size, 3, none⟩ = some (.string vs) ∧ W.cell? ⟨w.heap.size, 4, none⟩ = some (.int .i64 vr) from ⟨(cells5 h1).1, (cells5 h1).2.1, (cells5 h1).2.2.1, (cells5 h1).2.2.2.1, (cells5 h1).2.2.2.2⟩))
  have SO := Lib.hid (fun (W : World) (hb : Below w1.heap.size w1 W) => SOQ.out W (hkeep hb Ha1.out))
  have HBc := Lib.hid ((Below.refl w1.heap.size w1).drew)
  go_region_held3 (fun w' => w'.cell? ⟨w.heap.size, 0, none⟩ = some (.int .i64 vk) ∧ w'.cell? ⟨w.heap.size, 1, none⟩ = some (.int .i64 vp) ∧ w'.cell? ⟨w.heap.size, 2, none⟩ = some (.int .i64 vq) ∧ w'.cell? ⟨w.heap.size, 3, none⟩ = some (.string vs) ∧ w'.cell? ⟨w.heap.size, 4, none⟩ = some (.int .i64 vr))
    (first | with_reducible exact SO.out _ HBc.out | with_reducible exact SOQ.out _ HXv.out)
    (first | (go_at_call 54; (with_reducible refine (HOI.out _).mono ?_); rintro e nw1 ⟨rfl, hb⟩; have HBc := Lib.hid (below_next HBc.out hb); clear hb) | (go_at_call 46; (with_reducible refine (HSet.out _ (below_next HW1.out HBc.out)).mono ?_); rintro e nw2 ⟨rfl, av', hT2, ho2, hm2⟩; have HX2 := Lib.hid (And.intro hT2 (And.intro ho2 hm2)); have HXv := Lib.hid (HKP.out _ _ HBc.out hm2); clear hT2 ho2 hm2))
  go_wp2
  go_ret
  obtain ⟨hT2, ho2, hm2⟩ := HX2.out
  have hbb := below_next HW1.out HBc.out
  exact ⟨rfl, av', hT2, fun b hb => (ho2 b hb).imp id (Nat.le_trans hbb.size), Mods.trans (Mods.of_below hbb) hm2⟩
end Go.Proofs.YtpbcmlnjiocmoaaGreatDoorR
