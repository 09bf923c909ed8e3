import Derived.Test.YtpbcmlnjiocmoaaGreatDoorRRefB
import Derived.Test.YtpbcmlnjiocmoaaGreatDoorRValB
set_option linter.unusedVariables false
set_option linter.unusedSimpArgs false
set_option maxRecDepth 100000
set_option maxHeartbeats 40000000
namespace Go.Proofs.YtpbcmlnjiocmoaaGreatDoorR
open Go.RowKit Go.Proofs.Lexi
set_option maxRecDepth 100000 in
set_option maxHeartbeats 2000000 in
theorem twGet_in (w : World) (t m g : Nat) (sv : Value) (L : List Sl) (av : Value) (A : List V) (hT : TabW w t m g sv L av A) (hl : A.length ≤ 100000) (i : Nat) (v : V) (hi : A[i]? = some v) (x : Int) (hx : x = (i : Int) + 1) (s : ByteArray) (r : Int) (hk : validV ⟨2, x, 1, s, r⟩ = true) :
    Calls Tryz.prog 40 #[.pointer (some ⟨t, 0, none⟩), .agg #[.int .i64 2, .int .i64 x, .int .i64 1, .string s, .int .i64 r]] w (ValPost w v) := by
  subst hx
  obtain ⟨ht, hrow, _, _⟩ := hT
  have hlt : i < A.length := (List.getElem?_eq_some_iff.1 hi).1
  obtain ⟨ga, cap, rfl, hga, hcap⟩ := listW_some hrow (fun h => by rw [h] at hlt; simp at hlt)
  have HV := Lib.hid (fun W => (show Calls Tryz.prog 43 #[.agg #[.int .i64 2, .int .i64 ((i : Int) + 1), .int .i64 1, .string s, .int .i64 r]] W (BoolPost W true) from by have h := pvalidV_c W 2 ((i : Int) + 1) 1 s r; rw [hk] at h; exact h))
  have HI := Lib.hid (fun W => (show Calls Tryz.prog 77 #[.agg #[.int .i64 2, .int .i64 ((i : Int) + 1), .int .i64 1, .string s, .int .i64 r]] W (IntBool W ((i : Int) + 1) true) from by have h := tint_c W 2 ((i : Int) + 1) 1 s r; rw [show intB ⟨2, (i : Int) + 1, 1, s, r⟩ = true from by unfold intB; rw [hk]; rfl] at h; exact h))
  have HT := Lib.hid (ht)
  have HR := Lib.hid (hrow)
  have HIV := Lib.hid (hi)
  have htl : t < w.heap.size := (Array.getElem?_eq_some_iff.1 ht).1
  have d1 : decide (((i : Int) + 1) ≥ 1) = true := decide_eq_true (by omega)
  have d2 : decide (((i : Int) + 1) ≤ (A.length : Int)) = true := decide_eq_true (by omega)
  have d3 : (i : Int) < (A.length : Int) := by omega
  clear ht hrow hi hk
  go_enter Tryz.func40, Tryz.ntmps40
  go_wp2_with fail
  refine (HV.out _).mono ?_
  rintro e w1 ⟨rfl, hb⟩
  have Ha1 := Lib.hid (hkeep hb (heap2_a w (oV 2 ((i : Int) + 1) 1 s r) (oV 0 0 0 ⟨#[]⟩ 0)))
  have Hb1 := Lib.hid (hkeep hb (heap2_b w (oV 2 ((i : Int) + 1) 1 s r) (oV 0 0 0 ⟨#[]⟩ 0)))
  have HW1 := Lib.hid (below_next (below2w _ _ _) hb)
  clear hb
  obtain ⟨a0, a1, a2, a3, a4⟩ := cells5 Ha1.out
  obtain ⟨fa0, fa1, fa2, fa3, fa4⟩ := froz5 Ha1.out
  go_wp2_with fail
  refine (HI.out _).mono ?_
  rintro e w2 ⟨rfl, hb⟩
  have Hb2 := Lib.hid (hkeep hb Hb1.out)
  have HW2 := Lib.hid (below_next HW1.out hb)
  clear hb a0 a1 a2 a3 a4 fa0 fa1 fa2 fa3 fa4
  have t0 : w2.cell? ⟨t, 0, none⟩ = some (.slice (some ⟨ga, 0, none⟩) A.length cap) := by rw [cell_of_heap (hkeep HW2.out HT.out)]; rfl
  obtain ⟨c0, c1, c2, c3, c4⟩ := listW_five (listW_below HR.out HW2.out) HIV.out
  have hz2 := HW2.out.size
  have hya : w.heap.size + 1 < w2.heap.size := (Array.getElem?_eq_some_iff.1 Hb2.out).1
  obtain ⟨b0, b1, b2, b3, b4⟩ := cells5 Hb2.out
  obtain ⟨fb0, fb1, fb2, fb3, fb4⟩ := froz5 Hb2.out
  go_wp2
  refine bodyPost_ret (by simp [results, Tryz.results40, go_sem, hya, b0, b1, b2, b3, b4]; first | done | rfl) rfl ?_
  exact val_done rfl (below_five HW2.out (by omega) _ _ _ _ _)
set_option maxRecDepth 100000 in
set_option maxHeartbeats 2000000 in
theorem twGet_out (w : World) (t m g : Nat) (sv : Value) (L : List Sl) (av : Value) (A : List V) (hT : TabW w t m g sv L av A) (hl : A.length ≤ 100000) (hL : L.length ≤ 1000) (k p q : Int) (s : ByteArray) (r : Int) (hk : validV ⟨k, p, q, s, r⟩ = true) (hw : WfV ⟨k, p, q, s, r⟩) (ho : intB ⟨k, p, q, s, r⟩ = false ∨ intB ⟨k, p, q, s, r⟩ = true ∧ (p < 1 ∨ (A.length : Int) < p)) :
    Calls Tryz.prog 40 #[.pointer (some ⟨t, 0, none⟩), .agg #[.int .i64 k, .int .i64 p, .int .i64 q, .string s, .int .i64 r]] w (ValPost w (getM L ⟨k, p, q, s, r⟩)) := by
  obtain ⟨ht, hrow, _, hO⟩ := hT
  obtain ⟨so, cap, rfl, hcap⟩ := listW_shape hrow
  have HV := Lib.hid (fun W => (show Calls Tryz.prog 43 #[.agg #[.int .i64 k, .int .i64 p, .int .i64 q, .string s, .int .i64 r]] W (BoolPost W true) from by have h := pvalidV_c W k p q s r; rw [hk] at h; exact h))
  have HI := Lib.hid (fun W => tint_c W k p q s r)
  have HT := Lib.hid (ht)
  have HO := Lib.hid (hO)
  have htl : t < w.heap.size := (Array.getElem?_eq_some_iff.1 ht).1
  obtain ⟨R, hR⟩ : ∃ R, R = getM L ⟨k, p, q, s, r⟩ := ⟨_, rfl⟩
  rw [← hR]
  have hget : ∀ W, OMap W m g sv L → Calls Tryz.prog 78 #[.pointer (some ⟨m, 0, none⟩), .agg #[.int .i64 k, .int .i64 p, .int .i64 q, .string s, .int .i64 r]] W (ValPost W R) := fun W h => by rw [hR]; exact pomGet_c W m g sv L h hL k p q s r hw
  have HG := Lib.hid (hget)
  obtain ⟨b, hb⟩ : ∃ b, b = intB ⟨k, p, q, s, r⟩ := ⟨_, rfl⟩
  rw [← hb] at HI ho
  have ways : (b = false ∧ True ∧ True) ∨ (b = true ∧ decide (p ≥ 1) = false ∧ True) ∨ (b = true ∧ decide (p ≥ 1) = true ∧ decide (p ≤ (A.length : Int)) = false) := by
    rcases ho with ho | ⟨ho, h1⟩
    · exact .inl ⟨ho, trivial, trivial⟩
    · by_cases h2 : p < 1
      · exact .inr (.inl ⟨ho, decide_eq_false (by omega), trivial⟩)
      · exact .inr (.inr ⟨ho, decide_eq_true (by omega), decide_eq_false (by omega)⟩)
  clear ht hrow hO hR hget hk hb ho
  rcases ways with ⟨rfl, d1, d2⟩ | ⟨rfl, d1, d2⟩ | ⟨rfl, d1, d2⟩
  all_goals
    go_enter Tryz.func40, Tryz.ntmps40
    go_wp2_with fail
    refine (HV.out _).mono ?_
    rintro e w1 ⟨rfl, hb⟩
    have Ha1 := Lib.hid (hkeep hb (heap2_a w (oV k p q s r) (oV 0 0 0 ⟨#[]⟩ 0)))
    have Hb1 := Lib.hid (hkeep hb (heap2_b w (oV k p q s r) (oV 0 0 0 ⟨#[]⟩ 0)))
    have HW1 := Lib.hid (below_next (below2w _ _ _) hb)
    clear hb
    obtain ⟨a0, a1, a2, a3, a4⟩ := cells5 Ha1.out
    obtain ⟨fa0, fa1, fa2, fa3, fa4⟩ := froz5 Ha1.out
    go_wp2_with fail
    refine (HI.out _).mono ?_
    rintro e w2 ⟨rfl, hb⟩
    have Ha2 := Lib.hid (hkeep hb Ha1.out)
    have Hb2 := Lib.hid (hkeep hb Hb1.out)
    have HW2 := Lib.hid (below_next HW1.out hb)
    clear hb a0 a1 a2 a3 a4 fa0 fa1 fa2 fa3 fa4
    have t0 : w2.cell? ⟨t, 0, none⟩ = some (.slice so A.length cap) := by rw [cell_of_heap (hkeep HW2.out HT.out)]; rfl
    have t1 : w2.cell? ⟨t, 1, none⟩ = some (.pointer (some ⟨m, 0, none⟩)) := by rw [cell_of_heap (hkeep HW2.out HT.out)]; rfl
    have hz2 := HW2.out.size
    have hyt : t < w2.heap.size := by omega
    have hya : w.heap.size < w2.heap.size := (Array.getElem?_eq_some_iff.1 Ha2.out).1
    have hyb : w.heap.size + 1 < w2.heap.size := (Array.getElem?_eq_some_iff.1 Hb2.out).1
    obtain ⟨a0, a1, a2, a3, a4⟩ := cells5 Ha2.out
    obtain ⟨fa0, fa1, fa2, fa3, fa4⟩ := froz5 Ha2.out
    obtain ⟨b0, b1, b2, b3, b4⟩ := cells5 Hb2.out
    obtain ⟨fb0, fb1, fb2, fb3, fb4⟩ := froz5 Hb2.out
    go_wp2
    refine wp_region_lex mixed (by kernel_rfl) ?_
    go_wp2_with fail
    refine (HG.out _ (om_keep_below HO.out HW2.out.drew)).mono ?_
    rintro e w3 ⟨rfl, hb⟩
    have Hb3 := Lib.hid (hkeep hb Hb2.out)
    have HW3 := Lib.hid (below_next HW2.out.drew hb)
    clear hb hya hyb hyt t0 t1 a0 a1 a2 a3 a4 fa0 fa1 fa2 fa3 fa4 b0 b1 b2 b3 b4 fb0 fb1 fb2 fb3 fb4
    have hyb : w.heap.size + 1 < w3.heap.size := (Array.getElem?_eq_some_iff.1 Hb3.out).1
    obtain ⟨b0, b1, b2, b3, b4⟩ := cells5 Hb3.out
    obtain ⟨fb0, fb1, fb2, fb3, fb4⟩ := froz5 Hb3.out
    go_wp2
    refine ⟨by kernel_rfl, ?_⟩
    go_wp2
    refine bodyPost_ret (by simp [results, Tryz.results40, go_sem, hyb, b0, b1, b2, b3, b4]; first | done | rfl) rfl ?_
    exact val_done rfl (below_five HW3.out (by omega) _ _ _ _ _)
set_option maxRecDepth 100000 in
set_option maxHeartbeats 2000000 in
theorem pomNext_miss (w : World) (m g : Nat) (sv : Value) (L : List Sl) (hO : OMap w m g sv L) (k p q : Int) (s : ByteArray) (r : Int) (hk : WfV ⟨k, p, q, s, r⟩) (hne : eqV ⟨k, p, q, s, r⟩ V.nil = false) (ha : ∀ x ∈ L, x.k ≠ ⟨k, p, q, s, r⟩) :
    Calls Tryz.prog 99 #[.pointer (some ⟨m, 0, none⟩), .agg #[.int .i64 k, .int .i64 p, .int .i64 q, .string s, .int .i64 r]] w (NextPost w V.nil V.nil false 13) := by
  have hlt : m < w.heap.size := (Array.getElem?_eq_some_iff.1 hO.hm).1
  have hgl : g < w.heap.size := by obtain ⟨E, f, hE, _⟩ := hO.map; exact hE.lt
  have HM := Lib.hid (hkeep (below3w w (oV k p q s r) (oV 0 0 0 ⟨#[]⟩ 0) (oV 0 0 0 ⟨#[]⟩ 0)) hO.hm)
  have m1 : (((w.alloc (oV k p q s r)).alloc (oV 0 0 0 ⟨#[]⟩ 0)).alloc (oV 0 0 0 ⟨#[]⟩ 0)).cell? ⟨m, 1, none⟩ = some (.map (some g)) := by rw [cell_of_heap HM.out]; rfl
  have NE : ∀ W, (binOp .neq 30 (.agg #[.int .i64 k, .int .i64 p, .int .i64 q, .string s, .int .i64 r]) (.agg #[.int .i64 0, .int .i64 0, .int .i64 0, .string ⟨#[]⟩, .int .i64 0])).run Tryz.prog W = .ok (.bool true) W := fun W => by
    have h := neq_run W k p q s r 0 0 0 ⟨#[]⟩ 0
    rw [show eqV ⟨k, p, q, s, r⟩ ⟨0, 0, 0, ⟨#[]⟩, 0⟩ = false from hne] at h
    exact h
  have HLK := Lib.hid (fun (W : World) (h : W.heap[g]? = w.heap[g]?) => (show (Instr.lookup 142 (.map (some g)) (.agg #[.int .i64 k, .int .i64 p, .int .i64 q, .string s, .int .i64 r]) true).run Tryz.prog W = .ok (.tuple #[.int .i64 0, .bool false]) W from om_absent hO hk ha W h))
  have key : ∀ W : World, W.heap = (((w.alloc (oV k p q s r)).alloc (oV 0 0 0 ⟨#[]⟩ 0)).alloc (oV 0 0 0 ⟨#[]⟩ 0)).heap → W.heap[g]? = w.heap[g]? := fun W h => by rw [h]; exact (below3w w _ _ _).block g hgl
  have KEY := Lib.hid (key)
  clear hO hk ha hne key
  go_enter Tryz.func99, Tryz.ntmps99
  go_wp2
  refine wp_region_lex mixed (by kernel_rfl) ?_
  go_wp2_with (at_lookup; refine wpList_look_map _ rfl _ _ _ _ rfl _ _ _ rfl rfl (HLK.out _ (KEY.out _ rfl)) ?_)
  refine ⟨by kernel_rfl, ?_⟩
  go_wp2
  refine bodyPost_ret (by simp [results, Tryz.results99, go_sem]; first | done | rfl) rfl ?_
  exact ⟨rfl, by first | exact (below3w _ _ _ _).drew | exact below3w _ _ _ _⟩
theorem wpList_append_one {w : World} {ops : Array Oper} {rest : List Oper} {o : Oper} {a : Act} {Q : Exit → Act → World → Prop} (hgd : o.guard = none) (s y : Operand)
    (ho : o.op = .call { callee := .builtin .append, args := #[s, y], argTypes := #[26, 26] }) (v : Value) (A : List V) (hs : a.eval s = v) (hv : ListW w v A) (hl : A.length ≤ 1000000)
    (ad : Addr) (c : Nat) (x : V) (hy : a.eval y = .slice (some ad) 1 c) (hx : ∀ j u, (vCells x)[j]? = some u → w.cell? (ad.add j) = some u)
    (h : ∀ v' w', ListW w' v' (A ++ [x]) → w.grownBy w' v.ownBlock → (v'.ownBlock = v.ownBlock ∨ v'.ownBlock = some w.heap.size) → wpList Tryz.prog ops Q rest (a.put o.dst v') w') :
    wpList Tryz.prog ops Q (o :: rest) a w := by
  refine wpList_plain hgd fun K hK => ?_
  obtain ⟨v', w', hr, h2, h3, h4⟩ := append_one hv hl ad c x hx o.type
  unfold Oper.wp
  simp [execOp, ho, resolve, invoke, builtin, hs, hy, hr, Result.andThen]
  exact hK _ _ (h v' w' h2 h3 h4)
set_option maxRecDepth 100000 in
set_option maxHeartbeats 40000000 in
theorem tadd_c (w : World) (t m g : Nat) (sv : Value) (L : List Sl) (av : Value) (A : List V) (hT : TabW w t m g sv L av A) (hl : A.length ≤ 100000) (hL : L.length ≤ 1000) (k p q : Int) (s : ByteArray) (r : Int) (hv : validV ⟨k, p, q, s, r⟩ = true) (hw : WfV ⟨k, p, q, s, r⟩) (hk : k ≠ 0)
    (ha1 : ∀ x ∈ L, x.k ≠ ⟨2, (A.length : Int) + 1, 1, ⟨#[]⟩, 0⟩) (ha2 : getM L ⟨2, (A.length : Int) + 1 + 1, 1, ⟨#[]⟩, 0⟩ = V.nil) :
    Calls Tryz.prog 82 #[.pointer (some ⟨t, 0, none⟩), .agg #[.int .i64 k, .int .i64 p, .int .i64 q, .string s, .int .i64 r]] w (TAddPost w t m g sv L av (A ++ [⟨k, p, q, s, r⟩])) := by
  obtain ⟨so, cap, rfl, hcap⟩ := listW_shape hT.lw
  have htl : t < w.heap.size := (Array.getElem?_eq_some_iff.1 hT.ht).1
  have ek : (k == 0) = false := beq_eq_false_iff_ne.2 hk
  have ek2 : (k != 0) = true := bne_iff_ne.2 hk
  have HT := Lib.hid (hT)
  have HX := Lib.hid ((⟨hw, hv⟩ : WfV ⟨k, p, q, s, r⟩ ∧ validV ⟨k, p, q, s, r⟩ = true))
  have HA1 := Lib.hid (ha1)
  have HA2 := Lib.hid (ha2)
  have HCAP := Lib.hid (hcap)
  clear hT hv hw hk ha1 ha2 hcap
  go_enter Tryz.func82, Tryz.ntmps82
  go_wp2
  go_loopg [4] 1 (fun gg s4 wr => s4 = .bool false ∧ Hid (AddR w t m g sv L (.slice so A.length cap) A ⟨k, p, q, s, r⟩ gg wr))
  case atStart => exact ⟨rfl, Lib.hid (.inl ⟨rfl, heap1 _ _, below1 _ _⟩)⟩
  case round =>
    obtain ⟨rfl, HR⟩ := hrel
    rcases HR.out with ⟨rfl, hbox, hbw⟩ | ⟨rfl, hbox, av', hT', hsub, hmd⟩
    · have Hv0 := Lib.hid (hbox)
      have HW0 := Lib.hid (hbw)
      clear hbox hbw HR
      have HT0 := Lib.hid (tabW_below HT.out HW0.out)
      have hz0 := HW0.out.size
      have hyt : t < wr.heap.size := by omega
      have hyv : w.heap.size < wr.heap.size := (Array.getElem?_eq_some_iff.1 Hv0.out).1
      have t0 : wr.cell? ⟨t, 0, none⟩ = some (.slice so A.length cap) := by rw [cell_of_heap HT0.out.ht]; rfl
      have ft0 : wr.frozen? ⟨t, 0, none⟩ = false := frozen_of_heap HT0.out.ht _
      obtain ⟨v0, v1, v2, v3, v4⟩ := cells5 Hv0.out
      obtain ⟨fv0, fv1, fv2, fv3, fv4⟩ := froz5 Hv0.out
      go_wp2
      refine wp_region_lex mixed (by kernel_rfl) ?_
      go_wp2_with (at_builtin; refine wpList_append_one rfl (.tmp 21) (.tmp 23) rfl (.slice so A.length cap) A rfl (listW_below HT0.out.lw ((Below.refl _ _).drew.alloc (Nat.le_refl _) _)) (by omega) _ 1 ⟨k, p, q, s, r⟩ rfl (cell_one _ ⟨k, p, q, s, r⟩) ?_)
      intro v' w' h2 h3 h4
      have hlen : (A ++ [(⟨k, p, q, s, r⟩ : V)]).length = A.length + 1 := by simp
      obtain ⟨so2, cap2, e2, hcap2⟩ := listW_shape h2
      rw [hlen] at e2
      subst e2
      clear hlen
      have hgrow := tabW_grow (tabW_below HT0.out ((Below.refl _ _).drew.alloc (Nat.le_refl _) _)) HX.out h2 h3
      have hsz3 := h3.size
      simp at hsz3
      have HG := Lib.hid (hgrow)
      have hbz : w'.heap[w.heap.size]? = some (oV k p q s r) := (h3.block w.heap.size (by simp; omega) (fun e => by have := listW_lt HT.out.lw e.symm; omega)).trans (heap1_old (w := wr.drew) Hv0.out _)
      have HBZ := Lib.hid (hbz)
      have HSUB := Lib.hid (sub_of h4 (show w.heap.size ≤ _ by omega))
      have HNE := Lib.hid (own_ne (b := w.heap.size) h4 (fun g hg => listW_lt HT.out.lw hg) (by omega))
      clear h2 h3 h4 hgrow hbz v0 v1 v2 v3 v4 fv0 fv1 fv2 fv3 fv4 t0 ft0 hyt hyv
      have t0 : w'.cell? ⟨t, 0, none⟩ = some (.slice so A.length cap) := by rw [cell_of_heap HG.out.2.2]; rfl
      have ft0 : w'.frozen? ⟨t, 0, none⟩ = false := frozen_of_heap HG.out.2.2 _
      have hyt : t < w'.heap.size := by omega
      go_wp2
      refine ⟨by kernel_rfl, ?_⟩
      obtain ⟨W3, hW3⟩ : ∃ W3, W3 = w'.setCell ⟨t, 0, none⟩ (.slice so2 (A.length + 1) cap2) := ⟨_, rfl⟩
      have HT3 := Lib.hid ((show TabW W3 t m g sv L (.slice so2 (A.length + 1) cap2) (A ++ [(⟨k, p, q, s, r⟩ : V)]) by rw [hW3]; exact HG.out.1))
      have HM3 := Lib.hid ((show Mods (TbF t (.slice so A.length cap)) w W3 by rw [hW3]; exact Mods.trans (Mods.of_below (HW0.out.drew.alloc HW0.out.size _)) HG.out.2.1))
      have HV3 := Lib.hid ((show W3.heap[w.heap.size]? = some (oV k p q s r) by rw [hW3, Below.heap_setCell _ _ _ _ (show w.heap.size ≠ t by omega)]; exact HBZ.out))
      have hz3 : wr.heap.size ≤ W3.heap.size := by rw [hW3]; simp; omega
      rw [show w'.setCell ⟨t, 0, none⟩ (.slice so2 (A.length + 1) cap2) = W3 from hW3.symm]
      clear hW3 t0 ft0 hyt
      have HN1 := Lib.hid (fun W (hb : Below W3.heap.size W3 W) => pomNext_miss W m g sv L (om_keep_below HT3.out.om hb) 2 ((A.length : Int) + 1) 1 ⟨#[]⟩ 0 (wf_num (by omega) (by omega)) (eqv_num _) HA1.out)
      have HOI := Lib.hid (fun W => pOfInt_top W ((A.length : Int) + 1) (by omega) (by omega))
      go_upto_region 4 with fail
      go_cut [4, 8] (fun s4 s8 wx => s4 = .bool false ∧ s8 = .int .i64 13 ∧ Hid (Below W3.heap.size W3 wx))
      case first =>
        have SO := Lib.hid (fun (W : World) (hb : Below W3.heap.size W3 W) => (show W.cell? ⟨t, 0, none⟩ = some (.slice so2 (A.length + 1) cap2) ∧ W.cell? ⟨t, 1, none⟩ = some (.pointer (some ⟨m, 0, none⟩)) ∧ Hid (Below W3.heap.size W3 W) from ⟨(cells2 (hkeep hb HT3.out.ht)).1, (cells2 (hkeep hb HT3.out.ht)).2, Lib.hid hb⟩))
        have BA := Lib.hid (fun (W : World) (o : Obj) (hb : Below W3.heap.size W3 W) => (show Below W3.heap.size W3 (W.alloc o) from hb.alloc hb.size o))
        have BD := Lib.hid (fun (W : World) (hb : Below W3.heap.size W3 W) => (show Below W3.heap.size W3 W.drew from hb.drew))
        have B5 := Lib.hid (fun (W : World) (b : Nat) (c0 c1 c2 c3 c4 : Value) (hb : Below W3.heap.size W3 W) (hbb : W3.heap.size ≤ b) => below_five hb hbb c0 c1 c2 c3 c4)
        have hbR : Below W3.heap.size W3 W3 := Below.refl _ _
        have hbD : Below W3.heap.size W3 W3.drew := (Below.refl _ _).drew
        go_region_held3 (fun w' => w'.cell? ⟨t, 0, none⟩ = some (.slice so2 (A.length + 1) cap2) ∧ w'.cell? ⟨t, 1, none⟩ = some (.pointer (some ⟨m, 0, none⟩)) ∧ Hid (Below W3.heap.size W3 w'))
          (with_reducible refine SO.out _ ?_; repeat (first | with_reducible assumption | (with_reducible refine BA.out _ _ ?_) | (with_reducible refine BD.out _ ?_) | (with_reducible refine B5.out _ _ _ _ _ _ _ ?_ ?_) | omega))
          (first | (go_at_call 54; (with_reducible refine (HOI.out _).mono ?_); rintro e nw1 ⟨rfl, hb⟩; have hb1 := below_next (prj2a (by assumption)) hb; have hz1 := hb1.size; (first | (with_reducible have Hza := Lib.hid (hkeep hb (heap_newD W3 oZ))) | (with_reducible have Hza := Lib.hid (hkeep hb (heap_new W3 oZ))) | (with_reducible have Hza := Lib.hid (hkeep hb (heap2_aD W3 oZ oZ))) | (with_reducible have Hza := Lib.hid (hkeep hb (heap2_a W3 oZ oZ))) | skip); (first | (with_reducible have Hzb := Lib.hid (hkeep hb (heap2_bD W3 oZ oZ))) | (with_reducible have Hzb := Lib.hid (hkeep hb (heap2_b W3 oZ oZ))) | skip); (try have hza1 := (Array.getElem?_eq_some_iff.1 Hza.out).1); (try have hzb1 := (Array.getElem?_eq_some_iff.1 Hzb.out).1); clear hb) | (go_at_call 99; (with_reducible refine (HN1.out _ (prj2a (by assumption))).mono ?_); rintro e nw2 ⟨rfl, hb⟩; have hb2 := below_next (prj2a (by assumption)) hb; have hz2 := hb2.size; (first | ((with_reducible have Hqp := Lib.hid (hkeep hb (Hza.out))); (obtain ⟨plt, pa0, pa1, pa2, pa3, pa4, pf0, pf1, pf2, pf3, pf4⟩ := box5 Hqp.out)) | ((with_reducible have Hqp := Lib.hid (hkeep hb (heap1_old Hza.out _))); (obtain ⟨plt, pa0, pa1, pa2, pa3, pa4, pf0, pf1, pf2, pf3, pf4⟩ := box5 Hqp.out)) | ((with_reducible have Hqp := Lib.hid (hkeep hb (heap1_old (heap1_old Hza.out _) _))); (obtain ⟨plt, pa0, pa1, pa2, pa3, pa4, pf0, pf1, pf2, pf3, pf4⟩ := box5 Hqp.out)) | skip); (first | ((with_reducible have Hqq := Lib.hid (hkeep hb (Hzb.out))); (obtain ⟨qlt, qa0, qa1, qa2, qa3, qa4, qf0, qf1, qf2, qf3, qf4⟩ := box5 Hqq.out)) | ((with_reducible have Hqq := Lib.hid (hkeep hb (heap1_old Hzb.out _))); (obtain ⟨qlt, qa0, qa1, qa2, qa3, qa4, qf0, qf1, qf2, qf3, qf4⟩ := box5 Hqq.out)) | ((with_reducible have Hqq := Lib.hid (hkeep hb (heap1_old (heap1_old Hzb.out _) _))); (obtain ⟨qlt, qa0, qa1, qa2, qa3, qa4, qf0, qf1, qf2, qf3, qf4⟩ := box5 Hqq.out)) | skip); (first | ((with_reducible have Hqu := Lib.hid (hkeep hb (heap_new nw1 oZ))); (obtain ⟨ult, ua0, ua1, ua2, ua3, ua4, uf0, uf1, uf2, uf3, uf4⟩ := box5 Hqu.out)) | ((with_reducible have Hqu := Lib.hid (hkeep hb (heap2_a nw1 oZ oZ))); (obtain ⟨ult, ua0, ua1, ua2, ua3, ua4, uf0, uf1, uf2, uf3, uf4⟩ := box5 Hqu.out)) | skip); (first | ((with_reducible have Hqv := Lib.hid (hkeep hb (heap2_b nw1 oZ oZ))); (obtain ⟨vlt, va0, va1, va2, va3, va4, vf0, vf1, vf2, vf3, vf4⟩ := box5 Hqv.out)) | skip); clear hb))
        all_goals
          go_wp2_with fail
          go_meet
          exact ⟨rfl, rfl, Lib.hid (prj2a (by assumption))⟩
      case rest =>
        obtain ⟨rfl, rfl, hbx⟩ := hcut
        have HT4 := Lib.hid (tabW_below HT3.out hbx.out)
        have HV4 := Lib.hid (hkeep hbx.out HV3.out)
        have HM4 := Lib.hid (Mods.trans HM3.out (Mods.of_below hbx.out))
        have hz4 := hbx.out.size
        clear hbx
        have HG4 := Lib.hid (fun W (hb : OMap W m g sv L) => (show Calls Tryz.prog 78 #[.pointer (some ⟨m, 0, none⟩), .agg #[.int .i64 2, .int .i64 ((A.length : Int) + 1 + 1), .int .i64 1, .string ⟨#[]⟩, .int .i64 0]] W (fun e w' => e = .returned (.agg #[.int .i64 0, .int .i64 0, .int .i64 0, .string ⟨#[]⟩, .int .i64 0]) ∧ Below W.heap.size W w') from by have h := pomGet_c W m g sv L hb hL 2 ((A.length : Int) + 1 + 1) 1 ⟨#[]⟩ 0 (wf_num (by omega) (by omega)); rw [HA2.out] at h; exact h))
        have HOJ := Lib.hid (fun W => (show Calls Tryz.prog 54 #[.int .i64 (IntKind.i64.wrap ((A.length : Int) + 1 + 1))] W (fun e w' => e = .returned (.agg #[.int .i64 2, .int .i64 ((A.length : Int) + 1 + 1), .int .i64 1, .string ⟨#[]⟩, .int .i64 0]) ∧ Below W.heap.size W w') from by rw [w64_in (by omega) (by omega)]; exact pOfInt_top W ((A.length : Int) + 1 + 1) (by omega) (by omega)))
        have SO := Lib.hid (fun (W : World) (hb : Mods (fun b => b = w.heap.size) wc W) => (show W.cell? ⟨t, 0, none⟩ = some (.slice so2 (A.length + 1) cap2) ∧ W.cell? ⟨t, 1, none⟩ = some (.pointer (some ⟨m, 0, none⟩)) ∧ Hid (Mods (fun b => b = w.heap.size) wc W) from ⟨(cells2 (mkeep hb HT4.out.ht (by omega))).1, (cells2 (mkeep hb HT4.out.ht (by omega))).2, Lib.hid hb⟩))
        have SO5 := Lib.hid (fun (W : World) (c0 c1 c2 c3 c4 : Value) (hb : Mods (fun b => b = w.heap.size) wc W) => SO.out _ (mods_setCell (mods_setCell (mods_setCell (mods_setCell (mods_setCell hb (.inl rfl) c0 (o := 0)) (.inl rfl) c1 (o := 1)) (.inl rfl) c2 (o := 2)) (.inl rfl) c3 (o := 3)) (.inl rfl) c4 (o := 4)))
        have TO := Lib.hid (fun (W : World) (hb : Mods (fun b => b = w.heap.size) wc W) => (tabW_mods HT4.out HV4.out HNE.out hb).om)
        have hbR : Mods (fun b => b = w.heap.size) wc wc := Mods.refl _ _
        have hbD : Mods (fun b => b = w.heap.size) wc wc.drew := Mods.of_below (Below.refl _ _).drew
        go_wp2
        go_region_held3 (fun w' => w'.cell? ⟨t, 0, none⟩ = some (.slice so2 (A.length + 1) cap2) ∧ w'.cell? ⟨t, 1, none⟩ = some (.pointer (some ⟨m, 0, none⟩)) ∧ Hid (Mods (fun b => b = w.heap.size) wc w'))
          (first | with_reducible exact SO.out _ (by assumption) | with_reducible exact SO5.out _ _ _ _ _ _ (by assumption))
          (first | (go_at_call 54; (with_reducible refine (HOJ.out _).mono ?_); rintro e nw3 ⟨rfl, hb⟩; have hb3 := mods_next (prj2a (by assumption)) hb; have HV5 := Lib.hid (hkeep hb HV4.out); clear hb) | (go_at_call 78; (with_reducible refine (HG4.out _ (TO.out _ (prj2a (by assumption)))).mono ?_); rintro e nw4 ⟨rfl, hb⟩; have hb4 := mods_next (prj2a (by assumption)) hb; have HV6 := Lib.hid (hkeep hb HV5.out); (obtain ⟨v0, v1, v2, v3, v4⟩ := cells5 HV6.out); (obtain ⟨fv0, fv1, fv2, fv3, fv4⟩ := froz5 HV6.out); clear hb))
        go_wp2
        go_roundg 0
        case measure => omega
        case rel =>
          refine ⟨rfl, Lib.hid (.inr ⟨rfl, heap_five_at HV6.out _ _ _ _ _, _, tabW_mods HT4.out HV4.out HNE.out (mods_setCell (mods_setCell (mods_setCell (mods_setCell (mods_setCell hb4 (.inl rfl) _) (.inl rfl) _) (.inl rfl) _) (.inl rfl) _) (.inl rfl) _), HSUB.out, ?_⟩)⟩
          exact mods_new HM4.out (Nat.le_refl _) (mods_setCell (mods_setCell (mods_setCell (mods_setCell (mods_setCell hb4 (.inl rfl) _) (.inl rfl) _) (.inl rfl) _) (.inl rfl) _) (.inl rfl) _)
    · have Hv0 := Lib.hid (hbox)
      have HT0 := Lib.hid (hT')
      have HS0 := Lib.hid (hsub)
      have HM0 := Lib.hid (hmd)
      clear hbox hT' hsub hmd HR
      have hyv : w.heap.size < wr.heap.size := (Array.getElem?_eq_some_iff.1 Hv0.out).1
      obtain ⟨v0, v1, v2, v3, v4⟩ := cells5 Hv0.out
      obtain ⟨fv0, fv1, fv2, fv3, fv4⟩ := froz5 Hv0.out
      go_wp2
      refine bodyPost_ret (by simp [results, Tryz.results82, go_sem]; first | done | rfl) rfl ?_
      exact ⟨rfl, av', HT0.out, HS0.out, HM0.out⟩
set_option maxRecDepth 100000 in
set_option maxHeartbeats 2000000 in
theorem twSet_push (w : World) (t m g : Nat) (sv : Value) (L : List Sl) (av : Value) (A : List V) (hT : TabW w t m g sv L av A) (hl : A.length ≤ 100000) (hL : L.length ≤ 1000) (x : Int) (hx : x = (A.length : Int) + 1) (s : ByteArray) (r : Int) (hk : validV ⟨2, x, 1, s, r⟩ = true)
    (k2 p2 q2 : Int) (s2 : ByteArray) (r2 : Int) (hv : validV ⟨k2, p2, q2, s2, r2⟩ = true) (hw : WfV ⟨k2, p2, q2, s2, r2⟩) (hn : k2 ≠ 0)
    (ha1 : ∀ x ∈ L, x.k ≠ ⟨2, (A.length : Int) + 1, 1, ⟨#[]⟩, 0⟩) (ha2 : getM L ⟨2, (A.length : Int) + 1 + 1, 1, ⟨#[]⟩, 0⟩ = V.nil) :
    Calls Tryz.prog 46 #[.pointer (some ⟨t, 0, none⟩), .agg #[.int .i64 2, .int .i64 x, .int .i64 1, .string s, .int .i64 r], .agg #[.int .i64 k2, .int .i64 p2, .int .i64 q2, .string s2, .int .i64 r2]] w (TSetPost w t m g sv L av (A ++ [⟨k2, p2, q2, s2, r2⟩])) := by
  subst hx
  obtain ⟨so, cap, rfl, hcap⟩ := listW_shape hT.lw
  have HV1 := Lib.hid (fun W => (show Calls Tryz.prog 43 #[.agg #[.int .i64 2, .int .i64 ((A.length : Int) + 1), .int .i64 1, .string s, .int .i64 r]] W (BoolPost W true) from by have h := pvalidV_c W 2 ((A.length : Int) + 1) 1 s r; rw [hk] at h; exact h))
  have HV2 := Lib.hid (fun W => (show Calls Tryz.prog 43 #[.agg #[.int .i64 k2, .int .i64 p2, .int .i64 q2, .string s2, .int .i64 r2]] W (BoolPost W true) from by have h := pvalidV_c W k2 p2 q2 s2 r2; rw [hv] at h; exact h))
  have HI := Lib.hid (fun W => (show Calls Tryz.prog 77 #[.agg #[.int .i64 2, .int .i64 ((A.length : Int) + 1), .int .i64 1, .string s, .int .i64 r]] W (IntBool W ((A.length : Int) + 1) true) from by have h := tint_c W 2 ((A.length : Int) + 1) 1 s r; rw [show intB ⟨2, (A.length : Int) + 1, 1, s, r⟩ = true from by unfold intB; rw [hk]; rfl] at h; exact h))
  have HADD := Lib.hid (fun W (hb : Below w.heap.size w W) => tadd_c W t m g sv L _ A (tabW_below hT hb) hl hL k2 p2 q2 s2 r2 hv hw hn ha1 ha2)
  have HT := Lib.hid (hT)
  have htl : t < w.heap.size := (Array.getElem?_eq_some_iff.1 hT.ht).1
  have d1 : decide (((A.length : Int) + 1) ≥ 1) = true := decide_eq_true (by omega)
  have d2 : decide (((A.length : Int) + 1) ≤ (A.length : Int)) = false := decide_eq_false (by omega)
  have d3 : ¬ ((A.length : Int) + 1) ≤ (A.length : Int) := by omega
  have d4 : (k2 != 0) = true := bne_iff_ne.2 hn
  have d5 : (A.length : Int) ≤ 100000 := by omega
  clear hT hk hv hw hn ha1 ha2
  go_enter Tryz.func46, Tryz.ntmps46
  go_wp2_with fail
  refine (HV1.out _).mono ?_
  rintro e w1 ⟨rfl, hb⟩
  have Ha1 := Lib.hid (hkeep hb (heap2_a w (oV 2 ((A.length : Int) + 1) 1 s r) (oV k2 p2 q2 s2 r2)))
  have Hb1 := Lib.hid (hkeep hb (heap2_b w (oV 2 ((A.length : Int) + 1) 1 s r) (oV k2 p2 q2 s2 r2)))
  have HW1 := Lib.hid (below_next (below2w _ _ _) hb)
  clear hb
  obtain ⟨b0, b1, b2, b3, b4⟩ := cells5 Hb1.out
  obtain ⟨fb0, fb1, fb2, fb3, fb4⟩ := froz5 Hb1.out
  go_wp2_with fail
  refine (HV2.out _).mono ?_
  rintro e w2 ⟨rfl, hb⟩
  have Ha2 := Lib.hid (hkeep hb Ha1.out)
  have Hb2 := Lib.hid (hkeep hb Hb1.out)
  have HW2 := Lib.hid (below_next HW1.out hb)
  clear hb b0 b1 b2 b3 b4 fb0 fb1 fb2 fb3 fb4
  obtain ⟨a0, a1, a2, a3, a4⟩ := cells5 Ha2.out
  obtain ⟨fa0, fa1, fa2, fa3, fa4⟩ := froz5 Ha2.out
  go_wp2_with fail
  refine (HI.out _).mono ?_
  rintro e w3 ⟨rfl, hb⟩
  have Hb3 := Lib.hid (hkeep hb Hb2.out)
  have HW3 := Lib.hid (below_next HW2.out hb)
  clear hb a0 a1 a2 a3 a4 fa0 fa1 fa2 fa3 fa4
  have t0 : w3.cell? ⟨t, 0, none⟩ = some (.slice so A.length cap) := by rw [cell_of_heap (hkeep HW3.out HT.out.ht)]; rfl
  have hz3 := HW3.out.size
  have hyb : w.heap.size + 1 < w3.heap.size := (Array.getElem?_eq_some_iff.1 Hb3.out).1
  have hyt : t < w3.heap.size := by omega
  obtain ⟨b0, b1, b2, b3, b4⟩ := cells5 Hb3.out
  obtain ⟨fb0, fb1, fb2, fb3, fb4⟩ := froz5 Hb3.out
  go_wp2_with fail
  refine (HADD.out _ HW3.out).mono ?_
  rintro e w4 ⟨rfl, av', hT', hsub, hmd⟩
  have HT4 := Lib.hid (hT')
  have HS4 := Lib.hid (hsub)
  have HM4 := Lib.hid (Mods.trans (Mods.of_below HW3.out) hmd)
  clear hT' hsub hmd t0 b0 b1 b2 b3 b4 fb0 fb1 fb2 fb3 fb4
  go_wp2
  go_ret
  exact ⟨rfl, av', HT4.out, fun b hb => (HS4.out b hb).imp id (fun h => by omega), HM4.out⟩
end Go.Proofs.YtpbcmlnjiocmoaaGreatDoorR
