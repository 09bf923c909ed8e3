import Derived.Test.YtpbcmlnjiocmoaaGreatDoorRJa
import Derived.Test.YtpbcmlnjiocmoaaGreatDoorRKd
import Derived.Test.YtpbcmlnjiocmoaaGreatDoorRLv
set_option linter.unusedVariables false
set_option linter.unusedSimpArgs false
set_option maxRecDepth 100000
set_option maxHeartbeats 40000000
namespace Go.Proofs.YtpbcmlnjiocmoaaGreatDoorR
open Go.RowKit Go.Proofs.Lexi
theorem fieldsK_c (w : World) (h : Nat) {base n : Nat} {M : LH} {AA : List (List V)} {O : Nat → Prop} (hP : PHp base n w h M AA O) (hn : n ≤ 1000) {ti : Nat} (hti : ti ≤ 100000) {o : LO} {A : List V} (hM : M[ti]? = some o) (hA : AA[ti]? = some A) (h4 : o.kind = 4) (hl : A.length ≤ 1000) (m : Int) (k : Nat) (hm : m = (k : Int)) (hk : A.length = k) :
    Calls Tryz.prog 15 #[.pointer (some ⟨h, 0, none⟩), tabA ti, .int .i64 m] w (fun e w' => ∃ so cap, e = .returned (.slice so k cap) ∧ Vals w' (.slice so k cap) A ∧ Below w.heap.size w w') := by
  refine (kFields_c w h hP hn hti hM hA h4 hl m k hm (by omega)).mono ?_
  rintro e w' ⟨so, cap, rfl, hr, hb⟩
  rw [List.take_of_length_le (by omega)] at hr
  refine ⟨so, cap, ?_, ?_, hb⟩
  · rw [List.take_of_length_le (by omega), hk]
  · have := Vals.of_row hr
    rwa [hk] at this
set_option maxRecDepth 100000 in
set_option maxHeartbeats 40000000 in
theorem insert_law (w : World) (htab : Pow10 w) (so : Option Addr) (cap : Nat) (l : List Nat) (a x : Nat) (hS : Oct w so l) (hl : l.length ≤ 100) (hB : ∀ y ∈ l, y ≤ 255) (ha : a ≤ 255) (hx : x ≤ 255) (hcap : l.length ≤ cap) :
    Calls Tryz.prog 4 #[.slice so l.length cap, .int .u8 (a : Int), .int .u8 (x : Int)] w (BoolPost w true) := by
  have HTB := Lib.hid (fun W (hb : Below w.heap.size w W) => htab.stays hb)
  have HLV := Lib.hid (fun W (hb : Below w.heap.size w W) => lives_c W (htab.stays hb))
  have HNU := Lib.hid (fun W x => kNum_c W x)
  have HS := Lib.hid (hS)
  have HBy := Lib.hid (hB)
  have d1 : decide ((l.length : Int) > 100) = false := decide_eq_false (by omega)
  clear htab hS hB
  go_enter Tryz.func4, Tryz.ntmps4
  go_wp2_with fail
  refine (pNew_c _).mono ?_
  rintro e w1 ⟨h, rfl, hP1, hb1⟩
  have HP1 := Lib.hid (hP1)
  have HW1 := Lib.hid (hb1)
  have hz1 := hb1.size
  clear hP1 hb1
  go_wp2
  go_loopg [8, 9] l.length (fun gg s8 s9 wr => ∃ i so2 cap2, i + gg = l.length ∧ s9 = .int .i64 (i : Int) ∧ s8 = .slice so2 i cap2 ∧ Hid (LiR w1 l i (.slice so2 i cap2) wr))
  case atStart => exact ⟨0, none, 0, by omega, rfl, rfl, World.ownsRow_nil _ _ _ _, Below.refl _ _⟩
  case round =>
    obtain ⟨i, so2, cap2, hi, rfl, rfl, HR⟩ := hrel
    have HRo := Lib.hid (HR.out.1)
    have HB := Lib.hid (HR.out.2)
    have hzr := HB.out.size
    clear HR
    by_cases hlt : i < l.length
    · have d3 : decide ((i : Int) < (l.length : Int)) = true := decide_eq_true (by omega)
      obtain ⟨s, hs⟩ : ∃ s, l[i]? = some s := ⟨_, List.getElem?_eq_getElem hlt⟩
      obtain ⟨gs, og, rfl, hcells⟩ := HS.out.resolve_left (fun e => by rw [e] at hlt; simp at hlt)
      have hbr := below_next HW1.out HB.out
      have hc0 : wr.cell? ⟨gs, og + i, none⟩ = some (.int .u8 (s : Int)) := keepCell hbr (hcells i s hs)
      have hgs : gs < wr.heap.size := World.block_lt_of_cell? _ _ hc0
      have hs255 : s ≤ 255 := HBy.out s (List.mem_of_getElem? hs)
      have hws : IntKind.i64.wrap (s : Int) = (s : Int) := w64_in (by omega) (by omega)
      have Hs := Lib.hid (hs)
      have HBr := Lib.hid (hbr)
      clear hcells hbr hs
      go_wp2_with fail
      refine (HNU.out _ (s : Int)).mono ?_
      rintro e w2 ⟨rfl, hb⟩
      have HB2 := Lib.hid (below_next HB.out hb)
      have HRo2 := Lib.hid (ownsRow_ext (below_ext hb (Nat.le_refl _)) HRo.out)
      have hz2 := HB2.out.size
      clear hb hc0
      go_wp2_with (at_builtin; refine wpList_append_vals rfl (.tmp 39) (.tmp 46) rfl w1.heap.size (.slice so2 i cap2) i _ rfl (ownsRow_ext (below_ext (below1 _ _) (Nat.le_refl _)) HRo2.out) _ [numU s] rfl (vals_one _ (numU s)) (by simp; omega) (by simp; omega) ?_)
      intro so5 cap5 w5 hown hgrow
      have HO5 := Lib.hid (hown)
      have HB5 := Lib.hid (below_grown (HB2.out.alloc HB2.out.size _) hgrow (by simp; omega) (fun b hb => (ownBlock_lt HRo2.out hb).1))
      clear hown hgrow
      go_wp2
      go_roundg (l.length - (i + 1))
      case measure => omega
      case rel =>
        refine ⟨i + 1, so5, cap5, by omega, by push_cast; rfl, rfl, ?_, HB5.out⟩
        rw [show (l.map numU).take (i + 1) = (l.map numU).take i ++ [numU s] by rw [List.take_add_one, List.getElem?_map, Hs.out]; rfl, rowV_append]
        exact HO5.out
    · have hii : i = l.length := by omega
      subst hii
      have d3 : decide ((l.length : Int) < (l.length : Int)) = false := decide_eq_false (by omega)
      have HBr := Lib.hid (below_next HW1.out HB.out)
      have hrow : wr.ownsRow w1.heap.size 30 5 (.slice so2 (l.map numU).length cap2) (l.map numU).length (rowV (l.map numU)) := by have := HRo.out; rw [List.take_of_length_le (by simp)] at this; rwa [List.length_map]
      obtain ⟨g5, cs5, hG5⟩ : ∃ g5 cs5, l.map numU = [] ∨ (∃ o, so2 = some ⟨g5, o, none⟩) ∧ Held wr (fun _ => False) g5 (.cells cs5 30) := by
        rcases hrow.2 with ⟨_, e⟩ | ⟨g, cap', cur, e, _, hg, _⟩
        · exact ⟨0, #[], .inl (List.eq_nil_of_length_eq_zero e)⟩
        · injection e with e _ _
          exact ⟨g, cur, .inr ⟨⟨0, e⟩, hg, fun h => h⟩⟩
      have hlist := list_c wr h (HP1.out.below HB.out) (by omega) so2 cap2 (l.map numU) (by rw [List.length_map]; omega) (by decide) rfl (Vals.of_row hrow) g5 cs5 hG5 (numU_ok HBy.out)
      rw [List.length_map] at hlist
      have HLI := Lib.hid (hlist)
      have HVS := Lib.hid (Vals.of_row hrow)
      have hwa : IntKind.i64.wrap (a : Int) = (a : Int) := w64_in (by omega) (by omega)
      have hwx : IntKind.i64.wrap (x : Int) = (x : Int) := w64_in (by omega) (by omega)
      obtain ⟨p, hp⟩ : ∃ p, p = a % (l.length + 1) := ⟨_, rfl⟩
      have hpl : p ≤ l.length := by rw [hp]; exact Nat.lt_succ_iff.1 (Nat.mod_lt _ (Nat.succ_pos _))
      have hmod : (a : Int).tmod ((l.length : Int) + 1) = (p : Int) := by rw [hp, Int.tmod_eq_emod_of_nonneg (by omega)]; push_cast; rfl
      clear hlist hrow hp
      go_wp2_with fail
      refine HLI.out.mono ?_
      rintro e w6 ⟨rfl, O6, hP6, hq6⟩
      have HP6 := Lib.hid (hP6)
      have HQ6 := Lib.hid (hq6)
      have HB6 := Lib.hid ((show Below w.heap.size w w6 from HBr.out.trans (hq6.below (by omega))))
      have hz6 := HB6.out.size
      clear hP6 hq6
      go_upto_region 11 with fail
      obtain ⟨W7, hW7⟩ : ∃ W7, W7 = w6.alloc (oV 4 0 0 ⟨#[]⟩ 1) := ⟨_, rfl⟩
      have HB7 := Lib.hid ((show Below w.heap.size w W7 by rw [hW7]; exact HB6.out.alloc HB6.out.size _))
      have HT7 := Lib.hid ((show W7.heap[w6.heap.size]? = some (oV 4 0 0 ⟨#[]⟩ 1) by rw [hW7]; exact heap1 _ _))
      have HQ7 := Lib.hid ((show QS w.heap.size (fun _ => False) wr O6 W7 by rw [hW7]; exact HQ6.out.trans (QS.of_below (below1 _ _))))
      have HP7 := Lib.hid ((show PHp w.heap.size (0 + l.length) W7 h ([] ++ [⟨4, V.nil, []⟩]) ([] ++ [l.map numU]) O6 by rw [hW7]; exact HP6.out.below (below1 _ _)))
      have hz7 : w6.heap.size < W7.heap.size := (Array.getElem?_eq_some_iff.1 HT7.out).1
      have HOL := Lib.hid ((HP6.out.lt))
      try rw [show w6.alloc (oV 4 0 0 ⟨#[]⟩ 1) = W7 from hW7.symm]
      clear hW7
      have HBG := Lib.hid (fun (W : World) (m : Nat) (hb : Below W7.heap.size W7 W) (hX : W.heap[m]? = some (.cells #[.int .i64 4, .int .i64 0, .int .i64 0, .string ⟨#[]⟩, .int .i64 1, .int .i64 2, .int .i64 (1 + (p : Int)), .int .i64 1, .string ⟨#[]⟩, .int .i64 0, .int .i64 2, .int .i64 (x : Int), .int .i64 1, .string ⟨#[]⟩, .int .i64 0] 30)) (hm : W7.heap.size ≤ m) => (show Calls Tryz.prog 12 #[.pointer (some ⟨h, 0, none⟩), .string ⟨#[116, 97, 98, 108, 101, 46, 105, 110, 115, 101, 114, 116]⟩, .slice (some ⟨m, 0, none⟩) 3 3] W (PrP w.heap.size (0 + l.length + 1) O6 h ([] ++ [⟨4, V.nil, []⟩]) ([] ++ [insM (l.map numU) p (numU x)]) 1 V.nil [] ⟨#[]⟩ 0 0 [] W) from insert_begin W h (HP7.out.below hb) (by have := hb.size; omega) (by omega) (ti := 0) (by decide) (o := ⟨4, V.nil, []⟩) (A := l.map numU) rfl rfl rfl (fun y hy => by cases hy) (fun v hv => (numU_ok HBy.out v hv).1) p (by rw [List.length_map]; exact hpl) (by rw [List.length_map]; omega) (1 + (p : Int)) (by omega) 2 (x : Int) 1 ⟨#[]⟩ 0 (by decide) (valid_num (by omega) (by omega)) (wf_num (by omega) (by omega)) m ⟨hX, fun e => by have := HOL.out _ e; omega⟩))
      go_cut [13] (fun s13 wx => ∃ nb so3 cap3 sk3 ck3, s13 = .pointer (some ⟨nb, 0, none⟩) ∧ Hid (∃ Ox, wx.heap[nb]? = some (.cells #[.int .i64 1, .int .i64 0, .int .i64 0, .int .i64 0, .int .i64 0, .string ⟨#[]⟩, .int .i64 0, .slice so3 0 cap3, .string ⟨#[]⟩, .int .i64 0, .int .i64 0, .slice sk3 0 ck3] 35) ∧ PHp w.heap.size (0 + l.length + 1) wx h ([] ++ [⟨4, V.nil, []⟩]) ([] ++ [insM (l.map numU) p (numU x)]) Ox ∧ QS w.heap.size O6 W7 Ox wx))
      case first =>
        have SOQ := Lib.hid (fun (W : World) (h1 : W.heap[w6.heap.size]? = some (oV 4 0 0 ⟨#[]⟩ 1)) => (show W.cell? ⟨w6.heap.size, 0, none⟩ = some (.int .i64 4) ∧ W.cell? ⟨w6.heap.size, 1, none⟩ = some (.int .i64 0) ∧ W.cell? ⟨w6.heap.size, 2, none⟩ = some (.int .i64 0) ∧ W.cell? ⟨w6.heap.size, 3, none⟩ = some (.string ⟨#[]⟩) ∧ W.cell? ⟨w6.heap.size, 4, none⟩ = some (.int .i64 1) from cells5 h1))
        have SO := Lib.hid (fun (W : World) (hb : Below W7.heap.size W7 W) => SOQ.out W (hkeep hb HT7.out))
        have SOA := Lib.hid (fun (W : World) (o : Obj) (h1 : W.heap[w6.heap.size]? = some (oV 4 0 0 ⟨#[]⟩ 1)) => SOQ.out (W.alloc o) (heap1_old h1 _))
        have SO12 := Lib.hid (fun (W : World) (b : Nat) (c0 c1 c2 c3 c4 c5 c6 c7 c8 c9 c10 c11 : Value) (h1 : W.heap[w6.heap.size]? = some (oV 4 0 0 ⟨#[]⟩ 1)) (hb : ¬ w6.heap.size = b) => SOQ.out ((((((((((((W.setCell ⟨b, 0, none⟩ c0).setCell ⟨b, 1, none⟩ c1).setCell ⟨b, 2, none⟩ c2).setCell ⟨b, 3, none⟩ c3).setCell ⟨b, 4, none⟩ c4).setCell ⟨b, 5, none⟩ c5).setCell ⟨b, 6, none⟩ c6).setCell ⟨b, 7, none⟩ c7).setCell ⟨b, 8, none⟩ c8).setCell ⟨b, 9, none⟩ c9).setCell ⟨b, 10, none⟩ c10).setCell ⟨b, 11, none⟩ c11) (heap12_old h1 hb _ _ _ _ _ _ _ _ _ _ _ _))
        have HKP := Lib.hid (fun (W W' : World) (Oz : Nat → Prop) (hb : Below W7.heap.size W7 W) (hq : QS w.heap.size O6 W Oz W') => (show W'.heap[w6.heap.size]? = some (oV 4 0 0 ⟨#[]⟩ 1) ∧ QS w.heap.size O6 W7 Oz W' from ⟨(hq.keep (hkeep hb HT7.out) (npb (by decide)) (fun e => by have := HOL.out _ e; omega)).1, (QS.of_below (base := w.heap.size) (O := O6) hb).trans hq⟩))
        have HBc := Lib.hid ((Below.refl W7.heap.size W7).drew)
        have HBz := Lib.hid (((Below.refl W7.heap.size W7).alloc (Nat.le_refl _) oAc).drew)
        have hzc := HBc.out.size
        go_region_held3 (fun w' => w'.cell? ⟨w6.heap.size, 0, none⟩ = some (.int .i64 4) ∧ w'.cell? ⟨w6.heap.size, 1, none⟩ = some (.int .i64 0) ∧ w'.cell? ⟨w6.heap.size, 2, none⟩ = some (.int .i64 0) ∧ w'.cell? ⟨w6.heap.size, 3, none⟩ = some (.string ⟨#[]⟩) ∧ w'.cell? ⟨w6.heap.size, 4, none⟩ = some (.int .i64 1))
          (first | with_reducible exact SO.out _ HBc.out | with_reducible exact SO.out _ HBz.out | with_reducible exact SO.out _ (HBc.out.alloc HBc.out.size _) | with_reducible exact SO.out _ ((HBc.out.alloc HBc.out.size _).alloc (HBc.out.alloc HBc.out.size _).size _) | with_reducible exact SOQ.out _ HXt.out | with_reducible exact SOA.out _ _ HXt.out | (with_reducible refine SO12.out _ _ _ _ _ _ _ _ _ _ _ _ _ _ HXt.out ?_; omega))
          (first | (go_at_call 14; (with_reducible refine (HNU.out _ _).mono ?_); rintro e nw ⟨rfl, hb⟩; (first | (with_reducible have Hz := Lib.hid (hkeep hb (heap_newD W7 oAc))) | (with_reducible have Hz := Lib.hid (hkeep hb (heap_new W7 oAc))) | (with_reducible have Hz := Lib.hid (hkeep hb (heap_new _ oAc))) | (with_reducible have Hz := Lib.hid (hkeep hb Hz.out)) | skip); have HBc := Lib.hid (below_next (by first | with_reducible exact HBc.out | with_reducible exact HBz.out | with_reducible exact HBc.out.alloc HBc.out.size _) hb); have hzc := HBc.out.size; clear hb) | (go_at_call 12; (with_reducible refine (HBG.out _ _ (by first | with_reducible exact HBc.out.alloc HBc.out.size _ | with_reducible exact (HBc.out.alloc HBc.out.size _).alloc (HBc.out.alloc HBc.out.size _).size _) (by first | exact heap_new _ _ | exact heap2_a _ _ _ | exact heap2_b _ _ _) (by first | omega | (simp <;> omega))).mono ?_); rintro e nw3 ⟨so3, cap3, sk3, ck3, O3, rfl, hr, hk, hP3, hq3, hno⟩; have HX2 := Lib.hid hP3; have HR3 := Lib.hid hr; have HXk := Lib.hid (HKP.out _ _ _ (by first | with_reducible exact HBc.out.alloc HBc.out.size _ | with_reducible exact (HBc.out.alloc HBc.out.size _).alloc (HBc.out.alloc HBc.out.size _).size _) hq3); have HXt := Lib.hid HXk.out.1; have hyz := HXk.out.2.size; (first | (with_reducible have HZ := Lib.hid (hq3.keep (heap2_b nw _ oAc) (npb (by decide)) (fun e => absurd (HOL.out _ e) (by first | omega | (simp <;> omega))))) | (with_reducible have HZ := Lib.hid (hq3.keep (heap2_a nw oAc _) (npb (by decide)) (fun e => absurd (HOL.out _ e) (by first | omega | (simp <;> omega))))) | (with_reducible have HZ := Lib.hid (hq3.keep (heap1_old Hz.out _) (npb (by decide)) (fun e => absurd (HOL.out _ e) (by first | omega | (simp <;> omega))))) | skip); (first | (have hza := (Array.getElem?_eq_some_iff.1 HZ.out.1).1; obtain ⟨z0, z1, z2, z3, z4, z5, z6, z7, z8, z9, z10, z11⟩ := cells12 HZ.out.1; obtain ⟨fz0, fz1, fz2, fz3, fz4, fz5, fz6, fz7, fz8, fz9, fz10, fz11⟩ := froz12 HZ.out.1) | skip); clear hr hk hP3 hq3 hno))
        all_goals
          go_wp2_with fail
          go_meet
          (try simp only [V.nil])
          first
          | (with_reducible exact ⟨_, so3, cap3, sk3, ck3, rfl, Lib.hid ⟨O3, leaf_alloc HX2.out HXk.out.2 _⟩⟩)
          | (with_reducible exact ⟨_, so3, cap3, sk3, ck3, rfl, Lib.hid ⟨O3, leaf_twelve HX2.out HXk.out.2 HZ.out.1 (by first | omega | (simp <;> omega)) _ _ _ _ _ _ _ _ _ _ _ _⟩⟩)
          | (trace_state; sorry)
      case rest =>
        obtain ⟨nb, so3, cap3, sk3, ck3, rfl, hx0⟩ := hcut
        obtain ⟨O2, hn2, hp2, hq2⟩ := hx0.out
        have HN := Lib.hid (hn2)
        have HP8 := Lib.hid (hp2)
        have HT8 := Lib.hid ((hq2.keep HT7.out (npb (by decide)) (fun e => by have := HOL.out _ e; omega)).1)
        have HNT := Lib.hid ((hq2.keep HT7.out (npb (by decide)) (fun e => by have := HOL.out _ e; omega)).2)
        have HQ8 := Lib.hid (HQ7.out.trans hq2)
        have HB8 := Lib.hid (HB7.out.trans (hq2.below (by omega)))
        have HFI := Lib.hid (fun W (hb : Below wc.heap.size wc W) => fieldsK_c W h (HP8.out.below hb) (by omega) (ti := 0) (by decide) (o := ⟨4, V.nil, []⟩) (A := insM (l.map numU) p (numU x)) rfl rfl rfl (by rw [ins_len _ _ _ (by rw [List.length_map]; exact hpl), List.length_map]; omega) ((l.length : Int) + 1) (l.length + 1) (by push_cast; rfl) (by rw [ins_len _ _ _ (by rw [List.length_map]; exact hpl), List.length_map]))
        have hz8 := hq2.size
        clear hx0 hn2 hp2 hq2
        have hyn : nb < wc.heap.size := (Array.getElem?_eq_some_iff.1 HN.out).1
        have hyt : w6.heap.size < wc.heap.size := (Array.getElem?_eq_some_iff.1 HT8.out).1
        obtain ⟨n0, n1, n2, n3, n4, n5, n6, n7, n8, n9, n10, n11⟩ := cells12 HN.out
        obtain ⟨fn0, fn1, fn2, fn3, fn4, fn5, fn6, fn7, fn8, fn9, fn10, fn11⟩ := froz12 HN.out
        obtain ⟨t0, t1, t2, t3, t4⟩ := cells5 HT8.out
        obtain ⟨ft0, ft1, ft2, ft3, ft4⟩ := froz5 HT8.out
        go_upto_region 14 with fail
        clear n0 n1 n2 n3 n4 n5 n6 n7 n8 n9 n10 n11
        go_wp2_with fail
        refine (HFI.out _ (Below.refl _ _)).mono ?_
        rintro e w10 ⟨sf, capf, rfl, hvf, hb⟩
        have HVF := Lib.hid (hvf)
        have HB10 := Lib.hid (below_next HB8.out hb)
        have HT10 := Lib.hid (hkeep hb HT8.out)
        have HP10 := Lib.hid (HP8.out.below hb)
        have HQ10 := Lib.hid (HQ8.out.trans (QS.of_below hb))
        have hz10 := HB10.out.size
        clear hb hvf hyn hyt t0 t1 t2 t3 t4 ft0 ft1 ft2 ft3 ft4
        have HVV := Lib.hid (fun (W : World) (hb : Below w10.heap.size w10 W) (i : Nat) (v : V) (hv : (l.map numU)[i]? = some v) => (show ∃ g o, so2 = some ⟨g, o, none⟩ ∧ g < W.heap.size ∧ W.cell? ⟨g, o + i * 5, none⟩ = some (.int .i64 v.k) ∧ W.cell? ⟨g, o + i * 5 + 1, none⟩ = some (.int .i64 v.p) ∧ W.cell? ⟨g, o + i * 5 + 2, none⟩ = some (.int .i64 v.q) ∧ W.cell? ⟨g, o + i * 5 + 3, none⟩ = some (.string v.s) ∧ W.cell? ⟨g, o + i * 5 + 4, none⟩ = some (.int .i64 v.r) from by rcases hG5 with e | ⟨⟨o, rfl⟩, hh⟩; exact absurd hv (by rw [e]; simp); have hk := (HQ10.out.keep hh.1 (npb (by decide)) (fun e => e)).1; exact ⟨g5, o, rfl, Vals.at_ (Vals.below (vals_held HVS.out (hk.trans hh.1.symm) (Array.getElem?_eq_some_iff.1 hk).1) hb) hv⟩))
        have HVG := Lib.hid (fun (W : World) (hb : Below w10.heap.size w10 W) (i : Nat) (v : V) (hv : (insM (l.map numU) p (numU x))[i]? = some v) => (show ∃ g o, sf = some ⟨g, o, none⟩ ∧ g < W.heap.size ∧ W.cell? ⟨g, o + i * 5, none⟩ = some (.int .i64 v.k) ∧ W.cell? ⟨g, o + i * 5 + 1, none⟩ = some (.int .i64 v.p) ∧ W.cell? ⟨g, o + i * 5 + 2, none⟩ = some (.int .i64 v.q) ∧ W.cell? ⟨g, o + i * 5 + 3, none⟩ = some (.string v.s) ∧ W.cell? ⟨g, o + i * 5 + 4, none⟩ = some (.int .i64 v.r) from by obtain ⟨g, o, rfl⟩ := vals_shape HVF.out hv; exact ⟨g, o, rfl, Vals.at_ (Vals.below HVF.out hb) hv⟩))
        have HVU := Lib.hid (fun (W : World) (O' : Nat → Prop) (hq : QS w.heap.size (fun _ => False) wr O' W) => (show Vals W (.slice so2 l.length cap2) (l.map numU) from by have hvs := HVS.out; rw [List.length_map] at hvs; rcases hG5 with e | ⟨⟨o, rfl⟩, hh⟩; (obtain ⟨so', c, h1, h2, hn, _⟩ := hvs; exact ⟨so', c, h1, h2, hn, .inl e⟩); (have hk := (hq.keep hh.1 (npb (by decide)) (fun e => e)).1; exact vals_held hvs (hk.trans hh.1.symm) (Array.getElem?_eq_some_iff.1 hk).1)))
        clear hG5
        go_wp2
        go_loopg [15] (l.length + 1) (fun gg s15 wr2 => ∃ j, j + gg = l.length + 1 ∧ s15 = .int .i64 (j : Int) ∧ Hid (Below w10.heap.size w10 wr2))
        case atStart => exact ⟨0, by omega, rfl, Below.refl _ _⟩
        case round =>
          obtain ⟨j, hj, rfl, HBl⟩ := hrel
          have hzl := HBl.out.size
          by_cases hlt : j < l.length + 1
          · have d5 : decide ((j : Int) < (l.length : Int) + 1) = true := decide_eq_true (by omega)
            rcases Nat.lt_trichotomy j p with hjp | hjp | hjp
            · have d6 : decide ((j : Int) < 1 + (p : Int) - 1) = true := decide_eq_true (by omega)
              have d7 : decide ((j : Int) > 1 + (p : Int) - 1) = false := decide_eq_false (by omega)
              obtain ⟨y, hy⟩ : ∃ y, l[j]? = some y := ⟨_, List.getElem?_eq_getElem (by omega)⟩
              go_wp2_with fail
              refine (HNU.out _ (x : Int)).mono ?_
              rintro e w11 ⟨rfl, hb⟩
              have hbx := (below_next HBl.out hb)
              obtain ⟨gv, ov, rfl, hgv, v0, v1, v2, v3, v4⟩ := HVV.out w11 hbx j (numU y) (by rw [List.getElem?_map, hy]; rfl)
              obtain ⟨gf, off, rfl, hgf, f0, f1, f2, f3, f4⟩ := HVG.out w11 hbx j (numU y) (by rw [ins_before _ _ _ (by rw [List.length_map]; exact hpl) _ hjp, List.getElem?_map, hy]; rfl)
              have e1 : IntKind.i64.wrap (1 + (p : Int) - 1) = 1 + (p : Int) - 1 := w64_in (by omega) (by omega)
              have F0 := keepCell (below1 w11 (oV 2 (x : Int) 1 ⟨#[]⟩ 0)) f0
              have F1 := keepCell (below1 w11 (oV 2 (x : Int) 1 ⟨#[]⟩ 0)) f1
              have F2 := keepCell (below1 w11 (oV 2 (x : Int) 1 ⟨#[]⟩ 0)) f2
              have F3 := keepCell (below1 w11 (oV 2 (x : Int) 1 ⟨#[]⟩ 0)) f3
              have F4 := keepCell (below1 w11 (oV 2 (x : Int) 1 ⟨#[]⟩ 0)) f4
              simp only [numU] at f0 F0 f1 F1 f2 F2 f3 F3 f4 F4
              have V0 := keepCell (below1 w11 (oV 2 (x : Int) 1 ⟨#[]⟩ 0)) v0
              have V1 := keepCell (below1 w11 (oV 2 (x : Int) 1 ⟨#[]⟩ 0)) v1
              have V2 := keepCell (below1 w11 (oV 2 (x : Int) 1 ⟨#[]⟩ 0)) v2
              have V3 := keepCell (below1 w11 (oV 2 (x : Int) 1 ⟨#[]⟩ 0)) v3
              have V4 := keepCell (below1 w11 (oV 2 (x : Int) 1 ⟨#[]⟩ 0)) v4
              simp only [numU] at v0 V0 v1 V1 v2 V2 v3 V3 v4 V4
              have hzx : w11.heap.size + 1 = (w11.alloc (oV 2 (x : Int) 1 ⟨#[]⟩ 0)).heap.size := by simp
              have HB11 := Lib.hid (hbx)
              have hnq : ∀ W : World, (binOp .neq 30 (.agg #[.int .i64 2, .int .i64 (y : Int), .int .i64 1, .string ⟨#[]⟩, .int .i64 0]) (.agg #[.int .i64 2, .int .i64 (y : Int), .int .i64 1, .string ⟨#[]⟩, .int .i64 0])).run Tryz.prog W = .ok (.bool false) W := fun W => by rw [neq_run]; simp [eqV]
              clear hb hbx hzx
              go_wp2_with fail
              go_quiet (fail)
              go_wp2
              go_wp2
              go_roundg (l.length + 1 - (j + 1))
              case measure => omega
              case rel =>
                refine ⟨j + 1, by omega, by push_cast; rfl, ?_⟩
                exact Lib.hid (bdn (HB11.out.alloc HB11.out.size _) _)
            · subst hjp
              have d6 : decide ((j : Int) < 1 + (j : Int) - 1) = false := decide_eq_false (by omega)
              have d7 : decide ((j : Int) > 1 + (j : Int) - 1) = false := decide_eq_false (by omega)
              go_wp2_with fail
              refine (HNU.out _ (x : Int)).mono ?_
              rintro e w11 ⟨rfl, hb⟩
              have hbx := (below_next HBl.out hb)
              obtain ⟨gf, off, rfl, hgf, f0, f1, f2, f3, f4⟩ := HVG.out w11 hbx j (numU x) (ins_at_x _ _ _ (by rw [List.length_map]; exact hpl))
              have e1 : IntKind.i64.wrap (1 + (j : Int) - 1) = 1 + (j : Int) - 1 := w64_in (by omega) (by omega)
              have F0 := keepCell (below1 w11 (oV 2 (x : Int) 1 ⟨#[]⟩ 0)) f0
              have F1 := keepCell (below1 w11 (oV 2 (x : Int) 1 ⟨#[]⟩ 0)) f1
              have F2 := keepCell (below1 w11 (oV 2 (x : Int) 1 ⟨#[]⟩ 0)) f2
              have F3 := keepCell (below1 w11 (oV 2 (x : Int) 1 ⟨#[]⟩ 0)) f3
              have F4 := keepCell (below1 w11 (oV 2 (x : Int) 1 ⟨#[]⟩ 0)) f4
              simp only [numU] at f0 F0 f1 F1 f2 F2 f3 F3 f4 F4
              have hzx : w11.heap.size + 1 = (w11.alloc (oV 2 (x : Int) 1 ⟨#[]⟩ 0)).heap.size := by simp
              have HB11 := Lib.hid (hbx)
              have hnq : ∀ W : World, (binOp .neq 30 (.agg #[.int .i64 2, .int .i64 (x : Int), .int .i64 1, .string ⟨#[]⟩, .int .i64 0]) (.agg #[.int .i64 2, .int .i64 (x : Int), .int .i64 1, .string ⟨#[]⟩, .int .i64 0])).run Tryz.prog W = .ok (.bool false) W := fun W => by rw [neq_run]; simp [eqV]
              clear hb hbx hzx
              go_wp2_with fail
              go_quiet (fail)
              go_wp2
              go_wp2
              go_roundg (l.length + 1 - (j + 1))
              case measure => omega
              case rel =>
                refine ⟨j + 1, by omega, by push_cast; rfl, ?_⟩
                exact Lib.hid (bdn (HB11.out.alloc HB11.out.size _) _)
            · have d6 : decide ((j : Int) < 1 + (p : Int) - 1) = false := decide_eq_false (by omega)
              have d7 : decide ((j : Int) > 1 + (p : Int) - 1) = true := decide_eq_true (by omega)
              obtain ⟨y, hy⟩ : ∃ y, l[j - 1]? = some y := ⟨_, List.getElem?_eq_getElem (by omega)⟩
              obtain ⟨q, hq⟩ : ∃ q, q = j - 1 := ⟨_, rfl⟩
              have hqj : (j : Int) - 1 = (q : Int) := by omega
              have e2 : IntKind.i64.wrap ((j : Int) - 1) = (q : Int) := by rw [hqj]; exact w64_in (by omega) (by omega)
              have hql : q < l.length := by omega
              rw [← hq] at hy
              go_wp2_with fail
              refine (HNU.out _ (x : Int)).mono ?_
              rintro e w11 ⟨rfl, hb⟩
              have hbx := (below_next HBl.out hb)
              obtain ⟨gv, ov, rfl, hgv, v0, v1, v2, v3, v4⟩ := HVV.out w11 hbx q (numU y) (by rw [List.getElem?_map, hy]; rfl)
              obtain ⟨gf, off, rfl, hgf, f0, f1, f2, f3, f4⟩ := HVG.out w11 hbx j (numU y) (by rw [ins_after _ _ _ (by rw [List.length_map]; exact hpl) _ hjp, ← hq, List.getElem?_map, hy]; rfl)
              have e1 : IntKind.i64.wrap (1 + (p : Int) - 1) = 1 + (p : Int) - 1 := w64_in (by omega) (by omega)
              have F0 := keepCell (below1 w11 (oV 2 (x : Int) 1 ⟨#[]⟩ 0)) f0
              have F1 := keepCell (below1 w11 (oV 2 (x : Int) 1 ⟨#[]⟩ 0)) f1
              have F2 := keepCell (below1 w11 (oV 2 (x : Int) 1 ⟨#[]⟩ 0)) f2
              have F3 := keepCell (below1 w11 (oV 2 (x : Int) 1 ⟨#[]⟩ 0)) f3
              have F4 := keepCell (below1 w11 (oV 2 (x : Int) 1 ⟨#[]⟩ 0)) f4
              simp only [numU] at f0 F0 f1 F1 f2 F2 f3 F3 f4 F4
              have V0 := keepCell (below1 w11 (oV 2 (x : Int) 1 ⟨#[]⟩ 0)) v0
              have V1 := keepCell (below1 w11 (oV 2 (x : Int) 1 ⟨#[]⟩ 0)) v1
              have V2 := keepCell (below1 w11 (oV 2 (x : Int) 1 ⟨#[]⟩ 0)) v2
              have V3 := keepCell (below1 w11 (oV 2 (x : Int) 1 ⟨#[]⟩ 0)) v3
              have V4 := keepCell (below1 w11 (oV 2 (x : Int) 1 ⟨#[]⟩ 0)) v4
              simp only [numU] at v0 V0 v1 V1 v2 V2 v3 V3 v4 V4
              have hzx : w11.heap.size + 1 = (w11.alloc (oV 2 (x : Int) 1 ⟨#[]⟩ 0)).heap.size := by simp
              have HB11 := Lib.hid (hbx)
              have hnq : ∀ W : World, (binOp .neq 30 (.agg #[.int .i64 2, .int .i64 (y : Int), .int .i64 1, .string ⟨#[]⟩, .int .i64 0]) (.agg #[.int .i64 2, .int .i64 (y : Int), .int .i64 1, .string ⟨#[]⟩, .int .i64 0])).run Tryz.prog W = .ok (.bool false) W := fun W => by rw [neq_run]; simp [eqV]
              clear hb hbx hzx hq
              go_wp2_with fail
              go_quiet (fail)
              go_wp2
              go_wp2
              go_roundg (l.length + 1 - (j + 1))
              case measure => omega
              case rel =>
                refine ⟨j + 1, by omega, by push_cast; rfl, ?_⟩
                exact Lib.hid (bdn (HB11.out.alloc HB11.out.size _) _)
          · have d5 : decide ((j : Int) < (l.length : Int) + 1) = false := decide_eq_false (by omega)
            have HB14 := Lib.hid (below_next HB10.out HBl.out)
            have HP14 := Lib.hid (HP10.out.below HBl.out)
            have HT14 := Lib.hid (hkeep HBl.out HT10.out)
            have HQ14 := Lib.hid (HQ10.out.trans (QS.of_below HBl.out))
            have HOL := Lib.hid ((HP14.out.lt))
            have hz14 : w6.heap.size < wr.heap.size := (Array.getElem?_eq_some_iff.1 HT14.out).1
            have HBG := Lib.hid (fun (W : World) (m : Nat) (hb : Below wr.heap.size wr W) (hX : W.heap[m]? = some (.cells #[.int .i64 4, .int .i64 0, .int .i64 0, .string ⟨#[]⟩, .int .i64 1, .int .i64 2, .int .i64 (1 + (p : Int)), .int .i64 1, .string ⟨#[]⟩, .int .i64 0] 30)) (hm : wr.heap.size ≤ m) => (show Calls Tryz.prog 12 #[.pointer (some ⟨h, 0, none⟩), .string ⟨#[116, 97, 98, 108, 101, 46, 114, 101, 109, 111, 118, 101]⟩, .slice (some ⟨m, 0, none⟩) 2 2] W (fun e w' => ∃ so3 cap3 sk3 ck3 O3, e = .returned (acV 1 0 V.nil (.slice so3 1 cap3) ⟨#[]⟩ 0 0 (.slice sk3 0 ck3)) ∧ w'.ownsRow W.heap.size 30 5 (.slice so3 1 cap3) 1 (rowV [numU x]) ∧ w'.ownsRow W.heap.size 30 5 (.slice sk3 0 ck3) 0 (rowV []) ∧ PHp w.heap.size (0 + l.length + 1) w' h ([] ++ [⟨4, V.nil, []⟩]) ([] ++ [l.map numU]) O3 ∧ QS w.heap.size O2 W O3 w' ∧ ∀ b, (Value.slice sk3 0 ck3).ownBlock = some b → ¬ O3 b) from by have := remove_begin W h (HP14.out.below hb) (by have := hb.size; omega) (by omega) (ti := 0) (by decide) (o := ⟨4, V.nil, []⟩) (A := insM (l.map numU) p (numU x)) rfl rfl rfl (numU_ins HBy.out p x) p (by rw [ins_len _ _ _ (by rw [List.length_map]; exact hpl), List.length_map]; omega) (1 + (p : Int)) (by omega) (ek := 2) (ep := (x : Int)) (ej := 1) (es := ⟨#[]⟩) (er := 0) (ins_at_x _ _ _ (by rw [List.length_map]; exact hpl)) m hX; rw [rem_ins _ _ _ (by rw [List.length_map]; exact hpl)] at this; exact this))
            clear hzl
            go_upto_region 25 with fail
            go_cut [17] (fun s17 wx => ∃ nb so3 cap3 sk3 ck3, s17 = .pointer (some ⟨nb, 0, none⟩) ∧ Hid (∃ Ox, wx.heap[nb]? = some (.cells #[.int .i64 1, .int .i64 0, .int .i64 0, .int .i64 0, .int .i64 0, .string ⟨#[]⟩, .int .i64 0, .slice so3 1 cap3, .string ⟨#[]⟩, .int .i64 0, .int .i64 0, .slice sk3 0 ck3] 35) ∧ PHp w.heap.size (0 + l.length + 1) wx h ([] ++ [⟨4, V.nil, []⟩]) ([] ++ [l.map numU]) Ox ∧ QS w.heap.size O2 wr Ox wx ∧ wx.ownsRow wr.heap.size 30 5 (.slice so3 1 cap3) 1 (rowV [numU x])))
            case first =>
              have SOQ := Lib.hid (fun (W : World) (h1 : W.heap[w6.heap.size]? = some (oV 4 0 0 ⟨#[]⟩ 1)) => (show W.cell? ⟨w6.heap.size, 0, none⟩ = some (.int .i64 4) ∧ W.cell? ⟨w6.heap.size, 1, none⟩ = some (.int .i64 0) ∧ W.cell? ⟨w6.heap.size, 2, none⟩ = some (.int .i64 0) ∧ W.cell? ⟨w6.heap.size, 3, none⟩ = some (.string ⟨#[]⟩) ∧ W.cell? ⟨w6.heap.size, 4, none⟩ = some (.int .i64 1) from cells5 h1))
              have SO := Lib.hid (fun (W : World) (hb : Below wr.heap.size wr W) => SOQ.out W (hkeep hb HT14.out))
              have SOA := Lib.hid (fun (W : World) (o : Obj) (h1 : W.heap[w6.heap.size]? = some (oV 4 0 0 ⟨#[]⟩ 1)) => SOQ.out (W.alloc o) (heap1_old h1 _))
              have SO12 := Lib.hid (fun (W : World) (b : Nat) (c0 c1 c2 c3 c4 c5 c6 c7 c8 c9 c10 c11 : Value) (h1 : W.heap[w6.heap.size]? = some (oV 4 0 0 ⟨#[]⟩ 1)) (hb : ¬ w6.heap.size = b) => SOQ.out ((((((((((((W.setCell ⟨b, 0, none⟩ c0).setCell ⟨b, 1, none⟩ c1).setCell ⟨b, 2, none⟩ c2).setCell ⟨b, 3, none⟩ c3).setCell ⟨b, 4, none⟩ c4).setCell ⟨b, 5, none⟩ c5).setCell ⟨b, 6, none⟩ c6).setCell ⟨b, 7, none⟩ c7).setCell ⟨b, 8, none⟩ c8).setCell ⟨b, 9, none⟩ c9).setCell ⟨b, 10, none⟩ c10).setCell ⟨b, 11, none⟩ c11) (heap12_old h1 hb _ _ _ _ _ _ _ _ _ _ _ _))
              have HKP := Lib.hid (fun (W W' : World) (Oz : Nat → Prop) (hb : Below wr.heap.size wr W) (hq : QS w.heap.size O2 W Oz W') => (show W'.heap[w6.heap.size]? = some (oV 4 0 0 ⟨#[]⟩ 1) ∧ QS w.heap.size O2 wr Oz W' from ⟨(hq.keep (hkeep hb HT14.out) (npb (by decide)) (fun e => HNT.out e)).1, (QS.of_below (base := w.heap.size) (O := O2) hb).trans hq⟩))
              have HBc := Lib.hid ((Below.refl wr.heap.size wr).drew)
              have HBz := Lib.hid (((Below.refl wr.heap.size wr).alloc (Nat.le_refl _) oAc).drew)
              have hzc := HBc.out.size
              go_region_held3 (fun w' => w'.cell? ⟨w6.heap.size, 0, none⟩ = some (.int .i64 4) ∧ w'.cell? ⟨w6.heap.size, 1, none⟩ = some (.int .i64 0) ∧ w'.cell? ⟨w6.heap.size, 2, none⟩ = some (.int .i64 0) ∧ w'.cell? ⟨w6.heap.size, 3, none⟩ = some (.string ⟨#[]⟩) ∧ w'.cell? ⟨w6.heap.size, 4, none⟩ = some (.int .i64 1))
                (first | with_reducible exact SO.out _ HBc.out | with_reducible exact SO.out _ HBz.out | with_reducible exact SO.out _ (HBc.out.alloc HBc.out.size _) | with_reducible exact SO.out _ ((HBc.out.alloc HBc.out.size _).alloc (HBc.out.alloc HBc.out.size _).size _) | with_reducible exact SOQ.out _ HXt.out | with_reducible exact SOA.out _ _ HXt.out | (with_reducible refine SO12.out _ _ _ _ _ _ _ _ _ _ _ _ _ _ HXt.out ?_; omega))
                (first | (go_at_call 14; (with_reducible refine (HNU.out _ _).mono ?_); rintro e nw ⟨rfl, hb⟩; (first | (with_reducible have Hz := Lib.hid (hkeep hb (heap_newD wr oAc))) | (with_reducible have Hz := Lib.hid (hkeep hb (heap_new wr oAc))) | (with_reducible have Hz := Lib.hid (hkeep hb (heap_new _ oAc))) | (with_reducible have Hz := Lib.hid (hkeep hb Hz.out)) | skip); have HBc := Lib.hid (below_next (by first | with_reducible exact HBc.out | with_reducible exact HBz.out | with_reducible exact HBc.out.alloc HBc.out.size _) hb); have hzc := HBc.out.size; clear hb) | (go_at_call 12; (with_reducible refine (HBG.out _ _ (by first | with_reducible exact HBc.out.alloc HBc.out.size _ | with_reducible exact (HBc.out.alloc HBc.out.size _).alloc (HBc.out.alloc HBc.out.size _).size _) (by first | exact heap_new _ _ | exact heap2_a _ _ _ | exact heap2_b _ _ _) (by first | omega | (simp <;> omega))).mono ?_); rintro e nw3 ⟨so3, cap3, sk3, ck3, O3, rfl, hr, hk, hP3, hq3, hno⟩; have HX2 := Lib.hid hP3; have HR3 := Lib.hid hr; have HXk := Lib.hid (HKP.out _ _ _ (by first | with_reducible exact HBc.out.alloc HBc.out.size _ | with_reducible exact (HBc.out.alloc HBc.out.size _).alloc (HBc.out.alloc HBc.out.size _).size _) hq3); have HXt := Lib.hid HXk.out.1; have hyz := HXk.out.2.size; (first | (with_reducible have HZ := Lib.hid (hq3.keep (heap2_b nw _ oAc) (npb (by decide)) (fun e => absurd (HOL.out _ e) (by first | omega | (simp <;> omega))))) | (with_reducible have HZ := Lib.hid (hq3.keep (heap2_a nw oAc _) (npb (by decide)) (fun e => absurd (HOL.out _ e) (by first | omega | (simp <;> omega))))) | (with_reducible have HZ := Lib.hid (hq3.keep (heap1_old Hz.out _) (npb (by decide)) (fun e => absurd (HOL.out _ e) (by first | omega | (simp <;> omega))))) | skip); (first | (have hza := (Array.getElem?_eq_some_iff.1 HZ.out.1).1; obtain ⟨z0, z1, z2, z3, z4, z5, z6, z7, z8, z9, z10, z11⟩ := cells12 HZ.out.1; obtain ⟨fz0, fz1, fz2, fz3, fz4, fz5, fz6, fz7, fz8, fz9, fz10, fz11⟩ := froz12 HZ.out.1) | skip); clear hr hk hP3 hq3 hno))
              all_goals
                go_wp2_with fail
                go_meet
                (try simp only [V.nil])
                first
                | (with_reducible exact ⟨_, so3, cap3, sk3, ck3, rfl, Lib.hid ⟨O3, leaf_alloc1 HX2.out HXk.out.2 (ownsRow_base HR3.out (by first | omega | (simp <;> omega))) _⟩⟩)
                | (with_reducible exact ⟨_, so3, cap3, sk3, ck3, rfl, Lib.hid ⟨O3, leaf_twelve1 HX2.out HXk.out.2 HZ.out.1 (by first | omega | (simp <;> omega)) (ownsRow_base HR3.out (by first | omega | (simp <;> omega))) (row_away HR3.out (by first | omega | (simp <;> omega))) _ _ _ _ _ _ _ _ _ _ _ _⟩⟩)
                | (trace_state; sorry)
            case rest =>
              obtain ⟨nb2, so3, cap3, sk3, ck3, rfl, hx0⟩ := hcut
              obtain ⟨O5, hn2, hp2, hq2, hr2⟩ := hx0.out
              obtain ⟨g3, rfl, hg3, hc3, hrw⟩ := row_one hr2
              have HN2 := Lib.hid (hn2)
              have HP15 := Lib.hid (hp2)
              have HT15 := Lib.hid ((hq2.keep HT14.out (npb (by decide)) (fun e => HNT.out e)).1)
              have HB15 := Lib.hid (HB14.out.trans (hq2.below (by omega)))
              have HRW := Lib.hid (hrw)
              have HV15 := Lib.hid (HVU.out _ _ (HQ14.out.trans hq2))
              have HLN := Lib.hid (fun W (hb : Below wc.heap.size wc W) => (show Calls Tryz.prog 16 #[.pointer (some ⟨h, 0, none⟩), .agg #[.int .i64 4, .int .i64 0, .int .i64 0, .string ⟨#[]⟩, .int .i64 1]] W (PtrPost W (.tuple #[.int .i64 (l.length : Nat), .int .i64 0])) from by have := pLenT_c (HP15.out.below hb) (i := 0) (o := ⟨4, V.nil, []⟩) (A := l.map numU) rfl rfl rfl 4 0 0 ⟨#[]⟩ 1 rfl rfl ⟨by decide, by decide⟩; rw [List.length_map] at this; exact this))
              have HFJ := Lib.hid (fun W (hb : Below wc.heap.size wc W) => (show Calls Tryz.prog 15 #[.pointer (some ⟨h, 0, none⟩), .agg #[.int .i64 4, .int .i64 0, .int .i64 0, .string ⟨#[]⟩, .int .i64 1], .int .i64 (l.length : Int)] W (fun e w' => ∃ so cap, e = .returned (.slice so l.length cap) ∧ Vals w' (.slice so l.length cap) (l.map numU) ∧ Below W.heap.size W w') from fieldsK_c W h (HP15.out.below hb) (by omega) (ti := 0) (by decide) (o := ⟨4, V.nil, []⟩) (A := l.map numU) rfl rfl rfl (by rw [List.length_map]; omega) (l.length : Int) l.length rfl (by rw [List.length_map])))
              have HVL := Lib.hid (fun (W : World) (sf2 : Option Addr) (capf2 : Nat) (h1 : Vals W (.slice sf2 l.length capf2) (l.map numU)) (h2 : Below wc.heap.size wc W) => lvalues_true W sf2 so2 l.length l.length capf2 cap2 (l.map numU) h1 (Vals.below HV15.out h2) (by rw [List.length_map]; omega))
              clear hx0 hn2 hp2 hq2 hr2 hrw
              have hyn : nb2 < wc.heap.size := (Array.getElem?_eq_some_iff.1 HN2.out).1
              have hyt : w6.heap.size < wc.heap.size := (Array.getElem?_eq_some_iff.1 HT15.out).1
              obtain ⟨t0, t1, t2, t3, t4⟩ := cells5 HT15.out
              obtain ⟨ft0, ft1, ft2, ft3, ft4⟩ := froz5 HT15.out
              go_wp2_with fail
              refine (HLN.out _ (Below.refl _ _)).mono ?_
              rintro e w16 ⟨rfl, hb⟩
              have HN6 := Lib.hid (hkeep hb HN2.out)
              have HT6 := Lib.hid (hkeep hb HT15.out)
              have HBv := Lib.hid (hb)
              have HB16 := Lib.hid (below_next HB15.out hb)
              have HRW6 := Lib.hid ((fun W (hb2 : Below w16.heap.size w16 W) => HRW.out W (below_next hb hb2)))
              have hz16 := hb.size
              have hg36 : g3 < w16.heap.size := by omega
              have hwx2 : IntKind.i64.wrap (x : Int) = (x : Int) := w64_in (by omega) (by omega)
              clear hb t0 t1 t2 t3 t4 ft0 ft1 ft2 ft3 ft4
              have hEQ : ∀ W : World, (binOp .eql 30 (.agg #[.int .i64 2, .int .i64 (x : Int), .int .i64 1, .string ⟨#[]⟩, .int .i64 0]) (.agg #[.int .i64 2, .int .i64 (x : Int), .int .i64 1, .string ⟨#[]⟩, .int .i64 0])).run Tryz.prog W = .ok (.bool true) W := fun W => by rw [eq_run]; simp [eqV]
              go_upto_region 27 with fail
              have SO := Lib.hid (fun (W : World) (hb : Below w16.heap.size w16 W) => (show W.cell? ⟨nb2, 0, none⟩ = some (.int .i64 1) ∧ W.cell? ⟨nb2, 7, none⟩ = some (.slice (some ⟨g3, 0, none⟩) 1 cap3) ∧ W.cell? ⟨g3, 0, none⟩ = some (.int .i64 2) ∧ W.cell? ⟨g3, 1, none⟩ = some (.int .i64 (x : Int)) ∧ W.cell? ⟨g3, 2, none⟩ = some (.int .i64 1) ∧ W.cell? ⟨g3, 3, none⟩ = some (.string ⟨#[]⟩) ∧ W.cell? ⟨g3, 4, none⟩ = some (.int .i64 0) ∧ W.cell? ⟨w6.heap.size, 0, none⟩ = some (.int .i64 4) ∧ W.cell? ⟨w6.heap.size, 1, none⟩ = some (.int .i64 0) ∧ W.cell? ⟨w6.heap.size, 2, none⟩ = some (.int .i64 0) ∧ W.cell? ⟨w6.heap.size, 3, none⟩ = some (.string ⟨#[]⟩) ∧ W.cell? ⟨w6.heap.size, 4, none⟩ = some (.int .i64 1) ∧ Hid (Below w16.heap.size w16 W) from ⟨(cells12 (hkeep hb HN6.out)).1, (cells12 (hkeep hb HN6.out)).2.2.2.2.2.2.2.1, (HRW6.out W hb).1, (HRW6.out W hb).2.1, (HRW6.out W hb).2.2.1, (HRW6.out W hb).2.2.2.1, (HRW6.out W hb).2.2.2.2, (cells5 (hkeep hb HT6.out)).1, (cells5 (hkeep hb HT6.out)).2.1, (cells5 (hkeep hb HT6.out)).2.2.1, (cells5 (hkeep hb HT6.out)).2.2.2.1, (cells5 (hkeep hb HT6.out)).2.2.2.2, Lib.hid hb⟩))
              have BA := Lib.hid (fun (W : World) (o : Obj) (hb : Below w16.heap.size w16 W) => (show Below w16.heap.size w16 (W.alloc o) from hb.alloc hb.size o))
              have BD := Lib.hid (fun (W : World) (hb : Below w16.heap.size w16 W) => (show Below w16.heap.size w16 W.drew from hb.drew))
              have hbR : Below w16.heap.size w16 w16 := Below.refl _ _
              have hbD : Below w16.heap.size w16 w16.drew := (Below.refl _ _).drew
              go_region_held3 (fun w' => w'.cell? ⟨nb2, 0, none⟩ = some (.int .i64 1) ∧ w'.cell? ⟨nb2, 7, none⟩ = some (.slice (some ⟨g3, 0, none⟩) 1 cap3) ∧ w'.cell? ⟨g3, 0, none⟩ = some (.int .i64 2) ∧ w'.cell? ⟨g3, 1, none⟩ = some (.int .i64 (x : Int)) ∧ w'.cell? ⟨g3, 2, none⟩ = some (.int .i64 1) ∧ w'.cell? ⟨g3, 3, none⟩ = some (.string ⟨#[]⟩) ∧ w'.cell? ⟨g3, 4, none⟩ = some (.int .i64 0) ∧ w'.cell? ⟨w6.heap.size, 0, none⟩ = some (.int .i64 4) ∧ w'.cell? ⟨w6.heap.size, 1, none⟩ = some (.int .i64 0) ∧ w'.cell? ⟨w6.heap.size, 2, none⟩ = some (.int .i64 0) ∧ w'.cell? ⟨w6.heap.size, 3, none⟩ = some (.string ⟨#[]⟩) ∧ w'.cell? ⟨w6.heap.size, 4, none⟩ = some (.int .i64 1) ∧ Hid (Below w16.heap.size w16 w'))
                (with_reducible refine SO.out _ ?_; repeat (first | with_reducible assumption | (with_reducible refine BA.out _ _ ?_) | (with_reducible refine BD.out _ ?_) | omega))
                (first | (go_at_call 14; (with_reducible refine (HNU.out _ _).mono ?_); rintro e nw1 ⟨rfl, hb⟩; have hb1 := below_next (prjJ12 (by assumption)) hb; have hzb1 := hb1.size; clear hb) | (go_at_call 15; (with_reducible refine (HFJ.out _ (below_next HBv.out (prjJ12 (by assumption)))).mono ?_); rintro e nw2 ⟨sf2, capf2, rfl, hvf2, hb⟩; have hb2 := below_next (prjJ12 (by assumption)) hb; have hzb2 := hb2.size; have HVF2 := Lib.hid hvf2; have HBf := Lib.hid (below_next HBv.out hb2); clear hvf2; clear hb) | (go_at_call 17; (with_reducible refine (HVL.out _ _ _ (by first | with_reducible exact HVF2.out | with_reducible exact Vals.below HVF2.out (Below.refl _ _).drew) (below_next HBv.out (prjJ12 (by assumption)))).mono ?_); rintro e nw3 ⟨rfl, hb⟩; have hb3 := below_next (prjJ12 (by assumption)) hb; have hzb3 := hb3.size; clear hb) | (go_at_call 9; (with_reducible refine (HLV.out _ (below_next HB16.out (prjJ12 (by assumption)))).mono ?_); rintro e nw4 ⟨rfl, hb⟩; have hb4 := below_next (prjJ12 (by assumption)) hb; have hzb4 := hb4.size; clear hb))
              go_wp2
              go_ret
              exact bool_done rfl (below_next HB16.out hb4)
set_option maxRecDepth 100000 in
set_option maxHeartbeats 2000000 in
theorem insert_long (w : World) (htab : Pow10 w) (so : Option Addr) (n cap : Nat) (a x : Int) (hl : 100 < n) :
    Calls Tryz.prog 4 #[.slice so n cap, .int .u8 a, .int .u8 x] w (BoolPost w true) := by
  have HLV := Lib.hid (fun W (hb : Below w.heap.size w W) => lives_c W (htab.stays hb))
  clear htab
  have d1 : decide ((n : Int) > 100) = true := decide_eq_true (by omega)
  go_enter Tryz.func4, Tryz.ntmps4
  go_wp2_with fail
  refine (pNew_c _).mono ?_
  rintro e w1 ⟨h, rfl, hP1, hb1⟩
  have HW1 := Lib.hid (hb1)
  clear hP1 hb1
  go_wp2_with fail
  refine (HLV.out _ HW1.out).mono ?_
  rintro e w3 ⟨rfl, hb⟩
  have HB3 := Lib.hid (below_next HW1.out hb)
  clear hb
  go_wp2
  go_ret
  exact bool_done rfl HB3.out
theorem insert_all (w : World) (htab : Pow10 w) (so : Option Addr) (cap : Nat) (l : List Nat) (hS : l = [] ∨ ∃ g o, so = some ⟨g, o, none⟩ ∧ ∀ (i : Nat) x, l[i]? = some x → w.cell? ⟨g, o + i, none⟩ = some (.int .u8 (x : Int))) (hcap : l.length ≤ cap) (hB : ∀ y ∈ l, y ≤ 255) (a x : Nat) (ha : a ≤ 255) (hx : x ≤ 255) :
    Calls Tryz.prog 4 #[.slice so l.length cap, .int .u8 (a : Int), .int .u8 (x : Int)] w (BoolPost w true) := by
  by_cases h1 : 100 < l.length
  · exact insert_long w htab so l.length cap a x h1
  · exact insert_law w htab so cap l a x hS (by omega) hB ha hx hcap
end Go.Proofs.YtpbcmlnjiocmoaaGreatDoorR
