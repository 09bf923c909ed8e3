import Derived.Test.YtpbcmlnjiocmoaaGreatDoorRHpB
import Derived.Test.YtpbcmlnjiocmoaaGreatDoorRSmA
set_option linter.unusedVariables false
set_option linter.unusedSimpArgs false
set_option maxRecDepth 100000
set_option maxHeartbeats 40000000
namespace Go.Proofs.YtpbcmlnjiocmoaaGreatDoorR
open Go.RowKit Go.Proofs.Lexi
set_option maxRecDepth 100000 in
set_option maxHeartbeats 2000000 in
theorem kNum_c (w : World) (x : Int) : Calls Tryz.prog 14 #[.int .i64 x] w (fun e w' => e = .returned (.agg #[.int .i64 2, .int .i64 x, .int .i64 1, .string ⟨#[]⟩, .int .i64 0]) ∧ Below w.heap.size w w') := by
  go_enter Tryz.func14, Tryz.ntmps14
  go_wp2
  refine bodyPost_ret (by simp [results, Tryz.results14, go_sem, ]; first | done | rfl) rfl ?_
  exact ⟨rfl, below1 _ _⟩
set_option maxRecDepth 100000 in
set_option maxHeartbeats 2000000 in
theorem kStr_c (w : World) (s : ByteArray) : Calls Tryz.prog 10 #[.string s] w (fun e w' => e = .returned (.agg #[.int .i64 3, .int .i64 0, .int .i64 0, .string s, .int .i64 0]) ∧ Below w.heap.size w w') := by
  go_enter Tryz.func10, Tryz.ntmps10
  go_wp2
  refine bodyPost_ret (by simp [results, Tryz.results10, go_sem, ]; first | done | rfl) rfl ?_
  exact ⟨rfl, below1 _ _⟩
set_option maxRecDepth 100000 in
set_option maxHeartbeats 2000000 in
theorem list_c (w : World) (h : Nat) {base n : Nat} {M : LH} {AA : List (List V)} {O : Nat → Prop} (hP : PHp base n w h M AA O) (hb : base ≤ w.heap.size) (so : Option Addr) (cap : Nat) (A : List V) (hn : n + A.length ≤ 999) (hML : M.length ≤ 900) (hLA : AA.length = M.length) (hA : Vals w (.slice so A.length cap) A) (g : Nat) (cs : Array Value) (hG : A = [] ∨ (∃ o, so = some ⟨g, o, none⟩) ∧ Held w O g (.cells cs 30)) (hV : ∀ v ∈ A, v.k ≠ 0 ∧ validV v = true ∧ WfV v) :
    Calls Tryz.prog 11 #[.pointer (some ⟨h, 0, none⟩), .slice so A.length cap] w (fun e w' => e = .returned (.tuple #[tabA M.length, .bool true]) ∧ ∃ O', PHp base (n + A.length) w' h (M ++ [⟨4, V.nil, []⟩]) (AA ++ [A]) O' ∧ QS base O w O' w') := by
  have HNT := Lib.hid (pNewTableP_c (hP.below (below1 w (oV 0 0 0 ⟨#[]⟩ 0))) (by simp; omega) (by omega))
  have HR0 := Lib.hid ((⟨heap1 w _, fun e => Nat.lt_irrefl _ (hP.lt _ e)⟩ : Held (w.alloc (oV 0 0 0 ⟨#[]⟩ 0)) O w.heap.size (oV 0 0 0 ⟨#[]⟩ 0)))
  have HG := Lib.hid (hG)
  have HV := Lib.hid (hV)
  have HA := Lib.hid (hA)
  have HLen := Lib.hid (hLA)
  have HG0 := Lib.hid ((show A = [] ∨ Held (w.alloc (oV 0 0 0 ⟨#[]⟩ 0)) O g (.cells cs 30) from hG.imp id (fun h => h.2.below (below1 _ _))))
  clear hG hV hA hLA hP
  go_enter Tryz.func11, Tryz.ntmps11
  go_wp2_with fail
  refine HNT.out.mono ?_
  rintro e w1 ⟨rfl, hP1, hq1⟩
  have HP1 := Lib.hid (hP1)
  have HQ1 := Lib.hid ((QS.of_below (below1 w (oV 0 0 0 ⟨#[]⟩ 0))).trans hq1)
  have HR1 := Lib.hid (Held.qs (O := O) HR0.out hq1 (npb (by decide)))
  have HG1 := Lib.hid ((show A = [] ∨ Held w1 O g (.cells cs 30) from HG0.out.imp id (fun h => Held.qs (O := O) h hq1 (npb (by decide)))))
  have hz1 := HQ1.out.size
  have hzr1 := (Array.getElem?_eq_some_iff.1 HR1.out.1).1
  clear hP1 hq1
  go_wp2
  go_loopg [8] A.length (fun gg s8 wr => ∃ i, i + gg = A.length ∧ s8 = .int .i64 (i : Int) ∧ Hid (LstR base n h M AA A O w g w1.heap.size cs i wr))
  case atStart =>
    refine ⟨0, by omega, rfl, O, HP1.out.below (below1 _ _), HQ1.out.trans (QS.of_below (below1 _ _)), HR1.out.below (below1 _ _), ⟨heap1 _ _, fun e => Nat.lt_irrefl _ (HP1.out.lt _ e)⟩, HG1.out.imp id (fun h => h.below (below1 _ _))⟩
  case round =>
    obtain ⟨i, hi, rfl, HK⟩ := hrel
    obtain ⟨O1, hP2, hq2, hr2, ht2, hg2⟩ := HK.out
    have HP2 := Lib.hid (hP2)
    have HQ2 := Lib.hid (hq2)
    have HR2 := Lib.hid (hr2)
    have HT2 := Lib.hid (ht2)
    have HT2a := Lib.hid (ht2.1)
    have HG2 := Lib.hid (hg2)
    have hz2 := hq2.size
    have hrr := (Array.getElem?_eq_some_iff.1 hr2.1).1
    have htr := (Array.getElem?_eq_some_iff.1 ht2.1).1
    clear hP2 hq2 hr2 ht2 hg2 HK
    by_cases hlt : i < A.length
    · obtain ⟨u, hu⟩ : ∃ u, A[i]? = some u := ⟨_, List.getElem?_eq_getElem hlt⟩
      obtain ⟨hu0, huv, huw⟩ := HV.out u (List.mem_of_getElem? hu)
      obtain ⟨uk, up, uq, us, ur⟩ := u
      have hu0 : uk ≠ 0 := hu0
      have e1 : (uk != 0) = true := bne_iff_ne.2 hu0
      have hne : A ≠ [] := fun h => by rw [h] at hlt; simp at hlt
      obtain ⟨o, rfl⟩ := (HG.out.resolve_left hne).1
      have HG3 := Lib.hid (HG2.out.resolve_left hne)
      have hgr := (Array.getElem?_eq_some_iff.1 HG3.out.1).1
      have HU5 := Lib.hid ((fun (W : World) (hb : Below wr.heap.size wr W) => (Vals.at_ (Vals.below (vals_held HA.out (HG3.out.1.trans ((HG.out.resolve_left hne).2.1).symm) hgr) hb) hu)))
      have HU := Lib.hid (hu)
      have HU0 := Lib.hid (hu0)
      have HUV := Lib.hid (huv)
      have HUW := Lib.hid (huw)
      clear hu hu0 huv huw hne
      have HOI := Lib.hid (fun (W : World) => (show Calls Tryz.prog 14 #[.int .i64 (IntKind.i64.wrap ((i : Int) + 1))] W (fun e w' => e = .returned (.agg #[.int .i64 2, .int .i64 ((i : Int) + 1), .int .i64 1, .string ⟨#[]⟩, .int .i64 0]) ∧ Below W.heap.size W w') from by rw [w64_in (by omega) (by omega)]; exact kNum_c W ((i : Int) + 1)))
      have hset : ∀ W, Below wr.heap.size wr W → Calls Tryz.prog 23 #[.pointer (some ⟨h, 0, none⟩), tabA M.length, .agg #[.int .i64 2, .int .i64 ((i : Int) + 1), .int .i64 1, .string ⟨#[]⟩, .int .i64 0], .agg #[.int .i64 uk, .int .i64 up, .int .i64 uq, .string us, .int .i64 ur]] W (fun e w' => e = .returned (.int .i64 0) ∧ ∃ O', PHp base (n + (i + 1)) w' h (M ++ [⟨4, V.nil, []⟩]) (AA ++ [A.take (i + 1)]) O' ∧ QS base O1 W O' w') := fun W hb => by
        have hlen : (A.take i).length = i := by rw [List.length_take]; omega
        have := set_push_c (HP2.out.below hb) (show base ≤ W.heap.size by have := hb.size; omega) (show n + i ≤ 999 by omega) (ti := M.length) (by omega) (o := ⟨4, V.nil, []⟩) (A := A.take i) (by simp) (by rw [← HLen.out]; simp) rfl (fun y hy => by cases hy) uk up uq us ur HU0.out HUV.out HUW.out
        rw [hlen, set_last HLen.out, show A.take i ++ [⟨uk, up, uq, us, ur⟩] = A.take (i + 1) from by rw [List.take_add_one, HU.out]; rfl] at this
        exact this
      have HSet := Lib.hid (hset)
      clear hset
      have HKP := Lib.hid (fun (W W' : World) (O2 : Nat → Prop) (hb : Below wr.heap.size wr W) (hq : QS base O1 W O2 W') => (show Held W' O2 w.heap.size (oV 0 0 0 ⟨#[]⟩ 0) ∧ Held W' O2 w1.heap.size (oV 4 0 0 ⟨#[]⟩ ((M.length : Int) + 1)) ∧ Held W' O2 g (.cells cs 30) from ⟨(HR2.out.below hb).qs hq (npb (by decide)), (HT2.out.below hb).qs hq (npb (by decide)), (HG3.out.below hb).qs hq (npb (by decide))⟩))
      have HVH := Lib.hid (fun (W : World) (hg : W.heap[g]? = some (.cells cs 30)) => (Vals.at_ (vals_held HA.out (hg.trans ((HG.out.resolve_left (fun h => by rw [h] at hlt; simp at hlt)).2.1).symm) (Array.getElem?_eq_some_iff.1 hg).1) HU.out))
      obtain ⟨hgl, b0, b1, b2, b3, b4⟩ : g < wr.heap.size ∧ wr.cell? ⟨g, o + i * 5, none⟩ = some (.int .i64 uk) ∧ wr.cell? ⟨g, o + i * 5 + 1, none⟩ = some (.int .i64 up) ∧ wr.cell? ⟨g, o + i * 5 + 2, none⟩ = some (.int .i64 uq) ∧ wr.cell? ⟨g, o + i * 5 + 3, none⟩ = some (.string us) ∧ wr.cell? ⟨g, o + i * 5 + 4, none⟩ = some (.int .i64 ur) := HU5.out wr (Below.refl _ _)
      have SO := Lib.hid (fun (W : World) (hb : Below wr.heap.size wr W) => (show W.cell? ⟨w1.heap.size, 0, none⟩ = some (.int .i64 4) ∧ W.cell? ⟨w1.heap.size, 1, none⟩ = some (.int .i64 0) ∧ W.cell? ⟨w1.heap.size, 2, none⟩ = some (.int .i64 0) ∧ W.cell? ⟨w1.heap.size, 3, none⟩ = some (.string ⟨#[]⟩) ∧ W.cell? ⟨w1.heap.size, 4, none⟩ = some (.int .i64 ((M.length : Int) + 1)) ∧ W.cell? ⟨g, o + i * 5, none⟩ = some (.int .i64 uk) ∧ W.cell? ⟨g, o + i * 5 + 1, none⟩ = some (.int .i64 up) ∧ W.cell? ⟨g, o + i * 5 + 2, none⟩ = some (.int .i64 uq) ∧ W.cell? ⟨g, o + i * 5 + 3, none⟩ = some (.string us) ∧ W.cell? ⟨g, o + i * 5 + 4, none⟩ = some (.int .i64 ur) from ⟨(cells5 (hkeep hb HT2a.out)).1, (cells5 (hkeep hb HT2a.out)).2.1, (cells5 (hkeep hb HT2a.out)).2.2.1, (cells5 (hkeep hb HT2a.out)).2.2.2.1, (cells5 (hkeep hb HT2a.out)).2.2.2.2, (HU5.out W hb).2.1, (HU5.out W hb).2.2.1, (HU5.out W hb).2.2.2.1, (HU5.out W hb).2.2.2.2.1, (HU5.out W hb).2.2.2.2.2⟩))
      have SOQ := Lib.hid (fun (W : World) (h1 : W.heap[w1.heap.size]? = some (oV 4 0 0 ⟨#[]⟩ ((M.length : Int) + 1))) (h2 : W.heap[g]? = some (.cells cs 30)) => (show W.cell? ⟨w1.heap.size, 0, none⟩ = some (.int .i64 4) ∧ W.cell? ⟨w1.heap.size, 1, none⟩ = some (.int .i64 0) ∧ W.cell? ⟨w1.heap.size, 2, none⟩ = some (.int .i64 0) ∧ W.cell? ⟨w1.heap.size, 3, none⟩ = some (.string ⟨#[]⟩) ∧ W.cell? ⟨w1.heap.size, 4, none⟩ = some (.int .i64 ((M.length : Int) + 1)) ∧ W.cell? ⟨g, o + i * 5, none⟩ = some (.int .i64 uk) ∧ W.cell? ⟨g, o + i * 5 + 1, none⟩ = some (.int .i64 up) ∧ W.cell? ⟨g, o + i * 5 + 2, none⟩ = some (.int .i64 uq) ∧ W.cell? ⟨g, o + i * 5 + 3, none⟩ = some (.string us) ∧ W.cell? ⟨g, o + i * 5 + 4, none⟩ = some (.int .i64 ur) from ⟨(cells5 h1).1, (cells5 h1).2.1, (cells5 h1).2.2.1, (cells5 h1).2.2.2.1, (cells5 h1).2.2.2.2, (HVH.out W h2).2.1, (HVH.out W h2).2.2.1, (HVH.out W h2).2.2.2.1, (HVH.out W h2).2.2.2.2.1, (HVH.out W h2).2.2.2.2.2⟩))
      go_upto_region 7 with fail
      have HBc := Lib.hid ((Below.refl wr.heap.size wr).drew)
      go_region_held3 (fun w' => w'.cell? ⟨w1.heap.size, 0, none⟩ = some (.int .i64 4) ∧ w'.cell? ⟨w1.heap.size, 1, none⟩ = some (.int .i64 0) ∧ w'.cell? ⟨w1.heap.size, 2, none⟩ = some (.int .i64 0) ∧ w'.cell? ⟨w1.heap.size, 3, none⟩ = some (.string ⟨#[]⟩) ∧ w'.cell? ⟨w1.heap.size, 4, none⟩ = some (.int .i64 ((M.length : Int) + 1)) ∧ w'.cell? ⟨g, o + i * 5, none⟩ = some (.int .i64 uk) ∧ w'.cell? ⟨g, o + i * 5 + 1, none⟩ = some (.int .i64 up) ∧ w'.cell? ⟨g, o + i * 5 + 2, none⟩ = some (.int .i64 uq) ∧ w'.cell? ⟨g, o + i * 5 + 3, none⟩ = some (.string us) ∧ w'.cell? ⟨g, o + i * 5 + 4, none⟩ = some (.int .i64 ur))
        (first | with_reducible exact SO.out _ HBc.out | with_reducible exact SOQ.out _ HXt.out HXg.out)
        (first | (go_at_call 14; (with_reducible refine (HOI.out _).mono ?_); rintro e nw1 ⟨rfl, hb⟩; have HBc := Lib.hid (below_next HBc.out hb); clear hb) | (go_at_call 23; (with_reducible refine (HSet.out _ HBc.out).mono ?_); rintro e nw2 ⟨rfl, O2, hP2, hq2⟩; have HX2 := Lib.hid (And.intro hP2 hq2); have HXk := Lib.hid (HKP.out _ _ _ HBc.out hq2); have HXt := Lib.hid HXk.out.2.1.1; have HXg := Lib.hid HXk.out.2.2.1; clear hP2 hq2))
      go_wp2
      have HBf := Lib.hid (HBc.out)
      go_roundg (A.length - (i + 1))
      case measure => omega
      case rel =>
        obtain ⟨hP2, hq2⟩ := HX2.out
        exact ⟨i + 1, by omega, by push_cast; rfl, O2, hP2, HQ2.out.trans ((QS.of_below HBf.out).trans hq2), HXk.out.1, HXk.out.2.1, .inr HXk.out.2.2⟩
    · have hii : i = A.length := by omega
      subst hii
      have HR2a := Lib.hid (HR2.out.1)
      obtain ⟨t0, t1, t2, t3, t4⟩ := cells5 HT2a.out
      obtain ⟨r0, r1, r2, r3, r4⟩ := cells5 HR2a.out
      obtain ⟨fr0, fr1, fr2, fr3, fr4⟩ := froz5 HR2a.out
      go_wp2
      refine bodyPost_ret (by simp [results, Tryz.results11, go_sem, hrr, r0, r1, r2, r3, r4]; first | done | rfl) rfl ?_
      have hmm : ∀ c0 c1 c2 c3 c4, Mods (fun k => k = w.heap.size) wr (((((wr.setCell ⟨w.heap.size, 0, none⟩ c0).setCell ⟨w.heap.size, 1, none⟩ c1).setCell ⟨w.heap.size, 2, none⟩ c2).setCell ⟨w.heap.size, 3, none⟩ c3).setCell ⟨w.heap.size, 4, none⟩ c4) := fun _ _ _ _ _ => mods_five (F := fun k => k = w.heap.size) (Mods.refl _ _) (.inl rfl) _ _ _ _ _
      have hPe : PHp base (n + A.length) wr h (M ++ [⟨4, V.nil, []⟩]) (AA ++ [A]) O1 := by have := HP2.out; rwa [List.take_length] at this
      exact ⟨rfl, O1, hPe.modsV HR2.out.1 HR2.out.2 (hmm _ _ _ _ _), qs_mods HQ2.out (Nat.le_refl _) (hmm _ _ _ _ _)⟩
set_option maxRecDepth 100000 in
set_option maxHeartbeats 2000000 in
theorem tStored_c (w : World) (c : Value) : Calls Tryz.prog 62 #[c, .int .i64 0] w (fun e w' => e = .returned (.tuple #[]) ∧ w' = w) := by
  go_enter Tryz.func62, Tryz.ntmps62
  go_wp2
  go_end0
  exact ⟨rfl, rfl⟩
set_option maxRecDepth 100000 in
set_option maxHeartbeats 2000000 in
theorem tSet_c (w : World) (c h : Nat) (nm : ByteArray) (so : Option Addr) (na ca : Nat) {base n : Nat} {M : LH} {AA : List (List V)} {O : Nat → Prop} (hP : PHp base n w h M AA O) (hb : base ≤ w.heap.size) (HC : Held w O c (oCt h nm (.slice so na ca))) (hn : n ≤ 1000) {ti : Nat} (hti : ti ≤ 100000) {o : LO} {A : List V} (hM : M[ti]? = some o) (hA : AA[ti]? = some A) (h4 : o.kind = 4) {x : Nat} (hx : x < A.length) (hl : A.length ≤ 100000) (k : Int) (hk : k = (x : Int) + 1) (vk vp vq : Int) (vs : ByteArray) (vr : Int) (h0 : vk ≠ 0) (hv : validV ⟨vk, vp, vq, vs, vr⟩ = true) (hw : WfV ⟨vk, vp, vq, vs, vr⟩) :
    Calls Tryz.prog 64 #[.pointer (some ⟨c, 0, none⟩), tabA ti, .int .i64 k, .agg #[.int .i64 vk, .int .i64 vp, .int .i64 vq, .string vs, .int .i64 vr]] w (fun e w' => e = .returned (.tuple #[]) ∧ ∃ O', PHp base n w' h M (AA.set ti (A.set x ⟨vk, vp, vq, vs, vr⟩)) O' ∧ QS base O w O' w') := by
  subst hk
  have HO := Lib.hid (fun W => pOfInt_top W ((x : Int) + 1) (by omega) (by omega))
  have HSt := Lib.hid (fun W => tStored_c W (.pointer (some ⟨c, 0, none⟩)))
  obtain ⟨W1, hW1⟩ : ∃ W1, W1 = (w.alloc (oV 4 0 0 ⟨#[]⟩ ((ti : Int) + 1))).alloc (oV vk vp vq vs vr) := ⟨_, rfl⟩
  have HB1 := Lib.hid ((show Below w.heap.size w W1 by rw [hW1]; exact below2w _ _ _))
  have HT1 := Lib.hid ((show W1.heap[w.heap.size]? = some (oV 4 0 0 ⟨#[]⟩ ((ti : Int) + 1)) by rw [hW1]; exact heap2_a _ _ _))
  have HV1 := Lib.hid ((show W1.heap[w.heap.size + 1]? = some (oV vk vp vq vs vr) by rw [hW1]; exact heap2_b _ _ _))
  have HC1 := Lib.hid (Held.below HC HB1.out)
  have HC1a := Lib.hid (HC1.out.1)
  have HP1 := Lib.hid (hP.below HB1.out)
  have hz1 : w.heap.size + 1 < W1.heap.size := (Array.getElem?_eq_some_iff.1 HV1.out).1
  have hcl := (Array.getElem?_eq_some_iff.1 HC1a.out).1
  have HSet := Lib.hid (fun W (hb2 : Below W1.heap.size W1 W) => set_in_c (HP1.out.below hb2) (by have := hb2.size; omega) hn hti hM hA h4 hx hl vk vp vq vs vr h0 hv hw)
  have HKP := Lib.hid (fun (W W' : World) (O2 : Nat → Prop) (hb2 : Below W1.heap.size W1 W) (hq : QS base O W O2 W') => (show W'.heap[c]? = some (oCt h nm (.slice so na ca)) ∧ W'.heap[w.heap.size]? = some (oV 4 0 0 ⟨#[]⟩ ((ti : Int) + 1)) ∧ W'.heap[w.heap.size + 1]? = some (oV vk vp vq vs vr) from ⟨((HC1.out.below hb2).qs hq (npb (by decide))).1, (hq.keep (hkeep hb2 HT1.out) (npb (by decide)) (fun e => Nat.lt_irrefl _ (hP.lt _ e))).1, (hq.keep (hkeep hb2 HV1.out) (npb (by decide)) (fun e => by have := hP.lt _ e; omega)).1⟩))
  have HQB := Lib.hid (QS.of_below (base := base) (O := O) HB1.out)
  clear HC hP hM hA hv hw h0
  go_enter Tryz.func64, Tryz.ntmps64
  go_upto_region 1 with fail
  try rw [show (w.alloc (oV 4 0 0 ⟨#[]⟩ ((ti : Int) + 1))).alloc (oV vk vp vq vs vr) = W1 from hW1.symm]
  clear hW1
  have SOQ := Lib.hid (fun (W : World) (h1 : W.heap[c]? = some (oCt h nm (.slice so na ca))) (h2 : W.heap[w.heap.size]? = some (oV 4 0 0 ⟨#[]⟩ ((ti : Int) + 1))) (h3 : W.heap[w.heap.size + 1]? = some (oV vk vp vq vs vr)) => (show W.cell? ⟨c, 0, none⟩ = some (.pointer (some ⟨h, 0, none⟩)) ∧ W.cell? ⟨w.heap.size, 0, none⟩ = some (.int .i64 4) ∧ W.cell? ⟨w.heap.size, 1, none⟩ = some (.int .i64 0) ∧ W.cell? ⟨w.heap.size, 2, none⟩ = some (.int .i64 0) ∧ W.cell? ⟨w.heap.size, 3, none⟩ = some (.string ⟨#[]⟩) ∧ W.cell? ⟨w.heap.size, 4, none⟩ = some (.int .i64 ((ti : Int) + 1)) ∧ W.cell? ⟨w.heap.size + 1, 0, none⟩ = some (.int .i64 vk) ∧ W.cell? ⟨w.heap.size + 1, 1, none⟩ = some (.int .i64 vp) ∧ W.cell? ⟨w.heap.size + 1, 2, none⟩ = some (.int .i64 vq) ∧ W.cell? ⟨w.heap.size + 1, 3, none⟩ = some (.string vs) ∧ W.cell? ⟨w.heap.size + 1, 4, none⟩ = some (.int .i64 vr) from ⟨(cells16 h1).1, (cells5 h2).1, (cells5 h2).2.1, (cells5 h2).2.2.1, (cells5 h2).2.2.2.1, (cells5 h2).2.2.2.2, (cells5 h3).1, (cells5 h3).2.1, (cells5 h3).2.2.1, (cells5 h3).2.2.2.1, (cells5 h3).2.2.2.2⟩))
  have SO := Lib.hid (fun (W : World) (hb2 : Below W1.heap.size W1 W) => SOQ.out W (hkeep hb2 HC1a.out) (hkeep hb2 HT1.out) (hkeep hb2 HV1.out))
  have HBc := Lib.hid ((Below.refl W1.heap.size W1).drew)
  go_region_held3 (fun w' => w'.cell? ⟨c, 0, none⟩ = some (.pointer (some ⟨h, 0, none⟩)) ∧ w'.cell? ⟨w.heap.size, 0, none⟩ = some (.int .i64 4) ∧ w'.cell? ⟨w.heap.size, 1, none⟩ = some (.int .i64 0) ∧ w'.cell? ⟨w.heap.size, 2, none⟩ = some (.int .i64 0) ∧ w'.cell? ⟨w.heap.size, 3, none⟩ = some (.string ⟨#[]⟩) ∧ w'.cell? ⟨w.heap.size, 4, none⟩ = some (.int .i64 ((ti : Int) + 1)) ∧ w'.cell? ⟨w.heap.size + 1, 0, none⟩ = some (.int .i64 vk) ∧ w'.cell? ⟨w.heap.size + 1, 1, none⟩ = some (.int .i64 vp) ∧ w'.cell? ⟨w.heap.size + 1, 2, none⟩ = some (.int .i64 vq) ∧ w'.cell? ⟨w.heap.size + 1, 3, none⟩ = some (.string vs) ∧ w'.cell? ⟨w.heap.size + 1, 4, none⟩ = some (.int .i64 vr))
    (first | with_reducible exact SO.out _ HBc.out | with_reducible exact SOQ.out _ HXc.out HXt.out HXv.out)
    (first | (go_at_call 54; (with_reducible refine (HO.out _).mono ?_); rintro e nw1 ⟨rfl, hb⟩; have HBc := Lib.hid (below_next HBc.out hb); clear hb) | (go_at_call 23; (with_reducible refine (HSet.out _ HBc.out).mono ?_); rintro e nw2 ⟨rfl, O2, hP2, hq2⟩; have HX2 := Lib.hid (And.intro hP2 hq2); have HXk := Lib.hid (HKP.out _ _ _ HBc.out hq2); have HXc := Lib.hid HXk.out.1; have HXt := Lib.hid HXk.out.2.1; have HXv := Lib.hid HXk.out.2.2; clear hP2 hq2) | (go_at_call 62; (with_reducible refine (HSt.out _).mono ?_); rintro e nw3 ⟨rfl, rfl⟩))
  go_wp2
  go_end0
  obtain ⟨hP2, hq2⟩ := HX2.out
  exact ⟨rfl, O2, hP2, (HQB.out.trans (QS.of_below HBc.out)).trans hq2⟩
set_option maxRecDepth 100000 in
set_option maxHeartbeats 2000000 in
theorem kFields_c (w : World) (h : Nat) {base n : Nat} {M : LH} {AA : List (List V)} {O : Nat → Prop} (hP : PHp base n w h M AA O) (hn : n ≤ 1000) {ti : Nat} (hti : ti ≤ 100000) {o : LO} {A : List V} (hM : M[ti]? = some o) (hA : AA[ti]? = some A) (h4 : o.kind = 4) (hl : A.length ≤ 1000) (m : Int) (k : Nat) (hm : m = (k : Int)) (hk : k ≤ A.length) :
    Calls Tryz.prog 15 #[.pointer (some ⟨h, 0, none⟩), tabA ti, .int .i64 m] w (ListPost w (A.take k)) := by
  subst hm
  have HK := Lib.hid (fun W x => kNum_c W x)
  have HG := Lib.hid (fun W (hb : Below w.heap.size w W) (x : Nat) (hx : x < A.length) (v : V) (hv : A[x]? = some v) => get_in (hP.below hb) hn hti hM hA h4 hx (by omega) (vk := v.k) (vp := v.p) (vq := v.q) (vs := v.s) (vr := v.r) hv)
  obtain ⟨b1, hb1⟩ : ∃ b1, b1 = w.heap.size := ⟨_, rfl⟩
  clear hP hM hA
  go_enter Tryz.func15, Tryz.ntmps15
  go_wp2
  go_loopg [7, 8] k (fun gg s7 s8 wr => ∃ i so2 cap2, i + gg = k ∧ s8 = .int .i64 ((i : Int) + 1) ∧ s7 = .slice so2 i cap2 ∧ Hid (FldR w ti w.heap.size A i (.slice so2 i cap2) wr))
  case atStart => exact ⟨0, none, 0, by omega, rfl, rfl, World.ownsRow_nil _ _ _ _, below1 _ _, heap1 _ _⟩
  case round =>
    obtain ⟨i, so2, cap2, hi, rfl, rfl, HR⟩ := hrel
    have HRo := Lib.hid (HR.out.1)
    have HB := Lib.hid (HR.out.2.1)
    have HT := Lib.hid (HR.out.2.2)
    have hzr := HB.out.size
    have hyt := (Array.getElem?_eq_some_iff.1 HT.out).1
    clear HR
    by_cases hlt : i < k
    · have d1 : decide ((i : Int) + 1 ≤ (k : Int)) = true := decide_eq_true (by omega)
      obtain ⟨v, hv⟩ : ∃ v, A[i]? = some v := ⟨_, List.getElem?_eq_getElem (by omega)⟩
      have HGV := Lib.hid (fun W (hb2 : Below wr.heap.size wr W) => HG.out W (below_next HB.out hb2) i (by omega) v hv)
      have HV := Lib.hid (hv)
      clear hv
      obtain ⟨vk, vp, vq, vs, vr⟩ := v
      go_upto_region 5 with fail
      go_cut [9, 10] (fun s9 s10 wx => ∃ nb, s9 = .pointer (some ⟨nb, 0, none⟩) ∧ s10 = .int .i64 0 ∧ Hid (wx.heap[nb]? = some (oV vk vp vq vs vr) ∧ Below wr.heap.size wr wx))
      case first =>
        have SO := Lib.hid (fun (W : World) (hb : Below wr.heap.size wr W) => (show W.cell? ⟨w.heap.size, 0, none⟩ = some (.int .i64 4) ∧ W.cell? ⟨w.heap.size, 1, none⟩ = some (.int .i64 0) ∧ W.cell? ⟨w.heap.size, 2, none⟩ = some (.int .i64 0) ∧ W.cell? ⟨w.heap.size, 3, none⟩ = some (.string ⟨#[]⟩) ∧ W.cell? ⟨w.heap.size, 4, none⟩ = some (.int .i64 ((ti : Int) + 1)) ∧ Hid (Below wr.heap.size wr W) from ⟨(cells5 (hkeep hb HT.out)).1, (cells5 (hkeep hb HT.out)).2.1, (cells5 (hkeep hb HT.out)).2.2.1, (cells5 (hkeep hb HT.out)).2.2.2.1, (cells5 (hkeep hb HT.out)).2.2.2.2, Lib.hid hb⟩))
        have BA := Lib.hid (fun (W : World) (o : Obj) (hb : Below wr.heap.size wr W) => (show Below wr.heap.size wr (W.alloc o) from hb.alloc hb.size o))
        have BD := Lib.hid (fun (W : World) (hb : Below wr.heap.size wr W) => (show Below wr.heap.size wr W.drew from hb.drew))
        have B5 := Lib.hid (fun (W : World) (b : Nat) (x0 x1 x2 x3 x4 : Value) (hb : Below wr.heap.size wr W) (hbb : wr.heap.size ≤ b) => below_five hb hbb x0 x1 x2 x3 x4)
        have hbR : Below wr.heap.size wr wr := Below.refl _ _
        have hbD : Below wr.heap.size wr wr.drew := (Below.refl _ _).drew
        go_region_held3 (fun w' => w'.cell? ⟨w.heap.size, 0, none⟩ = some (.int .i64 4) ∧ w'.cell? ⟨w.heap.size, 1, none⟩ = some (.int .i64 0) ∧ w'.cell? ⟨w.heap.size, 2, none⟩ = some (.int .i64 0) ∧ w'.cell? ⟨w.heap.size, 3, none⟩ = some (.string ⟨#[]⟩) ∧ w'.cell? ⟨w.heap.size, 4, none⟩ = some (.int .i64 ((ti : Int) + 1)) ∧ Hid (Below wr.heap.size wr w'))
          (with_reducible refine SO.out _ ?_; repeat (first | with_reducible assumption | (with_reducible refine BA.out _ _ ?_) | (with_reducible refine BD.out _ ?_) | (with_reducible refine B5.out _ _ _ _ _ _ _ ?_ ?_) | omega))
          (first | (go_at_call 14; (with_reducible refine (HK.out _ _).mono ?_); rintro e nw1 ⟨rfl, hb⟩; have hb1 := below_next (prjF5 (by assumption)) hb; have hzb1 := hb1.size; (first | ((with_reducible have Hz1 := Lib.hid (hkeep hb (heap_newD wr (oV 0 0 0 ⟨#[]⟩ 0)))); have hza1 := (Array.getElem?_eq_some_iff.1 Hz1.out).1) | ((with_reducible have Hz1 := Lib.hid (hkeep hb (heap_new wr (oV 0 0 0 ⟨#[]⟩ 0)))); have hza1 := (Array.getElem?_eq_some_iff.1 Hz1.out).1) | skip); clear hb) | (go_at_call 21; (with_reducible refine (HGV.out _ (prjF5 (by assumption))).mono ?_); rintro e nw2 ⟨rfl, hb⟩; have hb2 := below_next (prjF5 (by assumption)) hb; have hzb2 := hb2.size; (first | ((with_reducible have Hz2 := Lib.hid (hkeep hb (heap_newD wr (oV 0 0 0 ⟨#[]⟩ 0)))); have hza2 := (Array.getElem?_eq_some_iff.1 Hz2.out).1; obtain ⟨z0, z1, z2, z3, z4⟩ := cells5 Hz2.out; obtain ⟨fz0, fz1, fz2, fz3, fz4⟩ := froz5 Hz2.out) | ((with_reducible have Hz2 := Lib.hid (hkeep hb (heap_new wr (oV 0 0 0 ⟨#[]⟩ 0)))); have hza2 := (Array.getElem?_eq_some_iff.1 Hz2.out).1; obtain ⟨z0, z1, z2, z3, z4⟩ := cells5 Hz2.out; obtain ⟨fz0, fz1, fz2, fz3, fz4⟩ := froz5 Hz2.out) | ((with_reducible have Hz2 := Lib.hid (hkeep hb (heap_new nw1 (oV 0 0 0 ⟨#[]⟩ 0)))); have hza2 := (Array.getElem?_eq_some_iff.1 Hz2.out).1; obtain ⟨z0, z1, z2, z3, z4⟩ := cells5 Hz2.out; obtain ⟨fz0, fz1, fz2, fz3, fz4⟩ := froz5 Hz2.out) | ((with_reducible have Hz2 := Lib.hid (hkeep hb Hz1.out)); have hza2 := (Array.getElem?_eq_some_iff.1 Hz2.out).1; obtain ⟨z0, z1, z2, z3, z4⟩ := cells5 Hz2.out; obtain ⟨fz0, fz1, fz2, fz3, fz4⟩ := froz5 Hz2.out) | skip); clear hb))
        all_goals
          go_wp2_with fail
          go_meet
          first
          | (with_reducible refine ⟨_, rfl, rfl, Lib.hid ⟨heap_new _ _, hb2.alloc hb2.size _⟩⟩)
          | (refine ⟨_, rfl, rfl, Lib.hid ⟨heap_five_at Hz2.out _ _ _ _ _, below_five hb2 ?_ _ _ _ _ _⟩⟩ <;> omega)
      case rest =>
        obtain ⟨nb, rfl, rfl, hx⟩ := hcut
        have HN := Lib.hid (hx.out.1)
        have HT2 := Lib.hid (hkeep hx.out.2 HT.out)
        have HB2 := Lib.hid (below_next HB.out hx.out.2)
        have HRo2 := Lib.hid (ownsRow_ext (below_ext hx.out.2 (Nat.le_refl _)) HRo.out)
        have hz2 := hx.out.2.size
        clear hx
        have hyn : nb < wc.heap.size := (Array.getElem?_eq_some_iff.1 HN.out).1
        obtain ⟨v0, v1, v2, v3, v4⟩ := cells5 HN.out
        obtain ⟨fv0, fv1, fv2, fv3, fv4⟩ := froz5 HN.out
        go_wp2_with (at_builtin; refine wpList_append_vals rfl (.tmp 24) (.tmp 26) rfl (w.heap.size + 1) (.slice so2 i cap2) i _ rfl (ownsRow_ext (below_ext (below1 _ _) (Nat.le_refl _)) HRo2.out) _ [⟨vk, vp, vq, vs, vr⟩] rfl (vals_one _ ⟨vk, vp, vq, vs, vr⟩) (by simp; omega) (by simp; omega) ?_)
        intro so5 cap5 w5 hown hgrow
        have HO5 := Lib.hid (hown)
        have HB5 := Lib.hid (below_grown (HB2.out.alloc HB2.out.size _) hgrow (by simp; omega) (fun b hb => by have := (ownBlock_lt HRo2.out hb).1; omega))
        have HT5 := Lib.hid ((hgrow.block w.heap.size (by simp; omega) (fun e => by have := (ownBlock_lt HRo2.out e.symm).1; omega)).trans (heap1_old HT2.out _))
        clear hown hgrow v0 v1 v2 v3 v4 fv0 fv1 fv2 fv3 fv4
        go_wp2
        go_roundg (k - (i + 1))
        case measure => omega
        case rel =>
          refine ⟨i + 1, so5, cap5, by omega, by push_cast; rfl, rfl, ?_, HB5.out, HT5.out⟩
          rw [List.take_add_one, HV.out, Option.toList_some, rowV_append]
          exact HO5.out
    · have hii : i = k := by omega
      subst hii
      have d1 : decide ((i : Int) + 1 ≤ (i : Int)) = false := decide_eq_false (by omega)
      go_wp2
      go_ret
      have hlen : (A.take i).length = i := by rw [List.length_take]; omega
      exact ⟨so2, cap2, by rw [hlen]; rfl, by rw [hlen]; exact ownsRow_base HRo.out (Nat.le_succ _), HB.out⟩
end Go.Proofs.YtpbcmlnjiocmoaaGreatDoorR
namespace Go.Proofs.YtpbcmlnjiocmoaaGreatDoorR
open Go.RowKit Go.Proofs.Lexi
section
variable {base n0 : Nat} {O0 : Nat → Prop} {w0 : World} {h c sb : Nat} {nm : ByteArray} {av : Value} {M : LH} {AA : List (List V)} {ti : Nat} {f : V} {Ls : List Int} {n wd lo i j : Int} {O : Nat → Prop} {w : World}
theorem SRun.get {so : Option Addr} {na ca : Nat} (S : SRun base n0 O0 w0 h c sb nm (.slice so na ca) M AA ti f Ls n wd lo i j O w) (hn : n0 ≤ 1000) (hti : ti ≤ 100000) {o : LO} (hM : M[ti]? = some o) (h4 : o.kind = 4) (htl : ti < AA.length) (hl : Ls.length ≤ 1000) (W : World) (hb : Below w.heap.size w W) {x : Nat} (hx : x < Ls.length) (k : Int) (hk : k = (x : Int) + 1) :
    Calls Tryz.prog 56 #[.pointer (some ⟨c, 0, none⟩), .agg #[.int .i64 4, .int .i64 0, .int .i64 0, .string ⟨#[]⟩, .int .i64 ((ti : Int) + 1)], .int .i64 k] W (fun e w' => e = .returned (.agg #[.int .i64 2, .int .i64 (gI Ls x), .int .i64 1, .string ⟨#[]⟩, .int .i64 0]) ∧ Below W.heap.size W w') :=
  tGet_c W c h nm so na ca (hkeep hb S.hc.1) (S.hp.below hb) hn hti hM (List.getElem?_set_self htl) h4 (by rw [List.length_map]; exact hx) (by rw [List.length_map]; omega) k hk (by rw [List.getElem?_map, gI_some hx]; rfl)
theorem SRun.set {so : Option Addr} {na ca : Nat} (S : SRun base n0 O0 w0 h c sb nm (.slice so na ca) M AA ti f Ls n wd lo i j O w) (hb0 : base ≤ w0.heap.size) (hn : n0 ≤ 1000) (hti : ti ≤ 100000) {o : LO} (hM : M[ti]? = some o) (h4 : o.kind = 4) (htl : ti < AA.length) (hl : Ls.length ≤ 1000) (W : World) (hb : Below w.heap.size w W) {x : Nat} (hx : x < Ls.length) (k : Int) (hk : k = (x : Int) + 1) (v : Int) (hv : -2147483647 ≤ v ∧ v ≤ 2147483647) :
    Calls Tryz.prog 64 #[.pointer (some ⟨c, 0, none⟩), .agg #[.int .i64 4, .int .i64 0, .int .i64 0, .string ⟨#[]⟩, .int .i64 ((ti : Int) + 1)], .int .i64 k, .agg #[.int .i64 2, .int .i64 v, .int .i64 1, .string ⟨#[]⟩, .int .i64 0]] W (fun e w' => e = .returned (.tuple #[]) ∧ ∃ O', PHp base n0 w' h M (AA.set ti ((Ls.set x v).map nI)) O' ∧ QS base O W O' w') := by
  have := tSet_c W c h nm so na ca (S.hp.below hb) (Nat.le_trans (S.base_le hb0) hb.size) (S.hc.below hb) hn hti hM (List.getElem?_set_self htl) h4 (x := x) (by rw [List.length_map]; exact hx) (by rw [List.length_map]; omega) k hk 2 v 1 ⟨#[]⟩ 0 (by decide) (valid_num hv.1 hv.2) (wf_num hv.1 hv.2)
  rwa [List.set_set, show (Ls.map nI).set x ⟨2, v, 1, ⟨#[]⟩, 0⟩ = (Ls.set x v).map nI from (List.map_set (f := nI)).symm] at this
end
set_option maxRecDepth 100000 in
set_option maxHeartbeats 2000000 in
theorem tAns_no (W : World) (sb c ti : Nat) (f : V) (n w lo i j : Int) (h : W.heap[sb]? = some (oSo c ti f n w lo i j)) (h1 : 0 ≤ i ∧ i ≤ 100000) :
    Calls Tryz.prog 94 #[.pointer (some ⟨sb, 0, none⟩), .bool false] W (fun e w' => e = .returned (.tuple #[]) ∧ w'.heap[sb]? = some (oSo c ti f n w lo (i + 1) j) ∧ Only sb W w') := by
  have HH := Lib.hid (h)
  have hl := (Array.getElem?_eq_some_iff.1 h).1
  clear h
  obtain ⟨c0, c1, c2, c3, c4, c5, c6, c7, c8, c9, c10, c11, c12, c13, c14, c15⟩ := cells16 HH.out
  obtain ⟨fc0, fc1, fc2, fc3, fc4, fc5, fc6, fc7, fc8, fc9, fc10, fc11, fc12, fc13, fc14, fc15⟩ := froz16 HH.out
  go_enter Tryz.func94, Tryz.ntmps94
  go_wp2
  go_end0
  exact ⟨rfl, heap_setCell_same HH.out 14 _, Only.of_mods (mods_setCell (F := fun k => k = sb) (b := sb) (Mods.refl _ _) (.inl rfl) _)⟩
set_option maxRecDepth 100000 in
set_option maxHeartbeats 40000000 in
theorem tAns_yes {base n0 : Nat} {O0 : Nat → Prop} {w0 : World} {h c sb : Nat} {nm : ByteArray} {so : Option Addr} {na ca : Nat} {M : LH} {AA : List (List V)} {ti : Nat} {f : V} {Ls : List Int} {n wd lo : Int} {i j : Nat} {O : Nat → Prop} (w : World) (S : SRun base n0 O0 w0 h c sb nm (.slice so na ca) M AA ti f Ls n wd lo ((i : Int) + 1) ((j : Int) + 1) O w) (hsb : w0.heap.size ≤ sb) (hcb : c ≠ sb) (hb0 : base ≤ w0.heap.size) (hn : n0 ≤ 1000) (hti : ti ≤ 100000) {o : LO} (hM : M[ti]? = some o) (h4 : o.kind = 4) (htl : ti < AA.length) (hl : Ls.length ≤ 1000) (hij : i ≤ j) (hj : j < Ls.length) (hLs : ∀ x ∈ Ls, -2147483647 ≤ x ∧ x ≤ 2147483647) :
    Calls Tryz.prog 94 #[.pointer (some ⟨sb, 0, none⟩), .bool true] w (fun e w' => e = .returned (.tuple #[]) ∧ ∃ O', SRun base n0 O0 w0 h c sb nm (.slice so na ca) M AA ti f (rotL Ls i j) n wd lo ((i : Int) + 1 + 1) ((j : Int) + 1 + 1) O' w' ∧ KeepX sb O w O' w') := by
  have HS0 := Lib.hid (S)
  have HG := Lib.hid (fun W (hb : Below w.heap.size w W) => S.get hn hti hM h4 htl hl W hb hj ((j : Int) + 1) rfl)
  have HL := Lib.hid (hLs)
  have HS1 := Lib.hid (S.hs.1)
  have HM := Lib.hid (hM)
  have hsl := (Array.getElem?_eq_some_iff.1 S.hs.1).1
  clear S hLs hM
  go_enter Tryz.func94, Tryz.ntmps94
  go_upto_region 1 with fail
  have SO := Lib.hid (fun (W : World) (hb : Below w.heap.size w W) => (show W.cell? ⟨sb, 0, none⟩ = some (.pointer (some ⟨c, 0, none⟩)) ∧ W.cell? ⟨sb, 1, none⟩ = some (.int .i64 4) ∧ W.cell? ⟨sb, 2, none⟩ = some (.int .i64 0) ∧ W.cell? ⟨sb, 3, none⟩ = some (.int .i64 0) ∧ W.cell? ⟨sb, 4, none⟩ = some (.string ⟨#[]⟩) ∧ W.cell? ⟨sb, 5, none⟩ = some (.int .i64 ((ti : Int) + 1)) ∧ W.cell? ⟨sb, 15, none⟩ = some (.int .i64 ((j : Int) + 1)) from ⟨(cells16 (hkeep hb HS1.out)).1, (cells16 (hkeep hb HS1.out)).2.1, (cells16 (hkeep hb HS1.out)).2.2.1, (cells16 (hkeep hb HS1.out)).2.2.2.1, (cells16 (hkeep hb HS1.out)).2.2.2.2.1, (cells16 (hkeep hb HS1.out)).2.2.2.2.2.1, (cells16 (hkeep hb HS1.out)).2.2.2.2.2.2.2.2.2.2.2.2.2.2.2⟩))
  apply wp_region_boxes mixed (by kernel_rfl)
  iterate 12 (apply WalkG.take; (focus (intro p e W oo hI hH hN hF; refine ⟨by rfl, ?_⟩; obtain ⟨xc0, xc1, xc2, xc3, xc4, xc5, xc6⟩ := SO.out W hI; go_simp; (try with_reducible rfl))); (try simp only [Act.put, List.setIfInBounds_toArray, List.set_cons_zero, List.set_cons_succ, List.length_append, List.length_cons, List.length_nil, Nat.zero_add, Nat.reduceAdd]))
  (apply WalkG.val; (focus (intro p e W oo hI hH hN hF K hK; obtain ⟨xc0, xc1, xc2, xc3, xc4, xc5, xc6⟩ := SO.out W hI; go_simp; (go_at_call 56; (with_reducible refine (HG.out _ hI).mono ?_); rintro e1 w1 ⟨rfl, hb⟩); exact hK _ _ ⟨rfl, hb⟩)); (try simp only [Act.put, List.setIfInBounds_toArray, List.set_cons_zero, List.set_cons_succ, List.length_append, List.length_cons, List.length_nil, Nat.zero_add, Nat.reduceAdd]))
  (apply WalkG.box (fun n => .pointer (some ⟨n, 0, none⟩)) (oV 0 0 0 ⟨#[]⟩ 0); (focus (intro p e W oo hI K hK; go_simp; exact hK _ _ ⟨rfl, rfl⟩)); (focus exact trivial); (try simp only [Act.put, List.setIfInBounds_toArray, List.set_cons_zero, List.set_cons_succ, List.length_append, List.length_cons, List.length_nil, Nat.zero_add, Nat.reduceAdd]))
  (apply WalkG.sto 13 (fun n => .pointer (some ⟨n, 0, none⟩)) (oV 0 0 0 ⟨#[]⟩ 0) (fun _ => (oV 2 (gI Ls j) 1 ⟨#[]⟩ 0)) false (by kernel_rfl) (fun _ _ _ => rfl) (fun _ => trivial); (focus (intro p e W oo hI hH hB K hK; ((obtain ⟨q0, q1, q2, q3, q4⟩ := cells5 hB); (obtain ⟨fq0, fq1, fq2, fq3, fq4⟩ := froz5 hB); go_simp; exact hK _ _ ⟨rfl, only_five hB _ _ _ _ _⟩))); (try simp only [Act.put, List.setIfInBounds_toArray, List.set_cons_zero, List.set_cons_succ, List.length_append, List.length_cons, List.length_nil, Nat.zero_add, Nat.reduceAdd]))
  apply WalkG.nil
  intro p e W hI hA hS hD
  rotate_left
  focus kernel_rfl
  focus kernel_rfl
  obtain ⟨hb4, hb4b, hbx⟩ := hS 14 13 _ _ _ rfl
  obtain ⟨b4, hb4e⟩ : ∃ b4, b4 = p 13 := ⟨_, rfl⟩
  rw [← hb4e] at hb4 hbx
  try rw [← hb4e]
  have HB4 := Lib.hid (hbx)
  have HB1 := Lib.hid (hI)
  have HSR := Lib.hid (HS0.out.below HB1.out)
  have hl4 := (Array.getElem?_eq_some_iff.1 HB4.out).1
  have HX4 := Lib.hid ((show ¬ O b4 from fun e => by have := HS0.out.hp.lt _ e; omega))
  have hsl2 := (Array.getElem?_eq_some_iff.1 HSR.out.hs.1).1
  clear hS hA hD hb4b hbx hI hb4e
  have HSc := Lib.hid (HSR.out.hs.1)
  obtain ⟨c0, c1, c2, c3, c4, c5, c6, c7, c8, c9, c10, c11, c12, c13, c14, c15⟩ := cells16 HSc.out
  obtain ⟨fc0, fc1, fc2, fc3, fc4, fc5, fc6, fc7, fc8, fc9, fc10, fc11, fc12, fc13, fc14, fc15⟩ := froz16 HSc.out
  go_wp2
  clear c0 c1 c2 c3 c4 c5 c6 c7 c8 c9 c10 c11 c12 c13 c14 c15 fc0 fc1 fc2 fc3 fc4 fc5 fc6 fc7 fc8 fc9 fc10 fc11 fc12 fc13 fc14 fc15
  go_loopg [5] (j - i) (fun gg s5 wr => ∃ k Mk Ok, gg = k - i ∧ i ≤ k ∧ k ≤ j ∧ s5 = .int .i64 ((k : Int) + 1) ∧ Hid (IsShf Ls Mk j k ∧ SRun base n0 O0 w0 h c sb nm (.slice so na ca) M AA ti f Mk n wd lo ((i : Int) + 1) ((j : Int) + 1) Ok wr ∧ Held wr Ok b4 (oV 2 (gI Ls j) 1 ⟨#[]⟩ 0) ∧ KeepX sb O w Ok wr))
  case atStart => exact ⟨j, Ls, O, rfl, hij, Nat.le_refl _, rfl, Lib.hid ⟨shf_start Ls j, HSR.out, ⟨HB4.out, HX4.out⟩, (KeepX.refl sb O w).below HB1.out⟩⟩
  case round =>
    obtain ⟨k, Mk, Ok, hk1, hk2, hk3, rfl, HR⟩ := hrel
    subst hk1
    have HF := Lib.hid (HR.out.1)
    have HS2 := Lib.hid (HR.out.2.1)
    have H4 := Lib.hid (HR.out.2.2.1)
    have HKX := Lib.hid (HR.out.2.2.2)
    have HSH := Lib.hid (HS2.out.hs)
    have HOL := Lib.hid (HS2.out.hp.lt)
    clear HR
    have hmk : Mk.length = Ls.length := HF.out.1
    have hsr := (Array.getElem?_eq_some_iff.1 HSH.out.1).1
    have h4r := (Array.getElem?_eq_some_iff.1 H4.out.1).1
    have HSc := Lib.hid (HSH.out.1)
    by_cases hki : i < k
    · have d1 : decide ((k : Int) + 1 > (i : Int) + 1) = true := decide_eq_true (by omega)
      have e0 : IsShf Ls Mk j (k - 1 + 1) := by rw [Nat.sub_add_cancel (by omega)]; exact HF.out
      have ek : gI Mk (k - 1) = gI Ls (k - 1) := by
        have h1 := shf_at e0 (by omega)
        rw [gI_some (L := Mk) (by omega)] at h1
        injection h1
      have HFn := Lib.hid ((show IsShf Ls (Mk.set k (gI Ls (k - 1))) j (k - 1) from by have := shf_step e0 (by omega) hj; rwa [Nat.sub_add_cancel (by omega)] at this))
      have HGk := Lib.hid (fun W (hb : Below wr.heap.size wr W) => (by have := HS2.out.get hn hti HM.out h4 htl (by omega) W hb (x := k - 1) (by omega) (k : Int) (by omega); rw [ek] at this; exact this : Calls Tryz.prog 56 #[.pointer (some ⟨c, 0, none⟩), .agg #[.int .i64 4, .int .i64 0, .int .i64 0, .string ⟨#[]⟩, .int .i64 ((ti : Int) + 1)], .int .i64 (k : Int)] W (fun e w' => e = .returned (.agg #[.int .i64 2, .int .i64 (gI Ls (k - 1)), .int .i64 1, .string ⟨#[]⟩, .int .i64 0]) ∧ Below W.heap.size W w')))
      have HSk := Lib.hid (fun W (hb : Below wr.heap.size wr W) => HS2.out.set hb0 hn hti HM.out h4 htl (by omega) W hb (x := k) (by omega) ((k : Int) + 1) rfl (gI Ls (k - 1)) (HL.out _ (List.mem_of_getElem? (gI_some (by omega)))))
      have hwr : IntKind.i64.wrap (k : Int) = (k : Int) := w64_in (by omega) (by omega)
      clear e0 ek
      obtain ⟨c0, c1, c2, c3, c4, c5, c6, c7, c8, c9, c10, c11, c12, c13, c14, c15⟩ := cells16 HSc.out
      obtain ⟨fc0, fc1, fc2, fc3, fc4, fc5, fc6, fc7, fc8, fc9, fc10, fc11, fc12, fc13, fc14, fc15⟩ := froz16 HSc.out
      go_upto_region 5 with fail
      clear c0 c1 c2 c3 c4 c5 c6 c7 c8 c9 c10 c11 c12 c13 c14 c15 fc0 fc1 fc2 fc3 fc4 fc5 fc6 fc7 fc8 fc9 fc10 fc11 fc12 fc13 fc14 fc15
      have SOW := Lib.hid (fun (W : World) (h0 : W.heap[sb]? = some (oSo c ti f n wd lo ((i : Int) + 1) ((j : Int) + 1))) => (show W.cell? ⟨sb, 0, none⟩ = some (.pointer (some ⟨c, 0, none⟩)) ∧ W.cell? ⟨sb, 1, none⟩ = some (.int .i64 4) ∧ W.cell? ⟨sb, 2, none⟩ = some (.int .i64 0) ∧ W.cell? ⟨sb, 3, none⟩ = some (.int .i64 0) ∧ W.cell? ⟨sb, 4, none⟩ = some (.string ⟨#[]⟩) ∧ W.cell? ⟨sb, 5, none⟩ = some (.int .i64 ((ti : Int) + 1)) from ⟨(cells16 h0).1, (cells16 h0).2.1, (cells16 h0).2.2.1, (cells16 h0).2.2.2.1, (cells16 h0).2.2.2.2.1, (cells16 h0).2.2.2.2.2.1⟩))
      have SO := Lib.hid (fun (oo : Option ((Nat → Prop) × Unit)) (W : World) (hI : IHp base n0 Ok wr h M (AA.set ti ((Mk.set k (gI Ls (k - 1))).map nI)) (fun (_ : Unit) _ => True) oo W) => (show W.cell? ⟨sb, 0, none⟩ = some (.pointer (some ⟨c, 0, none⟩)) ∧ W.cell? ⟨sb, 1, none⟩ = some (.int .i64 4) ∧ W.cell? ⟨sb, 2, none⟩ = some (.int .i64 0) ∧ W.cell? ⟨sb, 3, none⟩ = some (.int .i64 0) ∧ W.cell? ⟨sb, 4, none⟩ = some (.string ⟨#[]⟩) ∧ W.cell? ⟨sb, 5, none⟩ = some (.int .i64 ((ti : Int) + 1)) from SOW.out W (by cases oo with | none => exact hkeep hI HSH.out.1 | some e => exact (hI.2.1.keep HSH.out.1 (npb (by decide)) HSH.out.2).1)))
      apply wp_region_heap (fun (_ : Unit) _ => True) (fun _ _ => False) 20 () mixed (by kernel_rfl) (by kernel_rfl) (fun _ _ _ _ _ => trivial) (fun _ _ _ _ _ _ _ => trivial) (fun _ _ _ _ h => h.elim)
      iterate 19 (apply WalkG.take; (focus (intro p e W oo hI hH hN hF; refine ⟨by rfl, ?_⟩; obtain ⟨xc0, xc1, xc2, xc3, xc4, xc5⟩ := SO.out oo W hI; go_simp; (try with_reducible rfl))); (try simp only [Act.put, List.setIfInBounds_toArray, List.set_cons_zero, List.set_cons_succ, List.length_append, List.length_cons, List.length_nil, Nat.zero_add, Nat.reduceAdd]))
      (apply WalkG.val; (focus (intro p e W oo hI hH hN hF K hK; obtain rfl := hN (by kernel_rfl); have hIb := ihp_none hI; obtain ⟨xc0, xc1, xc2, xc3, xc4, xc5⟩ := SO.out none W hI; go_simp; (go_at_call 56; (with_reducible refine (HGk.out _ hIb).mono ?_); rintro e1 w1 ⟨rfl, hb⟩); exact hK _ _ ⟨rfl, hb⟩)); (try simp only [Act.put, List.setIfInBounds_toArray, List.set_cons_zero, List.set_cons_succ, List.length_append, List.length_cons, List.length_nil, Nat.zero_add, Nat.reduceAdd]))
      (apply WalkG.hev (fun e => .tuple #[]); (focus (intro p e W hI hF K hK; have hIb := ihp_none hI; obtain ⟨xc0, xc1, xc2, xc3, xc4, xc5⟩ := SO.out none W hI; go_simp; (go_at_call 64; (with_reducible refine (HSk.out _ hIb).mono ?_); rintro e1 w1 ⟨rfl, O3, hP3, hq3⟩; exact hK _ _ ⟨(O3, ()), rfl, hev_done (Ex := fun (_ : Unit) _ => True) (Bl := fun _ _ => False) hIb HOL.out hP3 hq3 () trivial (fun _ h => h.elim)⟩))); (try simp only [Act.put, List.setIfInBounds_toArray, List.set_cons_zero, List.set_cons_succ, List.length_append, List.length_cons, List.length_nil, Nat.zero_add, Nat.reduceAdd]))
      apply WalkG.nil
      intro p e W hI hA hS hD
      rotate_left
      focus kernel_rfl
      have HPn := Lib.hid (hI.1)
      have HQn := Lib.hid (hI.2.1)
      have H4n := Lib.hid (HQn.out.keep H4.out.1 (npb (by decide)) H4.out.2)
      have HSn := Lib.hid (HS2.out.heavy HPn.out HQn.out)
      clear hI hA hS hD
      have hk64 : IntKind.i64.wrap ((k : Int) + 1 - 1) = (k : Int) := by rw [show ((k : Int) + 1 - 1) = (k : Int) by omega]; exact hwr
      go_wp2
      go_roundg (k - 1 - i)
      case measure => omega
      case rel => exact ⟨k - 1, _, e.1, rfl, by omega, by omega, by first | rfl | (congr 1; omega), Lib.hid ⟨HFn.out, HSn.out, H4n.out, HKX.out.qs HQn.out⟩⟩
    · have hkk : k = i := by omega
      have d1 : decide ((k : Int) + 1 > (i : Int) + 1) = false := decide_eq_false (by omega)
      have HFn := Lib.hid ((show Mk.set i (gI Ls j) = rotL Ls i j from shf_end (by rw [← hkk]; exact HF.out) hij hj))
      have HSk := Lib.hid (fun W (hb : Below wr.heap.size wr W) => (by have := HS2.out.set hb0 hn hti HM.out h4 htl (by omega) W hb (x := i) (by omega) ((i : Int) + 1) rfl (gI Ls j) (HL.out _ (List.mem_of_getElem? (gI_some hj))); rw [HFn.out] at this; exact this : Calls Tryz.prog 64 #[.pointer (some ⟨c, 0, none⟩), .agg #[.int .i64 4, .int .i64 0, .int .i64 0, .string ⟨#[]⟩, .int .i64 ((ti : Int) + 1)], .int .i64 ((i : Int) + 1), .agg #[.int .i64 2, .int .i64 (gI Ls j), .int .i64 1, .string ⟨#[]⟩, .int .i64 0]] W (fun e w' => e = .returned (.tuple #[]) ∧ ∃ O', PHp base n0 w' h M (AA.set ti ((rotL Ls i j).map nI)) O' ∧ QS base Ok W O' w')))
      clear hkk
      obtain ⟨c0, c1, c2, c3, c4, c5, c6, c7, c8, c9, c10, c11, c12, c13, c14, c15⟩ := cells16 HSc.out
      obtain ⟨fc0, fc1, fc2, fc3, fc4, fc5, fc6, fc7, fc8, fc9, fc10, fc11, fc12, fc13, fc14, fc15⟩ := froz16 HSc.out
      go_upto_region 6 with fail
      clear c0 c1 c2 c3 c4 c5 c6 c7 c8 c9 c10 c11 c12 c13 c14 c15 fc0 fc1 fc2 fc3 fc4 fc5 fc6 fc7 fc8 fc9 fc10 fc11 fc12 fc13 fc14 fc15
      have SOW := Lib.hid (fun (W : World) (h0 : W.heap[sb]? = some (oSo c ti f n wd lo ((i : Int) + 1) ((j : Int) + 1))) (h1 : W.heap[b4]? = some (oV 2 (gI Ls j) 1 ⟨#[]⟩ 0)) => (show W.cell? ⟨sb, 0, none⟩ = some (.pointer (some ⟨c, 0, none⟩)) ∧ W.cell? ⟨sb, 1, none⟩ = some (.int .i64 4) ∧ W.cell? ⟨sb, 2, none⟩ = some (.int .i64 0) ∧ W.cell? ⟨sb, 3, none⟩ = some (.int .i64 0) ∧ W.cell? ⟨sb, 4, none⟩ = some (.string ⟨#[]⟩) ∧ W.cell? ⟨sb, 5, none⟩ = some (.int .i64 ((ti : Int) + 1)) ∧ W.cell? ⟨sb, 14, none⟩ = some (.int .i64 ((i : Int) + 1)) ∧ W.cell? ⟨b4, 0, none⟩ = some (.int .i64 2) ∧ W.cell? ⟨b4, 1, none⟩ = some (.int .i64 (gI Ls j)) ∧ W.cell? ⟨b4, 2, none⟩ = some (.int .i64 1) ∧ W.cell? ⟨b4, 3, none⟩ = some (.string ⟨#[]⟩) ∧ W.cell? ⟨b4, 4, none⟩ = some (.int .i64 0) from ⟨(cells16 h0).1, (cells16 h0).2.1, (cells16 h0).2.2.1, (cells16 h0).2.2.2.1, (cells16 h0).2.2.2.2.1, (cells16 h0).2.2.2.2.2.1, (cells16 h0).2.2.2.2.2.2.2.2.2.2.2.2.2.2.1, (cells5 h1).1, (cells5 h1).2.1, (cells5 h1).2.2.1, (cells5 h1).2.2.2.1, (cells5 h1).2.2.2.2⟩))
      have SO := Lib.hid (fun (oo : Option ((Nat → Prop) × Unit)) (W : World) (hI : IHp base n0 Ok wr h M (AA.set ti ((rotL Ls i j).map nI)) (fun (_ : Unit) _ => True) oo W) => (show W.cell? ⟨sb, 0, none⟩ = some (.pointer (some ⟨c, 0, none⟩)) ∧ W.cell? ⟨sb, 1, none⟩ = some (.int .i64 4) ∧ W.cell? ⟨sb, 2, none⟩ = some (.int .i64 0) ∧ W.cell? ⟨sb, 3, none⟩ = some (.int .i64 0) ∧ W.cell? ⟨sb, 4, none⟩ = some (.string ⟨#[]⟩) ∧ W.cell? ⟨sb, 5, none⟩ = some (.int .i64 ((ti : Int) + 1)) ∧ W.cell? ⟨sb, 14, none⟩ = some (.int .i64 ((i : Int) + 1)) ∧ W.cell? ⟨b4, 0, none⟩ = some (.int .i64 2) ∧ W.cell? ⟨b4, 1, none⟩ = some (.int .i64 (gI Ls j)) ∧ W.cell? ⟨b4, 2, none⟩ = some (.int .i64 1) ∧ W.cell? ⟨b4, 3, none⟩ = some (.string ⟨#[]⟩) ∧ W.cell? ⟨b4, 4, none⟩ = some (.int .i64 0) from SOW.out W (by cases oo with | none => exact hkeep hI HSH.out.1 | some e => exact (hI.2.1.keep HSH.out.1 (npb (by decide)) HSH.out.2).1) (by cases oo with | none => exact hkeep hI H4.out.1 | some e => exact (hI.2.1.keep H4.out.1 (npb (by decide)) H4.out.2).1)))
      apply wp_region_heap (fun (_ : Unit) _ => True) (fun _ _ => False) 13 () mixed (by kernel_rfl) (by kernel_rfl) (fun _ _ _ _ _ => trivial) (fun _ _ _ _ _ _ _ => trivial) (fun _ _ _ _ h => h.elim)
      iterate 13 (apply WalkG.take; (focus (intro p e W oo hI hH hN hF; refine ⟨by rfl, ?_⟩; obtain ⟨xc0, xc1, xc2, xc3, xc4, xc5, xc6, xc7, xc8, xc9, xc10, xc11⟩ := SO.out oo W hI; go_simp; (try with_reducible rfl))); (try simp only [Act.put, List.setIfInBounds_toArray, List.set_cons_zero, List.set_cons_succ, List.length_append, List.length_cons, List.length_nil, Nat.zero_add, Nat.reduceAdd]))
      (apply WalkG.hev (fun e => .tuple #[]); (focus (intro p e W hI hF K hK; have hIb := ihp_none hI; obtain ⟨xc0, xc1, xc2, xc3, xc4, xc5, xc6, xc7, xc8, xc9, xc10, xc11⟩ := SO.out none W hI; go_simp; (go_at_call 64; (with_reducible refine (HSk.out _ hIb).mono ?_); rintro e1 w1 ⟨rfl, O3, hP3, hq3⟩; exact hK _ _ ⟨(O3, ()), rfl, hev_done (Ex := fun (_ : Unit) _ => True) (Bl := fun _ _ => False) hIb HOL.out hP3 hq3 () trivial (fun _ h => h.elim)⟩))); (try simp only [Act.put, List.setIfInBounds_toArray, List.set_cons_zero, List.set_cons_succ, List.length_append, List.length_cons, List.length_nil, Nat.zero_add, Nat.reduceAdd]))
      apply WalkG.nil
      intro p e W hI hA hS hD
      rotate_left
      focus kernel_rfl
      have HSn := Lib.hid (HS2.out.heavy hI.1 hI.2.1)
      have HKn := Lib.hid (HKX.out.qs hI.2.1)
      clear hI hA hS hD
      have HSd := Lib.hid (HSn.out.hs.1)
      have hsd := (Array.getElem?_eq_some_iff.1 HSd.out).1
      obtain ⟨c0, c1, c2, c3, c4, c5, c6, c7, c8, c9, c10, c11, c12, c13, c14, c15⟩ := cells16 HSd.out
      obtain ⟨fc0, fc1, fc2, fc3, fc4, fc5, fc6, fc7, fc8, fc9, fc10, fc11, fc12, fc13, fc14, fc15⟩ := froz16 HSd.out
      go_wp2
      go_end0
      exact ⟨rfl, e.1, HSn.out.store hsb hcb (Only.of_mods (mods_setCell (F := fun k => k = sb) (b := sb) (mods_setCell (F := fun k => k = sb) (b := sb) (Mods.refl _ _) (.inl rfl) _) (.inl rfl) _)) (heap_setCell_same (heap_setCell_same HSd.out 15 _) 14 _), HKn.out.only (Only.of_mods (mods_setCell (F := fun k => k = sb) (b := sb) (mods_setCell (F := fun k => k = sb) (b := sb) (Mods.refl _ _) (.inl rfl) _) (.inl rfl) _))⟩
end Go.Proofs.YtpbcmlnjiocmoaaGreatDoorR
namespace Go.Proofs.YtpbcmlnjiocmoaaGreatDoorR
open Go.RowKit Go.Proofs.Lexi
theorem fieldsK_c (w : World) (h : Nat) {base n : Nat} {M : LH} {AA : List (List V)} {O : Nat → Prop} (hP : PHp base n w h M AA O) (hn : n ≤ 1000) {ti : Nat} (hti : ti ≤ 100000) {o : LO} {A : List V} (hM : M[ti]? = some o) (hA : AA[ti]? = some A) (h4 : o.kind = 4) (hl : A.length ≤ 1000) (m : Int) (k : Nat) (hm : m = (k : Int)) (hk : A.length = k) :
    Calls Tryz.prog 15 #[.pointer (some ⟨h, 0, none⟩), tabA ti, .int .i64 m] w (fun e w' => ∃ so cap, e = .returned (.slice so k cap) ∧ Vals w' (.slice so k cap) A ∧ Below w.heap.size w w') := by
  refine (kFields_c w h hP hn hti hM hA h4 hl m k hm (by omega)).mono ?_
  rintro e w' ⟨so, cap, rfl, hr, hb⟩
  rw [List.take_of_length_le (by omega)] at hr
  refine ⟨so, cap, ?_, ?_, hb⟩
  · rw [List.take_of_length_le (by omega), hk]
  · have := Vals.of_row hr
    rwa [hk] at this
end Go.Proofs.YtpbcmlnjiocmoaaGreatDoorR
