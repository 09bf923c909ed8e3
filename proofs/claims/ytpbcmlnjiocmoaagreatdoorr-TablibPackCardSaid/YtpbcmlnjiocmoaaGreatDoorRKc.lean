import Derived.Test.YtpbcmlnjiocmoaaGreatDoorRTq
set_option linter.unusedVariables false
set_option linter.unusedSimpArgs false
set_option maxRecDepth 100000
set_option maxHeartbeats 2000000
namespace Go.Proofs.YtpbcmlnjiocmoaaGreatDoorR
open Go.RowKit Go.Proofs.Lexi
set_option maxRecDepth 100000 in
set_option maxHeartbeats 2000000 in
theorem kNum_c (w : World) (x : Int) : Calls Tryz.prog 14 #[.int .i64 x] w (fun e w' => e = .returned (.agg #[.int .i64 2, .int .i64 x, .int .i64 1, .string ⟨#[]⟩, .int .i64 0]) ∧ Below w.heap.size w w') := by
  go_enter Tryz.func14, Tryz.ntmps14
  go_wp2
  refine bodyPost_ret (by simp [results, Tryz.results14, go_sem, ]; first | done | rfl) rfl ?_
  exact ⟨rfl, below1 _ _⟩
set_option maxRecDepth 100000 in
set_option maxHeartbeats 2000000 in
theorem kStr_c (w : World) (s : ByteArray) : Calls Tryz.prog 10 #[.string s] w (fun e w' => e = .returned (.agg #[.int .i64 3, .int .i64 0, .int .i64 0, .string s, .int .i64 0]) ∧ Below w.heap.size w w') := by
  go_enter Tryz.func10, Tryz.ntmps10
  go_wp2
  refine bodyPost_ret (by simp [results, Tryz.results10, go_sem, ]; first | done | rfl) rfl ?_
  exact ⟨rfl, below1 _ _⟩
set_option maxRecDepth 100000 in
set_option maxHeartbeats 2000000 in
theorem list_c (w : World) (h : Nat) {base n : Nat} {M : LH} {AA : List (List V)} {O : Nat → Prop} (hP : PHp base n w h M AA O) (hb : base ≤ w.heap.size) (so : Option Addr) (cap : Nat) (A : List V) (hn : n + A.length ≤ 999) (hML : M.length ≤ 900) (hLA : AA.length = M.length) (hA : Vals w (.slice so A.length cap) A) (g : Nat) (cs : Array Value) (hG : A = [] ∨ (∃ o, so = some ⟨g, o, none⟩) ∧ Held w O g (.cells cs 30)) (hV : ∀ v ∈ A, v.k ≠ 0 ∧ validV v = true ∧ WfV v) :
    Calls Tryz.prog 11 #[.pointer (some ⟨h, 0, none⟩), .slice so A.length cap] w (fun e w' => e = .returned (.tuple #[tabA M.length, .bool true]) ∧ ∃ O', PHp base (n + A.length) w' h (M ++ [⟨4, V.nil, []⟩]) (AA ++ [A]) O' ∧ QS base O w O' w') := by
  have HNT := Lib.hid (pNewTableP_c (hP.below (below1 w (oV 0 0 0 ⟨#[]⟩ 0))) (by simp; omega) (by omega))
  have HR0 := Lib.hid ((⟨heap1 w _, fun e => Nat.lt_irrefl _ (hP.lt _ e)⟩ : Held (w.alloc (oV 0 0 0 ⟨#[]⟩ 0)) O w.heap.size (oV 0 0 0 ⟨#[]⟩ 0)))
  have HG := Lib.hid (hG)
  have HV := Lib.hid (hV)
  have HA := Lib.hid (hA)
  have HLen := Lib.hid (hLA)
  have HG0 := Lib.hid ((show A = [] ∨ Held (w.alloc (oV 0 0 0 ⟨#[]⟩ 0)) O g (.cells cs 30) from hG.imp id (fun h => h.2.below (below1 _ _))))
  clear hG hV hA hLA hP
  go_enter Tryz.func11, Tryz.ntmps11
  go_wp2_with fail
  refine HNT.out.mono ?_
  rintro e w1 ⟨rfl, hP1, hq1⟩
  have HP1 := Lib.hid (hP1)
  have HQ1 := Lib.hid ((QS.of_below (below1 w (oV 0 0 0 ⟨#[]⟩ 0))).trans hq1)
  have HR1 := Lib.hid (Held.qs (O := O) HR0.out hq1 (npb (by decide)))
  have HG1 := Lib.hid ((show A = [] ∨ Held w1 O g (.cells cs 30) from HG0.out.imp id (fun h => Held.qs (O := O) h hq1 (npb (by decide)))))
  have hz1 := HQ1.out.size
  have hzr1 := (Array.getElem?_eq_some_iff.1 HR1.out.1).1
  clear hP1 hq1
  go_wp2
  go_loopg [8] A.length (fun gg s8 wr => ∃ i, i + gg = A.length ∧ s8 = .int .i64 (i : Int) ∧ Hid (LstR base n h M AA A O w g w1.heap.size cs i wr))
  case atStart =>
    refine ⟨0, by omega, rfl, O, HP1.out.below (below1 _ _), HQ1.out.trans (QS.of_below (below1 _ _)), HR1.out.below (below1 _ _), ⟨heap1 _ _, fun e => Nat.lt_irrefl _ (HP1.out.lt _ e)⟩, HG1.out.imp id (fun h => h.below (below1 _ _))⟩
  case round =>
    obtain ⟨i, hi, rfl, HK⟩ := hrel
    obtain ⟨O1, hP2, hq2, hr2, ht2, hg2⟩ := HK.out
    have HP2 := Lib.hid (hP2)
    have HQ2 := Lib.hid (hq2)
    have HR2 := Lib.hid (hr2)
    have HT2 := Lib.hid (ht2)
    have HT2a := Lib.hid (ht2.1)
    have HG2 := Lib.hid (hg2)
    have hz2 := hq2.size
    have hrr := (Array.getElem?_eq_some_iff.1 hr2.1).1
    have htr := (Array.getElem?_eq_some_iff.1 ht2.1).1
    clear hP2 hq2 hr2 ht2 hg2 HK
    by_cases hlt : i < A.length
    · obtain ⟨u, hu⟩ : ∃ u, A[i]? = some u := ⟨_, List.getElem?_eq_getElem hlt⟩
      obtain ⟨hu0, huv, huw⟩ := HV.out u (List.mem_of_getElem? hu)
      obtain ⟨uk, up, uq, us, ur⟩ := u
      have hu0 : uk ≠ 0 := hu0
      have e1 : (uk != 0) = true := bne_iff_ne.2 hu0
      have hne : A ≠ [] := fun h => by rw [h] at hlt; simp at hlt
      obtain ⟨o, rfl⟩ := (HG.out.resolve_left hne).1
      have HG3 := Lib.hid (HG2.out.resolve_left hne)
      have hgr := (Array.getElem?_eq_some_iff.1 HG3.out.1).1
      have HU5 := Lib.hid ((fun (W : World) (hb : Below wr.heap.size wr W) => (Vals.at_ (Vals.below (vals_held HA.out (HG3.out.1.trans ((HG.out.resolve_left hne).2.1).symm) hgr) hb) hu)))
      have HU := Lib.hid (hu)
      have HU0 := Lib.hid (hu0)
      have HUV := Lib.hid (huv)
      have HUW := Lib.hid (huw)
      clear hu hu0 huv huw hne
      have HOI := Lib.hid (fun (W : World) => (show Calls Tryz.prog 14 #[.int .i64 (IntKind.i64.wrap ((i : Int) + 1))] W (fun e w' => e = .returned (.agg #[.int .i64 2, .int .i64 ((i : Int) + 1), .int .i64 1, .string ⟨#[]⟩, .int .i64 0]) ∧ Below W.heap.size W w') from by rw [w64_in (by omega) (by omega)]; exact kNum_c W ((i : Int) + 1)))
      have hset : ∀ W, Below wr.heap.size wr W → Calls Tryz.prog 23 #[.pointer (some ⟨h, 0, none⟩), tabA M.length, .agg #[.int .i64 2, .int .i64 ((i : Int) + 1), .int .i64 1, .string ⟨#[]⟩, .int .i64 0], .agg #[.int .i64 uk, .int .i64 up, .int .i64 uq, .string us, .int .i64 ur]] W (fun e w' => e = .returned (.int .i64 0) ∧ ∃ O', PHp base (n + (i + 1)) w' h (M ++ [⟨4, V.nil, []⟩]) (AA ++ [A.take (i + 1)]) O' ∧ QS base O1 W O' w') := fun W hb => by
        have hlen : (A.take i).length = i := by rw [List.length_take]; omega
        have := set_push_c (HP2.out.below hb) (show base ≤ W.heap.size by have := hb.size; omega) (show n + i ≤ 999 by omega) (ti := M.length) (by omega) (o := ⟨4, V.nil, []⟩) (A := A.take i) (by simp) (by rw [← HLen.out]; simp) rfl (fun y hy => by cases hy) uk up uq us ur HU0.out HUV.out HUW.out
        rw [hlen, set_last HLen.out, show A.take i ++ [⟨uk, up, uq, us, ur⟩] = A.take (i + 1) from by rw [List.take_add_one, HU.out]; rfl] at this
        exact this
      have HSet := Lib.hid (hset)
      clear hset
      have HKP := Lib.hid (fun (W W' : World) (O2 : Nat → Prop) (hb : Below wr.heap.size wr W) (hq : QS base O1 W O2 W') => (show Held W' O2 w.heap.size (oV 0 0 0 ⟨#[]⟩ 0) ∧ Held W' O2 w1.heap.size (oV 4 0 0 ⟨#[]⟩ ((M.length : Int) + 1)) ∧ Held W' O2 g (.cells cs 30) from ⟨(HR2.out.below hb).qs hq (npb (by decide)), (HT2.out.below hb).qs hq (npb (by decide)), (HG3.out.below hb).qs hq (npb (by decide))⟩))
      have HVH := Lib.hid (fun (W : World) (hg : W.heap[g]? = some (.cells cs 30)) => (Vals.at_ (vals_held HA.out (hg.trans ((HG.out.resolve_left (fun h => by rw [h] at hlt; simp at hlt)).2.1).symm) (Array.getElem?_eq_some_iff.1 hg).1) HU.out))
      obtain ⟨hgl, b0, b1, b2, b3, b4⟩ : g < wr.heap.size ∧ wr.cell? ⟨g, o + i * 5, none⟩ = some (.int .i64 uk) ∧ wr.cell? ⟨g, o + i * 5 + 1, none⟩ = some (.int .i64 up) ∧ wr.cell? ⟨g, o + i * 5 + 2, none⟩ = some (.int .i64 uq) ∧ wr.cell? ⟨g, o + i * 5 + 3, none⟩ = some (.string us) ∧ wr.cell? ⟨g, o + i * 5 + 4, none⟩ = some (.int .i64 ur) := HU5.out wr (Below.refl _ _)
      have SO := Lib.hid (fun (W : World) (hb : Below wr.heap.size wr W) => (show W.cell? ⟨w1.heap.size, 0, none⟩ = some (.int .i64 4) ∧ W.cell? ⟨w1.heap.size, 1, none⟩ = some (.int .i64 0) ∧ W.cell? ⟨w1.heap.size, 2, none⟩ = some (.int .i64 0) ∧ W.cell? ⟨w1.heap.size, 3, none⟩ = some (.string ⟨#[]⟩) ∧ W.cell? ⟨w1.heap.size, 4, none⟩ = some (.int .i64 ((M.length : Int) + 1)) ∧ W.cell? ⟨g, o + i * 5, none⟩ = some (.int .i64 uk) ∧ W.cell? ⟨g, o + i * 5 + 1, none⟩ = some (.int .i64 up) ∧ W.cell? ⟨g, o + i * 5 + 2, none⟩ = some (.int .i64 uq) ∧ W.cell? ⟨g, o + i * 5 + 3, none⟩ = some (.string us) ∧ W.cell? ⟨g, o + i * 5 + 4, none⟩ = some (.int .i64 ur) from ⟨(cells5 (hkeep hb HT2a.out)).1, (cells5 (hkeep hb HT2a.out)).2.1, (cells5 (hkeep hb HT2a.out)).2.2.1, (cells5 (hkeep hb HT2a.out)).2.2.2.1, (cells5 (hkeep hb HT2a.out)).2.2.2.2, (HU5.out W hb).2.1, (HU5.out W hb).2.2.1, (HU5.out W hb).2.2.2.1, (HU5.out W hb).2.2.2.2.1, (HU5.out W hb).2.2.2.2.2⟩))
      have SOQ := Lib.hid (fun (W : World) (h1 : W.heap[w1.heap.size]? = some (oV 4 0 0 ⟨#[]⟩ ((M.length : Int) + 1))) (h2 : W.heap[g]? = some (.cells cs 30)) => (show W.cell? ⟨w1.heap.size, 0, none⟩ = some (.int .i64 4) ∧ W.cell? ⟨w1.heap.size, 1, none⟩ = some (.int .i64 0) ∧ W.cell? ⟨w1.heap.size, 2, none⟩ = some (.int .i64 0) ∧ W.cell? ⟨w1.heap.size, 3, none⟩ = some (.string ⟨#[]⟩) ∧ W.cell? ⟨w1.heap.size, 4, none⟩ = some (.int .i64 ((M.length : Int) + 1)) ∧ W.cell? ⟨g, o + i * 5, none⟩ = some (.int .i64 uk) ∧ W.cell? ⟨g, o + i * 5 + 1, none⟩ = some (.int .i64 up) ∧ W.cell? ⟨g, o + i * 5 + 2, none⟩ = some (.int .i64 uq) ∧ W.cell? ⟨g, o + i * 5 + 3, none⟩ = some (.string us) ∧ W.cell? ⟨g, o + i * 5 + 4, none⟩ = some (.int .i64 ur) from ⟨(cells5 h1).1, (cells5 h1).2.1, (cells5 h1).2.2.1, (cells5 h1).2.2.2.1, (cells5 h1).2.2.2.2, (HVH.out W h2).2.1, (HVH.out W h2).2.2.1, (HVH.out W h2).2.2.2.1, (HVH.out W h2).2.2.2.2.1, (HVH.out W h2).2.2.2.2.2⟩))
      go_upto_region 7 with fail
      have HBc := Lib.hid ((Below.refl wr.heap.size wr).drew)
      go_region_held3 (fun w' => w'.cell? ⟨w1.heap.size, 0, none⟩ = some (.int .i64 4) ∧ w'.cell? ⟨w1.heap.size, 1, none⟩ = some (.int .i64 0) ∧ w'.cell? ⟨w1.heap.size, 2, none⟩ = some (.int .i64 0) ∧ w'.cell? ⟨w1.heap.size, 3, none⟩ = some (.string ⟨#[]⟩) ∧ w'.cell? ⟨w1.heap.size, 4, none⟩ = some (.int .i64 ((M.length : Int) + 1)) ∧ w'.cell? ⟨g, o + i * 5, none⟩ = some (.int .i64 uk) ∧ w'.cell? ⟨g, o + i * 5 + 1, none⟩ = some (.int .i64 up) ∧ w'.cell? ⟨g, o + i * 5 + 2, none⟩ = some (.int .i64 uq) ∧ w'.cell? ⟨g, o + i * 5 + 3, none⟩ = some (.string us) ∧ w'.cell? ⟨g, o + i * 5 + 4, none⟩ = some (.int .i64 ur))
        (first | with_reducible exact SO.out _ HBc.out | with_reducible exact SOQ.out _ HXt.out HXg.out)
        (first | (go_at_call 14; (with_reducible refine (HOI.out _).mono ?_); rintro e nw1 ⟨rfl, hb⟩; have HBc := Lib.hid (below_next HBc.out hb); clear hb) | (go_at_call 23; (with_reducible refine (HSet.out _ HBc.out).mono ?_); rintro e nw2 ⟨rfl, O2, hP2, hq2⟩; have HX2 := Lib.hid (And.intro hP2 hq2); have HXk := Lib.hid (HKP.out _ _ _ HBc.out hq2); have HXt := Lib.hid HXk.out.2.1.1; have HXg := Lib.hid HXk.out.2.2.1; clear hP2 hq2))
      go_wp2
      have HBf := Lib.hid (HBc.out)
      go_roundg (A.length - (i + 1))
      case measure => omega
      case rel =>
        obtain ⟨hP2, hq2⟩ := HX2.out
        exact ⟨i + 1, by omega, by push_cast; rfl, O2, hP2, HQ2.out.trans ((QS.of_below HBf.out).trans hq2), HXk.out.1, HXk.out.2.1, .inr HXk.out.2.2⟩
    · have hii : i = A.length := by omega
      subst hii
      have HR2a := Lib.hid (HR2.out.1)
      obtain ⟨t0, t1, t2, t3, t4⟩ := cells5 HT2a.out
      obtain ⟨r0, r1, r2, r3, r4⟩ := cells5 HR2a.out
      obtain ⟨fr0, fr1, fr2, fr3, fr4⟩ := froz5 HR2a.out
      go_wp2
      refine bodyPost_ret (by simp [results, Tryz.results11, go_sem, hrr, r0, r1, r2, r3, r4]; first | done | rfl) rfl ?_
      have hmm : ∀ c0 c1 c2 c3 c4, Mods (fun k => k = w.heap.size) wr (((((wr.setCell ⟨w.heap.size, 0, none⟩ c0).setCell ⟨w.heap.size, 1, none⟩ c1).setCell ⟨w.heap.size, 2, none⟩ c2).setCell ⟨w.heap.size, 3, none⟩ c3).setCell ⟨w.heap.size, 4, none⟩ c4) := fun _ _ _ _ _ => mods_five (F := fun k => k = w.heap.size) (Mods.refl _ _) (.inl rfl) _ _ _ _ _
      have hPe : PHp base (n + A.length) wr h (M ++ [⟨4, V.nil, []⟩]) (AA ++ [A]) O1 := by have := HP2.out; rwa [List.take_length] at this
      exact ⟨rfl, O1, hPe.modsV HR2.out.1 HR2.out.2 (hmm _ _ _ _ _), qs_mods HQ2.out (Nat.le_refl _) (hmm _ _ _ _ _)⟩
end Go.Proofs.YtpbcmlnjiocmoaaGreatDoorR
