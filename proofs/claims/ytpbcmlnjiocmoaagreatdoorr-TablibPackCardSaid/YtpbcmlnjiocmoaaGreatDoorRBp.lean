import Derived.Test.YtpbcmlnjiocmoaaGreatDoorRHpW
import Derived.Test.YtpbcmlnjiocmoaaGreatDoorRValB
set_option linter.unusedVariables false
set_option linter.unusedSimpArgs false
set_option maxRecDepth 100000
set_option maxHeartbeats 2000000
namespace Go.Proofs.YtpbcmlnjiocmoaaGreatDoorR
open Go.RowKit Go.Proofs.Lexi
set_option maxRecDepth 100000 in
set_option maxHeartbeats 2000000 in
theorem plist_c (w : World) (sv : Value) (A : List V) (hA : Vals w sv A) (hl : A.length ≤ 1000) : Calls Tryz.prog 95 #[sv] w (ListPost w A) := by
  obtain ⟨i5, hi5, hi5a, hi5b, hi5c⟩ := info_parts info25p
  obtain ⟨so, cap, rfl, hcap, hnone, hc⟩ := hA
  rcases so with _ | ad
  · have hnil : A = [] := by
      rcases hc with hc | ⟨g, o, h, _⟩
      · exact hc
      · cases h
    subst hnil
    obtain rfl := hnone rfl
    clear hcap hnone hc
    go_enter Tryz.func95, Tryz.ntmps95
    go_wp2_with (at_builtin; refine wpList_append_own_none rfl (.const (.slice none 0 0)) (.tmp 3) 26 rfl w.heap.size 30 i5 5 Tryz.underlying26 hi5 (.slice none 0 0) 0 [] rfl (World.ownsRow_nil w _ _ _) rfl ?_)
    go_wp2
    go_ret
    exact ⟨none, 0, rfl, World.ownsRow_nil w _ _ _, Below.refl _ _⟩
  · have hcell : ∀ j u, (rowV A)[j]? = some u → w.cell? (ad.add j) = some u := by
      intro j u hj
      rcases hc with rfl | ⟨g, o, h, _, hx⟩
      · simp [rowV] at hj
      · injection h with h
        subst h
        rw [add_none]
        exact hx j u hj
    clear hc hnone
    go_enter Tryz.func95, Tryz.ntmps95
    go_wp2_with (at_builtin; refine wpList_append_own_at _ rfl (.const (.slice none 0 0)) (.tmp 3) 26 rfl w.heap.size 30 i5 _ 5 48 Tryz.underlying26 hi5 hi5a hi5b hi5c rfl (by decide) (.slice none 0 0) 0 [] rfl (World.ownsRow_nil w _ _ _) ad A.length cap (rowV A) rfl (rowV_len A) hcell rowV_one ?D ?E (Nat.le_refl _) ?G)
    case D => unfold maxLen; omega
    case E => omega
    case G =>
      intro v' w' hown hgrow _ hat
      obtain ⟨so', cap', rfl⟩ := row_shape hown
      have HO := Lib.hid hown
      have HG := Lib.hid hgrow
      clear hown hgrow hat hcell hi5 hi5a hi5b hi5c
      go_wp2
      go_ret
      exact ⟨so', cap', rfl, HO.out, grown_below HG.out⟩
set_option maxRecDepth 100000 in
set_option maxHeartbeats 2000000 in
theorem pReturn_c (w : World) (so : Option Addr) (n cap : Nat) (A : List V) (hA : Vals w (.slice so n cap) A) (hl : A.length ≤ 1000) : Calls Tryz.prog 90 #[.slice so n cap] w (RetPost w A) := by
  have HL := Lib.hid (fun W (hb : Below w.heap.size w W) => plist_c W _ A (Vals.below hA hb) hl)
  clear hA
  go_enter Tryz.func90, Tryz.ntmps90
  go_wp2_with fail
  refine (HL.out _ (below1 _ _)).mono ?_
  rintro e w1 ⟨so1, cap1, rfl, hrow, hb⟩
  have HR1 := Lib.hid hrow
  have Ha1 := Lib.hid (hkeep hb (heap1 w oAc))
  have HW1 := Lib.hid (below_next (below1 _ _) hb)
  clear hb hrow
  have hya : w.heap.size < w1.heap.size := (Array.getElem?_eq_some_iff.1 Ha1.out).1
  obtain ⟨a0, a1, a2, a3, a4, a5, a6, a7, a8, a9, a10, a11⟩ := cells12 Ha1.out
  obtain ⟨f0, f1, f2, f3, f4, f5, f6, f7, f8, f9, f10, f11⟩ := froz12 Ha1.out
  go_wp2
  refine bodyPost_ret (by simp [results, Tryz.results90, go_sem, hya, a0, a1, a2, a3, a4, a5, a6, a7, a8, a9, a10, a11]; first | done | rfl) rfl ?_
  refine ⟨so1, cap1, rfl, ownsRow_base (row_twelve HR1.out (fun h => ?_) _ _ _ _ _ _ _ _ _ _ _ _) (by simp), below_twelve HW1.out (Nat.le_refl _) _ _ _ _ _ _ _ _ _ _ _ _⟩
  have := (ownBlock_lt HR1.out h).1
  simp at this
  omega
set_option maxRecDepth 100000 in
set_option maxHeartbeats 2000000 in
theorem pArg_in (w : World) (so : Option Addr) (n cap : Nat) (A : List V) (hA : Vals w (.slice so n cap) A) (i : Nat) (v : V) (hv : A[i]? = some v) (hl : A.length ≤ 1000) : Calls Tryz.prog 65 #[.slice so n cap, .int .i64 i] w (ValPost w v) := by
  have hi : i < A.length := (List.getElem?_eq_some_iff.1 hv).1
  have hsh := hA
  obtain ⟨so', cap', e, hc, _, hx⟩ := hsh
  injection e with e1 e2 e3
  subst e2
  rcases hx with rfl | ⟨g, o, rfl, hg, _⟩
  · simp at hi
  · subst e1
    obtain ⟨hg, b0, b1, b2, b3, b4⟩ := Vals.at_ hA hv
    have b0' : (w.alloc (oV 0 0 0 ⟨#[]⟩ 0)).cell? ⟨g, o + i * 5, none⟩ = some (.int .i64 v.k) := (cell_alloc_old hg).trans b0
    have b1' : (w.alloc (oV 0 0 0 ⟨#[]⟩ 0)).cell? ⟨g, o + i * 5 + 1, none⟩ = some (.int .i64 v.p) := (cell_alloc_old hg).trans b1
    have b2' : (w.alloc (oV 0 0 0 ⟨#[]⟩ 0)).cell? ⟨g, o + i * 5 + 2, none⟩ = some (.int .i64 v.q) := (cell_alloc_old hg).trans b2
    have b3' : (w.alloc (oV 0 0 0 ⟨#[]⟩ 0)).cell? ⟨g, o + i * 5 + 3, none⟩ = some (.string v.s) := (cell_alloc_old hg).trans b3
    have b4' : (w.alloc (oV 0 0 0 ⟨#[]⟩ 0)).cell? ⟨g, o + i * 5 + 4, none⟩ = some (.int .i64 v.r) := (cell_alloc_old hg).trans b4
    have h0 : ((i : Int) < 0) = False := eq_false (by omega)
    have d0 : decide ((i : Int) < 0) = false := decide_eq_false (by omega)
    have d1 : decide ((i : Int) ≥ (A.length : Int)) = false := decide_eq_false (by omega)
    have d2 : decide ((A.length : Int) ≤ (i : Int)) = false := decide_eq_false (by omega)
    clear hA hv
    go_enter Tryz.func65, Tryz.ntmps65
    go_wp2
    refine bodyPost_ret (by simp [results, Tryz.results65, go_sem]; first | done | rfl) rfl ?_
    exact val_done rfl (below1 _ _)
theorem pArg_at (w : World) (so : Option Addr) (n cap : Nat) (A : List V) (hA : Vals w (.slice so n cap) A) (j : Int) (i : Nat) (hj : j = i) (v : V) (hv : A[i]? = some v) (hl : A.length ≤ 1000) : Calls Tryz.prog 65 #[.slice so n cap, .int .i64 j] w (ValPost w v) := by
  subst hj
  exact pArg_in w so n cap A hA i v hv hl
set_option maxRecDepth 100000 in
set_option maxHeartbeats 2000000 in
theorem pFail_c (w : World) (k p q : Int) (s : ByteArray) (r level : Int) : Calls Tryz.prog 70 #[.agg #[.int .i64 k, .int .i64 p, .int .i64 q, .string s, .int .i64 r], .int .i64 level] w (FailPost w ⟨k, p, q, s, r⟩ level) := by
  have HL := Lib.hid (fun (W : World) (m : Nat) (hm : m = W.heap.size) => plist_c (W.alloc (.cells #[.int .i64 k, .int .i64 p, .int .i64 q, .string s, .int .i64 r] 30)) (.slice (some ⟨m, 0, none⟩) 1 1) [⟨k, p, q, s, r⟩] (by subst hm; exact vals_one W ⟨k, p, q, s, r⟩) (by simp))
  go_enter Tryz.func70, Tryz.ntmps70
  go_wp2_with fail
  refine (HL.out _ _ (by simp)).mono ?_
  rintro e w1 ⟨so1, cap1, rfl, hrow, hb⟩
  have HR1 := Lib.hid hrow
  have Ha1 := Lib.hid (hkeep hb (heap1_old (heap2_b w (oV k p q s r) oAc) _))
  have HW1 := Lib.hid (below_next ((below2w _ _ _).alloc (by simp; omega) _) hb)
  clear hb hrow
  have hya : w.heap.size + 1 < w1.heap.size := (Array.getElem?_eq_some_iff.1 Ha1.out).1
  obtain ⟨a0, a1, a2, a3, a4, a5, a6, a7, a8, a9, a10, a11⟩ := cells12 Ha1.out
  obtain ⟨f0, f1, f2, f3, f4, f5, f6, f7, f8, f9, f10, f11⟩ := froz12 Ha1.out
  go_wp2
  refine bodyPost_ret (by simp [results, Tryz.results70, go_sem, hya, a0, a1, a2, a3, a4, a5, a6, a7, a8, a9, a10, a11]; first | done | rfl) rfl ?_
  refine ⟨so1, cap1, rfl, ownsRow_base (row_twelve HR1.out (fun h => ?_) _ _ _ _ _ _ _ _ _ _ _ _) (by simp; omega), below_twelve HW1.out (by omega) _ _ _ _ _ _ _ _ _ _ _ _⟩
  have := (ownBlock_lt HR1.out h).1
  simp at this
  omega
set_option maxRecDepth 100000 in
set_option maxHeartbeats 2000000 in
theorem pError_c (w : World) (s : ByteArray) (hs : s.size ≤ 4096) : Calls Tryz.prog 32 #[.string s] w (FailPost w (strV s) 1) := by
  have HO := Lib.hid (fun W => show Calls Tryz.prog 52 #[.string s] W (fun e w' => e = .returned (.agg #[.int .i64 3, .int .i64 0, .int .i64 0, .string s, .int .i64 0]) ∧ Below W.heap.size W w') from pOfString_c W s)
  have hmin : min (s.size : Int) 4096 = s.size := by omega
  have hex : s.extract 0 s.size = s := by
    apply bytesOf_inj
    rw [bytesOf_extract]
    show (((bytesOf s).drop 0).take (s.size - 0)) = _
    rw [List.drop_zero, Nat.sub_zero, ← bytesOf_length, List.take_length]
  have hs2 : (s.size : Int) ≤ 4096 := by omega
  go_enter Tryz.func32, Tryz.ntmps32
  go_wp2_with fail
  refine (HO.out _).mono ?_
  rintro e w1 ⟨rfl, hb⟩
  have Ha1 := Lib.hid (hkeep hb (heap1 w oAc))
  have HW1 := Lib.hid (below_next (below1 _ _) hb)
  clear hb
  go_wp2_with fail
  refine (pFail_c _ 3 0 0 s 0 1).mono ?_
  rintro e w2 ⟨so2, cap2, rfl, hrow, hb⟩
  have HR2 := Lib.hid hrow
  have Ha2 := Lib.hid (hkeep hb Ha1.out)
  have HW2 := Lib.hid (below_next HW1.out hb)
  have hz1 := HW1.out.size
  have hlt1 := (Array.getElem?_eq_some_iff.1 Ha1.out).1
  clear hb hrow
  have hya : w.heap.size < w2.heap.size := (Array.getElem?_eq_some_iff.1 Ha2.out).1
  obtain ⟨a0, a1, a2, a3, a4, a5, a6, a7, a8, a9, a10, a11⟩ := cells12 Ha2.out
  obtain ⟨f0, f1, f2, f3, f4, f5, f6, f7, f8, f9, f10, f11⟩ := froz12 Ha2.out
  go_wp2
  refine bodyPost_ret (by simp [results, Tryz.results32, go_sem, hya, a0, a1, a2, a3, a4, a5, a6, a7, a8, a9, a10, a11]; first | done | rfl) rfl ?_
  refine ⟨so2, cap2, rfl, ownsRow_base (row_twelve HR2.out (fun h => ?_) _ _ _ _ _ _ _ _ _ _ _ _) (by omega), below_twelve HW2.out (Nat.le_refl _) _ _ _ _ _ _ _ _ _ _ _ _⟩
  have := (ownBlock_lt HR2.out h).1
  omega
set_option maxRecDepth 100000 in
set_option maxHeartbeats 2000000 in
theorem lvalues_true (w : World) (so sp : Option Addr) (n m cap cap2 : Nat) (A : List V) (hA : Vals w (.slice so n cap) A) (hB : Vals w (.slice sp m cap2) A) (hl : A.length ≤ 1000) :
    Calls Tryz.prog 17 #[.slice so n cap, .slice sp m cap2] w (BoolPost w true) := by
  have hn : n = A.length := by obtain ⟨_, _, e, _⟩ := hA; injection e
  have hm : m = A.length := by obtain ⟨_, _, e, _⟩ := hB; injection e
  subst hn
  subst hm
  have HA := Lib.hid hA
  have HB := Lib.hid hB
  clear hA hB
  go_enter Tryz.func17, Tryz.ntmps17
  go_wp2
  go_loopg [5] A.length (fun gg iv wr => ∃ i k : Nat, gg = A.length - i ∧ iv = .int .i64 (i : Int) ∧ wr = w.drewN k ∧ i ≤ A.length)
  case atStart => exact ⟨0, 0, rfl, rfl, rfl, Nat.zero_le _⟩
  obtain ⟨i, k, rfl, rfl, rfl, hi⟩ := hrel
  by_cases hlt : i < A.length
  · obtain ⟨v, hv⟩ : ∃ v, A[i]? = some v := ⟨_, List.getElem?_eq_getElem hlt⟩
    have hne : A ≠ [] := fun h => by rw [h] at hlt; simp at hlt
    obtain ⟨g1, o1, rfl⟩ := Vals.some_of HA.out hne
    obtain ⟨g2, o2, rfl⟩ := Vals.some_of HB.out hne
    clear hne
    obtain ⟨hg1, b0, b1, b2, b3, b4⟩ := Vals.at_ HA.out hv
    obtain ⟨hg2, d0, d1, d2, d3, d4⟩ := Vals.at_ HB.out hv
    have NE := fun W => neqs_run W v
    clear hv
    go_wp2
    go_quiet (fail)
    go_wp2
    go_roundg (A.length - (i + 1))
    case measure => omega
    case rel => exact ⟨i + 1, _, rfl, by push_cast; rfl, by first | rfl | exact World.drewN_drewN .. | simp, by omega⟩
  · go_wp2
    go_ret
    exact ⟨rfl, bdn (Below.refl _ _) _⟩
end Go.Proofs.YtpbcmlnjiocmoaaGreatDoorR
