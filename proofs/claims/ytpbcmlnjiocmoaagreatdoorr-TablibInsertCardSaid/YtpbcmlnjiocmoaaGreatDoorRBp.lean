import Derived.Test.YtpbcmlnjiocmoaaGreatDoorRKx
import Derived.Test.YtpbcmlnjiocmoaaGreatDoorRHpZ
import Derived.Test.YtpbcmlnjiocmoaaGreatDoorRSmA
set_option linter.unusedVariables false
set_option linter.unusedSimpArgs false
set_option maxRecDepth 100000
set_option maxHeartbeats 8000000
namespace Go.Proofs.YtpbcmlnjiocmoaaGreatDoorR
open Go.RowKit Go.Proofs.Lexi
set_option maxRecDepth 100000 in
set_option maxHeartbeats 2000000 in
theorem plist_c (w : World) (sv : Value) (A : List V) (hA : Vals w sv A) (hl : A.length ≤ 1000) : Calls Tryz.prog 95 #[sv] w (ListPost w A) := by
  obtain ⟨i5, hi5, hi5a, hi5b, hi5c⟩ := info_parts info25p
  obtain ⟨so, cap, rfl, hcap, hnone, hc⟩ := hA
  rcases so with _ | ad
  · have hnil : A = [] := by
      rcases hc with hc | ⟨g, o, h, _⟩
      · exact hc
      · cases h
    subst hnil
    obtain rfl := hnone rfl
    clear hcap hnone hc
    go_enter Tryz.func95, Tryz.ntmps95
    go_wp2_with (at_builtin; refine wpList_append_own_none rfl (.const (.slice none 0 0)) (.tmp 3) 26 rfl w.heap.size 30 i5 5 Tryz.underlying26 hi5 (.slice none 0 0) 0 [] rfl (World.ownsRow_nil w _ _ _) rfl ?_)
    go_wp2
    go_ret
    exact ⟨none, 0, rfl, World.ownsRow_nil w _ _ _, Below.refl _ _⟩
  · have hcell : ∀ j u, (rowV A)[j]? = some u → w.cell? (ad.add j) = some u := by
      intro j u hj
      rcases hc with rfl | ⟨g, o, h, _, hx⟩
      · simp [rowV] at hj
      · injection h with h
        subst h
        rw [add_none]
        exact hx j u hj
    clear hc hnone
    go_enter Tryz.func95, Tryz.ntmps95
    go_wp2_with (at_builtin; refine wpList_append_own_at _ rfl (.const (.slice none 0 0)) (.tmp 3) 26 rfl w.heap.size 30 i5 _ 5 48 Tryz.underlying26 hi5 hi5a hi5b hi5c rfl (by decide) (.slice none 0 0) 0 [] rfl (World.ownsRow_nil w _ _ _) ad A.length cap (rowV A) rfl (rowV_len A) hcell rowV_one ?D ?E (Nat.le_refl _) ?G)
    case D => unfold maxLen; omega
    case E => omega
    case G =>
      intro v' w' hown hgrow _ hat
      obtain ⟨so', cap', rfl⟩ := row_shape hown
      have HO := Lib.hid hown
      have HG := Lib.hid hgrow
      clear hown hgrow hat hcell hi5 hi5a hi5b hi5c
      go_wp2
      go_ret
      exact ⟨so', cap', rfl, HO.out, grown_below HG.out⟩
set_option maxRecDepth 100000 in
set_option maxHeartbeats 2000000 in
theorem pReturn_c (w : World) (so : Option Addr) (n cap : Nat) (A : List V) (hA : Vals w (.slice so n cap) A) (hl : A.length ≤ 1000) : Calls Tryz.prog 90 #[.slice so n cap] w (RetPost w A) := by
  have HL := Lib.hid (fun W (hb : Below w.heap.size w W) => plist_c W _ A (Vals.below hA hb) hl)
  clear hA
  go_enter Tryz.func90, Tryz.ntmps90
  go_wp2_with fail
  refine (HL.out _ (below1 _ _)).mono ?_
  rintro e w1 ⟨so1, cap1, rfl, hrow, hb⟩
  have HR1 := Lib.hid hrow
  have Ha1 := Lib.hid (hkeep hb (heap1 w oAc))
  have HW1 := Lib.hid (below_next (below1 _ _) hb)
  clear hb hrow
  have hya : w.heap.size < w1.heap.size := (Array.getElem?_eq_some_iff.1 Ha1.out).1
  obtain ⟨a0, a1, a2, a3, a4, a5, a6, a7, a8, a9, a10, a11⟩ := cells12 Ha1.out
  obtain ⟨f0, f1, f2, f3, f4, f5, f6, f7, f8, f9, f10, f11⟩ := froz12 Ha1.out
  go_wp2
  refine bodyPost_ret (by simp [results, Tryz.results90, go_sem, hya, a0, a1, a2, a3, a4, a5, a6, a7, a8, a9, a10, a11]; first | done | rfl) rfl ?_
  refine ⟨so1, cap1, rfl, ownsRow_base (row_twelve HR1.out (fun h => ?_) _ _ _ _ _ _ _ _ _ _ _ _) (by simp), below_twelve HW1.out (Nat.le_refl _) _ _ _ _ _ _ _ _ _ _ _ _⟩
  have := (ownBlock_lt HR1.out h).1
  simp at this
  omega
set_option maxRecDepth 100000 in
set_option maxHeartbeats 2000000 in
theorem pArg_in (w : World) (so : Option Addr) (n cap : Nat) (A : List V) (hA : Vals w (.slice so n cap) A) (i : Nat) (v : V) (hv : A[i]? = some v) (hl : A.length ≤ 1000) : Calls Tryz.prog 65 #[.slice so n cap, .int .i64 i] w (ValPost w v) := by
  have hi : i < A.length := (List.getElem?_eq_some_iff.1 hv).1
  have hsh := hA
  obtain ⟨so', cap', e, hc, _, hx⟩ := hsh
  injection e with e1 e2 e3
  subst e2
  rcases hx with rfl | ⟨g, o, rfl, hg, _⟩
  · simp at hi
  · subst e1
    obtain ⟨hg, b0, b1, b2, b3, b4⟩ := Vals.at_ hA hv
    have b0' : (w.alloc (oV 0 0 0 ⟨#[]⟩ 0)).cell? ⟨g, o + i * 5, none⟩ = some (.int .i64 v.k) := (cell_alloc_old hg).trans b0
    have b1' : (w.alloc (oV 0 0 0 ⟨#[]⟩ 0)).cell? ⟨g, o + i * 5 + 1, none⟩ = some (.int .i64 v.p) := (cell_alloc_old hg).trans b1
    have b2' : (w.alloc (oV 0 0 0 ⟨#[]⟩ 0)).cell? ⟨g, o + i * 5 + 2, none⟩ = some (.int .i64 v.q) := (cell_alloc_old hg).trans b2
    have b3' : (w.alloc (oV 0 0 0 ⟨#[]⟩ 0)).cell? ⟨g, o + i * 5 + 3, none⟩ = some (.string v.s) := (cell_alloc_old hg).trans b3
    have b4' : (w.alloc (oV 0 0 0 ⟨#[]⟩ 0)).cell? ⟨g, o + i * 5 + 4, none⟩ = some (.int .i64 v.r) := (cell_alloc_old hg).trans b4
    have h0 : ((i : Int) < 0) = False := eq_false (by omega)
    have d0 : decide ((i : Int) < 0) = false := decide_eq_false (by omega)
    have d1 : decide ((i : Int) ≥ (A.length : Int)) = false := decide_eq_false (by omega)
    have d2 : decide ((A.length : Int) ≤ (i : Int)) = false := decide_eq_false (by omega)
    clear hA hv
    go_enter Tryz.func65, Tryz.ntmps65
    go_wp2
    refine bodyPost_ret (by simp [results, Tryz.results65, go_sem]; first | done | rfl) rfl ?_
    exact val_done rfl (below1 _ _)
theorem pArg_at (w : World) (so : Option Addr) (n cap : Nat) (A : List V) (hA : Vals w (.slice so n cap) A) (j : Int) (i : Nat) (hj : j = i) (v : V) (hv : A[i]? = some v) (hl : A.length ≤ 1000) : Calls Tryz.prog 65 #[.slice so n cap, .int .i64 j] w (ValPost w v) := by
  subst hj
  exact pArg_in w so n cap A hA i v hv hl
set_option maxRecDepth 100000 in
set_option maxHeartbeats 2000000 in
theorem pFail_c (w : World) (k p q : Int) (s : ByteArray) (r level : Int) : Calls Tryz.prog 70 #[.agg #[.int .i64 k, .int .i64 p, .int .i64 q, .string s, .int .i64 r], .int .i64 level] w (FailPost w ⟨k, p, q, s, r⟩ level) := by
  have HL := Lib.hid (fun (W : World) (m : Nat) (hm : m = W.heap.size) => plist_c (W.alloc (.cells #[.int .i64 k, .int .i64 p, .int .i64 q, .string s, .int .i64 r] 30)) (.slice (some ⟨m, 0, none⟩) 1 1) [⟨k, p, q, s, r⟩] (by subst hm; exact vals_one W ⟨k, p, q, s, r⟩) (by simp))
  go_enter Tryz.func70, Tryz.ntmps70
  go_wp2_with fail
  refine (HL.out _ _ (by simp)).mono ?_
  rintro e w1 ⟨so1, cap1, rfl, hrow, hb⟩
  have HR1 := Lib.hid hrow
  have Ha1 := Lib.hid (hkeep hb (heap1_old (heap2_b w (oV k p q s r) oAc) _))
  have HW1 := Lib.hid (below_next ((below2w _ _ _).alloc (by simp; omega) _) hb)
  clear hb hrow
  have hya : w.heap.size + 1 < w1.heap.size := (Array.getElem?_eq_some_iff.1 Ha1.out).1
  obtain ⟨a0, a1, a2, a3, a4, a5, a6, a7, a8, a9, a10, a11⟩ := cells12 Ha1.out
  obtain ⟨f0, f1, f2, f3, f4, f5, f6, f7, f8, f9, f10, f11⟩ := froz12 Ha1.out
  go_wp2
  refine bodyPost_ret (by simp [results, Tryz.results70, go_sem, hya, a0, a1, a2, a3, a4, a5, a6, a7, a8, a9, a10, a11]; first | done | rfl) rfl ?_
  refine ⟨so1, cap1, rfl, ownsRow_base (row_twelve HR1.out (fun h => ?_) _ _ _ _ _ _ _ _ _ _ _ _) (by simp; omega), below_twelve HW1.out (by omega) _ _ _ _ _ _ _ _ _ _ _ _⟩
  have := (ownBlock_lt HR1.out h).1
  simp at this
  omega
set_option maxRecDepth 100000 in
set_option maxHeartbeats 2000000 in
theorem pError_c (w : World) (s : ByteArray) (hs : s.size ≤ 4096) : Calls Tryz.prog 32 #[.string s] w (FailPost w (strV s) 1) := by
  have HO := Lib.hid (fun W => show Calls Tryz.prog 52 #[.string s] W (fun e w' => e = .returned (.agg #[.int .i64 3, .int .i64 0, .int .i64 0, .string s, .int .i64 0]) ∧ Below W.heap.size W w') from pOfString_c W s)
  have hmin : min (s.size : Int) 4096 = s.size := by omega
  have hex : s.extract 0 s.size = s := by
    apply bytesOf_inj
    rw [bytesOf_extract]
    show (((bytesOf s).drop 0).take (s.size - 0)) = _
    rw [List.drop_zero, Nat.sub_zero, ← bytesOf_length, List.take_length]
  have hs2 : (s.size : Int) ≤ 4096 := by omega
  go_enter Tryz.func32, Tryz.ntmps32
  go_wp2_with fail
  refine (HO.out _).mono ?_
  rintro e w1 ⟨rfl, hb⟩
  have Ha1 := Lib.hid (hkeep hb (heap1 w oAc))
  have HW1 := Lib.hid (below_next (below1 _ _) hb)
  clear hb
  go_wp2_with fail
  refine (pFail_c _ 3 0 0 s 0 1).mono ?_
  rintro e w2 ⟨so2, cap2, rfl, hrow, hb⟩
  have HR2 := Lib.hid hrow
  have Ha2 := Lib.hid (hkeep hb Ha1.out)
  have HW2 := Lib.hid (below_next HW1.out hb)
  have hz1 := HW1.out.size
  have hlt1 := (Array.getElem?_eq_some_iff.1 Ha1.out).1
  clear hb hrow
  have hya : w.heap.size < w2.heap.size := (Array.getElem?_eq_some_iff.1 Ha2.out).1
  obtain ⟨a0, a1, a2, a3, a4, a5, a6, a7, a8, a9, a10, a11⟩ := cells12 Ha2.out
  obtain ⟨f0, f1, f2, f3, f4, f5, f6, f7, f8, f9, f10, f11⟩ := froz12 Ha2.out
  go_wp2
  refine bodyPost_ret (by simp [results, Tryz.results32, go_sem, hya, a0, a1, a2, a3, a4, a5, a6, a7, a8, a9, a10, a11]; first | done | rfl) rfl ?_
  refine ⟨so2, cap2, rfl, ownsRow_base (row_twelve HR2.out (fun h => ?_) _ _ _ _ _ _ _ _ _ _ _ _) (by omega), below_twelve HW2.out (Nat.le_refl _) _ _ _ _ _ _ _ _ _ _ _ _⟩
  have := (ownBlock_lt HR2.out h).1
  omega
set_option maxRecDepth 100000 in
set_option maxHeartbeats 2000000 in
theorem wpList_append_vals {w : World} {ops : Array Oper} {rest : List Oper} {o : Oper} {a : Act} {Q : Exit → Act → World → Prop} (hgd : o.guard = none) (s x : Operand)
    (ho : o.op = .call { callee := .builtin .append, args := #[s, x], argTypes := #[26, 26] }) (base : Nat) (v : Value) (n : Nat) (xs : List Value) (hs : a.eval s = v) (hown : w.ownsRow base 30 5 v n xs)
    (sv : Value) (A : List V) (hx : a.eval x = sv) (hA : Vals w sv A) (hl : n + A.length ≤ 1000000) (hbase : base ≤ w.heap.size)
    (h : ∀ so cap w', w'.ownsRow base 30 5 (.slice so (n + A.length) cap) (n + A.length) (xs ++ rowV A) → w.grownBy w' v.ownBlock → wpList Tryz.prog ops Q rest (a.put o.dst (.slice so (n + A.length) cap)) w') :
    wpList Tryz.prog ops Q (o :: rest) a w := by
  obtain ⟨i5, hi5, hi5a, hi5b, hi5c⟩ := info_parts info25p
  obtain ⟨so, cap, rfl, hcap, hnone, hc⟩ := hA
  rcases so with _ | ad
  · have hnil : A = [] := by
      rcases hc with hc | ⟨g, o, h, _⟩
      · exact hc
      · cases h
    subst hnil
    obtain rfl := hnone rfl
    refine wpList_append_own_none hgd s x 26 ho base 30 i5 5 Tryz.underlying26 hi5 v n xs hs hown hx ?_
    obtain ⟨so2, cap2, rfl⟩ := row_shape hown
    refine h so2 cap2 w ?_ (grown_refl _ _)
    rw [show rowV [] = [] from rfl, List.append_nil]
    exact hown
  · have hcell : ∀ j u, (rowV A)[j]? = some u → w.cell? (ad.add j) = some u := by
      intro j u hj
      rcases hc with rfl | ⟨g, o, h, _, hq⟩
      · simp [rowV] at hj
      · injection h with h
        subst h
        rw [add_none]
        exact hq j u hj
    refine wpList_append_own_at _ hgd s x 26 ho base 30 i5 _ 5 48 Tryz.underlying26 hi5 hi5a hi5b hi5c rfl (by decide) v n xs hs hown ad A.length cap (rowV A) hx (rowV_len A) hcell (fun u hu => rowV_one u hu) (by unfold maxLen; omega) (by omega) hbase ?_
    intro v' w' hown' hgrow _ _
    obtain ⟨so', cap', rfl⟩ := row_shape hown'
    exact h so' cap' w' hown' hgrow
set_option maxRecDepth 100000 in
set_option maxHeartbeats 8000000 in
theorem pInsert_ok (w : World) (h bo bt : Nat) (H : List PO) (hH : HpAt w h bo bt H) (i : Nat) (x : PO) (hi : H[i]? = some x) (h4 : x.kind = 4) (L' : List Sl) (A' : List V) (k1 p1 q1 : Int) (s1 : ByteArray) (r1 : Int) (at_ : Int) (k2 p2 q2 : Int) (s2 : ByteArray) (r2 : Int) (T : ∀ W, Below w.heap.size w W → Calls Tryz.prog 36 #[.pointer (some ⟨h, 0, none⟩), .agg #[.int .i64 k1, .int .i64 p1, .int .i64 q1, .string s1, .int .i64 r1]] W (PtrPost W (.pointer (some ⟨x.t, 0, none⟩)))) (E : ∀ W, Calls Tryz.prog 44 #[.agg #[.int .i64 k2, .int .i64 p2, .int .i64 q2, .string s2, .int .i64 r2]] W (IntPost W 0))
    (S : ∀ W, Below w.heap.size w W → Calls Tryz.prog 91 #[.pointer (some ⟨x.t, 0, none⟩), .int .i64 at_, .agg #[.int .i64 k2, .int .i64 p2, .int .i64 q2, .string s2, .int .i64 r2]] W (TWPost W x.t x.m x.g x.sv x.av L' A'))
    (U : ∀ W H', HpAt W h bo bt H' → Calls Tryz.prog 45 #[.pointer (some ⟨h, 0, none⟩), .agg #[.int .i64 k1, .int .i64 p1, .int .i64 q1, .string s1, .int .i64 r1], .int .i64 0] W (TouchPost W h bo bt H')) :
    Calls Tryz.prog 63 #[.pointer (some ⟨h, 0, none⟩), .agg #[.int .i64 k1, .int .i64 p1, .int .i64 q1, .string s1, .int .i64 r1], .int .i64 at_, .agg #[.int .i64 k2, .int .i64 p2, .int .i64 q2, .string s2, .int .i64 r2]] w (HSetPost w h bo bt H i x L' A') := by
  have hbt : bt < w.heap.size := by obtain ⟨E, hE⟩ := hH.touched; exact hE.lt
  have hxm := List.mem_of_getElem? hi
  have HX := Lib.hid (fun b (hb : TwF x.t x.m x.g x.sv x.av b) => hp_lt hH (.inr (.inr (.inr ⟨x, hxm, .inr ⟨h4, hb⟩⟩))))
  have HXM := Lib.hid (hxm)
  have HHH := Lib.hid (hH)
  have HI := Lib.hid (hi)
  have H4 := Lib.hid (h4)
  have HT := Lib.hid (T)
  have HE := Lib.hid (E)
  have HS := Lib.hid (S)
  have HU := Lib.hid (U)
  clear T E S U hH hi h4 hxm
  go_enter Tryz.func63, Tryz.ntmps63
  go_wp2_with fail
  refine (HT.out _ (below2w _ _ _)).mono ?_
  rintro e w1 ⟨rfl, hb⟩
  have Ha1 := Lib.hid (hkeep hb (heap2_a _ _ _))
  have Hb1 := Lib.hid (hkeep hb (heap2_b _ _ _))
  have HW1 := Lib.hid (below_next (below2w _ _ _) hb)
  have hz1 := hb.size
  try simp at hz1
  clear hb
  have hyb : w.heap.size + 1 < w1.heap.size := (Array.getElem?_eq_some_iff.1 Hb1.out).1
  obtain ⟨b0, b1, b2, b3, b4⟩ := cells5 Hb1.out
  obtain ⟨fb0, fb1, fb2, fb3, fb4⟩ := froz5 Hb1.out
  go_wp2_with fail
  refine (HE.out _).mono ?_
  rintro e w2 ⟨rfl, hb⟩
  have Ha2 := Lib.hid (hkeep hb Ha1.out)
  have Hb2 := Lib.hid (hkeep hb Hb1.out)
  have HW2 := Lib.hid (below_next HW1.out hb)
  have hz2 := hb.size
  clear hb hyb b0 b1 b2 b3 b4 fb0 fb1 fb2 fb3 fb4
  have SO := Lib.hid (fun (W : World) (ha : W.heap[w.heap.size]? = some (oV k1 p1 q1 s1 r1)) (hb : W.heap[w.heap.size + 1]? = some (oV k2 p2 q2 s2 r2)) => (show W.cell? ⟨w.heap.size, 0, none⟩ = some (.int .i64 k1) ∧ W.cell? ⟨w.heap.size, 1, none⟩ = some (.int .i64 p1) ∧ W.cell? ⟨w.heap.size, 2, none⟩ = some (.int .i64 q1) ∧ W.cell? ⟨w.heap.size, 3, none⟩ = some (.string s1) ∧ W.cell? ⟨w.heap.size, 4, none⟩ = some (.int .i64 r1) ∧ W.cell? ⟨w.heap.size + 1, 0, none⟩ = some (.int .i64 k2) ∧ W.cell? ⟨w.heap.size + 1, 1, none⟩ = some (.int .i64 p2) ∧ W.cell? ⟨w.heap.size + 1, 2, none⟩ = some (.int .i64 q2) ∧ W.cell? ⟨w.heap.size + 1, 3, none⟩ = some (.string s2) ∧ W.cell? ⟨w.heap.size + 1, 4, none⟩ = some (.int .i64 r2) from ⟨(cells5 ha).1, (cells5 ha).2.1, (cells5 ha).2.2.1, (cells5 ha).2.2.2.1, (cells5 ha).2.2.2.2, (cells5 hb).1, (cells5 hb).2.1, (cells5 hb).2.2.1, (cells5 hb).2.2.2.1, (cells5 hb).2.2.2.2⟩))
  go_upto_region 7 with fail
  have xa : w2.drew.heap[w.heap.size]? = some (oV k1 p1 q1 s1 r1) := Ha2.out
  have xb : w2.drew.heap[w.heap.size + 1]? = some (oV k2 p2 q2 s2 r2) := Hb2.out
  have hw2 : w.heap.size ≤ w2.heap.size := HW2.out.size
  go_region_held3 (fun w' => w'.cell? ⟨w.heap.size, 0, none⟩ = some (.int .i64 k1) ∧ w'.cell? ⟨w.heap.size, 1, none⟩ = some (.int .i64 p1) ∧ w'.cell? ⟨w.heap.size, 2, none⟩ = some (.int .i64 q1) ∧ w'.cell? ⟨w.heap.size, 3, none⟩ = some (.string s1) ∧ w'.cell? ⟨w.heap.size, 4, none⟩ = some (.int .i64 r1) ∧ w'.cell? ⟨w.heap.size + 1, 0, none⟩ = some (.int .i64 k2) ∧ w'.cell? ⟨w.heap.size + 1, 1, none⟩ = some (.int .i64 p2) ∧ w'.cell? ⟨w.heap.size + 1, 2, none⟩ = some (.int .i64 q2) ∧ w'.cell? ⟨w.heap.size + 1, 3, none⟩ = some (.string s2) ∧ w'.cell? ⟨w.heap.size + 1, 4, none⟩ = some (.int .i64 r2))
    (first | with_reducible exact SO.out _ (by assumption) (by assumption))
    (first | (go_at_call 91; refine (HS.out _ HW2.out.drew).mono ?_; rintro e w4 ⟨rfl, m', g', sv', av', hT4, hown4, hM4⟩; have xa4 := mods_keep hM4 xa (fun e => by have := HX.out _ e; omega); have xb4 := mods_keep hM4 xb (fun e => by have := HX.out _ e; omega); have HH4 := Lib.hid (((HHH.out.below HW2.out.drew).setTab HI.out H4.out hT4 hM4 hown4)); have HM4 := Lib.hid hM4; have HO4 := Lib.hid hown4; clear hT4 hM4 hown4 xa xb) | (go_at_call 45; refine (HU.out _ _ HH4.out).mono ?_; rintro e w5 ⟨rfl, hH5, hM5⟩; have xa5 := mods_keep hM5 xa4 (by omega); have xb5 := mods_keep hM5 xb4 (by omega); have HH5 := Lib.hid hH5; have HM5 := Lib.hid hM5; clear hH5 hM5 xa4 xb4))
  go_wp2
  go_ret
  have hb3 : Below w.heap.size w w2.drew := HW2.out.drew
  obtain ⟨q1, q2, q3, q4⟩ := HO4.out
  exact ⟨rfl, m', g', sv', av', HH5.out, ((Mods.of_below hb3).trans (HM4.out.mono (fun k _ e => .inr (.inr (.inr ⟨x, HXM.out, .inr ⟨H4.out, e⟩⟩))))).trans (HM5.out.mono (fun k _ e => .inr (.inr (.inl e)))), ⟨q1.imp id (Nat.le_trans hb3.size), q2.imp id (Nat.le_trans hb3.size), fun b hb => (q3 b hb).imp id (Nat.le_trans hb3.size), fun b hb => (q4 b hb).imp id (Nat.le_trans hb3.size)⟩⟩
/-- Insert of a packed heap. -/
theorem pInsertT_c {base n n' : Nat} {w : World} {h : Nat} {M : LH} {AA : List (List V)} {O : Nat → Prop} (hP : PHp base n w h M AA O) (hb : base ≤ w.heap.size) (hn : n ≤ n') {i : Nat} {o : LO} {A : List V} (hi : M[i]? = some o) (hA : AA[i]? = some A) (h4 : o.kind = 4) (k1 p1 q1 : Int) (s1 : ByteArray) (r1 : Int) (hk1 : k1 = 4) (hr1 : r1 = (i : Int) + 1) (hr : i64 r1) (at_ : Int) (k2 p2 q2 : Int) (s2 : ByteArray) (r2 : Int) (hv : validV ⟨k2, p2, q2, s2, r2⟩ = true) (A' : List V) (hA' : A'.length ≤ n')
    (S : ∀ W t m g sv av, TabW W t m g sv o.L av A → Calls Tryz.prog 91 #[.pointer (some ⟨t, 0, none⟩), .int .i64 at_, .agg #[.int .i64 k2, .int .i64 p2, .int .i64 q2, .string s2, .int .i64 r2]] W (TSetPost W t m g sv o.L av A')) :
    Calls Tryz.prog 63 #[.pointer (some ⟨h, 0, none⟩), .agg #[.int .i64 k1, .int .i64 p1, .int .i64 q1, .string s1, .int .i64 r1], .int .i64 at_, .agg #[.int .i64 k2, .int .i64 p2, .int .i64 q2, .string s2, .int .i64 r2]] w (SetTPost base n' w h M AA O i o o.L A') := by
  obtain ⟨bo, bt, H, x, h1, h2, h2a, h3, h4a, h5, hix, hx4, hmt, hL, hAx, hf, hLn, _⟩ := php_at hP hi hA h4 (p1 := p1) (q1 := q1) (s1 := s1) hk1 hr1
  have T := fun W (hb : Below w.heap.size w W) => ptab_c W h bo bt H (h1.below hb) k1 p1 q1 s1 r1 hr
  have U := fun W H' (hH' : HpAt W h bo bt H') => pTouch_c W h bo bt H' hH' k1 p1 q1 s1 r1 hr
  have E := fun W => pElem_c W k2 p2 q2 s2 r2
  rw [hf] at T
  rw [elem_valid hv] at E
  have T : ∀ W, Below w.heap.size w W → Calls Tryz.prog 36 #[.pointer (some ⟨h, 0, none⟩), .agg #[.int .i64 k1, .int .i64 p1, .int .i64 q1, .string s1, .int .i64 r1]] W (PtrPost W x.tabv) := T
  unfold PO.tabv at T
  rw [if_pos hx4] at T
  have hT := (h1.one x (List.mem_of_getElem? hix)).tb hx4
  rw [hL, hAx] at hT
  refine (pInsert_ok w h bo bt H h1 i x hix hx4 o.L A' k1 p1 q1 s1 r1 at_ k2 p2 q2 s2 r2 T E (fun W hW => (S W _ _ _ _ _ (tabW_below hT hW)).mono (fun _ _ h => h.tw)) U).mono ?_
  rintro e w' ⟨he, m', g', sv', av', hH', hM', hown⟩
  obtain ⟨O', e1, e2⟩ := php_set h1 h3 h4a h5 hP.lt hb hn hix hx4 (Nat.le_trans hLn hn) hA' hH' hM' hown
  rw [h2, h2a, hmt] at e1
  exact ⟨he, O', e1, e2⟩
set_option maxRecDepth 100000 in
set_option maxHeartbeats 8000000 in
theorem pRemove_ok (w : World) (h bo bt : Nat) (H : List PO) (hH : HpAt w h bo bt H) (i : Nat) (x : PO) (hi : H[i]? = some x) (h4 : x.kind = 4) (A' : List V) (k1 p1 q1 : Int) (s1 : ByteArray) (r1 : Int) (at_ : Int) (ek ep ej : Int) (es : ByteArray) (er : Int) (T : ∀ W, Below w.heap.size w W → Calls Tryz.prog 36 #[.pointer (some ⟨h, 0, none⟩), .agg #[.int .i64 k1, .int .i64 p1, .int .i64 q1, .string s1, .int .i64 r1]] W (PtrPost W (.pointer (some ⟨x.t, 0, none⟩))))
    (S : ∀ W, Below w.heap.size w W → Calls Tryz.prog 92 #[.pointer (some ⟨x.t, 0, none⟩), .int .i64 at_] W (TRemPost W x.t x.m x.g x.sv x.L x.av A' ⟨ek, ep, ej, es, er⟩))
    (U : ∀ W H', HpAt W h bo bt H' → Calls Tryz.prog 45 #[.pointer (some ⟨h, 0, none⟩), .agg #[.int .i64 k1, .int .i64 p1, .int .i64 q1, .string s1, .int .i64 r1], .int .i64 0] W (TouchPost W h bo bt H')) :
    Calls Tryz.prog 66 #[.pointer (some ⟨h, 0, none⟩), .agg #[.int .i64 k1, .int .i64 p1, .int .i64 q1, .string s1, .int .i64 r1], .int .i64 at_] w (HRemPost w h bo bt H i x A' ⟨ek, ep, ej, es, er⟩) := by
  have hbt : bt < w.heap.size := by obtain ⟨E, hE⟩ := hH.touched; exact hE.lt
  have hxm := List.mem_of_getElem? hi
  have HX := Lib.hid (fun b (hb : TwF x.t x.m x.g x.sv x.av b) => hp_lt hH (.inr (.inr (.inr ⟨x, hxm, .inr ⟨h4, hb⟩⟩))))
  have HLT := Lib.hid (fun b (hb : HpF h bo bt H b) => hp_lt hH hb)
  have HXM := Lib.hid (hxm)
  have HHH := Lib.hid (hH)
  have HI := Lib.hid (hi)
  have H4 := Lib.hid (h4)
  have HT := Lib.hid (T)
  have HS := Lib.hid (S)
  have HU := Lib.hid (U)
  clear T S U hH hi h4 hxm
  go_enter Tryz.func66, Tryz.ntmps66
  go_wp2_with fail
  refine (HT.out _ (below2w _ _ _)).mono ?_
  rintro e w1 ⟨rfl, hb⟩
  have Ha1 := Lib.hid (hkeep hb (heap2_a _ _ _))
  have Hb1 := Lib.hid (hkeep hb (heap2_b _ _ _))
  have HW1 := Lib.hid (below_next (below2w _ _ _) hb)
  have hz1 := hb.size
  try simp at hz1
  clear hb
  go_wp2_with fail
  refine (HS.out _ HW1.out).mono ?_
  rintro e w2 ⟨rfl, av', hT4, hown4, hM4⟩
  have Ha2 := Lib.hid (mods_keep hM4 Ha1.out (fun e => by have := HX.out _ (tbF_tw e); omega))
  have Hb2 := Lib.hid (mods_keep hM4 Hb1.out (fun e => by have := HX.out _ (tbF_tw e); omega))
  have HH2 := Lib.hid (((HHH.out.below HW1.out).setTab HI.out H4.out hT4 (hM4.mono (fun b _ e => tbF_tw e)) ⟨.inl rfl, .inl rfl, fun _ h => .inl h, hown4⟩))
  have HM2 := Lib.hid (hM4)
  have HO2 := Lib.hid (hown4)
  have hz2 := hM4.size
  clear hT4 hown4 hM4
  go_upto_region 5 with fail
  obtain ⟨W3, hW3⟩ : ∃ W3, W3 = w2.alloc (oV ek ep ej es er) := ⟨_, rfl⟩
  have HB3 := Lib.hid ((show Below w2.heap.size w2 W3 by rw [hW3]; exact below1 _ _))
  have xc : W3.drew.heap[w2.heap.size]? = some (oV ek ep ej es er) := by rw [hW3]; exact heap1 _ _
  have xa : W3.drew.heap[w.heap.size]? = some (oV k1 p1 q1 s1 r1) := hkeep HB3.out Ha2.out
  have xb : W3.drew.heap[w.heap.size + 1]? = some (oV 0 0 0 ⟨#[]⟩ 0) := hkeep HB3.out Hb2.out
  have HH3 := Lib.hid (HH2.out.below (show Below w2.heap.size w2 W3.drew from HB3.out.drew))
  have hz3 := HB3.out.size
  try rw [show w2.alloc (oV ek ep ej es er) = W3 from hW3.symm]
  clear hW3
  have SO := Lib.hid (fun (W : World) (ha : W.heap[w.heap.size]? = some (oV k1 p1 q1 s1 r1)) (hc : W.heap[w2.heap.size]? = some (oV ek ep ej es er)) => (show W.cell? ⟨w.heap.size, 0, none⟩ = some (.int .i64 k1) ∧ W.cell? ⟨w.heap.size, 1, none⟩ = some (.int .i64 p1) ∧ W.cell? ⟨w.heap.size, 2, none⟩ = some (.int .i64 q1) ∧ W.cell? ⟨w.heap.size, 3, none⟩ = some (.string s1) ∧ W.cell? ⟨w.heap.size, 4, none⟩ = some (.int .i64 r1) ∧ W.cell? ⟨w2.heap.size, 0, none⟩ = some (.int .i64 ek) ∧ W.cell? ⟨w2.heap.size, 1, none⟩ = some (.int .i64 ep) ∧ W.cell? ⟨w2.heap.size, 2, none⟩ = some (.int .i64 ej) ∧ W.cell? ⟨w2.heap.size, 3, none⟩ = some (.string es) ∧ W.cell? ⟨w2.heap.size, 4, none⟩ = some (.int .i64 er) from ⟨(cells5 ha).1, (cells5 ha).2.1, (cells5 ha).2.2.1, (cells5 ha).2.2.2.1, (cells5 ha).2.2.2.2, (cells5 hc).1, (cells5 hc).2.1, (cells5 hc).2.2.1, (cells5 hc).2.2.2.1, (cells5 hc).2.2.2.2⟩))
  have SO5 := Lib.hid (fun (W : World) (c0 c1 c2 c3 c4 : Value) (ha : W.heap[w.heap.size]? = some (oV k1 p1 q1 s1 r1)) (hc : W.heap[w2.heap.size]? = some (oV ek ep ej es er)) => SO.out (((((W.setCell ⟨w.heap.size + 1, 0, none⟩ c0).setCell ⟨w.heap.size + 1, 1, none⟩ c1).setCell ⟨w.heap.size + 1, 2, none⟩ c2).setCell ⟨w.heap.size + 1, 3, none⟩ c3).setCell ⟨w.heap.size + 1, 4, none⟩ c4) (heap_five ha (by omega) _ _ _ _ _) (heap_five hc (by omega) _ _ _ _ _))
  go_region_held3 (fun w' => w'.cell? ⟨w.heap.size, 0, none⟩ = some (.int .i64 k1) ∧ w'.cell? ⟨w.heap.size, 1, none⟩ = some (.int .i64 p1) ∧ w'.cell? ⟨w.heap.size, 2, none⟩ = some (.int .i64 q1) ∧ w'.cell? ⟨w.heap.size, 3, none⟩ = some (.string s1) ∧ w'.cell? ⟨w.heap.size, 4, none⟩ = some (.int .i64 r1) ∧ w'.cell? ⟨w2.heap.size, 0, none⟩ = some (.int .i64 ek) ∧ w'.cell? ⟨w2.heap.size, 1, none⟩ = some (.int .i64 ep) ∧ w'.cell? ⟨w2.heap.size, 2, none⟩ = some (.int .i64 ej) ∧ w'.cell? ⟨w2.heap.size, 3, none⟩ = some (.string es) ∧ w'.cell? ⟨w2.heap.size, 4, none⟩ = some (.int .i64 er))
    (first | with_reducible exact SO.out _ (by assumption) (by assumption) | with_reducible exact SO5.out _ _ _ _ _ _ (by assumption) (by assumption))
    (first | (go_at_call 45; refine (HU.out _ _ HH3.out).mono ?_; rintro e w5 ⟨rfl, hH5, hM5⟩; have xa5 := mods_keep hM5 xa (by omega); have xb5 := mods_keep hM5 xb (by omega); have xc5 := mods_keep hM5 xc (by omega); have HH5 := Lib.hid hH5; have HM5 := Lib.hid hM5; obtain ⟨b0, b1, b2, b3, b4⟩ := cells5 xb5; obtain ⟨fb0, fb1, fb2, fb3, fb4⟩ := froz5 xb5; clear hH5 hM5 xa xb xc))
  have hyb : w.heap.size + 1 < w5.heap.size := (Array.getElem?_eq_some_iff.1 xb5).1
  go_wp2
  refine bodyPost_ret (by simp [results, Tryz.results66, go_sem, hyb, b0, b1, b2, b3, b4]; first | done | rfl) rfl ?_
  have hm5 : ∀ c0 c1 c2 c3 c4, Mods (fun b => b = w.heap.size + 1) w5 (((((w5.setCell ⟨w.heap.size + 1, 0, none⟩ c0).setCell ⟨w.heap.size + 1, 1, none⟩ c1).setCell ⟨w.heap.size + 1, 2, none⟩ c2).setCell ⟨w.heap.size + 1, 3, none⟩ c3).setCell ⟨w.heap.size + 1, 4, none⟩ c4) := fun _ _ _ _ _ => mods_five (F := fun b => b = w.heap.size + 1) (Mods.refl _ _) (.inl rfl) _ _ _ _ _
  have hb1 : Below w.heap.size w w1 := HW1.out
  have hMw : Mods (HpF h bo bt H) w w5 := ((Mods.of_below hb1).trans ((HM2.out.mono (fun k _ e => .inr (.inr (.inr ⟨x, HXM.out, .inr ⟨H4.out, tbF_tw e⟩⟩)))).trans (Mods.of_below HB3.out.drew))).trans (HM5.out.mono (fun k _ e => .inr (.inr (.inl e))))
  refine ⟨rfl, av', hp_box HH5.out xb5 (fun y hy hy4 e => ?_) (hm5 _ _ _ _ _), ?_, fun b hb => (HO2.out b hb).imp id (Nat.le_trans hb1.size)⟩
  · rcases mem_set_at hy with rfl | ⟨j, hj, hjy⟩
    · rcases HO2.out _ e with q | q
      · have := HX.out _ (.inr (.inr q)); omega
      · omega
    · have := HLT.out _ (.inr (.inr (.inr ⟨y, List.mem_of_getElem? hjy, .inr ⟨hy4, .inr (.inr e)⟩⟩))); omega
  · exact ⟨(hm5 _ _ _ _ _).os.trans hMw.os, (hm5 _ _ _ _ _).tape.trans hMw.tape, (hm5 _ _ _ _ _).output.trans hMw.output, Nat.le_trans hMw.size (hm5 _ _ _ _ _).size, fun b hb hF => ((hm5 _ _ _ _ _).block b (Nat.lt_of_lt_of_le hb hMw.size) (fun e => by omega)).trans (hMw.block b hb hF)⟩
/-- Remove of a packed heap. -/
theorem pRemoveT_c {base n : Nat} {w : World} {h : Nat} {M : LH} {AA : List (List V)} {O : Nat → Prop} (hP : PHp base n w h M AA O) (hb : base ≤ w.heap.size) {i : Nat} {o : LO} {A : List V} (hi : M[i]? = some o) (hA : AA[i]? = some A) (h4 : o.kind = 4) (k1 p1 q1 : Int) (s1 : ByteArray) (r1 : Int) (hk1 : k1 = 4) (hr1 : r1 = (i : Int) + 1) (hr : i64 r1) (at_ : Int) (ek ep ej : Int) (es : ByteArray) (er : Int) (A' : List V) (hA' : A'.length ≤ n)
    (S : ∀ W t m g sv av, TabW W t m g sv o.L av A → Calls Tryz.prog 92 #[.pointer (some ⟨t, 0, none⟩), .int .i64 at_] W (TRemPost W t m g sv o.L av A' ⟨ek, ep, ej, es, er⟩)) :
    Calls Tryz.prog 66 #[.pointer (some ⟨h, 0, none⟩), .agg #[.int .i64 k1, .int .i64 p1, .int .i64 q1, .string s1, .int .i64 r1], .int .i64 at_] w (fun e w' => e = .returned (.tuple #[.agg #[.int .i64 ek, .int .i64 ep, .int .i64 ej, .string es, .int .i64 er], .int .i64 0]) ∧ ∃ O', PHp base n w' h M (AA.set i A') O' ∧ QS base O w O' w') := by
  obtain ⟨bo, bt, H, x, h1, h2, h2a, h3, h4a, h5, hix, hx4, hmt, hL, hAx, hf, hLn, _⟩ := php_at hP hi hA h4 (p1 := p1) (q1 := q1) (s1 := s1) hk1 hr1
  have T := fun W (hb : Below w.heap.size w W) => ptab_c W h bo bt H (h1.below hb) k1 p1 q1 s1 r1 hr
  have U := fun W H' (hH' : HpAt W h bo bt H') => pTouch_c W h bo bt H' hH' k1 p1 q1 s1 r1 hr
  rw [hf] at T
  have T : ∀ W, Below w.heap.size w W → Calls Tryz.prog 36 #[.pointer (some ⟨h, 0, none⟩), .agg #[.int .i64 k1, .int .i64 p1, .int .i64 q1, .string s1, .int .i64 r1]] W (PtrPost W x.tabv) := T
  unfold PO.tabv at T
  rw [if_pos hx4] at T
  have hT := (h1.one x (List.mem_of_getElem? hix)).tb hx4
  rw [hAx] at hT
  refine (pRemove_ok w h bo bt H h1 i x hix hx4 A' k1 p1 q1 s1 r1 at_ ek ep ej es er T (fun W hW => by rw [hL]; rw [hL] at hT; exact S W _ _ _ _ _ (tabW_below hT hW)) U).mono ?_
  rintro e w' ⟨he, av', hH', hM', hown⟩
  obtain ⟨O', e1, e2⟩ := php_set (L' := x.L) (m' := x.m) (g' := x.g) (sv' := x.sv) h1 h3 h4a h5 hP.lt hb (Nat.le_refl n) hix hx4 (by rw [hL]; exact hLn) hA' hH' hM' ⟨.inl rfl, .inl rfl, fun _ h => .inl h, hown⟩
  rw [h2, h2a, hmt, hL, set_same (show M[i]? = some ⟨4, o.mt, o.L⟩ by rw [hi, ← h4])] at e1
  exact ⟨he, O', e1, e2⟩
set_option maxRecDepth 100000 in
set_option maxHeartbeats 2000000 in
theorem tTab1_c (w : World) (k p q : Int) (s : ByteArray) (r : Int) (hk : (k == 4) = true) : Calls Tryz.prog 85 #[.agg #[.int .i64 k, .int .i64 p, .int .i64 q, .string s, .int .i64 r]] w (BoolPost w true) := by
  go_enter Tryz.func85, Tryz.ntmps85
  go_wp2
  go_ret
  exact ⟨rfl, below1 _ _⟩
set_option maxRecDepth 100000 in
set_option maxHeartbeats 2000000 in
theorem tInt1_c (w : World) (p : Int) (s : ByteArray) (r : Int) (hv : validV ⟨2, p, 1, s, r⟩ = true) : Calls Tryz.prog 88 #[.agg #[.int .i64 2, .int .i64 p, .int .i64 1, .string s, .int .i64 r]] w (BoolPost w true) := by
  have HV := Lib.hid (fun W => (show Calls Tryz.prog 43 #[.agg #[.int .i64 2, .int .i64 p, .int .i64 1, .string s, .int .i64 r]] W (BoolPost W true) from by have h := pvalidV_c W 2 p 1 s r; rw [hv] at h; exact h))
  clear hv
  go_enter Tryz.func88, Tryz.ntmps88
  go_wp2_with fail
  refine (HV.out _).mono ?_
  rintro e w1 ⟨rfl, hb⟩
  have HW1 := Lib.hid (below_next (below1 _ _) hb)
  clear hb
  go_wp2
  go_ret
  exact ⟨rfl, HW1.out⟩
set_option maxRecDepth 100000 in
set_option maxHeartbeats 2000000 in
theorem tArg_table (w : World) (c h : Nat) (nm : ByteArray) (so : Option Addr) (n cap : Nat) (A : List V) (HC : w.heap[c]? = some (oCt h nm (.slice so n cap))) (hA : Vals w (.slice so n cap) A) (hl : A.length ≤ 1000) (i : Nat) (j : Int) (hj : j = i) (what : ByteArray) (k p q : Int) (s : ByteArray) (r : Int) (hv : A[i]? = some ⟨k, p, q, s, r⟩) (h0 : k ≠ 0) (oth : Value)
    (HF : ∀ W, Below w.heap.size w W → Calls Tryz.prog 85 #[.agg #[.int .i64 k, .int .i64 p, .int .i64 q, .string s, .int .i64 r]] W (BoolPost W true)) :
    Calls Tryz.prog 51 #[.pointer (some ⟨c, 0, none⟩), .int .i64 j, .string what, .func (.func 85) #[] #[], oth] w (ValPost w ⟨k, p, q, s, r⟩) := by
  have HP := Lib.hid (fun W (hb : Below w.heap.size w W) => pArg_at W so n cap A (Vals.below hA hb) j i hj _ hv hl)
  have HFF := Lib.hid (HF)
  have hc : c < w.heap.size := (Array.getElem?_eq_some_iff.1 HC).1
  have c2 : (w.alloc (oV 0 0 0 ⟨#[]⟩ 0)).cell? ⟨c, 2, none⟩ = some (.slice so n cap) := by rw [cell_of_heap (heap1_old HC _)]; rfl
  have q0 : (k == 0) = false := beq_eq_false_iff_ne.2 h0
  clear HC hA hv HF hj
  go_enter Tryz.func51, Tryz.ntmps51
  go_wp2_with fail
  refine (HP.out _ (below1 _ _)).mono ?_
  rintro e w1 ⟨rfl, hb⟩
  have Ha1 := Lib.hid (hkeep hb (heap1 w (oV 0 0 0 ⟨#[]⟩ 0)))
  have HW1 := Lib.hid (below_next (below1 _ _) hb)
  have hz1 := hb.size
  try simp at hz1
  clear hb c2
  obtain ⟨W2, hW2⟩ : ∃ W2, W2 = w1.alloc (oV k p q s r) := ⟨_, rfl⟩
  have HE := Lib.hid (hW2)
  go_wp2_with fail
  refine (HFF.out _ (HW1.out.alloc HW1.out.size (oV k p q s r))).mono ?_
  rintro e w2 ⟨rfl, hb⟩
  have Ha2 := Lib.hid (hkeep hb (heap1_old Ha1.out _))
  have Hv2 := Lib.hid (hkeep hb (heap1 w1 (oV k p q s r)))
  have HW2 := Lib.hid (below_next (HW1.out.alloc HW1.out.size (oV k p q s r)) hb)
  clear hb hW2
  have hya : w.heap.size < w2.heap.size := (Array.getElem?_eq_some_iff.1 Ha2.out).1
  have hyv : w1.heap.size < w2.heap.size := (Array.getElem?_eq_some_iff.1 Hv2.out).1
  obtain ⟨a0, a1, a2, a3, a4⟩ := cells5 Ha2.out
  obtain ⟨fa0, fa1, fa2, fa3, fa4⟩ := froz5 Ha2.out
  obtain ⟨v0, v1, v2, v3, v4⟩ := cells5 Hv2.out
  obtain ⟨fv0, fv1, fv2, fv3, fv4⟩ := froz5 Hv2.out
  go_wp2
  refine bodyPost_ret (by simp [results, Tryz.results51, go_sem, hya, hyv, a0, a1, a2, a3, a4, v0, v1, v2, v3, v4]; first | done | rfl) rfl ?_
  exact val_done rfl (below_five HW2.out (Nat.le_refl _) _ _ _ _ _)
set_option maxRecDepth 100000 in
set_option maxHeartbeats 2000000 in
theorem tArg_integer (w : World) (c h : Nat) (nm : ByteArray) (so : Option Addr) (n cap : Nat) (A : List V) (HC : w.heap[c]? = some (oCt h nm (.slice so n cap))) (hA : Vals w (.slice so n cap) A) (hl : A.length ≤ 1000) (i : Nat) (j : Int) (hj : j = i) (what : ByteArray) (k p q : Int) (s : ByteArray) (r : Int) (hv : A[i]? = some ⟨k, p, q, s, r⟩) (h0 : k ≠ 0) (oth : Value)
    (HF : ∀ W, Below w.heap.size w W → Calls Tryz.prog 88 #[.agg #[.int .i64 k, .int .i64 p, .int .i64 q, .string s, .int .i64 r]] W (BoolPost W true)) :
    Calls Tryz.prog 51 #[.pointer (some ⟨c, 0, none⟩), .int .i64 j, .string what, .func (.func 88) #[] #[], oth] w (ValPost w ⟨k, p, q, s, r⟩) := by
  have HP := Lib.hid (fun W (hb : Below w.heap.size w W) => pArg_at W so n cap A (Vals.below hA hb) j i hj _ hv hl)
  have HFF := Lib.hid (HF)
  have hc : c < w.heap.size := (Array.getElem?_eq_some_iff.1 HC).1
  have c2 : (w.alloc (oV 0 0 0 ⟨#[]⟩ 0)).cell? ⟨c, 2, none⟩ = some (.slice so n cap) := by rw [cell_of_heap (heap1_old HC _)]; rfl
  have q0 : (k == 0) = false := beq_eq_false_iff_ne.2 h0
  clear HC hA hv HF hj
  go_enter Tryz.func51, Tryz.ntmps51
  go_wp2_with fail
  refine (HP.out _ (below1 _ _)).mono ?_
  rintro e w1 ⟨rfl, hb⟩
  have Ha1 := Lib.hid (hkeep hb (heap1 w (oV 0 0 0 ⟨#[]⟩ 0)))
  have HW1 := Lib.hid (below_next (below1 _ _) hb)
  have hz1 := hb.size
  try simp at hz1
  clear hb c2
  obtain ⟨W2, hW2⟩ : ∃ W2, W2 = w1.alloc (oV k p q s r) := ⟨_, rfl⟩
  have HE := Lib.hid (hW2)
  go_wp2_with fail
  refine (HFF.out _ (HW1.out.alloc HW1.out.size (oV k p q s r))).mono ?_
  rintro e w2 ⟨rfl, hb⟩
  have Ha2 := Lib.hid (hkeep hb (heap1_old Ha1.out _))
  have Hv2 := Lib.hid (hkeep hb (heap1 w1 (oV k p q s r)))
  have HW2 := Lib.hid (below_next (HW1.out.alloc HW1.out.size (oV k p q s r)) hb)
  clear hb hW2
  have hya : w.heap.size < w2.heap.size := (Array.getElem?_eq_some_iff.1 Ha2.out).1
  have hyv : w1.heap.size < w2.heap.size := (Array.getElem?_eq_some_iff.1 Hv2.out).1
  obtain ⟨a0, a1, a2, a3, a4⟩ := cells5 Ha2.out
  obtain ⟨fa0, fa1, fa2, fa3, fa4⟩ := froz5 Ha2.out
  obtain ⟨v0, v1, v2, v3, v4⟩ := cells5 Hv2.out
  obtain ⟨fv0, fv1, fv2, fv3, fv4⟩ := froz5 Hv2.out
  go_wp2
  refine bodyPost_ret (by simp [results, Tryz.results51, go_sem, hya, hyv, a0, a1, a2, a3, a4, v0, v1, v2, v3, v4]; first | done | rfl) rfl ?_
  exact val_done rfl (below_five HW2.out (Nat.le_refl _) _ _ _ _ _)
set_option maxRecDepth 100000 in
set_option maxHeartbeats 2000000 in
theorem tArg_concat (w : World) (c h : Nat) (nm : ByteArray) (so : Option Addr) (n cap : Nat) (A : List V) (HC : w.heap[c]? = some (oCt h nm (.slice so n cap))) (hA : Vals w (.slice so n cap) A) (hl : A.length ≤ 1000) (i : Nat) (j : Int) (hj : j = i) (what : ByteArray) (k p q : Int) (s : ByteArray) (r : Int) (hv : A[i]? = some ⟨k, p, q, s, r⟩) (h0 : k ≠ 0) (oth : Value)
    (HF : ∀ W, Below w.heap.size w W → Calls Tryz.prog 49 #[.agg #[.int .i64 k, .int .i64 p, .int .i64 q, .string s, .int .i64 r]] W (BoolPost W true)) :
    Calls Tryz.prog 51 #[.pointer (some ⟨c, 0, none⟩), .int .i64 j, .string what, .func (.func 49) #[] #[], oth] w (ValPost w ⟨k, p, q, s, r⟩) := by
  have HP := Lib.hid (fun W (hb : Below w.heap.size w W) => pArg_at W so n cap A (Vals.below hA hb) j i hj _ hv hl)
  have HFF := Lib.hid (HF)
  have hc : c < w.heap.size := (Array.getElem?_eq_some_iff.1 HC).1
  have c2 : (w.alloc (oV 0 0 0 ⟨#[]⟩ 0)).cell? ⟨c, 2, none⟩ = some (.slice so n cap) := by rw [cell_of_heap (heap1_old HC _)]; rfl
  have q0 : (k == 0) = false := beq_eq_false_iff_ne.2 h0
  clear HC hA hv HF hj
  go_enter Tryz.func51, Tryz.ntmps51
  go_wp2_with fail
  refine (HP.out _ (below1 _ _)).mono ?_
  rintro e w1 ⟨rfl, hb⟩
  have Ha1 := Lib.hid (hkeep hb (heap1 w (oV 0 0 0 ⟨#[]⟩ 0)))
  have HW1 := Lib.hid (below_next (below1 _ _) hb)
  have hz1 := hb.size
  try simp at hz1
  clear hb c2
  obtain ⟨W2, hW2⟩ : ∃ W2, W2 = w1.alloc (oV k p q s r) := ⟨_, rfl⟩
  have HE := Lib.hid (hW2)
  go_wp2_with fail
  refine (HFF.out _ (HW1.out.alloc HW1.out.size (oV k p q s r))).mono ?_
  rintro e w2 ⟨rfl, hb⟩
  have Ha2 := Lib.hid (hkeep hb (heap1_old Ha1.out _))
  have Hv2 := Lib.hid (hkeep hb (heap1 w1 (oV k p q s r)))
  have HW2 := Lib.hid (below_next (HW1.out.alloc HW1.out.size (oV k p q s r)) hb)
  clear hb hW2
  have hya : w.heap.size < w2.heap.size := (Array.getElem?_eq_some_iff.1 Ha2.out).1
  have hyv : w1.heap.size < w2.heap.size := (Array.getElem?_eq_some_iff.1 Hv2.out).1
  obtain ⟨a0, a1, a2, a3, a4⟩ := cells5 Ha2.out
  obtain ⟨fa0, fa1, fa2, fa3, fa4⟩ := froz5 Ha2.out
  obtain ⟨v0, v1, v2, v3, v4⟩ := cells5 Hv2.out
  obtain ⟨fv0, fv1, fv2, fv3, fv4⟩ := froz5 Hv2.out
  go_wp2
  refine bodyPost_ret (by simp [results, Tryz.results51, go_sem, hya, hyv, a0, a1, a2, a3, a4, v0, v1, v2, v3, v4]; first | done | rfl) rfl ?_
  exact val_done rfl (below_five HW2.out (Nat.le_refl _) _ _ _ _ _)
set_option maxRecDepth 100000 in
set_option maxHeartbeats 2000000 in
theorem tArg_def (w : World) (c h : Nat) (nm : ByteArray) (so : Option Addr) (n cap : Nat) (HC : w.heap[c]? = some (oCt h nm (.slice so n cap))) (j : Int) (hj : (n : Int) ≤ j) (what : ByteArray) (fn : FuncId) (g n2 c2 : Nat) (k p q : Int) (s : ByteArray) (r : Int) (hg : w.heap[g]? = some (oV k p q s r)) (hn2 : 1 ≤ n2) :
    Calls Tryz.prog 51 #[.pointer (some ⟨c, 0, none⟩), .int .i64 j, .string what, .func (.func fn) #[] #[], .slice (some ⟨g, 0, none⟩) n2 c2] w (ValPost w ⟨k, p, q, s, r⟩) := by
  have HP := Lib.hid (fun W => pArg_out W so n cap j hj)
  have HG := Lib.hid (hg)
  have hgl := (Array.getElem?_eq_some_iff.1 hg).1
  have hc : c < w.heap.size := (Array.getElem?_eq_some_iff.1 HC).1
  have c2 : (w.alloc (oV 0 0 0 ⟨#[]⟩ 0)).cell? ⟨c, 2, none⟩ = some (.slice so n cap) := by rw [cell_of_heap (heap1_old HC _)]; rfl
  have d2 : decide ((n2 : Int) > 0) = true := decide_eq_true (by omega)
  clear HC hj hg
  go_enter Tryz.func51, Tryz.ntmps51
  go_wp2_with fail
  refine (HP.out _).mono ?_
  rintro e w1 ⟨rfl, hb⟩
  have Ha1 := Lib.hid (hkeep hb (heap1 w (oV 0 0 0 ⟨#[]⟩ 0)))
  have Hg1 := Lib.hid (hkeep hb (heap1_old HG.out _))
  have HW1 := Lib.hid (below_next (below1 _ _) hb)
  have hz1 := hb.size
  try simp at hz1
  clear hb c2
  obtain ⟨W2, hW2⟩ : ∃ W2, W2 = w1.alloc (oV 0 0 0 ⟨#[]⟩ 0) := ⟨_, rfl⟩
  have Ha2 := Lib.hid ((show W2.heap[w.heap.size]? = some (oV 0 0 0 ⟨#[]⟩ 0) by rw [hW2]; exact heap1_old Ha1.out _))
  have Hv2 := Lib.hid ((show W2.heap[w1.heap.size]? = some (oV 0 0 0 ⟨#[]⟩ 0) by rw [hW2]; exact heap1 _ _))
  have Hg2 := Lib.hid ((show W2.heap[g]? = some (oV k p q s r) by rw [hW2]; exact heap1_old Hg1.out _))
  have HW2 := Lib.hid ((show Below w.heap.size w W2 by rw [hW2]; exact HW1.out.alloc HW1.out.size _))
  have hya : w.heap.size < W2.heap.size := (Array.getElem?_eq_some_iff.1 Ha2.out).1
  have hyv : w1.heap.size < W2.heap.size := (Array.getElem?_eq_some_iff.1 Hv2.out).1
  obtain ⟨a0, a1, a2, a3, a4⟩ := cells5 Ha2.out
  obtain ⟨fa0, fa1, fa2, fa3, fa4⟩ := froz5 Ha2.out
  obtain ⟨v0, v1, v2, v3, v4⟩ := cells5 Hv2.out
  obtain ⟨fv0, fv1, fv2, fv3, fv4⟩ := froz5 Hv2.out
  obtain ⟨g0, g1, g2, g3, g4⟩ := cells5 Hg2.out
  obtain ⟨fg0, fg1, fg2, fg3, fg4⟩ := froz5 Hg2.out
  go_upto_region 2 with fail
  try rw [show w1.alloc (oV 0 0 0 ⟨#[]⟩ 0) = W2 from hW2.symm]
  clear hW2
  go_wp2
  refine bodyPost_ret (by simp [results, Tryz.results51, go_sem, hya, hyv, a0, a1, a2, a3, a4, v0, v1, v2, v3, v4, g0, g1, g2, g3, g4]; first | done | rfl) rfl ?_
  exact val_done rfl (below_five HW2.out (Nat.le_refl _) _ _ _ _ _)
set_option maxRecDepth 100000 in
set_option maxHeartbeats 2000000 in
theorem tTable_c (w : World) (c h : Nat) (nm : ByteArray) (so : Option Addr) (n cap : Nat) (A : List V) (HC : w.heap[c]? = some (oCt h nm (.slice so n cap))) (hA : Vals w (.slice so n cap) A) (hl : A.length ≤ 1000) (i : Nat) (j : Int) (hj : j = i) (p q : Int) (s : ByteArray) (r : Int) (hv : A[i]? = some ⟨4, p, q, s, r⟩) (so2 : Option Addr) (n2 c2 : Nat) :
    Calls Tryz.prog 48 #[.pointer (some ⟨c, 0, none⟩), .int .i64 j, .slice so2 n2 c2] w (ValPost w ⟨4, p, q, s, r⟩) := by
  have HX := Lib.hid (fun W (hb : Below w.heap.size w W) => tArg_table W c h nm so n cap A (hkeep hb HC) (Vals.below hA hb) hl i j hj ⟨#[116, 97, 98, 108, 101]⟩ 4 p q s r hv (by decide) (.slice so2 n2 c2) (fun W' _ => tTab1_c W' 4 p q s r rfl))
  clear HC hA hv hj
  go_enter Tryz.func48, Tryz.ntmps48
  go_wp2_with fail
  refine (HX.out _ (below1 _ _)).mono ?_
  rintro e w1 ⟨rfl, hb⟩
  have Ha1 := Lib.hid (hkeep hb (heap1 w (oV 0 0 0 ⟨#[]⟩ 0)))
  have HW1 := Lib.hid (below_next (below1 _ _) hb)
  clear hb
  have hya : w.heap.size < w1.heap.size := (Array.getElem?_eq_some_iff.1 Ha1.out).1
  obtain ⟨a0, a1, a2, a3, a4⟩ := cells5 Ha1.out
  obtain ⟨fa0, fa1, fa2, fa3, fa4⟩ := froz5 Ha1.out
  go_wp2
  refine bodyPost_ret (by simp [results, Tryz.results48, go_sem, hya, a0, a1, a2, a3, a4]; first | done | rfl) rfl ?_
  exact val_done rfl (below_five HW1.out (Nat.le_refl _) _ _ _ _ _)
set_option maxRecDepth 100000 in
set_option maxHeartbeats 2000000 in
theorem tInt_of (w : World) (c : Nat) (j : Int) (so2 : Option Addr) (n2 c2 : Nat) (k p q : Int) (s : ByteArray) (r : Int) 
    (HA : ∀ W, Below w.heap.size w W → Calls Tryz.prog 51 #[.pointer (some ⟨c, 0, none⟩), .int .i64 j, .string ⟨#[105, 110, 116, 101, 103, 101, 114]⟩, .func (.func 88) #[] #[], .slice so2 n2 c2] W (ValPost W ⟨k, p, q, s, r⟩)) :
    Calls Tryz.prog 53 #[.pointer (some ⟨c, 0, none⟩), .int .i64 j, .slice so2 n2 c2] w (IntPost w p) := by
  have HX := Lib.hid (HA)
  clear HA
  go_enter Tryz.func53, Tryz.ntmps53
  go_wp2_with fail
  refine (HX.out _ (Below.refl _ _)).mono ?_
  rintro e w1 ⟨rfl, hb⟩
  have HW1 := Lib.hid (hb)
  clear hb
  go_wp2
  go_ret
  exact ⟨rfl, HW1.out.alloc HW1.out.size _⟩
theorem tInt_ok (w : World) (c h : Nat) (nm : ByteArray) (so : Option Addr) (n cap : Nat) (A : List V) (HC : w.heap[c]? = some (oCt h nm (.slice so n cap))) (hA : Vals w (.slice so n cap) A) (hl : A.length ≤ 1000) (i : Nat) (j : Int) (hj : j = i) (p : Int) (s : ByteArray) (r : Int) (hv : A[i]? = some ⟨2, p, 1, s, r⟩) (hval : validV ⟨2, p, 1, s, r⟩ = true) (so2 : Option Addr) (n2 c2 : Nat) :
    Calls Tryz.prog 53 #[.pointer (some ⟨c, 0, none⟩), .int .i64 j, .slice so2 n2 c2] w (IntPost w p) :=
  tInt_of w c j so2 n2 c2 2 p 1 s r (fun W hb => tArg_integer W c h nm so n cap A (hkeep hb HC) (Vals.below hA hb) hl i j hj _ 2 p 1 s r hv (by decide) _ (fun W' _ => tInt1_c W' p s r hval))
theorem tInt_def (w : World) (c h : Nat) (nm : ByteArray) (so : Option Addr) (n cap : Nat) (HC : w.heap[c]? = some (oCt h nm (.slice so n cap))) (j : Int) (hj : (n : Int) ≤ j) (g n2 c2 : Nat) (k p q : Int) (s : ByteArray) (r : Int) (hg : w.heap[g]? = some (oV k p q s r)) (hn2 : 1 ≤ n2) :
    Calls Tryz.prog 53 #[.pointer (some ⟨c, 0, none⟩), .int .i64 j, .slice (some ⟨g, 0, none⟩) n2 c2] w (IntPost w p) :=
  tInt_of w c j (some ⟨g, 0, none⟩) n2 c2 k p q s r (fun W hb => tArg_def W c h nm so n cap (hkeep hb HC) j hj _ _ g n2 c2 k p q s r (hkeep hb hg) hn2)
set_option maxRecDepth 100000 in
set_option maxHeartbeats 2000000 in
theorem tLen_c (w : World) (c h : Nat) (nm : ByteArray) (av : Value) (HC : w.heap[c]? = some (oCt h nm av)) {base n : Nat} {M : LH} {AA : List (List V)} {O : Nat → Prop} (hP : PHp base n w h M AA O) {ti : Nat} (hti : ti ≤ 100000) {o : LO} {A : List V} (hM : M[ti]? = some o) (hA : AA[ti]? = some A) (h4 : o.kind = 4) :
    Calls Tryz.prog 55 #[.pointer (some ⟨c, 0, none⟩), .agg #[.int .i64 4, .int .i64 0, .int .i64 0, .string ⟨#[]⟩, .int .i64 ((ti : Int) + 1)]] w (IntPost w A.length) := by
  have HL := Lib.hid (fun W (hb : Below w.heap.size w W) => pLenT_c (hP.below hb) hM hA h4 4 0 0 ⟨#[]⟩ ((ti : Int) + 1) rfl rfl ⟨by omega, by omega⟩)
  have hc : c < w.heap.size := (Array.getElem?_eq_some_iff.1 HC).1
  have c0 : (w.alloc (oV 4 0 0 ⟨#[]⟩ ((ti : Int) + 1))).cell? ⟨c, 0, none⟩ = some (.pointer (some ⟨h, 0, none⟩)) := by rw [cell_of_heap (heap1_old HC _)]; rfl
  clear HC hP hM hA
  go_enter Tryz.func55, Tryz.ntmps55
  go_wp2
  refine wp_region_lex mixed (by kernel_rfl) ?_
  go_wp2_with fail
  refine (HL.out _ (below1 _ _).drew).mono ?_
  rintro e w1 ⟨rfl, hb⟩
  have HW1 := Lib.hid (below_next (below1 _ _).drew hb)
  clear hb
  go_wp2
  refine ⟨by kernel_rfl, ?_⟩
  go_wp2
  go_ret
  exact ⟨rfl, HW1.out⟩
set_option maxRecDepth 100000 in
set_option maxHeartbeats 2000000 in
theorem tEnd_c (w : World) (c h : Nat) (nm : ByteArray) (av : Value) (HC : w.heap[c]? = some (oCt h nm av)) (so : Option Addr) (n cap : Nat) (A : List V) (hA : Vals w (.slice so n cap) A) (hl : A.length ≤ 1000) :
    Calls Tryz.prog 60 #[.pointer (some ⟨c, 0, none⟩), .slice so n cap] w (RetPost w A) := by
  have HR := Lib.hid (fun W (hb : Below w.heap.size w W) => pReturn_c W so n cap A (Vals.below hA hb) hl)
  have hc : c < w.heap.size := (Array.getElem?_eq_some_iff.1 HC).1
  have c15 : (w.alloc oAc).cell? ⟨c, 15, none⟩ = some (.bool false) := by rw [cell_of_heap (heap1_old HC _)]; rfl
  clear hA HC
  go_enter Tryz.func60, Tryz.ntmps60
  go_wp2_with fail
  refine (HR.out _ (below1 _ _)).mono ?_
  rintro e w1 ⟨so1, cap1, rfl, hrow, hb⟩
  have HR1 := Lib.hid (hrow)
  have Ha1 := Lib.hid (hkeep hb (heap1 w oAc))
  have HW1 := Lib.hid (below_next (below1 _ _) hb)
  clear hb hrow
  have hya : w.heap.size < w1.heap.size := (Array.getElem?_eq_some_iff.1 Ha1.out).1
  obtain ⟨a0, a1, a2, a3, a4, a5, a6, a7, a8, a9, a10, a11⟩ := cells12 Ha1.out
  obtain ⟨fa0, fa1, fa2, fa3, fa4, fa5, fa6, fa7, fa8, fa9, fa10, fa11⟩ := froz12 Ha1.out
  go_wp2
  refine bodyPost_ret (by simp [results, Tryz.results60, go_sem, hya, a0, a1, a2, a3, a4, a5, a6, a7, a8, a9, a10, a11]; first | done | rfl) rfl ?_
  refine ⟨so1, cap1, rfl, ownsRow_base (row_twelve HR1.out (fun h => ?_) _ _ _ _ _ _ _ _ _ _ _ _) (by simp), below_twelve HW1.out (Nat.le_refl _) _ _ _ _ _ _ _ _ _ _ _ _⟩
  have := (ownBlock_lt HR1.out h).1
  simp at this
  omega
end Go.Proofs.YtpbcmlnjiocmoaaGreatDoorR
