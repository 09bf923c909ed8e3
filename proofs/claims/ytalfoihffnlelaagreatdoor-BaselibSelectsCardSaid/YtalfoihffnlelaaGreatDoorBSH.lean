import Derived.Test.YtalfoihffnlelaaGreatDoorSmA
set_option linter.unusedVariables false
set_option linter.unusedSimpArgs false
set_option maxRecDepth 100000
set_option maxHeartbeats 4000000
namespace Go.Proofs
open Go.Shelf
open Go.RowKit in
/-- strings.CutPrefix: "CutPrefix returns s without the provided leading prefix string and reports whether it found the prefix. If s doesn't start with prefix, CutPrefix returns s, false. If prefix is the empty string, CutPrefix returns s, true.": IT RETURNS '(Lib.trimPrefix s p, Lib.hasPrefix s p)'; the world is as it was. (LAID: no walk: one application.) -/
theorem Tryz.strings_CutPrefix (s p : ByteArray) (w : World) :
    Calls Tryz.prog 107 #[.string s, .string p] w fun e w' => e = .returned (.tuple #[.string ⟨(Lib.trimPrefix s.data.toList p.data.toList).toArray⟩, .bool (Lib.hasPrefix s.data.toList p.data.toList)]) ∧ w' = w := Any.strings_CutPrefix Tryz.lays103 s p w
open Go.RowKit Go.Sort Go.Lib in
/-- THE ROAD WITHOUT THE TABLE: 0 <= i < 100: NO PREMISE ON THE WORLD, AND THE WORLD IS AS IT WAS: a row that keeps its argument in that range need list no table ('laid = []'). (LAID: no walk: one application.) -/
theorem Tryz.strconv_Itoa_small (i : Nat) (hi : i < 100) (w : World) :
    Calls Tryz.prog 85 #[.int .i64 i] w fun e w' => e = .returned (.string ⟨(Lib.decDigits i).toArray⟩) ∧ w' = w := Any.strconv_Itoa_small Tryz.lays171 i hi w
open Go.RowKit Go.Lib in
/-- strings.LastIndexByte: "LastIndexByte returns the index of the last instance of c in s, or -1 if c is not present in s." (LAID: no walk: one application.) -/
theorem Tryz.strings_LastIndexByte (s : ByteArray) (c : Int) (hs : s.size < 4611686018427387904) (w : World) :
    Calls Tryz.prog 18 #[.string s, .int .u8 c] w fun e w' => e = .returned (.int .i64 (Lib.lastIndexByte s c)) ∧ w' = w := Any.strings_LastIndexByte Tryz.lays149 s c hs w
open Go.RowKit Go.Lib in
/-- strings.Fields on ASCII bytes. (The table: 'Lib.TabIs', as strings.TrimSpace's contract asks it.) (LAID: no walk: one application.) -/
theorem Tryz.strings_Fields_laid (s : ByteArray) (w : World) (hs : s.size < 4294967281) (hascii : ∀ (j : Nat) b, s.data.toList[j]? = some b → b.toNat < 128) (htab : Lib.TabIs Tryz.prog w "strings.asciiSpace" .u8 Lib.asciiSpaceTab) :
    Calls Tryz.prog 82 #[.string s] w fun e w' =>
      e = .returned (.slice (some ⟨w.heap.size, 0, none⟩) (Lib.fields s.data.toList).length (Lib.fields s.data.toList).length) ∧ w' = w.alloc (.cells ((Lib.fields s.data.toList).map fun l => Value.string ⟨l.toArray⟩).toArray 9) := Any.strings_Fields_laid Tryz.laysM157 s w hs hascii htab
open Go.Lib in
/-- slices.Index at []string: "Index returns the index of the first occurrence of v in s, or -1 if not present.": IT RETURNS 'Lib.idxOfS (the elements) v'; the world is as it was. 'zs': what the cells behind the slice's address hold (its spare capacity too, if you have it); 'zs.take n': its elements. (LAID: no walk: one application.) -/
theorem Tryz.slices_Index_string (b off n c : Nat) (zs : List ByteArray) (x : ByteArray) (w : World) (hz : n ≤ zs.length) (hbig : n ≤ 9223372036854775807) (hc : ∀ j, j < zs.length → w.cell? ⟨b, off + j, none⟩ = some (.string (zs.getD j ByteArray.empty))) :
    Calls Tryz.prog 37 #[.slice (some ⟨b, off, none⟩) n c, .string x] w fun e w' => e = .returned (.int .i64 (Lib.idxOfS (zs.take n) x)) ∧ w' = w := Any.slices_Index_string Tryz.lays109 b off n c zs x w hz hbig hc
end Go.Proofs
namespace Go.Proofs.YtalfoihffnlelaaGreatDoor
open Go.RowKit Go.Proofs.Lexi
set_option maxRecDepth 100000 in
set_option maxHeartbeats 1000000 in
theorem svalid_c (w : World) (p q : Int) : Calls Tryz.prog 16 #[.agg #[.int .i64 p, .int .i64 q]] w (BoolPost w (validN (p, q))) := by
  have HB := Lib.hid (below_num0 w (.cells #[.int .i64 p, .int .i64 q] 28))
  by_cases h : 1 ≤ q ∧ q ≤ 2147483647 ∧ -2147483647 ≤ p ∧ p ≤ 2147483647
  · obtain ⟨h1, h2, h3, h4⟩ := h
    have HGC := Lib.hid (fun W x y hx hy => sgcd_c W x y p.natAbs q.natAbs hx hy (by omega) (by omega))
    have HA1 := Lib.hid (fun W => sabs_c W p (by omega) (by omega))
    obtain ⟨D, hD⟩ : ∃ D, D = Nat.gcd p.natAbs q.natAbs := ⟨_, rfl⟩
    have HV := Lib.hid (validN_good h1 h2 h3 h4 hD.symm)
    rw [← hD] at HGC
    have hq : q = (q.natAbs : Int) := by omega
    have HQ := Lib.hid hq
    have d1 : decide (1 ≤ q) = true := decide_eq_true h1
    have d2 : decide (q ≤ 2147483647) = true := decide_eq_true h2
    have d3 : decide (-2147483647 ≤ p) = true := decide_eq_true h3
    have d4 : decide (p ≤ 2147483647) = true := decide_eq_true h4
    clear hD hq
    go_enter Tryz.func16, Tryz.ntmps16
    go_wp2
    go_quiet (first | ((go_at_call 34; exact Calls.quiet_of_same (HA1.out _))) | ((go_at_call 33; exact Calls.quiet_of (HGC.out _ _ _ rfl HQ.out))))
    go_wp2
    go_ret
    exact bool_done HV.out.symm (bdn HB.out _)
  · have HV := Lib.hid (validN_bad (p := p) (q := q) (by omega))
    have hc : q < 1 ∨ (1 ≤ q ∧ 2147483647 < q) ∨ (1 ≤ q ∧ q ≤ 2147483647 ∧ 2147483647 < p) ∨ (1 ≤ q ∧ q ≤ 2147483647 ∧ p ≤ 2147483647 ∧ p < -2147483647) := by omega
    clear h
    rcases hc with k1 | ⟨k1, k2⟩ | ⟨k1, k2, k3⟩ | ⟨k1, k2, k3, k4⟩
    · have d1 : decide (1 ≤ q) = false := decide_eq_false (by omega)
      go_enter Tryz.func16, Tryz.ntmps16
      go_wp2
      go_quiet (fail)
      go_wp2
      go_ret
      exact bool_done HV.out.symm (bdn HB.out _)
    · have d1 : decide (1 ≤ q) = true := decide_eq_true k1
      have d2 : decide (q ≤ 2147483647) = false := decide_eq_false (by omega)
      go_enter Tryz.func16, Tryz.ntmps16
      go_wp2
      go_quiet (fail)
      go_wp2
      go_ret
      exact bool_done HV.out.symm (bdn HB.out _)
    · have d1 : decide (1 ≤ q) = true := decide_eq_true k1
      have d2 : decide (q ≤ 2147483647) = true := decide_eq_true k2
      have d4 : decide (p ≤ 2147483647) = false := decide_eq_false (by omega)
      go_enter Tryz.func16, Tryz.ntmps16
      go_wp2
      go_quiet (fail)
      go_wp2
      go_ret
      exact bool_done HV.out.symm (bdn HB.out _)
    · have d1 : decide (1 ≤ q) = true := decide_eq_true k1
      have d2 : decide (q ≤ 2147483647) = true := decide_eq_true k2
      have d4 : decide (p ≤ 2147483647) = true := decide_eq_true k3
      have d3 : decide (-2147483647 ≤ p) = false := decide_eq_false (by omega)
      go_enter Tryz.func16, Tryz.ntmps16
      go_wp2
      go_quiet (fail)
      go_wp2
      go_ret
      exact bool_done HV.out.symm (bdn HB.out _)
set_option maxRecDepth 100000 in
set_option maxHeartbeats 4000000 in
theorem svalidV_c (w : World) (k p q : Int) (s : ByteArray) (r : Int) : Calls Tryz.prog 13 #[.agg #[.int .i64 k, .int .i64 p, .int .i64 q, .string s, .int .i64 r]] w (BoolPost w (validV ⟨k, p, q, s, r⟩)) := by
  obtain ⟨R, hR⟩ : ∃ R, R = validV ⟨k, p, q, s, r⟩ := ⟨_, rfl⟩
  rw [← hR]
  have HR := Lib.hid hR
  clear hR
  go_enter Tryz.func13, Tryz.ntmps13
  go_wp2_with (first | (go_at_call 16; refine (svalid_c _ _ _).mono ?_; rintro e w1 ⟨rfl, hb⟩))
  all_goals
    go_ret
    have h := HR.out
    clear HR
    first
    | (refine bool_done ?_ (below_num0 _ _); subst h; simp_all [validV, noNum, noStr, isRef, V.num, toList_size, sz_le, sz_ge, sz_lt, sz_lt1] <;> omega)
    | (refine bool_done ?_ (below_next (below_num0 _ _) (by assumption)); subst h; simp_all [validV, noNum, noStr, isRef, V.num, toList_size, sz_le, sz_ge, sz_lt, sz_lt1] <;> omega)
    | trace_state
set_option maxRecDepth 100000 in
set_option maxHeartbeats 2000000 in
theorem lstr_c (w : World) (s : ByteArray) : Calls Tryz.prog 8 #[.string s] w (ValPost w (strV s)) := by
  go_enter Tryz.func8, Tryz.ntmps8
  go_wp2
  refine bodyPost_ret (by simp [results, Tryz.results8, go_sem]; first | done | rfl) rfl ?_
  exact val_done rfl (below1 _ _)
set_option maxRecDepth 100000 in
set_option maxHeartbeats 2000000 in
theorem lnum_c (w : World) (n : Int) : Calls Tryz.prog 9 #[.int .i64 n] w (ValPost w ⟨2, n, 1, ⟨#[]⟩, 0⟩) := by
  go_enter Tryz.func9, Tryz.ntmps9
  go_wp2
  refine bodyPost_ret (by simp [results, Tryz.results9, go_sem]; first | done | rfl) rfl ?_
  exact val_done rfl (below1 _ _)
set_option maxRecDepth 100000 in
set_option maxHeartbeats 2000000 in
theorem plist_c (w : World) (sv : Value) (A : List V) (hA : Vals w sv A) (hl : A.length ≤ 1000) : Calls Tryz.prog 73 #[sv] w (ListPost w A) := by
  obtain ⟨i5, hi5, hi5a, hi5b, hi5c⟩ := info_parts info25p
  obtain ⟨so, cap, rfl, hcap, hnone, hc⟩ := hA
  rcases so with _ | ad
  · have hnil : A = [] := by
      rcases hc with hc | ⟨g, o, h, _⟩
      · exact hc
      · cases h
    subst hnil
    obtain rfl := hnone rfl
    clear hcap hnone hc
    go_enter Tryz.func73, Tryz.ntmps73
    go_wp2_with (at_builtin; refine wpList_append_own_none rfl (.const (.slice none 0 0)) (.tmp 3) 22 rfl w.heap.size 30 i5 5 Tryz.underlying22 hi5 (.slice none 0 0) 0 [] rfl (World.ownsRow_nil w _ _ _) rfl ?_)
    go_wp2
    go_ret
    exact ⟨none, 0, rfl, World.ownsRow_nil w _ _ _, Below.refl _ _⟩
  · have hcell : ∀ j u, (rowV A)[j]? = some u → w.cell? (ad.add j) = some u := by
      intro j u hj
      rcases hc with rfl | ⟨g, o, h, _, hx⟩
      · simp [rowV] at hj
      · injection h with h
        subst h
        rw [add_none]
        exact hx j u hj
    clear hc hnone
    go_enter Tryz.func73, Tryz.ntmps73
    go_wp2_with (at_builtin; refine wpList_append_own_at _ rfl (.const (.slice none 0 0)) (.tmp 3) 22 rfl w.heap.size 30 i5 _ 5 48 Tryz.underlying22 hi5 hi5a hi5b hi5c rfl (by decide) (.slice none 0 0) 0 [] rfl (World.ownsRow_nil w _ _ _) ad A.length cap (rowV A) rfl (rowV_len A) hcell rowV_one ?D ?E (Nat.le_refl _) ?G)
    case D => unfold maxLen; omega
    case E => omega
    case G =>
      intro v' w' hown hgrow _ hat
      obtain ⟨so', cap', rfl⟩ := row_shape hown
      have HO := Lib.hid hown
      have HG := Lib.hid hgrow
      clear hown hgrow hat hcell hi5 hi5a hi5b hi5c
      go_wp2
      go_ret
      exact ⟨so', cap', rfl, HO.out, grown_below HG.out⟩
set_option maxRecDepth 100000 in
set_option maxHeartbeats 2000000 in
theorem pReturn_c (w : World) (so : Option Addr) (n cap : Nat) (A : List V) (hA : Vals w (.slice so n cap) A) (hl : A.length ≤ 1000) : Calls Tryz.prog 29 #[.slice so n cap] w (RetPost w A) := by
  have HL := Lib.hid (fun W (hb : Below w.heap.size w W) => plist_c W _ A (Vals.below hA hb) hl)
  clear hA
  go_enter Tryz.func29, Tryz.ntmps29
  go_wp2_with fail
  refine (HL.out _ (below1 _ _)).mono ?_
  rintro e w1 ⟨so1, cap1, rfl, hrow, hb⟩
  have HR1 := Lib.hid hrow
  have Ha1 := Lib.hid (hkeep hb (heap1 w oAc))
  have HW1 := Lib.hid (below_next (below1 _ _) hb)
  clear hb hrow
  have hya : w.heap.size < w1.heap.size := (Array.getElem?_eq_some_iff.1 Ha1.out).1
  obtain ⟨a0, a1, a2, a3, a4, a5, a6, a7, a8, a9, a10, a11⟩ := cells12 Ha1.out
  obtain ⟨f0, f1, f2, f3, f4, f5, f6, f7, f8, f9, f10, f11⟩ := froz12 Ha1.out
  go_wp2
  refine bodyPost_ret (by simp [results, Tryz.results29, go_sem, hya, a0, a1, a2, a3, a4, a5, a6, a7, a8, a9, a10, a11]; first | done | rfl) rfl ?_
  refine ⟨so1, cap1, rfl, ownsRow_base (row_twelve HR1.out (fun h => ?_) _ _ _ _ _ _ _ _ _ _ _ _) (by simp), below_twelve HW1.out (Nat.le_refl _) _ _ _ _ _ _ _ _ _ _ _ _⟩
  have := (ownBlock_lt HR1.out h).1
  simp at this
  omega
set_option maxRecDepth 100000 in
set_option maxHeartbeats 2000000 in
theorem pArg_in (w : World) (so : Option Addr) (n cap : Nat) (A : List V) (hA : Vals w (.slice so n cap) A) (i : Nat) (v : V) (hv : A[i]? = some v) (hl : A.length ≤ 1000) : Calls Tryz.prog 24 #[.slice so n cap, .int .i64 i] w (ValPost w v) := by
  have hi : i < A.length := (List.getElem?_eq_some_iff.1 hv).1
  have hsh := hA
  obtain ⟨so', cap', e, hc, _, hx⟩ := hsh
  injection e with e1 e2 e3
  subst e2
  rcases hx with rfl | ⟨g, o, rfl, hg, _⟩
  · simp at hi
  · subst e1
    obtain ⟨hg, b0, b1, b2, b3, b4⟩ := Vals.at_ hA hv
    have b0' : (w.alloc (oV 0 0 0 ⟨#[]⟩ 0)).cell? ⟨g, o + i * 5, none⟩ = some (.int .i64 v.k) := (cell_alloc_old hg).trans b0
    have b1' : (w.alloc (oV 0 0 0 ⟨#[]⟩ 0)).cell? ⟨g, o + i * 5 + 1, none⟩ = some (.int .i64 v.p) := (cell_alloc_old hg).trans b1
    have b2' : (w.alloc (oV 0 0 0 ⟨#[]⟩ 0)).cell? ⟨g, o + i * 5 + 2, none⟩ = some (.int .i64 v.q) := (cell_alloc_old hg).trans b2
    have b3' : (w.alloc (oV 0 0 0 ⟨#[]⟩ 0)).cell? ⟨g, o + i * 5 + 3, none⟩ = some (.string v.s) := (cell_alloc_old hg).trans b3
    have b4' : (w.alloc (oV 0 0 0 ⟨#[]⟩ 0)).cell? ⟨g, o + i * 5 + 4, none⟩ = some (.int .i64 v.r) := (cell_alloc_old hg).trans b4
    have h0 : ((i : Int) < 0) = False := eq_false (by omega)
    have d0 : decide ((i : Int) < 0) = false := decide_eq_false (by omega)
    have d1 : decide ((i : Int) ≥ (A.length : Int)) = false := decide_eq_false (by omega)
    have d2 : decide ((A.length : Int) ≤ (i : Int)) = false := decide_eq_false (by omega)
    clear hA hv
    go_enter Tryz.func24, Tryz.ntmps24
    go_wp2
    refine bodyPost_ret (by simp [results, Tryz.results24, go_sem]; first | done | rfl) rfl ?_
    exact val_done rfl (below1 _ _)
theorem pArg_at (w : World) (so : Option Addr) (n cap : Nat) (A : List V) (hA : Vals w (.slice so n cap) A) (j : Int) (i : Nat) (hj : j = i) (v : V) (hv : A[i]? = some v) (hl : A.length ≤ 1000) : Calls Tryz.prog 24 #[.slice so n cap, .int .i64 j] w (ValPost w v) := by
  subst hj
  exact pArg_in w so n cap A hA i v hv hl
set_option maxRecDepth 100000 in
set_option maxHeartbeats 2000000 in
theorem cArg_c (w : World) (c : Nat) (nm : ByteArray) (so : Option Addr) (n cap : Nat) (A : List V) (HC : w.heap[c]? = some (oCl nm (.slice so n cap))) (hA : Vals w (.slice so n cap) A) (hl : A.length ≤ 1000) (k : Int) (i : Nat) (hk : k = (i : Int) + 1) (v : V) (hv : A[i]? = some v) :
    Calls Tryz.prog 41 #[.pointer (some ⟨c, 0, none⟩), .int .i64 k] w (ValPost w v) := by
  have hc : c < w.heap.size := (Array.getElem?_eq_some_iff.1 HC).1
  have hi : i < A.length := (List.getElem?_eq_some_iff.1 hv).1
  have c2 : (w.alloc (oV 0 0 0 ⟨#[]⟩ 0)).cell? ⟨c, 2, none⟩ = some (.slice so n cap) := by rw [cell_of_heap (heap1_old HC _)]; rfl
  have HP := Lib.hid (fun W (hb : Below w.heap.size w W) (j : Int) (hj : j = i) => pArg_at W so n cap A (Vals.below hA hb) j i hj v hv hl)
  have hkb : -1000 ≤ k ∧ k ≤ 1001 := by omega
  have HK := Lib.hid hk
  clear HC hA hv hk
  go_enter Tryz.func41, Tryz.ntmps41
  go_wp2_with fail
  refine (HP.out _ (below1 _ _) _ (by have := HK.out; omega)).mono ?_
  rintro e w1 ⟨rfl, hb⟩
  have Ha1 := Lib.hid (hkeep hb (heap1 w (oV 0 0 0 ⟨#[]⟩ 0)))
  have HW1 := Lib.hid (below_next (below1 _ _) hb)
  clear hb
  have hya : w.heap.size < w1.heap.size := (Array.getElem?_eq_some_iff.1 Ha1.out).1
  obtain ⟨a0, a1, a2, a3, a4⟩ := cells5 Ha1.out
  obtain ⟨f0, f1, f2, f3, f4⟩ := froz5 Ha1.out
  go_wp2
  refine bodyPost_ret (by simp [results, Tryz.results41, go_sem, hya, a0, a1, a2, a3, a4]; first | done | rfl) rfl ?_
  exact val_done rfl (below_five HW1.out (Nat.le_refl _) _ _ _ _ _)
set_option maxRecDepth 100000 in
set_option maxHeartbeats 2000000 in
theorem cAfter_c (w : World) (c : Nat) (nm : ByteArray) (g o n cap : Nat) (A : List V) (HC : w.heap[c]? = some (oCl nm (.slice (some ⟨g, o, none⟩) n cap))) (hA : Vals w (.slice (some ⟨g, o, none⟩) n cap) A) (hl : A.length ≤ 1000) (h1 : 1 ≤ A.length) :
    Calls Tryz.prog 86 #[.pointer (some ⟨c, 0, none⟩), .int .i64 1] w (SliceVals w (A.drop 1)) := by
  have hc : c < w.heap.size := (Array.getElem?_eq_some_iff.1 HC).1
  have hn : n = A.length := by obtain ⟨so, cp, e, _⟩ := hA; injection e
  subst hn
  have hcap : A.length ≤ cap := by obtain ⟨so, cp, e, h, _⟩ := hA; injection e with e1 e2 e3; omega
  have c2 : w.cell? ⟨c, 2, none⟩ = some (.slice (some ⟨g, o, none⟩) A.length cap) := by rw [cell_of_heap HC]; rfl
  have hmin : min (1 : Int) (A.length : Int) = 1 := by omega
  have hd := Lib.hid (Vals.drop hA 1 (by omega))
  have hlen := Lib.hid (show (A.drop 1).length = A.length - 1 from List.length_drop)
  clear HC hA
  by_cases hq : cap = 1
  · subst hq
    go_enter Tryz.func86, Tryz.ntmps86
    go_wp2
    go_quiet (fail)
    go_wp2
    go_ret
    have h0 : A.drop 1 = [] := List.eq_nil_of_length_eq_zero (by rw [hlen.out]; omega)
    rw [h0]
    exact ⟨g, o, 0, rfl, Vals.empty _ _ _, bdn (Below.refl _ _) _⟩
  · go_enter Tryz.func86, Tryz.ntmps86
    go_wp2
    go_quiet (fail)
    go_wp2
    go_ret
    refine ⟨g, o + 5, cap - 1, by rw [hlen.out]; rfl, ?_, bdn (Below.refl _ _) _⟩
    have hdd := hd.out
    rw [Nat.one_mul] at hdd
    rw [hlen.out]
    exact Vals.below hdd (bdn (Below.refl _ _) _)
set_option maxRecDepth 100000 in
set_option maxHeartbeats 2000000 in
theorem cInt_c (w : World) (c : Nat) (nm : ByteArray) (so : Option Addr) (n cap : Nat) (A : List V) (HC : w.heap[c]? = some (oCl nm (.slice so n cap))) (hA : Vals w (.slice so n cap) A) (hl : A.length ≤ 1000) (k : Int) (i : Nat) (hk : k = (i : Int) + 1) (p : Int) (s : ByteArray) (r : Int) (hv : A[i]? = some ⟨2, p, 1, s, r⟩) (h1 : -2147483647 ≤ p) (h2 : p ≤ 2147483647) :
    Calls Tryz.prog 43 #[.pointer (some ⟨c, 0, none⟩), .int .i64 k] w (IntPost w p) := by
  have HP := Lib.hid (cArg_c w c nm so n cap A HC hA hl k i hk _ hv)
  have HN : ∀ W, Calls Tryz.prog 84 #[.agg #[.int .i64 2, .int .i64 p, .int .i64 1, .string s, .int .i64 r]] W (fun e w' => e = .returned (.tuple #[.agg #[.int .i64 p, .int .i64 1], .int .i64 0]) ∧ Below W.heap.size W w') := fun W => by
    have := pNumber_two W p 1 s r
    rw [if_pos (validN_int h1 h2)] at this
    exact this
  have HNN := Lib.hid HN
  clear HC hA hv hk HN
  go_enter Tryz.func43, Tryz.ntmps43
  go_wp2_with fail
  refine HP.out.mono ?_
  rintro e w1 ⟨rfl, hb⟩
  have HW1 := Lib.hid hb
  clear hb
  go_wp2_with fail
  refine (HNN.out _).mono ?_
  rintro e w2 ⟨rfl, hb⟩
  have HW2 := Lib.hid (below_next HW1.out hb)
  clear hb
  go_wp2
  go_ret
  exact ⟨rfl, HW2.out.alloc HW2.out.size _⟩
set_option maxRecDepth 100000 in
set_option maxHeartbeats 2000000 in
theorem cGive_c (w : World) (c : Nat) (nm : ByteArray) (av : Value) (HC : w.heap[c]? = some (oCl nm av)) (so : Option Addr) (n cap : Nat) (A : List V) (hA : Vals w (.slice so n cap) A) (hl : A.length ≤ 1000) :
    Calls Tryz.prog 50 #[.pointer (some ⟨c, 0, none⟩), .slice so n cap] w (RetPost w A) := by
  have HR := Lib.hid (fun W (hb : Below w.heap.size w W) => pReturn_c W so n cap A (Vals.below hA hb) hl)
  have hc : c < w.heap.size := (Array.getElem?_eq_some_iff.1 HC).1
  have c3 : (w.alloc oAc).cell? ⟨c, 3, none⟩ = some (.bool false) := by rw [cell_of_heap (heap1_old HC _)]; rfl
  clear hA HC
  go_enter Tryz.func50, Tryz.ntmps50
  go_wp2_with fail
  refine (HR.out _ (below1 _ _)).mono ?_
  rintro e w1 ⟨so1, cap1, rfl, hrow, hb⟩
  have HR1 := Lib.hid hrow
  have Ha1 := Lib.hid (hkeep hb (heap1 w oAc))
  have HW1 := Lib.hid (below_next (below1 _ _) hb)
  clear hb hrow
  have hya : w.heap.size < w1.heap.size := (Array.getElem?_eq_some_iff.1 Ha1.out).1
  obtain ⟨a0, a1, a2, a3, a4, a5, a6, a7, a8, a9, a10, a11⟩ := cells12 Ha1.out
  obtain ⟨f0, f1, f2, f3, f4, f5, f6, f7, f8, f9, f10, f11⟩ := froz12 Ha1.out
  go_wp2
  refine bodyPost_ret (by simp [results, Tryz.results50, go_sem, hya, a0, a1, a2, a3, a4, a5, a6, a7, a8, a9, a10, a11]; first | done | rfl) rfl ?_
  refine ⟨so1, cap1, rfl, ownsRow_base (row_twelve HR1.out (fun h => ?_) _ _ _ _ _ _ _ _ _ _ _ _) (by simp), below_twelve HW1.out (Nat.le_refl _) _ _ _ _ _ _ _ _ _ _ _ _⟩
  have := (ownBlock_lt HR1.out h).1
  simp at this
  omega
set_option maxRecDepth 100000 in
set_option maxHeartbeats 2000000 in
theorem bstr_c (w : World) (s : ByteArray) : Calls Tryz.prog 63 #[.string s] w (ValPost w (strV s)) := by
  have HO : ∀ W, Calls Tryz.prog 40 #[.string s] W (fun e w' => e = .returned (.agg #[.int .i64 3, .int .i64 0, .int .i64 0, .string s, .int .i64 0]) ∧ Below W.heap.size W w') := fun W => pOfString_c W s
  have HOO := Lib.hid HO
  clear HO
  go_enter Tryz.func63, Tryz.ntmps63
  go_wp2_with fail
  refine (HOO.out _).mono ?_
  rintro e w1 ⟨rfl, hb⟩
  have Ha1 := Lib.hid (hkeep hb (heap1 w (oV 0 0 0 ⟨#[]⟩ 0)))
  have HW1 := Lib.hid (below_next (below1 _ _) hb)
  clear hb
  have hya : w.heap.size < w1.heap.size := (Array.getElem?_eq_some_iff.1 Ha1.out).1
  obtain ⟨a0, a1, a2, a3, a4⟩ := cells5 Ha1.out
  obtain ⟨f0, f1, f2, f3, f4⟩ := froz5 Ha1.out
  go_wp2
  refine bodyPost_ret (by simp [results, Tryz.results63, go_sem, hya, a0, a1, a2, a3, a4]; first | done | rfl) rfl ?_
  exact val_done rfl (below_five HW1.out (Nat.le_refl _) _ _ _ _ _)
theorem pOfInt_top (w : World) (n : Int) (h1 : -2147483647 ≤ n) (h2 : n ≤ 2147483647) : Calls Tryz.prog 53 #[.int .i64 n] w (fun e w' => e = .returned (.agg #[.int .i64 2, .int .i64 n, .int .i64 1, .string ⟨#[]⟩, .int .i64 0]) ∧ Below w.heap.size w w') := by
  have := pOfInt_c w n
  unfold intV at this
  rw [if_pos (inTop_iff.2 ⟨h1, h2⟩)] at this
  exact this
theorem eqs_run (W : World) (s : ByteArray) : (binOp .eql 30 (.agg #[.int .i64 3, .int .i64 0, .int .i64 0, .string s, .int .i64 0]) (.agg #[.int .i64 3, .int .i64 0, .int .i64 0, .string s, .int .i64 0])).run Tryz.prog W = .ok (.bool true) W := by
  have := eq_run W 3 0 0 s 0 3 0 0 s 0
  rw [this]
  simp [eqV]
set_option maxRecDepth 100000 in
set_option maxHeartbeats 2000000 in
theorem choose_hash (w : World) (c : Nat) (nm : ByteArray) (g o n cap : Nat) (B : List V) (HC : w.heap[c]? = some (oCl nm (.slice (some ⟨g, o, none⟩) n cap))) (hA : Vals w (.slice (some ⟨g, o, none⟩) n cap) (strV ⟨#[35]⟩ :: B)) (hl : B.length ≤ 300) :
    Calls Tryz.prog 71 #[.pointer (some ⟨c, 0, none⟩)] w (RetPost w [⟨2, (B.length : Nat), 1, ⟨#[]⟩, 0⟩]) := by
  have hl1 : (strV ⟨#[35]⟩ :: B).length ≤ 1000 := by rw [List.length_cons]; omega
  have HAF := Lib.hid (fun W (hb : Below w.heap.size w W) => show Calls Tryz.prog 86 #[.pointer (some ⟨c, 0, none⟩), .int .i64 1] W (SliceVals W B) from cAfter_c W c nm g o n cap _ (hkeep hb HC) (Vals.below hA hb) hl1 (by rw [List.length_cons]; omega))
  have HAR := Lib.hid (fun W (hb : Below w.heap.size w W) => show Calls Tryz.prog 41 #[.pointer (some ⟨c, 0, none⟩), .int .i64 1] W (fun e w' => e = .returned (.agg #[.int .i64 3, .int .i64 0, .int .i64 0, .string ⟨#[35]⟩, .int .i64 0]) ∧ Below W.heap.size W w') from cArg_c W c nm _ n cap _ (hkeep hb HC) (Vals.below hA hb) hl1 1 0 rfl (strV ⟨#[35]⟩) rfl)
  have HST := Lib.hid (fun W => show Calls Tryz.prog 63 #[.string ⟨#[35]⟩] W (fun e w' => e = .returned (.agg #[.int .i64 3, .int .i64 0, .int .i64 0, .string ⟨#[35]⟩, .int .i64 0]) ∧ Below W.heap.size W w') from bstr_c W ⟨#[35]⟩)
  have HOI := Lib.hid (fun W => pOfInt_top W (B.length : Nat) (by omega) (by omega))
  have HGI := Lib.hid (fun W (hb : Below w.heap.size w W) so n' cap' (A' : List V) (hA' : Vals W (.slice so n' cap') A') (hl' : A'.length ≤ 1000) => cGive_c W c nm _ (hkeep hb HC) so n' cap' A' hA' hl')
  have hc : c < w.heap.size := (Array.getElem?_eq_some_iff.1 HC).1
  have EQ := fun W => eqs_run W ⟨#[35]⟩
  clear HC hA hl1
  go_enter Tryz.func71, Tryz.ntmps71
  go_wp2_with fail
  refine (HAF.out _ (below1 _ _)).mono ?_
  rintro e w1 ⟨g1, o1, cap1, rfl, -, hb⟩
  have Ha1 := Lib.hid (hkeep hb (heap1 w oAc))
  have HW1 := Lib.hid (below_next (below1 _ _) hb)
  clear hb
  go_wp2_with fail
  refine (HAR.out _ HW1.out).mono ?_
  rintro e w2 ⟨rfl, hb⟩
  have Ha2 := Lib.hid (hkeep hb Ha1.out)
  have HW2 := Lib.hid (below_next HW1.out hb)
  clear hb
  go_wp2_with fail
  refine (HST.out _).mono ?_
  rintro e w3 ⟨rfl, hb⟩
  have Ha3 := Lib.hid (hkeep hb Ha2.out)
  have HW3 := Lib.hid (below_next HW2.out hb)
  clear hb
  go_wp2_with fail
  refine (HOI.out _).mono ?_
  rintro e w4 ⟨rfl, hb⟩
  have Ha4 := Lib.hid (hkeep hb Ha3.out)
  have HW4 := Lib.hid (below_next HW3.out hb)
  clear hb
  go_wp2_with fail
  refine (HGI.out _ (HW4.out.alloc HW4.out.size _) _ _ _ [⟨2, (B.length : Nat), 1, ⟨#[]⟩, 0⟩] (vals_one w4 ⟨2, (B.length : Nat), 1, ⟨#[]⟩, 0⟩) (by simp)).mono ?_
  rintro e w5 ⟨so5, cap5, rfl, hrow, hb⟩
  have HR5 := Lib.hid hrow
  have Ha5 := Lib.hid (hkeep hb (heap1_old Ha4.out _))
  have HW5 := Lib.hid (below_next (HW4.out.alloc HW4.out.size _) hb)
  clear hb hrow
  have hz4 := HW4.out.size
  have hya : w.heap.size < w5.heap.size := (Array.getElem?_eq_some_iff.1 Ha5.out).1
  obtain ⟨a0, a1, a2, a3, a4, a5, a6, a7, a8, a9, a10, a11⟩ := cells12 Ha5.out
  obtain ⟨f0, f1, f2, f3, f4, f5, f6, f7, f8, f9, f10, f11⟩ := froz12 Ha5.out
  go_wp2
  refine bodyPost_ret (by simp [results, Tryz.results71, go_sem, hya, a0, a1, a2, a3, a4, a5, a6, a7, a8, a9, a10, a11]; first | done | rfl) rfl ?_
  refine ⟨so5, cap5, rfl, ownsRow_base (row_twelve HR5.out (fun h => ?_) _ _ _ _ _ _ _ _ _ _ _ _) (by simp; omega), below_twelve HW5.out (Nat.le_refl _) _ _ _ _ _ _ _ _ _ _ _ _⟩
  have := (ownBlock_lt HR5.out h).1
  simp at this
  omega
theorem eqn_run (W : World) (p : Int) (s : ByteArray) : (binOp .eql 30 (.agg #[.int .i64 2, .int .i64 p, .int .i64 1, .string ⟨#[]⟩, .int .i64 0]) (.agg #[.int .i64 3, .int .i64 0, .int .i64 0, .string s, .int .i64 0])).run Tryz.prog W = .ok (.bool false) W := by
  have := eq_run W 2 p 1 ⟨#[]⟩ 0 3 0 0 s 0
  rw [this]
  simp [eqV]
set_option maxRecDepth 100000 in
set_option maxHeartbeats 2000000 in
theorem choose_pos (w : World) (c : Nat) (nm : ByteArray) (g o n cap : Nat) (p : Int) (B : List V) (HC : w.heap[c]? = some (oCl nm (.slice (some ⟨g, o, none⟩) n cap))) (hA : Vals w (.slice (some ⟨g, o, none⟩) n cap) (⟨2, p, 1, ⟨#[]⟩, 0⟩ :: B)) (hl : B.length ≤ 300) (h1 : -2147483647 ≤ p) (h2 : p ≤ 2147483647) (hp : 0 < p) (lo : Nat) (hlo : min (p - 1) (B.length : Int) = lo) :
    Calls Tryz.prog 71 #[.pointer (some ⟨c, 0, none⟩)] w (RetPost w (B.drop lo)) := by
  have hl1 : ((⟨2, p, 1, ⟨#[]⟩, 0⟩ : V) :: B).length ≤ 1000 := by rw [List.length_cons]; omega
  have HAF := Lib.hid (fun W (hb : Below w.heap.size w W) => show Calls Tryz.prog 86 #[.pointer (some ⟨c, 0, none⟩), .int .i64 1] W (SliceVals W B) from cAfter_c W c nm g o n cap _ (hkeep hb HC) (Vals.below hA hb) hl1 (by rw [List.length_cons]; omega))
  have HAR := Lib.hid (fun W (hb : Below w.heap.size w W) => show Calls Tryz.prog 41 #[.pointer (some ⟨c, 0, none⟩), .int .i64 1] W (fun e w' => e = .returned (.agg #[.int .i64 2, .int .i64 p, .int .i64 1, .string ⟨#[]⟩, .int .i64 0]) ∧ Below W.heap.size W w') from cArg_c W c nm _ n cap _ (hkeep hb HC) (Vals.below hA hb) hl1 1 0 rfl ⟨2, p, 1, ⟨#[]⟩, 0⟩ rfl)
  have HST := Lib.hid (fun W => show Calls Tryz.prog 63 #[.string ⟨#[35]⟩] W (fun e w' => e = .returned (.agg #[.int .i64 3, .int .i64 0, .int .i64 0, .string ⟨#[35]⟩, .int .i64 0]) ∧ Below W.heap.size W w') from bstr_c W ⟨#[35]⟩)
  have HIN := Lib.hid (fun W (hb : Below w.heap.size w W) => cInt_c W c nm _ n cap _ (hkeep hb HC) (Vals.below hA hb) hl1 1 0 rfl p ⟨#[]⟩ 0 rfl h1 h2)
  have HGI := Lib.hid (fun W (hb : Below w.heap.size w W) so n' cap' (A' : List V) (hA' : Vals W (.slice so n' cap') A') (hl' : A'.length ≤ 1000) => cGive_c W c nm _ (hkeep hb HC) so n' cap' A' hA' hl')
  have hc : c < w.heap.size := (Array.getElem?_eq_some_iff.1 HC).1
  have HCC := Lib.hid HC
  have EQ := fun W => eqn_run W p ⟨#[35]⟩
  have hle : lo ≤ B.length := by omega
  have e0 : (p == 0) = false := beq_eq_false_iff_ne.2 (by omega)
  have e1 : ¬ p < 0 := by omega
  have e2 : decide (p < 0) = false := decide_eq_false e1
  clear HC hA hl1
  go_enter Tryz.func71, Tryz.ntmps71
  go_wp2_with fail
  refine (HAF.out _ (below1 _ _)).mono ?_
  rintro e w1 ⟨g1, o1, cap1, rfl, hv, hb⟩
  have hcap1 : B.length ≤ cap1 := by obtain ⟨so, cp, e, h, _⟩ := hv; injection e with e1 e2 e3; omega
  have HV1 := Lib.hid hv
  have Ha1 := Lib.hid (hkeep hb (heap1 w oAc))
  have HW1 := Lib.hid (below_next (below1 _ _) hb)
  clear hb hv
  go_wp2_with fail
  refine (HAR.out _ HW1.out).mono ?_
  rintro e w2 ⟨rfl, hb⟩
  have HV2 := Lib.hid (Vals.below HV1.out hb)
  have Ha2 := Lib.hid (hkeep hb Ha1.out)
  have HW2 := Lib.hid (below_next HW1.out hb)
  clear hb
  go_wp2_with fail
  refine (HST.out _).mono ?_
  rintro e w3 ⟨rfl, hb⟩
  have HV3 := Lib.hid (Vals.below HV2.out hb)
  have Ha3 := Lib.hid (hkeep hb Ha2.out)
  have HW3 := Lib.hid (below_next HW2.out hb)
  clear hb
  go_wp2_with fail
  refine (HIN.out _ HW3.out).mono ?_
  rintro e w4 ⟨rfl, hb⟩
  have HV4 := Lib.hid (Vals.below HV3.out hb)
  have Ha4 := Lib.hid (hkeep hb Ha3.out)
  have HW4 := Lib.hid (below_next HW3.out hb)
  clear hb
  have c3 : w4.cell? ⟨c, 3, none⟩ = some (.bool false) := by rw [cell_of_heap (hkeep HW4.out HCC.out)]; rfl
  have hz4 := HW4.out.size
  have hdl := Lib.hid (show (B.drop lo).length = B.length - lo from List.length_drop)
  by_cases hq : cap1 = lo
  · have hB : B.drop lo = [] := List.eq_nil_of_length_eq_zero (by rw [hdl.out]; omega)
    have HBB := Lib.hid hB
    have hlen : B.length = lo := by omega
    have hlo2 : min (p - 1) (lo : Int) = lo := by omega
    clear hB
    go_wp2_with fail
    refine (HGI.out _ HW4.out _ _ _ [] (Vals.empty _ _ _) (by simp)).mono ?_
    rintro e w5 ⟨so5, cap5, rfl, hrow, hb⟩
    have HR5 := Lib.hid hrow
    have Ha5 := Lib.hid (hkeep hb Ha4.out)
    have HW5 := Lib.hid (below_next HW4.out hb)
    clear hb hrow
    have hya : w.heap.size < w5.heap.size := (Array.getElem?_eq_some_iff.1 Ha5.out).1
    obtain ⟨a0, a1, a2, a3, a4, a5, a6, a7, a8, a9, a10, a11⟩ := cells12 Ha5.out
    obtain ⟨f0, f1, f2, f3, f4, f5, f6, f7, f8, f9, f10, f11⟩ := froz12 Ha5.out
    go_wp2
    refine bodyPost_ret (by simp [results, Tryz.results71, go_sem, hya, a0, a1, a2, a3, a4, a5, a6, a7, a8, a9, a10, a11]; first | done | rfl) rfl ?_
    rw [HBB.out]
    refine ⟨so5, cap5, rfl, ownsRow_base (row_twelve HR5.out (fun h => ?_) _ _ _ _ _ _ _ _ _ _ _ _) (by omega), below_twelve HW5.out (Nat.le_refl _) _ _ _ _ _ _ _ _ _ _ _ _⟩
    have := (ownBlock_lt HR5.out h).1
    have hlt := (Array.getElem?_eq_some_iff.1 Ha4.out).1
    omega
  · have HD := Lib.hid (Vals.drop HV4.out lo hle)
    go_wp2_with fail
    refine (HGI.out _ HW4.out _ _ _ (B.drop lo) HD.out (by rw [hdl.out]; omega)).mono ?_
    rintro e w5 ⟨so5, cap5, rfl, hrow, hb⟩
    have HR5 := Lib.hid hrow
    have Ha5 := Lib.hid (hkeep hb Ha4.out)
    have HW5 := Lib.hid (below_next HW4.out hb)
    clear hb hrow
    have hya : w.heap.size < w5.heap.size := (Array.getElem?_eq_some_iff.1 Ha5.out).1
    obtain ⟨a0, a1, a2, a3, a4, a5, a6, a7, a8, a9, a10, a11⟩ := cells12 Ha5.out
    obtain ⟨f0, f1, f2, f3, f4, f5, f6, f7, f8, f9, f10, f11⟩ := froz12 Ha5.out
    go_wp2
    refine bodyPost_ret (by simp [results, Tryz.results71, go_sem, hya, a0, a1, a2, a3, a4, a5, a6, a7, a8, a9, a10, a11]; first | done | rfl) rfl ?_
    refine ⟨so5, cap5, by rw [hdl.out], ownsRow_base (row_twelve HR5.out (fun h => ?_) _ _ _ _ _ _ _ _ _ _ _ _) (by omega), below_twelve HW5.out (Nat.le_refl _) _ _ _ _ _ _ _ _ _ _ _ _⟩
    have := (ownBlock_lt HR5.out h).1
    have hlt := (Array.getElem?_eq_some_iff.1 Ha4.out).1
    omega
set_option maxRecDepth 100000 in
set_option maxHeartbeats 2000000 in
theorem choose_neg (w : World) (c : Nat) (nm : ByteArray) (g o n cap : Nat) (p : Int) (B : List V) (HC : w.heap[c]? = some (oCl nm (.slice (some ⟨g, o, none⟩) n cap))) (hA : Vals w (.slice (some ⟨g, o, none⟩) n cap) (⟨2, p, 1, ⟨#[]⟩, 0⟩ :: B)) (hl : B.length ≤ 300) (h1 : -2147483647 ≤ p) (h2 : p ≤ 2147483647) (hp : p < 0) (lo : Nat) (hlo : (B.length : Int) + p = lo) :
    Calls Tryz.prog 71 #[.pointer (some ⟨c, 0, none⟩)] w (RetPost w (B.drop lo)) := by
  have hl1 : ((⟨2, p, 1, ⟨#[]⟩, 0⟩ : V) :: B).length ≤ 1000 := by rw [List.length_cons]; omega
  have HAF := Lib.hid (fun W (hb : Below w.heap.size w W) => show Calls Tryz.prog 86 #[.pointer (some ⟨c, 0, none⟩), .int .i64 1] W (SliceVals W B) from cAfter_c W c nm g o n cap _ (hkeep hb HC) (Vals.below hA hb) hl1 (by rw [List.length_cons]; omega))
  have HAR := Lib.hid (fun W (hb : Below w.heap.size w W) => show Calls Tryz.prog 41 #[.pointer (some ⟨c, 0, none⟩), .int .i64 1] W (fun e w' => e = .returned (.agg #[.int .i64 2, .int .i64 p, .int .i64 1, .string ⟨#[]⟩, .int .i64 0]) ∧ Below W.heap.size W w') from cArg_c W c nm _ n cap _ (hkeep hb HC) (Vals.below hA hb) hl1 1 0 rfl ⟨2, p, 1, ⟨#[]⟩, 0⟩ rfl)
  have HST := Lib.hid (fun W => show Calls Tryz.prog 63 #[.string ⟨#[35]⟩] W (fun e w' => e = .returned (.agg #[.int .i64 3, .int .i64 0, .int .i64 0, .string ⟨#[35]⟩, .int .i64 0]) ∧ Below W.heap.size W w') from bstr_c W ⟨#[35]⟩)
  have HIN := Lib.hid (fun W (hb : Below w.heap.size w W) => cInt_c W c nm _ n cap _ (hkeep hb HC) (Vals.below hA hb) hl1 1 0 rfl p ⟨#[]⟩ 0 rfl h1 h2)
  have HGI := Lib.hid (fun W (hb : Below w.heap.size w W) so n' cap' (A' : List V) (hA' : Vals W (.slice so n' cap') A') (hl' : A'.length ≤ 1000) => cGive_c W c nm _ (hkeep hb HC) so n' cap' A' hA' hl')
  have hc : c < w.heap.size := (Array.getElem?_eq_some_iff.1 HC).1
  have HCC := Lib.hid HC
  have EQ := fun W => eqn_run W p ⟨#[35]⟩
  have hle : lo ≤ B.length := by omega
  have e0 : (p == 0) = false := beq_eq_false_iff_ne.2 (by omega)
  have e1 : p < 0 := by omega
  have e2 : decide (p < 0) = true := decide_eq_true e1
  have e3 : ¬ (B.length : Int) < -p := by omega
  have e4 : decide (-p > (B.length : Int)) = false := decide_eq_false (by omega)
  have e5 : decide ((B.length : Int) < -p) = false := decide_eq_false (by omega)
  clear HC hA hl1
  go_enter Tryz.func71, Tryz.ntmps71
  go_wp2_with fail
  refine (HAF.out _ (below1 _ _)).mono ?_
  rintro e w1 ⟨g1, o1, cap1, rfl, hv, hb⟩
  have hcap1 : B.length ≤ cap1 := by obtain ⟨so, cp, e, h, _⟩ := hv; injection e with e1 e2 e3; omega
  have HV1 := Lib.hid hv
  have Ha1 := Lib.hid (hkeep hb (heap1 w oAc))
  have HW1 := Lib.hid (below_next (below1 _ _) hb)
  clear hb hv
  go_wp2_with fail
  refine (HAR.out _ HW1.out).mono ?_
  rintro e w2 ⟨rfl, hb⟩
  have HV2 := Lib.hid (Vals.below HV1.out hb)
  have Ha2 := Lib.hid (hkeep hb Ha1.out)
  have HW2 := Lib.hid (below_next HW1.out hb)
  clear hb
  go_wp2_with fail
  refine (HST.out _).mono ?_
  rintro e w3 ⟨rfl, hb⟩
  have HV3 := Lib.hid (Vals.below HV2.out hb)
  have Ha3 := Lib.hid (hkeep hb Ha2.out)
  have HW3 := Lib.hid (below_next HW2.out hb)
  clear hb
  go_wp2_with fail
  refine (HIN.out _ HW3.out).mono ?_
  rintro e w4 ⟨rfl, hb⟩
  have HV4 := Lib.hid (Vals.below HV3.out hb)
  have Ha4 := Lib.hid (hkeep hb Ha3.out)
  have HW4 := Lib.hid (below_next HW3.out hb)
  clear hb
  have c3 : w4.cell? ⟨c, 3, none⟩ = some (.bool false) := by rw [cell_of_heap (hkeep HW4.out HCC.out)]; rfl
  have hz4 := HW4.out.size
  have hdl := Lib.hid (show (B.drop lo).length = B.length - lo from List.length_drop)
  by_cases hq : cap1 = lo
  · exfalso; omega
  · have HD := Lib.hid (Vals.drop HV4.out lo hle)
    go_wp2_with fail
    refine (HGI.out _ HW4.out _ _ _ (B.drop lo) HD.out (by rw [hdl.out]; omega)).mono ?_
    rintro e w5 ⟨so5, cap5, rfl, hrow, hb⟩
    have HR5 := Lib.hid hrow
    have Ha5 := Lib.hid (hkeep hb Ha4.out)
    have HW5 := Lib.hid (below_next HW4.out hb)
    clear hb hrow
    have hya : w.heap.size < w5.heap.size := (Array.getElem?_eq_some_iff.1 Ha5.out).1
    obtain ⟨a0, a1, a2, a3, a4, a5, a6, a7, a8, a9, a10, a11⟩ := cells12 Ha5.out
    obtain ⟨f0, f1, f2, f3, f4, f5, f6, f7, f8, f9, f10, f11⟩ := froz12 Ha5.out
    go_wp2
    refine bodyPost_ret (by simp [results, Tryz.results71, go_sem, hya, a0, a1, a2, a3, a4, a5, a6, a7, a8, a9, a10, a11]; first | done | rfl) rfl ?_
    refine ⟨so5, cap5, by rw [hdl.out], ownsRow_base (row_twelve HR5.out (fun h => ?_) _ _ _ _ _ _ _ _ _ _ _ _) (by omega), below_twelve HW5.out (Nat.le_refl _) _ _ _ _ _ _ _ _ _ _ _ _⟩
    have := (ownBlock_lt HR5.out h).1
    have hlt := (Array.getElem?_eq_some_iff.1 Ha4.out).1
    omega
set_option maxRecDepth 100000 in
set_option maxHeartbeats 2000000 in
theorem pFail_c (w : World) (k p q : Int) (s : ByteArray) (r level : Int) : Calls Tryz.prog 39 #[.agg #[.int .i64 k, .int .i64 p, .int .i64 q, .string s, .int .i64 r], .int .i64 level] w (FailPost w ⟨k, p, q, s, r⟩ level) := by
  have HL := Lib.hid (fun (W : World) (m : Nat) (hm : m = W.heap.size) => plist_c (W.alloc (.cells #[.int .i64 k, .int .i64 p, .int .i64 q, .string s, .int .i64 r] 30)) (.slice (some ⟨m, 0, none⟩) 1 1) [⟨k, p, q, s, r⟩] (by subst hm; exact vals_one W ⟨k, p, q, s, r⟩) (by simp))
  go_enter Tryz.func39, Tryz.ntmps39
  go_wp2_with fail
  refine (HL.out _ _ (by simp)).mono ?_
  rintro e w1 ⟨so1, cap1, rfl, hrow, hb⟩
  have HR1 := Lib.hid hrow
  have Ha1 := Lib.hid (hkeep hb (heap1_old (heap2_b w (oV k p q s r) oAc) _))
  have HW1 := Lib.hid (below_next ((below2w _ _ _).alloc (by simp; omega) _) hb)
  clear hb hrow
  have hya : w.heap.size + 1 < w1.heap.size := (Array.getElem?_eq_some_iff.1 Ha1.out).1
  obtain ⟨a0, a1, a2, a3, a4, a5, a6, a7, a8, a9, a10, a11⟩ := cells12 Ha1.out
  obtain ⟨f0, f1, f2, f3, f4, f5, f6, f7, f8, f9, f10, f11⟩ := froz12 Ha1.out
  go_wp2
  refine bodyPost_ret (by simp [results, Tryz.results39, go_sem, hya, a0, a1, a2, a3, a4, a5, a6, a7, a8, a9, a10, a11]; first | done | rfl) rfl ?_
  refine ⟨so1, cap1, rfl, ownsRow_base (row_twelve HR1.out (fun h => ?_) _ _ _ _ _ _ _ _ _ _ _ _) (by simp; omega), below_twelve HW1.out (by omega) _ _ _ _ _ _ _ _ _ _ _ _⟩
  have := (ownBlock_lt HR1.out h).1
  simp at this
  omega
set_option maxRecDepth 100000 in
set_option maxHeartbeats 2000000 in
theorem pError_c (w : World) (s : ByteArray) (hs : s.size ≤ 4096) : Calls Tryz.prog 20 #[.string s] w (FailPost w (strV s) 1) := by
  have HO := Lib.hid (fun W => show Calls Tryz.prog 40 #[.string s] W (fun e w' => e = .returned (.agg #[.int .i64 3, .int .i64 0, .int .i64 0, .string s, .int .i64 0]) ∧ Below W.heap.size W w') from pOfString_c W s)
  have hmin : min (s.size : Int) 4096 = s.size := by omega
  have hex : s.extract 0 s.size = s := by
    apply bytesOf_inj
    rw [bytesOf_extract]
    show (((bytesOf s).drop 0).take (s.size - 0)) = _
    rw [List.drop_zero, Nat.sub_zero, ← bytesOf_length, List.take_length]
  have hs2 : (s.size : Int) ≤ 4096 := by omega
  go_enter Tryz.func20, Tryz.ntmps20
  go_wp2_with fail
  refine (HO.out _).mono ?_
  rintro e w1 ⟨rfl, hb⟩
  have Ha1 := Lib.hid (hkeep hb (heap1 w oAc))
  have HW1 := Lib.hid (below_next (below1 _ _) hb)
  clear hb
  go_wp2_with fail
  refine (pFail_c _ 3 0 0 s 0 1).mono ?_
  rintro e w2 ⟨so2, cap2, rfl, hrow, hb⟩
  have HR2 := Lib.hid hrow
  have Ha2 := Lib.hid (hkeep hb Ha1.out)
  have HW2 := Lib.hid (below_next HW1.out hb)
  have hz1 := HW1.out.size
  have hlt1 := (Array.getElem?_eq_some_iff.1 Ha1.out).1
  clear hb hrow
  have hya : w.heap.size < w2.heap.size := (Array.getElem?_eq_some_iff.1 Ha2.out).1
  obtain ⟨a0, a1, a2, a3, a4, a5, a6, a7, a8, a9, a10, a11⟩ := cells12 Ha2.out
  obtain ⟨f0, f1, f2, f3, f4, f5, f6, f7, f8, f9, f10, f11⟩ := froz12 Ha2.out
  go_wp2
  refine bodyPost_ret (by simp [results, Tryz.results20, go_sem, hya, a0, a1, a2, a3, a4, a5, a6, a7, a8, a9, a10, a11]; first | done | rfl) rfl ?_
  refine ⟨so2, cap2, rfl, ownsRow_base (row_twelve HR2.out (fun h => ?_) _ _ _ _ _ _ _ _ _ _ _ _) (by omega), below_twelve HW2.out (Nat.le_refl _) _ _ _ _ _ _ _ _ _ _ _ _⟩
  have := (ownBlock_lt HR2.out h).1
  omega
set_option maxRecDepth 100000 in
set_option maxHeartbeats 2000000 in
theorem bnames_c (w : World) (hw : Spaces w) : Calls Tryz.prog 38 #[] w (NamesPost w) := by
  have HF : ∀ s : ByteArray, s.data.toList = nbL → s.size = 300 ∨ s.size < 4294967281 → Calls Tryz.prog 82 #[.string s] w (NamesPost w) := fun s hs hz => by
    refine (Tryz.strings_Fields_laid s w ?_ ?_ hw).mono ?_
    · have : s.size = s.data.toList.length := rfl
      rw [this, hs]
      decide
    · intro j b hb
      rw [hs] at hb
      have hall : ∀ b ∈ nbL, b.toNat < 128 := by decide
      exact hall b (List.mem_of_getElem? hb)
    · rintro e w' ⟨rfl, rfl⟩
      rw [hs, nb_len]
      refine ⟨rfl, ?_⟩
      unfold namesL
      rw [List.map_map]
      rfl
  have HFF := Lib.hid HF
  clear HF hw
  go_enter Tryz.func38, Tryz.ntmps38
  go_wp2_with fail
  refine (HFF.out _ (by rfl) (.inr (by decide))).mono ?_
  rintro e w1 ⟨rfl, rfl⟩
  go_wp2
  go_ret
  exact ⟨rfl, rfl⟩
set_option maxRecDepth 100000 in
set_option maxHeartbeats 2000000 in
theorem bnumber_c (w : World) (x : ByteArray) (hw : Spaces w) : Calls Tryz.prog 19 #[.string x] w (IntPost w (Lib.idxOfS namesL x)) := by
  have HN := Lib.hid (bnames_c w hw)
  have HI : Calls Tryz.prog 37 #[.slice (some ⟨w.heap.size, 0, none⟩) 29 29, .string x] (w.alloc (.cells (namesL.map Value.string).toArray 9)) (fun e w' => e = .returned (.int .i64 (Lib.idxOfS namesL x)) ∧ w' = w.alloc (.cells (namesL.map Value.string).toArray 9)) := by
    have := Tryz.slices_Index_string w.heap.size 0 29 29 namesL x (w.alloc (.cells (namesL.map Value.string).toArray 9)) (by rw [names_len]; exact Nat.le_refl _) (by decide) (fun j hj => by
      rw [cell_of_heap (heap_new w _), Nat.zero_add]
      show (namesL.map Value.string).toArray[j]? = _
      rw [List.getElem?_toArray, List.getElem?_map, List.getD_eq_getElem?_getD, List.getElem?_eq_getElem hj]
      rfl)
    rw [show namesL.take 29 = namesL from List.take_of_length_le (by rw [names_len]; exact Nat.le_refl _)] at this
    exact this
  have HII := Lib.hid HI
  clear HI hw
  go_enter Tryz.func19, Tryz.ntmps19
  go_wp2_with fail
  refine HN.out.mono ?_
  rintro e w1 ⟨rfl, rfl⟩
  go_wp2_with fail
  refine HII.out.mono ?_
  rintro e w2 ⟨rfl, rfl⟩
  go_wp2
  go_ret
  exact ⟨rfl, below1 _ _⟩
set_option maxRecDepth 100000 in
set_option maxHeartbeats 2000000 in
theorem pcalled_c (w : World) (kind next : Int) (k p q : Int) (s : ByteArray) (r : Int) (so : Option Addr) (n cap : Nat) (A : List V) (hA : Vals w (.slice so n cap) A) (hl : A.length ≤ 1000) (sk : Option Addr) (m ck : Nat) (K : List V) (hK : Vals w (.slice sk m ck) K) (hm : K.length ≤ 1000) :
    Calls Tryz.prog 72 #[.int .i64 kind, .agg #[.int .i64 k, .int .i64 p, .int .i64 q, .string s, .int .i64 r], .slice so n cap, .int .i64 next, .slice sk m ck] w (ActPost NoF w kind 0 ⟨k, p, q, s, r⟩ A ⟨#[]⟩ 0 next K) := by
  have HA := Lib.hid (fun W (hb : Below w.heap.size w W) => plist_c W _ A (Vals.below hA hb) hl)
  have HK := Lib.hid (fun W (hb : Below w.heap.size w W) => plist_c W _ K (Vals.below hK hb) hm)
  clear hA hK
  go_enter Tryz.func72, Tryz.ntmps72
  go_wp2
  obtain ⟨B, hB⟩ : ∃ B, B = (w.alloc (oV k p q s r)).alloc oAc := ⟨_, rfl⟩
  rw [← hB]
  have HW0 := Lib.hid (show Below w.heap.size w B by rw [hB]; exact below2w _ _ _)
  have Hf0 := Lib.hid (show B.heap[w.heap.size]? = some (oV k p q s r) by rw [hB]; exact heap2_a _ _ _)
  have Ha0 := Lib.hid (show B.heap[w.heap.size + 1]? = some oAc by rw [hB]; exact heap2_b _ _ _)
  clear hB
  have SO := Lib.hid (fun (W : World) (hb : Mods (fun k => k = w.heap.size + 1) B W) => (show W.cell? ⟨w.heap.size, 0, none⟩ = some (.int .i64 k) ∧ W.cell? ⟨w.heap.size, 1, none⟩ = some (.int .i64 p) ∧ W.cell? ⟨w.heap.size, 2, none⟩ = some (.int .i64 q) ∧ W.cell? ⟨w.heap.size, 3, none⟩ = some (.string s) ∧ W.cell? ⟨w.heap.size, 4, none⟩ = some (.int .i64 r) ∧ Hid (Mods (fun k => k = w.heap.size + 1) B W) from at5m (mkeep hb Hf0.out (by omega)) hb))
  have SO12 := Lib.hid (fun (W : World) (c0 c1 c2 c3 c4 c5 c6 c7 c8 c9 c10 c11 : Value) (hb : Mods (fun k => k = w.heap.size + 1) B W) => SO.out _ (mods_twelve hb (.inl rfl) 0 1 2 3 4 5 6 7 8 9 10 11 c0 c1 c2 c3 c4 c5 c6 c7 c8 c9 c10 c11))
  have TO := Lib.hid (fun (W : World) (hb : Mods (fun k => k = w.heap.size + 1) B W) => (show Below w.heap.size w W from Mods.below (Mods.trans (Mods.of_below HW0.out) hb) (Nat.le_refl _) (fun k hk h => by omega)))
  have hbR : Mods (fun k => k = w.heap.size + 1) B B := Mods.refl _ _
  have hbD : Mods (fun k => k = w.heap.size + 1) B B.drew := Mods.of_below (Below.refl _ _).drew
  go_region_held3 (fun w' => w'.cell? ⟨w.heap.size, 0, none⟩ = some (.int .i64 k) ∧ w'.cell? ⟨w.heap.size, 1, none⟩ = some (.int .i64 p) ∧ w'.cell? ⟨w.heap.size, 2, none⟩ = some (.int .i64 q) ∧ w'.cell? ⟨w.heap.size, 3, none⟩ = some (.string s) ∧ w'.cell? ⟨w.heap.size, 4, none⟩ = some (.int .i64 r) ∧ Hid (Mods (fun k => k = w.heap.size + 1) B w'))
    (first | with_reducible exact SO.out _ (by assumption) | with_reducible exact SO12.out _ _ _ _ _ _ _ _ _ _ _ _ _ (by assumption))
    (first | (go_at_call 73; (with_reducible refine (HA.out _ (TO.out _ (prj5a (by assumption)))).mono ?_); rintro e w1 ⟨so1, cap1, rfl, hrow, hb⟩; have hb1 := mods_next (prj5a (by assumption)) hb; have HA1 := Lib.hid (hkeep hb Ha0.out); have HR1 := Lib.hid hrow; clear hb hrow) | (go_at_call 73; (with_reducible refine (HK.out _ (TO.out _ (prj5a (by assumption)))).mono ?_); rintro e w2 ⟨so2, cap2, rfl, hrow, hb⟩; have hb2 := mods_next (prj5a (by assumption)) hb; have HR1 := Lib.hid (ownsRow_ext (below_ext hb (Nat.le_refl _)) HR1.out); have HR2 := Lib.hid hrow; have HA2 := Lib.hid (hkeep hb HA1.out); (obtain ⟨a0, a1, a2, a3, a4, a5, a6, a7, a8, a9, a10, a11⟩ := cells12 HA2.out); (obtain ⟨fa0, fa1, fa2, fa3, fa4, fa5, fa6, fa7, fa8, fa9, fa10, fa11⟩ := froz12 HA2.out); clear hb hrow))
  have hz := HW0.out.size
  have hzb := (Array.getElem?_eq_some_iff.1 Ha0.out).1
  have hz1 := hb1.size
  have hya : w.heap.size + 1 < w2.heap.size := (Array.getElem?_eq_some_iff.1 HA2.out).1
  go_wp2
  refine bodyPost_ret (by simp [results, Tryz.results72, go_sem, hya, a0, a1, a2, a3, a4, a5, a6, a7, a8, a9, a10, a11]; first | done | rfl) rfl ?_
  exact act_end (B := B.heap.size) (ownsRow_base HR1.out (Nat.le_refl _)) (ownsRow_base HR2.out hz1) (Mods.of_below (TO.out _ hb2)) (by omega) (by omega) _ _ _ _ _ _ _ _ _ _ _ _
set_option maxRecDepth 100000 in
set_option maxHeartbeats 2000000 in
theorem cWrong_c (w : World) (c : Nat) (nm : ByteArray) (av : Value) (HC : w.heap[c]? = some (oCl nm av)) (n : Int) (D r : ByteArray) (hD : D.size ≤ 20) (hn : nm.size ≤ 100) (hr : r.size ≤ 100)
    (HI : ∀ W, Below c w W → Calls Tryz.prog 85 #[.int .i64 n] W (fun e w' => e = .returned (.string D) ∧ Below W.heap.size W w')) :
    Calls Tryz.prog 44 #[.pointer (some ⟨c, 0, none⟩), .int .i64 n, .string r] w (WrongPost w c nm av (badT D nm r)) := by
  have hc : c < w.heap.size := (Array.getElem?_eq_some_iff.1 HC).1
  have HII := Lib.hid (HI)
  have hT : (badT D nm r).size ≤ 300 := by unfold badT; simp only [ByteArray.size_append]; have : (⟨#[98, 97, 100, 32, 97, 114, 103, 117, 109, 101, 110, 116, 32, 35]⟩ : ByteArray).size = 14 := rfl; have : (⟨#[32, 116, 111, 32, 39]⟩ : ByteArray).size = 5 := rfl; have : (⟨#[39, 32, 40]⟩ : ByteArray).size = 3 := rfl; have : (⟨#[41]⟩ : ByteArray).size = 1 := rfl; omega
  have HE := Lib.hid (fun W => pError_c W (badT D nm r) (by omega))
  have HCC := Lib.hid (heap1_old HC oAc)
  have HC0 := Lib.hid (HC)
  have c3 : (w.alloc oAc).cell? ⟨c, 3, none⟩ = some (.bool false) := by rw [cell_of_heap HCC.out]; rfl
  have d3 : (w.alloc oAc).frozen? ⟨c, 3, none⟩ = false := frozen_of_heap HCC.out _
  clear HI HC hT
  go_enter Tryz.func44, Tryz.ntmps44
  go_wp2
  obtain ⟨B, hB⟩ : ∃ B, B = (w.setCell ⟨c, 3, none⟩ (.bool true)).alloc oAc := ⟨_, rfl⟩
  rw [← hB]
  have HW0 := Lib.hid (show Mods (fun k => k = c) w B by rw [hB]; exact mods_alloc (mods_setCell (F := fun k => k = c) (Mods.refl _ _) (.inl rfl) _) _)
  have Hc0 := Lib.hid (show B.heap[c]? = some (oCb nm av V.nil true 0 0 (.slice none 0 0) ⟨#[]⟩ 0 0 (.slice none 0 0)) by rw [hB]; exact heap1_old (heap_setCell_same HC0.out 3 (.bool true)) _)
  have Ha0 := Lib.hid (show B.heap[w.heap.size]? = some oAc by rw [hB]; have := heap_new (w.setCell ⟨c, 3, none⟩ (.bool true)) oAc; simpa using this)
  clear hB c3 d3
  have SO := Lib.hid (fun (W : World) (hb : Mods (fun k => k = c) B W) (h1 : Hid (W.heap[c]? = some (oCb nm av V.nil true 0 0 (.slice none 0 0) ⟨#[]⟩ 0 0 (.slice none 0 0)))) => (show W.cell? ⟨c, 1, none⟩ = some (.string nm) ∧ Hid (Mods (fun k => k = c) B W) from ⟨(cells16 h1.out).2.1, Lib.hid hb⟩))
  have SE := Lib.hid (fun (W : World) (hb : Mods (fun k => k = c) B W) (h1 : Hid (W.heap[c]? = some (oCb nm av V.nil true 0 0 (.slice none 0 0) ⟨#[]⟩ 0 0 (.slice none 0 0)))) (d4 d5 d6 d7 d8 d9 d10 d11 d12 d13 d14 d15 : Value) => (show (W.setCell ⟨c, 4, none⟩ d4 |>.setCell ⟨c, 5, none⟩ d5 |>.setCell ⟨c, 6, none⟩ d6 |>.setCell ⟨c, 7, none⟩ d7 |>.setCell ⟨c, 8, none⟩ d8 |>.setCell ⟨c, 9, none⟩ d9 |>.setCell ⟨c, 10, none⟩ d10 |>.setCell ⟨c, 11, none⟩ d11 |>.setCell ⟨c, 12, none⟩ d12 |>.setCell ⟨c, 13, none⟩ d13 |>.setCell ⟨c, 14, none⟩ d14 |>.setCell ⟨c, 15, none⟩ d15).cell? ⟨c, 1, none⟩ = some (.string nm) ∧ Hid (Mods (fun k => k = c) B _) from ⟨(cells16 (twelve_at h1.out d4 d5 d6 d7 d8 d9 d10 d11 d12 d13 d14 d15)).2.1, Lib.hid (mods_twelve hb (.inl rfl) 4 5 6 7 8 9 10 11 12 13 14 15 d4 d5 d6 d7 d8 d9 d10 d11 d12 d13 d14 d15)⟩))
  have hbR : Mods (fun k => k = c) B B := Mods.refl _ _
  have hbD : Mods (fun k => k = c) B B.drew := Mods.of_below (Below.refl _ _).drew
  have hcR : Hid (B.heap[c]? = some (oCb nm av V.nil true 0 0 (.slice none 0 0) ⟨#[]⟩ 0 0 (.slice none 0 0))) := Hc0
  have hcD : Hid (B.drew.heap[c]? = some (oCb nm av V.nil true 0 0 (.slice none 0 0) ⟨#[]⟩ 0 0 (.slice none 0 0))) := Hc0
  have haR : Hid (B.heap[w.heap.size]? = some oAc) := Ha0
  have haD : Hid (B.drew.heap[w.heap.size]? = some oAc) := Ha0
  have TO := Lib.hid (fun (W : World) (hb : Mods (fun k => k = c) B W) => (show Below c w W from Mods.below (Mods.trans HW0.out hb) (by omega) (fun k hk h => by omega)))
  have hnm : nm.size ≤ 100 := hn
  have A1 := fun W => add_run ((⟨#[98, 97, 100, 32, 97, 114, 103, 117, 109, 101, 110, 116, 32, 35]⟩ : ByteArray)) (D) (by (try simp only [ByteArray.size_append]); have : (⟨#[98, 97, 100, 32, 97, 114, 103, 117, 109, 101, 110, 116, 32, 35]⟩ : ByteArray).size = 14 := rfl; have : (⟨#[32, 116, 111, 32, 39]⟩ : ByteArray).size = 5 := rfl; have : (⟨#[39, 32, 40]⟩ : ByteArray).size = 3 := rfl; have : (⟨#[41]⟩ : ByteArray).size = 1 := rfl; omega) W
  have A2 := fun W => add_run (((⟨#[98, 97, 100, 32, 97, 114, 103, 117, 109, 101, 110, 116, 32, 35]⟩ : ByteArray) ++ D)) ((⟨#[32, 116, 111, 32, 39]⟩ : ByteArray)) (by (try simp only [ByteArray.size_append]); have : (⟨#[98, 97, 100, 32, 97, 114, 103, 117, 109, 101, 110, 116, 32, 35]⟩ : ByteArray).size = 14 := rfl; have : (⟨#[32, 116, 111, 32, 39]⟩ : ByteArray).size = 5 := rfl; have : (⟨#[39, 32, 40]⟩ : ByteArray).size = 3 := rfl; have : (⟨#[41]⟩ : ByteArray).size = 1 := rfl; omega) W
  have A3 := fun W => add_run ((((⟨#[98, 97, 100, 32, 97, 114, 103, 117, 109, 101, 110, 116, 32, 35]⟩ : ByteArray) ++ D) ++ (⟨#[32, 116, 111, 32, 39]⟩ : ByteArray))) (nm) (by (try simp only [ByteArray.size_append]); have : (⟨#[98, 97, 100, 32, 97, 114, 103, 117, 109, 101, 110, 116, 32, 35]⟩ : ByteArray).size = 14 := rfl; have : (⟨#[32, 116, 111, 32, 39]⟩ : ByteArray).size = 5 := rfl; have : (⟨#[39, 32, 40]⟩ : ByteArray).size = 3 := rfl; have : (⟨#[41]⟩ : ByteArray).size = 1 := rfl; omega) W
  have A4 := fun W => add_run (((((⟨#[98, 97, 100, 32, 97, 114, 103, 117, 109, 101, 110, 116, 32, 35]⟩ : ByteArray) ++ D) ++ (⟨#[32, 116, 111, 32, 39]⟩ : ByteArray)) ++ nm)) ((⟨#[39, 32, 40]⟩ : ByteArray)) (by (try simp only [ByteArray.size_append]); have : (⟨#[98, 97, 100, 32, 97, 114, 103, 117, 109, 101, 110, 116, 32, 35]⟩ : ByteArray).size = 14 := rfl; have : (⟨#[32, 116, 111, 32, 39]⟩ : ByteArray).size = 5 := rfl; have : (⟨#[39, 32, 40]⟩ : ByteArray).size = 3 := rfl; have : (⟨#[41]⟩ : ByteArray).size = 1 := rfl; omega) W
  have A5 := fun W => add_run ((((((⟨#[98, 97, 100, 32, 97, 114, 103, 117, 109, 101, 110, 116, 32, 35]⟩ : ByteArray) ++ D) ++ (⟨#[32, 116, 111, 32, 39]⟩ : ByteArray)) ++ nm) ++ (⟨#[39, 32, 40]⟩ : ByteArray))) (r) (by (try simp only [ByteArray.size_append]); have : (⟨#[98, 97, 100, 32, 97, 114, 103, 117, 109, 101, 110, 116, 32, 35]⟩ : ByteArray).size = 14 := rfl; have : (⟨#[32, 116, 111, 32, 39]⟩ : ByteArray).size = 5 := rfl; have : (⟨#[39, 32, 40]⟩ : ByteArray).size = 3 := rfl; have : (⟨#[41]⟩ : ByteArray).size = 1 := rfl; omega) W
  have A6 := fun W => add_run (((((((⟨#[98, 97, 100, 32, 97, 114, 103, 117, 109, 101, 110, 116, 32, 35]⟩ : ByteArray) ++ D) ++ (⟨#[32, 116, 111, 32, 39]⟩ : ByteArray)) ++ nm) ++ (⟨#[39, 32, 40]⟩ : ByteArray)) ++ r)) ((⟨#[41]⟩ : ByteArray)) (by (try simp only [ByteArray.size_append]); have : (⟨#[98, 97, 100, 32, 97, 114, 103, 117, 109, 101, 110, 116, 32, 35]⟩ : ByteArray).size = 14 := rfl; have : (⟨#[32, 116, 111, 32, 39]⟩ : ByteArray).size = 5 := rfl; have : (⟨#[39, 32, 40]⟩ : ByteArray).size = 3 := rfl; have : (⟨#[41]⟩ : ByteArray).size = 1 := rfl; omega) W
  go_region_held3 (fun w' => w'.cell? ⟨c, 1, none⟩ = some (.string nm) ∧ Hid (Mods (fun k => k = c) B w'))
    (first | with_reducible exact SO.out _ (by assumption) (by assumption) | with_reducible exact SE.out _ (by assumption) (by assumption) _ _ _ _ _ _ _ _ _ _ _ _)
    (first | (go_at_call 85; (with_reducible refine (HII.out _ (TO.out _ (prj1a (by assumption)))).mono ?_); rintro e w1 ⟨rfl, hb⟩; have hb1 := mods_next (prj1a (by assumption)) hb; have Hc1 := Lib.hid (hkeep hb (Hid.out (by assumption : Hid (_ = some (oCb nm av V.nil true 0 0 (.slice none 0 0) ⟨#[]⟩ 0 0 (.slice none 0 0)))))); have Ha1 := Lib.hid (hkeep hb Ha0.out); clear hb) | (go_at_call 20; (with_reducible refine (HE.out _).mono ?_); rintro e w2 ⟨so2, cap2, rfl, hrow, hb⟩; have hb2 := mods_next (prj1a (by assumption)) hb; have HR2 := Lib.hid hrow; have Hc2 := Lib.hid (hkeep hb Hc1.out); have Ha2 := Lib.hid (hkeep hb Ha1.out); (obtain ⟨c0, c1, c2, c3, c4, c5, c6, c7, c8, c9, c10, c11, c12, c13, c14, c15⟩ := cells16 Hc2.out); (obtain ⟨f0, f1, f2, f3, f4, f5, f6, f7, f8, f9, f10, f11, f12, f13, f14, f15⟩ := froz16 Hc2.out); clear hb hrow))
  have hz := HW0.out.size
  have hz1 := hb1.size
  have hzb := (Array.getElem?_eq_some_iff.1 Ha0.out).1
  have hya : w.heap.size < w2.heap.size := (Array.getElem?_eq_some_iff.1 Ha2.out).1
  obtain ⟨a0, a1, a2, a3, a4, a5, a6, a7, a8, a9, a10, a11⟩ := cells12 Ha2.out
  obtain ⟨fa0, fa1, fa2, fa3, fa4, fa5, fa6, fa7, fa8, fa9, fa10, fa11⟩ := froz12 Ha2.out
  have hcw : ¬ c = w.heap.size := by omega
  have hcw2 : ¬ w.heap.size = c := by omega
  go_wp2
  refine bodyPost_ret (by simp [results, Tryz.results44, go_sem, hya, hcw, hcw2, a0, a1, a2, a3, a4, a5, a6, a7, a8, a9, a10, a11]; first | done | rfl) rfl ?_
  refine ⟨so2, cap2, rfl, ?_, ?_, ?_⟩
  · exact ownsRow_base (row_twelve (row_twelve_at HR2.out (row_away HR2.out (by omega)) _ _ _ _ _ _ _ _ _ _ _ _) (row_away HR2.out (by omega)) _ _ _ _ _ _ _ _ _ _ _ _) (by omega)
  · exact heap12_old (twelve_at Hc2.out _ _ _ _ _ _ _ _ _ _ _ _) hcw _ _ _ _ _ _ _ _ _ _ _ _
  · exact mods_twelve (mods_twelve (Mods.trans HW0.out hb2) (.inl rfl) 4 5 6 7 8 9 10 11 12 13 14 15 _ _ _ _ _ _ _ _ _ _ _ _) (.inr (Nat.le_refl _)) 0 1 2 3 4 5 6 7 8 9 10 11 _ _ _ _ _ _ _ _ _ _ _ _
set_option maxRecDepth 100000 in
set_option maxHeartbeats 2000000 in
theorem lvalid_c (w : World) (so : Option Addr) (n cap : Nat) (A : List V) (hA : Vals w (.slice so n cap) A) (hl : A.length ≤ 1000) :
    Calls Tryz.prog 5 #[.slice so n cap] w (BoolPost w (A.all validV)) := by
  have hn : n = A.length := by obtain ⟨_, _, e, _⟩ := hA; injection e
  subst hn
  have HA := Lib.hid hA
  obtain ⟨R, hR⟩ : ∃ R, R = A.all validV := ⟨_, rfl⟩
  rw [← hR]
  have HRR := Lib.hid hR
  clear hA hR
  go_enter Tryz.func5, Tryz.ntmps5
  go_wp2
  go_loopg [6] A.length (fun gg iv wr => ∃ i : Nat, gg = A.length - i ∧ iv = .int .i64 (i : Int) ∧ Hid (Below w.heap.size w wr) ∧ i ≤ A.length ∧ Hid ((A.take i).all validV = true))
  case atStart => exact ⟨0, rfl, rfl, Below.refl _ _, Nat.zero_le _, rfl⟩
  obtain ⟨i, rfl, rfl, HB, hi, HI⟩ := hrel
  by_cases hlt : i < A.length
  · obtain ⟨v, hv⟩ : ∃ v, A[i]? = some v := ⟨_, List.getElem?_eq_getElem hlt⟩
    have hne : A ≠ [] := fun h => by rw [h] at hlt; simp at hlt
    obtain ⟨g1, o1, rfl⟩ := Vals.some_of HA.out hne
    clear hne
    obtain ⟨hg1, b0, b1, b2, b3, b4⟩ := Vals.at_ (Vals.below HA.out HB.out) hv
    have HVV := Lib.hid (fun W => svalidV_c W v.k v.p v.q v.s v.r)
    have HV := Lib.hid hv
    clear hv
    obtain ⟨T, hT⟩ : ∃ T, T = validV ⟨v.k, v.p, v.q, v.s, v.r⟩ := ⟨_, rfl⟩
    rw [← hT] at HVV
    have HTT := Lib.hid hT
    clear hT
    go_wp2_with fail
    refine (HVV.out _).mono ?_
    rintro e w1 ⟨rfl, hb⟩
    have HB1 := Lib.hid (HB.out.trans (hb.mono HB.out.size))
    clear hb b0 b1 b2 b3 b4 hg1
    cases T with
    | true =>
      go_wp2
      go_roundg (A.length - (i + 1))
      case measure => omega
      case rel =>
        refine ⟨i + 1, rfl, by push_cast; rfl, HB1.out, by omega, ?_⟩
        show (A.take (i + 1)).all validV = true
        rw [List.take_add_one, HV.out, List.all_append, HI.out]
        show (true && ([v].all validV)) = true
        have h := HTT.out
        simp [← h]
    | false =>
      go_wp2
      go_ret
      refine bool_done ?_ HB1.out
      rw [HRR.out]
      symm
      rw [List.all_eq_false]
      exact ⟨v, List.mem_of_getElem? HV.out, by have h := HTT.out; simp [← h]⟩
  · have hii : i = A.length := by omega
    subst hii
    go_wp2
    go_ret
    refine bool_done ?_ HB.out
    rw [HRR.out]
    have h := HI.out
    rw [List.take_length] at h
    exact h.symm
end Go.Proofs.YtalfoihffnlelaaGreatDoor
