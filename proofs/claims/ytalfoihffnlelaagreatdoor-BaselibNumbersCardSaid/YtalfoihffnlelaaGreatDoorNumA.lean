import Derived.Test.YtalfoihffnlelaaGreatDoorBn
import Derived.Test.YtalfoihffnlelaaGreatDoorFind0
set_option linter.unusedVariables false
set_option linter.unusedSimpArgs false
set_option maxRecDepth 100000
set_option maxHeartbeats 4000000
namespace Go.Proofs.YtalfoihffnlelaaGreatDoor
open Go.RowKit Go.Proofs.Lexi
set_option maxRecDepth 100000 in
set_option maxHeartbeats 1000000 in
theorem pdigit_c (w : World) (c : Nat) (hc : c ≤ 255) : Calls Tryz.prog 183 #[.int .u8 c] w fun e w' => e = .returned (.int .i64 (pdigV c)) ∧ w = w' := by
  have h : (48 ≤ c ∧ c ≤ 57) ∨ (97 ≤ c ∧ c ≤ 122) ∨ (65 ≤ c ∧ c ≤ 90) ∨ (c < 48 ∨ (57 < c ∧ (c < 65 ∨ (90 < c ∧ (c < 97 ∨ 122 < c))))) := by omega
  rcases h with ⟨a, b⟩ | ⟨a, b⟩ | ⟨a, b⟩ | h
  · have HR := Lib.hid (show pdigV c = c - 48 from by unfold pdigV; rw [if_pos ⟨a, b⟩])
    go_enter Tryz.func183, Tryz.ntmps183
    go_wp2
    go_ret
    exact ⟨ret_int HR.out.symm, rfl⟩
  · have HR := Lib.hid (show pdigV c = c - 97 + 10 from by unfold pdigV; rw [if_neg (by omega), if_pos ⟨a, b⟩]; omega)
    go_enter Tryz.func183, Tryz.ntmps183
    go_wp2
    go_ret
    exact ⟨ret_int HR.out.symm, rfl⟩
  · have HR := Lib.hid (show pdigV c = c - 65 + 10 from by unfold pdigV; rw [if_neg (by omega), if_neg (by omega), if_pos ⟨a, b⟩]; omega)
    go_enter Tryz.func183, Tryz.ntmps183
    go_wp2
    go_ret
    exact ⟨ret_int HR.out.symm, rfl⟩
  · have HR := Lib.hid (show pdigV c = -1 from by unfold pdigV; rw [if_neg (by omega), if_neg (by omega), if_neg (by omega)])
    rcases h with h | ⟨h, h2 | ⟨h2, h3 | h3⟩⟩
    all_goals
      go_enter Tryz.func183, Tryz.ntmps183
      go_wp2
      go_ret
      exact ⟨ret_int HR.out.symm, rfl⟩
set_option maxRecDepth 100000 in
set_option maxHeartbeats 1000000 in
theorem prun_c (w : World) (s : ByteArray) (hs : s.size ≤ 2000000000) (k : Nat) (hk : k ≤ 2000000002) (base : Nat) (hb : base = 10 ∨ base = 16) :
    Calls Tryz.prog 174 #[.string s, .int .i64 k, .int .i64 base] w fun e w' => e = .returned (.int .i64 (k + runN base ((bytesOf s).drop k) : Nat)) ∧ w = w' := by
  obtain ⟨R, hR⟩ : ∃ R, k + runN base ((bytesOf s).drop k) = R := ⟨_, rfl⟩
  rw [hR]
  have HR0 := Lib.hid hR
  clear hR
  go_enter Tryz.func174, Tryz.ntmps174
  go_wp2
  go_loopg [1] (s.size - k) (fun gg v wr => ∃ i : Nat, gg = s.size - i ∧ v = .int .i64 (i : Int) ∧ w = wr ∧ i ≤ 2000000002 ∧ Hid (i + runN base ((bytesOf s).drop i) = R))
  case atStart => exact ⟨k, rfl, rfl, rfl, hk, HR0⟩
  case round =>
    obtain ⟨i, rfl, rfl, rfl, hi, HI⟩ := hrel
    by_cases hlt : i < s.size
    · have hst := run_step hlt HI.out
      have HD := Lib.hid (pdigit_c w s[i].toNat (u8_le _))
      cases hd : isDig base s[i].toNat with
      | true =>
        have HN := Lib.hid (hst.1 hd)
        obtain ⟨hp1, hdv⟩ := pdigV_on (by omega) hd
        have HP := Lib.hid hp1
        clear hst hd hp1
        go_wp2_with fail
        refine HD.out.mono ?_
        rw [HP.out]
        rintro e w1 ⟨rfl, rfl⟩
        go_wp2_with fail
        refine HD.out.mono ?_
        rw [HP.out]
        rintro e w1 ⟨rfl, rfl⟩
        go_wp2
        go_roundg (s.size - (i + 1))
        case measure => omega
        case rel => exact ⟨i + 1, rfl, rfl, rfl, by omega, HN⟩
      | false =>
        have HN := Lib.hid (hst.2 hd)
        have hp := pdigV_off hb hd
        clear hst hd
        obtain ⟨z, hz⟩ : ∃ z, z = pdigV s[i].toNat := ⟨_, rfl⟩
        rw [← hz] at hp
        have HZ := Lib.hid hz.symm
        clear hz
        rcases hp with hp | ⟨hp, hp2, hp3⟩
        · go_wp2_with fail
          refine HD.out.mono ?_
          rw [HZ.out]
          rintro e w1 ⟨rfl, rfl⟩
          go_wp2
          go_ret
          exact ⟨ret_int (congrArg (fun n : Nat => (n : Int)) HN.out), rfl⟩
        · go_wp2_with fail
          refine HD.out.mono ?_
          rw [HZ.out]
          rintro e w1 ⟨rfl, rfl⟩
          go_wp2_with fail
          refine HD.out.mono ?_
          rw [HZ.out]
          rintro e w1 ⟨rfl, rfl⟩
          go_wp2
          go_ret
          exact ⟨ret_int (congrArg (fun n : Nat => (n : Int)) HN.out), rfl⟩
    · have HN := Lib.hid (run_stop (by omega) HI.out)
      go_wp2
      go_ret
      exact ⟨ret_int (congrArg (fun n : Nat => (n : Int)) HN.out), rfl⟩
end Go.Proofs.YtalfoihffnlelaaGreatDoor
namespace Go.Proofs
open Go.Shelf
open Go.RowKit in
/-- strings.CutPrefix: "CutPrefix returns s without the provided leading prefix string and reports whether it found the prefix. If s doesn't start with prefix, CutPrefix returns s, false. If prefix is the empty string, CutPrefix returns s, true.": IT RETURNS '(Lib.trimPrefix s p, Lib.hasPrefix s p)'; the world is as it was. (LAID: no walk: one application.) -/
theorem Tryz.strings_CutPrefix (s p : ByteArray) (w : World) :
    Calls Tryz.prog 107 #[.string s, .string p] w fun e w' => e = .returned (.tuple #[.string ⟨(Lib.trimPrefix s.data.toList p.data.toList).toArray⟩, .bool (Lib.hasPrefix s.data.toList p.data.toList)]) ∧ w' = w := Any.strings_CutPrefix Tryz.lays103 s p w
open Go.RowKit Go.Sort Go.Lib in
/-- internal/strconv.FormatInt: "FormatInt returns the string representation of i in the given base": AT BASE 10: i's decimal numeral, for every int64. The world behind the call: the world before it, new blocks behind the heap, draws. (LAID: no walk: one application.) -/
theorem Tryz.internal_strconv_FormatInt_10 (n : Int) (h0 : -9223372036854775808 ≤ n) (h1 : n ≤ 9223372036854775807) (w : World) (htab : Lib.TabIs Tryz.prog w "internal/strconv.uint64pow10" .u64 Lib.pow10Tab) :
    Calls Tryz.prog 35 #[.int .i64 n, .int .i64 10] w fun e w' => e = .returned (.string ⟨(Lib.itoa n).toArray⟩) ∧ ∃ k os, w' = grow (w.drewN k) os := Any.internal_strconv_FormatInt_10 Tryz.laysM246 n h0 h1 w htab
open Go.RowKit Go.Sort Go.Lib in
/-- strconv.Itoa: "Itoa is equivalent to FormatInt(int64(i), 10).": i's DECIMAL NUMERAL ('Lib.itoa': a '-' where i is negative, then the digits), FOR EVERY int. The world behind the call: the world before it, new blocks behind the heap (the library's 'var a [24]byte'), draws. (LAID: no walk: one application.) -/
theorem Tryz.strconv_Itoa (n : Int) (h0 : -9223372036854775808 ≤ n) (h1 : n ≤ 9223372036854775807) (w : World) (htab : Lib.TabIs Tryz.prog w "internal/strconv.uint64pow10" .u64 Lib.pow10Tab) :
    Calls Tryz.prog 85 #[.int .i64 n] w fun e w' => e = .returned (.string ⟨(Lib.itoa n).toArray⟩) ∧ ∃ k os, w' = grow (w.drewN k) os := Any.strconv_Itoa Tryz.laysM171 n h0 h1 w htab
open Go.RowKit Go.Lib in
/-- strings.Cut: "Cut slices s around the first instance of sep, returning the text before and after sep. The found result reports whether sep appears in s. If sep does not appear in s, cut returns s, "", false.": IT RETURNS 'Lib.cut s sep'; the world is as it was but for the count of draws. (LAID: no walk: one application.) -/
theorem Tryz.strings_Cut (s sep : ByteArray) (m : Int) (w : World) (hs : s.size < 4294967281) (hm : w.cell? ⟨0, 0, none⟩ = some (.int .i64 m)) :
    Calls Tryz.prog 177 #[.string s, .string sep] w fun e w' => e = .returned (.tuple #[.string ⟨(Lib.cut s.data.toList sep.data.toList).1.toArray⟩, .string ⟨(Lib.cut s.data.toList sep.data.toList).2.1.toArray⟩, .bool (Lib.cut s.data.toList sep.data.toList).2.2]) ∧ ∃ n, w' = w.drewN n := Any.strings_Cut Tryz.lays145 s sep m w hs hm
open Go.RowKit Go.Lib in
/-- strings.LastIndexByte: "LastIndexByte returns the index of the last instance of c in s, or -1 if c is not present in s." (LAID: no walk: one application.) -/
theorem Tryz.strings_LastIndexByte (s : ByteArray) (c : Int) (hs : s.size < 4611686018427387904) (w : World) :
    Calls Tryz.prog 18 #[.string s, .int .u8 c] w fun e w' => e = .returned (.int .i64 (Lib.lastIndexByte s c)) ∧ w' = w := Any.strings_LastIndexByte Tryz.lays149 s c hs w
open Go.RowKit Go.Lib in
/-- strings.Fields on ASCII bytes. (The table: 'Lib.TabIs', as strings.TrimSpace's contract asks it.) (LAID: no walk: one application.) -/
theorem Tryz.strings_Fields_laid (s : ByteArray) (w : World) (hs : s.size < 4294967281) (hascii : ∀ (j : Nat) b, s.data.toList[j]? = some b → b.toNat < 128) (htab : Lib.TabIs Tryz.prog w "strings.asciiSpace" .u8 Lib.asciiSpaceTab) :
    Calls Tryz.prog 82 #[.string s] w fun e w' =>
      e = .returned (.slice (some ⟨w.heap.size, 0, none⟩) (Lib.fields s.data.toList).length (Lib.fields s.data.toList).length) ∧ w' = w.alloc (.cells ((Lib.fields s.data.toList).map fun l => Value.string ⟨l.toArray⟩).toArray 9) := Any.strings_Fields_laid Tryz.laysM157 s w hs hascii htab
open Go.Lib in
/-- slices.Index at []string: "Index returns the index of the first occurrence of v in s, or -1 if not present.": IT RETURNS 'Lib.idxOfS (the elements) v'; the world is as it was. 'zs': what the cells behind the slice's address hold (its spare capacity too, if you have it); 'zs.take n': its elements. (LAID: no walk: one application.) -/
theorem Tryz.slices_Index_string (b off n c : Nat) (zs : List ByteArray) (x : ByteArray) (w : World) (hz : n ≤ zs.length) (hbig : n ≤ 9223372036854775807) (hc : ∀ j, j < zs.length → w.cell? ⟨b, off + j, none⟩ = some (.string (zs.getD j ByteArray.empty))) :
    Calls Tryz.prog 37 #[.slice (some ⟨b, off, none⟩) n c, .string x] w fun e w' => e = .returned (.int .i64 (Lib.idxOfS (zs.take n) x)) ∧ w' = w := Any.slices_Index_string Tryz.lays109 b off n c zs x w hz hbig hc
end Go.Proofs
namespace Go.Proofs.YtalfoihffnlelaaGreatDoor
open Go.RowKit Go.Proofs.Lexi
set_option maxRecDepth 100000 in
set_option maxHeartbeats 1000000 in
theorem ptrim_c (w : World) (s : ByteArray) (hs : s.size ≤ 2000000000) : Calls Tryz.prog 151 #[.string s] w (TrimPost w (trimG (bytesOf s))) := by
  have hcon := Any.strings_Trim_laid Tryz.lays160 (by kernel_rfl) s ⟨#[32, 9, 10, 13]⟩ w (by omega) (by decide) ascii4
  change Calls Tryz.prog 108 _ _ (fun e w' => e = .returned (.string ⟨(Lib.trimS s.data.toList [32, 9, 10, 13]).toArray⟩) ∧ Below w.heap.size w w') at hcon
  have hb := trim_bytes s
  generalize (⟨(Lib.trimS s.data.toList [32, 9, 10, 13]).toArray⟩ : ByteArray) = r at hcon hb
  have HB := Lib.hid hb
  clear hb
  go_enter Tryz.func151, Tryz.ntmps151
  go_wp2_with fail
  refine hcon.mono ?_
  rintro e w1 ⟨rfl, hB⟩
  go_wp2
  go_ret
  exact ⟨⟨_, rfl, HB.out⟩, hB⟩
set_option maxHeartbeats 400000 in
theorem sgcd_c (w : World) (x y : Int) (a b : Nat) (hx : x = a) (hy : y = b) (ha : a ≤ 9223372036854775807) (hb : b ≤ 9223372036854775807) :
    Calls Tryz.prog 33 #[.int .i64 x, .int .i64 y] w (PureP w (.int .i64 (Nat.gcd a b : Nat))) := by
  subst hx hy
  obtain ⟨G, hG⟩ : ∃ G, G = Nat.gcd a b := ⟨_, rfl⟩
  rw [← hG]
  have HG := Lib.hid hG.symm
  clear hG
  go_enter Tryz.func33, Tryz.ntmps33
  go_wp2
  go_loopg [0, 1] b (fun gg u v wr => ∃ x y n : Nat, wr = w.drewN n ∧ y = gg ∧ u = .int .i64 (x : Int) ∧ v = .int .i64 (y : Int) ∧ x ≤ 9223372036854775807 ∧ y ≤ 9223372036854775807 ∧ Hid (Nat.gcd x y = G))
  case atStart => exact ⟨a, b, 0, rfl, rfl, rfl, rfl, ha, hb, HG⟩
  case round =>
    obtain ⟨x, y, n, rfl, rfl, rfl, rfl, h1, h2, h3⟩ := hrel
    by_cases h0 : y = 0
    · subst h0
      have HX := Lib.hid (show (x : Int) = G from by have := h3.out; rw [Nat.gcd_zero_right] at this; omega)
      go_wp2
      go_ret
      exact ⟨ret_int HX.out, n, rfl⟩
    · have t0 : ((y : Int) != 0) = true := by rw [bne_iff_ne]; omega
      have hy0 : 0 < y := by omega
      have hm := Nat.mod_lt x hy0
      have HN := Lib.hid (show Nat.gcd y (x % y) = G from by rw [← h3.out, Nat.gcd_comm x y]; exact (Nat.gcd_rec y x).symm ▸ (Nat.gcd_comm _ _))
      clear h0
      go_wp2
      refine wp_region_lex mixed (by kernel_rfl) ?_
      go_wp2
      refine ⟨by kernel_rfl, ?_⟩
      go_wp2
      go_roundg (x % y)
      case measure => omega
      case rel => exact ⟨y, x % y, _, rfl, rfl, rfl, (by first | rfl | simp), h2, by omega, HN⟩
set_option maxHeartbeats 400000 in
theorem sabs_c (w : World) (x : Int) (h1 : -9223372036854775807 ≤ x) (h2 : x ≤ 9223372036854775807) : Calls Tryz.prog 34 #[.int .i64 x] w fun e w' => e = .returned (.int .i64 (x.natAbs : Int)) ∧ w' = w := by
  by_cases h : x < 0
  all_goals
    go_enter Tryz.func34, Tryz.ntmps34
    go_wp2
    go_ret
    exact ⟨ret_int (by omega), rfl⟩
set_option maxRecDepth 100000 in
set_option maxHeartbeats 1000000 in
theorem svalid_c (w : World) (p q : Int) : Calls Tryz.prog 16 #[.agg #[.int .i64 p, .int .i64 q]] w (BoolPost w (validN (p, q))) := by
  have HB := Lib.hid (below_num0 w (.cells #[.int .i64 p, .int .i64 q] 28))
  by_cases h : 1 ≤ q ∧ q ≤ 2147483647 ∧ -2147483647 ≤ p ∧ p ≤ 2147483647
  · obtain ⟨h1, h2, h3, h4⟩ := h
    have HGC := Lib.hid (fun W x y hx hy => sgcd_c W x y p.natAbs q.natAbs hx hy (by omega) (by omega))
    have HA1 := Lib.hid (fun W => sabs_c W p (by omega) (by omega))
    obtain ⟨D, hD⟩ : ∃ D, D = Nat.gcd p.natAbs q.natAbs := ⟨_, rfl⟩
    have HV := Lib.hid (validN_good h1 h2 h3 h4 hD.symm)
    rw [← hD] at HGC
    have hq : q = (q.natAbs : Int) := by omega
    have HQ := Lib.hid hq
    have d1 : decide (1 ≤ q) = true := decide_eq_true h1
    have d2 : decide (q ≤ 2147483647) = true := decide_eq_true h2
    have d3 : decide (-2147483647 ≤ p) = true := decide_eq_true h3
    have d4 : decide (p ≤ 2147483647) = true := decide_eq_true h4
    clear hD hq
    go_enter Tryz.func16, Tryz.ntmps16
    go_wp2
    go_quiet (first | ((go_at_call 34; exact Calls.quiet_of_same (HA1.out _))) | ((go_at_call 33; exact Calls.quiet_of (HGC.out _ _ _ rfl HQ.out))))
    go_wp2
    go_ret
    exact bool_done HV.out.symm (bdn HB.out _)
  · have HV := Lib.hid (validN_bad (p := p) (q := q) (by omega))
    have hc : q < 1 ∨ (1 ≤ q ∧ 2147483647 < q) ∨ (1 ≤ q ∧ q ≤ 2147483647 ∧ 2147483647 < p) ∨ (1 ≤ q ∧ q ≤ 2147483647 ∧ p ≤ 2147483647 ∧ p < -2147483647) := by omega
    clear h
    rcases hc with k1 | ⟨k1, k2⟩ | ⟨k1, k2, k3⟩ | ⟨k1, k2, k3, k4⟩
    · have d1 : decide (1 ≤ q) = false := decide_eq_false (by omega)
      go_enter Tryz.func16, Tryz.ntmps16
      go_wp2
      go_quiet (fail)
      go_wp2
      go_ret
      exact bool_done HV.out.symm (bdn HB.out _)
    · have d1 : decide (1 ≤ q) = true := decide_eq_true k1
      have d2 : decide (q ≤ 2147483647) = false := decide_eq_false (by omega)
      go_enter Tryz.func16, Tryz.ntmps16
      go_wp2
      go_quiet (fail)
      go_wp2
      go_ret
      exact bool_done HV.out.symm (bdn HB.out _)
    · have d1 : decide (1 ≤ q) = true := decide_eq_true k1
      have d2 : decide (q ≤ 2147483647) = true := decide_eq_true k2
      have d4 : decide (p ≤ 2147483647) = false := decide_eq_false (by omega)
      go_enter Tryz.func16, Tryz.ntmps16
      go_wp2
      go_quiet (fail)
      go_wp2
      go_ret
      exact bool_done HV.out.symm (bdn HB.out _)
    · have d1 : decide (1 ≤ q) = true := decide_eq_true k1
      have d2 : decide (q ≤ 2147483647) = true := decide_eq_true k2
      have d4 : decide (p ≤ 2147483647) = true := decide_eq_true k3
      have d3 : decide (-2147483647 ≤ p) = false := decide_eq_false (by omega)
      go_enter Tryz.func16, Tryz.ntmps16
      go_wp2
      go_quiet (fail)
      go_wp2
      go_ret
      exact bool_done HV.out.symm (bdn HB.out _)
set_option maxRecDepth 100000 in
set_option maxHeartbeats 1000000 in
theorem rmake_c (w : World) (p q : Int) : Calls Tryz.prog 176 #[.int .i64 p, .int .i64 q] w (NumPost w (makeN p q)) := by
  have HB := Lib.hid (below_num0 w (o2 0 0))
  obtain ⟨R, hR⟩ : ∃ R, R = makeN p q := ⟨_, rfl⟩
  rw [← hR]
  by_cases h0 : q = 0
  · have HR := Lib.hid (show R = .error 7 from by rw [hR]; unfold makeN; rw [if_pos h0])
    have t0 : (q == 0) = true := by rw [h0]; rfl
    clear h0 hR
    go_enter Tryz.func176, Tryz.ntmps176
    go_wp2
    refine bodyPost_ret (by simp [results, Tryz.results176, go_sem]; first | done | rfl) rfl ?_
    exact num_err HR.out HB.out
  · have t0 : (q == 0) = false := by rw [beq_eq_false_iff_ne]; exact h0
    by_cases hb : -4611686018427387904 ≤ p ∧ p ≤ 4611686018427387904 ∧ -4611686018427387904 ≤ q ∧ q ≤ 4611686018427387904
    · obtain ⟨b1, b2, b3, b4⟩ := hb
      have HR := Lib.hid (show redN p q = R from by rw [hR]; unfold makeN; rw [if_neg h0, if_pos]; simp [in62]; omega)
      have HC := Lib.hid (reduce_c (w.alloc (o2 0 0)) p q (by omega) (by omega) (by omega) (by omega) h0)
      clear h0 hR
      go_enter Tryz.func176, Tryz.ntmps176
      go_wp2_with fail
      refine HC.out.mono ?_
      rw [HR.out]
      rintro e w1 ⟨rfl, hb⟩
      obtain ⟨hc, hf⟩ := bcell hb
      have hz := hb.size
      simp at hz
      have HB1 := Lib.hid (below_next HB.out hb)
      clear hb
      go_wp2
      refine bodyPost_ret (by simp [results, Tryz.results176, go_sem, hc]; first | done | rfl) rfl ?_
      exact num_res (below_two HB1.out (Nat.le_refl _) _ _)
    · have HR := Lib.hid (show R = .error 6 from by rw [hR]; unfold makeN; rw [if_neg h0, if_neg]; simp [in62]; omega)
      have hcs : p < -4611686018427387904 ∨ 4611686018427387904 < p ∨ ((-4611686018427387904 ≤ p ∧ p ≤ 4611686018427387904) ∧ (q < -4611686018427387904 ∨ 4611686018427387904 < q)) := by omega
      clear hb h0 hR
      rcases hcs with c | c | ⟨⟨c1, c2⟩, c | c⟩
      all_goals
        go_enter Tryz.func176, Tryz.ntmps176
        go_wp2
        refine bodyPost_ret (by simp [results, Tryz.results176, go_sem]; first | done | rfl) rfl ?_
        exact num_err HR.out HB.out
set_option maxRecDepth 100000 in
set_option maxHeartbeats 1000000 in
theorem pinteger_c (w : World) (s : ByteArray) (hs : s.size ≤ 2000000000) (base : Nat) (hb : base = 10 ∨ base = 16) (hall : ∀ (i : Nat) (h : i < s.size), isDig base s[i].toNat = true) :
    Calls Tryz.prog 175 #[.string s, .int .i64 base] w (OptPost w (numG base (bytesOf s) 0)) := by
  obtain ⟨R, hR⟩ : ∃ R, numG base ((bytesOf s).drop 0) 0 = R := ⟨_, rfl⟩
  rw [show numG base (bytesOf s) 0 = R from hR]
  have HR0 := Lib.hid hR
  have HALL := Lib.hid hall
  clear hall
  clear hR
  go_enter Tryz.func175, Tryz.ntmps175
  go_wp2
  go_loopg [6, 11] s.size (fun gg vn v wr => ∃ i n : Nat, gg = s.size - i ∧ vn = .int .i64 (n : Int) ∧ v = .int .i64 (i : Int) ∧ w = wr ∧ i ≤ s.size ∧ (n : Int) ≤ 4611686018427387904 ∧ Hid (numG base ((bytesOf s).drop i) n = R))
  case atStart => exact ⟨0, 0, rfl, rfl, rfl, rfl, Nat.zero_le _, by decide, HR0⟩
  case round =>
    obtain ⟨i, n, rfl, rfl, rfl, rfl, hi, hn, HI⟩ := hrel
    by_cases hlt : i < s.size
    · have hst := num_step hb hlt HI.out
      have hp := (pdigV_on (by omega) (HALL.out i hlt)).1
      have HD := Lib.hid (pdigit_c w s[i].toNat (u8_le _))
      rw [hp] at HD
      clear hp
      have hd9 := digV_le s[i].toNat
      obtain ⟨d, hd⟩ : ∃ d, d = digV s[i].toNat := ⟨_, rfl⟩
      rw [← hd] at hst hd9
      have HDD := Lib.hid hd.symm
      clear hd
      by_cases hc : (4611686018427387904 - (d : Int)) / (base : Int) < n
      · have HN := Lib.hid (hst.1 hc)
        clear hst
        rcases hb with rfl | rfl
        all_goals
          go_wp2_with fail
          refine HD.out.mono ?_
          rw [HDD.out]
          rintro e w1 ⟨rfl, rfl⟩
          go_wp2
          go_ret2
          exact opt_none HN.out rfl
      · have HN := Lib.hid (hst.2 (by omega))
        clear hst
        rcases hb with rfl | rfl
        all_goals
          go_wp2_with fail
          refine HD.out.mono ?_
          rw [HDD.out]
          rintro e w1 ⟨rfl, rfl⟩
          go_wp2
          go_roundg (s.size - (i + 1))
          case measure => omega
          case rel => exact ⟨i + 1, _, rfl, (by push_cast; rfl), rfl, rfl, by omega, by push_cast; omega, HN⟩
    · have HN := Lib.hid (num_stop (by omega) HI.out)
      go_wp2
      go_ret2
      exact opt_some HN.out rfl
theorem pruns (s : ByteArray) (hs : s.size ≤ 2000000000) (a : Nat) (ha : a ≤ 2000000002) (base : Nat) (hb : base = 10 ∨ base = 16) (r : Nat) (h : a + runN base ((bytesOf s).drop a) = r) : PRuns s a base r := fun W => by
  have := prun_c W s hs a ha base hb
  rw [h] at this
  exact this
theorem dot_no {s : ByteArray} (hs : s.size ≤ 2000000000) {r : Nat} (h : placesN (bytesOf s) r = 0) : DotNo s r := by
  by_cases hl : r < s.size
  · refine .inr ⟨hl, ?_⟩
    unfold placesN at h
    rw [byte_at hl] at h
    have e0 := byte_beq s[r] 46
    by_cases hc : s[r].toNat = 46
    · rw [if_pos (by rw [hc])] at h
      exact .inr ⟨e0.trans (decide_eq_true hc), pruns s hs (r + 1) (by omega) 10 (.inl rfl) (r + 1) (by rw [h])⟩
    · exact .inl (e0.trans (decide_eq_false hc))
  · exact .inl (by omega)
theorem hex_no {s : ByteArray} (hs : s.size ≤ 2000000000) {r : Nat} (hr : r ≤ s.size) (hx : hexHead (bytesOf s) = false) : HexNo s r := by
  by_cases h1 : r = 1
  · refine .inr ⟨by rw [beq_iff_eq]; omega, by omega, ?_⟩
    subst h1
    have e0 := byte_beq s[0] 48
    by_cases hc : s[0].toNat = 48
    · refine .inr ⟨e0.trans (decide_eq_true hc), ?_⟩
      by_cases hl : 1 < s.size
      · refine .inr ⟨hl, ?_⟩
        have e1 := byte_beq s[1] 120
        have e2 := byte_beq s[1] 88
        have e3 := byte_beq s[1] 46
        have rest : (s[1].toNat = 120 ∨ s[1].toNat = 88) → PRuns s 2 16 2 := fun hc2 => by
          refine pruns s hs 2 (by omega) 16 (.inr rfl) 2 ?_
          have hz : runN 16 ((bytesOf s).drop 2) = 0 := by
            by_cases h2 : 2 < s.size
            · rw [hex_long h2] at hx
              have hd : isDig 16 s[2].toNat = false := by
                revert hx
                rw [hc]
                rcases hc2 with hc2 | hc2 <;> rw [hc2] <;> cases isDig 16 s[2].toNat <;> decide
              rw [bytesOf_drop s 2 h2]
              unfold runN
              rw [hd]; rfl
            · rw [bytesOf_end s 2 (by omega)]; rfl
          omega
        by_cases hc1 : s[1].toNat = 120
        · exact .inr ⟨rest (.inl hc1), e3.trans (decide_eq_false (by omega)), .inl (e1.trans (decide_eq_true hc1))⟩
        · by_cases hc2 : s[1].toNat = 88
          · exact .inr ⟨rest (.inr hc2), e3.trans (decide_eq_false (by omega)), .inr ⟨e1.trans (decide_eq_false hc1), e2.trans (decide_eq_true hc2)⟩⟩
          · exact .inl ⟨e1.trans (decide_eq_false hc1), e2.trans (decide_eq_false hc2)⟩
      · exact .inl (by omega)
    · exact .inl (e0.trans (decide_eq_false hc))
  · exact .inl (by rw [beq_eq_false_iff_ne]; omega)
set_option maxRecDepth 100000 in
set_option maxHeartbeats 4000000 in
theorem pnumber_flat_none (w : World) (s : ByteArray) (hex : Bool) (B : Int) (hB : (hex = true ∧ B = 16) ∨ (hex = false ∧ B = 10)) (f e : Nat) (hfe : f ≤ e) (he : e ≤ s.size) (hs : s.size ≤ 2000000000)
    (hint : ∀ W, Calls Tryz.prog 175 #[.string (s.extract f e), .int .i64 B] W (OptPost W none)) (R : RR) (hR : R = .error 6) :
    Calls Tryz.prog 153 #[.agg #[.bool hex, .int .i64 (-1), .int .i64 (e : Nat), .int .i64 (f : Nat)], .string s] w (NumPost w R) := by
  have HB := Lib.hid (below2w w (o4 hex (-1) e f) (o2 0 0))
  have hsl := slice_run s (f : Int) (e : Int) f e rfl rfl hfe he
  have HINT := Lib.hid hint
  have HR := Lib.hid hR
  clear hint hR
  rcases hB with ⟨rfl, rfl⟩ | ⟨rfl, rfl⟩
  all_goals
    go_enter Tryz.func153, Tryz.ntmps153
    go_wp2
    refine wp_region_lex mixed (by kernel_rfl) ?_
    go_wp2
    refine ⟨by kernel_rfl, ?_⟩
    go_wp2_with fail
    refine (HINT.out _).mono ?_
    rintro e w1 ⟨rfl, rfl⟩
    go_wp2
    refine bodyPost_ret (by simp [results, Tryz.results153, go_sem]; first | done | rfl) rfl ?_
    exact num_err HR.out HB.out.drew
set_option maxRecDepth 100000 in
set_option maxHeartbeats 4000000 in
theorem pnumber_flat_some (w : World) (s : ByteArray) (hex : Bool) (B : Int) (hB : (hex = true ∧ B = 16) ∨ (hex = false ∧ B = 10)) (f e : Nat) (hfe : f ≤ e) (he : e ≤ s.size) (hs : s.size ≤ 2000000000) (n : Nat)
    (hint : ∀ W, Calls Tryz.prog 175 #[.string (s.extract f e), .int .i64 B] W (OptPost W (some n))) (R : RR) (hR : R = makeN (numV (some n)) 1) :
    Calls Tryz.prog 153 #[.agg #[.bool hex, .int .i64 (-1), .int .i64 (e : Nat), .int .i64 (f : Nat)], .string s] w (NumPost w R) := by
  have HB := Lib.hid (below2w w (o4 hex (-1) e f) (o2 0 0))
  have hsl := slice_run s (f : Int) (e : Int) f e rfl rfl hfe he
  have HINT := Lib.hid hint
  have hways := mk_ways (by decide) hR
  clear hint hR
  rcases hB with ⟨rfl, rfl⟩ | ⟨rfl, rfl⟩ <;> rcases hways with ⟨hE, hR⟩ | ⟨hE, hR⟩
  all_goals
    have HR := Lib.hid hR
    clear hR
    go_enter Tryz.func153, Tryz.ntmps153
    go_wp2
    refine wp_region_lex mixed (by kernel_rfl) ?_
    go_wp2
    refine ⟨by kernel_rfl, ?_⟩
    go_wp2_with fail
    refine (HINT.out _).mono ?_
    rintro e w1 ⟨rfl, rfl⟩
    go_wp2_with fail
    refine (rmake_c _ _ _).mono ?_
    rintro e w2 ⟨rfl, hb⟩
    have hz := hb.size
    simp at hz
    obtain ⟨hc, hf⟩ := bcell hb
    have c0 : (w2.alloc (.cells #[.int .i64 (nP (makeN (numV (some n)) 1)), .int .i64 (nQ (makeN (numV (some n)) 1))] 28)).cell? ⟨w.heap.size + 1, 0, none⟩ = some (.int .i64 0) := (cell_alloc_old (by omega)).trans ((hc _ _ (by simp)).trans (by simp [go_sem]))
    have c1 : (w2.alloc (.cells #[.int .i64 (nP (makeN (numV (some n)) 1)), .int .i64 (nQ (makeN (numV (some n)) 1))] 28)).cell? ⟨w.heap.size + 1, 1, none⟩ = some (.int .i64 0) := (cell_alloc_old (by omega)).trans ((hc _ _ (by simp)).trans (by simp [go_sem]))
    have f0 : (w2.alloc (.cells #[.int .i64 (nP (makeN (numV (some n)) 1)), .int .i64 (nQ (makeN (numV (some n)) 1))] 28)).frozen? ⟨w.heap.size + 1, 0, none⟩ = false := (frozen_alloc_old (by omega)).trans ((hf _ _ (by simp)).trans (by simp [go_sem]))
    have f1 : (w2.alloc (.cells #[.int .i64 (nP (makeN (numV (some n)) 1)), .int .i64 (nQ (makeN (numV (some n)) 1))] 28)).frozen? ⟨w.heap.size + 1, 1, none⟩ = false := (frozen_alloc_old (by omega)).trans ((hf _ _ (by simp)).trans (by simp [go_sem]))
    have HB2 := Lib.hid ((below_next (bdn HB.out _) hb).alloc (by omega) (.cells #[.int .i64 (nP (makeN (numV (some n)) 1)), .int .i64 (nQ (makeN (numV (some n)) 1))] 28))
    clear hb hc hf
    go_wp2
    refine bodyPost_ret (by simp [results, Tryz.results153, go_sem, c0, c1]; first | done | rfl) rfl ?_
    first
    | exact num_err HR.out (below_two HB2.out (by omega) _ _)
    | exact num_ok0 HR.out.1 HR.out.2 (below_two HB2.out (by omega) _ _)
set_option maxRecDepth 100000 in
set_option maxHeartbeats 4000000 in
theorem pnumber_long (w : World) (s : ByteArray) (r e : Nat) (hre : r + 1 ≤ e) (he : e ≤ s.size) (hs : s.size ≤ 2000000000) (hP : 9 < e - (r + 1)) (R : RR) (hR : R = .error 6) :
    Calls Tryz.prog 153 #[.agg #[.bool false, .int .i64 (r : Nat), .int .i64 (e : Nat), .int .i64 0], .string s] w (NumPost w R) := by
  have HB := Lib.hid (below2w w (o4 false r e 0) (o2 0 0))
  have hsl := slice_run s 0 (e : Int) 0 e rfl rfl (by omega) he
  have hsl2 := slice_run s ((r : Int) + 1) (e : Int) (r + 1) e (by omega) rfl hre he
  have hz : (s.extract (r + 1) e).size = e - (r + 1) := by rw [ByteArray.size_extract]; omega
  have hz9 : 9 < (s.extract (r + 1) e).size := by omega
  have HR := Lib.hid hR
  clear hR hz
  go_enter Tryz.func153, Tryz.ntmps153
  go_wp2
  refine wp_region_lex mixed (by kernel_rfl) ?_
  go_wp2
  refine ⟨by kernel_rfl, ?_⟩
  go_wp2
  refine bodyPost_ret (by simp [results, Tryz.results153, go_sem]; first | done | rfl) rfl ?_
  exact num_err HR.out HB.out.drew
set_option maxRecDepth 100000 in
set_option maxHeartbeats 4000000 in
theorem pnumber_places (w : World) (s X : ByteArray) (r e P : Nat) (hre : r + 1 ≤ e) (he : e ≤ s.size) (hs : s.size ≤ 2000000000) (hPe : P = e - (r + 1)) (hP : P ≤ 9)
    (had : ∀ W, (Op.stringOp .add (s.extract 0 r) (s.extract (r + 1) e)).run Tryz.prog W = .ok (.string X) W) (A : Option Nat)
    (hint : ∀ W, Calls Tryz.prog 175 #[.string X, .int .i64 10] W (OptPost W A)) (R : RR) (hR : R = mkR A ((10 ^ P : Nat) : Int)) :
    Calls Tryz.prog 153 #[.agg #[.bool false, .int .i64 (r : Nat), .int .i64 (e : Nat), .int .i64 0], .string s] w (NumPost w R) := by
  have HB := Lib.hid (below2w w (o4 false r e 0) (o2 0 0))
  have hsl := slice_run s 0 (e : Int) 0 e rfl rfl (by omega) he
  have hsl2 := slice_run s ((r : Int) + 1) (e : Int) (r + 1) e (by omega) rfl hre he
  have hsl3 := slice_run s 0 (r : Int) 0 r rfl rfl (by omega) (by omega)
  obtain ⟨Y, hY⟩ : ∃ Y, Y = s.extract (r + 1) e := ⟨_, rfl⟩
  have hz : Y.size = P := by rw [hY, ByteArray.size_extract]; omega
  rw [← hY] at hsl2 had
  have HR := Lib.hid hR
  have HINT := Lib.hid hint
  clear hR hint hY hPe
  obtain ⟨q, hq⟩ : ∃ q : Int, ((10 ^ P : Nat) : Int) = q := ⟨_, rfl⟩
  rw [hq] at HR
  have HQ := Lib.hid hq
  clear hq
  go_enter Tryz.func153, Tryz.ntmps153
  go_wp2
  refine wp_region_lex mixed (by kernel_rfl) ?_
  go_wp2
  refine ⟨by kernel_rfl, ?_⟩
  go_wp2
  go_loopg [8, 46] P (fun gg vu vi wr => ∃ i u : Nat, gg = P - i ∧ vu = .int .i64 (u : Int) ∧ vi = .int .i64 (i : Int) ∧ wr = ((w.alloc (o4 false r e 0)).alloc (o2 0 0)).drew ∧ i ≤ P ∧ u ≤ 1000000000 ∧ Hid (u = 10 ^ i))
  case atStart => exact ⟨0, 1, rfl, rfl, rfl, rfl, Nat.zero_le _, by decide, Lib.hid rfl⟩
  case round =>
    obtain ⟨i, u, rfl, rfl, rfl, rfl, hi, hu, HU⟩ := hrel
    by_cases hlt : i < P
    · have HN := Lib.hid (show u * 10 = 10 ^ (i + 1) from by rw [HU.out, Nat.pow_succ])
      have hp2 : u * 10 ≤ 1000000000 := by rw [HN.out]; exact pow10_le (by omega)
      go_wp2
      go_roundg (P - (i + 1))
      case measure => omega
      case rel => exact ⟨i + 1, u * 10, rfl, (by push_cast; rfl), rfl, rfl, by omega, hp2, HN⟩
    · have hie : i = P := by omega
      have HQ2 := Lib.hid (show ((u : Nat) : Int) = q by rw [HU.out, hie]; exact HQ.out)
      have hqp : q ≠ 0 := by rw [← HQ.out]; exact pow_ne P
      have HQP := Lib.hid hqp
      clear hqp hie
      cases A with
      | none =>
        go_wp2_with fail
        refine (HINT.out _).mono ?_
        rintro e w1 ⟨rfl, rfl⟩
        go_wp2
        refine bodyPost_ret (by simp [results, Tryz.results153, go_sem]; first | done | rfl) rfl ?_
        exact num_err HR.out HB.out.drew
      | some n =>
        have hways := mk_ways (n := numV (some n)) (q := (u : Int)) (R := R) (by rw [HQ2.out]; exact HQP.out) (by rw [HQ2.out]; exact HR.out)
        clear HR
        rcases hways with ⟨hE, hR⟩ | ⟨hE, hR⟩
        all_goals
          have HR := Lib.hid hR
          clear hR
          go_wp2_with fail
          refine (HINT.out _).mono ?_
          rintro e w1 ⟨rfl, rfl⟩
          go_wp2_with fail
          refine (rmake_c _ _ _).mono ?_
          rintro e w2 ⟨rfl, hb⟩
          have hz := hb.size
          simp at hz
          obtain ⟨hc, hf⟩ := bcell hb
          have c0 : (w2.alloc (.cells #[.int .i64 (nP (makeN (numV (some n)) (u : Int))), .int .i64 (nQ (makeN (numV (some n)) (u : Int)))] 28)).cell? ⟨w.heap.size + 1, 0, none⟩ = some (.int .i64 0) := (cell_alloc_old (by omega)).trans ((hc _ _ (by simp)).trans (by simp [go_sem]))
          have c1 : (w2.alloc (.cells #[.int .i64 (nP (makeN (numV (some n)) (u : Int))), .int .i64 (nQ (makeN (numV (some n)) (u : Int)))] 28)).cell? ⟨w.heap.size + 1, 1, none⟩ = some (.int .i64 0) := (cell_alloc_old (by omega)).trans ((hc _ _ (by simp)).trans (by simp [go_sem]))
          have f0 : (w2.alloc (.cells #[.int .i64 (nP (makeN (numV (some n)) (u : Int))), .int .i64 (nQ (makeN (numV (some n)) (u : Int)))] 28)).frozen? ⟨w.heap.size + 1, 0, none⟩ = false := (frozen_alloc_old (by omega)).trans ((hf _ _ (by simp)).trans (by simp [go_sem]))
          have f1 : (w2.alloc (.cells #[.int .i64 (nP (makeN (numV (some n)) (u : Int))), .int .i64 (nQ (makeN (numV (some n)) (u : Int)))] 28)).frozen? ⟨w.heap.size + 1, 1, none⟩ = false := (frozen_alloc_old (by omega)).trans ((hf _ _ (by simp)).trans (by simp [go_sem]))
          have HB2 := Lib.hid ((below_next (bdn HB.out _) hb).alloc (by omega) (.cells #[.int .i64 (nP (makeN (numV (some n)) (u : Int))), .int .i64 (nQ (makeN (numV (some n)) (u : Int)))] 28))
          clear hb hc hf
          go_wp2
          refine bodyPost_ret (by simp [results, Tryz.results153, go_sem, c0, c1]; first | done | rfl) rfl ?_
          first
          | exact num_err HR.out (below_two HB2.out (by omega) _ _)
          | exact num_ok0 HR.out.1 HR.out.2 (below_two HB2.out (by omega) _ _)
theorem pfind_c (w : World) (s : ByteArray) (hs : s.size ≤ 2000000000) : Calls Tryz.prog 152 #[.string s, .int .i64 0] w (FindPost w (findN (bytesOf s))) := by
  obtain ⟨R, hR⟩ : ∃ R, R = findN (bytesOf s) := ⟨_, rfl⟩
  rw [← hR]
  unfold findN at hR
  cases hx : hexHead (bytesOf s) with
  | true =>
    rw [hx, if_pos rfl] at hR
    have hr1 := hex_run10 hx
    have hrun : PRuns s 0 10 (1 : Nat) := pruns s hs 0 (by omega) 10 (.inl rfl) 1 (by rw [Nat.zero_add]; exact hr1)
    have hl : 2 < s.size := by
      apply Classical.byContradiction
      intro hc
      rw [hex_short (by omega)] at hx
      cases hx
    rw [hex_long hl, Bool.and_eq_true, Bool.and_eq_true, Bool.or_eq_true, beq_iff_eq, beq_iff_eq, beq_iff_eq] at hx
    obtain ⟨⟨h0, h1⟩, h2⟩ := hx
    have hrl := runN_le 16 ((bytesOf s).drop 2)
    rw [List.length_drop, bytesOf_length] at hrl
    have hpos : 1 ≤ runN 16 ((bytesOf s).drop 2) := by
      rw [bytesOf_drop s 2 hl]
      unfold runN
      rw [if_pos h2]
      omega
    obtain ⟨e, he⟩ : ∃ e, 2 + runN 16 ((bytesOf s).drop 2) = e := ⟨_, rfl⟩
    rw [he] at hR
    refine pfindHex w s e R hs hl ((byte_beq s[0] 48).trans (decide_eq_true h0)) ?_ (by omega) (by omega) hrun (pruns s hs 2 (by omega) 16 (.inr rfl) e he) hR
    rcases h1 with h1 | h1
    · exact .inl ((byte_beq s[1] 120).trans (decide_eq_true h1))
    · exact .inr ⟨(byte_beq s[1] 120).trans (decide_eq_false (by omega)), (byte_beq s[1] 88).trans (decide_eq_true h1)⟩
  | false =>
    rw [hx, if_neg (by decide)] at hR
    have hrl := runN_le 10 (bytesOf s)
    rw [bytesOf_length] at hrl
    obtain ⟨r, hr⟩ : ∃ r, runN 10 (bytesOf s) = r := ⟨_, rfl⟩
    have hrun : PRuns s 0 10 r := pruns s hs 0 (by omega) 10 (.inl rfl) r (by rw [Nat.zero_add]; exact hr)
    rw [hr] at hR hrl
    by_cases h0 : r = 0
    · subst h0
      rw [if_pos rfl] at hR
      exact pfind0 w s R hs hrun hR
    · rw [if_neg h0] at hR
      have hr0 : ((r : Int) == 0) = false := by rw [beq_eq_false_iff_ne]; omega
      by_cases hp : placesN (bytesOf s) r = 0
      · rw [if_pos hp] at hR
        exact pfind1 w s r R hs hr0 hrl (hex_no hs hrl hx) hrun (dot_no hs hp) hR
      · rw [if_neg hp] at hR
        obtain ⟨hl1, hp1, hp2, hp3⟩ := has_places hp
        rw [hp3] at hR hp
        have hrl1 := runN_le 10 ((bytesOf s).drop (r + 1))
        rw [List.length_drop, bytesOf_length] at hrl1
        obtain ⟨e, he⟩ : ∃ e, r + 1 + runN 10 ((bytesOf s).drop (r + 1)) = e := ⟨_, rfl⟩
        rw [he] at hR
        exact pfind2 w s r R hs hr0 hrl (hex_no hs hrl hx) hrun e (by omega) hp1 (pruns s hs (r + 1) (by omega) 10 (.inl rfl) e he) (by omega) (by omega) hR
theorem pint_to {base : Nat} (hb : base = 10 ∨ base = 16) {s : ByteArray} (hs : s.size ≤ 2000000000) (h : AllDig base (bytesOf s)) (W : World) {A : Option Nat} (hA : numG base (bytesOf s) 0 = A) :
    Calls Tryz.prog 175 #[.string s, .int .i64 base] W (OptPost W A) := hA ▸ pinteger_c W s hs base hb (allDig_at h)
theorem pnumber_c (w : World) (s : ByteArray) (hs : s.size ≤ 2000000000) (hx : Bool) (p : Int) (e f : Nat) (hF : findN (bytesOf s) = some (hx, p, e, f)) :
    Calls Tryz.prog 153 #[.agg #[.bool hx, .int .i64 p, .int .i64 (e : Nat), .int .i64 (f : Nat)], .string s] w (NumPost w (numeralG (bytesOf s)).2) := by
  unfold findN at hF
  cases hh : hexHead (bytesOf s) with
  | true =>
    rw [hh, if_pos rfl] at hF
    injection hF with hF
    simp only [Prod.mk.injEq] at hF
    obtain ⟨rfl, rfl, rfl, rfl⟩ := hF
    rw [numeral_hex hh]
    have hrl := runN_le 16 ((bytesOf s).drop 2)
    rw [List.length_drop, bytesOf_length] at hrl
    have h2 : 2 < s.size := by
      apply Classical.byContradiction
      intro hc
      rw [hex_short (by omega)] at hh
      cases hh
    obtain ⟨j, hj⟩ : ∃ j, 2 + runN 16 ((bytesOf s).drop 2) = j := ⟨_, rfl⟩
    have hbx : bytesOf (s.extract 2 j) = ((bytesOf s).drop 2).take (runN 16 ((bytesOf s).drop 2)) := by rw [bytesOf_extract, ← hj, Nat.add_sub_cancel_left]
    have had : AllDig 16 (bytesOf (s.extract 2 j)) := by rw [hbx]; exact run_take 16 _
    have hz : (s.extract 2 j).size ≤ 2000000000 := by rw [ByteArray.size_extract]; omega
    rw [hj, ← hbx]
    show Calls _ _ _ _ (NumPost w (hexN (bytesOf (s.extract 2 j))))
    obtain ⟨A, hA⟩ : ∃ A, numG 16 (bytesOf (s.extract 2 j)) 0 = A := ⟨_, rfl⟩
    have hint : ∀ W, Calls Tryz.prog 175 #[.string (s.extract 2 j), .int .i64 16] W (OptPost W A) := fun W => pint_to (.inr rfl) hz had W hA
    unfold hexN
    rw [hA]
    cases A with
    | none => exact pnumber_flat_none w s true 16 (.inl ⟨rfl, rfl⟩) 2 j (by omega) (by omega) hs hint _ rfl
    | some n => exact pnumber_flat_some w s true 16 (.inl ⟨rfl, rfl⟩) 2 j (by omega) (by omega) hs n hint _ rfl
  | false =>
    rw [hh, if_neg (by decide)] at hF
    rw [numeral_dec hh]
    have hrl := runN_le 10 (bytesOf s)
    rw [bytesOf_length] at hrl
    have hdig := run_take 10 (bytesOf s)
    obtain ⟨r, hr⟩ : ∃ r, runN 10 (bytesOf s) = r := ⟨_, rfl⟩
    rw [hr] at hF hrl hdig ⊢
    by_cases h0 : r = 0
    · rw [if_pos h0] at hF; cases hF
    · rw [if_neg h0] at hF ⊢
      have hbx : bytesOf (s.extract 0 r) = (bytesOf s).take r := bytes_to s r
      have hz : (s.extract 0 r).size ≤ 2000000000 := by rw [size_to s hrl]; omega
      rw [← hbx] at hdig
      by_cases hp : placesN (bytesOf s) r = 0
      · rw [if_pos hp] at hF ⊢
        injection hF with hF
        simp only [Prod.mk.injEq] at hF
        obtain ⟨rfl, rfl, rfl, rfl⟩ := hF
        rw [← hbx]
        show Calls _ _ _ _ (NumPost w (decN (bytesOf (s.extract 0 r)) 0))
        obtain ⟨A, hA⟩ : ∃ A, numG 10 (bytesOf (s.extract 0 r)) 0 = A := ⟨_, rfl⟩
        have hint : ∀ W, Calls Tryz.prog 175 #[.string (s.extract 0 r), .int .i64 10] W (OptPost W A) := fun W => pint_to (.inl rfl) hz hdig W hA
        unfold decN
        rw [hA]
        cases A with
        | none => exact pnumber_flat_none w s false 10 (.inr ⟨rfl, rfl⟩) 0 r (by omega) (by omega) hs hint _ rfl
        | some n => exact pnumber_flat_some w s false 10 (.inr ⟨rfl, rfl⟩) 0 r (by omega) (by omega) hs n hint _ rfl
      · rw [if_neg hp] at hF ⊢
        obtain ⟨hl1, hp1, hp2, hp3⟩ := has_places hp
        injection hF with hF
        simp only [Prod.mk.injEq] at hF
        obtain ⟨rfl, rfl, rfl, rfl⟩ := hF
        rw [hp3]
        have hrl1 := runN_le 10 ((bytesOf s).drop (r + 1))
        rw [List.length_drop, bytesOf_length] at hrl1
        have hdig2 := run_take 10 ((bytesOf s).drop (r + 1))
        obtain ⟨P, hP⟩ : ∃ P, runN 10 ((bytesOf s).drop (r + 1)) = P := ⟨_, rfl⟩
        rw [hP] at hrl1 hdig2 ⊢
        obtain ⟨e, he⟩ : ∃ e, r + 1 + P = e := ⟨_, rfl⟩
        rw [he]
        have hby : bytesOf (s.extract (r + 1) e) = ((bytesOf s).drop (r + 1)).take P := by rw [bytesOf_extract, ← he, Nat.add_sub_cancel_left]
        have hyz : (s.extract (r + 1) e).size = P := by rw [ByteArray.size_extract]; omega
        have had := add_run (s.extract 0 r) (s.extract (r + 1) e) (by rw [size_to s hrl]; omega)
        rw [← hby] at hdig2
        rw [← hbx, ← hby, ← bytesOf_append]
        have hXz : (s.extract 0 r ++ s.extract (r + 1) e).size ≤ 2000000000 := by rw [ByteArray.size_append, size_to s hrl]; omega
        have hXd : AllDig 10 (bytesOf (s.extract 0 r ++ s.extract (r + 1) e)) := by
          rw [bytesOf_append]
          intro c hc
          rcases List.mem_append.1 hc with hc | hc
          · exact hdig c hc
          · exact hdig2 c hc
        show Calls _ _ _ _ (NumPost w (decN (bytesOf (s.extract 0 r ++ s.extract (r + 1) e)) P))
        obtain ⟨A, hA⟩ : ∃ A, numG 10 (bytesOf (s.extract 0 r ++ s.extract (r + 1) e)) 0 = A := ⟨_, rfl⟩
        unfold decN
        rw [hA]
        by_cases h9 : 9 < P
        · have hR : (match A with | none => (.error 6 : RR) | some n => if 9 < P then .error 6 else makeN n ((10 : Nat) ^ P : Nat)) = .error 6 := by
            cases A with
            | none => rfl
            | some n => exact if_pos h9
          exact pnumber_long w s r e (by omega) (by omega) hs (by omega) _ hR
        · have hR := dec_mk A h9
          exact pnumber_places w s _ r e P (by omega) (by omega) hs (by omega) (by omega) had A (fun W => pint_to (.inl rfl) hXz hXd W hA) _ hR
theorem cutTo_none {w : World} {s : ByteArray} (hs : s.size ≤ 2000000000) {m : Int} (hm : w.cell? ⟨0, 0, none⟩ = some (.int .i64 m)) (h : slashAt (bytesOf s) = none) : CutTo s s ⟨#[]⟩ false w := fun W hW => by
  have := Tryz.strings_Cut s ⟨#[47]⟩ m W (by omega) (hW.trans hm)
  rw [show (⟨#[47]⟩ : ByteArray).data.toList = [47] from rfl, cut_none h] at this
  simpa using this
theorem cutTo_some {w : World} {s : ByteArray} (hs : s.size ≤ 2000000000) {m : Int} (hm : w.cell? ⟨0, 0, none⟩ = some (.int .i64 m)) {k : Nat} (h : slashAt (bytesOf s) = some k) :
    CutTo s ⟨(s.data.toList.take k).toArray⟩ ⟨(s.data.toList.drop (k + 1)).toArray⟩ true w := fun W hW => by
  have := Tryz.strings_Cut s ⟨#[47]⟩ m W (by omega) (hW.trans hm)
  rw [show (⟨#[47]⟩ : ByteArray).data.toList = [47] from rfl, cut_some h] at this
  exact this
set_option maxRecDepth 100000 in
set_option maxHeartbeats 4000000 in
theorem pfrac_form (w : World) (s p q : ByteArray) (b : Bool) (R : RR) (hcut : CutTo s p q b w) (h00 : 0 < w.heap.size)
    (hw : b = false ∨ (b = true ∧ FormWays p q))
    (hps : p.size ≤ 2000000000) (hqs : q.size ≤ 2000000000) (hR : R = .error 4) :
    Calls Tryz.prog 154 #[.string s] w (NumPost w R) := by
  have HB := Lib.hid (((Below.refl w.heap.size w).alloc (Nat.le_refl _) (o2 0 0)))
  have HCUT := Lib.hid (hcut (w.alloc (o2 0 0)) (cell_alloc_old h00))
  have HR := Lib.hid hR
  clear hcut hR
  rcases hw with rfl | ⟨rfl, hp | ⟨hp, hq, hpq⟩ | ⟨hp, hq, hpq, a, ha, hae⟩ | ⟨hp, hq, hpq, ⟨a, ha, hae⟩, a2, ha2, hae2⟩⟩
  · go_enter Tryz.func154, Tryz.ntmps154
    go_wp2_with fail
    refine HCUT.out.mono ?_
    rintro e w1 ⟨rfl, n, rfl⟩
    go_wp2
    refine bodyPost_ret (by simp [results, Tryz.results154, go_sem]; first | done | rfl) rfl ?_
    exact num_err HR.out (by first | exact HB.out | exact HB.out.drew | exact bdn HB.out _ | exact below_two HB.out (by simp <;> omega) _ _ | exact below_two HB.out (Nat.le_refl _) _ _ | exact below_two HB.out.drew (by simp <;> omega) _ _ | exact below_two HB.out.drew (Nat.le_refl _) _ _ | exact below_two (bdn HB.out _) (by simp <;> omega) _ _)
  · go_enter Tryz.func154, Tryz.ntmps154
    go_wp2_with fail
    refine HCUT.out.mono ?_
    rintro e w1 ⟨rfl, n, rfl⟩
    go_wp2
    refine bodyPost_ret (by simp [results, Tryz.results154, go_sem]; first | done | rfl) rfl ?_
    exact num_err HR.out (by first | exact HB.out | exact HB.out.drew | exact bdn HB.out _ | exact below_two HB.out (by simp <;> omega) _ _ | exact below_two HB.out (Nat.le_refl _) _ _ | exact below_two HB.out.drew (by simp <;> omega) _ _ | exact below_two HB.out.drew (Nat.le_refl _) _ _ | exact below_two (bdn HB.out _) (by simp <;> omega) _ _)
  · go_enter Tryz.func154, Tryz.ntmps154
    go_wp2_with fail
    refine HCUT.out.mono ?_
    rintro e w1 ⟨rfl, n, rfl⟩
    go_wp2
    refine bodyPost_ret (by simp [results, Tryz.results154, go_sem]; first | done | rfl) rfl ?_
    exact num_err HR.out (by first | exact HB.out | exact HB.out.drew | exact bdn HB.out _ | exact below_two HB.out (by simp <;> omega) _ _ | exact below_two HB.out (Nat.le_refl _) _ _ | exact below_two HB.out.drew (by simp <;> omega) _ _ | exact below_two HB.out.drew (Nat.le_refl _) _ _ | exact below_two (bdn HB.out _) (by simp <;> omega) _ _)
  · have HA := Lib.hid ha
    clear ha
    go_enter Tryz.func154, Tryz.ntmps154
    go_wp2_with fail
    refine HCUT.out.mono ?_
    rintro e w1 ⟨rfl, n, rfl⟩
    go_wp2_with fail
    refine (HA.out _).mono ?_
    rintro e w1 ⟨rfl, rfl⟩
    go_wp2
    refine bodyPost_ret (by simp [results, Tryz.results154, go_sem]; first | done | rfl) rfl ?_
    exact num_err HR.out (by first | exact HB.out | exact HB.out.drew | exact bdn HB.out _ | exact below_two HB.out (by simp <;> omega) _ _ | exact below_two HB.out (Nat.le_refl _) _ _ | exact below_two HB.out.drew (by simp <;> omega) _ _ | exact below_two HB.out.drew (Nat.le_refl _) _ _ | exact below_two (bdn HB.out _) (by simp <;> omega) _ _)
  · have HA := Lib.hid ha
    have HA2 := Lib.hid ha2
    clear ha ha2
    go_enter Tryz.func154, Tryz.ntmps154
    go_wp2_with fail
    refine HCUT.out.mono ?_
    rintro e w1 ⟨rfl, n, rfl⟩
    go_wp2_with fail
    refine (HA.out _).mono ?_
    rintro e w1 ⟨rfl, rfl⟩
    go_wp2_with fail
    refine (HA2.out _).mono ?_
    rintro e w1 ⟨rfl, rfl⟩
    go_wp2
    refine bodyPost_ret (by simp [results, Tryz.results154, go_sem]; first | done | rfl) rfl ?_
    exact num_err HR.out (by first | exact HB.out | exact HB.out.drew | exact bdn HB.out _ | exact below_two HB.out (by simp <;> omega) _ _ | exact below_two HB.out (Nat.le_refl _) _ _ | exact below_two HB.out.drew (by simp <;> omega) _ _ | exact below_two HB.out.drew (Nat.le_refl _) _ _ | exact below_two (bdn HB.out _) (by simp <;> omega) _ _)
set_option maxRecDepth 100000 in
set_option maxHeartbeats 4000000 in
theorem pfrac_frac (w : World) (s p q : ByteArray) (A B : Option Nat) (R : RR) (hcut : CutTo s p q true w) (h00 : 0 < w.heap.size)
    (hp : p.toList.isEmpty = false) (hq : q.toList.isEmpty = false) (hpq : (p.toList.isEmpty || q.toList.isEmpty) = false) (a a2 : Nat) (ha : PRuns p 0 10 a) (hae : ((a : Int) != (p.size : Int)) = false) (ha2 : PRuns q 0 10 a2) (hae2 : ((a2 : Int) != (q.size : Int)) = false)
    (hps : p.size ≤ 2000000000) (hqs : q.size ≤ 2000000000) (hA : IntTo p A) (hB : IntTo q B)
    (hR : (R = .error 6 ∧ (A = none ∨ ∃ x, A = some x ∧ B = none)) ∨ ∃ x y, A = some x ∧ B = some y ∧ (R = .error 6 ∧ ((((nE (makeN (numV (some x)) (numV (some y))) : Nat) : Int) != 0) = true) ∨ ((((nE (makeN (numV (some x)) (numV (some y))) : Nat) : Int) != 0) = false ∧ R = makeN (numV (some x)) (numV (some y)) ∧ nE R = 0))) :
    Calls Tryz.prog 154 #[.string s] w (NumPost w R) := by
  have HB := Lib.hid (((Below.refl w.heap.size w).alloc (Nat.le_refl _) (o2 0 0)))
  have HCUT := Lib.hid (hcut (w.alloc (o2 0 0)) (cell_alloc_old h00))
  have HA := Lib.hid ha
  have HA2 := Lib.hid ha2
  have HI := Lib.hid hA
  have HI2 := Lib.hid hB
  clear hcut ha ha2 hA hB
  rcases hR with ⟨hR, rfl | ⟨x, rfl, rfl⟩⟩ | ⟨x, y, rfl, rfl, ⟨hR, hE⟩ | ⟨hE, hR⟩⟩
  all_goals
    have HR := Lib.hid hR
    clear hR
    go_enter Tryz.func154, Tryz.ntmps154
    go_wp2_with fail
    refine HCUT.out.mono ?_
    rintro e w1 ⟨rfl, n, rfl⟩
    go_wp2_with fail
    refine (HA.out _).mono ?_
    rintro e w1 ⟨rfl, rfl⟩
    go_wp2_with fail
    refine (HA2.out _).mono ?_
    rintro e w1 ⟨rfl, rfl⟩
    go_wp2_with fail
    refine (HI.out _).mono ?_
    rintro e w1 ⟨rfl, rfl⟩
    go_wp2_with fail
    refine (HI2.out _).mono ?_
    rintro e w1 ⟨rfl, rfl⟩
    go_wp2_with fail
  · refine bodyPost_ret (by simp [results, Tryz.results154, go_sem]; first | done | rfl) rfl ?_
    exact num_err HR.out (by first | exact HB.out | exact HB.out.drew | exact bdn HB.out _ | exact below_two HB.out (by simp <;> omega) _ _ | exact below_two HB.out (Nat.le_refl _) _ _ | exact below_two HB.out.drew (by simp <;> omega) _ _ | exact below_two HB.out.drew (Nat.le_refl _) _ _ | exact below_two (bdn HB.out _) (by simp <;> omega) _ _)
  · refine bodyPost_ret (by simp [results, Tryz.results154, go_sem]; first | done | rfl) rfl ?_
    exact num_err HR.out (by first | exact HB.out | exact HB.out.drew | exact bdn HB.out _ | exact below_two HB.out (by simp <;> omega) _ _ | exact below_two HB.out (Nat.le_refl _) _ _ | exact below_two HB.out.drew (by simp <;> omega) _ _ | exact below_two HB.out.drew (Nat.le_refl _) _ _ | exact below_two (bdn HB.out _) (by simp <;> omega) _ _)
  all_goals
    refine (rmake_c _ _ _).mono ?_
    rintro e w2 ⟨rfl, hb⟩
    have hz := hb.size
    simp at hz
    obtain ⟨hc, hf⟩ := bcell hb
    have c0 : ∀ x y, (w2.alloc (.cells #[x, y] 28)).cell? ⟨w.heap.size, 0, none⟩ = some (.int .i64 0) := fun x y => (cell_alloc_old (by omega)).trans ((hc _ _ (by simp)).trans (by simp [go_sem]))
    have c1 : ∀ x y, (w2.alloc (.cells #[x, y] 28)).cell? ⟨w.heap.size, 1, none⟩ = some (.int .i64 0) := fun x y => (cell_alloc_old (by omega)).trans ((hc _ _ (by simp)).trans (by simp [go_sem]))
    have f0 : ∀ x y, (w2.alloc (.cells #[x, y] 28)).frozen? ⟨w.heap.size, 0, none⟩ = false := fun x y => (frozen_alloc_old (by omega)).trans ((hf _ _ (by simp)).trans (by simp [go_sem]))
    have f1 : ∀ x y, (w2.alloc (.cells #[x, y] 28)).frozen? ⟨w.heap.size, 1, none⟩ = false := fun x y => (frozen_alloc_old (by omega)).trans ((hf _ _ (by simp)).trans (by simp [go_sem]))
    have HB2 := fun x y => Lib.hid ((below_next (bdn HB.out _) hb).alloc (by omega) (.cells #[x, y] 28))
    clear hb hc hf
    go_wp2
    refine bodyPost_ret (by simp [results, Tryz.results154, go_sem, c0, c1]; first | done | rfl) rfl ?_
    first
    | exact num_err HR.out (below_two (HB2 _ _).out (Nat.le_refl _) _ _)
    | exact num_ok0 HR.out.1 HR.out.2 (below_two (HB2 _ _).out (Nat.le_refl _) _ _)
theorem digits_false {p : ByteArray} (hs : p.size ≤ 2000000000) (h : digitsN (bytesOf p) = false) : p.toList.isEmpty = true ∨ (p.toList.isEmpty = false ∧ ∃ a : Nat, PRuns p 0 10 a ∧ ((a : Int) != (p.size : Int)) = true) := by
  by_cases h0 : p.size = 0
  · exact .inl (emp_true h0)
  · refine .inr ⟨emp_false (by omega), runN 10 (bytesOf p), pruns p hs 0 (by omega) 10 (.inl rfl) _ (by rw [Nat.zero_add]; rfl), ?_⟩
    rw [digits_run (by omega)] at h
    have := of_decide_eq_false h
    rw [bne_iff_ne]
    omega
theorem digits_true {p : ByteArray} (hs : p.size ≤ 2000000000) (h : digitsN (bytesOf p) = true) : p.toList.isEmpty = false ∧ (∃ a : Nat, PRuns p 0 10 a ∧ ((a : Int) != (p.size : Int)) = false) ∧ AllDig 10 (bytesOf p) := by
  by_cases h0 : p.size = 0
  · rw [digits_nil h0] at h; cases h
  · rw [digits_run (by omega)] at h
    have h := of_decide_eq_true h
    refine ⟨emp_false (by omega), ⟨runN 10 (bytesOf p), pruns p hs 0 (by omega) 10 (.inl rfl) _ (by rw [Nat.zero_add]; rfl), ?_⟩, ?_⟩
    · rw [bne_eq_false_iff_eq]
      omega
    · have := run_take 10 (bytesOf p)
      rw [h, List.take_of_length_le (by rw [bytesOf_length]; exact Nat.le_refl _)] at this
      exact this
theorem pfrac_c (w : World) (s : ByteArray) (hs : s.size ≤ 2000000000) (m : Int) (hm : w.cell? ⟨0, 0, none⟩ = some (.int .i64 m)) :
    Calls Tryz.prog 154 #[.string s] w (NumPost w (fracN (bytesOf s))) := by
  have h00 : 0 < w.heap.size := World.block_lt_of_cell? _ _ hm
  obtain ⟨R, hR⟩ : ∃ R, R = fracN (bytesOf s) := ⟨_, rfl⟩
  rw [← hR]
  unfold fracN at hR
  cases hk : slashAt (bytesOf s) with
  | none =>
    rw [hk] at hR
    exact pfrac_form w s s ⟨#[]⟩ false R (cutTo_none hs hm hk) h00 (.inl rfl) hs (by decide) hR
  | some k =>
    rw [hk] at hR
    have hR : R = fractionN ((bytesOf s).take k) ((bytesOf s).drop (k + 1)) := hR
    have hcut := cutTo_some hs hm hk
    obtain ⟨p, hp⟩ : ∃ p : ByteArray, p = ⟨(s.data.toList.take k).toArray⟩ := ⟨_, rfl⟩
    obtain ⟨q, hq⟩ : ∃ q : ByteArray, q = ⟨(s.data.toList.drop (k + 1)).toArray⟩ := ⟨_, rfl⟩
    have hbp : bytesOf p = (bytesOf s).take k := by rw [hp, bytes_list, List.map_take]; rfl
    have hbq : bytesOf q = (bytesOf s).drop (k + 1) := by rw [hq, bytes_list, List.map_drop]; rfl
    rw [← hp, ← hq] at hcut
    have zp : p.size ≤ 2000000000 := by rw [← bytesOf_length, hbp, List.length_take, bytesOf_length]; omega
    have zq : q.size ≤ 2000000000 := by rw [← bytesOf_length, hbq, List.length_drop, bytesOf_length]; omega
    rw [← hbp, ← hbq] at hR
    unfold fractionN at hR
    cases d1 : digitsN (bytesOf p) with
    | false =>
      rw [d1, Bool.false_and, if_neg (by decide)] at hR
      refine pfrac_form w s p q true R hcut h00 (.inr ⟨rfl, ?_⟩) zp zq hR
      rcases digits_false zp d1 with h | ⟨h, h2⟩
      · exact .inl h
      · cases hqe : q.toList.isEmpty with
        | true => exact .inr (.inl ⟨h, hqe, by rw [h, hqe]; rfl⟩)
        | false => exact .inr (.inr (.inl ⟨h, hqe, by rw [h, hqe]; rfl, h2⟩))
    | true =>
      obtain ⟨e1, e2, e3⟩ := digits_true zp d1
      cases d2 : digitsN (bytesOf q) with
      | false =>
        rw [d1, d2, if_neg (by decide)] at hR
        refine pfrac_form w s p q true R hcut h00 (.inr ⟨rfl, .inr ?_⟩) zp zq hR
        rcases digits_false zq d2 with h | ⟨h, h2⟩
        · exact .inl ⟨e1, h, by rw [e1, h]; rfl⟩
        · exact .inr (.inr ⟨e1, h, by rw [e1, h]; rfl, e2, h2⟩)
      | true =>
        obtain ⟨f1, f2, f3⟩ := digits_true zq d2
        obtain ⟨a, ha, hae⟩ := e2
        obtain ⟨a2, ha2, hae2⟩ := f2
        rw [d1, d2, if_pos (by decide)] at hR
        refine pfrac_frac w s p q _ _ R hcut h00 e1 f1 (by rw [e1, f1]; rfl) a a2 ha hae ha2 hae2 zp zq (fun W => pint_to (.inl rfl) zp e3 W rfl) (fun W => pint_to (.inl rfl) zq f3 W rfl) ?_
        cases hA : numG 10 (bytesOf p) 0 with
        | none => rw [hA] at hR; exact .inl ⟨hR, .inl rfl⟩
        | some x =>
          cases hB : numG 10 (bytesOf q) 0 with
          | none => rw [hA, hB] at hR; exact .inl ⟨hR, .inr ⟨x, rfl, rfl⟩⟩
          | some y =>
            rw [hA, hB] at hR
            have hR : R = if y = 0 then .error 6 else makeN x y := hR
            refine .inr ⟨x, y, rfl, rfl, ?_⟩
            by_cases hy : y = 0
            · subst hy
              exact .inl ⟨hR, by show (((nE (makeN (x : Int) 0) : Nat) : Int) != 0) = true; unfold makeN; rw [if_pos rfl]; rfl⟩
            · rw [if_neg hy] at hR
              rcases mk_ways (n := (x : Int)) (q := (y : Int)) (R := R) (by omega) hR with h | h
              · exact .inr h
              · exact .inl ⟨h.2, h.1⟩
theorem pre_ways (s : ByteArray) (hs : s.size ≤ 2000000000) : ∃ u b, PreTo s u b ∧ u.size ≤ 2000000000 ∧ signedG (bytesOf s) = if b then minusN (unsignedG (bytesOf u)) else unsignedG (bytesOf u) := by
  have hc := fun W => Tryz.strings_CutPrefix s ⟨#[45]⟩ W
  rw [show (⟨#[45]⟩ : ByteArray).data.toList = [45] from rfl] at hc
  cases hd : s.data.toList with
  | nil =>
    have hb : bytesOf s = [] := by unfold bytesOf; rw [hd]; rfl
    refine ⟨s, false, fun W => ?_, hs, by rw [hb]; rfl⟩
    have := hc W
    rw [hd] at this
    have e : (⟨(Lib.trimPrefix [] [45]).toArray⟩ : ByteArray) = s := bytesOf_inj (by rw [bytes_list, hb]; rfl)
    rw [e] at this
    exact this
  | cons c r =>
    have hb : bytesOf s = c.toNat :: r.map UInt8.toNat := by unfold bytesOf; rw [hd]; rfl
    have hp : Lib.hasPrefix (c :: r) [45] = (45 == c) := by unfold Lib.hasPrefix; simp [List.isPrefixOf]
    by_cases h45 : c = 45
    · subst h45
      refine ⟨⟨r.toArray⟩, true, fun W => ?_, ?_, ?_⟩
      · have := hc W
        rw [hd] at this
        unfold Lib.trimPrefix at this
        rw [hp] at this
        exact this
      · have h1 : s.size = s.data.toList.length := rfl
        rw [hd] at h1
        show r.toArray.size ≤ _
        simp at h1 ⊢
        omega
      · rw [hb, bytes_list, signed_cons, if_pos (by rfl), if_pos rfl]
    · have h1 : ((45 : UInt8) == c) = false := by rw [beq_eq_false_iff_ne]; exact fun h => h45 h.symm
      have h2 : c.toNat ≠ 45 := fun h => h45 (UInt8.toNat_inj.1 h)
      refine ⟨s, false, fun W => ?_, hs, ?_⟩
      · have := hc W
        rw [hd] at this
        unfold Lib.trimPrefix at this
        rw [hp, h1, if_neg (by decide)] at this
        have e : (⟨(c :: r).toArray⟩ : ByteArray) = s := bytesOf_inj (by rw [bytes_list, hb]; rfl)
        rw [e] at this
        exact this
      · rw [hb, signed_cons, if_neg h2, if_neg (by decide)]
theorem tail_ways (u : ByteArray) (hu : u.size ≤ 2000000000) (w : World) (m : Int) (hm : w.cell? ⟨0, 0, none⟩ = some (.int .i64 m)) : TailWays u (unsignedG (bytesOf u)) w := by
  obtain ⟨hs, hn⟩ := find_fst (bytesOf u)
  refine ⟨findN (bytesOf u), fun W => pfind_c W u hu, ?_⟩
  cases hF : findN (bytesOf u) with
  | none =>
    refine .inl ⟨rfl, fun W hW => ?_⟩
    rw [uns_frac (.inl (hn hF))]
    exact pfrac_c W u hu m (hW.trans hm)
  | some x =>
    obtain ⟨hx, p, e, f⟩ := x
    obtain ⟨h1, h2⟩ := hs _ _ _ _ hF
    by_cases he : e = u.size
    · refine .inr (.inr ⟨hx, p, e, f, rfl, by rw [beq_iff_eq]; omega, fun W => ?_⟩)
      rw [uns_num (by omega) (by rw [h1, bytesOf_length]; exact he)]
      exact pnumber_c W u hu hx p e f hF
    · refine .inr (.inl ⟨hx, p, e, f, rfl, by rw [beq_eq_false_iff_ne]; omega, fun W hW => ?_⟩)
      rw [uns_frac (.inr (by rw [h1, bytesOf_length]; exact he))]
      exact pfrac_c W u hu m (hW.trans hm)
end Go.Proofs.YtalfoihffnlelaaGreatDoor
