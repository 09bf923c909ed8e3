import Derived.Test.YteflmfdjnigjcaaGreatDoorCdA
import Derived.Test.YteflmfdjnigjcaaGreatDoorMapL
set_option linter.unusedVariables false
set_option linter.unusedSimpArgs false
set_option maxRecDepth 100000
set_option maxHeartbeats 4000000
namespace Go.Proofs.YteflmfdjnigjcaaGreatDoor
open Go.ChangeShapes Go.WideShapes Go.ChangeAt Go.WideMaps Go.WideElems Go.RowKit
set_option maxRecDepth 100000 in
theorem open_ones {α : Type} {H : Type} {enc : TypeId × Value → H} {w : World} {b0 : Nat} {sp : Nat → Bool} {v : Value} {d : DataW H} {ps : List MemPlace} (tl e : TypeId) (mk : α → Value) (under : Tryz.prog.underlying tl = some (.slice e)) (hc1 : Tryz.prog.cellsOf e = 1)
    (hone : ∀ {base : Nat} {sp : Nat → Bool} {held : Bool} {fuel : Nat} {cs : List Value} {x : DataW H × List MemPlace}, DataW.trod enc Tryz.prog w base sp held fuel e cs = some x → ∃ a, cs = [mk a]) (hval : Value.okWide Tryz.prog w .any b0 tl v) (h : DataW.Trod enc Tryz.prog w 0 sp true tl v d ps) :
    ∃ (l : List α) (so : Option Addr) (cap : Nat), v = .slice so l.length cap ∧ l.length ≤ cap ∧ (l = [] ∨ ∃ g o, so = some ⟨g, o, none⟩ ∧ ∀ (i : Nat) a, l[i]? = some a → w.cell? ⟨g, o + i, none⟩ = some (mk a)) := by
  obtain ⟨a0, l0, c0, rfl⟩ := okWide_slice under hval
  obtain ⟨fuel, h⟩ := h
  rcases DataW.trod_slice under h with ⟨e1, _⟩ | ⟨ad, len, cap, elems, rest, m, _, e1, _, _, hlc, _, hel, hin, _⟩
  · simp [Value.cells] at e1
    obtain ⟨rfl, rfl, rfl⟩ := e1
    exact ⟨[], none, 0, rfl, Nat.le_refl _, .inl rfl⟩
  · simp [Value.cells] at e1
    obtain ⟨rfl, rfl, rfl⟩ := e1
    have hall : ∀ i : Fin l0, ∃ x : α, w.cell? (ad.add i.1) = some (mk x) := by
      intro ⟨i, hi⟩
      have h0 := hin i hi
      rw [List.getElem?_eq_getElem (by omega), Option.bind_eq_some_iff, hc1] at h0
      obtain ⟨cs, hc, ht⟩ := h0
      obtain ⟨x, rfl⟩ := hone ht
      obtain ⟨_, _, hcell⟩ := World.cells?_some hc
      refine ⟨x, ?_⟩
      have := hcell 0 (by simp)
      rw [Nat.mul_one, add_two, Nat.add_zero] at this
      simpa using this
    obtain ⟨f, hf⟩ := Classical.axiomOfChoice hall
    have hlen : (List.ofFn f).length = l0 := List.length_ofFn
    refine ⟨List.ofFn f, some ad, c0, by rw [hlen], by rw [hlen]; exact hlc, ?_⟩
    rcases Nat.eq_zero_or_pos l0 with hz | hz
    · exact .inl (List.eq_nil_of_length_eq_zero (by rw [hlen]; exact hz))
    · have e0 := hf ⟨0, hz⟩
      obtain ⟨g, o, spot⟩ := ad
      have hspot : spot = none := by simpa [Addr.add] using World.cell?_spot e0
      subst hspot
      refine .inr ⟨g, o, rfl, fun i a hi => ?_⟩
      have hlt : i < l0 := by rw [← hlen]; exact (List.getElem?_eq_some_iff.1 hi).1
      rw [List.getElem?_ofFn, dif_pos hlt] at hi
      injection hi with hi
      subst hi
      have := hf ⟨i, hlt⟩
      rw [add_none] at this
      exact this
set_option maxRecDepth 100000 in
theorem open_strs {H : Type} {enc : TypeId × Value → H} {w : World} {b0 : Nat} {sp : Nat → Bool} {v : Value} {d : DataW H} {ps : List MemPlace} (hval : Value.okWide Tryz.prog w .any b0 22 v) (h : DataW.Trod enc Tryz.prog w 0 sp true 22 v d ps) :
    ∃ (l : List ByteArray) (so : Option Addr) (cap : Nat), v = .slice so l.length cap ∧ l.length ≤ cap ∧ (l = [] ∨ ∃ g o, so = some ⟨g, o, none⟩ ∧ ∀ (i : Nat) a, l[i]? = some a → w.cell? ⟨g, o + i, none⟩ = some (.string a)) :=
  open_ones 22 9 .string Tryz.underlying22 (by kernel_rfl) (fun h => by obtain ⟨s, hs, _, _⟩ := DataW.trod_string Tryz.underlying9 h; exact ⟨s, hs⟩) hval h
set_option maxRecDepth 100000 in
theorem open_bools {H : Type} {enc : TypeId × Value → H} {w : World} {b0 : Nat} {sp : Nat → Bool} {v : Value} {d : DataW H} {ps : List MemPlace} (hval : Value.okWide Tryz.prog w .any b0 23 v) (h : DataW.Trod enc Tryz.prog w 0 sp true 23 v d ps) :
    ∃ (l : List Bool) (so : Option Addr) (cap : Nat), v = .slice so l.length cap ∧ l.length ≤ cap ∧ (l = [] ∨ ∃ g o, so = some ⟨g, o, none⟩ ∧ ∀ (i : Nat) a, l[i]? = some a → w.cell? ⟨g, o + i, none⟩ = some (.bool a)) :=
  open_ones 23 4 .bool Tryz.underlying23 (by kernel_rfl) (fun h => by obtain ⟨s, hs, _⟩ := DataW.trod_bool Tryz.underlying4 h; exact ⟨s, hs⟩) hval h
end Go.Proofs.YteflmfdjnigjcaaGreatDoor
namespace Go.Proofs.Lexi
open Go
section
variable {P : Program} {ops : Array Oper} {Q : Exit → Act → World → Prop}
/-- A REGION THAT DRAWS, WALKED IN THE ORDER OF ITS TEXT. -/
theorem wp_region_lex {id : Nat} {l : List Oper} {a : Act} {w : World} (hm : P.follows .mixedOrders = true) (hB : lexCheck P l.toArray (Region.before l.toArray) = true)
    (h : wpList P l.toArray (Behind l.toArray Q) l a w.drew) : (Code.region id l.toArray true).wp P Q a w := by
  have hQ : OnlyN (Behind l.toArray Q) := fun e a w h => by cases e <;> first | rfl | exact h.elim
  refine Code.wp_mono (Q := Behind l.toArray Q) (fun e a w h => by cases e <;> first | exact h.2 | exact h.elim) ?_
  refine wp_region_any hm ?_
  refine any_of_lex (lexed_of hB) hQ (fun a w h => h.1) l.toArray.size 0 _ a _ (by simp) (by simp) (fun x hx => by
    simp only [Array.getD_eq_getD_getElem?, Array.getElem?_replicate, Nat.not_lt_zero, decide_false]
    split <;> rfl) ?_
  have := wpOps_eq_wpList (P := P) (ops := l.toArray) (Q := Behind l.toArray Q) l 0 (by simp)
  simp only [List.size_toArray]
  rw [this]
  exact h
end
end Go.Proofs.Lexi
namespace Go.Proofs.YteflmfdjnigjcaaGreatDoor
open Go.RowKit Go.Proofs.Lexi
set_option maxHeartbeats 400000 in
theorem gcd_c (w : World) (x y : Int) (a b : Nat) (hx : x = a) (hy : y = b) (ha : a ≤ 9223372036854775807) (hb : b ≤ 9223372036854775807) :
    Calls Tryz.prog 113 #[.int .i64 x, .int .i64 y] w (PureP w (.int .i64 (Nat.gcd a b : Nat))) := by
  subst hx hy
  obtain ⟨G, hG⟩ : ∃ G, G = Nat.gcd a b := ⟨_, rfl⟩
  rw [← hG]
  have HG := Lib.hid hG.symm
  clear hG
  go_enter Tryz.func113, Tryz.ntmps113
  go_wp2
  go_loopg [0, 1] b (fun gg u v wr => ∃ x y n : Nat, wr = w.drewN n ∧ y = gg ∧ u = .int .i64 (x : Int) ∧ v = .int .i64 (y : Int) ∧ x ≤ 9223372036854775807 ∧ y ≤ 9223372036854775807 ∧ Hid (Nat.gcd x y = G))
  case atStart => exact ⟨a, b, 0, rfl, rfl, rfl, rfl, ha, hb, HG⟩
  case round =>
    obtain ⟨x, y, n, rfl, rfl, rfl, rfl, h1, h2, h3⟩ := hrel
    by_cases h0 : y = 0
    · subst h0
      have HX := Lib.hid (show (x : Int) = G from by have := h3.out; rw [Nat.gcd_zero_right] at this; omega)
      go_wp2
      go_ret
      exact ⟨ret_int HX.out, n, rfl⟩
    · have t0 : ((y : Int) != 0) = true := by rw [bne_iff_ne]; omega
      have hy0 : 0 < y := by omega
      have hm := Nat.mod_lt x hy0
      have HN := Lib.hid (show Nat.gcd y (x % y) = G from by rw [← h3.out, Nat.gcd_comm x y]; exact (Nat.gcd_rec y x).symm ▸ (Nat.gcd_comm _ _))
      clear h0
      go_wp2
      refine wp_region_lex mixed (by kernel_rfl) ?_
      go_wp2
      refine ⟨by kernel_rfl, ?_⟩
      go_wp2
      go_roundg (x % y)
      case measure => omega
      case rel => exact ⟨y, x % y, _, rfl, rfl, rfl, (by first | rfl | simp), h2, by omega, HN⟩
set_option maxRecDepth 100000 in
set_option maxHeartbeats 1000000 in
theorem rvalid_c (w : World) (p q : Int) : Calls Tryz.prog 57 #[.agg #[.int .i64 p, .int .i64 q]] w (BoolPost w (validN (p, q))) := by
  have HB := Lib.hid (below_num0 w (.cells #[.int .i64 p, .int .i64 q] 28))
  by_cases h : 1 ≤ q ∧ q ≤ 2147483647 ∧ -2147483647 ≤ p ∧ p ≤ 2147483647
  · obtain ⟨h1, h2, h3, h4⟩ := h
    have HGC := Lib.hid (fun W x y hx hy => gcd_c W x y p.natAbs q.natAbs hx hy (by omega) (by omega))
    obtain ⟨D, hD⟩ : ∃ D, D = Nat.gcd p.natAbs q.natAbs := ⟨_, rfl⟩
    have HV := Lib.hid (validN_good h1 h2 h3 h4 hD.symm)
    have HDD := Lib.hid hD.symm
    clear hD
    go_enter Tryz.func57, Tryz.ntmps57
    go_wp2_with fail
    all_goals
      refine (HGC.out _ _ _ (by omega) (by omega)).mono ?_
      rw [HDD.out]
      rintro e w1 ⟨rfl, n, rfl⟩
      go_wp2
      go_ret
      exact bool_done HV.out.symm (bdn HB.out n)
  · have HV := Lib.hid (validN_bad (p := p) (q := q) (by omega))
    have hc : q < 1 ∨ (1 ≤ q ∧ 2147483647 < q) ∨ (1 ≤ q ∧ q ≤ 2147483647 ∧ p < -2147483647) ∨ (1 ≤ q ∧ q ≤ 2147483647 ∧ -2147483647 ≤ p ∧ 2147483647 < p) := by omega
    clear h
    rcases hc with k1 | ⟨k1, k2⟩ | ⟨k1, k2, k3⟩ | ⟨k1, k2, k3, k4⟩
    all_goals
      go_enter Tryz.func57, Tryz.ntmps57
      go_wp2
      go_ret
      exact bool_done HV.out.symm HB.out
end Go.Proofs.YteflmfdjnigjcaaGreatDoor
namespace Go.Proofs
open Go.Shelf
open Go.RowKit in
/-- strings.CutPrefix: "CutPrefix returns s without the provided leading prefix string and reports whether it found the prefix. If s doesn't start with prefix, CutPrefix returns s, false. If prefix is the empty string, CutPrefix returns s, true.": IT RETURNS '(Lib.trimPrefix s p, Lib.hasPrefix s p)'; the world is as it was. (LAID: no walk: one application.) -/
theorem Tryz.strings_CutPrefix (s p : ByteArray) (w : World) :
    Calls Tryz.prog 130 #[.string s, .string p] w fun e w' => e = .returned (.tuple #[.string ⟨(Lib.trimPrefix s.data.toList p.data.toList).toArray⟩, .bool (Lib.hasPrefix s.data.toList p.data.toList)]) ∧ w' = w := Any.strings_CutPrefix Tryz.lays103 s p w
open Go.RowKit Go.Lib in
/-- strings.LastIndexByte: "LastIndexByte returns the index of the last instance of c in s, or -1 if c is not present in s." (LAID: no walk: one application.) -/
theorem Tryz.strings_LastIndexByte (s : ByteArray) (c : Int) (hs : s.size < 4611686018427387904) (w : World) :
    Calls Tryz.prog 32 #[.string s, .int .u8 c] w fun e w' => e = .returned (.int .i64 (Lib.lastIndexByte s c)) ∧ w' = w := Any.strings_LastIndexByte Tryz.lays149 s c hs w
open Go.RowKit Go.Lib in
/-- strings.Fields on ASCII bytes. (The table: 'Lib.TabIs', as strings.TrimSpace's contract asks it.) (LAID: no walk: one application.) -/
theorem Tryz.strings_Fields_laid (s : ByteArray) (w : World) (hs : s.size < 4294967281) (hascii : ∀ (j : Nat) b, s.data.toList[j]? = some b → b.toNat < 128) (htab : Lib.TabIs Tryz.prog w "strings.asciiSpace" .u8 Lib.asciiSpaceTab) :
    Calls Tryz.prog 116 #[.string s] w fun e w' =>
      e = .returned (.slice (some ⟨w.heap.size, 0, none⟩) (Lib.fields s.data.toList).length (Lib.fields s.data.toList).length) ∧ w' = w.alloc (.cells ((Lib.fields s.data.toList).map fun l => Value.string ⟨l.toArray⟩).toArray 9) := Any.strings_Fields_laid Tryz.laysM157 s w hs hascii htab
open Go.Lib in
/-- slices.Index at []string: "Index returns the index of the first occurrence of v in s, or -1 if not present.": IT RETURNS 'Lib.idxOfS (the elements) v'; the world is as it was. 'zs': what the cells behind the slice's address hold (its spare capacity too, if you have it); 'zs.take n': its elements. (LAID: no walk: one application.) -/
theorem Tryz.slices_Index_string (b off n c : Nat) (zs : List ByteArray) (x : ByteArray) (w : World) (hz : n ≤ zs.length) (hbig : n ≤ 9223372036854775807) (hc : ∀ j, j < zs.length → w.cell? ⟨b, off + j, none⟩ = some (.string (zs.getD j ByteArray.empty))) :
    Calls Tryz.prog 63 #[.slice (some ⟨b, off, none⟩) n c, .string x] w fun e w' => e = .returned (.int .i64 (Lib.idxOfS (zs.take n) x)) ∧ w' = w := Any.slices_Index_string Tryz.lays109 b off n c zs x w hz hbig hc
end Go.Proofs
namespace Go.Proofs.YteflmfdjnigjcaaGreatDoor
open Go.RowKit Go.Proofs.Lexi
set_option maxRecDepth 100000 in
set_option maxHeartbeats 4000000 in
theorem pvalidV_c (w : World) (k p q : Int) (s : ByteArray) (r : Int) : Calls Tryz.prog 27 #[.agg #[.int .i64 k, .int .i64 p, .int .i64 q, .string s, .int .i64 r]] w (BoolPost w (validV ⟨k, p, q, s, r⟩)) := by
  obtain ⟨R, hR⟩ : ∃ R, R = validV ⟨k, p, q, s, r⟩ := ⟨_, rfl⟩
  rw [← hR]
  have HR := Lib.hid hR
  clear hR
  go_enter Tryz.func27, Tryz.ntmps27
  go_wp2_with (first | (go_at_call 57; refine (rvalid_c _ _ _).mono ?_; rintro e w1 ⟨rfl, hb⟩; obtain ⟨hc, hf⟩ := bcell hb))
  all_goals
    go_ret
    have h := HR.out
    clear HR
    first
    | (refine bool_done ?_ (below2w _ _ _); subst h; simp_all [validV, noNum, noStr, isRef, V.num, toList_size, sz_le, sz_ge, sz_lt, sz_lt1] <;> omega)
    | (refine bool_done ?_ (below_next (below2w _ _ _) (by assumption)); subst h; simp_all [validV, noNum, noStr, isRef, V.num, toList_size, sz_le, sz_ge, sz_lt, sz_lt1] <;> omega)
    | trace_state
set_option maxRecDepth 100000 in
set_option maxHeartbeats 2000000 in
theorem pOfBool_c (w : World) (b : Bool) : Calls Tryz.prog 42 #[.bool b] w (ValPost w (boolV b)) := by
  cases b
  all_goals
    go_enter Tryz.func42, Tryz.ntmps42
    go_wp2
    refine bodyPost_ret (by simp [results, Tryz.results42, go_sem]; first | done | rfl) rfl ?_
    exact val_done rfl (below_num0 _ _)
set_option maxRecDepth 100000 in
set_option maxHeartbeats 2000000 in
theorem pOfString_c (w : World) (s : ByteArray) : Calls Tryz.prog 66 #[.string s] w (ValPost w (strV s)) := by
  go_enter Tryz.func66, Tryz.ntmps66
  go_wp2
  refine bodyPost_ret (by simp [results, Tryz.results66, go_sem]; first | done | rfl) rfl ?_
  exact val_done rfl (below_num0 _ _)
set_option maxRecDepth 100000 in
set_option maxHeartbeats 2000000 in
theorem pOfInt_c (w : World) (n : Int) : Calls Tryz.prog 79 #[.int .i64 n] w (ValPost w (intV n)) := by
  have hw : n < -2147483647 ∨ (¬ n < -2147483647 ∧ 2147483647 < n) ∨ (¬ n < -2147483647 ∧ ¬ 2147483647 < n) := by omega
  rcases hw with h | ⟨h, h2⟩ | ⟨h, h2⟩
  · have HR := Lib.hid (show intV n = V.nil from by unfold intV; rw [if_neg]; rw [inTop_iff]; omega)
    go_enter Tryz.func79, Tryz.ntmps79
    go_wp2
    refine bodyPost_ret (by simp [results, Tryz.results79, go_sem]; first | done | rfl) rfl ?_
    exact val_done HR.out (below_num0 _ _)
  · have HR := Lib.hid (show intV n = V.nil from by unfold intV; rw [if_neg]; rw [inTop_iff]; omega)
    go_enter Tryz.func79, Tryz.ntmps79
    go_wp2
    refine bodyPost_ret (by simp [results, Tryz.results79, go_sem]; first | done | rfl) rfl ?_
    exact val_done HR.out (below_num0 _ _)
  · have HR := Lib.hid (show intV n = ⟨2, n, 1, ⟨#[]⟩, 0⟩ from by unfold intV; rw [if_pos]; rw [inTop_iff]; omega)
    go_enter Tryz.func79, Tryz.ntmps79
    go_wp2
    refine bodyPost_ret (by simp [results, Tryz.results79, go_sem]; first | done | rfl) rfl ?_
    exact val_done HR.out (below_num0 _ _)
set_option maxRecDepth 100000 in
set_option maxHeartbeats 2000000 in
theorem pNumber_two (w : World) (p q : Int) (s : ByteArray) (r : Int) : Calls Tryz.prog 118 #[.agg #[.int .i64 2, .int .i64 p, .int .i64 q, .string s, .int .i64 r]] w (NumPost w (if validN (p, q) then .ok (p, q) else .error 8)) := by
  cases hv : validN (p, q)
  all_goals
    have HV := Lib.hid (fun W => (hv ▸ rvalid_c W p q : Calls Tryz.prog 57 #[.agg #[.int .i64 p, .int .i64 q]] W (BoolPost W _)))
    clear hv
    go_enter Tryz.func118, Tryz.ntmps118
    go_wp2_with fail
    refine (HV.out _).mono ?_
    rintro e w1 ⟨rfl, hb⟩
    obtain ⟨hc, hf⟩ := bcell hb
    have HB1 := Lib.hid (below_next (below2w _ _ _) hb)
    go_wp2
    refine bodyPost_ret (by simp [results, Tryz.results118, go_sem, hc]; first | done | rfl) rfl ?_
    first
    | exact num_err rfl (by first | exact HB1.out | exact below_two HB1.out (by simp <;> omega) _ _)
    | exact num_ok rfl (by first | exact HB1.out | exact below_two HB1.out (by simp <;> omega) _ _)
set_option maxRecDepth 100000 in
set_option maxHeartbeats 2000000 in
theorem pomGet_c (w : World) (m g : Nat) (sv : Value) (L : List Sl) (hO : OMap w m g sv L) (hL : L.length ≤ 1000) (k p q : Int) (s : ByteArray) (r : Int) (hk : WfV ⟨k, p, q, s, r⟩) :
    Calls Tryz.prog 112 #[.pointer (some ⟨m, 0, none⟩), .agg #[.int .i64 k, .int .i64 p, .int .i64 q, .string s, .int .i64 r]] w (ValPost w (getM L ⟨k, p, q, s, r⟩)) := by
  obtain ⟨hm, hrow, _, E, f, hE, hG, hI⟩ := hO
  have hlt : m < w.heap.size := (Array.getElem?_eq_some_iff.1 hm).1
  have hgl := hE.lt
  have HM := Lib.hid (heap2_old hm (oV k p q s r) (oV 0 0 0 ⟨#[]⟩ 0))
  have m1 : ((w.alloc (.cells #[.int .i64 k, .int .i64 p, .int .i64 q, .string s, .int .i64 r] 30)).alloc (.cells #[.int .i64 0, .int .i64 0, .int .i64 0, .string ⟨#[]⟩, .int .i64 0] 30)).cell? ⟨m, 1, none⟩ = some (.map (some g)) := by rw [cell_of_heap HM.out]; rfl
  have W0k : ∀ W, Below w.heap.size w W → W.heap[g]? = w.heap[g]? := fun W h => h.block g hgl
  have hways : (f ⟨k, p, q, s, r⟩ = none ∧ ∀ W, W.heap[g]? = w.heap[g]? → (Instr.lookup 140 (.map (some g)) (.agg #[.int .i64 k, .int .i64 p, .int .i64 q, .string s, .int .i64 r]) true).run Tryz.prog W = .ok (.tuple #[.int .i64 0, .bool false]) W) ∨
      ∃ n : Nat, f ⟨k, p, q, s, r⟩ = some n ∧ ∀ W, W.heap[g]? = w.heap[g]? → (Instr.lookup 140 (.map (some g)) (.agg #[.int .i64 k, .int .i64 p, .int .i64 q, .string s, .int .i64 r]) true).run Tryz.prog W = .ok (.tuple #[.int .i64 (n : Int), .bool true]) W := by
    rcases look_at hE hG hk w rfl with ⟨h1, _⟩ | ⟨n, h1, _⟩
    · refine .inl ⟨h1, fun W hW => ?_⟩
      rcases look_at hE hG hk W hW with ⟨_, h2⟩ | ⟨n, h2, _⟩
      · exact h2
      · rw [h1] at h2; cases h2
    · refine .inr ⟨n, h1, fun W hW => ?_⟩
      rcases look_at hE hG hk W hW with ⟨h2, _⟩ | ⟨n2, h2, h3⟩
      · rw [h1] at h2; cases h2
      · rw [h1] at h2; injection h2 with h2; subst h2; exact h3
  have WK := Lib.hid W0k
  clear W0k
  have key : ∀ W : World, W.heap = ((w.alloc (.cells #[.int .i64 k, .int .i64 p, .int .i64 q, .string s, .int .i64 r] 30)).alloc (.cells #[.int .i64 0, .int .i64 0, .int .i64 0, .string ⟨#[]⟩, .int .i64 0] 30)).heap → W.heap[g]? = w.heap[g]? := fun W h => by rw [h]; exact (below2w w _ _).block g hgl
  have KEY := Lib.hid key
  clear key
  rcases hways with ⟨hf, hlk⟩ | ⟨n, hf, hlk⟩
  · have HR := Lib.hid (hI.get_miss hf)
    have HLK := Lib.hid hlk
    clear hf hlk hI hG hE hrow
    go_enter Tryz.func112, Tryz.ntmps112
    go_wp2
    refine wp_region_lex mixed (by kernel_rfl) ?_
    go_wp2_with (at_lookup; refine wpList_look_map _ rfl _ _ _ _ rfl _ _ _ rfl rfl (HLK.out _ (KEY.out _ rfl)) ?_)
    refine ⟨by kernel_rfl, ?_⟩
    go_wp2
    refine bodyPost_ret (by simp [results, Tryz.results112, go_sem]; first | done | rfl) rfl ?_
    exact val_done HR.out (by first | exact (below2w _ _ _).drew | exact below2w _ _ _ | exact bdn (below2w _ _ _) _)
  · obtain ⟨sl, hsl, hsk⟩ := hI.key _ _ hf
    have hnl : n < L.length := (List.getElem?_eq_some_iff.1 hsl).1
    have HR := Lib.hid (hI.get_at hf hsl)
    have hrow2 := ownsRow_ext (below_ext (below2w w (oV k p q s r) (oV 0 0 0 ⟨#[]⟩ 0)) (Nat.le_refl _)) hrow
    obtain ⟨rb, cap, rfl⟩ := slice_shape hrow (by omega)
    have cellf : ∀ j u, j < 11 → (slCells sl)[j]? = some u → ((w.alloc (.cells #[.int .i64 k, .int .i64 p, .int .i64 q, .string s, .int .i64 r] 30)).alloc (.cells #[.int .i64 0, .int .i64 0, .int .i64 0, .string ⟨#[]⟩, .int .i64 0] 30)).cell? ⟨rb, n * 11 + j, none⟩ = some u := fun j u hj hu =>
      (hrow2.cellAt (n * 11 + j) (by omega)).trans ((rowSl_at L n j sl hsl hj).trans hu)
    have v0 := cellf 5 _ (by decide) rfl
    have v1 := cellf 6 _ (by decide) rfl
    have v2 := cellf 7 _ (by decide) rfl
    have v3 := cellf 8 _ (by decide) rfl
    have v4 := cellf 9 _ (by decide) rfl
    have m0 : ((w.alloc (.cells #[.int .i64 k, .int .i64 p, .int .i64 q, .string s, .int .i64 r] 30)).alloc (.cells #[.int .i64 0, .int .i64 0, .int .i64 0, .string ⟨#[]⟩, .int .i64 0] 30)).cell? ⟨m, 0, none⟩ = some (.slice (some ⟨rb, 0, none⟩) L.length cap) := by rw [cell_of_heap HM.out]; rfl
    have HLK := Lib.hid hlk
    clear hf hlk hI hG hE hrow hsl hsk cellf hrow2
    go_enter Tryz.func112, Tryz.ntmps112
    go_wp2
    refine wp_region_lex mixed (by kernel_rfl) ?_
    go_wp2_with (at_lookup; refine wpList_look_map _ rfl _ _ _ _ rfl _ _ _ rfl rfl (HLK.out _ (KEY.out _ rfl)) ?_)
    refine ⟨by kernel_rfl, ?_⟩
    go_wp2
    refine bodyPost_ret (by simp [results, Tryz.results112, go_sem]; first | done | rfl) rfl ?_
    exact val_done HR.out (by first | exact (below2w _ _ _).drew | exact below2w _ _ _ | exact below_five (below2w _ _ _).drew (by simp <;> omega) _ _ _ _ _ | exact below_five (below2w _ _ _) (by simp <;> omega) _ _ _ _ _)
set_option maxRecDepth 100000 in
set_option maxHeartbeats 2000000 in
theorem pomSet_remove (w : World) (m g rb cap n : Nat) (L : List Sl) (hm : w.heap[m]? = some (.cells #[.slice (some ⟨rb, 0, none⟩) L.length cap, .map (some g), .int .i64 (liveN L : Nat)] 143))
    (hrow : w.ownsRow 0 146 11 (.slice (some ⟨rb, 0, none⟩) L.length cap) L.length (rowSl L)) (hL : L.length ≤ 1000) (hg : g < w.heap.size) (k1 p1 q1 : Int) (s1 : ByteArray) (r1 : Int) (k2 p2 q2 : Int) (s2 : ByteArray) (r2 : Int) (sl : Sl) (hsl : L[n]? = some sl)
    (hlk : ∀ W, W.heap[g]? = w.heap[g]? → (Instr.lookup 140 (.map (some g)) (.agg #[.int .i64 k1, .int .i64 p1, .int .i64 q1, .string s1, .int .i64 r1]) true).run Tryz.prog W = .ok (.tuple #[.int .i64 (n : Int), .bool true]) W)
    (hvk : ∀ W, Calls Tryz.prog 27 #[.agg #[.int .i64 k1, .int .i64 p1, .int .i64 q1, .string s1, .int .i64 r1]] W (BoolPost W true)) (hvv : ∀ W, Calls Tryz.prog 27 #[.agg #[.int .i64 k2, .int .i64 p2, .int .i64 q2, .string s2, .int .i64 r2]] W (BoolPost W true)) (hk0 : (k1 == 0) = false) (hv0 : (k2 == 0) = true) (hgf : sl.g = false) (hl1 : 1 ≤ liveN L) :
    Calls Tryz.prog 61 #[.pointer (some ⟨m, 0, none⟩), .agg #[.int .i64 k1, .int .i64 p1, .int .i64 q1, .string s1, .int .i64 r1], .agg #[.int .i64 k2, .int .i64 p2, .int .i64 q2, .string s2, .int .i64 r2]] w (fun e w' => e = .returned (.int .i64 0) ∧ ∃ w2, Below w.heap.size w w2 ∧ w' = (setCells w2 rb (n * 11) (slCells ⟨⟨k1, p1, q1, s1, r1⟩, V.nil, true⟩)).setCell ⟨m, 2, none⟩ (.int .i64 ((liveN L : Nat) - 1 : Int))) := by
  have hl2 := liveN_le L
  have hnl : n < L.length := (List.getElem?_eq_some_iff.1 hsl).1
  have hml : m < w.heap.size := (Array.getElem?_eq_some_iff.1 hm).1
  have hrl : rb < w.heap.size := (ownBlock_lt hrow rfl).2
  have HVK := Lib.hid hvk
  have HVV := Lib.hid hvv
  have HLK := Lib.hid hlk
  clear hvk hvv hlk
  go_enter Tryz.func61, Tryz.ntmps61
  go_wp2_with fail
  refine (HVK.out _).mono ?_
  rintro e w1 ⟨rfl, hb⟩
  have HKB := Lib.hid (hkeep hb (heap2_a _ _ _))
  have HVB := Lib.hid (hkeep hb (heap2_b _ _ _))
  have HW1 := Lib.hid (below_next (below2w _ _ _) hb)
  have hz1 := hb.size
  simp at hz1
  clear hb
  have b0 : w1.cell? ⟨w.heap.size + 1, 0, none⟩ = some (.int .i64 k2) := by rw [cell_of_heap HVB.out]; rfl
  have b1 : w1.cell? ⟨w.heap.size + 1, 1, none⟩ = some (.int .i64 p2) := by rw [cell_of_heap HVB.out]; rfl
  have b2 : w1.cell? ⟨w.heap.size + 1, 2, none⟩ = some (.int .i64 q2) := by rw [cell_of_heap HVB.out]; rfl
  have b3 : w1.cell? ⟨w.heap.size + 1, 3, none⟩ = some (.string s2) := by rw [cell_of_heap HVB.out]; rfl
  have b4 : w1.cell? ⟨w.heap.size + 1, 4, none⟩ = some (.int .i64 r2) := by rw [cell_of_heap HVB.out]; rfl
  go_wp2_with fail
  refine (HVV.out _).mono ?_
  rintro e w2 ⟨rfl, hb⟩
  have HKB2 := Lib.hid (hkeep hb HKB.out)
  have HVB2 := Lib.hid (hkeep hb HVB.out)
  have HW2 := Lib.hid (below_next HW1.out hb)
  have hz2 := hb.size
  have HMM := Lib.hid (hkeep HW2.out hm)
  have HROW := Lib.hid (ownsRow_ext (below_ext HW2.out (Nat.le_refl _)) hrow)
  have HGG := Lib.hid (bw HW2.out hg)
  have hgone : w2.cell? ⟨rb, n * 11 + 10, none⟩ = some (.bool sl.g) := (HROW.out.cellAt (n * 11 + 10) (by omega)).trans (rowSl_at L n 10 sl hsl (by decide))
  clear hb b0 b1 b2 b3 b4 HKB HVB
  have a0 : w2.cell? ⟨w.heap.size, 0, none⟩ = some (.int .i64 k1) := by rw [cell_of_heap HKB2.out]; rfl
  have a1 : w2.cell? ⟨w.heap.size, 1, none⟩ = some (.int .i64 p1) := by rw [cell_of_heap HKB2.out]; rfl
  have a2 : w2.cell? ⟨w.heap.size, 2, none⟩ = some (.int .i64 q1) := by rw [cell_of_heap HKB2.out]; rfl
  have a3 : w2.cell? ⟨w.heap.size, 3, none⟩ = some (.string s1) := by rw [cell_of_heap HKB2.out]; rfl
  have a4 : w2.cell? ⟨w.heap.size, 4, none⟩ = some (.int .i64 r1) := by rw [cell_of_heap HKB2.out]; rfl
  have b0 : w2.cell? ⟨w.heap.size + 1, 0, none⟩ = some (.int .i64 k2) := by rw [cell_of_heap HVB2.out]; rfl
  have b1 : w2.cell? ⟨w.heap.size + 1, 1, none⟩ = some (.int .i64 p2) := by rw [cell_of_heap HVB2.out]; rfl
  have b2 : w2.cell? ⟨w.heap.size + 1, 2, none⟩ = some (.int .i64 q2) := by rw [cell_of_heap HVB2.out]; rfl
  have b3 : w2.cell? ⟨w.heap.size + 1, 3, none⟩ = some (.string s2) := by rw [cell_of_heap HVB2.out]; rfl
  have b4 : w2.cell? ⟨w.heap.size + 1, 4, none⟩ = some (.int .i64 r2) := by rw [cell_of_heap HVB2.out]; rfl
  have m0 : w2.cell? ⟨m, 0, none⟩ = some (.slice (some ⟨rb, 0, none⟩) L.length cap) := by rw [cell_of_heap HMM.out]; rfl
  have m1 : w2.cell? ⟨m, 1, none⟩ = some (.map (some g)) := by rw [cell_of_heap HMM.out]; rfl
  have m2 : w2.cell? ⟨m, 2, none⟩ = some (.int .i64 (liveN L : Nat)) := by rw [cell_of_heap HMM.out]; rfl
  have fm0 : w2.frozen? ⟨m, 0, none⟩ = false := frozen_of_heap HMM.out _
  have fm1 : w2.frozen? ⟨m, 1, none⟩ = false := frozen_of_heap HMM.out _
  have fm2 : w2.frozen? ⟨m, 2, none⟩ = false := frozen_of_heap HMM.out _
  rw [hgf] at hgone
  go_wp2
  refine wp_region_lex mixed (by kernel_rfl) ?_
  go_wp2_with (at_lookup; refine wpList_look_map _ rfl _ _ _ _ rfl _ _ _ rfl rfl (HLK.out _ HGG.out) ?_)
  refine ⟨by kernel_rfl, ?_⟩
  go_wp2
  have HTH := Lib.hid (fun W (hW : W.heap = w2.heap) => there_row (ownsRow_keep (w3 := W) HROW.out (fun g _ => by rw [hW])) (n * 11) 11 (by omega))
  have m2x : ∀ W : World, W.heap = w2.heap → ∀ vs, (W.setCells rb (n * 11) vs).cell? ⟨m, 2, none⟩ = some (.int .i64 (liveN L : Nat)) := fun W hW vs => by
    rw [kit_setCells, World.cell?_of_block (setCells_other (fun e => mrb HMM.out HROW.out e) vs W (n * 11)), World.cell?_of_block (w := w2) (by rw [hW])]; exact m2
  have f2x : ∀ W : World, W.heap = w2.heap → ∀ vs, (W.setCells rb (n * 11) vs).frozen? ⟨m, 2, none⟩ = false := fun W hW vs => by
    rw [kit_setCells, World.frozen?_of_block (setCells_other (fun e => mrb HMM.out HROW.out e) vs W (n * 11)), World.frozen?_of_block (w := w2) (by rw [hW])]; exact fm2
  have m20 := m2x w2 rfl
  have m21 := m2x w2.drew rfl
  have m22 := m2x w2.drew.drew rfl
  have f20 := f2x w2 rfl
  have f21 := f2x w2.drew rfl
  have f22 := f2x w2.drew.drew rfl
  clear m2x f2x
  refine wp_region_lex mixed (by kernel_rfl) ?_
  go_wp2_with (refine wpList_store_mid rfl 146 _ _ rfl rb (n * 11) _ rfl rfl (HTH.out _ rfl) info161 (by simp [Value.oneCell']) ?_)
  refine ⟨by kernel_rfl, ?_⟩
  go_wp2
  go_ret
  exact ⟨rfl, w2.drew.drew, HW2.out.drew.drew, congrArg (fun W => World.setCell W ⟨m, 2, none⟩ (.int .i64 ((liveN L : Nat) - 1 : Int))) (kit_setCells (slCells ⟨⟨k1, p1, q1, s1, r1⟩, V.nil, true⟩) w2.drew.drew (n * 11))⟩
set_option maxRecDepth 100000 in
set_option maxHeartbeats 2000000 in
theorem pomSet_write (w : World) (m g rb cap n : Nat) (L : List Sl) (hm : w.heap[m]? = some (.cells #[.slice (some ⟨rb, 0, none⟩) L.length cap, .map (some g), .int .i64 (liveN L : Nat)] 143))
    (hrow : w.ownsRow 0 146 11 (.slice (some ⟨rb, 0, none⟩) L.length cap) L.length (rowSl L)) (hL : L.length ≤ 1000) (hg : g < w.heap.size) (k1 p1 q1 : Int) (s1 : ByteArray) (r1 : Int) (k2 p2 q2 : Int) (s2 : ByteArray) (r2 : Int) (sl : Sl) (hsl : L[n]? = some sl)
    (hlk : ∀ W, W.heap[g]? = w.heap[g]? → (Instr.lookup 140 (.map (some g)) (.agg #[.int .i64 k1, .int .i64 p1, .int .i64 q1, .string s1, .int .i64 r1]) true).run Tryz.prog W = .ok (.tuple #[.int .i64 (n : Int), .bool true]) W)
    (hvk : ∀ W, Calls Tryz.prog 27 #[.agg #[.int .i64 k1, .int .i64 p1, .int .i64 q1, .string s1, .int .i64 r1]] W (BoolPost W true)) (hvv : ∀ W, Calls Tryz.prog 27 #[.agg #[.int .i64 k2, .int .i64 p2, .int .i64 q2, .string s2, .int .i64 r2]] W (BoolPost W true)) (hk0 : (k1 == 0) = false) (hv0 : (k2 == 0) = false) (hgf : sl.g = false) :
    Calls Tryz.prog 61 #[.pointer (some ⟨m, 0, none⟩), .agg #[.int .i64 k1, .int .i64 p1, .int .i64 q1, .string s1, .int .i64 r1], .agg #[.int .i64 k2, .int .i64 p2, .int .i64 q2, .string s2, .int .i64 r2]] w (fun e w' => e = .returned (.int .i64 0) ∧ ∃ w2, Below w.heap.size w w2 ∧ w' = setCells w2 rb (n * 11 + 5) (valCells ⟨k2, p2, q2, s2, r2⟩)) := by
  have hl2 := liveN_le L
  have hnl : n < L.length := (List.getElem?_eq_some_iff.1 hsl).1
  have hml : m < w.heap.size := (Array.getElem?_eq_some_iff.1 hm).1
  have hrl : rb < w.heap.size := (ownBlock_lt hrow rfl).2
  have HVK := Lib.hid hvk
  have HVV := Lib.hid hvv
  have HLK := Lib.hid hlk
  clear hvk hvv hlk
  go_enter Tryz.func61, Tryz.ntmps61
  go_wp2_with fail
  refine (HVK.out _).mono ?_
  rintro e w1 ⟨rfl, hb⟩
  have HKB := Lib.hid (hkeep hb (heap2_a _ _ _))
  have HVB := Lib.hid (hkeep hb (heap2_b _ _ _))
  have HW1 := Lib.hid (below_next (below2w _ _ _) hb)
  have hz1 := hb.size
  simp at hz1
  clear hb
  have b0 : w1.cell? ⟨w.heap.size + 1, 0, none⟩ = some (.int .i64 k2) := by rw [cell_of_heap HVB.out]; rfl
  have b1 : w1.cell? ⟨w.heap.size + 1, 1, none⟩ = some (.int .i64 p2) := by rw [cell_of_heap HVB.out]; rfl
  have b2 : w1.cell? ⟨w.heap.size + 1, 2, none⟩ = some (.int .i64 q2) := by rw [cell_of_heap HVB.out]; rfl
  have b3 : w1.cell? ⟨w.heap.size + 1, 3, none⟩ = some (.string s2) := by rw [cell_of_heap HVB.out]; rfl
  have b4 : w1.cell? ⟨w.heap.size + 1, 4, none⟩ = some (.int .i64 r2) := by rw [cell_of_heap HVB.out]; rfl
  go_wp2_with fail
  refine (HVV.out _).mono ?_
  rintro e w2 ⟨rfl, hb⟩
  have HKB2 := Lib.hid (hkeep hb HKB.out)
  have HVB2 := Lib.hid (hkeep hb HVB.out)
  have HW2 := Lib.hid (below_next HW1.out hb)
  have hz2 := hb.size
  have HMM := Lib.hid (hkeep HW2.out hm)
  have HROW := Lib.hid (ownsRow_ext (below_ext HW2.out (Nat.le_refl _)) hrow)
  have HGG := Lib.hid (bw HW2.out hg)
  have hgone : w2.cell? ⟨rb, n * 11 + 10, none⟩ = some (.bool sl.g) := (HROW.out.cellAt (n * 11 + 10) (by omega)).trans (rowSl_at L n 10 sl hsl (by decide))
  clear hb b0 b1 b2 b3 b4 HKB HVB
  have a0 : w2.cell? ⟨w.heap.size, 0, none⟩ = some (.int .i64 k1) := by rw [cell_of_heap HKB2.out]; rfl
  have a1 : w2.cell? ⟨w.heap.size, 1, none⟩ = some (.int .i64 p1) := by rw [cell_of_heap HKB2.out]; rfl
  have a2 : w2.cell? ⟨w.heap.size, 2, none⟩ = some (.int .i64 q1) := by rw [cell_of_heap HKB2.out]; rfl
  have a3 : w2.cell? ⟨w.heap.size, 3, none⟩ = some (.string s1) := by rw [cell_of_heap HKB2.out]; rfl
  have a4 : w2.cell? ⟨w.heap.size, 4, none⟩ = some (.int .i64 r1) := by rw [cell_of_heap HKB2.out]; rfl
  have b0 : w2.cell? ⟨w.heap.size + 1, 0, none⟩ = some (.int .i64 k2) := by rw [cell_of_heap HVB2.out]; rfl
  have b1 : w2.cell? ⟨w.heap.size + 1, 1, none⟩ = some (.int .i64 p2) := by rw [cell_of_heap HVB2.out]; rfl
  have b2 : w2.cell? ⟨w.heap.size + 1, 2, none⟩ = some (.int .i64 q2) := by rw [cell_of_heap HVB2.out]; rfl
  have b3 : w2.cell? ⟨w.heap.size + 1, 3, none⟩ = some (.string s2) := by rw [cell_of_heap HVB2.out]; rfl
  have b4 : w2.cell? ⟨w.heap.size + 1, 4, none⟩ = some (.int .i64 r2) := by rw [cell_of_heap HVB2.out]; rfl
  have m0 : w2.cell? ⟨m, 0, none⟩ = some (.slice (some ⟨rb, 0, none⟩) L.length cap) := by rw [cell_of_heap HMM.out]; rfl
  have m1 : w2.cell? ⟨m, 1, none⟩ = some (.map (some g)) := by rw [cell_of_heap HMM.out]; rfl
  have m2 : w2.cell? ⟨m, 2, none⟩ = some (.int .i64 (liveN L : Nat)) := by rw [cell_of_heap HMM.out]; rfl
  have fm0 : w2.frozen? ⟨m, 0, none⟩ = false := frozen_of_heap HMM.out _
  have fm1 : w2.frozen? ⟨m, 1, none⟩ = false := frozen_of_heap HMM.out _
  have fm2 : w2.frozen? ⟨m, 2, none⟩ = false := frozen_of_heap HMM.out _
  rw [hgf] at hgone
  go_wp2
  refine wp_region_lex mixed (by kernel_rfl) ?_
  go_wp2_with (at_lookup; refine wpList_look_map _ rfl _ _ _ _ rfl _ _ _ rfl rfl (HLK.out _ HGG.out) ?_)
  refine ⟨by kernel_rfl, ?_⟩
  go_wp2
  have HTH := Lib.hid (fun W (hW : W.heap = w2.heap) => there_row (ownsRow_keep (w3 := W) HROW.out (fun g _ => by rw [hW])) (n * 11 + 5) 5 (by omega))
  refine wp_region_lex mixed (by kernel_rfl) ?_
  go_wp2_with (refine wpList_store_mid rfl 30 _ _ rfl rb (n * 11 + 5) _ rfl rfl (HTH.out _ rfl) info25 (by simp [Value.oneCell']) ?_)
  refine ⟨by kernel_rfl, ?_⟩
  go_wp2
  go_ret
  exact ⟨rfl, w2.drew.drew, HW2.out.drew.drew, kit_setCells (valCells ⟨k2, p2, q2, s2, r2⟩) w2.drew.drew (n * 11 + 5)⟩
set_option maxRecDepth 100000 in
set_option maxHeartbeats 2000000 in
theorem pomSet_gone (w : World) (m g rb cap n : Nat) (L : List Sl) (hm : w.heap[m]? = some (.cells #[.slice (some ⟨rb, 0, none⟩) L.length cap, .map (some g), .int .i64 (liveN L : Nat)] 143))
    (hrow : w.ownsRow 0 146 11 (.slice (some ⟨rb, 0, none⟩) L.length cap) L.length (rowSl L)) (hL : L.length ≤ 1000) (hg : g < w.heap.size) (k1 p1 q1 : Int) (s1 : ByteArray) (r1 : Int) (k2 p2 q2 : Int) (s2 : ByteArray) (r2 : Int) (sl : Sl) (hsl : L[n]? = some sl)
    (hlk : ∀ W, W.heap[g]? = w.heap[g]? → (Instr.lookup 140 (.map (some g)) (.agg #[.int .i64 k1, .int .i64 p1, .int .i64 q1, .string s1, .int .i64 r1]) true).run Tryz.prog W = .ok (.tuple #[.int .i64 (n : Int), .bool true]) W)
    (hvk : ∀ W, Calls Tryz.prog 27 #[.agg #[.int .i64 k1, .int .i64 p1, .int .i64 q1, .string s1, .int .i64 r1]] W (BoolPost W true)) (hvv : ∀ W, Calls Tryz.prog 27 #[.agg #[.int .i64 k2, .int .i64 p2, .int .i64 q2, .string s2, .int .i64 r2]] W (BoolPost W true)) (hk0 : (k1 == 0) = false) (hv0 : (k2 == 0) = true) (hgf : sl.g = true) :
    Calls Tryz.prog 61 #[.pointer (some ⟨m, 0, none⟩), .agg #[.int .i64 k1, .int .i64 p1, .int .i64 q1, .string s1, .int .i64 r1], .agg #[.int .i64 k2, .int .i64 p2, .int .i64 q2, .string s2, .int .i64 r2]] w (fun e w' => e = .returned (.int .i64 0) ∧ Below w.heap.size w w') := by
  have hl2 := liveN_le L
  have hnl : n < L.length := (List.getElem?_eq_some_iff.1 hsl).1
  have hml : m < w.heap.size := (Array.getElem?_eq_some_iff.1 hm).1
  have hrl : rb < w.heap.size := (ownBlock_lt hrow rfl).2
  have HVK := Lib.hid hvk
  have HVV := Lib.hid hvv
  have HLK := Lib.hid hlk
  clear hvk hvv hlk
  go_enter Tryz.func61, Tryz.ntmps61
  go_wp2_with fail
  refine (HVK.out _).mono ?_
  rintro e w1 ⟨rfl, hb⟩
  have HKB := Lib.hid (hkeep hb (heap2_a _ _ _))
  have HVB := Lib.hid (hkeep hb (heap2_b _ _ _))
  have HW1 := Lib.hid (below_next (below2w _ _ _) hb)
  have hz1 := hb.size
  simp at hz1
  clear hb
  have b0 : w1.cell? ⟨w.heap.size + 1, 0, none⟩ = some (.int .i64 k2) := by rw [cell_of_heap HVB.out]; rfl
  have b1 : w1.cell? ⟨w.heap.size + 1, 1, none⟩ = some (.int .i64 p2) := by rw [cell_of_heap HVB.out]; rfl
  have b2 : w1.cell? ⟨w.heap.size + 1, 2, none⟩ = some (.int .i64 q2) := by rw [cell_of_heap HVB.out]; rfl
  have b3 : w1.cell? ⟨w.heap.size + 1, 3, none⟩ = some (.string s2) := by rw [cell_of_heap HVB.out]; rfl
  have b4 : w1.cell? ⟨w.heap.size + 1, 4, none⟩ = some (.int .i64 r2) := by rw [cell_of_heap HVB.out]; rfl
  go_wp2_with fail
  refine (HVV.out _).mono ?_
  rintro e w2 ⟨rfl, hb⟩
  have HKB2 := Lib.hid (hkeep hb HKB.out)
  have HVB2 := Lib.hid (hkeep hb HVB.out)
  have HW2 := Lib.hid (below_next HW1.out hb)
  have hz2 := hb.size
  have HMM := Lib.hid (hkeep HW2.out hm)
  have HROW := Lib.hid (ownsRow_ext (below_ext HW2.out (Nat.le_refl _)) hrow)
  have HGG := Lib.hid (bw HW2.out hg)
  have hgone : w2.cell? ⟨rb, n * 11 + 10, none⟩ = some (.bool sl.g) := (HROW.out.cellAt (n * 11 + 10) (by omega)).trans (rowSl_at L n 10 sl hsl (by decide))
  clear hb b0 b1 b2 b3 b4 HKB HVB
  have a0 : w2.cell? ⟨w.heap.size, 0, none⟩ = some (.int .i64 k1) := by rw [cell_of_heap HKB2.out]; rfl
  have a1 : w2.cell? ⟨w.heap.size, 1, none⟩ = some (.int .i64 p1) := by rw [cell_of_heap HKB2.out]; rfl
  have a2 : w2.cell? ⟨w.heap.size, 2, none⟩ = some (.int .i64 q1) := by rw [cell_of_heap HKB2.out]; rfl
  have a3 : w2.cell? ⟨w.heap.size, 3, none⟩ = some (.string s1) := by rw [cell_of_heap HKB2.out]; rfl
  have a4 : w2.cell? ⟨w.heap.size, 4, none⟩ = some (.int .i64 r1) := by rw [cell_of_heap HKB2.out]; rfl
  have b0 : w2.cell? ⟨w.heap.size + 1, 0, none⟩ = some (.int .i64 k2) := by rw [cell_of_heap HVB2.out]; rfl
  have b1 : w2.cell? ⟨w.heap.size + 1, 1, none⟩ = some (.int .i64 p2) := by rw [cell_of_heap HVB2.out]; rfl
  have b2 : w2.cell? ⟨w.heap.size + 1, 2, none⟩ = some (.int .i64 q2) := by rw [cell_of_heap HVB2.out]; rfl
  have b3 : w2.cell? ⟨w.heap.size + 1, 3, none⟩ = some (.string s2) := by rw [cell_of_heap HVB2.out]; rfl
  have b4 : w2.cell? ⟨w.heap.size + 1, 4, none⟩ = some (.int .i64 r2) := by rw [cell_of_heap HVB2.out]; rfl
  have m0 : w2.cell? ⟨m, 0, none⟩ = some (.slice (some ⟨rb, 0, none⟩) L.length cap) := by rw [cell_of_heap HMM.out]; rfl
  have m1 : w2.cell? ⟨m, 1, none⟩ = some (.map (some g)) := by rw [cell_of_heap HMM.out]; rfl
  have m2 : w2.cell? ⟨m, 2, none⟩ = some (.int .i64 (liveN L : Nat)) := by rw [cell_of_heap HMM.out]; rfl
  have fm0 : w2.frozen? ⟨m, 0, none⟩ = false := frozen_of_heap HMM.out _
  have fm1 : w2.frozen? ⟨m, 1, none⟩ = false := frozen_of_heap HMM.out _
  have fm2 : w2.frozen? ⟨m, 2, none⟩ = false := frozen_of_heap HMM.out _
  rw [hgf] at hgone
  go_wp2
  refine wp_region_lex mixed (by kernel_rfl) ?_
  go_wp2_with (at_lookup; refine wpList_look_map _ rfl _ _ _ _ rfl _ _ _ rfl rfl (HLK.out _ HGG.out) ?_)
  refine ⟨by kernel_rfl, ?_⟩
  go_wp2
  go_ret
  exact ⟨rfl, HW2.out.drew⟩
set_option maxRecDepth 100000 in
set_option maxHeartbeats 2000000 in
theorem pomSet_push (w : World) (m g cap : Nat) (so : Option Addr) (L : List Sl) (E : List (Value × Value)) (f : V → Option Nat) (hm : w.heap[m]? = some (.cells #[.slice so L.length cap, .map (some g), .int .i64 (liveN L : Nat)] 143))
    (hrow : w.ownsRow 0 146 11 (.slice so L.length cap) L.length (rowSl L)) (hL : L.length ≤ 1000) (hE : MapAt Tryz.prog 30 w g E) (hG : Graph E f) (hroom : ¬ liveN L + 8 < L.length - liveN L) (k1 p1 q1 : Int) (s1 : ByteArray) (r1 : Int) (k2 p2 q2 : Int) (s2 : ByteArray) (r2 : Int) (hkw : WfV ⟨k1, p1, q1, s1, r1⟩)
    (hvk : ∀ W, Calls Tryz.prog 27 #[.agg #[.int .i64 k1, .int .i64 p1, .int .i64 q1, .string s1, .int .i64 r1]] W (BoolPost W true)) (hvv : ∀ W, Calls Tryz.prog 27 #[.agg #[.int .i64 k2, .int .i64 p2, .int .i64 q2, .string s2, .int .i64 r2]] W (BoolPost W true)) (hk0 : (k1 == 0) = false) (hI : Idx L f) (hno : NoLive L f ⟨k1, p1, q1, s1, r1⟩) (hwf : ∀ s ∈ L, WfV s.k ∧ WfV s.v) (hvw : WfV ⟨k2, p2, q2, s2, r2⟩) (hv0 : (k2 == 0) = false)
    (hlk : ∀ W, W.heap[g]? = w.heap[g]? → (Instr.lookup 140 (.map (some g)) (.agg #[.int .i64 k1, .int .i64 p1, .int .i64 q1, .string s1, .int .i64 r1]) true).run Tryz.prog W = .ok (.tuple #[.int .i64 0, .bool false]) W) :
    Calls Tryz.prog 61 #[.pointer (some ⟨m, 0, none⟩), .agg #[.int .i64 k1, .int .i64 p1, .int .i64 q1, .string s1, .int .i64 r1], .agg #[.int .i64 k2, .int .i64 p2, .int .i64 q2, .string s2, .int .i64 r2]] w (OmPost w m g (.slice so L.length cap) (L ++ [⟨⟨k1, p1, q1, s1, r1⟩, ⟨k2, p2, q2, s2, r2⟩, false⟩])) := by
  have HII := Lib.hid hI
  have HNO := Lib.hid hno
  have HWF := Lib.hid hwf
  have HKW := Lib.hid hkw
  have HVW := Lib.hid hvw
  clear hI hno hwf hvw
  have hl2 := liveN_le L
  have hml : m < w.heap.size := (Array.getElem?_eq_some_iff.1 hm).1
  have hg : g < w.heap.size := hE.lt
  have hmg : m ≠ g := fun e => by
    obtain ⟨es, c, he, _⟩ := id hE
    rw [← e, hm] at he
    cases he
  obtain ⟨es0, c0, hgm, _⟩ := id hE
  have hrg := row_ne hrow hgm
  have HGM := Lib.hid hgm
  have HRG := Lib.hid hrg
  have HST := Lib.hid (put_at hE hG hkw)
  clear hgm hrg
  have HVK := Lib.hid hvk
  have HVV := Lib.hid hvv
  have HLK := Lib.hid hlk
  clear hvk hvv hlk hE hG
  go_enter Tryz.func61, Tryz.ntmps61
  go_wp2_with fail
  refine (HVK.out _).mono ?_
  rintro e w1 ⟨rfl, hb⟩
  have HKB := Lib.hid (hkeep hb (heap2_a _ _ _))
  have HVB := Lib.hid (hkeep hb (heap2_b _ _ _))
  have HW1 := Lib.hid (below_next (below2w _ _ _) hb)
  have hz1 := hb.size
  simp at hz1
  clear hb
  have b0 : w1.cell? ⟨w.heap.size + 1, 0, none⟩ = some (.int .i64 k2) := by rw [cell_of_heap HVB.out]; rfl
  have b1 : w1.cell? ⟨w.heap.size + 1, 1, none⟩ = some (.int .i64 p2) := by rw [cell_of_heap HVB.out]; rfl
  have b2 : w1.cell? ⟨w.heap.size + 1, 2, none⟩ = some (.int .i64 q2) := by rw [cell_of_heap HVB.out]; rfl
  have b3 : w1.cell? ⟨w.heap.size + 1, 3, none⟩ = some (.string s2) := by rw [cell_of_heap HVB.out]; rfl
  have b4 : w1.cell? ⟨w.heap.size + 1, 4, none⟩ = some (.int .i64 r2) := by rw [cell_of_heap HVB.out]; rfl
  go_wp2_with fail
  refine (HVV.out _).mono ?_
  rintro e w2 ⟨rfl, hb⟩
  have HKB2 := Lib.hid (hkeep hb HKB.out)
  have HVB2 := Lib.hid (hkeep hb HVB.out)
  have HW2 := Lib.hid (below_next HW1.out hb)
  have hz2 := hb.size
  have HMM := Lib.hid (hkeep HW2.out hm)
  have HROW := Lib.hid (ownsRow_ext (below_ext HW2.out (Nat.le_refl _)) hrow)
  have HGG := Lib.hid (bw HW2.out hg)
  clear hb b0 b1 b2 b3 b4 HKB HVB
  have a0 : w2.cell? ⟨w.heap.size, 0, none⟩ = some (.int .i64 k1) := by rw [cell_of_heap HKB2.out]; rfl
  have a1 : w2.cell? ⟨w.heap.size, 1, none⟩ = some (.int .i64 p1) := by rw [cell_of_heap HKB2.out]; rfl
  have a2 : w2.cell? ⟨w.heap.size, 2, none⟩ = some (.int .i64 q1) := by rw [cell_of_heap HKB2.out]; rfl
  have a3 : w2.cell? ⟨w.heap.size, 3, none⟩ = some (.string s1) := by rw [cell_of_heap HKB2.out]; rfl
  have a4 : w2.cell? ⟨w.heap.size, 4, none⟩ = some (.int .i64 r1) := by rw [cell_of_heap HKB2.out]; rfl
  have b0 : w2.cell? ⟨w.heap.size + 1, 0, none⟩ = some (.int .i64 k2) := by rw [cell_of_heap HVB2.out]; rfl
  have b1 : w2.cell? ⟨w.heap.size + 1, 1, none⟩ = some (.int .i64 p2) := by rw [cell_of_heap HVB2.out]; rfl
  have b2 : w2.cell? ⟨w.heap.size + 1, 2, none⟩ = some (.int .i64 q2) := by rw [cell_of_heap HVB2.out]; rfl
  have b3 : w2.cell? ⟨w.heap.size + 1, 3, none⟩ = some (.string s2) := by rw [cell_of_heap HVB2.out]; rfl
  have b4 : w2.cell? ⟨w.heap.size + 1, 4, none⟩ = some (.int .i64 r2) := by rw [cell_of_heap HVB2.out]; rfl
  have m0 : w2.cell? ⟨m, 0, none⟩ = some (.slice so L.length cap) := by rw [cell_of_heap HMM.out]; rfl
  have m1 : w2.cell? ⟨m, 1, none⟩ = some (.map (some g)) := by rw [cell_of_heap HMM.out]; rfl
  have m2 : w2.cell? ⟨m, 2, none⟩ = some (.int .i64 (liveN L : Nat)) := by rw [cell_of_heap HMM.out]; rfl
  have fm0 : w2.frozen? ⟨m, 0, none⟩ = false := frozen_of_heap HMM.out _
  have fm1 : w2.frozen? ⟨m, 1, none⟩ = false := frozen_of_heap HMM.out _
  have fm2 : w2.frozen? ⟨m, 2, none⟩ = false := frozen_of_heap HMM.out _
  go_wp2
  refine wp_region_lex mixed (by kernel_rfl) ?_
  go_wp2_with (at_lookup; refine wpList_look_map _ rfl _ _ _ _ rfl _ _ _ rfl rfl (HLK.out _ HGG.out) ?_)
  refine ⟨by kernel_rfl, ?_⟩
  go_wp2
  refine wp_region_lex mixed (by kernel_rfl) ?_
  go_wp2
  refine ⟨by kernel_rfl, ?_⟩
  go_wp2
  refine wp_region_lex mixed (by kernel_rfl) ?_
  go_wp2_with (at_mapUpdate; refine wpList_store_map _ rfl _ _ _ _ rfl _ _ _ rfl rfl rfl _ (HST.out L.length _ HGG.out) ?_; intro w3 hw3)
  refine ⟨by kernel_rfl, ?_⟩
  go_wp2
  obtain ⟨hput, hmods, hsz3⟩ := hw3
  have HPUT := Lib.hid hput
  have HK3 := Lib.hid (mods_keep hmods (show w2.drew.drew.drew.heap[w.heap.size]? = _ from HKB2.out) (by omega))
  have HV3 := Lib.hid (mods_keep hmods (show w2.drew.drew.drew.heap[w.heap.size + 1]? = _ from HVB2.out) (by omega))
  have HM3 := Lib.hid (mods_keep hmods (show w2.drew.drew.drew.heap[m]? = _ from HMM.out) hmg)
  have HR3 := Lib.hid (ownsRow_keep (w3 := w3) HROW.out (fun b hb => hmods.block b (ownBlock_lt HROW.out hb).2 (HRG.out b hb)))
  have HMD := Lib.hid hmods
  have hsz3' : w2.heap.size ≤ w3.heap.size := Nat.le_of_eq (Eq.symm hsz3)
  clear hput hmods hsz3 a0 a1 a2 a3 a4 b0 b1 b2 b3 b4 m0 m1 m2 fm0 fm1 fm2
  have a0 : w3.cell? ⟨w.heap.size, 0, none⟩ = some (.int .i64 k1) := by rw [cell_of_heap HK3.out]; rfl
  have a1 : w3.cell? ⟨w.heap.size, 1, none⟩ = some (.int .i64 p1) := by rw [cell_of_heap HK3.out]; rfl
  have a2 : w3.cell? ⟨w.heap.size, 2, none⟩ = some (.int .i64 q1) := by rw [cell_of_heap HK3.out]; rfl
  have a3 : w3.cell? ⟨w.heap.size, 3, none⟩ = some (.string s1) := by rw [cell_of_heap HK3.out]; rfl
  have a4 : w3.cell? ⟨w.heap.size, 4, none⟩ = some (.int .i64 r1) := by rw [cell_of_heap HK3.out]; rfl
  have b0 : w3.cell? ⟨w.heap.size + 1, 0, none⟩ = some (.int .i64 k2) := by rw [cell_of_heap HV3.out]; rfl
  have b1 : w3.cell? ⟨w.heap.size + 1, 1, none⟩ = some (.int .i64 p2) := by rw [cell_of_heap HV3.out]; rfl
  have b2 : w3.cell? ⟨w.heap.size + 1, 2, none⟩ = some (.int .i64 q2) := by rw [cell_of_heap HV3.out]; rfl
  have b3 : w3.cell? ⟨w.heap.size + 1, 3, none⟩ = some (.string s2) := by rw [cell_of_heap HV3.out]; rfl
  have b4 : w3.cell? ⟨w.heap.size + 1, 4, none⟩ = some (.int .i64 r2) := by rw [cell_of_heap HV3.out]; rfl
  have m0 : w3.cell? ⟨m, 0, none⟩ = some (.slice so L.length cap) := by rw [cell_of_heap HM3.out]; rfl
  have m1 : w3.cell? ⟨m, 1, none⟩ = some (.map (some g)) := by rw [cell_of_heap HM3.out]; rfl
  have m2 : w3.cell? ⟨m, 2, none⟩ = some (.int .i64 (liveN L : Nat)) := by rw [cell_of_heap HM3.out]; rfl
  have fm0 : w3.frozen? ⟨m, 0, none⟩ = false := frozen_of_heap HM3.out _
  have fm1 : w3.frozen? ⟨m, 1, none⟩ = false := frozen_of_heap HM3.out _
  have fm2 : w3.frozen? ⟨m, 2, none⟩ = false := frozen_of_heap HM3.out _
  obtain ⟨i6, hi6, hi6a, hi6b, hi6c⟩ := info_parts info161p
  refine wp_region_lex mixed (by kernel_rfl) ?_
  go_wp2_with (at_builtin; refine wpList_append_own_at _ rfl (.tmp 79) (.tmp 83) 141 rfl 0 146 i6 _ 11 104 Tryz.underlying141 hi6 hi6a hi6b hi6c rfl (by decide) (.slice so L.length cap) L.length (rowSl L) rfl ?A _ 1 1 [.int .i64 k1, .int .i64 p1, .int .i64 q1, .string s1, .int .i64 r1, .int .i64 k2, .int .i64 p2, .int .i64 q2, .string s2, .int .i64 r2, .bool false] rfl rfl ?B ?C ?D ?E ?F ?G)
  case A => exact ownsRow_ext (below_ext ((Below.refl _ _).alloc (Nat.le_refl _) _).drew (Nat.le_refl _)) HR3.out
  case B => exact cells_eleven_d _ _ _ _ _ _ _ _ _ _ _ _ _ _ rfl
  case C =>
    intro u hu
    simp only [List.mem_cons, List.not_mem_nil, or_false] at hu
    rcases hu with rfl | rfl | rfl | rfl | rfl | rfl | rfl | rfl | rfl | rfl | rfl <;> simp [Value.oneCell']
  case D => unfold maxLen; omega
  case E => omega
  case F => exact Nat.zero_le _
  case G =>
    intro v' w4 hown hgrow _ hat
    obtain ⟨rb', cap', rfl⟩ := slice_shape hown (by omega)
    have hrm := row_ne_m HR3.out HM3.out
    have HM4 := Lib.hid (show w4.heap[m]? = _ from (hgrow.block m (by simp; omega) (fun e => hrm m e.symm rfl)).trans ((Below.heap_alloc w3 _ m (by omega)).trans HM3.out))
    have HG4 := Lib.hid (show w4.heap[g]? = w3.heap[g]? from (hgrow.block g (by simp; omega) (fun e => HRG.out g e.symm rfl)).trans (Below.heap_alloc w3 _ g (by omega)))
    have HOWN := Lib.hid hown
    have HAT := Lib.hid hat
    have HGR := Lib.hid hgrow
    clear hown hat hgrow hrm a0 a1 a2 a3 a4 b0 b1 b2 b3 b4 m0 m1 m2 fm0 fm1 fm2
    have m0 : w4.cell? ⟨m, 0, none⟩ = some (.slice so L.length cap) := by rw [cell_of_heap HM4.out]; rfl
    have m1 : w4.cell? ⟨m, 1, none⟩ = some (.map (some g)) := by rw [cell_of_heap HM4.out]; rfl
    have m2 : w4.cell? ⟨m, 2, none⟩ = some (.int .i64 (liveN L : Nat)) := by rw [cell_of_heap HM4.out]; rfl
    have fm0 : w4.frozen? ⟨m, 0, none⟩ = false := frozen_of_heap HM4.out _
    have fm1 : w4.frozen? ⟨m, 1, none⟩ = false := frozen_of_heap HM4.out _
    have fm2 : w4.frozen? ⟨m, 2, none⟩ = false := frozen_of_heap HM4.out _
    go_wp2
    refine ⟨by kernel_rfl, ?_⟩
    go_wp2
    go_ret
    refine ⟨rfl, .slice (some ⟨rb', 0, none⟩) (L.length + 1) cap', ?_, ?_, ?_⟩
    · exact push_omap HM4.out HOWN.out HPUT.out HG4.out hmg HII.out HNO.out HWF.out HKW.out HVW.out
    · exact push_mods (Mods.of_below HW2.out.drew.drew.drew) HMD.out ((Below.refl _ _).alloc (Nat.le_refl _) _).drew HGR.out (.inl rfl) (.inr (.inl rfl)) (fun b hb => .inl (.inr (.inr hb)))
    · intro b hb
      rcases HAT.out with h | h
      · exact .inl (h.symm.trans hb)
      · rw [h] at hb
        injection hb with hb
        subst hb
        exact .inr (by first | omega | (simp; omega))
set_option maxRecDepth 100000 in
theorem neq_run (W : World) (k p q : Int) (s : ByteArray) (r : Int) (k2 p2 q2 : Int) (s2 : ByteArray) (r2 : Int) :
    (binOp .neq 30 (.agg #[.int .i64 k, .int .i64 p, .int .i64 q, .string s, .int .i64 r]) (.agg #[.int .i64 k2, .int .i64 p2, .int .i64 q2, .string s2, .int .i64 r2])).run Tryz.prog W = .ok (.bool (!eqV ⟨k, p, q, s, r⟩ ⟨k2, p2, q2, s2, r2⟩)) W := by
  by_cases h1 : k = k2 <;> by_cases h2 : p = p2 <;> by_cases h3 : q = q2 <;> by_cases h4 : s = s2 <;> by_cases h5 : r = r2 <;> simp [go_sem, eqV, h1, h2, h3, h4, h5]
  have h6 : ¬ s.toList = s2.toList := fun e => h4 (ByteArray.ext (Array.toList_inj.1 (by rw [← ByteArray.toList_eq, ← ByteArray.toList_eq]; exact e)))
  have h7 : (bytesOf s == bytesOf s2) = false := beq_eq_false_iff_ne.2 (fun e => h4 (bytesOf_inj e))
  first
  | (rw [if_neg h6]; simp [h7]; done)
  | (simp [h6, h7]; done)
  | (have h8 : ¬ bytesOf s = bytesOf s2 := fun e => h4 (bytesOf_inj e); simp [h6, h8])
theorem pOfInt_top (w : World) (n : Int) (h1 : -2147483647 ≤ n) (h2 : n ≤ 2147483647) : Calls Tryz.prog 79 #[.int .i64 n] w (fun e w' => e = .returned (.agg #[.int .i64 2, .int .i64 n, .int .i64 1, .string ⟨#[]⟩, .int .i64 0]) ∧ Below w.heap.size w w') := by
  have := pOfInt_c w n
  unfold intV at this
  rw [if_pos (inTop_iff.2 ⟨h1, h2⟩)] at this
  exact this
end Go.Proofs.YteflmfdjnigjcaaGreatDoor
