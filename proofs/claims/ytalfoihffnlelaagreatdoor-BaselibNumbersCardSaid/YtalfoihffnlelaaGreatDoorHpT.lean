import Derived.Test.YtalfoihffnlelaaGreatDoorBn
set_option linter.unusedVariables false
set_option linter.unusedSimpArgs false
set_option maxRecDepth 100000
set_option maxHeartbeats 2000000
namespace Go.Proofs.YtalfoihffnlelaaGreatDoor
open Go.RowKit Go.Proofs.Lexi
set_option maxRecDepth 100000 in
theorem neq_run (W : World) (k p q : Int) (s : ByteArray) (r : Int) (k2 p2 q2 : Int) (s2 : ByteArray) (r2 : Int) :
    (binOp .neq 30 (.agg #[.int .i64 k, .int .i64 p, .int .i64 q, .string s, .int .i64 r]) (.agg #[.int .i64 k2, .int .i64 p2, .int .i64 q2, .string s2, .int .i64 r2])).run Tryz.prog W = .ok (.bool (!eqV ⟨k, p, q, s, r⟩ ⟨k2, p2, q2, s2, r2⟩)) W := by
  by_cases h1 : k = k2 <;> by_cases h2 : p = p2 <;> by_cases h3 : q = q2 <;> by_cases h4 : s = s2 <;> by_cases h5 : r = r2 <;> simp [go_sem, eqV, h1, h2, h3, h4, h5]
  have h6 : ¬ s.toList = s2.toList := fun e => h4 (ByteArray.ext (Array.toList_inj.1 (by rw [← ByteArray.toList_eq, ← ByteArray.toList_eq]; exact e)))
  have h7 : (bytesOf s == bytesOf s2) = false := beq_eq_false_iff_ne.2 (fun e => h4 (bytesOf_inj e))
  first
  | (rw [if_neg h6]; simp [h7]; done)
  | (simp [h6, h7]; done)
  | (have h8 : ¬ bytesOf s = bytesOf s2 := fun e => h4 (bytesOf_inj e); simp [h6, h8])
set_option maxRecDepth 100000 in
set_option maxHeartbeats 2000000 in
theorem lstr_c (w : World) (s : ByteArray) : Calls Tryz.prog 8 #[.string s] w (ValPost w (strV s)) := by
  go_enter Tryz.func8, Tryz.ntmps8
  go_wp2
  refine bodyPost_ret (by simp [results, Tryz.results8, go_sem]; first | done | rfl) rfl ?_
  exact val_done rfl (below1 _ _)
set_option maxRecDepth 100000 in
set_option maxHeartbeats 2000000 in
theorem lnum_c (w : World) (n : Int) : Calls Tryz.prog 9 #[.int .i64 n] w (ValPost w ⟨2, n, 1, ⟨#[]⟩, 0⟩) := by
  go_enter Tryz.func9, Tryz.ntmps9
  go_wp2
  refine bodyPost_ret (by simp [results, Tryz.results9, go_sem]; first | done | rfl) rfl ?_
  exact val_done rfl (below1 _ _)
set_option maxRecDepth 100000 in
set_option maxHeartbeats 2000000 in
theorem plist_c (w : World) (sv : Value) (A : List V) (hA : Vals w sv A) (hl : A.length ≤ 1000) : Calls Tryz.prog 73 #[sv] w (ListPost w A) := by
  obtain ⟨i5, hi5, hi5a, hi5b, hi5c⟩ := info_parts info25p
  obtain ⟨so, cap, rfl, hcap, hnone, hc⟩ := hA
  rcases so with _ | ad
  · have hnil : A = [] := by
      rcases hc with hc | ⟨g, o, h, _⟩
      · exact hc
      · cases h
    subst hnil
    obtain rfl := hnone rfl
    clear hcap hnone hc
    go_enter Tryz.func73, Tryz.ntmps73
    go_wp2_with (at_builtin; refine wpList_append_own_none rfl (.const (.slice none 0 0)) (.tmp 3) 22 rfl w.heap.size 30 i5 5 Tryz.underlying22 hi5 (.slice none 0 0) 0 [] rfl (World.ownsRow_nil w _ _ _) rfl ?_)
    go_wp2
    go_ret
    exact ⟨none, 0, rfl, World.ownsRow_nil w _ _ _, Below.refl _ _⟩
  · have hcell : ∀ j u, (rowV A)[j]? = some u → w.cell? (ad.add j) = some u := by
      intro j u hj
      rcases hc with rfl | ⟨g, o, h, _, hx⟩
      · simp [rowV] at hj
      · injection h with h
        subst h
        rw [add_none]
        exact hx j u hj
    clear hc hnone
    go_enter Tryz.func73, Tryz.ntmps73
    go_wp2_with (at_builtin; refine wpList_append_own_at _ rfl (.const (.slice none 0 0)) (.tmp 3) 22 rfl w.heap.size 30 i5 _ 5 48 Tryz.underlying22 hi5 hi5a hi5b hi5c rfl (by decide) (.slice none 0 0) 0 [] rfl (World.ownsRow_nil w _ _ _) ad A.length cap (rowV A) rfl (rowV_len A) hcell rowV_one ?D ?E (Nat.le_refl _) ?G)
    case D => unfold maxLen; omega
    case E => omega
    case G =>
      intro v' w' hown hgrow _ hat
      obtain ⟨so', cap', rfl⟩ := row_shape hown
      have HO := Lib.hid hown
      have HG := Lib.hid hgrow
      clear hown hgrow hat hcell hi5 hi5a hi5b hi5c
      go_wp2
      go_ret
      exact ⟨so', cap', rfl, HO.out, grown_below HG.out⟩
set_option maxRecDepth 100000 in
set_option maxHeartbeats 2000000 in
theorem pReturn_c (w : World) (so : Option Addr) (n cap : Nat) (A : List V) (hA : Vals w (.slice so n cap) A) (hl : A.length ≤ 1000) : Calls Tryz.prog 29 #[.slice so n cap] w (RetPost w A) := by
  have HL := Lib.hid (fun W (hb : Below w.heap.size w W) => plist_c W _ A (Vals.below hA hb) hl)
  clear hA
  go_enter Tryz.func29, Tryz.ntmps29
  go_wp2_with fail
  refine (HL.out _ (below1 _ _)).mono ?_
  rintro e w1 ⟨so1, cap1, rfl, hrow, hb⟩
  have HR1 := Lib.hid hrow
  have Ha1 := Lib.hid (hkeep hb (heap1 w oAc))
  have HW1 := Lib.hid (below_next (below1 _ _) hb)
  clear hb hrow
  have hya : w.heap.size < w1.heap.size := (Array.getElem?_eq_some_iff.1 Ha1.out).1
  obtain ⟨a0, a1, a2, a3, a4, a5, a6, a7, a8, a9, a10, a11⟩ := cells12 Ha1.out
  obtain ⟨f0, f1, f2, f3, f4, f5, f6, f7, f8, f9, f10, f11⟩ := froz12 Ha1.out
  go_wp2
  refine bodyPost_ret (by simp [results, Tryz.results29, go_sem, hya, a0, a1, a2, a3, a4, a5, a6, a7, a8, a9, a10, a11]; first | done | rfl) rfl ?_
  refine ⟨so1, cap1, rfl, ownsRow_base (row_twelve HR1.out (fun h => ?_) _ _ _ _ _ _ _ _ _ _ _ _) (by simp), below_twelve HW1.out (Nat.le_refl _) _ _ _ _ _ _ _ _ _ _ _ _⟩
  have := (ownBlock_lt HR1.out h).1
  simp at this
  omega
set_option maxRecDepth 100000 in
set_option maxHeartbeats 2000000 in
theorem pArg_in (w : World) (so : Option Addr) (n cap : Nat) (A : List V) (hA : Vals w (.slice so n cap) A) (i : Nat) (v : V) (hv : A[i]? = some v) (hl : A.length ≤ 1000) : Calls Tryz.prog 24 #[.slice so n cap, .int .i64 i] w (ValPost w v) := by
  have hi : i < A.length := (List.getElem?_eq_some_iff.1 hv).1
  have hsh := hA
  obtain ⟨so', cap', e, hc, _, hx⟩ := hsh
  injection e with e1 e2 e3
  subst e2
  rcases hx with rfl | ⟨g, o, rfl, hg, _⟩
  · simp at hi
  · subst e1
    obtain ⟨hg, b0, b1, b2, b3, b4⟩ := Vals.at_ hA hv
    have b0' : (w.alloc (oV 0 0 0 ⟨#[]⟩ 0)).cell? ⟨g, o + i * 5, none⟩ = some (.int .i64 v.k) := (cell_alloc_old hg).trans b0
    have b1' : (w.alloc (oV 0 0 0 ⟨#[]⟩ 0)).cell? ⟨g, o + i * 5 + 1, none⟩ = some (.int .i64 v.p) := (cell_alloc_old hg).trans b1
    have b2' : (w.alloc (oV 0 0 0 ⟨#[]⟩ 0)).cell? ⟨g, o + i * 5 + 2, none⟩ = some (.int .i64 v.q) := (cell_alloc_old hg).trans b2
    have b3' : (w.alloc (oV 0 0 0 ⟨#[]⟩ 0)).cell? ⟨g, o + i * 5 + 3, none⟩ = some (.string v.s) := (cell_alloc_old hg).trans b3
    have b4' : (w.alloc (oV 0 0 0 ⟨#[]⟩ 0)).cell? ⟨g, o + i * 5 + 4, none⟩ = some (.int .i64 v.r) := (cell_alloc_old hg).trans b4
    have h0 : ((i : Int) < 0) = False := eq_false (by omega)
    have d0 : decide ((i : Int) < 0) = false := decide_eq_false (by omega)
    have d1 : decide ((i : Int) ≥ (A.length : Int)) = false := decide_eq_false (by omega)
    have d2 : decide ((A.length : Int) ≤ (i : Int)) = false := decide_eq_false (by omega)
    clear hA hv
    go_enter Tryz.func24, Tryz.ntmps24
    go_wp2
    refine bodyPost_ret (by simp [results, Tryz.results24, go_sem]; first | done | rfl) rfl ?_
    exact val_done rfl (below1 _ _)
set_option maxRecDepth 100000 in
theorem eq_run (W : World) (k p q : Int) (s : ByteArray) (r : Int) (k2 p2 q2 : Int) (s2 : ByteArray) (r2 : Int) :
    (binOp .eql 30 (.agg #[.int .i64 k, .int .i64 p, .int .i64 q, .string s, .int .i64 r]) (.agg #[.int .i64 k2, .int .i64 p2, .int .i64 q2, .string s2, .int .i64 r2])).run Tryz.prog W = .ok (.bool (eqV ⟨k, p, q, s, r⟩ ⟨k2, p2, q2, s2, r2⟩)) W := by
  by_cases h1 : k = k2 <;> by_cases h2 : p = p2 <;> by_cases h3 : q = q2 <;> by_cases h4 : s = s2 <;> by_cases h5 : r = r2 <;> simp [go_sem, eqV, h1, h2, h3, h4, h5]
  have h6 : ¬ s.toList = s2.toList := fun e => h4 (ByteArray.ext (Array.toList_inj.1 (by rw [← ByteArray.toList_eq, ← ByteArray.toList_eq]; exact e)))
  have h7 : (bytesOf s == bytesOf s2) = false := beq_eq_false_iff_ne.2 (fun e => h4 (bytesOf_inj e))
  rw [if_neg h6, h7]
theorem neqs_run (W : World) (v : V) : (binOp .neq 30 (.agg #[.int .i64 v.k, .int .i64 v.p, .int .i64 v.q, .string v.s, .int .i64 v.r]) (.agg #[.int .i64 v.k, .int .i64 v.p, .int .i64 v.q, .string v.s, .int .i64 v.r])).run Tryz.prog W = .ok (.bool false) W := by
  have := neq_run W v.k v.p v.q v.s v.r v.k v.p v.q v.s v.r
  rw [this]
  simp [eqV]
set_option maxRecDepth 100000 in
set_option maxHeartbeats 2000000 in
theorem same_true (w : World) (so sp : Option Addr) (n m cap cap2 : Nat) (A : List V) (hA : Vals w (.slice so n cap) A) (hB : Vals w (.slice sp m cap2) A) (hl : A.length ≤ 1000) :
    Calls Tryz.prog 10 #[.slice so n cap, .slice sp m cap2] w (BoolPost w true) := by
  have hn : n = A.length := by obtain ⟨_, _, e, _⟩ := hA; injection e
  have hm : m = A.length := by obtain ⟨_, _, e, _⟩ := hB; injection e
  subst hn
  subst hm
  have HA := Lib.hid hA
  have HB := Lib.hid hB
  clear hA hB
  go_enter Tryz.func10, Tryz.ntmps10
  go_wp2
  go_loopg [13] A.length (fun gg iv wr => ∃ i k : Nat, gg = A.length - i ∧ iv = .int .i64 (i : Int) ∧ wr = w.drewN k ∧ i ≤ A.length)
  case atStart => exact ⟨0, 0, rfl, rfl, rfl, Nat.zero_le _⟩
  obtain ⟨i, k, rfl, rfl, rfl, hi⟩ := hrel
  by_cases hlt : i < A.length
  · obtain ⟨v, hv⟩ : ∃ v, A[i]? = some v := ⟨_, List.getElem?_eq_getElem hlt⟩
    have hne : A ≠ [] := fun h => by rw [h] at hlt; simp at hlt
    obtain ⟨g1, o1, rfl⟩ := Vals.some_of HA.out hne
    obtain ⟨g2, o2, rfl⟩ := Vals.some_of HB.out hne
    clear hne
    obtain ⟨hg1, b0, b1, b2, b3, b4⟩ := Vals.at_ HA.out hv
    obtain ⟨hg2, d0, d1, d2, d3, d4⟩ := Vals.at_ HB.out hv
    have NE := fun W => neqs_run W v
    clear hv
    go_wp2
    go_quiet (fail)
    go_wp2
    go_roundg (A.length - (i + 1))
    case measure => omega
    case rel => exact ⟨i + 1, _, rfl, by push_cast; rfl, by first | rfl | exact World.drewN_drewN .. | simp, by omega⟩
  · go_wp2
    go_ret
    exact ⟨rfl, bdn (Below.refl _ _) _⟩
set_option maxRecDepth 100000 in
set_option maxHeartbeats 2000000 in
theorem pcalled_c (w : World) (kind next : Int) (k p q : Int) (s : ByteArray) (r : Int) (so : Option Addr) (n cap : Nat) (A : List V) (hA : Vals w (.slice so n cap) A) (hl : A.length ≤ 1000) (sk : Option Addr) (m ck : Nat) (K : List V) (hK : Vals w (.slice sk m ck) K) (hm : K.length ≤ 1000) :
    Calls Tryz.prog 72 #[.int .i64 kind, .agg #[.int .i64 k, .int .i64 p, .int .i64 q, .string s, .int .i64 r], .slice so n cap, .int .i64 next, .slice sk m ck] w (ActPost NoF w kind 0 ⟨k, p, q, s, r⟩ A ⟨#[]⟩ 0 next K) := by
  have HA := Lib.hid (fun W (hb : Below w.heap.size w W) => plist_c W _ A (Vals.below hA hb) hl)
  have HK := Lib.hid (fun W (hb : Below w.heap.size w W) => plist_c W _ K (Vals.below hK hb) hm)
  clear hA hK
  go_enter Tryz.func72, Tryz.ntmps72
  go_wp2
  obtain ⟨B, hB⟩ : ∃ B, B = (w.alloc (oV k p q s r)).alloc oAc := ⟨_, rfl⟩
  rw [← hB]
  have HW0 := Lib.hid (show Below w.heap.size w B by rw [hB]; exact below2w _ _ _)
  have Hf0 := Lib.hid (show B.heap[w.heap.size]? = some (oV k p q s r) by rw [hB]; exact heap2_a _ _ _)
  have Ha0 := Lib.hid (show B.heap[w.heap.size + 1]? = some oAc by rw [hB]; exact heap2_b _ _ _)
  clear hB
  have SO := Lib.hid (fun (W : World) (hb : Mods (fun k => k = w.heap.size + 1) B W) => (show W.cell? ⟨w.heap.size, 0, none⟩ = some (.int .i64 k) ∧ W.cell? ⟨w.heap.size, 1, none⟩ = some (.int .i64 p) ∧ W.cell? ⟨w.heap.size, 2, none⟩ = some (.int .i64 q) ∧ W.cell? ⟨w.heap.size, 3, none⟩ = some (.string s) ∧ W.cell? ⟨w.heap.size, 4, none⟩ = some (.int .i64 r) ∧ Hid (Mods (fun k => k = w.heap.size + 1) B W) from at5m (mkeep hb Hf0.out (by omega)) hb))
  have SO12 := Lib.hid (fun (W : World) (c0 c1 c2 c3 c4 c5 c6 c7 c8 c9 c10 c11 : Value) (hb : Mods (fun k => k = w.heap.size + 1) B W) => SO.out _ (mods_twelve hb (.inl rfl) 0 1 2 3 4 5 6 7 8 9 10 11 c0 c1 c2 c3 c4 c5 c6 c7 c8 c9 c10 c11))
  have TO := Lib.hid (fun (W : World) (hb : Mods (fun k => k = w.heap.size + 1) B W) => (show Below w.heap.size w W from Mods.below (Mods.trans (Mods.of_below HW0.out) hb) (Nat.le_refl _) (fun k hk h => by omega)))
  have hbR : Mods (fun k => k = w.heap.size + 1) B B := Mods.refl _ _
  have hbD : Mods (fun k => k = w.heap.size + 1) B B.drew := Mods.of_below (Below.refl _ _).drew
  go_region_held3 (fun w' => w'.cell? ⟨w.heap.size, 0, none⟩ = some (.int .i64 k) ∧ w'.cell? ⟨w.heap.size, 1, none⟩ = some (.int .i64 p) ∧ w'.cell? ⟨w.heap.size, 2, none⟩ = some (.int .i64 q) ∧ w'.cell? ⟨w.heap.size, 3, none⟩ = some (.string s) ∧ w'.cell? ⟨w.heap.size, 4, none⟩ = some (.int .i64 r) ∧ Hid (Mods (fun k => k = w.heap.size + 1) B w'))
    (first | with_reducible exact SO.out _ (by assumption) | with_reducible exact SO12.out _ _ _ _ _ _ _ _ _ _ _ _ _ (by assumption))
    (first | (go_at_call 73; (with_reducible refine (HA.out _ (TO.out _ (prj5a (by assumption)))).mono ?_); rintro e w1 ⟨so1, cap1, rfl, hrow, hb⟩; have hb1 := mods_next (prj5a (by assumption)) hb; have HA1 := Lib.hid (hkeep hb Ha0.out); have HR1 := Lib.hid hrow; clear hb hrow) | (go_at_call 73; (with_reducible refine (HK.out _ (TO.out _ (prj5a (by assumption)))).mono ?_); rintro e w2 ⟨so2, cap2, rfl, hrow, hb⟩; have hb2 := mods_next (prj5a (by assumption)) hb; have HR1 := Lib.hid (ownsRow_ext (below_ext hb (Nat.le_refl _)) HR1.out); have HR2 := Lib.hid hrow; have HA2 := Lib.hid (hkeep hb HA1.out); (obtain ⟨a0, a1, a2, a3, a4, a5, a6, a7, a8, a9, a10, a11⟩ := cells12 HA2.out); (obtain ⟨fa0, fa1, fa2, fa3, fa4, fa5, fa6, fa7, fa8, fa9, fa10, fa11⟩ := froz12 HA2.out); clear hb hrow))
  have hz := HW0.out.size
  have hzb := (Array.getElem?_eq_some_iff.1 Ha0.out).1
  have hz1 := hb1.size
  have hya : w.heap.size + 1 < w2.heap.size := (Array.getElem?_eq_some_iff.1 HA2.out).1
  go_wp2
  refine bodyPost_ret (by simp [results, Tryz.results72, go_sem, hya, a0, a1, a2, a3, a4, a5, a6, a7, a8, a9, a10, a11]; first | done | rfl) rfl ?_
  exact act_end (B := B.heap.size) (ownsRow_base HR1.out (Nat.le_refl _)) (ownsRow_base HR2.out hz1) (Mods.of_below (TO.out _ hb2)) (by omega) (by omega) _ _ _ _ _ _ _ _ _ _ _ _
set_option maxRecDepth 100000 in
set_option maxHeartbeats 2000000 in
theorem isP2_c (w : World) (b : Nat) (h1 : 2 ≤ b) (h2 : b ≤ 36) : Calls Tryz.prog 117 #[.int .i64 b] w (fun e w' => e = .returned (.bool (isP2 b)) ∧ w = w') := by
  have h := base_ways h1 h2
  clear h1 h2
  rcases h with rfl | rfl | rfl | rfl | rfl | rfl | rfl | rfl | rfl | rfl | rfl | rfl | rfl | rfl | rfl | rfl | rfl | rfl | rfl | rfl | rfl | rfl | rfl | rfl | rfl | rfl | rfl | rfl | rfl | rfl | rfl | rfl | rfl | rfl | rfl
  all_goals
    go_enter Tryz.func117, Tryz.ntmps117
    go_wp2
    go_ret
    exact ⟨rfl, rfl⟩
set_option maxRecDepth 100000 in
set_option maxHeartbeats 2000000 in
theorem dig_run (W : World) (k : IntKind) (d : Nat) (h : d < 36) : (Instr.index 9 (.string dig36) (.int k d)).run Tryz.prog W = .ok (.int .u8 (dc d)) W := by
  have h2 := dig36_at ⟨d, h⟩
  have hs : dig36.size = 36 := rfl
  obtain ⟨x, hx, he⟩ := Option.map_eq_some_iff.1 h2
  simp [Instr.index, go_sem, Tryz.underlying9, asIntOf, underlying]
  rw [show dig36[d]? = some x from hx]
  simp [go_sem]
  exact congrArg (fun n : Nat => (n : Int)) he
set_option maxRecDepth 100000 in
set_option maxHeartbeats 2000000 in
theorem fbits_x (w : World) (b : Nat) (h1 : 2 ≤ b) (h2 : b ≤ 36) (hp : isP2 b = false) (h10 : b ≠ 10) (U : Nat) (hu : U ≤ 2147483648) :
    Calls Tryz.prog 81 #[.slice none 0 0, .int .u64 U, .int .i64 b, .bool false, .bool false] w (fun e w' => ∃ r, e = .returned (.tuple #[.slice none 0 0, .string r]) ∧ bytesOf r = dB b U ∧ Below w.heap.size w w') := by
  have HP2 := Lib.hid (fun W => isP2_c W b h1 h2)
  rw [hp] at HP2
  have q1 : ¬ (b : Int) < 2 := by omega
  have q2 : decide ((b : Int) < 2) = false := decide_eq_false q1
  have q3 : ((b : Int) == 10) = false := beq_eq_false_iff_ne.2 (by omega)
  have q4 : decide ((b : Int) > 36) = false := decide_eq_false (by omega)
  have q5 : (b : Int) ≤ 36 := by omega
  have q6 : (2 : Int) ≤ b := by omega
  have q7 : (U : Int) ≤ 2147483648 := by omega
  have HUU := Lib.hid (hu)
  have HB1 := Lib.hid (h1)
  clear hp h10 h1 h2 hu
  go_enter Tryz.func81, Tryz.ntmps81
  go_wp2_with fail
  refine (HP2.out _).mono ?_
  rintro e w1 ⟨rfl, rfl⟩
  go_wp2
  go_loopg [1, 13] U (fun gg sU sI wr => ∃ u i k : Nat, u = gg ∧ sU = .int .u64 (u : Int) ∧ sI = .int .i64 (i : Int) ∧ u ≤ U ∧ 34 ≤ i ∧ i ≤ 65 ∧ Hid (FbR w b U u i k wr))
  case atStart => exact ⟨U, 65, 32, rfl, rfl, rfl, Nat.le_refl _, by decide, by decide, Lib.hid (fb_start w b U HUU.out)⟩
  case round =>
    obtain ⟨u, i, k, rfl, rfl, rfl, huU, hi1, hi2, HR⟩ := hrel
    obtain ⟨j, rfl⟩ : ∃ j, i = j + 1 := ⟨i - 1, by omega⟩
    obtain ⟨⟨cv, hcv⟩, hfz⟩ := fb_cell HR.out (j := j) (by omega)
    have huU2 : (u : Int) ≤ 2147483648 := by have := HUU.out; omega
    by_cases hge : b ≤ u
    · obtain ⟨q, hq⟩ : ∃ q, q = u / b := ⟨_, rfl⟩
      obtain ⟨r, hr⟩ : ∃ r, r = u % b := ⟨_, rfl⟩
      have hdm : q * b + r = u := by rw [hq, hr, Nat.mul_comm]; exact Nat.div_add_mod u b
      have hrb : r < b := by rw [hr]; exact Nat.mod_lt _ (by have := HB1.out; omega)
      have hqu : q < u := by rw [hq]; exact Nat.div_lt_self (by have := HB1.out; omega) HB1.out
      have e0 : (u : Int) / (b : Int) = (q : Int) := by rw [hq]; exact (Int.natCast_ediv u b).symm
      have e1 : IntKind.u64.wrap ((u : Int) / (b : Int)) = (q : Int) := by rw [e0]; exact u64_in (by omega) (by omega)
      obtain ⟨m, hm⟩ : ∃ m, m = q * b := ⟨_, rfl⟩
      have e5 : (q : Int) * (b : Int) = (m : Int) := by rw [hm]; exact (Int.natCast_mul q b).symm
      have hmu : m + r = u := by rw [hm]; exact hdm
      have e2 : IntKind.u64.wrap ((q : Int) * (b : Int)) = (m : Int) := by rw [e5]; exact u64_in (by omega) (by omega)
      have e3 : IntKind.u64.wrap ((u : Int) - (m : Int)) = (r : Int) := by rw [show (u : Int) - (m : Int) = (r : Int) by omega]; exact u64_in (by omega) (by omega)
      have hmu2 : (m : Int) ≤ (u : Int) := by omega
      have IX := fun W => dig_run W .u64 r (by omega)
      have hge2 : (b : Int) ≤ (u : Int) := by omega
      have HQ := Lib.hid hq
      have HRR := Lib.hid hr
      have HGE := Lib.hid hge
      clear hq hr hm hdm hmu hge e0 e5
      go_wp2
      go_roundg q
      case measure => omega
      case rel => exact ⟨q, j, k - 1, rfl, rfl, rfl, by omega, fb_room HR.out (by have := HB1.out; have := HGE.out; omega), by omega, Lib.hid (by rw [HQ.out, HRR.out]; exact fb_step HR.out HB1.out HGE.out)⟩
    · have hlt2 : ¬ (b : Int) ≤ (u : Int) := by omega
      have hlt3 : decide ((b : Int) ≤ (u : Int)) = false := decide_eq_false hlt2
      have IX := fun W => dig_run W .u64 u (by omega)
      have SL := fun W => sl65 W w.heap.size j (by omega)
      obtain ⟨hbl, cs, g1, g2, g3⟩ := fb_last HR.out (by omega : u < b)
      obtain ⟨hcv2, hby⟩ := fb_conv g1 g2 g3 (fun c hc => by have := dB_all HB1.out (by omega) U c hc; omega) (by omega)
      have HBL := Lib.hid (hbl)
      have HBY := Lib.hid (hby)
      obtain ⟨X, hX⟩ : ∃ X : ByteArray, X = ⟨((dB b U).map UInt8.ofNat).toArray⟩ := ⟨_, rfl⟩
      rw [← hX] at hcv2 HBY
      clear hbl hby hX g1 g2 g3
      go_wp2
      go_ret2
      exact ⟨X, rfl, HBY.out, HBL.out⟩
set_option maxRecDepth 100000 in
set_option maxHeartbeats 2000000 in
theorem fbits_n (w : World) (b : Nat) (h1 : 2 ≤ b) (h2 : b ≤ 36) (hp : isP2 b = false) (h10 : b ≠ 10) (V : Int) (U : Nat) (hu : U ≤ 2147483648) (EN : IntKind.u64.wrap (-V) = (U : Int)) :
    Calls Tryz.prog 81 #[.slice none 0 0, .int .u64 V, .int .i64 b, .bool true, .bool false] w (fun e w' => ∃ r, e = .returned (.tuple #[.slice none 0 0, .string r]) ∧ bytesOf r = 45 :: dB b U ∧ Below w.heap.size w w') := by
  have HP2 := Lib.hid (fun W => isP2_c W b h1 h2)
  rw [hp] at HP2
  have q1 : ¬ (b : Int) < 2 := by omega
  have q2 : decide ((b : Int) < 2) = false := decide_eq_false q1
  have q3 : ((b : Int) == 10) = false := beq_eq_false_iff_ne.2 (by omega)
  have q4 : decide ((b : Int) > 36) = false := decide_eq_false (by omega)
  have q5 : (b : Int) ≤ 36 := by omega
  have q6 : (2 : Int) ≤ b := by omega
  have q7 : (U : Int) ≤ 2147483648 := by omega
  have HUU := Lib.hid (hu)
  have HB1 := Lib.hid (h1)
  clear hp h10 h1 h2 hu
  go_enter Tryz.func81, Tryz.ntmps81
  go_wp2_with fail
  refine (HP2.out _).mono ?_
  rintro e w1 ⟨rfl, rfl⟩
  go_wp2
  go_loopg [1, 13] U (fun gg sU sI wr => ∃ u i k : Nat, u = gg ∧ sU = .int .u64 (u : Int) ∧ sI = .int .i64 (i : Int) ∧ u ≤ U ∧ 34 ≤ i ∧ i ≤ 65 ∧ Hid (FbR w b U u i k wr))
  case atStart => exact ⟨U, 65, 32, rfl, rfl, rfl, Nat.le_refl _, by decide, by decide, Lib.hid (fb_start w b U HUU.out)⟩
  case round =>
    obtain ⟨u, i, k, rfl, rfl, rfl, huU, hi1, hi2, HR⟩ := hrel
    obtain ⟨j, rfl⟩ : ∃ j, i = j + 1 := ⟨i - 1, by omega⟩
    obtain ⟨⟨cv, hcv⟩, hfz⟩ := fb_cell HR.out (j := j) (by omega)
    have huU2 : (u : Int) ≤ 2147483648 := by have := HUU.out; omega
    by_cases hge : b ≤ u
    · obtain ⟨q, hq⟩ : ∃ q, q = u / b := ⟨_, rfl⟩
      obtain ⟨r, hr⟩ : ∃ r, r = u % b := ⟨_, rfl⟩
      have hdm : q * b + r = u := by rw [hq, hr, Nat.mul_comm]; exact Nat.div_add_mod u b
      have hrb : r < b := by rw [hr]; exact Nat.mod_lt _ (by have := HB1.out; omega)
      have hqu : q < u := by rw [hq]; exact Nat.div_lt_self (by have := HB1.out; omega) HB1.out
      have e0 : (u : Int) / (b : Int) = (q : Int) := by rw [hq]; exact (Int.natCast_ediv u b).symm
      have e1 : IntKind.u64.wrap ((u : Int) / (b : Int)) = (q : Int) := by rw [e0]; exact u64_in (by omega) (by omega)
      obtain ⟨m, hm⟩ : ∃ m, m = q * b := ⟨_, rfl⟩
      have e5 : (q : Int) * (b : Int) = (m : Int) := by rw [hm]; exact (Int.natCast_mul q b).symm
      have hmu : m + r = u := by rw [hm]; exact hdm
      have e2 : IntKind.u64.wrap ((q : Int) * (b : Int)) = (m : Int) := by rw [e5]; exact u64_in (by omega) (by omega)
      have e3 : IntKind.u64.wrap ((u : Int) - (m : Int)) = (r : Int) := by rw [show (u : Int) - (m : Int) = (r : Int) by omega]; exact u64_in (by omega) (by omega)
      have hmu2 : (m : Int) ≤ (u : Int) := by omega
      have IX := fun W => dig_run W .u64 r (by omega)
      have hge2 : (b : Int) ≤ (u : Int) := by omega
      have HQ := Lib.hid hq
      have HRR := Lib.hid hr
      have HGE := Lib.hid hge
      clear hq hr hm hdm hmu hge e0 e5
      go_wp2
      go_roundg q
      case measure => omega
      case rel => exact ⟨q, j, k - 1, rfl, rfl, rfl, by omega, fb_room HR.out (by have := HB1.out; have := HGE.out; omega), by omega, Lib.hid (by rw [HQ.out, HRR.out]; exact fb_step HR.out HB1.out HGE.out)⟩
    · obtain ⟨h, rfl⟩ : ∃ h, j = h + 1 := ⟨j - 1, by omega⟩
      obtain ⟨⟨dv, hdv⟩, hdz⟩ := fb_cell HR.out (j := h) (by omega)
      have hlt2 : ¬ (b : Int) ≤ (u : Int) := by omega
      have hlt3 : decide ((b : Int) ≤ (u : Int)) = false := decide_eq_false hlt2
      have IX := fun W => dig_run W .u64 u (by omega)
      have SL := fun W => sl65 W w.heap.size h (by omega)
      obtain ⟨hbl0, cs0, g10, g20, g30⟩ := fb_last HR.out (by omega : u < b)
      obtain ⟨hbl, cs, g1, g2, g3⟩ := fb_put 45 45 rfl hbl0 g10 g20 (by omega : h < 65) g30
      obtain ⟨hcv2, hby⟩ := fb_conv g1 g2 g3 (fun c hc => by
        rcases List.mem_cons.1 hc with hc | hc
        · omega
        · have := dB_all HB1.out (by omega) U c hc; omega) (by omega)
      have HBL := Lib.hid (hbl)
      have HBY := Lib.hid (hby)
      obtain ⟨X, hX⟩ : ∃ X : ByteArray, X = ⟨((45 :: dB b U).map UInt8.ofNat).toArray⟩ := ⟨_, rfl⟩
      rw [← hX] at hcv2 HBY
      clear hbl hby hX g1 g2 g3 hbl0 g10 g20 g30
      go_wp2
      go_ret2
      exact ⟨X, rfl, HBY.out, HBL.out⟩
set_option maxRecDepth 100000 in
set_option maxHeartbeats 2000000 in
theorem fbits_p (w : World) (b s : Nat) (hbs : P2 b s) (U : Nat) (hu : U ≤ 2147483648)
    (HTZ : ∀ W, Below w.heap.size w W → Calls Tryz.prog 118 #[.int .u64 b] W (fun e w' => e = .returned (.int .i64 s) ∧ Below W.heap.size W w')) :
    Calls Tryz.prog 81 #[.slice none 0 0, .int .u64 U, .int .i64 b, .bool false, .bool false] w (fun e w' => ∃ r, e = .returned (.tuple #[.slice none 0 0, .string r]) ∧ bytesOf r = dB b U ∧ Below w.heap.size w w') := by
  have h1 : 2 ≤ b := by unfold P2 at hbs; omega
  have h2 : b ≤ 36 := by unfold P2 at hbs; omega
  have h8 : s ≤ 5 := by unfold P2 at hbs; omega
  have h10 : b ≠ 10 := by unfold P2 at hbs; omega
  have HP2 := Lib.hid (fun W => isP2_c W b h1 h2)
  have hp : isP2 b = true := by rcases hbs with ⟨rfl, _⟩ | ⟨rfl, _⟩ | ⟨rfl, _⟩ | ⟨rfl, _⟩ | ⟨rfl, _⟩ <;> rfl
  rw [hp] at HP2
  have q1 : ¬ (b : Int) < 2 := by omega
  have q2 : decide ((b : Int) < 2) = false := decide_eq_false q1
  have q3 : ((b : Int) == 10) = false := beq_eq_false_iff_ne.2 (by omega)
  have q4 : decide ((b : Int) > 36) = false := decide_eq_false (by omega)
  have q5 : (b : Int) ≤ 36 := by omega
  have q6 : (2 : Int) ≤ b := by omega
  have q7 : (U : Int) ≤ 2147483648 := by omega
  have q8 : (s : Int) ≤ 5 := by omega
  have HUU := Lib.hid (hu)
  have HB1 := Lib.hid (h1)
  have HBS := Lib.hid (hbs)
  have HTT := Lib.hid (HTZ)
  clear hp h1 h2 h8 h10 hu hbs HTZ
  go_enter Tryz.func81, Tryz.ntmps81
  go_wp2_with fail
  refine (HP2.out _).mono ?_
  rintro e w1 ⟨rfl, rfl⟩
  go_wp2_with fail
  refine (HTT.out _ (below1 _ _)).mono ?_
  rintro e w2 ⟨rfl, hb⟩
  have hst := fb_start2 U HUU.out hb (b := b)
  have HST := Lib.hid (hst)
  clear hb hst
  go_wp2
  go_loopg [1, 13] U (fun gg sU sI wr => ∃ u i k : Nat, u = gg ∧ sU = .int .u64 (u : Int) ∧ sI = .int .i64 (i : Int) ∧ u ≤ U ∧ 34 ≤ i ∧ i ≤ 65 ∧ Hid (FbR w b U u i k wr))
  case atStart => exact ⟨U, 65, 32, rfl, rfl, rfl, Nat.le_refl _, by decide, by decide, HST⟩
  case round =>
    obtain ⟨u, i, k, rfl, rfl, rfl, huU, hi1, hi2, HR⟩ := hrel
    obtain ⟨j, rfl⟩ : ∃ j, i = j + 1 := ⟨i - 1, by omega⟩
    obtain ⟨⟨cv, hcv⟩, hfz⟩ := fb_cell HR.out (j := j) (by omega)
    have huU2 : (u : Int) ≤ 2147483648 := by have := HUU.out; omega
    by_cases hge : b ≤ u
    · have hge2 : (b : Int) ≤ (u : Int) := by omega
      obtain ⟨q, hq⟩ : ∃ q, q = u / b := ⟨_, rfl⟩
      obtain ⟨r, hr⟩ : ∃ r, r = u % b := ⟨_, rfl⟩
      have hrb : r < b := by rw [hr]; exact Nat.mod_lt _ (by have := HB1.out; omega)
      have hqu : q < u := by rw [hq]; exact Nat.div_lt_self (by have := HB1.out; omega) HB1.out
      have e1 : (u : Int) / 2 ^ s = (q : Int) := by rw [hq]; exact shift_p HBS.out
      have e2 : bits .and .u64 (u : Int) ((b : Int) - 1) = (r : Int) := by rw [hr]; exact mask_p (by omega) HBS.out
      have IX := fun W => dig_run W .u64 r (by omega)
      have HQ := Lib.hid hq
      have HRR := Lib.hid hr
      have HGE := Lib.hid hge
      clear hq hr hge
      go_wp2
      go_roundg q
      case measure => omega
      case rel => exact ⟨q, j, k - 1, rfl, rfl, rfl, by omega, fb_room HR.out (by have := HB1.out; have := HGE.out; omega), by omega, Lib.hid (by rw [HQ.out, HRR.out]; exact fb_step HR.out HB1.out HGE.out)⟩
    · have hlt2 : ¬ (b : Int) ≤ (u : Int) := by omega
      have hlt3 : decide ((b : Int) ≤ (u : Int)) = false := decide_eq_false hlt2
      have IX := fun W => dig_run W .u64 u (by omega)
      have SL := fun W => sl65 W w.heap.size j (by omega)
      obtain ⟨hbl, cs, g1, g2, g3⟩ := fb_last HR.out (by omega : u < b)
      obtain ⟨hcv2, hby⟩ := fb_conv g1 g2 g3 (fun c hc => by have := dB_all HB1.out (by omega) U c hc; omega) (by omega)
      have HBL := Lib.hid (hbl)
      have HBY := Lib.hid (hby)
      obtain ⟨X, hX⟩ : ∃ X : ByteArray, X = ⟨((dB b U).map UInt8.ofNat).toArray⟩ := ⟨_, rfl⟩
      rw [← hX] at hcv2 HBY
      clear hbl hby hX g1 g2 g3
      go_wp2
      go_ret2
      exact ⟨X, rfl, HBY.out, HBL.out⟩
set_option maxRecDepth 100000 in
set_option maxHeartbeats 2000000 in
theorem fbits_q (w : World) (b s : Nat) (hbs : P2 b s) (V : Int) (U : Nat) (hu : U ≤ 2147483648) (EN : IntKind.u64.wrap (-V) = (U : Int))
    (HTZ : ∀ W, Below w.heap.size w W → Calls Tryz.prog 118 #[.int .u64 b] W (fun e w' => e = .returned (.int .i64 s) ∧ Below W.heap.size W w')) :
    Calls Tryz.prog 81 #[.slice none 0 0, .int .u64 V, .int .i64 b, .bool true, .bool false] w (fun e w' => ∃ r, e = .returned (.tuple #[.slice none 0 0, .string r]) ∧ bytesOf r = 45 :: dB b U ∧ Below w.heap.size w w') := by
  have h1 : 2 ≤ b := by unfold P2 at hbs; omega
  have h2 : b ≤ 36 := by unfold P2 at hbs; omega
  have h8 : s ≤ 5 := by unfold P2 at hbs; omega
  have h10 : b ≠ 10 := by unfold P2 at hbs; omega
  have HP2 := Lib.hid (fun W => isP2_c W b h1 h2)
  have hp : isP2 b = true := by rcases hbs with ⟨rfl, _⟩ | ⟨rfl, _⟩ | ⟨rfl, _⟩ | ⟨rfl, _⟩ | ⟨rfl, _⟩ <;> rfl
  rw [hp] at HP2
  have q1 : ¬ (b : Int) < 2 := by omega
  have q2 : decide ((b : Int) < 2) = false := decide_eq_false q1
  have q3 : ((b : Int) == 10) = false := beq_eq_false_iff_ne.2 (by omega)
  have q4 : decide ((b : Int) > 36) = false := decide_eq_false (by omega)
  have q5 : (b : Int) ≤ 36 := by omega
  have q6 : (2 : Int) ≤ b := by omega
  have q7 : (U : Int) ≤ 2147483648 := by omega
  have q8 : (s : Int) ≤ 5 := by omega
  have HUU := Lib.hid (hu)
  have HB1 := Lib.hid (h1)
  have HBS := Lib.hid (hbs)
  have HTT := Lib.hid (HTZ)
  clear hp h1 h2 h8 h10 hu hbs HTZ
  go_enter Tryz.func81, Tryz.ntmps81
  go_wp2_with fail
  refine (HP2.out _).mono ?_
  rintro e w1 ⟨rfl, rfl⟩
  go_wp2_with fail
  refine (HTT.out _ (below1 _ _)).mono ?_
  rintro e w2 ⟨rfl, hb⟩
  have hst := fb_start2 U HUU.out hb (b := b)
  have HST := Lib.hid (hst)
  clear hb hst
  go_wp2
  go_loopg [1, 13] U (fun gg sU sI wr => ∃ u i k : Nat, u = gg ∧ sU = .int .u64 (u : Int) ∧ sI = .int .i64 (i : Int) ∧ u ≤ U ∧ 34 ≤ i ∧ i ≤ 65 ∧ Hid (FbR w b U u i k wr))
  case atStart => exact ⟨U, 65, 32, rfl, rfl, rfl, Nat.le_refl _, by decide, by decide, HST⟩
  case round =>
    obtain ⟨u, i, k, rfl, rfl, rfl, huU, hi1, hi2, HR⟩ := hrel
    obtain ⟨j, rfl⟩ : ∃ j, i = j + 1 := ⟨i - 1, by omega⟩
    obtain ⟨⟨cv, hcv⟩, hfz⟩ := fb_cell HR.out (j := j) (by omega)
    have huU2 : (u : Int) ≤ 2147483648 := by have := HUU.out; omega
    by_cases hge : b ≤ u
    · have hge2 : (b : Int) ≤ (u : Int) := by omega
      obtain ⟨q, hq⟩ : ∃ q, q = u / b := ⟨_, rfl⟩
      obtain ⟨r, hr⟩ : ∃ r, r = u % b := ⟨_, rfl⟩
      have hrb : r < b := by rw [hr]; exact Nat.mod_lt _ (by have := HB1.out; omega)
      have hqu : q < u := by rw [hq]; exact Nat.div_lt_self (by have := HB1.out; omega) HB1.out
      have e1 : (u : Int) / 2 ^ s = (q : Int) := by rw [hq]; exact shift_p HBS.out
      have e2 : bits .and .u64 (u : Int) ((b : Int) - 1) = (r : Int) := by rw [hr]; exact mask_p (by omega) HBS.out
      have IX := fun W => dig_run W .u64 r (by omega)
      have HQ := Lib.hid hq
      have HRR := Lib.hid hr
      have HGE := Lib.hid hge
      clear hq hr hge
      go_wp2
      go_roundg q
      case measure => omega
      case rel => exact ⟨q, j, k - 1, rfl, rfl, rfl, by omega, fb_room HR.out (by have := HB1.out; have := HGE.out; omega), by omega, Lib.hid (by rw [HQ.out, HRR.out]; exact fb_step HR.out HB1.out HGE.out)⟩
    · obtain ⟨h, rfl⟩ : ∃ h, j = h + 1 := ⟨j - 1, by omega⟩
      obtain ⟨⟨dv, hdv⟩, hdz⟩ := fb_cell HR.out (j := h) (by omega)
      have hlt2 : ¬ (b : Int) ≤ (u : Int) := by omega
      have hlt3 : decide ((b : Int) ≤ (u : Int)) = false := decide_eq_false hlt2
      have IX := fun W => dig_run W .u64 u (by omega)
      have SL := fun W => sl65 W w.heap.size h (by omega)
      obtain ⟨hbl0, cs0, g10, g20, g30⟩ := fb_last HR.out (by omega : u < b)
      obtain ⟨hbl, cs, g1, g2, g3⟩ := fb_put 45 45 rfl hbl0 g10 g20 (by omega : h < 65) g30
      obtain ⟨hcv2, hby⟩ := fb_conv g1 g2 g3 (fun c hc => by
        rcases List.mem_cons.1 hc with hc | hc
        · omega
        · have := dB_all HB1.out (by omega) U c hc; omega) (by omega)
      have HBL := Lib.hid (hbl)
      have HBY := Lib.hid (hby)
      obtain ⟨X, hX⟩ : ∃ X : ByteArray, X = ⟨((45 :: dB b U).map UInt8.ofNat).toArray⟩ := ⟨_, rfl⟩
      rw [← hX] at hcv2 HBY
      clear hbl hby hX g1 g2 g3 hbl0 g10 g20 g30
      go_wp2
      go_ret2
      exact ⟨X, rfl, HBY.out, HBL.out⟩
end Go.Proofs.YtalfoihffnlelaaGreatDoor
