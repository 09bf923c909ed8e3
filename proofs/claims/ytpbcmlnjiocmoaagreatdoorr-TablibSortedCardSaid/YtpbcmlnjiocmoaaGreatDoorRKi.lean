import Derived.Test.YtpbcmlnjiocmoaaGreatDoorRHpB
import Derived.Test.YtpbcmlnjiocmoaaGreatDoorRSmA
set_option linter.unusedVariables false
set_option linter.unusedSimpArgs false
set_option maxRecDepth 100000
set_option maxHeartbeats 40000000
namespace Go.Proofs.YtpbcmlnjiocmoaaGreatDoorR
open Go.RowKit Go.Proofs.Lexi
set_option maxRecDepth 100000 in
set_option maxHeartbeats 40000000 in
theorem tAsk_c (w : World) (sb c h : Nat) (nm : ByteArray) (so : Option Addr) (na ca : Nat) (HC : w.heap[c]? = some (oCt h nm (.slice so na ca))) {base n0 : Nat} {M : LH} {AA : List (List V)} {O : Nat → Prop} (hP : PHp base n0 w h M AA O) (hn : n0 ≤ 1000) {ti : Nat} (hti : ti ≤ 100000) {o : LO} {Ls : List Int} (hM : M[ti]? = some o) (hA : AA[ti]? = some (Ls.map nI)) (h4 : o.kind = 4) (hl : Ls.length ≤ 1000) (hLs : ∀ x ∈ Ls, -2147483647 ≤ x ∧ x ≤ 2147483647) (n wd lo : Int) (i j : Nat) (HS : w.heap[sb]? = some (oSo c ti V.nil n wd lo ((i : Int) + 1) ((j : Int) + 1))) (hi : i < Ls.length) (hj : j < Ls.length) (hnb : ∀ x ∈ [n, wd, lo, (i : Int) + 1, (j : Int) + 1], -2147483647 ≤ x ∧ x ≤ 2147483647) :
    Calls Tryz.prog 93 #[.pointer (some ⟨sb, 0, none⟩)] w (fun e w' => e = .returned (.tuple #[.agg #[.int .i64 0, .int .i64 0, .int .i64 0, .int .i64 0, .int .i64 0, .string ⟨#[]⟩, .int .i64 0, .slice none 0 0, .string ⟨#[]⟩, .int .i64 0, .int .i64 0, .slice none 0 0], .bool (decide (gI Ls j < gI Ls i)), .bool true]) ∧ Below w.heap.size w w') := by
  have HG := Lib.hid (fun W (hb : Below w.heap.size w W) (x : Nat) (hx : x < Ls.length) => (show Calls Tryz.prog 56 #[.pointer (some ⟨c, 0, none⟩), tabA ti, .int .i64 ((x : Int) + 1)] W (fun e w' => e = .returned (.agg #[.int .i64 2, .int .i64 (gI Ls x), .int .i64 1, .string ⟨#[]⟩, .int .i64 0]) ∧ Below W.heap.size W w') from tGet_c W c h nm so na ca (hkeep hb HC) (hP.below hb) hn hti hM hA h4 (by rw [List.length_map]; exact hx) (by rw [List.length_map]; omega) ((x : Int) + 1) rfl (by rw [List.getElem?_map, gI_some hx]; rfl)))
  have HOI := Lib.hid (fun W (x : Int) (h1 : -2147483647 ≤ x) (h2 : x ≤ 2147483647) => pOfInt_top W x h1 h2)
  have HBI := Lib.hid (fun W => less_bin W (some ⟨h, 0, none⟩) (gI Ls j) (gI Ls i) (hLs _ (List.mem_of_getElem? (gI_some hj))) (hLs _ (List.mem_of_getElem? (gI_some hi))))
  have HCC := Lib.hid (HC)
  have HKN := Lib.hid (hnb)
  obtain ⟨W1, hW1⟩ : ∃ W1, W1 = w.alloc oAc := ⟨_, rfl⟩
  have HB1 := Lib.hid ((show Below w.heap.size w W1 by rw [hW1]; exact below1 _ _))
  have HR1 := Lib.hid ((show W1.heap[w.heap.size]? = some oAc by rw [hW1]; exact heap1 _ _))
  have HS1 := Lib.hid (hkeep HB1.out HS)
  have hz1 : w.heap.size < W1.heap.size := (Array.getElem?_eq_some_iff.1 HR1.out).1
  have hsl := (Array.getElem?_eq_some_iff.1 HS1.out).1
  clear HC hP hM hA HS hnb hLs
  go_enter Tryz.func93, Tryz.ntmps93
  go_upto_region 1 with fail
  try rw [show w.alloc oAc = W1 from hW1.symm]
  clear hW1
  have SO := Lib.hid (fun (W : World) (hb : Below W1.heap.size W1 W) => (show W.cell? ⟨sb, 0, none⟩ = some (.pointer (some ⟨c, 0, none⟩)) ∧ W.cell? ⟨sb, 1, none⟩ = some (.int .i64 4) ∧ W.cell? ⟨sb, 2, none⟩ = some (.int .i64 0) ∧ W.cell? ⟨sb, 3, none⟩ = some (.int .i64 0) ∧ W.cell? ⟨sb, 4, none⟩ = some (.string ⟨#[]⟩) ∧ W.cell? ⟨sb, 5, none⟩ = some (.int .i64 ((ti : Int) + 1)) ∧ W.cell? ⟨sb, 14, none⟩ = some (.int .i64 ((i : Int) + 1)) ∧ W.cell? ⟨sb, 15, none⟩ = some (.int .i64 ((j : Int) + 1)) from ⟨(cells16 (hkeep hb HS1.out)).1, (cells16 (hkeep hb HS1.out)).2.1, (cells16 (hkeep hb HS1.out)).2.2.1, (cells16 (hkeep hb HS1.out)).2.2.2.1, (cells16 (hkeep hb HS1.out)).2.2.2.2.1, (cells16 (hkeep hb HS1.out)).2.2.2.2.2.1, (cells16 (hkeep hb HS1.out)).2.2.2.2.2.2.2.2.2.2.2.2.2.2.1, (cells16 (hkeep hb HS1.out)).2.2.2.2.2.2.2.2.2.2.2.2.2.2.2⟩))
  apply wp_region_boxes mixed (by kernel_rfl)
  iterate 12 (apply WalkG.take; (focus (intro p e W oo hI hH hN hF; refine ⟨by rfl, ?_⟩; obtain ⟨xc0, xc1, xc2, xc3, xc4, xc5, xc6, xc7⟩ := SO.out W hI; go_simp; (try with_reducible rfl))); (try simp only [Act.put, List.setIfInBounds_toArray, List.set_cons_zero, List.set_cons_succ, List.length_append, List.length_cons, List.length_nil, Nat.zero_add, Nat.reduceAdd]))
  (apply WalkG.val; (focus (intro p e W oo hI hH hN hF K hK; obtain ⟨xc0, xc1, xc2, xc3, xc4, xc5, xc6, xc7⟩ := SO.out W hI; go_simp; (go_at_call 56; (with_reducible refine (HG.out _ (below_next HB1.out hI) _ hj).mono ?_); rintro e1 w1 ⟨rfl, hb⟩); exact hK _ _ ⟨rfl, hb⟩)); (try simp only [Act.put, List.setIfInBounds_toArray, List.set_cons_zero, List.set_cons_succ, List.length_append, List.length_cons, List.length_nil, Nat.zero_add, Nat.reduceAdd]))
  iterate 12 (apply WalkG.take; (focus (intro p e W oo hI hH hN hF; refine ⟨by rfl, ?_⟩; obtain ⟨xc0, xc1, xc2, xc3, xc4, xc5, xc6, xc7⟩ := SO.out W hI; go_simp; (try with_reducible rfl))); (try simp only [Act.put, List.setIfInBounds_toArray, List.set_cons_zero, List.set_cons_succ, List.length_append, List.length_cons, List.length_nil, Nat.zero_add, Nat.reduceAdd]))
  (apply WalkG.val; (focus (intro p e W oo hI hH hN hF K hK; obtain ⟨xc0, xc1, xc2, xc3, xc4, xc5, xc6, xc7⟩ := SO.out W hI; go_simp; (go_at_call 56; (with_reducible refine (HG.out _ (below_next HB1.out hI) _ hi).mono ?_); rintro e1 w1 ⟨rfl, hb⟩); exact hK _ _ ⟨rfl, hb⟩)); (try simp only [Act.put, List.setIfInBounds_toArray, List.set_cons_zero, List.set_cons_succ, List.length_append, List.length_cons, List.length_nil, Nat.zero_add, Nat.reduceAdd]))
  (apply WalkG.box (fun n => .pointer (some ⟨n, 0, none⟩)) (oV 0 0 0 ⟨#[]⟩ 0); (focus (intro p e W oo hI K hK; go_simp; exact hK _ _ ⟨rfl, rfl⟩)); (focus exact trivial); (try simp only [Act.put, List.setIfInBounds_toArray, List.set_cons_zero, List.set_cons_succ, List.length_append, List.length_cons, List.length_nil, Nat.zero_add, Nat.reduceAdd]))
  (apply WalkG.box (fun n => .pointer (some ⟨n, 0, none⟩)) (oV 0 0 0 ⟨#[]⟩ 0); (focus (intro p e W oo hI K hK; go_simp; exact hK _ _ ⟨rfl, rfl⟩)); (focus exact trivial); (try simp only [Act.put, List.setIfInBounds_toArray, List.set_cons_zero, List.set_cons_succ, List.length_append, List.length_cons, List.length_nil, Nat.zero_add, Nat.reduceAdd]))
  (apply WalkG.sto 26 (fun n => .pointer (some ⟨n, 0, none⟩)) (oV 0 0 0 ⟨#[]⟩ 0) (fun _ => (oV 2 (gI Ls j) 1 ⟨#[]⟩ 0)) false (by kernel_rfl) (fun _ _ _ => rfl) (fun _ => trivial); (focus (intro p e W oo hI hH hB K hK; ((obtain ⟨q0, q1, q2, q3, q4⟩ := cells5 hB); (obtain ⟨fq0, fq1, fq2, fq3, fq4⟩ := froz5 hB); go_simp; exact hK _ _ ⟨rfl, only_five hB _ _ _ _ _⟩))); (try simp only [Act.put, List.setIfInBounds_toArray, List.set_cons_zero, List.set_cons_succ, List.length_append, List.length_cons, List.length_nil, Nat.zero_add, Nat.reduceAdd]))
  (apply WalkG.sto 27 (fun n => .pointer (some ⟨n, 0, none⟩)) (oV 0 0 0 ⟨#[]⟩ 0) (fun _ => (oV 2 (gI Ls i) 1 ⟨#[]⟩ 0)) false (by kernel_rfl) (fun _ _ _ => rfl) (fun _ => trivial); (focus (intro p e W oo hI hH hB K hK; ((obtain ⟨q0, q1, q2, q3, q4⟩ := cells5 hB); (obtain ⟨fq0, fq1, fq2, fq3, fq4⟩ := froz5 hB); go_simp; exact hK _ _ ⟨rfl, only_five hB _ _ _ _ _⟩))); (try simp only [Act.put, List.setIfInBounds_toArray, List.set_cons_zero, List.set_cons_succ, List.length_append, List.length_cons, List.length_nil, Nat.zero_add, Nat.reduceAdd]))
  apply WalkG.nil
  intro p e W hI hA hS hD
  rotate_left
  focus kernel_rfl
  focus kernel_rfl
  have hr5 := hS 28 26 (oV 0 0 0 ⟨#[]⟩ 0) (fun _ => (oV 2 (gI Ls j) 1 ⟨#[]⟩ 0)) false (by kernel_rfl)
  have hr6 := hS 29 27 (oV 0 0 0 ⟨#[]⟩ 0) (fun _ => (oV 2 (gI Ls i) 1 ⟨#[]⟩ 0)) false (by kernel_rfl)
  obtain ⟨b5, hb5⟩ : ∃ b, b = p 26 := ⟨_, rfl⟩
  obtain ⟨b6, hb6⟩ : ∃ b, b = p 27 := ⟨_, rfl⟩
  rw [← hb5] at hr5
  rw [← hb6] at hr6
  rw [← hb5, ← hb6]
  have HBW := Lib.hid (hI)
  have H5 := Lib.hid (hr5.2.2)
  have H6 := Lib.hid (hr6.2.2)
  have HSW := Lib.hid ((show W.heap[sb]? = some (.cells #[.pointer (some ⟨c, 0, none⟩), .int .i64 4, .int .i64 0, .int .i64 0, .string ⟨#[]⟩, .int .i64 ((ti : Int) + 1), .int .i64 0, .int .i64 0, .int .i64 0, .string ⟨#[]⟩, .int .i64 0, .int .i64 n, .int .i64 wd, .int .i64 lo, .int .i64 ((i : Int) + 1), .int .i64 ((j : Int) + 1)] 116) from hkeep HBW.out HS1.out))
  have HCW := Lib.hid (hkeep (below_next HB1.out HBW.out) HCC.out)
  have hz2 := HBW.out.size
  have h5l := (Array.getElem?_eq_some_iff.1 H5.out).1
  have h6l := (Array.getElem?_eq_some_iff.1 H6.out).1
  have hswl := (Array.getElem?_eq_some_iff.1 HSW.out).1
  clear hS hA hD hI hr5 hr6 hb5 hb6
  obtain ⟨c0, c1, c2, c3, c4, c5, c6, c7, c8, c9, c10, c11, c12, c13, c14, c15⟩ := cells16 HSW.out
  obtain ⟨fc0, fc1, fc2, fc3, fc4, fc5, fc6, fc7, fc8, fc9, fc10, fc11, fc12, fc13, fc14, fc15⟩ := froz16 HSW.out
  go_upto_region 2 with fail
  refine wp_region_lex mixed (by kernel_rfl) ?_
  go_wp2
  refine ⟨by kernel_rfl, ?_⟩
  go_upto_region 3 with fail
  refine wp_region_lex mixed (by kernel_rfl) ?_
  go_wp2
  refine ⟨by kernel_rfl, ?_⟩
  go_wp2
  clear c0 c1 c2 c3 c4 c5 c6 c7 c8 c9 c10 c11 c12 c13 c14 c15 fc0 fc1 fc2 fc3 fc4 fc5 fc6 fc7 fc8 fc9 fc10 fc11 fc12 fc13 fc14 fc15
  obtain ⟨KI, hKI⟩ : ∃ KI, KI = [n, wd, lo, (i : Int) + 1, (j : Int) + 1] := ⟨_, rfl⟩
  have hKl : KI.length = 5 := by rw [hKI]; rfl
  rw [← hKI] at HKN
  have HKe := Lib.hid (hKI)
  clear hKI
  go_loopg [7, 68] 5 (fun gg s7 s68 wr => ∃ k so2 cap2, k + gg = 5 ∧ s68 = .int .i64 (k : Int) ∧ s7 = .slice so2 (2 + k : Nat) cap2 ∧ Hid (AskR2 W ti V.nil KI k (.slice so2 (2 + k) cap2) wr))
  case atStart =>
    refine ⟨0, some ⟨W.heap.size, 0, none⟩, 2, rfl, rfl, rfl, Lib.hid ⟨row_whole (A := (keepL ti V.nil KI).take 2) (heap2_a W _ _) (Nat.le_refl _) rfl (by omega), ((((Below.refl _ _).alloc (Nat.le_refl _) _).alloc (by simp) _).drew).drew, ?_⟩⟩
    rw [HKe.out]
    exact heap2_b W _ _
  case round =>
    obtain ⟨k, so2, cap2, hk, rfl, rfl, HR⟩ := hrel
    have HRo := Lib.hid (HR.out.1)
    have HB := Lib.hid (HR.out.2.1)
    have HIN := Lib.hid (HR.out.2.2)
    have hzr := HB.out.size
    have hin := (Array.getElem?_eq_some_iff.1 HIN.out).1
    clear HR
    by_cases hk5 : k < 5
    · have d1 : decide ((k : Int) < 5) = true := decide_eq_true (by omega)
      have ci := cell_ints HIN.out (k := k) (by omega)
      have hkm := HKN.out _ (List.mem_of_getElem? (gI_some (L := KI) (a := k) (by omega)))
      obtain ⟨x, hx⟩ : ∃ x, x = gI KI k := ⟨_, rfl⟩
      rw [← hx] at ci hkm
      have HX := Lib.hid (hx)
      clear hx
      go_wp2_with fail
      refine (HOI.out _ x hkm.1 hkm.2).mono ?_
      rintro e2 w2 ⟨rfl, hb⟩
      have HB2 := Lib.hid (below_next HB.out hb)
      have HRo2 := Lib.hid (ownsRow_ext (below_ext hb (Nat.le_refl _)) HRo.out)
      have HIN2 := Lib.hid (hkeep hb HIN.out)
      have hz2b := HB2.out.size
      clear hb ci
      go_wp2_with (at_builtin; refine wpList_append_vals rfl (.tmp 72) (.tmp 75) rfl W.heap.size (.slice so2 (2 + k) cap2) (2 + k) _ rfl (ownsRow_ext (below_ext (below1 _ _) (Nat.le_refl _)) HRo2.out) _ [nI x] rfl (vals_one _ (nI x)) (by simp; omega) (by simp; omega) ?_)
      intro so5 cap5 w5 hown hgrow
      have HO5 := Lib.hid (hown)
      have HB5 := Lib.hid (below_grown (HB2.out.alloc HB2.out.size _) hgrow (by simp; omega) (fun b hb => (ownBlock_lt HRo2.out hb).1))
      have hin2 := (Array.getElem?_eq_some_iff.1 HIN2.out).1
      have HIN5 := Lib.hid (((hgrow.block (W.heap.size + 1) (by simp; omega) (fun e => by obtain ⟨cs, hcs⟩ := row_block HRo2.out e.symm; rw [HIN2.out] at hcs; injection hcs with hcs; injection hcs with _ ht _; exact absurd ht (by decide))).trans (heap1_old HIN2.out _)))
      clear hown hgrow
      go_wp2
      go_roundg (5 - (k + 1))
      case measure => omega
      case rel =>
        refine ⟨k + 1, so5, cap5, by omega, by push_cast; rfl, by first | rfl | (congr 1), ?_, HB5.out, HIN5.out⟩
        rw [keepL_snoc (by omega), ← HX.out, rowV_append]
        exact HO5.out
    · have hk5 : k = 5 := by omega
      subst hk5
      have HB2 := Lib.hid (below_next HBW.out HB.out)
      have HSr := Lib.hid ((show wr.heap[sb]? = some (.cells #[.pointer (some ⟨c, 0, none⟩), .int .i64 4, .int .i64 0, .int .i64 0, .string ⟨#[]⟩, .int .i64 ((ti : Int) + 1), .int .i64 0, .int .i64 0, .int .i64 0, .string ⟨#[]⟩, .int .i64 0, .int .i64 n, .int .i64 wd, .int .i64 lo, .int .i64 ((i : Int) + 1), .int .i64 ((j : Int) + 1)] 116) from hkeep HB.out HSW.out))
      have HCr := Lib.hid (hkeep HB.out HCW.out)
      have H5r := Lib.hid (hkeep HB.out H5.out)
      have H6r := Lib.hid (hkeep HB.out H6.out)
      have HTR := Lib.hid (fun (X : World) => (true_ite (gI Ls j < gI Ls i) ▸ pTrue_c X 1 0 0 ⟨#[]⟩ (if gI Ls j < gI Ls i then 1 else 0) : Calls Tryz.prog 106 #[.agg #[.int .i64 1, .int .i64 0, .int .i64 0, .string ⟨#[]⟩, .int .i64 (if gI Ls j < gI Ls i then 1 else 0)]] X (BoolPost X (decide (gI Ls j < gI Ls i)))))
      obtain ⟨R, hR⟩ : ∃ R : Int, R = if gI Ls j < gI Ls i then 1 else 0 := ⟨_, rfl⟩
      obtain ⟨D, hD⟩ : ∃ D, D = decide (gI Ls j < gI Ls i) := ⟨_, rfl⟩
      rw [← hR, ← hD] at HTR
      rw [← hR] at HBI
      have HDe := Lib.hid (hD)
      clear hR hD
      have hsr := (Array.getElem?_eq_some_iff.1 HSr.out).1
      obtain ⟨c0, c1, c2, c3, c4, c5, c6, c7, c8, c9, c10, c11, c12, c13, c14, c15⟩ := cells16 HSr.out
      obtain ⟨fc0, fc1, fc2, fc3, fc4, fc5, fc6, fc7, fc8, fc9, fc10, fc11, fc12, fc13, fc14, fc15⟩ := froz16 HSr.out
      go_upto_region 10 with fail
      clear c0 c1 c2 c3 c4 c5 c6 c7 c8 c9 c10 c11 c12 c13 c14 c15 fc0 fc1 fc2 fc3 fc4 fc5 fc6 fc7 fc8 fc9 fc10 fc11 fc12 fc13 fc14 fc15
      have SO := Lib.hid (fun (W : World) (hb : Below wr.heap.size wr W) => (show W.cell? ⟨sb, 0, none⟩ = some (.pointer (some ⟨c, 0, none⟩)) ∧ W.cell? ⟨c, 0, none⟩ = some (.pointer (some ⟨h, 0, none⟩)) ∧ W.cell? ⟨b5, 0, none⟩ = some (.int .i64 2) ∧ W.cell? ⟨b5, 1, none⟩ = some (.int .i64 (gI Ls j)) ∧ W.cell? ⟨b5, 2, none⟩ = some (.int .i64 1) ∧ W.cell? ⟨b5, 3, none⟩ = some (.string ⟨#[]⟩) ∧ W.cell? ⟨b5, 4, none⟩ = some (.int .i64 0) ∧ W.cell? ⟨b6, 0, none⟩ = some (.int .i64 2) ∧ W.cell? ⟨b6, 1, none⟩ = some (.int .i64 (gI Ls i)) ∧ W.cell? ⟨b6, 2, none⟩ = some (.int .i64 1) ∧ W.cell? ⟨b6, 3, none⟩ = some (.string ⟨#[]⟩) ∧ W.cell? ⟨b6, 4, none⟩ = some (.int .i64 0) from ⟨(cells16 (hkeep hb HSr.out)).1, (cells16 (hkeep hb HCr.out)).1, (cells5 (hkeep hb H5r.out)).1, (cells5 (hkeep hb H5r.out)).2.1, (cells5 (hkeep hb H5r.out)).2.2.1, (cells5 (hkeep hb H5r.out)).2.2.2.1, (cells5 (hkeep hb H5r.out)).2.2.2.2, (cells5 (hkeep hb H6r.out)).1, (cells5 (hkeep hb H6r.out)).2.1, (cells5 (hkeep hb H6r.out)).2.2.1, (cells5 (hkeep hb H6r.out)).2.2.2.1, (cells5 (hkeep hb H6r.out)).2.2.2.2⟩))
      apply wp_region_boxes mixed (by kernel_rfl)
      iterate 9 (apply WalkG.take; (focus (intro p e W oo hI hH hN hF; refine ⟨by rfl, ?_⟩; obtain ⟨xc0, xc1, xc2, xc3, xc4, xc5, xc6, xc7, xc8, xc9, xc10, xc11⟩ := SO.out W hI; go_simp; (try with_reducible rfl))); (try simp only [Act.put, List.setIfInBounds_toArray, List.set_cons_zero, List.set_cons_succ, List.length_append, List.length_cons, List.length_nil, Nat.zero_add, Nat.reduceAdd]))
      (apply WalkG.val; (focus (intro p e W oo hI hH hN hF K hK; obtain ⟨xc0, xc1, xc2, xc3, xc4, xc5, xc6, xc7, xc8, xc9, xc10, xc11⟩ := SO.out W hI; go_simp; (go_at_call 105; (with_reducible refine (HBI.out _).mono ?_); rintro e1 w1 ⟨rfl, hb⟩); exact hK _ _ ⟨rfl, hb⟩)); (try simp only [Act.put, List.setIfInBounds_toArray, List.set_cons_zero, List.set_cons_succ, List.length_append, List.length_cons, List.length_nil, Nat.zero_add, Nat.reduceAdd]))
      (apply WalkG.box (fun n => .pointer (some ⟨n, 0, none⟩)) (.cells #[.int .i64 0, .int .i64 0, .int .i64 0, .int .i64 0, .string ⟨#[]⟩, .int .i64 0, .int .i64 0, .int .i64 0, .int .i64 0, .string ⟨#[]⟩, .int .i64 0, .slice none 0 0, .int .i64 0, .string ⟨#[]⟩] 156); (focus (intro p e W oo hI K hK; go_simp; exact hK _ _ ⟨rfl, rfl⟩)); (focus exact trivial); (try simp only [Act.put, List.setIfInBounds_toArray, List.set_cons_zero, List.set_cons_succ, List.length_append, List.length_cons, List.length_nil, Nat.zero_add, Nat.reduceAdd]))
      (apply WalkG.sto 10 (fun n => .pointer (some ⟨n, 0, none⟩)) (.cells #[.int .i64 0, .int .i64 0, .int .i64 0, .int .i64 0, .string ⟨#[]⟩, .int .i64 0, .int .i64 0, .int .i64 0, .int .i64 0, .string ⟨#[]⟩, .int .i64 0, .slice none 0 0, .int .i64 0, .string ⟨#[]⟩] 156) (fun _ => (.cells #[.int .i64 1, .int .i64 1, .int .i64 0, .int .i64 0, .string ⟨#[]⟩, .int .i64 R, .int .i64 0, .int .i64 0, .int .i64 0, .string ⟨#[]⟩, .int .i64 0, .slice none 0 0, .int .i64 0, .string ⟨#[]⟩] 156)) false (by kernel_rfl) (fun _ _ _ => rfl) (fun _ => trivial); (focus (intro p e W oo hI hH hB K hK; ((obtain ⟨z0, z1, z2, z3, z4, z5, z6, z7, z8, z9, z10, z11, z12, z13⟩ := cells14 hB); (obtain ⟨fz0, fz1, fz2, fz3, fz4, fz5, fz6, fz7, fz8, fz9, fz10, fz11, fz12, fz13⟩ := froz14 hB); go_simp; exact hK _ _ ⟨rfl, only_fourteen hB _ _ _ _ _ _ _ _ _ _ _ _ _ _⟩))); (try simp only [Act.put, List.setIfInBounds_toArray, List.set_cons_zero, List.set_cons_succ, List.length_append, List.length_cons, List.length_nil, Nat.zero_add, Nat.reduceAdd]))
      apply WalkG.nil
      intro p e W hI hA hS hD
      rotate_left
      focus kernel_rfl
      focus kernel_rfl
      have hrn := hS 11 10 (.cells #[.int .i64 0, .int .i64 0, .int .i64 0, .int .i64 0, .string ⟨#[]⟩, .int .i64 0, .int .i64 0, .int .i64 0, .int .i64 0, .string ⟨#[]⟩, .int .i64 0, .slice none 0 0, .int .i64 0, .string ⟨#[]⟩] 156) (fun _ => (.cells #[.int .i64 1, .int .i64 1, .int .i64 0, .int .i64 0, .string ⟨#[]⟩, .int .i64 R, .int .i64 0, .int .i64 0, .int .i64 0, .string ⟨#[]⟩, .int .i64 0, .slice none 0 0, .int .i64 0, .string ⟨#[]⟩] 156)) false (by kernel_rfl)
      obtain ⟨bn, hbn⟩ : ∃ b, b = p 10 := ⟨_, rfl⟩
      rw [← hbn] at hrn
      rw [← hbn]
      have HBn := Lib.hid (hI)
      have HN := Lib.hid (hrn.2.2)
      have HRn := Lib.hid (hkeep HBn.out (hkeep HB.out (hkeep HBW.out HR1.out)))
      have HBf := Lib.hid (below_next HB1.out (below_next HB2.out HBn.out))
      have hnl := (Array.getElem?_eq_some_iff.1 HN.out).1
      clear hS hA hD hI hrn hbn
      obtain ⟨z0, z1, z2, z3, z4, z5, z6, z7, z8, z9, z10, z11, z12, z13⟩ := cells14 HN.out
      obtain ⟨fz0, fz1, fz2, fz3, fz4, fz5, fz6, fz7, fz8, fz9, fz10, fz11, fz12, fz13⟩ := froz14 HN.out
      go_wp2_with fail
      refine (HTR.out _).mono ?_
      rintro e3 w3 ⟨rfl, hb⟩
      have HRf := Lib.hid (hkeep hb HRn.out)
      have HBg := Lib.hid (below_next HBf.out hb)
      have hya : w.heap.size < w3.heap.size := (Array.getElem?_eq_some_iff.1 HRf.out).1
      clear hb z0 z1 z2 z3 z4 z5 z6 z7 z8 z9 z10 z11 z12 z13 fz0 fz1 fz2 fz3 fz4 fz5 fz6 fz7 fz8 fz9 fz10 fz11 fz12 fz13
      obtain ⟨a0, a1, a2, a3, a4, a5, a6, a7, a8, a9, a10, a11⟩ := cells12 HRf.out
      obtain ⟨fa0, fa1, fa2, fa3, fa4, fa5, fa6, fa7, fa8, fa9, fa10, fa11⟩ := froz12 HRf.out
      go_wp2
      refine bodyPost_ret (by simp [results, Tryz.results93, go_sem, hya, a0, a1, a2, a3, a4, a5, a6, a7, a8, a9, a10, a11]; first | done | rfl) rfl ?_
      rw [← HDe.out]
      exact ⟨rfl, below_twelve HBg.out (Nat.le_refl _) _ _ _ _ _ _ _ _ _ _ _ _⟩
end Go.Proofs.YtpbcmlnjiocmoaaGreatDoorR
