import Derived.Test.YtpbhncmaamedhaaDoorMo
namespace Go.Proofs.YtpbhncmaamedhaaDoor
open Go.RowKit Go.Proofs.Lexi

theorem out_err {w w' : World} {R : Out} {c : Nat} (hR : R = .error c) (hb : Below w.heap.size w w') : OutPost w R (.returned (.tuple #[zeroMatch, .bool false, .int .i64 (c : Int)])) w' := by
  subst hR; exact ⟨hb, _, rfl, _, rfl, capsV_nil _ _⟩
theorem out_none {w w' : World} {R : Out} (hR : R = .ok none) (hb : Below w.heap.size w w') : OutPost w R (.returned (.tuple #[zeroMatch, .bool false, .int .i64 0])) w' := by
  subst hR; exact ⟨hb, _, rfl, _, rfl, capsV_nil _ _⟩
theorem below_set3 {B : Nat} {a w : World} {b : Nat} (h : Below B a w) (hb : B ≤ b) (x y z : Value) : Below B a (set3 w b x y z) := ((h.setCell (p := ⟨b, 0, none⟩) hb _).setCell (p := ⟨b, 1, none⟩) hb _).setCell (p := ⟨b, 2, none⟩) hb _
theorem ownsRow_set3 {w : World} {base b : Nat} {e : TypeId} {size : Nat} {v : Value} {n : Nat} {xs : List Value} (ho : w.ownsRow base e size v n xs) (hb : v.ownBlock ≠ some b) (x y z : Value) : (set3 w b x y z).ownsRow base e size v n xs :=
  ownsRow_set (ownsRow_set (ownsRow_set ho (a := ⟨b, 0, none⟩) hb _) (a := ⟨b, 1, none⟩) hb _) (a := ⟨b, 2, none⟩) hb _
theorem parse_err {w w' : World} {p : ByteArray} {e : Ending} {c : Nat} (h : ParsePost w p e w') (hq : parseM (bytesOf p) = .error c) : Below w.heap.size w w' ∧ e = .returned (.tuple #[.agg #[.slice none 0 0, .int .i64 0, .bool false, .bool false], .int .i64 c]) := by
  obtain ⟨h1, h2⟩ := h
  rw [hq] at h2
  exact ⟨h1, h2⟩
theorem parse_ok {w w' : World} {p : ByteArray} {e : Ending} {q : St × Bool × Bool} (h : ParsePost w p e w') (hq : parseM (bytesOf p) = .ok q) : Below w.heap.size w w' ∧ ∃ ao cap vs, e = .returned (.tuple #[.agg #[.slice ao q.1.items.length cap, .int .i64 q.1.caps, .bool q.2.1, .bool q.2.2], .int .i64 0]) ∧
    vs.length = q.1.items.length ∧ w'.ownsRow w.heap.size 106 6 (.slice ao q.1.items.length cap) q.1.items.length (rowOf q.1.items vs) ∧ ItemsOK w' w.heap.size (fun _ => False) q.1.items vs := by
  obtain ⟨h1, h2⟩ := h
  rw [hq] at h2
  obtain ⟨S, anc, fin⟩ := q
  obtain ⟨vi, vs, he, hl, ho, hi⟩ := h2
  obtain ⟨ao, cap, rfl⟩ := vi_slice ho
  exact ⟨h1, ao, cap, vs, he, hl, ho, hi⟩
theorem cell3 {w : World} {b : Nat} (h : w.heap[b]? = some (.cells #[.int .i64 0, .int .i64 0, .slice none 0 0] 29)) :
    w.cell? ⟨b, 0, none⟩ = some (.int .i64 0) ∧ w.cell? ⟨b, 1, none⟩ = some (.int .i64 0) ∧ w.cell? ⟨b, 2, none⟩ = some (.slice none 0 0) ∧ w.frozen? ⟨b, 0, none⟩ = false ∧ w.frozen? ⟨b, 1, none⟩ = false ∧ w.frozen? ⟨b, 2, none⟩ = false := by
  refine ⟨?_, ?_, ?_, ?_, ?_, ?_⟩
  · rw [cell_of_heap h]; rfl
  · rw [cell_of_heap h]; rfl
  · rw [cell_of_heap h]; rfl
  all_goals simp [World.frozen?, h]
theorem read3 {w : World} {b : Nat} {x0 y0 z0 : Value} (h0 : w.cell? ⟨b, 0, none⟩ = some x0) (h1 : w.cell? ⟨b, 1, none⟩ = some y0) (h2 : w.cell? ⟨b, 2, none⟩ = some z0) (x y z : Value) :
    (((w.setCell ⟨b, 0, none⟩ x).setCell ⟨b, 1, none⟩ y).setCell ⟨b, 2, none⟩ z).cell? ⟨b, 0, none⟩ = some x ∧ (((w.setCell ⟨b, 0, none⟩ x).setCell ⟨b, 1, none⟩ y).setCell ⟨b, 2, none⟩ z).cell? ⟨b, 1, none⟩ = some y ∧ (((w.setCell ⟨b, 0, none⟩ x).setCell ⟨b, 1, none⟩ y).setCell ⟨b, 2, none⟩ z).cell? ⟨b, 2, none⟩ = some z := by
  have o : ∀ (i j : Nat) (v : Value) (w : World), i ≠ j → (w.setCell ⟨b, i, none⟩ v).cell? ⟨b, j, none⟩ = w.cell? ⟨b, j, none⟩ := fun i j v w h => World.cell?_setCell_other _ _ _ _ (fun e => h (by injection e))
  refine ⟨?_, ?_, ?_⟩
  · rw [o 2 0 _ _ (by omega), o 1 0 _ _ (by omega)]; exact World.cell?_setCell_same _ _ _ h0
  · rw [o 2 1 _ _ (by omega)]; exact World.cell?_setCell_same _ _ _ ((o 0 1 _ _ (by omega)).trans h1)
  · exact World.cell?_setCell_same _ _ _ ((o 1 2 _ _ (by omega)).trans ((o 0 2 _ _ (by omega)).trans h2))
theorem read3a {w : World} {b : Nat} {x0 y0 z0 : Value} (h0 : w.cell? ⟨b, 0, none⟩ = some x0) (h1 : w.cell? ⟨b, 1, none⟩ = some y0) (h2 : w.cell? ⟨b, 2, none⟩ = some z0) (x y z : Value) (o : Obj) :
    ((((w.setCell ⟨b, 0, none⟩ x).setCell ⟨b, 1, none⟩ y).setCell ⟨b, 2, none⟩ z).alloc o).cell? ⟨b, 0, none⟩ = some x ∧ ((((w.setCell ⟨b, 0, none⟩ x).setCell ⟨b, 1, none⟩ y).setCell ⟨b, 2, none⟩ z).alloc o).cell? ⟨b, 1, none⟩ = some y ∧ ((((w.setCell ⟨b, 0, none⟩ x).setCell ⟨b, 1, none⟩ y).setCell ⟨b, 2, none⟩ z).alloc o).cell? ⟨b, 2, none⟩ = some z :=
  ⟨Lib.cell?_alloc_some _ (read3 h0 h1 h2 x y z).1, Lib.cell?_alloc_some _ (read3 h0 h1 h2 x y z).2.1, Lib.cell?_alloc_some _ (read3 h0 h1 h2 x y z).2.2⟩
theorem at_i {E : MEnv} (ok : MOK E) (hwf : WfItems E.K st0 E.items) {w : World} {n : Nat} {cs : List ACap} (h : MSt E w n cs) (hn : n ≤ maxSteps) (m : Nat) (a : Int) (i : Nat) (hm : m = E.mb) (ha : a = i) (hi : i ≤ E.s.size) (R : MR) (hR : R = runM E i n) :
    Calls Tryd.prog 30 #[.pointer (some ⟨m, 0, none⟩), .int .i64 a] w (AtPost E w i R) := by
  subst hm; exact at_c ok hwf h hn a i ha hi R hR
abbrev resMatch : Obj := .cells #[.int .i64 0, .int .i64 0, .slice none 0 0] 29

set_option maxRecDepth 100000 in
set_option maxHeartbeats 4000000 in
theorem At_c (s p : ByteArray) (a : Int) (w : World) (hp : p.size ≤ 5000) (hs : s.size ≤ 100000000) (R : Out) (hR : R = atM (bytesOf s) (bytesOf p) a) :
    Calls Tryd.prog 15 #[.string s, .string p, .int .i64 a] w (OutPost w R) := by
  have hb0 : Below w.heap.size w (w.alloc resMatch) := (Below.refl _ _).alloc (Nat.le_refl _) _
  cases hq : parseM (bytesOf p) with
  | error c =>
    have hc : ((c : Int) != 0) = true := by have := parseM_err hq; rw [bne_iff_ne]; omega
    have HR := Lib.hid (show R = .error c from by rw [hR]; unfold atM; rw [hq])
    have HQ := Lib.hid hq
    clear hR hq
    go_enter Tryd.func15, Tryd.ntmps15
    go_wp2_with fail
    refine (parse_c p hp _).mono ?_
    intro e w1 hpo
    obtain ⟨hb1, rfl⟩ := parse_err hpo HQ.out
    have hcell : w1.heap[w.heap.size]? = some resMatch := (hb1.block _ (by simp)).trans (heap_new _ _)
    have hlt : w.heap.size < w1.heap.size := (Array.getElem?_eq_some_iff.1 hcell).1
    obtain ⟨q0, q1, q2, z0, z1, z2⟩ := cell3 hcell
    have HB := Lib.hid (hb0.trans (hb1.mono (by simp)))
    clear hpo hb1 hcell hb0
    go_wp2
    obtain ⟨r0, r1, r2⟩ := read3a q0 q1 q2 (.int .i64 0) (.int .i64 0) (.slice none 0 0) (.cells #[.slice none 0 0, .int .i64 0, .bool false, .bool false] 49)
    refine bodyPost_ret (v := .tuple #[zeroMatch, .bool false, .int .i64 c]) (by simp [results, Tryd.results15, go_sem, r0, r1, r2, zeroMatch]) rfl ?_
    exact out_err HR.out ((below_set3 HB.out (Nat.le_refl _) _ _ _).alloc (by simp; omega) _)
  | ok q =>
    obtain ⟨hwf, -, hcap, hil, -⟩ := parseM_inv (s := q.1) (anc := q.2.1) (fin := q.2.2) hq
    rw [bytesOf_length] at hil
    have HQ := Lib.hid hq
    have HWF := Lib.hid hwf
    have hR2 : R = if a < 0 ∨ ((bytesOf s).length : Int) < a then .error 6 else ofRun a.toNat (runP (bytesOf s) q a.toNat 0) := by rw [hR]; unfold atM; rw [hq]
    rw [bytesOf_length] at hR2
    clear hR hq hwf
    by_cases h0 : a < 0
    · have t0 : decide (a < 0) = true := decide_eq_true h0
      have HR := Lib.hid (show R = .error 6 from by rw [hR2, if_pos (.inl h0)])
      clear hR2
      go_enter Tryd.func15, Tryd.ntmps15
      go_wp2_with fail
      refine (parse_c p hp _).mono ?_
      intro e w1 hpo
      obtain ⟨hb1, ao, cap, vs, rfl, hvl, ho, hi⟩ := parse_ok hpo HQ.out
      have hcell : w1.heap[w.heap.size]? = some resMatch := (hb1.block _ (by simp)).trans (heap_new _ _)
      have hlt : w.heap.size < w1.heap.size := (Array.getElem?_eq_some_iff.1 hcell).1
      obtain ⟨q0, q1, q2, z0, z1, z2⟩ := cell3 hcell
      have HB := Lib.hid (hb0.trans (hb1.mono (by simp)))
      clear hpo hb1 hcell hb0 hvl ho hi
      go_wp2
      obtain ⟨r0, r1, r2⟩ := read3a q0 q1 q2 (.int .i64 0) (.int .i64 0) (.slice none 0 0) (.cells #[.slice ao q.1.items.length cap, .int .i64 q.1.caps, .bool q.2.1, .bool q.2.2] 49)
      refine bodyPost_ret (v := .tuple #[zeroMatch, .bool false, .int .i64 6]) (by simp [results, Tryd.results15, go_sem, r0, r1, r2, zeroMatch]) rfl ?_
      exact out_err HR.out ((below_set3 HB.out (Nat.le_refl _) _ _ _).alloc (by simp; omega) _)
    · by_cases h1 : (s.size : Int) < a
      · have HR := Lib.hid (show R = .error 6 from by rw [hR2, if_pos (.inr h1)])
        have t0 : decide (a < 0) = false := decide_eq_false h0
        have t1 : decide ((s.size : Int) < a) = true := decide_eq_true h1
        clear hR2
        go_enter Tryd.func15, Tryd.ntmps15
        go_wp2_with fail
        refine (parse_c p hp _).mono ?_
        intro e w1 hpo
        obtain ⟨hb1, ao, cap, vs, rfl, hvl, ho, hi⟩ := parse_ok hpo HQ.out
        have hcell : w1.heap[w.heap.size]? = some resMatch := (hb1.block _ (by simp)).trans (heap_new _ _)
        have hlt : w.heap.size < w1.heap.size := (Array.getElem?_eq_some_iff.1 hcell).1
        obtain ⟨q0, q1, q2, z0, z1, z2⟩ := cell3 hcell
        have HB := Lib.hid (hb0.trans (hb1.mono (by simp)))
        clear hpo hb1 hcell hb0 hvl ho hi
        go_wp2
        obtain ⟨r0, r1, r2⟩ := read3a q0 q1 q2 (.int .i64 0) (.int .i64 0) (.slice none 0 0) (.cells #[.slice ao q.1.items.length cap, .int .i64 q.1.caps, .bool q.2.1, .bool q.2.2] 49)
        refine bodyPost_ret (v := .tuple #[zeroMatch, .bool false, .int .i64 6]) (by simp [results, Tryd.results15, go_sem, r0, r1, r2, zeroMatch]) rfl ?_
        exact out_err HR.out ((below_set3 HB.out (Nat.le_refl _) _ _ _).alloc (by simp; omega) _)
      · obtain ⟨i, rfl⟩ : ∃ i : Nat, a = i := ⟨a.toNat, by omega⟩
        have hi : i ≤ s.size := by omega
        have HR := Lib.hid (show R = ofRun i (runP (bytesOf s) q i 0) from by rw [hR2, if_neg (by omega)]; rfl)
        clear hR2 h0 h1
        go_enter Tryd.func15, Tryd.ntmps15
        go_wp2_with fail
        refine (parse_c p hp _).mono ?_
        intro e w1 hpo
        obtain ⟨hb1, ao, cap, vs, rfl, hvl, ho, hio⟩ := parse_ok hpo HQ.out
        have hcell : w1.heap[w.heap.size]? = some resMatch := (hb1.block _ (by simp)).trans (heap_new _ _)
        have hlt : w.heap.size < w1.heap.size := (Array.getElem?_eq_some_iff.1 hcell).1
        have hba : Below w1.heap.size w1 (w1.alloc (.cells #[.slice ao q.1.items.length cap, .int .i64 q.1.caps, .bool q.2.1, .bool q.2.2] 49)) := (Below.refl _ _).alloc (Nat.le_refl _) _
        have HB := Lib.hid ((hb0.trans (hb1.mono (by simp))).trans (hba.mono (by omega)))
        have HOK := Lib.hid (mok_new (s := s) (anc := q.2.1) (fin := q.2.2) hvl (ownsRow_ext (below_ext hba (Nat.le_refl _)) ho) (itemsOK_ext hio hba) (by omega) hs hcap)
        have HCELL := Lib.hid ((hba.block _ hlt).trans hcell)
        clear hpo hb1 hcell hb0 hvl ho hio hba
        go_wp2_with fail
        refine (new_c _ s _ vs q.1.items q.1.caps q.2.1 q.2.2 hcap ⟨_, _, rfl⟩).mono ?_
        rintro e w3 ⟨rfl, hb3, hms⟩
        have HB3 := Lib.hid hb3
        have HMS := Lib.hid hms
        clear hb3 hms
        go_wp2_with fail
        refine (at_i HOK.out HWF.out HMS.out (Nat.zero_le _) _ _ i (by simp [envOf]) rfl hi (runP (bytesOf s) q i 0) (by rfl)).mono ?_
        intro e w4 hpo
        obtain ⟨f, t, ao4, n4, cap4, b, c, n', cs', rfl, heq, hcv, hms4, _, hF4⟩ := hpo.out
        rw [← HR.out] at heq hcv
        have hb4 : Below (w1.alloc (.cells #[.slice ao q.1.items.length cap, .int .i64 q.1.caps, .bool q.2.1, .bool q.2.2] 49)).heap.size (w1.alloc (.cells #[.slice ao q.1.items.length cap, .int .i64 q.1.caps, .bool q.2.1, .bool q.2.2] 49)) w4 := hms4.below
        have hcell : w4.heap[w.heap.size]? = some resMatch := (hb4.block _ (by simp; omega)).trans HCELL.out
        obtain ⟨q0, q1, q2, z0, z1, z2⟩ := cell3 hcell
        have hs3 := HB3.out.size
        simp only [World.size_alloc] at hs3
        have HB4 := Lib.hid (HB.out.trans (hb4.mono (by simp; omega)))
        have HEQ := Lib.hid heq
        have hnb : (Value.slice ao4 n4 cap4).ownBlock ≠ some w.heap.size := fun e => by have := (ownBlock_lt hcv e).1; omega
        have HCV := Lib.hid (ownsRow_set3 (ownsRow_base hcv (show w.heap.size ≤ w3.heap.size by omega)) hnb (.int .i64 f) (.int .i64 t) (.slice ao4 n4 cap4))
        clear hpo heq hcv hms4 hF4 hb4 hcell hnb HB3 HMS HCELL HB HOK
        go_wp2
        refine bodyPost_ret (v := .tuple #[.agg #[.int .i64 f, .int .i64 t, .slice ao4 n4 cap4], .bool b, .int .i64 (c : Int)]) (by simp [results, Tryd.results15, go_sem, q0, q1, q2]) rfl ?_
        obtain ⟨h1, h2, h3, h4⟩ := HEQ.out
        exact ⟨below_set3 HB4.out (Nat.le_refl _) _ _ _, _, by rw [← h3, ← h4], _, by rw [h1, h2], HCV.out⟩
def CheckE (p : List Nat) : Nat := match parseM p with | .error e => e | .ok _ => 0
set_option maxRecDepth 100000 in
set_option maxHeartbeats 1000000 in
theorem Check_c (p : ByteArray) (w : World) (hp : p.size ≤ 5000) : Calls Tryd.prog 13 #[.string p] w fun e w' => e = .returned (.int .i64 (CheckE (bytesOf p) : Int)) ∧ Below w.heap.size w w' := by
  unfold CheckE
  cases hq : parseM (bytesOf p) with
  | error c =>
    have HQ := Lib.hid hq
    clear hq
    go_enter Tryd.func13, Tryd.ntmps13
    go_wp2_with fail
    refine (parse_c p hp _).mono ?_
    intro e w1 hpo
    obtain ⟨hb1, rfl⟩ := parse_err hpo HQ.out
    have HB := Lib.hid (hb1.alloc hb1.size (.cells #[.slice none 0 0, .int .i64 0, .bool false, .bool false] 49))
    clear hb1 hpo
    go_wp2
    go_ret
    exact ⟨rfl, HB.out⟩
  | ok q =>
    have HQ := Lib.hid hq
    clear hq
    go_enter Tryd.func13, Tryd.ntmps13
    go_wp2_with fail
    refine (parse_c p hp _).mono ?_
    intro e w1 hpo
    obtain ⟨hb1, ao, cap, vs, rfl, hvl, ho, hio⟩ := parse_ok hpo HQ.out
    have HB := Lib.hid (hb1.alloc hb1.size (.cells #[.slice ao q.1.items.length cap, .int .i64 q.1.caps, .bool q.2.1, .bool q.2.2] 49))
    clear hb1 hpo hvl ho hio
    go_wp2
    go_ret
    exact ⟨rfl, HB.out⟩
end Go.Proofs.YtpbhncmaamedhaaDoor
