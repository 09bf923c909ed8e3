import Derived.Test.YtpbhncmaamedhaaDoorAwA
namespace Go.Proofs.YtpbhncmaamedhaaDoor
open Go.RowKit Go.Proofs.Lexi

def ExAt (w : World) (f t : Int) (ps : List (Int × Int)) (n : Nat) (e : Ending) (w' : World) : Prop := Below w.heap.size w w' ∧ ∃ ao cap, e = .returned (.tuple #[.agg #[.int .i64 f, .int .i64 t, .slice ao n cap], .bool true, .int .i64 0]) ∧ CapsR w' (.slice ao n cap) ps
theorem exAt_of {w w' : World} {R : Out} {f t : Int} {ps : List (Int × Int)} {e : Ending} (h : OutPost w R e w') (hR : R = .ok (some ⟨f, t, ps⟩)) : ExAt w f t ps ps.length e w' := by
  subst hR
  obtain ⟨hb, v, he, u, hv, hc⟩ := h
  obtain ⟨ao, cap, rfl⟩ := capsV_slice hc
  subst hv
  exact ⟨hb, ao, cap, he, capsR_of hc⟩
theorem at_ex (w : World) : Calls Tryd.prog 15 #[.string ⟨#[107, 101, 121, 61, 118, 97, 108]⟩, .string ⟨#[40, 37, 119, 43, 41, 61, 40, 37, 119, 42, 41]⟩, .int .i64 0] w (ExAt w 0 7 [(0, 3), (4, 7)] 2) :=
  (At_c sKey pKey 0 w (by decide) (by decide) _ rfl).mono fun _ _ h => exAt_of h ex_at
theorem find_ex (w : World) : Calls Tryd.prog 18 #[.string ⟨#[102, 40, 97, 40, 98, 41, 99, 41, 100]⟩, .string ⟨#[37, 98, 40, 41]⟩, .int .i64 0] w (ExAt w 1 8 [] 0) :=
  (Find_c sBal pBal 0 w (by decide) (by decide) _ rfl).mono fun _ _ h => exAt_of h ex_find
def ExRepl (w : World) (e : Ending) (w' : World) : Prop := Below w.heap.size w w' ∧ e = .returned (.tuple #[.string ⟨#[104, 101, 91, 108, 93, 108, 111]⟩, .int .i64 1, .int .i64 0])
theorem repl_ex (w : World) (ht : Tab w) : Calls Tryd.prog 26 #[.string ⟨#[104, 101, 108, 108, 111]⟩, .string ⟨#[108]⟩, .string ⟨#[91, 37, 48, 93]⟩, .int .i64 1] w (ExRepl w) := by
  refine (Replace_c sHel pHel rHel 1 w (by decide) (by decide) (.inl (by decide)) ht _ rfl).mono fun e w' h => ?_
  rw [ex_repl] at h
  obtain ⟨hb, r, hr, he⟩ := h
  have : r = ⟨#[104, 101, 91, 108, 93, 108, 111]⟩ := bytesOf_inj (hr.trans (by rfl))
  subst this
  exact ⟨hb, he⟩
def ExAll (w : World) (e : Ending) (w' : World) : Prop := Below w.heap.size w w' ∧ ∃ g cap a0 c0 a1 c1, e = .returned (.tuple #[.slice (some ⟨g, 0, none⟩) 2 cap, .int .i64 0]) ∧ g < w'.heap.size ∧
  w'.cell? ⟨g, 0, none⟩ = some (.int .i64 0) ∧ w'.cell? ⟨g, 1, none⟩ = some (.int .i64 2) ∧ w'.cell? ⟨g, 2, none⟩ = some (.slice a0 0 c0) ∧ w'.cell? ⟨g, 3, none⟩ = some (.int .i64 3) ∧ w'.cell? ⟨g, 4, none⟩ = some (.int .i64 3) ∧ w'.cell? ⟨g, 5, none⟩ = some (.slice a1 0 c1)
theorem all_ex (w : World) : Calls Tryd.prog 25 #[.string ⟨#[97, 97, 98]⟩, .string ⟨#[97, 42]⟩] w (ExAll w) := by
  refine (All_c sAab pAab w (by decide) (by decide) _ rfl).mono fun e w' h => ?_
  obtain ⟨hb, ao, cap, us, he, hm⟩ := all_ok_of h ex_all
  obtain ⟨g, a0, c0, hao, hg, _, x0, x1, x2, _⟩ := hm.read (k := 0) (by decide)
  obtain ⟨g', a1, c1, hao', _, _, y0, y1, y2, _⟩ := hm.read (k := 1) (by decide)
  rw [hao] at hao'
  injection hao' with h1
  injection h1 with h1
  subst h1
  exact ⟨hb, g, cap, a0, c0, a1, c1, by rw [he, hao]; rfl, hg, x0, x1, x2, y0, y1, y2⟩
theorem capsR_nil (w : World) (ao : Option Addr) (cap : Nat) : CapsR w (.slice ao 0 cap) [] := ⟨ao, cap, rfl, fun h => by cases h⟩
def ExLm (w : World) (f t : Int) (ps : List (Int × Int)) (n : Nat) (e : Ending) (w' : World) : Prop := Below w.heap.size w w' ∧ ∃ ao cap, e = .returned (.agg #[.int .i64 f, .int .i64 t, .slice ao n cap]) ∧ CapsR w' (.slice ao n cap) ps
theorem lm_ex {w w' : World} {f t : Int} {ps : List (Int × Int)} {e : Ending} (h : LmPost w f t ps e w') : ExLm w f t ps ps.length e w' := by
  obtain ⟨hb, u, he, hc⟩ := h
  obtain ⟨ao, cap, rfl⟩ := capsV_slice hc
  exact ⟨hb, ao, cap, he, capsR_of hc⟩
theorem lm_nil (f t : Int) (w : World) : Calls Tryd.prog 24 #[.int .i64 f, .int .i64 t, .slice none 0 0] w (ExLm w f t [] 0) :=
  (lmatch_c f t (.slice none 0 0) [] w ⟨none, 0, rfl, fun h => by cases h⟩ (by decide)).mono fun _ _ h => lm_ex h
theorem lm_four (w0 : World) (b : Nat) (hb : b = w0.heap.size) : Calls Tryd.prog 24 #[.int .i64 0, .int .i64 7, .slice (some ⟨b, 0, none⟩) 4 4] (w0.alloc (.cells #[.int .i64 0, .int .i64 3, .int .i64 4, .int .i64 7] 3)) (ExLm (w0.alloc (.cells #[.int .i64 0, .int .i64 3, .int .i64 4, .int .i64 7] 3)) 0 7 [(0, 3), (4, 7)] 2) := by
  subst hb
  refine (lmatch_c 0 7 (.slice (some ⟨w0.heap.size, 0, none⟩) 4 4) [(0, 3), (4, 7)] _ ⟨some ⟨w0.heap.size, 0, none⟩, 4, rfl, fun _ => ⟨w0.heap.size, 0, rfl, by simp, fun k hk => ?_⟩⟩ (by decide)).mono fun _ _ h => lm_ex h
  have hh := heap_new w0 (.cells #[.int .i64 0, .int .i64 3, .int .i64 4, .int .i64 7] 3)
  match k, hk with
  | 0, _ => exact ⟨by rw [cell_of_heap hh]; rfl, by rw [cell_of_heap hh]; rfl⟩
  | 1, _ => exact ⟨by rw [cell_of_heap hh]; rfl, by rw [cell_of_heap hh]; rfl⟩
def ExT (w : World) (e : Ending) (w' : World) : Prop := e = .returned (.bool true) ∧ Below w.heap.size w w'
theorem same_ex (f t : Int) (u1 u2 : Value) (ps : List (Int × Int)) (w : World) (h1 : CapsR w u1 ps) (h2 : CapsR w u2 ps) (hl : ps.length ≤ 1000) : Calls Tryd.prog 17 #[.agg #[.int .i64 f, .int .i64 t, u1], .agg #[.int .i64 f, .int .i64 t, u2]] w (ExT w) :=
  (Same_c ⟨f, t, ps⟩ ⟨f, t, ps⟩ u1 u2 w h1 h2 (by show ps.length ≤ _; omega) (by show ps.length ≤ _; omega)).mono fun e w' h => ⟨by rw [h.1]; simp [sameM], h.2⟩
theorem same_nil (f t : Int) (a1 a2 : Option Addr) (c1 c2 : Nat) (w : World) : Calls Tryd.prog 17 #[.agg #[.int .i64 f, .int .i64 t, .slice a1 0 c1], .agg #[.int .i64 f, .int .i64 t, .slice a2 0 c2]] w (ExT w) := same_ex f t _ _ [] w (capsR_nil _ _ _) (capsR_nil _ _ _) (by decide)
theorem keepCell {W w' : World} (hb : Below W.heap.size W w') {a : Addr} {v : Value} (h : W.cell? a = some v) : w'.cell? a = some v := by
  rw [hb.cell (World.block_lt_of_cell? _ a h)]; exact h
theorem check_ex1 (w : World) : Calls Tryd.prog 13 #[.string ⟨#[40, 97]⟩] w fun e w' => e = .returned (.int .i64 4) ∧ Below w.heap.size w w' := (Check_c ⟨#[40, 97]⟩ w (by decide)).mono fun _ _ h => ⟨by rw [h.1, ex_check1]; rfl, h.2⟩
theorem check_ex2 (w : World) : Calls Tryd.prog 13 #[.string ⟨#[97, 42, 42]⟩] w fun e w' => e = .returned (.int .i64 0) ∧ Below w.heap.size w w' := (Check_c ⟨#[97, 42, 42]⟩ w (by decide)).mono fun _ _ h => ⟨by rw [h.1, ex_check2]; rfl, h.2⟩
theorem escape_ex (w : World) : Calls Tryd.prog 22 #[.string ⟨#[97, 46, 98]⟩] w fun e w' => e = .returned (.string ⟨#[97, 37, 46, 98]⟩) ∧ Below w.heap.size w w' := by
  refine (Escape_c ⟨#[97, 46, 98]⟩ (by decide) w).mono fun e w' h => ?_
  obtain ⟨hb, r, hr, he⟩ := h
  rw [ex_esc] at hr
  have : r = ⟨#[97, 37, 46, 98]⟩ := bytesOf_inj (hr.trans (by rfl))
  subst this
  exact ⟨he, hb⟩
set_option maxRecDepth 100000 in
set_option maxHeartbeats 4000000 in
theorem awake_c (w : World) (ht : Tab w) : Calls Tryd.prog 12 #[] w (ExT w) := by
  have HT := Lib.hid ht
  clear ht
  go_enter Tryd.func12, Tryd.ntmps12
  go_wp2_with fail
  refine (at_ex _).mono ?_
  rintro e w1 ⟨hb1, aa, ca, rfl, hca⟩
  have HB1 := Lib.hid hb1
  have HCA := Lib.hid hca
  have hA := heap_new w1 (.cells #[.int .i64 0, .int .i64 7, .slice aa 2 ca] 29)
  have HA := Lib.hid hA
  clear hb1 hca hA
  go_wp2_with fail
  refine (find_ex _).mono ?_
  rintro e w2 ⟨hb2, ab, cb, rfl, hcb⟩
  have HB2 := Lib.hid ((Below.refl w1.heap.size w1).alloc (Nat.le_refl _) (.cells #[.int .i64 0, .int .i64 7, .slice aa 2 ca] 29) |>.trans (hb2.mono (by simp)))
  have HA2 := Lib.hid ((hb2.block _ (by simp)).trans HA.out)
  have hz2 := hb2.size
  simp only [World.size_alloc] at hz2
  have HBN := Lib.hid (heap_new w2 (.cells #[.int .i64 1, .int .i64 8, .slice ab 0 cb] 29))
  clear hb2 hcb HA
  go_wp2_with fail
  have HBw2 := Lib.hid (HB1.out.trans (HB2.out.mono HB1.out.size))
  refine (repl_ex _ ((HT.out.mono HBw2.out (Nat.le_refl _)).mono ((Below.refl _ _).alloc (Nat.le_refl _) _) (Nat.le_refl _))).mono ?_
  rintro e w3 ⟨hb3, rfl⟩
  have HB3 := Lib.hid ((Below.refl w2.heap.size w2).alloc (Nat.le_refl _) (.cells #[.int .i64 1, .int .i64 8, .slice ab 0 cb] 29) |>.trans (hb3.mono (by simp)))
  have HBN3 := Lib.hid ((hb3.block _ (by simp)).trans HBN.out)
  have hz3 := hb3.size
  simp only [World.size_alloc] at hz3
  clear hb3 HBN
  go_wp2_with fail
  refine (all_ex _).mono ?_
  rintro e w4 ⟨hb4, g, cap, a0, c0, a1, c1, rfl, hg, x0, x1, x2, x3, x4, x5⟩
  have hA4 : w4.heap[w1.heap.size]? = some (.cells #[.int .i64 0, .int .i64 7, .slice aa 2 ca] 29) := (hb4.block _ (by omega)).trans ((HB3.out.block _ (by omega)).trans HA2.out)
  have hB4 : w4.heap[w2.heap.size]? = some (.cells #[.int .i64 1, .int .i64 8, .slice ab 0 cb] 29) := (hb4.block _ (by omega)).trans HBN3.out
  have p0 : w4.cell? ⟨w1.heap.size, 0, none⟩ = some (.int .i64 0) := by rw [cell_of_heap hA4]; rfl
  have p1 : w4.cell? ⟨w1.heap.size, 1, none⟩ = some (.int .i64 7) := by rw [cell_of_heap hA4]; rfl
  have p2 : w4.cell? ⟨w1.heap.size, 2, none⟩ = some (.slice aa 2 ca) := by rw [cell_of_heap hA4]; rfl
  have q0 : w4.cell? ⟨w2.heap.size, 0, none⟩ = some (.int .i64 1) := by rw [cell_of_heap hB4]; rfl
  have q1 : w4.cell? ⟨w2.heap.size, 1, none⟩ = some (.int .i64 8) := by rw [cell_of_heap hB4]; rfl
  have q2 : w4.cell? ⟨w2.heap.size, 2, none⟩ = some (.slice ab 0 cb) := by rw [cell_of_heap hB4]; rfl
  have hbw : Below w1.heap.size w1 w4 := HB2.out.trans ((HB3.out.mono (by omega)).trans (hb4.mono (by omega)))
  have HBW := Lib.hid (HB1.out.trans (hbw.mono HB1.out.size))
  have HCA4 := Lib.hid (HCA.out.mono hbw (Nat.le_refl _))
  have hl1 : w1.heap.size < w4.heap.size := (Array.getElem?_eq_some_iff.1 hA4).1
  have hl2 : w2.heap.size < w4.heap.size := (Array.getElem?_eq_some_iff.1 hB4).1
  clear hb4 hA4 hB4 hbw HA2 HBN3 HB1 HB2 HB3 HCA HT HBw2 hz2 hz3
  go_wp2
  have hS : ∀ W, Below w4.heap.size w4 W → (W.cell? ⟨w1.heap.size, 0, none⟩ = some (.int .i64 0) ∧ W.cell? ⟨w1.heap.size, 1, none⟩ = some (.int .i64 7) ∧ W.cell? ⟨w1.heap.size, 2, none⟩ = some (.slice aa 2 ca) ∧ W.cell? ⟨w2.heap.size, 0, none⟩ = some (.int .i64 1) ∧ W.cell? ⟨w2.heap.size, 1, none⟩ = some (.int .i64 8) ∧ W.cell? ⟨w2.heap.size, 2, none⟩ = some (.slice ab 0 cb) ∧ W.cell? ⟨g, 0, none⟩ = some (.int .i64 0) ∧ W.cell? ⟨g, 1, none⟩ = some (.int .i64 2) ∧ W.cell? ⟨g, 2, none⟩ = some (.slice a0 0 c0) ∧ W.cell? ⟨g, 3, none⟩ = some (.int .i64 3) ∧ W.cell? ⟨g, 4, none⟩ = some (.int .i64 3) ∧ W.cell? ⟨g, 5, none⟩ = some (.slice a1 0 c1)) := fun W hb =>
    ⟨keepCell hb p0, keepCell hb p1, keepCell hb p2, keepCell hb q0, keepCell hb q1, keepCell hb q2, keepCell hb x0, keepCell hb x1, keepCell hb x2, keepCell hb x3, keepCell hb x4, keepCell hb x5⟩
  have SOF := Lib.hid hS
  have D0 := Lib.hid (show Below w4.heap.size w4 w4.drew from (Below.refl _ _).drew)
  have D1 := Lib.hid (show Below w4.heap.size w4 (w4.drew.alloc (.cells #[.int .i64 0, .int .i64 3, .int .i64 4, .int .i64 7] 3)) from (Below.refl _ _).drew.alloc (by simp) _)
  have NXT := Lib.hid (fun (V W : World) (h1 : Below w4.heap.size w4 V) (h2 : Below V.heap.size V W) => h1.trans (h2.mono h1.size))
  have CA := Lib.hid (fun (V : World) (h : Below w4.heap.size w4 V) => HCA4.out.mono h (Nat.le_refl _))
  have LAST := Lib.hid (fun (W : World) (h : Below w4.heap.size w4 W) => HBW.out.trans (h.mono HBW.out.size))
  clear hS
  go_region_held3 (fun W => W.cell? ⟨w1.heap.size, 0, none⟩ = some (.int .i64 0) ∧ W.cell? ⟨w1.heap.size, 1, none⟩ = some (.int .i64 7) ∧ W.cell? ⟨w1.heap.size, 2, none⟩ = some (.slice aa 2 ca) ∧ W.cell? ⟨w2.heap.size, 0, none⟩ = some (.int .i64 1) ∧ W.cell? ⟨w2.heap.size, 1, none⟩ = some (.int .i64 8) ∧ W.cell? ⟨w2.heap.size, 2, none⟩ = some (.slice ab 0 cb) ∧ W.cell? ⟨g, 0, none⟩ = some (.int .i64 0) ∧ W.cell? ⟨g, 1, none⟩ = some (.int .i64 2) ∧ W.cell? ⟨g, 2, none⟩ = some (.slice a0 0 c0) ∧ W.cell? ⟨g, 3, none⟩ = some (.int .i64 3) ∧ W.cell? ⟨g, 4, none⟩ = some (.int .i64 3) ∧ W.cell? ⟨g, 5, none⟩ = some (.slice a1 0 c1))
    (first | exact SOF.out _ (by assumption) | exact SOF.out _ D1.out | exact SOF.out _ D0.out)
    (first | ((go_at_call 24; (with_reducible refine (lm_nil _ _ _).mono ?_); rintro e W ⟨hbn, am, cm, rfl, hcm⟩; have hW := NXT.out _ _ (by assumption) hbn; clear hbn hcm)) | ((go_at_call 24; refine (lm_four w4.drew _ (by rfl)).mono ?_; rintro e W ⟨hbn, am, cm, rfl, hcm⟩; have hW := NXT.out _ _ D1.out hbn; have HCM := Lib.hid hcm; clear hbn hcm)) | ((go_at_call 17; (with_reducible refine (same_nil _ _ _ _ _ _ _).mono ?_); rintro e W ⟨rfl, hbn⟩; have hW := NXT.out _ _ (by assumption) hbn; clear hbn)) | ((go_at_call 17; refine (same_ex 0 7 (.slice aa 2 ca) _ [(0, 3), (4, 7)] _ (CA.out _ (by assumption)) HCM.out (by decide)).mono ?_; rintro e W ⟨rfl, hbn⟩; have hW := NXT.out _ _ (by assumption) hbn; clear hbn)) | ((go_at_call 13; (with_reducible refine (check_ex1 _).mono ?_); rintro e W ⟨rfl, hbn⟩; have hW := NXT.out _ _ (by assumption) hbn; clear hbn)) | ((go_at_call 13; (with_reducible refine (check_ex2 _).mono ?_); rintro e W ⟨rfl, hbn⟩; have hW := NXT.out _ _ (by assumption) hbn; clear hbn)) | ((go_at_call 22; (with_reducible refine (escape_ex _).mono ?_); rintro e W ⟨rfl, hbn⟩; have hW := NXT.out _ _ (by assumption) hbn; clear hbn)))
  go_wp2
  go_ret
  exact ⟨rfl, LAST.out _ (by assumption)⟩
end Go.Proofs.YtpbhncmaamedhaaDoor
