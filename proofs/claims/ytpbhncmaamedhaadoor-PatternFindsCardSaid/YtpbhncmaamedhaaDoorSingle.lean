import Derived.Test.YtpbhncmaamedhaaDoorSgM2
namespace Go.Proofs.YtpbhncmaamedhaaDoor
open Go.RowKit Go.Proofs.Lexi

theorem byte_lt (p : ByteArray) (k : Nat) (h : k < p.size) : p[k].toNat < 256 := UInt8.toNat_lt _
set_option maxRecDepth 100000 in
set_option maxHeartbeats 2000000 in
theorem single_eq {w0 w : World} {rb : Nat} {p : ByteArray} {at_ : Nat} {anc fin : Bool} {s : St} {vo ve vi : Value} {vs : List Value} (h : RSt w0 rb w p at_ anc fin s vo ve vi vs) (hat : at_ < p.size) (hp : p.size ≤ 5000) (hi : s.items.length ≤ at_) (h46 : ¬ p[at_].toNat = 46) (h37 : ¬ p[at_].toNat = 37) (h91 : ¬ p[at_].toNat = 91) :
    Calls Tryd.prog 49 #[.pointer (some ⟨rb, 0, none⟩)] w (RdPost w0 rb p at_ anc fin (singleM p[at_].toNat ((bytesOf p).drop (at_ + 1)) s)) := by
  have h0 : w.cell? ⟨rb, 0, none⟩ = some (.string p) := by rw [cell_of_heap h.hr]; rfl
  have h1 : w.cell? ⟨rb, 1, none⟩ = some (.int .i64 at_) := by rw [cell_of_heap h.hr]; rfl
  have hrb := h.rb1
  have hsz0 := h.below.size
  have H := Lib.hid h
  have mutlt : ∀ b, Mut rb vo ve vi b → b < w.heap.size := fun b hm => by
    rcases hm with e | e | e | e
    · omega
    · exact (ownBlock_lt h.oo e).2
    · exact (ownBlock_lt h.oe e).2
    · exact (ownBlock_lt h.oi e).2
  have HM := Lib.hid mutlt
  clear h mutlt
  have HB := Lib.hid (show baseM p[at_].toNat ((bytesOf p).drop (at_ + 1)) = some (eqS p[at_].toNat, (bytesOf p).drop (at_ + 1)) by simp [baseM, h46, h37, h91])
  have t46 : ((p[at_].toNat : Int) == 46) = false := by rw [beq_eq_false_iff_ne]; omega
  have t37 : ((p[at_].toNat : Int) == 37) = false := by rw [beq_eq_false_iff_ne]; omega
  have t91 : ((p[at_].toNat : Int) == 91) = false := by rw [beq_eq_false_iff_ne]; omega
  clear h46 h37 h91
  by_cases hn : at_ + 1 < p.size
  · cases hq : isQ p[at_ + 1].toNat with
    | true =>
      have ER := Lib.hid (single_of (s := s) HB.out (by omega) (by omega) (quant_yes hn hq))
      have HQ := Lib.hid (idx_yes p[at_ + 1].toNat (byte_lt p _ hn) hq)
      clear hq
      go_enter Tryd.func49, Tryd.ntmps49
      go_wp2
      refine wp_region_lex mixed (by kernel_rfl) ?_
      go_wp2
      refine ⟨by kernel_rfl, ?_⟩
      go_wp2_with (go_at_call 65; refine (HQ.out _).mono ?_; rintro e w' ⟨n, hn0, hn3, rfl, rfl⟩)
      refine wp_region_lex mixed (by kernel_rfl) ?_
      go_wp2_with fail
      have hgw : Below w.heap.size w ((w.alloc (.cells #[.int .u8 p[at_].toNat] 5)).alloc (.cells #[.int .i64 7, .int .i64 0, .int .u8 0, .int .u8 0, .func (.func 62) #[] #[.pointer (some ⟨w.heap.size, 0, none⟩)], .int .u8 p[at_ + 1].toNat] 106)).drew := below2 _ _ _
      refine (add_c (H.out.grow hgw).drew ⟨7, 0, 0, 0, eqS p[at_].toNat, p[at_ + 1].toNat⟩ (.func (.func 62) #[] #[.pointer (some ⟨w.heap.size, 0, none⟩)]) ?_ (.inr ⟨_, _, rfl⟩) _ (at_ + 1 - at_ + 1) (by omega) (by omega) (by omega)).mono ?_
      · refine itemOK_set w.heap.size (w.heap.size + 1) rfl (by omega) (by simp <;> omega) (fun b hb hb' hm => by have := HM.out b hm; omega) ?_
        intro W hW
        refine ⟨62, _, rfl, fun _ _ => by kernel_rfl, fun b _ => single1_c w.heap.size b _ W ?_⟩
        have := (hW w.heap.size (Nat.le_refl _) (by omega)).trans (heap2_a w (.cells #[.int .u8 p[at_].toNat] 5) (.cells #[.int .i64 7, .int .i64 0, .int .u8 0, .int .u8 0, .func (.func 62) #[] #[.pointer (some ⟨w.heap.size, 0, none⟩)], .int .u8 p[at_ + 1].toNat] 106))
        rw [cell_of_heap this]; rfl
      · rintro e w9 ⟨rfl, HR⟩
        have HR := Lib.hid HR
        go_wp2
        refine ⟨by kernel_rfl, ?_⟩
        go_wp2
        go_ret
        exact rd_ok ER.out HR.out
    | false =>
      have ER := Lib.hid (single_of (s := s) HB.out (by omega) (by omega) (quant_no hn hq))
      have HQ := Lib.hid (idx_no p[at_ + 1].toNat (byte_lt p _ hn) hq)
      clear hq
      go_enter Tryd.func49, Tryd.ntmps49
      go_wp2
      refine wp_region_lex mixed (by kernel_rfl) ?_
      go_wp2
      refine ⟨by kernel_rfl, ?_⟩
      go_wp2_with (go_at_call 65; refine (HQ.out _).mono ?_; rintro e w' ⟨rfl, rfl⟩)
      refine wp_region_lex mixed (by kernel_rfl) ?_
      go_wp2_with fail
      have hgw : Below w.heap.size w ((w.alloc (.cells #[.int .u8 p[at_].toNat] 5)).alloc (.cells #[.int .i64 7, .int .i64 0, .int .u8 0, .int .u8 0, .func (.func 62) #[] #[.pointer (some ⟨w.heap.size, 0, none⟩)], .int .u8 0] 106)).drew := below2 _ _ _
      refine (add_c (H.out.grow hgw).drew ⟨7, 0, 0, 0, eqS p[at_].toNat, 0⟩ (.func (.func 62) #[] #[.pointer (some ⟨w.heap.size, 0, none⟩)]) ?_ (.inr ⟨_, _, rfl⟩) _ (at_ + 1 - at_ + 0) (by omega) (by omega) (by omega)).mono ?_
      · refine itemOK_set w.heap.size (w.heap.size + 1) rfl (by omega) (by simp <;> omega) (fun b hb hb' hm => by have := HM.out b hm; omega) ?_
        intro W hW
        refine ⟨62, _, rfl, fun _ _ => by kernel_rfl, fun b _ => single1_c w.heap.size b _ W ?_⟩
        have := (hW w.heap.size (Nat.le_refl _) (by omega)).trans (heap2_a w (.cells #[.int .u8 p[at_].toNat] 5) (.cells #[.int .i64 7, .int .i64 0, .int .u8 0, .int .u8 0, .func (.func 62) #[] #[.pointer (some ⟨w.heap.size, 0, none⟩)], .int .u8 0] 106))
        rw [cell_of_heap this]; rfl
      · rintro e w9 ⟨rfl, HR⟩
        have HR := Lib.hid HR
        go_wp2
        refine ⟨by kernel_rfl, ?_⟩
        go_wp2
        go_ret
        exact rd_ok ER.out HR.out
  · have ER := Lib.hid (single_of (s := s) HB.out (by omega) (by omega) (quant_end (by omega)))
    go_enter Tryd.func49, Tryd.ntmps49
    go_wp2
    refine wp_region_lex mixed (by kernel_rfl) ?_
    go_wp2
    refine ⟨by kernel_rfl, ?_⟩
    go_wp2_with fail
    refine wp_region_lex mixed (by kernel_rfl) ?_
    go_wp2_with fail
    have hgw : Below w.heap.size w ((w.alloc (.cells #[.int .u8 p[at_].toNat] 5)).alloc (.cells #[.int .i64 7, .int .i64 0, .int .u8 0, .int .u8 0, .func (.func 62) #[] #[.pointer (some ⟨w.heap.size, 0, none⟩)], .int .u8 0] 106)).drew := below2 _ _ _
    refine (add_c (H.out.grow hgw).drew ⟨7, 0, 0, 0, eqS p[at_].toNat, 0⟩ (.func (.func 62) #[] #[.pointer (some ⟨w.heap.size, 0, none⟩)]) ?_ (.inr ⟨_, _, rfl⟩) _ (at_ + 1 - at_ + 0) (by omega) (by omega) (by omega)).mono ?_
    · refine itemOK_set w.heap.size (w.heap.size + 1) rfl (by omega) (by simp <;> omega) (fun b hb hb' hm => by have := HM.out b hm; omega) ?_
      intro W hW
      refine ⟨62, _, rfl, fun _ _ => by kernel_rfl, fun b _ => single1_c w.heap.size b _ W ?_⟩
      have := (hW w.heap.size (Nat.le_refl _) (by omega)).trans (heap2_a w (.cells #[.int .u8 p[at_].toNat] 5) (.cells #[.int .i64 7, .int .i64 0, .int .u8 0, .int .u8 0, .func (.func 62) #[] #[.pointer (some ⟨w.heap.size, 0, none⟩)], .int .u8 0] 106))
      rw [cell_of_heap this]; rfl
    · rintro e w9 ⟨rfl, HR⟩
      have HR := Lib.hid HR
      go_wp2
      refine ⟨by kernel_rfl, ?_⟩
      go_wp2
      go_ret
      exact rd_ok ER.out HR.out
set_option maxRecDepth 100000 in
set_option maxHeartbeats 2000000 in
theorem single_dot {w0 w : World} {rb : Nat} {p : ByteArray} {at_ : Nat} {anc fin : Bool} {s : St} {vo ve vi : Value} {vs : List Value} (h : RSt w0 rb w p at_ anc fin s vo ve vi vs) (hat : at_ < p.size) (hp : p.size ≤ 5000) (hi : s.items.length ≤ at_) (h46 : p[at_].toNat = 46) :
    Calls Tryd.prog 49 #[.pointer (some ⟨rb, 0, none⟩)] w (RdPost w0 rb p at_ anc fin (singleM p[at_].toNat ((bytesOf p).drop (at_ + 1)) s)) := by
  have h0 : w.cell? ⟨rb, 0, none⟩ = some (.string p) := by rw [cell_of_heap h.hr]; rfl
  have h1 : w.cell? ⟨rb, 1, none⟩ = some (.int .i64 at_) := by rw [cell_of_heap h.hr]; rfl
  have hrb := h.rb1
  have hsz0 := h.below.size
  have H := Lib.hid h
  have mutlt : ∀ b, Mut rb vo ve vi b → b < w.heap.size := fun b hm => by
    rcases hm with e | e | e | e
    · omega
    · exact (ownBlock_lt h.oo e).2
    · exact (ownBlock_lt h.oe e).2
    · exact (ownBlock_lt h.oi e).2
  have HM := Lib.hid mutlt
  clear h mutlt
  have HB := Lib.hid (show baseM p[at_].toNat ((bytesOf p).drop (at_ + 1)) = some (anyS, (bytesOf p).drop (at_ + 1)) by simp [baseM, h46])
  have t46 : ((p[at_].toNat : Int) == 46) = true := by rw [h46]; rfl
  clear h46
  by_cases hn : at_ + 1 < p.size
  · cases hq : isQ p[at_ + 1].toNat with
    | true =>
      have ER := Lib.hid (single_of (s := s) HB.out (by omega) (by omega) (quant_yes hn hq))
      have HQ := Lib.hid (idx_yes p[at_ + 1].toNat (byte_lt p _ hn) hq)
      clear hq
      go_enter Tryd.func49, Tryd.ntmps49
      go_wp2
      refine wp_region_lex mixed (by kernel_rfl) ?_
      go_wp2
      refine ⟨by kernel_rfl, ?_⟩
      go_wp2_with (go_at_call 65; refine (HQ.out _).mono ?_; rintro e w' ⟨n, hn0, hn3, rfl, rfl⟩)
      refine wp_region_lex mixed (by kernel_rfl) ?_
      go_wp2_with fail
      have hgw : Below w.heap.size w ((w.alloc (.cells #[.int .u8 p[at_].toNat] 5)).alloc (.cells #[.int .i64 7, .int .i64 0, .int .u8 0, .int .u8 0, .func (.func 63) #[] #[], .int .u8 p[at_ + 1].toNat] 106)).drew := below2 _ _ _
      refine (add_c (H.out.grow hgw).drew ⟨7, 0, 0, 0, anyS, p[at_ + 1].toNat⟩ (.func (.func 63) #[] #[]) ?_ (.inr ⟨_, _, rfl⟩) _ (at_ + 1 - at_ + 1) (by omega) (by omega) (by omega)).mono ?_
      · refine itemOK_set w.heap.size w.heap.size rfl (by omega) (by simp <;> omega) (fun b hb hb' hm => by have := HM.out b hm; omega) ?_
        intro W hW
        exact ⟨63, _, rfl, fun _ _ => by kernel_rfl, fun b _ => single2_c b W⟩
      · rintro e w9 ⟨rfl, HR⟩
        have HR := Lib.hid HR
        go_wp2
        refine ⟨by kernel_rfl, ?_⟩
        go_wp2
        go_ret
        exact rd_ok ER.out HR.out
    | false =>
      have ER := Lib.hid (single_of (s := s) HB.out (by omega) (by omega) (quant_no hn hq))
      have HQ := Lib.hid (idx_no p[at_ + 1].toNat (byte_lt p _ hn) hq)
      clear hq
      go_enter Tryd.func49, Tryd.ntmps49
      go_wp2
      refine wp_region_lex mixed (by kernel_rfl) ?_
      go_wp2
      refine ⟨by kernel_rfl, ?_⟩
      go_wp2_with (go_at_call 65; refine (HQ.out _).mono ?_; rintro e w' ⟨rfl, rfl⟩)
      refine wp_region_lex mixed (by kernel_rfl) ?_
      go_wp2_with fail
      have hgw : Below w.heap.size w ((w.alloc (.cells #[.int .u8 p[at_].toNat] 5)).alloc (.cells #[.int .i64 7, .int .i64 0, .int .u8 0, .int .u8 0, .func (.func 63) #[] #[], .int .u8 0] 106)).drew := below2 _ _ _
      refine (add_c (H.out.grow hgw).drew ⟨7, 0, 0, 0, anyS, 0⟩ (.func (.func 63) #[] #[]) ?_ (.inr ⟨_, _, rfl⟩) _ (at_ + 1 - at_ + 0) (by omega) (by omega) (by omega)).mono ?_
      · refine itemOK_set w.heap.size w.heap.size rfl (by omega) (by simp <;> omega) (fun b hb hb' hm => by have := HM.out b hm; omega) ?_
        intro W hW
        exact ⟨63, _, rfl, fun _ _ => by kernel_rfl, fun b _ => single2_c b W⟩
      · rintro e w9 ⟨rfl, HR⟩
        have HR := Lib.hid HR
        go_wp2
        refine ⟨by kernel_rfl, ?_⟩
        go_wp2
        go_ret
        exact rd_ok ER.out HR.out
  · have ER := Lib.hid (single_of (s := s) HB.out (by omega) (by omega) (quant_end (by omega)))
    go_enter Tryd.func49, Tryd.ntmps49
    go_wp2
    refine wp_region_lex mixed (by kernel_rfl) ?_
    go_wp2
    refine ⟨by kernel_rfl, ?_⟩
    go_wp2_with fail
    refine wp_region_lex mixed (by kernel_rfl) ?_
    go_wp2_with fail
    have hgw : Below w.heap.size w ((w.alloc (.cells #[.int .u8 p[at_].toNat] 5)).alloc (.cells #[.int .i64 7, .int .i64 0, .int .u8 0, .int .u8 0, .func (.func 63) #[] #[], .int .u8 0] 106)).drew := below2 _ _ _
    refine (add_c (H.out.grow hgw).drew ⟨7, 0, 0, 0, anyS, 0⟩ (.func (.func 63) #[] #[]) ?_ (.inr ⟨_, _, rfl⟩) _ (at_ + 1 - at_ + 0) (by omega) (by omega) (by omega)).mono ?_
    · refine itemOK_set w.heap.size w.heap.size rfl (by omega) (by simp <;> omega) (fun b hb hb' hm => by have := HM.out b hm; omega) ?_
      intro W hW
      exact ⟨63, _, rfl, fun _ _ => by kernel_rfl, fun b _ => single2_c b W⟩
    · rintro e w9 ⟨rfl, HR⟩
      have HR := Lib.hid HR
      go_wp2
      refine ⟨by kernel_rfl, ?_⟩
      go_wp2
      go_ret
      exact rd_ok ER.out HR.out
set_option maxRecDepth 100000 in
set_option maxHeartbeats 2000000 in
theorem single_pct {w0 w : World} {rb : Nat} {p : ByteArray} {at_ : Nat} {anc fin : Bool} {s : St} {vo ve vi : Value} {vs : List Value} (h : RSt w0 rb w p at_ anc fin s vo ve vi vs) (hat : at_ < p.size) (hp : p.size ≤ 5000) (hi : s.items.length ≤ at_) (h37 : p[at_].toNat = 37) (hn1 : at_ + 1 < p.size) :
    Calls Tryd.prog 49 #[.pointer (some ⟨rb, 0, none⟩)] w (RdPost w0 rb p at_ anc fin (singleM p[at_].toNat ((bytesOf p).drop (at_ + 1)) s)) := by
  have h0 : w.cell? ⟨rb, 0, none⟩ = some (.string p) := by rw [cell_of_heap h.hr]; rfl
  have h1 : w.cell? ⟨rb, 1, none⟩ = some (.int .i64 at_) := by rw [cell_of_heap h.hr]; rfl
  have hrb := h.rb1
  have hsz0 := h.below.size
  have H := Lib.hid h
  have mutlt : ∀ b, Mut rb vo ve vi b → b < w.heap.size := fun b hm => by
    rcases hm with e | e | e | e
    · omega
    · exact (ownBlock_lt h.oo e).2
    · exact (ownBlock_lt h.oe e).2
    · exact (ownBlock_lt h.oi e).2
  have HM := Lib.hid mutlt
  clear h mutlt
  have hBM : baseM p[at_].toNat ((bytesOf p).drop (at_ + 1)) = (pairS p[at_ + 1].toNat).map fun S => (S, (bytesOf p).drop (at_ + 2)) := by rw [bytesOf_drop p (at_ + 1) hn1]; simp [baseM, h37]
  have t46 : ((p[at_].toNat : Int) == 46) = false := by rw [h37]; rfl
  have t37 : ((p[at_].toNat : Int) == 37) = true := by rw [h37]; rfl
  clear h37
  go_enter Tryd.func49, Tryd.ntmps49
  go_wp2
  refine wp_region_lex mixed (by kernel_rfl) ?_
  go_wp2
  refine ⟨by kernel_rfl, ?_⟩
  go_wp2
  refine wp_region_lex mixed (by kernel_rfl) ?_
  go_wp2_with fail
  refine (pair_c2 _ (byte_lt p _ hn1) _).mono ?_
  rintro e w1 ⟨v, rfl, hsh, hx, hset⟩
  have hW0 : Below w.heap.size w ((w.alloc (.cells #[.int .u8 p[at_].toNat] 5)).alloc (.cells #[.int .i64 7, .int .i64 0, .int .u8 0, .int .u8 0, .func (.func 62) #[] #[.pointer (some ⟨w.heap.size, 0, none⟩)], .int .u8 0] 106)).drew.drew := (below2 _ _ _).drew
  have hs1 := hx.size
  simp at hs1
  have hB1 : Below w.heap.size w w1 := hW0.trans (hx.mono (by simp <;> omega))
  have hR1 : RSt w0 rb w1 p at_ anc fin s vo ve vi vs := H.out.grow hB1
  have hxb : w1.heap[w.heap.size + 1]? = _ := (hx.block (w.heap.size + 1) (by simp <;> omega)).trans (heap2_b _ _ _)
  have x0 : w1.cell? ⟨w.heap.size + 1, 0, none⟩ = some (.int .i64 7) := by rw [cell_of_heap hxb]; rfl
  have x1 : w1.cell? ⟨w.heap.size + 1, 1, none⟩ = some (.int .i64 0) := by rw [cell_of_heap hxb]; rfl
  have x2 : w1.cell? ⟨w.heap.size + 1, 2, none⟩ = some (.int .u8 0) := by rw [cell_of_heap hxb]; rfl
  have x3 : w1.cell? ⟨w.heap.size + 1, 3, none⟩ = some (.int .u8 0) := by rw [cell_of_heap hxb]; rfl
  have x4 : w1.cell? ⟨w.heap.size + 1, 4, none⟩ = some (.func (.func 62) #[] #[.pointer (some ⟨w.heap.size, 0, none⟩)]) := by rw [cell_of_heap hxb]; rfl
  have x5 : w1.cell? ⟨w.heap.size + 1, 5, none⟩ = some (.int .u8 0) := by rw [cell_of_heap hxb]; rfl
  have y4 : w1.frozen? ⟨w.heap.size + 1, 4, none⟩ = false := by simp [World.frozen?, hxb]
  have y5 : w1.frozen? ⟨w.heap.size + 1, 5, none⟩ = false := by simp [World.frozen?, hxb]
  have r0 : w1.cell? ⟨rb, 0, none⟩ = some (.string p) := by rw [cell_of_heap hR1.hr]; rfl
  have r1 : w1.cell? ⟨rb, 1, none⟩ = some (.int .i64 at_) := by rw [cell_of_heap hR1.hr]; rfl
  have HB1 := Lib.hid hB1
  clear hW0 hxb hR1 hB1
  cases hps : pairS p[at_ + 1].toNat with
  | none =>
    have ER := Lib.hid (single_err (s := s) (hBM.trans (by rw [hps]; rfl)))
    clear hset hx hps hBM
    rcases hsh with rfl | ⟨f, caps, rfl⟩
    all_goals
      go_wp2
      refine ⟨by kernel_rfl, ?_⟩
      go_wp2
      go_ret
      exact rd_err ER.out ((HB1.out.setCell (p := ⟨w.heap.size + 1, 4, none⟩) (by simp) _).mono hsz0 |> H.out.below.trans)
  | some S =>
    have HB := Lib.hid (hBM.trans (by rw [hps]; rfl : _ = some (S, (bytesOf p).drop (at_ + 2))))
    have HSET := Lib.hid (show IsSet w1 (w.heap.size + 2) w1.heap.size v S from by have := hset S hps; simpa using this)
    obtain ⟨f, caps, rfl, _, _⟩ := hset S hps w1 (fun _ _ _ => rfl)
    clear hset hx hps hBM hsh
    go_wp2
    refine ⟨by kernel_rfl, ?_⟩
    by_cases hn : at_ + 2 < p.size
    · cases hq : isQ p[at_ + 2].toNat with
      | true =>
        have ER := Lib.hid (single_of (s := s) HB.out (by omega) (by omega) (quant_yes hn hq))
        have HQ := Lib.hid (idx_yes p[at_ + 2].toNat (byte_lt p _ hn) hq)
        clear hq
        go_wp2_with (go_at_call 65; refine (HQ.out _).mono ?_; rintro e w' ⟨n, hn0, hn3, rfl, rfl⟩)
        refine wp_region_lex mixed (by kernel_rfl) ?_
        go_wp2_with fail
        refine (add_c (H.out.grow ((HB1.out.setCell (p := ⟨w.heap.size + 1, 4, none⟩) (by simp) (.func (.func f) #[] caps)).setCell (p := ⟨w.heap.size + 1, 5, none⟩) (by simp) (.int .u8 p[at_ + 2].toNat))).drew ⟨7, 0, 0, 0, S, p[at_ + 2].toNat⟩ (.func (.func f) #[] caps) ?_ (.inr ⟨_, _, rfl⟩) _ (at_ + 2 - at_ + 1) (by omega) (by omega) (by omega)).mono ?_
        · refine itemOK_set (w.heap.size + 2) w1.heap.size rfl (by omega) (by simp) (fun b hb hb' hm => by have := HM.out b hm; omega) (HSET.out.mono (Nat.le_refl _) (Nat.le_refl _) fun b hb hb' => ?_)
          exact (Below.heap_setCell _ _ _ _ (show b ≠ w.heap.size + 1 by omega)).trans (Below.heap_setCell _ _ _ _ (show b ≠ w.heap.size + 1 by omega))
        · rintro e w9 ⟨rfl, HR⟩
          have HR := Lib.hid HR
          go_wp2
          refine ⟨by kernel_rfl, ?_⟩
          go_wp2
          go_ret
          exact rd_ok ER.out HR.out
      | false =>
        have ER := Lib.hid (single_of (s := s) HB.out (by omega) (by omega) (quant_no hn hq))
        have HQ := Lib.hid (idx_no p[at_ + 2].toNat (byte_lt p _ hn) hq)
        clear hq
        go_wp2_with (go_at_call 65; refine (HQ.out _).mono ?_; rintro e w' ⟨rfl, rfl⟩)
        refine wp_region_lex mixed (by kernel_rfl) ?_
        go_wp2_with fail
        refine (add_c (H.out.grow (HB1.out.setCell (p := ⟨w.heap.size + 1, 4, none⟩) (by simp) (.func (.func f) #[] caps))).drew ⟨7, 0, 0, 0, S, 0⟩ (.func (.func f) #[] caps) ?_ (.inr ⟨_, _, rfl⟩) _ (at_ + 2 - at_ + 0) (by omega) (by omega) (by omega)).mono ?_
        · refine itemOK_set (w.heap.size + 2) w1.heap.size rfl (by omega) (by simp) (fun b hb hb' hm => by have := HM.out b hm; omega) (HSET.out.mono (Nat.le_refl _) (Nat.le_refl _) fun b hb hb' => ?_)
          exact Below.heap_setCell _ _ _ _ (show b ≠ w.heap.size + 1 by omega)
        · rintro e w9 ⟨rfl, HR⟩
          have HR := Lib.hid HR
          go_wp2
          refine ⟨by kernel_rfl, ?_⟩
          go_wp2
          go_ret
          exact rd_ok ER.out HR.out
    · have ER := Lib.hid (single_of (s := s) HB.out (by omega) (by omega) (quant_end (by omega)))
      go_wp2_with fail
      refine wp_region_lex mixed (by kernel_rfl) ?_
      go_wp2_with fail
      refine (add_c (H.out.grow (HB1.out.setCell (p := ⟨w.heap.size + 1, 4, none⟩) (by simp) (.func (.func f) #[] caps))).drew ⟨7, 0, 0, 0, S, 0⟩ (.func (.func f) #[] caps) ?_ (.inr ⟨_, _, rfl⟩) _ (at_ + 2 - at_ + 0) (by omega) (by omega) (by omega)).mono ?_
      · refine itemOK_set (w.heap.size + 2) w1.heap.size rfl (by omega) (by simp) (fun b hb hb' hm => by have := HM.out b hm; omega) (HSET.out.mono (Nat.le_refl _) (Nat.le_refl _) fun b hb hb' => ?_)
        exact Below.heap_setCell _ _ _ _ (show b ≠ w.heap.size + 1 by omega)
      · rintro e w9 ⟨rfl, HR⟩
        have HR := Lib.hid HR
        go_wp2
        refine ⟨by kernel_rfl, ?_⟩
        go_wp2
        go_ret
        exact rd_ok ER.out HR.out
set_option maxRecDepth 100000 in
set_option maxHeartbeats 2000000 in
theorem single_set {w0 w : World} {rb : Nat} {p : ByteArray} {at_ : Nat} {anc fin : Bool} {s : St} {vo ve vi : Value} {vs : List Value} (h : RSt w0 rb w p at_ anc fin s vo ve vi vs) (hat : at_ < p.size) (hp : p.size ≤ 5000) (hi : s.items.length ≤ at_) (h91 : p[at_].toNat = 91) :
    Calls Tryd.prog 49 #[.pointer (some ⟨rb, 0, none⟩)] w (RdPost w0 rb p at_ anc fin (singleM p[at_].toNat ((bytesOf p).drop (at_ + 1)) s)) := by
  have h0 : w.cell? ⟨rb, 0, none⟩ = some (.string p) := by rw [cell_of_heap h.hr]; rfl
  have h1 : w.cell? ⟨rb, 1, none⟩ = some (.int .i64 at_) := by rw [cell_of_heap h.hr]; rfl
  have hrb := h.rb1
  have hsz0 := h.below.size
  have H := Lib.hid h
  have mutlt : ∀ b, Mut rb vo ve vi b → b < w.heap.size := fun b hm => by
    rcases hm with e | e | e | e
    · omega
    · exact (ownBlock_lt h.oo e).2
    · exact (ownBlock_lt h.oe e).2
    · exact (ownBlock_lt h.oi e).2
  have HM := Lib.hid mutlt
  clear h mutlt
  have hBM : baseM p[at_].toNat ((bytesOf p).drop (at_ + 1)) = setM ((bytesOf p).drop (at_ + 1)) := by simp [baseM, h91]
  have t46 : ((p[at_].toNat : Int) == 46) = false := by rw [h91]; rfl
  have t37 : ((p[at_].toNat : Int) == 37) = false := by rw [h91]; rfl
  have t91 : ((p[at_].toNat : Int) == 91) = true := by rw [h91]; rfl
  clear h91
  go_enter Tryd.func49, Tryd.ntmps49
  go_wp2
  refine wp_region_lex mixed (by kernel_rfl) ?_
  go_wp2
  refine ⟨by kernel_rfl, ?_⟩
  go_wp2
  refine wp_region_lex mixed (by kernel_rfl) ?_
  go_wp2_with fail
  refine (set_i p _ at_ rfl hat hp _).mono ?_
  rintro e w1 ⟨hx, hm⟩
  have hW0 : Below w.heap.size w ((w.alloc (.cells #[.int .u8 p[at_].toNat] 5)).alloc (.cells #[.int .i64 7, .int .i64 0, .int .u8 0, .int .u8 0, .func (.func 62) #[] #[.pointer (some ⟨w.heap.size, 0, none⟩)], .int .u8 0] 106)).drew.drew := (below2 _ _ _).drew
  have hs1 := hx.size
  simp at hs1
  have hB1 : Below w.heap.size w w1 := hW0.trans (hx.mono (by simp <;> omega))
  have hR1 : RSt w0 rb w1 p at_ anc fin s vo ve vi vs := H.out.grow hB1
  have hxb : w1.heap[w.heap.size + 1]? = _ := (hx.block (w.heap.size + 1) (by simp <;> omega)).trans (heap2_b _ _ _)
  have x0 : w1.cell? ⟨w.heap.size + 1, 0, none⟩ = some (.int .i64 7) := by rw [cell_of_heap hxb]; rfl
  have x1 : w1.cell? ⟨w.heap.size + 1, 1, none⟩ = some (.int .i64 0) := by rw [cell_of_heap hxb]; rfl
  have x2 : w1.cell? ⟨w.heap.size + 1, 2, none⟩ = some (.int .u8 0) := by rw [cell_of_heap hxb]; rfl
  have x3 : w1.cell? ⟨w.heap.size + 1, 3, none⟩ = some (.int .u8 0) := by rw [cell_of_heap hxb]; rfl
  have x4 : w1.cell? ⟨w.heap.size + 1, 4, none⟩ = some (.func (.func 62) #[] #[.pointer (some ⟨w.heap.size, 0, none⟩)]) := by rw [cell_of_heap hxb]; rfl
  have x5 : w1.cell? ⟨w.heap.size + 1, 5, none⟩ = some (.int .u8 0) := by rw [cell_of_heap hxb]; rfl
  have y4 : w1.frozen? ⟨w.heap.size + 1, 4, none⟩ = false := by simp [World.frozen?, hxb]
  have y5 : w1.frozen? ⟨w.heap.size + 1, 5, none⟩ = false := by simp [World.frozen?, hxb]
  have r0 : w1.cell? ⟨rb, 0, none⟩ = some (.string p) := by rw [cell_of_heap hR1.hr]; rfl
  have r1 : w1.cell? ⟨rb, 1, none⟩ = some (.int .i64 at_) := by rw [cell_of_heap hR1.hr]; rfl
  have HB1 := Lib.hid hB1
  clear hW0 hxb hR1 hB1
  cases hps : setM ((bytesOf p).drop (at_ + 1)) with
  | none =>
    rw [hps] at hm
    obtain rfl := hm
    have ER := Lib.hid (single_err (s := s) (hBM.trans hps))
    clear hx hps hBM
    go_wp2
    refine ⟨by kernel_rfl, ?_⟩
    go_wp2
    go_ret
    exact rd_err ER.out ((HB1.out.setCell (p := ⟨w.heap.size + 1, 4, none⟩) (by simp) _).mono hsz0 |> H.out.below.trans)
  | some q =>
    rw [hps] at hm
    obtain ⟨v, rfl, hset⟩ := hm
    have hlen := setM_len' hps
    rw [List.length_drop, bytesOf_length] at hlen
    obtain ⟨nx, hnx⟩ : ∃ nx, nx = p.size - q.2.length := ⟨_, rfl⟩
    have hq2 : q.2 = (bytesOf p).drop nx := by rw [hnx]; exact suffix_drop (setM_suffix hps)
    have HB := Lib.hid (show baseM p[at_].toNat ((bytesOf p).drop (at_ + 1)) = some (q.1, (bytesOf p).drop nx) from by rw [← hq2]; exact hBM.trans hps)
    have HSET := Lib.hid (show IsSet w1 (w.heap.size + 2) w1.heap.size v q.1 from by simpa using hset)
    obtain ⟨f, caps, rfl, _, _⟩ := hset w1 (fun _ _ _ => rfl)
    have n1 : nx ≤ p.size := by omega
    have n2 : at_ + 1 < nx := by omega
    rw [← hnx]
    clear hset hx hps hBM hq2 hlen hnx
    go_wp2
    refine ⟨by kernel_rfl, ?_⟩
    by_cases hn : nx < p.size
    · cases hq : isQ p[nx].toNat with
      | true =>
        have ER := Lib.hid (single_of (s := s) HB.out (by omega) (by omega) (quant_yes hn hq))
        have HQ := Lib.hid (idx_yes p[nx].toNat (byte_lt p _ hn) hq)
        clear hq
        go_wp2_with (go_at_call 65; refine (HQ.out _).mono ?_; rintro e w' ⟨n, hn0, hn3, rfl, rfl⟩)
        refine wp_region_lex mixed (by kernel_rfl) ?_
        go_wp2_with fail
        refine (add_c (H.out.grow ((HB1.out.setCell (p := ⟨w.heap.size + 1, 4, none⟩) (by simp) (.func (.func f) #[] caps)).setCell (p := ⟨w.heap.size + 1, 5, none⟩) (by simp) (.int .u8 p[nx].toNat))).drew ⟨7, 0, 0, 0, q.1, p[nx].toNat⟩ (.func (.func f) #[] caps) ?_ (.inr ⟨_, _, rfl⟩) _ (nx - at_ + 1) (by omega) (by omega) (by omega)).mono ?_
        · refine itemOK_set (w.heap.size + 2) w1.heap.size rfl (by omega) (by simp) (fun b hb hb' hm => by have := HM.out b hm; omega) (HSET.out.mono (Nat.le_refl _) (Nat.le_refl _) fun b hb hb' => ?_)
          exact (Below.heap_setCell _ _ _ _ (show b ≠ w.heap.size + 1 by omega)).trans (Below.heap_setCell _ _ _ _ (show b ≠ w.heap.size + 1 by omega))
        · rintro e w9 ⟨rfl, HR⟩
          have HR := Lib.hid HR
          go_wp2
          refine ⟨by kernel_rfl, ?_⟩
          go_wp2
          go_ret
          exact rd_ok ER.out HR.out
      | false =>
        have ER := Lib.hid (single_of (s := s) HB.out (by omega) (by omega) (quant_no hn hq))
        have HQ := Lib.hid (idx_no p[nx].toNat (byte_lt p _ hn) hq)
        clear hq
        go_wp2_with (go_at_call 65; refine (HQ.out _).mono ?_; rintro e w' ⟨rfl, rfl⟩)
        refine wp_region_lex mixed (by kernel_rfl) ?_
        go_wp2_with fail
        refine (add_c (H.out.grow (HB1.out.setCell (p := ⟨w.heap.size + 1, 4, none⟩) (by simp) (.func (.func f) #[] caps))).drew ⟨7, 0, 0, 0, q.1, 0⟩ (.func (.func f) #[] caps) ?_ (.inr ⟨_, _, rfl⟩) _ (nx - at_ + 0) (by omega) (by omega) (by omega)).mono ?_
        · refine itemOK_set (w.heap.size + 2) w1.heap.size rfl (by omega) (by simp) (fun b hb hb' hm => by have := HM.out b hm; omega) (HSET.out.mono (Nat.le_refl _) (Nat.le_refl _) fun b hb hb' => ?_)
          exact Below.heap_setCell _ _ _ _ (show b ≠ w.heap.size + 1 by omega)
        · rintro e w9 ⟨rfl, HR⟩
          have HR := Lib.hid HR
          go_wp2
          refine ⟨by kernel_rfl, ?_⟩
          go_wp2
          go_ret
          exact rd_ok ER.out HR.out
    · have ER := Lib.hid (single_of (s := s) HB.out (by omega) (by omega) (quant_end (by omega)))
      go_wp2_with fail
      refine wp_region_lex mixed (by kernel_rfl) ?_
      go_wp2_with fail
      refine (add_c (H.out.grow (HB1.out.setCell (p := ⟨w.heap.size + 1, 4, none⟩) (by simp) (.func (.func f) #[] caps))).drew ⟨7, 0, 0, 0, q.1, 0⟩ (.func (.func f) #[] caps) ?_ (.inr ⟨_, _, rfl⟩) _ (nx - at_ + 0) (by omega) (by omega) (by omega)).mono ?_
      · refine itemOK_set (w.heap.size + 2) w1.heap.size rfl (by omega) (by simp) (fun b hb hb' hm => by have := HM.out b hm; omega) (HSET.out.mono (Nat.le_refl _) (Nat.le_refl _) fun b hb hb' => ?_)
        exact Below.heap_setCell _ _ _ _ (show b ≠ w.heap.size + 1 by omega)
      · rintro e w9 ⟨rfl, HR⟩
        have HR := Lib.hid HR
        go_wp2
        refine ⟨by kernel_rfl, ?_⟩
        go_wp2
        go_ret
        exact rd_ok ER.out HR.out
theorem single_c {w0 w : World} {rb : Nat} {p : ByteArray} {at_ : Nat} {anc fin : Bool} {s : St} {vo ve vi : Value} {vs : List Value} (h : RSt w0 rb w p at_ anc fin s vo ve vi vs) (hat : at_ < p.size) (hp : p.size ≤ 5000) (hi : s.items.length ≤ at_) (hpc : p[at_].toNat = 37 → at_ + 1 < p.size) :
    Calls Tryd.prog 49 #[.pointer (some ⟨rb, 0, none⟩)] w (RdPost w0 rb p at_ anc fin (singleM p[at_].toNat ((bytesOf p).drop (at_ + 1)) s)) := by
  by_cases h1 : p[at_].toNat = 46
  · exact single_dot h hat hp hi h1
  · by_cases h2 : p[at_].toNat = 37
    · exact single_pct h hat hp hi h2 (hpc h2)
    · by_cases h3 : p[at_].toNat = 91
      · exact single_set h hat hp hi h3
      · exact single_eq h hat hp hi h1 h2 h3
end Go.Proofs.YtpbhncmaamedhaaDoor
