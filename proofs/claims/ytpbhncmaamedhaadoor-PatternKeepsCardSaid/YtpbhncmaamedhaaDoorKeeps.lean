import Derived.Test.YtpbhncmaamedhaaDoorAwB
namespace Go.Proofs.YtpbhncmaamedhaaDoor
open Go.RowKit Go.Proofs.Lexi

/-! PatternKeeps: the plain law and the walk. -/
theorem sub_all (l : List Nat) (a b : Int) (h0 : 0 ≤ a) (h1 : a ≤ b) (h2 : b ≤ l.length) : subM l a b ++ l.drop b.toNat = l.drop a.toNat := by
  unfold subM
  have : l.drop b.toNat = (l.drop a.toNat).drop (b - a).toNat := by rw [List.drop_drop]; congr 1; omega
  rw [this, List.take_append_drop]
theorem fill_zero {l : List Nat} {m : AM} (hg : GoodAM l.length m) (hl : l.length ≤ 4096) : fillM l [37, 48] m = .ok (subM l m.f m.t) := by
  unfold fillM
  rw [if_pos hg.right]
  have hs : (subM l m.f m.t).length ≤ 4096 := by unfold subM; simp; omega
  have e1 : captureM l 48 m = some (subM l m.f m.t) := rfl
  show fillGo l m [37, 48] [] = _
  rw [fillGo_cons]
  simp only [if_true, e1]
  have e2 : putM [] (subM l m.f m.t) = subM l m.f m.t := rfl
  rw [e2]
  unfold fillGo
  rw [if_neg (by omega)]
theorem repl_keep {l : List Nat} (hl : l.length ≤ 4096) : ∀ (ms : List AM) (a : Int) (out : List Nat), 0 ≤ a → a ≤ l.length → OrdM l.length a ms → (∀ m ∈ ms, GoodAM l.length m) → out.length + (l.drop a.toNat).length ≤ 4096 → replGo l [37, 48] ms a out = .ok (out ++ l.drop a.toNat)
  | [], a, out, h0, h1, _, _, hb => by
    unfold replGo
    rw [if_neg (by rw [List.length_append]; omega)]
  | m :: ms, a, out, h0, h1, ho, hg, hb => by
    obtain ⟨o1, o2, o3, o4⟩ := ho
    have hgm := hg m (by simp)
    rw [replGo_cons, fill_zero hgm hl]
    simp only [afterF]
    have hs1 := sub_all l a m.f h0 o1 (by omega)
    have hs2 := sub_all l m.f m.t (by omega) o2 o3
    have hlen : (out ++ subM l a m.f ++ subM l m.f m.t).length + (l.drop m.t.toNat).length = out.length + (l.drop a.toNat).length := by
      rw [← hs1, ← hs2]; simp only [List.length_append]; omega
    rw [repl_keep hl ms m.t _ (by omega) o3 o4 (fun x hx => hg x (by simp [hx])) (by rw [hlen]; exact hb)]
    rw [← hs1, ← hs2]
    simp only [List.append_assoc]
theorem keeps_zero {l p r : List Nat} {ms : List AM} (hl : l.length ≤ 4096) (h : allM l p = .ok ms) : replM l p r 0 = .ok (l, 0) := by
  unfold replM
  rw [h]
  have hc : cutM 0 ms = [] := List.eq_nil_of_length_eq_zero (cut_zero ms)
  simp only [hc]
  unfold replGo
  simp only [Int.toNat_zero, List.drop_zero, List.nil_append]
  rw [if_neg (by omega)]
  rfl
theorem keeps_self {l p : List Nat} {ms : List AM} (hl : l.length ≤ 4096) (h : allM l p = .ok ms) : replM l p [37, 48] (-1) = .ok (l, ms.length) := by
  unfold replM
  rw [h]
  have hc : cutM (-1) ms = ms := by unfold cutM; rw [if_neg (by omega)]
  simp only [hc]
  rw [repl_keep hl ms 0 [] (by omega) (by omega) (allM_ord h).1 (allM_good h) (by simp; omega)]
  rfl
theorem keeps_err {l p r : List Nat} {most : Int} {c : Nat} (h : allM l p = .error c) : replM l p r most = .error c := by
  unfold replM; rw [h]
theorem rep_err_of {w w' : World} {R : Except Nat (List Nat × Nat)} {c : Nat} {e : Ending} (h : ReplPost w R e w') (hR : R = .error c) : Below w.heap.size w w' ∧ e = .returned (.tuple #[.string ⟨#[]⟩, .int .i64 0, .int .i64 (c : Int)]) := by subst hR; exact h
theorem rep_ok_of {w w' : World} {R : Except Nat (List Nat × Nat)} {s : ByteArray} {n : Nat} {e : Ending} (h : ReplPost w R e w') (hR : R = .ok (bytesOf s, n)) : Below w.heap.size w w' ∧ e = .returned (.tuple #[.string s, .int .i64 (n : Int), .int .i64 0]) := by
  subst hR
  obtain ⟨hb, r, hr, he⟩ := h
  have := bytesOf_inj hr
  subst this
  exact ⟨hb, he⟩
def pct0 : ByteArray := ⟨#[37, 48]⟩
set_option maxRecDepth 100000 in
set_option maxHeartbeats 4000000 in
theorem keeps_law (s p repl : ByteArray) (w : World) (ht : Tab w) : Calls Tryd.prog 10 #[.string s, .string p, .string repl] w (ExT w) := by
  have HT := Lib.hid ht
  clear ht
  by_cases h1 : s.size ≤ 4096
  · by_cases h2 : p.size ≤ 200
    · obtain ⟨RA, hRA⟩ : ∃ RA, RA = allM (bytesOf s) (bytesOf p) := ⟨_, rfl⟩
      have HA := Lib.hid (All_c s p w (by omega) (by omega) RA hRA)
      cases hra : RA with
      | error c =>
        have hc : ((c : Int) != 0) = true := by rw [hra] at hRA; have := allM_err hRA.symm; rw [bne_iff_ne]; omega
        have E1 := Lib.hid (fun r most => keeps_err (r := r) (most := most) (hRA.symm.trans hra))
        have HRA := Lib.hid hra
        clear hRA hra
        go_enter Tryd.func10, Tryd.ntmps10
        go_wp2_with fail
        refine HA.out.mono ?_
        intro e w1 hpo
        obtain ⟨hb1, rfl⟩ := all_err_of hpo HRA.out
        have HB1 := Lib.hid hb1
        clear hpo hb1
        go_wp2_with fail
        refine (Replace_c s p repl 0 _ (by omega) (by omega) (.inr rfl) (HT.out.mono HB1.out (Nat.le_refl _)) _ rfl).mono ?_
        intro e w2 hpo
        obtain ⟨hb2, rfl⟩ := rep_err_of hpo (E1.out _ _)
        have HB2 := Lib.hid (HB1.out.trans (hb2.mono HB1.out.size))
        clear hpo hb2
        go_wp2_with fail
        refine (Replace_c s p pct0 (-1) _ (by omega) (by omega) (.inl (by decide)) (HT.out.mono HB2.out (Nat.le_refl _)) _ rfl).mono ?_
        intro e w3 hpo
        obtain ⟨hb3, rfl⟩ := rep_err_of hpo (E1.out _ _)
        have HB3 := Lib.hid (HB2.out.trans (hb3.mono HB2.out.size))
        clear hpo hb3
        go_wp2_with fail
        refine (awake_c _ (HT.out.mono HB3.out (Nat.le_refl _))).mono ?_
        rintro e w4 ⟨rfl, hb4⟩
        have HB4 := Lib.hid (HB3.out.trans (hb4.mono HB3.out.size))
        clear hb4
        go_wp2
        go_ret
        exact ⟨rfl, HB4.out⟩
      | ok ms =>
        have hal : allM (bytesOf s) (bytesOf p) = .ok ms := hRA.symm.trans hra
        have E1 := Lib.hid (fun r => keeps_zero (r := r) (by rw [bytesOf_length]; exact h1) hal)
        have E2 := Lib.hid (keeps_self (by rw [bytesOf_length]; exact h1) hal)
        have HRA := Lib.hid hra
        clear hRA hra hal
        go_enter Tryd.func10, Tryd.ntmps10
        go_wp2_with fail
        refine HA.out.mono ?_
        intro e w1 hpo
        obtain ⟨hb1, ao, cap, us, rfl, hmv⟩ := all_ok_of hpo HRA.out
        have HB1 := Lib.hid hb1
        clear hpo hb1 hmv
        go_wp2_with fail
        refine (Replace_c s p repl 0 _ (by omega) (by omega) (.inr rfl) (HT.out.mono HB1.out (Nat.le_refl _)) _ rfl).mono ?_
        intro e w2 hpo
        obtain ⟨hb2, rfl⟩ := rep_ok_of hpo (E1.out _)
        have HB2 := Lib.hid (HB1.out.trans (hb2.mono HB1.out.size))
        clear hpo hb2
        go_wp2_with fail
        refine (Replace_c s p pct0 (-1) _ (by omega) (by omega) (.inl (by decide)) (HT.out.mono HB2.out (Nat.le_refl _)) _ rfl).mono ?_
        intro e w3 hpo
        obtain ⟨hb3, rfl⟩ := rep_ok_of hpo E2.out
        have HB3 := Lib.hid (HB2.out.trans (hb3.mono HB2.out.size))
        clear hpo hb3
        go_wp2_with fail
        refine (awake_c _ (HT.out.mono HB3.out (Nat.le_refl _))).mono ?_
        rintro e w4 ⟨rfl, hb4⟩
        have HB4 := Lib.hid (HB3.out.trans (hb4.mono HB3.out.size))
        clear hb4
        go_wp2
        go_ret
        exact ⟨rfl, HB4.out⟩
    · have h2' : 200 < p.size := by omega
      go_enter Tryd.func10, Tryd.ntmps10
      go_wp2_with fail
      refine (awake_c _ HT.out).mono ?_
      rintro e w4 ⟨rfl, hb4⟩
      have HB4 := Lib.hid hb4
      clear hb4
      go_wp2
      go_ret
      exact ⟨rfl, HB4.out⟩
  · have h1' : 4096 < s.size := by omega
    go_enter Tryd.func10, Tryd.ntmps10
    go_wp2_with fail
    refine (awake_c _ HT.out).mono ?_
    rintro e w4 ⟨rfl, hb4⟩
    have HB4 := Lib.hid hb4
    clear hb4
    go_wp2
    go_ret
    exact ⟨rfl, HB4.out⟩
end Go.Proofs.YtpbhncmaamedhaaDoor
