import Derived.Test.YtpbhncmaamedhaaDoorFl
namespace Go.Proofs.YtpbhncmaamedhaaDoor
open Go.RowKit Go.Proofs.Lexi

def CapPost (w : World) (R : Option (List Nat)) (e : Ending) (w' : World) : Prop := Below w.heap.size w w' ∧
  match R with
  | none => e = .returned (.tuple #[.string ⟨#[]⟩, .bool false])
  | some t => ∃ r, bytesOf r = t ∧ e = .returned (.tuple #[.string r, .bool true])
theorem capt_no {w w' : World} {R : Option (List Nat)} (hR : R = none) (hb : Below w.heap.size w w') : CapPost w R (.returned (.tuple #[.string ⟨#[]⟩, .bool false])) w' := by subst hR; exact ⟨hb, rfl⟩
theorem capt_yes {w w' : World} {R : Option (List Nat)} {t : List Nat} {r : ByteArray} (hR : R = some t) (hr : bytesOf r = t) (hb : Below w.heap.size w w') : CapPost w R (.returned (.tuple #[.string r, .bool true])) w' := by subst hR; exact ⟨hb, r, hr, rfl⟩
theorem sub_bytes (s : ByteArray) (f t : Nat) : bytesOf (s.extract f t) = subM (bytesOf s) f t := by
  rw [bytesOf_extract]; unfold subM
  rw [Int.toNat_natCast, show ((t : Int) - (f : Int)).toNat = t - f by omega]
theorem within_elim {len a b : Int} (h : withinM len a b = true) : 0 ≤ a ∧ a ≤ b ∧ b ≤ len := by
  unfold withinM at h; simp at h; omega
theorem right_elim {len : Int} {m : AM} (h : rightM len m = true) : (0 ≤ m.f ∧ m.f ≤ m.t ∧ m.t ≤ len) ∧ ∀ k, k < m.caps.length → (0 ≤ (m.caps.getD k (0, 0)).1 ∧ (m.caps.getD k (0, 0)).1 ≤ len) ∧ ((m.caps.getD k (0, 0)).2 = -1 ∨ ((m.caps.getD k (0, 0)).1 ≤ (m.caps.getD k (0, 0)).2 ∧ (m.caps.getD k (0, 0)).2 ≤ len)) := by
  unfold rightM at h
  rw [Bool.and_eq_true] at h
  refine ⟨within_elim h.2, fun k hk => ?_⟩
  have := List.all_eq_true.1 h.1 (m.caps.getD k (0, 0)) (by simp [List.getD_eq_getElem?_getD, hk])
  unfold capOkM at this
  rw [Bool.or_eq_true, Bool.and_eq_true] at this
  rcases this with h | ⟨h1, h2⟩
  · have := within_elim h; omega
  · have := within_elim h2; have := beq_iff_eq.1 h1; omega
theorem itoa_c (n : Int) (h0 : 0 ≤ n) (h1 : n ≤ 1000000000) (w : World) (ht : Tab w) : Calls Tryd.prog 57 #[.int .i64 n] w fun e w' => e = .returned (.string ⟨(Lib.itoa n).toArray⟩) ∧ Below w.heap.size w w' := by
  refine (Tryd.strconv_Itoa n (by omega) (by omega) w ht).mono ?_
  rintro e w' ⟨rfl, k, os, rfl⟩
  exact ⟨rfl, Lib.below_grow _ _ (Nat.le_refl _) k os⟩
set_option maxRecDepth 100000 in
set_option maxHeartbeats 4000000 in
theorem capture_c (s : ByteArray) (hs : s.size ≤ 100000000) (a : Int) (c : Nat) (ha : a = c) (hc : c < 256) (m : AM) (u : Value) (w : World) (hu : CapsR w u m.caps) (hl : m.caps.length ≤ 100000000) (hr : rightM s.size m = true) (htab : Tab w) (R : Option (List Nat)) (hR : R = captureM (bytesOf s) c m) :
    Calls Tryd.prog 35 #[.string s, .int .u8 a, .agg #[.int .i64 m.f, .int .i64 m.t, u]] w (CapPost w R) := by
  obtain ⟨ao, cap, rfl, hcc⟩ := hu
  obtain ⟨⟨hf0, hft, htl⟩, hcaps⟩ := right_elim hr
  obtain ⟨f, hf⟩ : ∃ f : Nat, m.f = f := ⟨m.f.toNat, by omega⟩
  obtain ⟨t, ht⟩ : ∃ t : Nat, m.t = t := ⟨m.t.toNat, by omega⟩
  have hft' : f ≤ t := by omega
  have htl' : t ≤ s.size := by omega
  rw [hf, ht]
  have hbox : Below w.heap.size w (w.alloc (.cells #[.int .i64 (f : Int), .int .i64 (t : Int), .slice ao m.caps.length cap] 29)) := (Below.refl _ _).alloc (Nat.le_refl _) _
  have hbox' := hbox
  have HBOX := Lib.hid hbox
  have HCC := Lib.hid hcc
  have HCAPS := Lib.hid hcaps
  have HTAB := Lib.hid htab
  obtain ⟨N, hN⟩ : ∃ N, N = m.caps.length := ⟨_, rfl⟩
  rw [← hN] at hl ⊢
  have hsub : subM (bytesOf s) m.f m.t = bytesOf (s.extract f t) := by rw [sub_bytes, hf, ht]
  unfold captureM at hR
  rw [hsub] at hR
  clear hcc hcaps htab hbox hbox' hf ht hsub hr hf0 hft htl
  by_cases e37 : c = 37
  · subst ha
    have t37 : ((c : Int) == 37) = true := by rw [e37]; rfl
    have HR := Lib.hid (show R = some [37] from by rw [hR, if_pos e37])
    clear hR e37 hN
    go_enter Tryd.func35, Tryd.ntmps35
    go_wp2
    go_ret2
    exact capt_yes HR.out rfl ((Below.refl _ _).alloc (Nat.le_refl _) _)
  · rw [if_neg e37] at hR
    by_cases e48 : c = 48
    · subst ha
      have t37 : ((c : Int) == 37) = false := by rw [beq_eq_false_iff_ne]; omega
      have t48 : ((c : Int) == 48) = true := by rw [e48]; rfl
      have HR := Lib.hid (show R = some (bytesOf (s.extract f t)) from by rw [hR, if_pos (.inl e48)])
      clear hR e37 e48 hN
      go_enter Tryd.func35, Tryd.ntmps35
      go_wp2
      go_ret2
      exact capt_yes HR.out rfl ((Below.refl _ _).alloc (Nat.le_refl _) _)
    · by_cases e49 : c = 49 ∧ m.caps = []
      · subst ha
        have t37 : ((c : Int) == 37) = false := by rw [beq_eq_false_iff_ne]; omega
        have t48 : ((c : Int) == 48) = false := by rw [beq_eq_false_iff_ne]; omega
        have t49 : ((c : Int) == 49) = true := by rw [e49.1]; rfl
        have HR := Lib.hid (show R = some (bytesOf (s.extract f t)) from by rw [hR, if_pos (.inr e49)])
        have hN0 : N = 0 := by rw [hN, e49.2]; rfl
        clear hR e37 e48 hN e49
        subst hN0
        go_enter Tryd.func35, Tryd.ntmps35
        go_wp2
        go_ret2
        exact capt_yes HR.out rfl ((Below.refl _ _).alloc (Nat.le_refl _) _)
      · rw [if_neg (fun h => h.elim e48 e49)] at hR
        have tN : c = 49 → ((N : Int) == 0) = false := fun h => by
          rw [beq_eq_false_iff_ne]
          intro h0
          exact e49 ⟨h, List.eq_nil_of_length_eq_zero (by omega)⟩
        cases hdg : isDigit c with
        | false =>
          subst ha
          have t37 : ((c : Int) == 37) = false := by rw [beq_eq_false_iff_ne]; omega
          have t48 : ((c : Int) == 48) = false := by rw [beq_eq_false_iff_ne]; omega
          have t49 : ((c : Int) == 49) = false := by
            rw [beq_eq_false_iff_ne]; intro h
            have : c = 49 := by omega
            subst this; cases hdg
          have HR := Lib.hid (show R = none from by rw [hR, if_pos (.inl hdg)])
          have HDG := Lib.hid hdg
          clear hR e37 e48 hN e49 hdg tN
          go_enter Tryd.func35, Tryd.ntmps35
          go_wp2_with (go_at_call 43; refine (digit_c _ _).mono ?_; rintro e w' ⟨rfl, rfl⟩; rw [HDG.out])
          go_ret2
          exact capt_no HR.out ((Below.refl _ _).alloc (Nat.le_refl _) _)
        | true =>
          have l1 : 48 ≤ c := by revert hdg; simp [isDigit]; omega
          have l2 : c ≤ 57 := by revert hdg; simp [isDigit]
          obtain ⟨k, hk⟩ : ∃ k : Nat, c = k + 49 := ⟨c - 49, by omega⟩
          have hkk : c - 49 = k := by omega
          rw [hkk, hdg] at hR
          have HDG := Lib.hid (show isDigit (k + 49) = true by rw [← hk]; exact hdg)
          have ha' : a = (k : Int) + 49 := by omega
          subst ha'
          have hk8 : k ≤ 8 := by omega
          have t37 : (((k : Int) + 49) == 37) = false := by rw [beq_eq_false_iff_ne]; omega
          have t48 : (((k : Int) + 49) == 48) = false := by rw [beq_eq_false_iff_ne]; omega
          by_cases hin : k < N
          · obtain ⟨g, o, rfl, hg, hcell⟩ := HCC.out (by omega)
            obtain ⟨⟨hx0, hxl⟩, hy⟩ := HCAPS.out k (by omega)
            obtain ⟨x, hx⟩ : ∃ x : Nat, (m.caps.getD k (0, 0)).1 = x := ⟨(m.caps.getD k (0, 0)).1.toNat, by omega⟩
            have hc2 := hcell k (by omega)
            rw [hx] at hc2 hy hxl
            have hN0 : ((N : Int) == 0) = false := by rw [beq_eq_false_iff_ne]; omega
            have tge : decide ((N : Int) ≤ (k : Int)) = false := by rw [decide_eq_false_iff_not]; omega
            have tge' : decide (N ≤ k) = false := by rw [decide_eq_false_iff_not]; omega
            have c0 : w.cell? ⟨g, o + k * 2, none⟩ = some (.int .i64 (x : Int)) := hc2.1
            rw [if_neg (by rintro (h | h); · cases h
                           · omega), hx] at hR
            have hbn : Below w.heap.size w ((w.alloc (.cells #[.int .i64 (f : Int), .int .i64 (t : Int), .slice (some ⟨g, o, none⟩) N cap] 29)).alloc (.cells #[.int .i64 (x : Int), .int .i64 (m.caps.getD k (0, 0)).2] 43)) := ((Below.refl _ _).alloc (Nat.le_refl _) _).alloc (by simp) _
            by_cases hneg : (m.caps.getD k (0, 0)).2 < 0
            · have hy1 : (m.caps.getD k (0, 0)).2 = -1 := by omega
              rw [if_pos hneg] at hR
              have c1 : w.cell? ⟨g, o + k * 2 + 1, none⟩ = some (.int .i64 (-1)) := by rw [← hy1]; exact hc2.2
              rw [hy1] at hbn
              have HR := Lib.hid hR
              have HBN := Lib.hid hbn
              have HT2 := Lib.hid (HTAB.out.mono hbn (Nat.le_refl _))
              have hxs : x ≤ s.size := by omega
              clear hR e37 e48 hN e49 hdg tN ha hk hkk hc l1 l2 hneg hy1 hc2 hcell hx hy hxl hx0 hbn
              obtain ⟨b49, t49⟩ : ∃ b, (((k : Int) + 49) == 49) = b := ⟨_, rfl⟩
              cases b49
              all_goals
                go_enter Tryd.func35, Tryd.ntmps35
                go_wp2_with (go_at_call 43; refine (digit_i _ (k + 49) (by omega) _).mono ?_; rintro e w' ⟨rfl, rfl⟩; rw [HDG.out])
                refine (itoa_c ((x : Int) + 1) (by omega) (by omega) _ HT2.out).mono ?_
                rintro e w2 ⟨rfl, hb2⟩
                have HB2 := Lib.hid (HBN.out.trans (hb2.mono (by simp; omega)))
                clear hb2
                go_wp2
                go_ret2
                exact capt_yes HR.out rfl HB2.out
            · obtain ⟨y, hy1⟩ : ∃ y : Nat, (m.caps.getD k (0, 0)).2 = y := ⟨(m.caps.getD k (0, 0)).2.toNat, by omega⟩
              rw [if_neg hneg, hy1, ← sub_bytes] at hR
              have c1 : w.cell? ⟨g, o + k * 2 + 1, none⟩ = some (.int .i64 (y : Int)) := by rw [← hy1]; exact hc2.2
              rw [hy1] at hbn
              have HR := Lib.hid hR
              have HBN := Lib.hid hbn
              have hxy : x ≤ y := by omega
              have hys : y ≤ s.size := by omega
              clear hR e37 e48 hN e49 hdg tN ha hk hkk hc l1 l2 hneg hy1 hc2 hcell hx hy hxl hx0 hbn
              obtain ⟨b49, t49⟩ : ∃ b, (((k : Int) + 49) == 49) = b := ⟨_, rfl⟩
              cases b49
              all_goals
                go_enter Tryd.func35, Tryd.ntmps35
                go_wp2_with (go_at_call 43; refine (digit_i _ (k + 49) (by omega) _).mono ?_; rintro e w' ⟨rfl, rfl⟩; rw [HDG.out])
                go_ret2
                exact capt_yes HR.out rfl HBN.out
          · have HR := Lib.hid (show R = none from by rw [hR, if_pos (.inr (by omega))])
            have tge : decide ((N : Int) ≤ (k : Int)) = true := by rw [decide_eq_true_eq]; omega
            have tge' : decide (N ≤ k) = true := by rw [decide_eq_true_eq]; omega
            by_cases hk0 : k = 0
            · have := tN (by omega)
              rw [beq_eq_false_iff_ne] at this
              omega
            · have t49 : (((k : Int) + 49) == 49) = false := by rw [beq_eq_false_iff_ne]; omega
              clear hR e37 e48 hN e49 hdg tN ha hk hkk hc l1 l2 hk0
              go_enter Tryd.func35, Tryd.ntmps35
              go_wp2_with (go_at_call 43; refine (digit_i _ (k + 49) (by omega) _).mono ?_; rintro e w' ⟨rfl, rfl⟩; rw [HDG.out])
              go_ret2
              exact capt_no HR.out ((Below.refl _ _).alloc (Nat.le_refl _) _)
end Go.Proofs.YtpbhncmaamedhaaDoor
