import Derived.Test.YtpbhncmaamedhaaDoorRFill
import Derived.Laws.IdiomStrings
namespace Go.Proofs.YtpbhncmaamedhaaDoor
open Go.RowKit Go.Proofs.Lexi

def oneB (x : Int) : ByteArray := ⟨#[UInt8.ofNat x.toNat]⟩
theorem conv_one (W : World) (x : Int) : (convert 73 9 (.slice (some ⟨W.heap.size, 0, none⟩) 1 1)).run Tryd.prog (W.alloc (.cells #[.int .u8 x] 5)) = .ok (.string (oneB x)) (W.alloc (.cells #[.int .u8 x] 5)) := by
  rw [run_convert_bytes_string _ 73 9 5 (some ⟨W.heap.size, 0, none⟩) 1 1 Tryd.underlying73 Tryd.underlying5 Tryd.underlying9]
  have hl := run_loadCells_list (P := Tryd.prog) (W.alloc (.cells #[.int .u8 x] 5)) ⟨W.heap.size, 0, none⟩ [.int .u8 x] (fun j v hj => by
    match j, hj with
    | 0, hj =>
      simp at hj
      subst hj
      simp [Addr.add])
  rw [run_bytesToString _ ⟨W.heap.size, 0, none⟩ 1 1 [x] hl]
  rfl
theorem data_append (a b : ByteArray) : (a ++ b).data.toList = a.data.toList ++ b.data.toList := by simp
def DecRel (w : World) (n0 : Nat) (gg : Nat) (vn vs : Value) (wr : World) : Prop := ∃ (q : Nat) (o : ByteArray), q = gg ∧ vn = .int .i64 (q : Int) ∧ vs = .string o ∧ q ≤ n0 ∧ Below w.heap.size w wr ∧ Lib.decDigits q ++ o.data.toList = Lib.decDigits n0
theorem oneB_size (x : Int) : (oneB x).size = 1 := rfl
theorem dec_size {q n : Nat} {o : ByteArray} (h : Lib.decDigits q ++ o.data.toList = Lib.decDigits n) (hn : n ≤ 1000000000) : o.size ≤ 1000000001 := by
  have h1 := congrArg List.length h
  have h2 := decDigits_len n n (Nat.le_refl _)
  rw [List.length_append, data_len] at h1
  omega
theorem dec_step (q : Nat) (h : 10 ≤ q) : Lib.decDigits q = Lib.decDigits (q / 10) ++ [UInt8.ofNat (48 + q % 10)] := by
  conv => lhs; rw [Lib.decDigits]
  rw [dif_neg (by omega)]
theorem dec_last (q : Nat) (h : q < 10) : Lib.decDigits q = [UInt8.ofNat (48 + q)] := by
  rw [Lib.decDigits, dif_pos h]
set_option maxRecDepth 100000 in
set_option maxHeartbeats 2000000 in
theorem decimal_c (n : Nat) (hn : n ≤ 1000000000) (a : Int) (ha : a = n) (w : World) : Calls Tryd.prog 59 #[.int .i64 a] w (Str1 w (decM a)) := by
  subst ha
  have hd : decM (n : Int) = natsOf (Lib.decDigits n) := by unfold decM natsOf Lib.itoa; rw [if_neg (by omega)]; rfl
  rw [hd]
  clear hd
  have hcv := conv_one
  have HS0 := Lib.hid (show DecRel w n n (.int .i64 (n : Int)) (.string ⟨#[]⟩) w from ⟨n, ⟨#[]⟩, rfl, rfl, rfl, Nat.le_refl _, Below.refl _ _, by simp⟩)
  go_enter Tryd.func59, Tryd.ntmps59
  go_wp2
  go_loopg [0, 3] n (fun gg vn vs wr => DecRel w n gg vn vs wr)
  case atStart => exact HS0.out
  case round =>
    clear HS0
    obtain ⟨q, o, rfl, rfl, rfl, hq, hb, hdig⟩ := hrel
    have hsz := hb.size
    have HB := Lib.hid hb
    have HDIG := Lib.hid hdig
    have hos := dec_size hdig hn
    clear hb hdig
    by_cases h10 : 10 ≤ q
    · have h1s := oneB_size (48 + (q : Int) % 10)
      have HN := Lib.hid (show DecRel w n (q / 10) (.int .i64 ((q : Int) / 10)) (.string (oneB (48 + (q : Int) % 10) ++ o)) (wr.alloc (.cells #[.int .u8 (48 + (q : Int) % 10)] 5)) from
        ⟨q / 10, _, rfl, rfl, rfl, by omega, HB.out.alloc hsz _, by
          rw [← HDIG.out, dec_step q h10, data_append, List.append_assoc]
          have e : (oneB (48 + (q : Int) % 10)).data.toList = [UInt8.ofNat (48 + q % 10)] := by
            unfold oneB
            rw [show (48 + (q : Int) % 10).toNat = 48 + q % 10 by omega]
          rw [e]⟩)
      go_wp2
      go_roundg (q / 10)
      case measure => omega
      case rel => exact HN.out
    · have HE := Lib.hid (show bytesOf (oneB (48 + (q : Int)) ++ o) = natsOf (Lib.decDigits n) from by
        rw [← HDIG.out, dec_last q (by omega)]
        unfold bytesOf natsOf
        rw [data_append]
        unfold oneB
        rw [show (48 + (q : Int)).toNat = 48 + q by omega])
      have hlt : ¬ (10 : Int) ≤ (q : Int) := by omega
      have h1s := oneB_size (48 + (q : Int))
      go_wp2
      go_ret
      exact ⟨HB.out.alloc hsz _, _, HE.out, rfl⟩
set_option maxRecDepth 100000 in
set_option maxHeartbeats 4000000 in
theorem rcapture_c (s : ByteArray) (hs : s.size ≤ 100000000) (a : Int) (k : Nat) (ha : a = k) (hk9 : k ≤ 9) (m : AM) (u : Value) (w : World) (hu : CapsR w u m.caps) (hl : m.caps.length ≤ 100000000) (hr : rightM s.size m = true) (R : Option (List Nat)) (hR : R = captureM (bytesOf s) (48 + k) m) :
    Calls Tryd.prog 41 #[.string s, .agg #[.int .i64 m.f, .int .i64 m.t, u], .int .i64 a] w (CapPost w R) := by
  subst ha
  obtain ⟨ao, cap, rfl, hcc⟩ := hu
  obtain ⟨⟨hf0, hft, htl⟩, hcaps⟩ := right_elim hr
  obtain ⟨f, hf⟩ : ∃ f : Nat, m.f = f := ⟨m.f.toNat, by omega⟩
  obtain ⟨t, ht⟩ : ∃ t : Nat, m.t = t := ⟨m.t.toNat, by omega⟩
  have hft' : f ≤ t := by omega
  have htl' : t ≤ s.size := by omega
  rw [hf, ht]
  have HCC := Lib.hid hcc
  have HCAPS := Lib.hid hcaps
  obtain ⟨N, hN⟩ : ∃ N, N = m.caps.length := ⟨_, rfl⟩
  rw [← hN] at hl ⊢
  have hsub : subM (bytesOf s) m.f m.t = bytesOf (s.extract f t) := by rw [sub_bytes, hf, ht]
  have hd : isDigit (48 + k) = true := by unfold isDigit; simp; omega
  unfold captureM at hR
  rw [hsub, if_neg (by omega), hd] at hR
  clear hcc hcaps hf ht hsub hr hf0 hft htl hd
  by_cases e0 : k = 0
  · have t0 : ((k : Int) == 0) = true := by rw [e0]; rfl
    have HR := Lib.hid (show R = some (bytesOf (s.extract f t)) from by rw [hR, if_pos (.inl (by omega))])
    clear hR e0 hN
    go_enter Tryd.func41, Tryd.ntmps41
    go_wp2
    go_ret2
    exact capt_yes HR.out rfl ((Below.refl _ _).alloc (Nat.le_refl _) _)
  · have t0 : ((k : Int) == 0) = false := by rw [beq_eq_false_iff_ne]; omega
    by_cases e1 : k = 1 ∧ m.caps = []
    · have t1 : ((k : Int) == 1) = true := by rw [e1.1]; rfl
      have HR := Lib.hid (show R = some (bytesOf (s.extract f t)) from by rw [hR, if_pos (.inr ⟨by omega, e1.2⟩)])
      have hN0 : N = 0 := by rw [hN, e1.2]; rfl
      clear hR e0 hN e1
      subst hN0
      go_enter Tryd.func41, Tryd.ntmps41
      go_wp2
      go_ret2
      exact capt_yes HR.out rfl ((Below.refl _ _).alloc (Nat.le_refl _) _)
    · rw [if_neg (by rintro (h | ⟨h, h'⟩); · omega
                     · exact e1 ⟨by omega, h'⟩)] at hR
      have tN : k = 1 → ((N : Int) == 0) = false := fun h => by
        rw [beq_eq_false_iff_ne]
        intro h0
        exact e1 ⟨h, List.eq_nil_of_length_eq_zero (by omega)⟩
      have hk1 : 1 ≤ k := by omega
      rw [show 48 + k - 49 = k - 1 by omega] at hR
      by_cases hin : k ≤ N
      · obtain ⟨g, o, rfl, hg, hcell⟩ := HCC.out (by omega)
        obtain ⟨⟨hx0, hxl⟩, hy⟩ := HCAPS.out (k - 1) (by omega)
        obtain ⟨x, hx⟩ : ∃ x : Nat, (m.caps.getD (k - 1) (0, 0)).1 = x := ⟨(m.caps.getD (k - 1) (0, 0)).1.toNat, by omega⟩
        have hc2 := hcell (k - 1) (by omega)
        rw [hx] at hc2 hy hxl
        have hN0 : ((N : Int) == 0) = false := by rw [beq_eq_false_iff_ne]; omega
        have tgt : ¬ ((N : Int) < (k : Int)) := by omega
        obtain ⟨j, hj⟩ : ∃ j, k = j + 1 := ⟨k - 1, by omega⟩
        subst hj
        rw [show j + 1 - 1 = j by omega] at hc2 hR hy hx
        have c0 : w.cell? ⟨g, o + j * 2, none⟩ = some (.int .i64 (x : Int)) := hc2.1
        have hjN : j < N := by omega
        rw [if_neg (by rintro (h | h); · cases h
                       · omega), hx] at hR
        have hbn : Below w.heap.size w ((w.alloc (.cells #[.int .i64 (f : Int), .int .i64 (t : Int), .slice (some ⟨g, o, none⟩) N cap] 29)).alloc (.cells #[.int .i64 (x : Int), .int .i64 (m.caps.getD j (0, 0)).2] 43)) := ((Below.refl _ _).alloc (Nat.le_refl _) _).alloc (by simp) _
        obtain ⟨b1, t1⟩ : ∃ b, (((j : Int) + 1) == 1) = b := ⟨_, rfl⟩
        by_cases hneg : (m.caps.getD j (0, 0)).2 < 0
        · have hy1 : (m.caps.getD j (0, 0)).2 = -1 := by omega
          rw [if_pos hneg] at hR
          have c1 : w.cell? ⟨g, o + j * 2 + 1, none⟩ = some (.int .i64 (-1)) := by rw [← hy1]; exact hc2.2
          rw [hy1] at hbn
          have HR := Lib.hid hR
          have HBN := Lib.hid hbn
          have hxs : x ≤ s.size := by omega
          clear hR e0 hN e1 tN hneg hy1 hc2 hcell hx hy hxl hx0 hbn hin tgt
          cases b1
          all_goals
            go_enter Tryd.func41, Tryd.ntmps41
            go_wp2_with fail
            refine (decimal_c (x + 1) (by omega) _ (by omega) _).mono ?_
            rintro e w2 ⟨hb2, r, hr, rfl⟩
            have HB2 := Lib.hid (HBN.out.trans (hb2.mono (by simp; omega)))
            have HRR := Lib.hid hr
            clear hb2 hr
            go_wp2
            go_ret2
            exact capt_yes HR.out HRR.out HB2.out
        · obtain ⟨y, hy1⟩ : ∃ y : Nat, (m.caps.getD j (0, 0)).2 = y := ⟨(m.caps.getD j (0, 0)).2.toNat, by omega⟩
          rw [if_neg hneg, hy1, ← sub_bytes] at hR
          have c1 : w.cell? ⟨g, o + j * 2 + 1, none⟩ = some (.int .i64 (y : Int)) := by rw [← hy1]; exact hc2.2
          have ty : ((y : Int) == -1) = false := by rw [beq_eq_false_iff_ne]; omega
          rw [hy1] at hbn
          have HR := Lib.hid hR
          have HBN := Lib.hid hbn
          have hxy : x ≤ y := by omega
          have hys : y ≤ s.size := by omega
          clear hR e0 hN e1 tN hneg hy1 hc2 hcell hx hy hxl hx0 hbn hin tgt
          cases b1
          all_goals
            go_enter Tryd.func41, Tryd.ntmps41
            go_wp2
            go_ret2
            exact capt_yes HR.out rfl HBN.out
      · have HR := Lib.hid (show R = none from by rw [hR, if_pos (.inr (by omega))])
        have tgt : (N : Int) < (k : Int) := by omega
        by_cases hk0 : k = 1
        · have := tN hk0
          rw [beq_eq_false_iff_ne] at this
          omega
        · have t1 : ((k : Int) == 1) = false := by rw [beq_eq_false_iff_ne]; omega
          clear hR e0 hN e1 tN hk0
          go_enter Tryd.func41, Tryd.ntmps41
          go_wp2
          go_ret2
          exact capt_no HR.out ((Below.refl _ _).alloc (Nat.le_refl _) _)
end Go.Proofs.YtpbhncmaamedhaaDoor
