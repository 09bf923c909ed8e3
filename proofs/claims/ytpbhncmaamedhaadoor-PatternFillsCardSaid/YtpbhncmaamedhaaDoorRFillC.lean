import Derived.Test.YtpbhncmaamedhaaDoorRFillB
namespace Go.Proofs.YtpbhncmaamedhaaDoor
open Go.RowKit Go.Proofs.Lexi

/-- The reference's text and its mark against the program's text. -/
def LongRel (o : ByteArray) (lg : Bool) (pout : List Nat) : Prop := (lg = false ∧ pout = bytesOf o ∧ o.size ≤ 4096) ∨ (lg = true ∧ 4096 < pout.length)
theorem long_stays {o : ByteArray} {pout T : List Nat} (h : LongRel o true pout) : LongRel o true (putM pout T) := by
  rcases h with ⟨h, _⟩ | ⟨_, h⟩
  · cases h
  · refine .inr ⟨rfl, ?_⟩
    unfold putM
    rw [if_neg (by omega)]; exact h
theorem long_now {o : ByteArray} {pout T : List Nat} (h : LongRel o false pout) (hl : ¬ o.size + T.length ≤ 4096) : LongRel o true (putM pout T) := by
  rcases h with ⟨_, h, hs⟩ | ⟨h, _⟩
  · refine .inr ⟨rfl, ?_⟩
    unfold putM
    rw [h, bytesOf_length, if_pos hs, List.length_append, bytesOf_length]
    omega
  · cases h
theorem long_not {o r : ByteArray} {pout T : List Nat} (h : LongRel o false pout) (hr : bytesOf r = T) (hl : o.size + T.length ≤ 4096) : LongRel (o ++ r) false (putM pout T) := by
  rcases h with ⟨_, h, hs⟩ | ⟨h, _⟩
  · refine .inl ⟨rfl, ?_, ?_⟩
    · unfold putM
      rw [h, bytesOf_length, if_pos hs, bytesOf_append, hr]
    · rw [← bytesOf_length, bytesOf_append, List.length_append, bytesOf_length, hr]; exact hl
  · cases h
def RFRel (w1 : World) (repl : ByteArray) (l : List Nat) (m : AM) (R : Except Nat (List Nat)) (gg : Nat) (vo vl vi : Value) (wr : World) : Prop := ∃ (i : Nat) (o : ByteArray) (lg : Bool) (pout : List Nat), gg = repl.size - i ∧ vo = .string o ∧ vl = .bool lg ∧ vi = .int .i64 (i : Int) ∧ i ≤ repl.size ∧ Below w1.heap.size w1 wr ∧ o.size ≤ 4096 ∧ LongRel o lg pout ∧ fillGo l m ((bytesOf repl).drop i) pout = R
theorem capture_pct (l : List Nat) (m : AM) : captureM l 37 m = some [37] := rfl
theorem capture_no (l : List Nat) (m : AM) (d : Nat) (h1 : d ≠ 37) (h2 : isDigit d = false) : captureM l d m = none := by
  unfold captureM
  rw [if_neg h1, if_neg (by rintro (h | ⟨h, _⟩) <;> (subst h; cases h2)), if_pos (.inl h2)]
set_option maxRecDepth 100000 in
set_option maxHeartbeats 8000000 in
theorem rFill_c (s repl : ByteArray) (hs : s.size ≤ 100000000) (hrs : repl.size ≤ 100000000) (m : AM) (u : Value) (w : World) (hu : CapsR w u m.caps) (hl : m.caps.length ≤ 100000000) (R : Except Nat (List Nat)) (hR : R = fillM (bytesOf s) (bytesOf repl) m) :
    Calls Tryd.prog 21 #[.string s, .string repl, .agg #[.int .i64 m.f, .int .i64 m.t, u]] w (StrPost w R) := by
  obtain ⟨ao, cap, rfl, hcc⟩ := hu
  have hu : CapsR w (.slice ao m.caps.length cap) m.caps := ⟨ao, cap, rfl, hcc⟩
  have hbox : Below w.heap.size w (w.alloc (.cells #[.int .i64 m.f, .int .i64 m.t, .slice ao m.caps.length cap] 29)) := (Below.refl _ _).alloc (Nat.le_refl _) _
  have HU := Lib.hid hu
  have HBOX := Lib.hid hbox
  have HR := Lib.hid hR
  obtain ⟨f, hf⟩ : ∃ f, f = m.f := ⟨_, rfl⟩
  obtain ⟨t, ht⟩ : ∃ t, t = m.t := ⟨_, rfl⟩
  rw [← hf, ← ht]
  rw [← hf, ← ht] at HBOX
  have HRC := Lib.hid (spans_c s hs m (.slice ao m.caps.length cap) (w.alloc (.cells #[.int .i64 f, .int .i64 t, .slice ao m.caps.length cap] 29)) (hu.mono HBOX.out (Nat.le_refl _)) hl)
  rw [← hf, ← ht] at HRC
  have HF := Lib.hid hf
  have HT := Lib.hid ht
  have HNEW := Lib.hid (heap_new w (.cells #[.int .i64 f, .int .i64 t, .slice ao m.caps.length cap] 29))
  clear hu hcc hbox hR hf ht
  go_enter Tryd.func21, Tryd.ntmps21
  go_wp2_with fail
  refine HRC.out.mono ?_
  rintro e w1 ⟨rfl, hb1⟩
  have hsz1 := hb1.size
  simp only [World.size_alloc] at hsz1
  have HB1 := Lib.hid (HBOX.out.trans (hb1.mono (by simp)))
  have HC1 := Lib.hid ((hb1.block _ (by simp)).trans HNEW.out)
  clear hb1 HRC
  cases hright : rightM s.size m with
  | false =>
    have HRR := Lib.hid (show R = .error 2 from by rw [HR.out]; unfold fillM; rw [bytesOf_length, hright]; rfl)
    clear hright
    go_wp2
    go_ret2
    exact str_err HRR.out HB1.out
  | true =>
    have HRT := Lib.hid hright
    have HS0 := Lib.hid (show RFRel w1 repl (bytesOf s) m R repl.size (.string ⟨#[]⟩) (.bool false) (.int .i64 0) w1 from
      ⟨0, ⟨#[]⟩, false, [], rfl, rfl, rfl, rfl, Nat.zero_le _, Below.refl _ _, by decide, .inl ⟨rfl, rfl, by decide⟩, by rw [HR.out]; unfold fillM; rw [bytesOf_length, hright]; rfl⟩)
    clear hright
    go_wp2
    go_loopg [8, 9, 10] repl.size (fun gg vo vl vi wr => RFRel w1 repl (bytesOf s) m R gg vo vl vi wr)
    case atStart => exact HS0.out
    case round =>
      clear HS0 HR
      obtain ⟨i, o, lg, pout, rfl, rfl, rfl, rfl, hi, hb, hos, hlr, hgo⟩ := hrel
      have hszr := hb.size
      have hcell : wr.heap[w.heap.size]? = some (.cells #[.int .i64 f, .int .i64 t, .slice ao m.caps.length cap] 29) := (hb.block _ (by omega)).trans HC1.out
      have b0 : wr.cell? ⟨w.heap.size, 0, none⟩ = some (.int .i64 f) := by rw [cell_of_heap hcell]; rfl
      have b1 : wr.cell? ⟨w.heap.size, 1, none⟩ = some (.int .i64 t) := by rw [cell_of_heap hcell]; rfl
      have b2 : wr.cell? ⟨w.heap.size, 2, none⟩ = some (.slice ao m.caps.length cap) := by rw [cell_of_heap hcell]; rfl
      have HB := Lib.hid hb
      have HBW := Lib.hid (HB1.out.trans (hb.mono (by omega)))
      have HLR := Lib.hid hlr
      have HGO := Lib.hid hgo
      clear hcell hb hlr hgo
      by_cases hlt : i < repl.size
      · have hsl := slice_run repl (i : Int) ((i : Int) + 1) i (i + 1) rfl (by omega) (by omega) (by omega)
        have hgo := HGO.out
        rw [bytesOf_drop repl i hlt, fillGo_cons] at hgo
        have hone : (repl.extract i (i + 1)).size = 1 := by rw [← bytesOf_length, bytesOf_one repl i hlt]; rfl
        by_cases h37 : repl[i].toNat = 37
        · have t37 : ((repl[i].toNat : Int) == 37) = true := by rw [h37]; rfl
          rw [if_pos h37] at hgo
          by_cases hend : i + 1 < repl.size
          · rw [bytesOf_drop repl (i + 1) hend] at hgo
            simp only [] at hgo
            have tend : (((i : Int) + 1) == (repl.size : Int)) = false := by rw [beq_eq_false_iff_ne]; omega
            by_cases d37 : repl[i + 1].toNat = 37
            · have td : ((repl[i + 1].toNat : Int) != 37) = false := by rw [d37]; rfl
              have hdg : isDigit repl[i + 1].toNat = false := by rw [d37]; rfl
              have HDG := Lib.hid hdg
              rw [d37, capture_pct] at hgo
              have HG := Lib.hid (show fillGo (bytesOf s) m ((bytesOf repl).drop (i + 2)) (putM pout [37]) = R from hgo)
              have H1 := Lib.hid (show bytesOf (repl.extract i (i + 1)) = [37] from by rw [bytesOf_one repl i hlt, h37])
              clear hgo h37 d37 hdg
              cases lg with
              | true =>
                have HN := Lib.hid (show RFRel w1 repl (bytesOf s) m R (repl.size - (i + 2)) (.string (o)) (.bool true) (.int .i64 ((i : Int) + 1 + 1)) wr from ⟨i + 2, _, _, _, rfl, rfl, rfl, by first | rfl | (congr 1; omega), by omega, HB.out, hos, long_stays HLR.out, HG.out⟩)
                go_wp2_with (go_at_call 40; refine (rdigit_c _ _).mono ?_; rintro e w' ⟨rfl, rfl⟩; rw [HDG.out])
                go_roundg (repl.size - (i + 2))
                case measure => omega
                case rel => exact HN.out
              | false =>
                by_cases hfit : o.size + (repl.extract i (i + 1)).size ≤ 4096
                · have HN := Lib.hid (show RFRel w1 repl (bytesOf s) m R (repl.size - (i + 2)) (.string (o ++ repl.extract i (i + 1))) (.bool false) (.int .i64 ((i : Int) + 1 + 1)) wr from ⟨i + 2, _, _, _, rfl, rfl, rfl, by first | rfl | (congr 1; omega), by omega, HB.out, (by rw [← bytesOf_length, bytesOf_append, List.length_append, bytesOf_length, bytesOf_length]; exact hfit), long_not HLR.out H1.out (by rw [← size_bytes H1.out]; exact hfit), HG.out⟩)
                  have tfit : ¬ ((4096 : Int) - (o.size : Int) < ((repl.extract i (i + 1)).size : Int)) := by omega
                  have tfd : decide ((4096 : Int) - (o.size : Int) < 1) = false := by simp; omega
                  go_wp2_with (go_at_call 40; refine (rdigit_c _ _).mono ?_; rintro e w' ⟨rfl, rfl⟩; rw [HDG.out])
                  go_roundg (repl.size - (i + 2))
                  case measure => omega
                  case rel => exact HN.out
                · have HN := Lib.hid (show RFRel w1 repl (bytesOf s) m R (repl.size - (i + 2)) (.string (o)) (.bool true) (.int .i64 ((i : Int) + 1 + 1)) wr from ⟨i + 2, _, _, _, rfl, rfl, rfl, by first | rfl | (congr 1; omega), by omega, HB.out, hos, long_now HLR.out (by rw [← size_bytes H1.out]; exact hfit), HG.out⟩)
                  have tfit : (4096 : Int) - (o.size : Int) < ((repl.extract i (i + 1)).size : Int) := by omega
                  have tfd : decide ((4096 : Int) - (o.size : Int) < 1) = true := by simp; omega
                  go_wp2_with (go_at_call 40; refine (rdigit_c _ _).mono ?_; rintro e w' ⟨rfl, rfl⟩; rw [HDG.out])
                  go_roundg (repl.size - (i + 2))
                  case measure => omega
                  case rel => exact HN.out
            · have td : ((repl[i + 1].toNat : Int) != 37) = true := by rw [bne_iff_ne]; omega
              cases hdg : isDigit repl[i + 1].toNat with
              | false =>
                rw [capture_no _ _ _ d37 hdg] at hgo
                have HRR := Lib.hid hgo.symm
                have HDG := Lib.hid hdg
                clear hgo hdg d37 h37
                go_wp2_with (go_at_call 40; refine (rdigit_c _ _).mono ?_; rintro e w' ⟨rfl, rfl⟩; rw [HDG.out])
                go_ret2
                exact str_err HRR.out HBW.out
              | true =>
                have l1 : 48 ≤ repl[i + 1].toNat := by revert hdg; simp [isDigit]; omega
                have l2 : repl[i + 1].toNat ≤ 57 := by revert hdg; simp [isDigit]
                have HDG := Lib.hid hdg
                obtain ⟨k, hk⟩ : ∃ k : Nat, repl[i + 1].toNat = 48 + k := ⟨repl[i + 1].toNat - 48, by omega⟩
                obtain ⟨RC, hRC⟩ : ∃ RC, RC = captureM (bytesOf s) repl[i + 1].toNat m := ⟨_, rfl⟩
                have HCAP := Lib.hid (fun (x : Int) (hx : x = k) => rcapture_c s hs x k hx (by omega) m (.slice ao m.caps.length cap) wr.drew (HU.out.mono (HBW.out.drew) (Nat.le_refl _)) hl HRT.out RC (by rw [hRC, hk]))
                rw [← HF.out, ← HT.out] at HCAP
                have HK2 := Lib.hid (show IntKind.i64.wrap (IntKind.u8.wrap ((repl[i + 1].toNat : Int) - 48)) = (k : Int) by rw [IntWalk.u8_in _ (by omega), IntWalk.i64_in _ (by omega)]; omega)
                rw [← hRC] at hgo
                have HRC2 := Lib.hid hRC
                clear hdg d37 h37 hk hRC
                cases hrc : RC with
                | none =>
                  rw [hrc] at hgo HCAP
                  have HRR := Lib.hid hgo.symm
                  clear hgo hrc
                  go_wp2_with (go_at_call 40; refine (rdigit_c _ _).mono ?_; rintro e w' ⟨rfl, rfl⟩; rw [HDG.out])
                  have D0 := Lib.hid (show Below wr.heap.size wr wr.drew from (Below.refl _ _).drew)
                  have SOF := Lib.hid (fun (W : World) (h : Below wr.heap.size wr W) => (show W.cell? ⟨w.heap.size, 0, none⟩ = some (.int .i64 f) ∧ W.cell? ⟨w.heap.size, 1, none⟩ = some (.int .i64 t) ∧ W.cell? ⟨w.heap.size, 2, none⟩ = some (.slice ao m.caps.length cap) from ⟨by rw [h.cell (World.block_lt_of_cell? _ _ b0)]; exact b0, by rw [h.cell (World.block_lt_of_cell? _ _ b1)]; exact b1, by rw [h.cell (World.block_lt_of_cell? _ _ b2)]; exact b2⟩))
                  go_region_held3 (fun W => W.cell? ⟨w.heap.size, 0, none⟩ = some (.int .i64 f) ∧ W.cell? ⟨w.heap.size, 1, none⟩ = some (.int .i64 t) ∧ W.cell? ⟨w.heap.size, 2, none⟩ = some (.slice ao m.caps.length cap)) (first | exact SOF.out _ (by assumption) | exact SOF.out _ D0.out) ((go_at_call 41; (with_reducible refine (HCAP.out _ HK2.out).mono ?_); rintro e W ⟨hbn, rfl⟩; have hW := D0.out.trans hbn; clear hbn))
                  go_wp2
                  go_ret2
                  exact str_err HRR.out (HBW.out.trans (Below.mono (by assumption) HBW.out.size))
                | some T =>
                  have hTl := capture_len hs HRT.out (HRC2.out.symm.trans hrc)
                  rw [hrc] at hgo HCAP
                  have HG := Lib.hid (show fillGo (bytesOf s) m ((bytesOf repl).drop (i + 2)) (putM pout T) = R from hgo)
                  clear hgo hrc
                  go_wp2_with (go_at_call 40; refine (rdigit_c _ _).mono ?_; rintro e w' ⟨rfl, rfl⟩; rw [HDG.out])
                  have D0 := Lib.hid (show Below wr.heap.size wr wr.drew from (Below.refl _ _).drew)
                  have SOF := Lib.hid (fun (W : World) (h : Below wr.heap.size wr W) => (show W.cell? ⟨w.heap.size, 0, none⟩ = some (.int .i64 f) ∧ W.cell? ⟨w.heap.size, 1, none⟩ = some (.int .i64 t) ∧ W.cell? ⟨w.heap.size, 2, none⟩ = some (.slice ao m.caps.length cap) from ⟨by rw [h.cell (World.block_lt_of_cell? _ _ b0)]; exact b0, by rw [h.cell (World.block_lt_of_cell? _ _ b1)]; exact b1, by rw [h.cell (World.block_lt_of_cell? _ _ b2)]; exact b2⟩))
                  go_region_held3 (fun W => W.cell? ⟨w.heap.size, 0, none⟩ = some (.int .i64 f) ∧ W.cell? ⟨w.heap.size, 1, none⟩ = some (.int .i64 t) ∧ W.cell? ⟨w.heap.size, 2, none⟩ = some (.slice ao m.caps.length cap)) (first | exact SOF.out _ (by assumption) | exact SOF.out _ D0.out) ((go_at_call 41; (with_reducible refine (HCAP.out _ HK2.out).mono ?_); rintro e w2 ⟨hbn, r, hr, rfl⟩; have hW := D0.out.trans hbn; have H1 := Lib.hid hr; clear hbn hr))
                  rename_i w2 r _ _
                  trace_state
                  have HB2 := Lib.hid (HB.out.trans (hW.mono hszr))
                  have hrsz := size_bytes H1.out
                  have hT2 : r.size ≤ 200000000 := by omega
                  clear hW hrsz
                  cases lg with
                  | true =>
                    have HN := Lib.hid (show RFRel w1 repl (bytesOf s) m R (repl.size - (i + 2)) (.string (o)) (.bool true) (.int .i64 ((i : Int) + 1 + 1)) w2 from ⟨i + 2, _, _, _, rfl, rfl, rfl, by first | rfl | (congr 1; omega), by omega, HB2.out, hos, long_stays HLR.out, HG.out⟩)
                    go_wp2
                    go_roundg (repl.size - (i + 2))
                    case measure => omega
                    case rel => exact HN.out
                  | false =>
                    by_cases hfit : o.size + (r).size ≤ 4096
                    · have HN := Lib.hid (show RFRel w1 repl (bytesOf s) m R (repl.size - (i + 2)) (.string (o ++ r)) (.bool false) (.int .i64 ((i : Int) + 1 + 1)) w2 from ⟨i + 2, _, _, _, rfl, rfl, rfl, by first | rfl | (congr 1; omega), by omega, HB2.out, (by rw [← bytesOf_length, bytesOf_append, List.length_append, bytesOf_length, bytesOf_length]; exact hfit), long_not HLR.out H1.out (by rw [← size_bytes H1.out]; exact hfit), HG.out⟩)
                      have tfit : ¬ ((4096 : Int) - (o.size : Int) < ((r).size : Int)) := by omega
                      have tfd : decide ((4096 : Int) - (o.size : Int) < (r.size : Int)) = false := by simp; omega
                      go_wp2
                      go_roundg (repl.size - (i + 2))
                      case measure => omega
                      case rel => exact HN.out
                    · have HN := Lib.hid (show RFRel w1 repl (bytesOf s) m R (repl.size - (i + 2)) (.string (o)) (.bool true) (.int .i64 ((i : Int) + 1 + 1)) w2 from ⟨i + 2, _, _, _, rfl, rfl, rfl, by first | rfl | (congr 1; omega), by omega, HB2.out, hos, long_now HLR.out (by rw [← size_bytes H1.out]; exact hfit), HG.out⟩)
                      have tfit : (4096 : Int) - (o.size : Int) < ((r).size : Int) := by omega
                      have tfd : decide ((4096 : Int) - (o.size : Int) < (r.size : Int)) = true := by simp; omega
                      go_wp2
                      go_roundg (repl.size - (i + 2))
                      case measure => omega
                      case rel => exact HN.out
          · rw [bytesOf_end repl (i + 1) (by omega)] at hgo
            have HRR := Lib.hid hgo.symm
            have tend : (((i : Int) + 1) == (repl.size : Int)) = true := by rw [beq_iff_eq]; omega
            clear hgo h37
            go_wp2
            go_ret2
            exact str_err HRR.out HBW.out
        · have t37 : ((repl[i].toNat : Int) == 37) = false := by rw [beq_eq_false_iff_ne]; omega
          rw [if_neg h37] at hgo
          have HG := Lib.hid hgo
          have H1 := Lib.hid (bytesOf_one repl i hlt)
          clear hgo h37
          cases lg with
          | true =>
            have HN := Lib.hid (show RFRel w1 repl (bytesOf s) m R (repl.size - (i + 1)) (.string (o)) (.bool true) (.int .i64 ((i : Int) + 1)) wr from ⟨i + 1, _, _, _, rfl, rfl, rfl, by first | rfl | (congr 1; omega), by omega, HB.out, hos, long_stays HLR.out, HG.out⟩)
            go_wp2
            go_roundg (repl.size - (i + 1))
            case measure => omega
            case rel => exact HN.out
          | false =>
            by_cases hfit : o.size + (repl.extract i (i + 1)).size ≤ 4096
            · have HN := Lib.hid (show RFRel w1 repl (bytesOf s) m R (repl.size - (i + 1)) (.string (o ++ repl.extract i (i + 1))) (.bool false) (.int .i64 ((i : Int) + 1)) wr from ⟨i + 1, _, _, _, rfl, rfl, rfl, by first | rfl | (congr 1; omega), by omega, HB.out, (by rw [← bytesOf_length, bytesOf_append, List.length_append, bytesOf_length, bytesOf_length]; exact hfit), long_not HLR.out H1.out (by rw [← size_bytes H1.out]; exact hfit), HG.out⟩)
              have tfit : ¬ ((4096 : Int) - (o.size : Int) < ((repl.extract i (i + 1)).size : Int)) := by omega
              have tfd : decide ((4096 : Int) - (o.size : Int) < 1) = false := by simp; omega
              go_wp2
              go_roundg (repl.size - (i + 1))
              case measure => omega
              case rel => exact HN.out
            · have HN := Lib.hid (show RFRel w1 repl (bytesOf s) m R (repl.size - (i + 1)) (.string (o)) (.bool true) (.int .i64 ((i : Int) + 1)) wr from ⟨i + 1, _, _, _, rfl, rfl, rfl, by first | rfl | (congr 1; omega), by omega, HB.out, hos, long_now HLR.out (by rw [← size_bytes H1.out]; exact hfit), HG.out⟩)
              have tfit : (4096 : Int) - (o.size : Int) < ((repl.extract i (i + 1)).size : Int) := by omega
              have tfd : decide ((4096 : Int) - (o.size : Int) < 1) = true := by simp; omega
              go_wp2
              go_roundg (repl.size - (i + 1))
              case measure => omega
              case rel => exact HN.out
      · have hgo := HGO.out
        rw [bytesOf_end repl i (by omega)] at hgo
        have hge : ¬ ((i : Int) < (repl.size : Int)) := by omega
        have hgo2 : R = if 4096 < pout.length then .error 14 else .ok pout := by rw [← hgo]; unfold fillGo; rfl
        have hlr := HLR.out
        clear hgo
        cases lg with
        | true =>
          have HRR := Lib.hid (show R = .error 14 from by
            rcases hlr with ⟨h, _⟩ | ⟨_, h⟩
            · cases h
            · rw [hgo2, if_pos h])
          clear hgo2 hlr
          go_wp2
          go_ret2
          exact str_err HRR.out HBW.out
        | false =>
          have HRR := Lib.hid (show R = .ok (bytesOf o) from by
            rcases hlr with ⟨_, h, h2⟩ | ⟨h, _⟩
            · rw [hgo2, h, bytesOf_length, if_neg (by omega)]
            · cases h)
          clear hgo2 hlr
          go_wp2
          go_ret2
          exact str_ok HRR.out rfl HBW.out
end Go.Proofs.YtpbhncmaamedhaaDoor
