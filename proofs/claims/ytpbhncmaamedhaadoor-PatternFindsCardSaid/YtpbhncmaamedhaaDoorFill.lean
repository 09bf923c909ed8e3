import Derived.Test.YtpbhncmaamedhaaDoorCapt
namespace Go.Proofs.YtpbhncmaamedhaaDoor
open Go.RowKit Go.Proofs.Lexi

theorem decDigits_len : ∀ (n u : Nat), u ≤ n → (Lib.decDigits u).length ≤ u + 1 := by
  intro n
  induction n with
  | zero => intro u h; rw [Lib.decDigits]; split <;> simp; omega
  | succ n ih =>
    intro u h
    rw [Lib.decDigits]
    split
    · simp
    · have := ih (u / 10) (by omega)
      simp; omega
theorem capture_len {s : ByteArray} {m : AM} {c : Nat} {t : List Nat} (hs : s.size ≤ 100000000) (hr : rightM s.size m = true) (h : captureM (bytesOf s) c m = some t) : t.length ≤ 200000000 := by
  have sub : ∀ a b, (subM (bytesOf s) a b).length ≤ s.size := fun a b => by unfold subM; simp [bytesOf_length]; omega
  unfold captureM at h
  split at h
  · injection h with h; subst h; simp
  · split at h
    · injection h with h; subst h; have := sub m.f m.t; omega
    · split at h
      · cases h
      · rename_i hk
        split at h
        · injection h with h; subst h
          have := ((right_elim hr).2 (c - 49) (by apply Classical.byContradiction; intro h; exact hk (.inr (by omega)))).1
          unfold decM Lib.itoa
          rw [if_neg (by omega), List.length_map]
          have := decDigits_len _ ((m.caps.getD (c - 49) (0, 0)).1 + 1).toNat (Nat.le_refl _)
          omega
        · injection h with h; subst h; have := sub (m.caps.getD (c - 49) (0, 0)).1 (m.caps.getD (c - 49) (0, 0)).2; omega
theorem isB_ext {w w' : World} {B b : Nat} {bs : List Value} (h : Lib.IsBuilder 75 5 B b bs w) {N : Nat} (hb : Below N w w') (hN : w.heap.size ≤ N) : Lib.IsBuilder 75 5 B b bs w' := by
  have hx := below_ext hb hN
  rcases h with ⟨h1, v, h2, h3, h4⟩ | ⟨h1, v, h2, h3, h4⟩
  · exact .inl ⟨h1, v, hx.get h2, ownsRow_ext hx h3, h4⟩
  · exact .inr ⟨h1, v, hx.get h2, ownsRow_ext hx h3, h4⟩
theorem isB_new (w : World) : Lib.IsBuilder 75 5 w.heap.size w.heap.size (Lib.byteCells []) (w.alloc (.cells #[.pointer none, .slice none 0 0] 75)) :=
  .inl ⟨Nat.le_refl _, .slice none 0 0, heap_new _ _, World.ownsRow_nil _ _ _ _, by simp [Value.ownBlock]⟩
def StrPost (w : World) (R : Except Nat (List Nat)) (e : Ending) (w' : World) : Prop := Below w.heap.size w w' ∧
  match R with
  | .error c => e = .returned (.tuple #[.string ⟨#[]⟩, .int .i64 (c : Int)])
  | .ok l => ∃ r, bytesOf r = l ∧ e = .returned (.tuple #[.string r, .int .i64 0])
theorem str_err {w w' : World} {R : Except Nat (List Nat)} {c : Nat} (hR : R = .error c) (hb : Below w.heap.size w w') : StrPost w R (.returned (.tuple #[.string ⟨#[]⟩, .int .i64 (c : Int)])) w' := by subst hR; exact ⟨hb, rfl⟩
theorem str_ok {w w' : World} {R : Except Nat (List Nat)} {l : List Nat} {r : ByteArray} (hR : R = .ok l) (hr : bytesOf r = l) (hb : Below w.heap.size w w') : StrPost w R (.returned (.tuple #[.string r, .int .i64 0])) w' := by subst hR; exact ⟨hb, r, hr, rfl⟩
def natsOf (l : List UInt8) : List Nat := l.map UInt8.toNat
theorem bytesOf_list (l : List UInt8) : bytesOf ⟨l.toArray⟩ = natsOf l := by simp [bytesOf, natsOf]
theorem bytesOf_one (s : ByteArray) (i : Nat) (h : i < s.size) : bytesOf (s.extract i (i + 1)) = [s[i].toNat] := by
  rw [bytesOf_extract, bytesOf_drop s i h, show i + 1 - i = 1 by omega]; rfl
theorem slice_run (s : ByteArray) (a b : Int) (i j : Nat) (ha : a = i) (hb : b = j) (h1 : i ≤ j) (h2 : j ≤ s.size) (w : World) : Sem.run Tryd.prog (Instr.slice 9 (.string s) (some (.int .i64 a)) (some (.int .i64 b)) none) w = .ok (.string (s.extract i j)) w := by
  subst ha hb
  have g1 : (i : Int) ≤ (j : Int) := by omega
  have g2 : (j : Int) ≤ (s.size : Int) := by omega
  simp [Instr.slice, run_underlying Tryd.underlying9, Instr.sliceBounds, run_sliceBound, g1, g2]
def FillRel (w1 : World) (B : Nat) (repl : ByteArray) (l : List Nat) (m : AM) (R : Except Nat (List Nat)) (gg : Nat) (v : Value) (wr : World) : Prop := ∃ (i : Nat) (out : List UInt8), gg = repl.size - i ∧ v = .int .i64 (i : Int) ∧ i ≤ repl.size ∧ Below B w1 wr ∧ B ≤ wr.heap.size ∧
  Lib.IsBuilder 75 5 B B (Lib.byteCells out) wr ∧ out.length ≤ 300000000 ∧ fillGo l m ((bytesOf repl).drop i) (natsOf out) = R
theorem natsOf_append (a : List UInt8) (r : ByteArray) : natsOf (a ++ r.data.toList) = natsOf a ++ bytesOf r := by unfold natsOf bytesOf; rw [List.map_append]
theorem putM_short {out : List UInt8} {t : List Nat} {r : ByteArray} (h : out.length ≤ 4096) (hr : bytesOf r = t) : putM (natsOf out) t = natsOf (out ++ r.data.toList) := by
  unfold putM; rw [if_pos (by simpa [natsOf] using h), natsOf_append, hr]
theorem putM_long {out : List UInt8} {t : List Nat} (h : ¬ out.length ≤ 4096) : putM (natsOf out) t = natsOf out := by
  unfold putM; rw [if_neg (by simpa [natsOf] using h)]
theorem size_bytes {r : ByteArray} {t : List Nat} (h : bytesOf r = t) : r.size = t.length := by rw [← h, bytesOf_length]
theorem data_len (r : ByteArray) : r.data.toList.length = r.size := by rw [Array.length_toList]; rfl
set_option maxRecDepth 100000 in
set_option maxHeartbeats 4000000 in
theorem Fill_c (s repl : ByteArray) (hs : s.size ≤ 100000000) (hrs : repl.size ≤ 100000000) (m : AM) (u : Value) (w : World) (hu : CapsR w u m.caps) (hl : m.caps.length ≤ 100000000) (htab : Tab w) (R : Except Nat (List Nat)) (hR : R = fillM (bytesOf s) (bytesOf repl) m) :
    Calls Tryd.prog 20 #[.string s, .string repl, .agg #[.int .i64 m.f, .int .i64 m.t, u]] w (StrPost w R) := by
  obtain ⟨ao, cap, rfl, hcc⟩ := hu
  have hu : CapsR w (.slice ao m.caps.length cap) m.caps := ⟨ao, cap, rfl, hcc⟩
  have hbox : Below w.heap.size w (w.alloc (.cells #[.int .i64 m.f, .int .i64 m.t, .slice ao m.caps.length cap] 29)) := (Below.refl _ _).alloc (Nat.le_refl _) _
  have HU := Lib.hid hu
  have HTAB := Lib.hid htab
  have HBOX := Lib.hid hbox
  have HR := Lib.hid hR
  obtain ⟨f, hf⟩ : ∃ f, f = m.f := ⟨_, rfl⟩
  obtain ⟨t, ht⟩ : ∃ t, t = m.t := ⟨_, rfl⟩
  rw [← hf, ← ht]
  rw [← hf, ← ht] at HBOX
  have HRC := Lib.hid (right_c s hs m (.slice ao m.caps.length cap) (w.alloc (.cells #[.int .i64 f, .int .i64 t, .slice ao m.caps.length cap] 29)) (hu.mono HBOX.out (Nat.le_refl _)) hl)
  rw [← hf, ← ht] at HRC
  have HF := Lib.hid hf
  have HT := Lib.hid ht
  have HNEW := Lib.hid (heap_new w (.cells #[.int .i64 f, .int .i64 t, .slice ao m.caps.length cap] 29))
  clear hu hcc htab hbox hR hf ht
  go_enter Tryd.func20, Tryd.ntmps20
  go_wp2_with fail
  refine HRC.out.mono ?_
  rintro e w1 ⟨rfl, hb1⟩
  have hsz1 := hb1.size
  simp only [World.size_alloc] at hsz1
  have HB1 := Lib.hid (HBOX.out.trans (hb1.mono (by simp)))
  have HC1 := Lib.hid ((hb1.block _ (by simp)).trans HNEW.out)
  clear hb1 HRC
  cases hright : rightM s.size m with
  | false =>
    have HRR := Lib.hid (show R = .error 2 from by rw [HR.out]; unfold fillM; rw [bytesOf_length, hright]; rfl)
    clear hright
    go_wp2
    go_ret2
    exact str_err HRR.out HB1.out
  | true =>
    have HRT := Lib.hid hright
    have HS0 := Lib.hid (show FillRel w1 w1.heap.size repl (bytesOf s) m R repl.size (.int .i64 0) (w1.alloc (.cells #[.pointer none, .slice none 0 0] 75)) from
      ⟨0, [], rfl, rfl, Nat.zero_le _, (Below.refl _ _).alloc (Nat.le_refl _) _, by simp, isB_new w1, by simp, by rw [HR.out]; unfold fillM; rw [bytesOf_length, hright]; rfl⟩)
    clear hright
    go_wp2
    go_loopg [9] repl.size (fun gg v wr => FillRel w1 w1.heap.size repl (bytesOf s) m R gg v wr)
    case atStart => exact HS0.out
    case round =>
      clear HS0 HR
      obtain ⟨i, out, rfl, rfl, hi, hb, hBs, hbl, hol, hgo⟩ := hrel
      have hcell : wr.heap[w.heap.size]? = some (.cells #[.int .i64 f, .int .i64 t, .slice ao m.caps.length cap] 29) := (hb.block _ (by omega)).trans HC1.out
      have b0 : wr.cell? ⟨w.heap.size, 0, none⟩ = some (.int .i64 f) := by rw [cell_of_heap hcell]; rfl
      have b1 : wr.cell? ⟨w.heap.size, 1, none⟩ = some (.int .i64 t) := by rw [cell_of_heap hcell]; rfl
      have b2 : wr.cell? ⟨w.heap.size, 2, none⟩ = some (.slice ao m.caps.length cap) := by rw [cell_of_heap hcell]; rfl
      have HB := Lib.hid hb
      have HBW := Lib.hid (HB1.out.trans (hb.mono (by omega)))
      have HBL := Lib.hid hbl
      have HGO := Lib.hid hgo
      have LEN := Lib.hid (fun (w : World) h => Tryd.Builder_Len w1.heap.size w1.heap.size (Lib.byteCells out) w h)
      rw [Lib.byteCells_length] at LEN
      have hbw := HBW.out.size
      clear hcell hb hbl hgo
      by_cases hlt : i < repl.size
      · have hsl := slice_run repl (i : Int) ((i : Int) + 1) i (i + 1) rfl (by omega) (by omega) (by omega)
        have hgo := HGO.out
        rw [bytesOf_drop repl i hlt, fillGo_cons] at hgo
        -- what writing a text leaves
        have wrote : ∀ (t : ByteArray) (T : List Nat) (i' : Nat) (W : World), bytesOf t = T → T.length ≤ 200000000 → i' ≤ repl.size → Below w1.heap.size wr W → fillGo (bytesOf s) m ((bytesOf repl).drop i') (putM (natsOf out) T) = R → out.length ≤ 4096 → Lib.IsBuilder 75 5 w1.heap.size w1.heap.size (Lib.byteCells out ++ Lib.strCells t) W →
            FillRel w1 w1.heap.size repl (bytesOf s) m R (repl.size - i') (.int .i64 (i' : Int)) W := fun t T i' W h1 h2 h3 h4 h5 h6 h7 =>
          ⟨i', out ++ t.data.toList, rfl, rfl, h3, HB.out.trans h4, by have := h4.size; omega, by rw [Lib.byteCells_append]; exact h7, by have := size_bytes h1; simp; omega, by rw [← putM_short h6 h1]; exact h5⟩
        have skipped : ∀ (T : List Nat) (i' : Nat) (W : World), i' ≤ repl.size → Below wr.heap.size wr W → fillGo (bytesOf s) m ((bytesOf repl).drop i') (putM (natsOf out) T) = R → ¬ out.length ≤ 4096 →
            FillRel w1 w1.heap.size repl (bytesOf s) m R (repl.size - i') (.int .i64 (i' : Int)) W := fun T i' W h3 h4 h5 h6 =>
          ⟨i', out, rfl, rfl, h3, HB.out.trans (h4.mono hBs), by have := h4.size; omega, isB_ext HBL.out h4 (Nat.le_refl _), hol, by rw [putM_long h6] at h5; exact h5⟩
        have WROTE := Lib.hid wrote
        have SKIPPED := Lib.hid skipped
        clear wrote skipped
        by_cases h37 : repl[i].toNat = 37
        · have t37 : ((repl[i].toNat : Int) == 37) = true := by rw [h37]; rfl
          rw [if_pos h37] at hgo
          by_cases hend : i + 1 < repl.size
          · rw [bytesOf_drop repl (i + 1) hend] at hgo
            simp only [] at hgo
            have hcap := capture_c s hs (repl[i + 1].toNat : Int) repl[i + 1].toNat rfl (UInt8.toNat_lt _) m (.slice ao m.caps.length cap) wr.drew (HU.out.mono (HBW.out.drew) (Nat.le_refl _)) hl HRT.out (HTAB.out.mono (HBW.out.drew) (Nat.le_refl _)) (captureM (bytesOf s) repl[i + 1].toNat m) rfl
            rw [← HF.out, ← HT.out] at hcap
            have HCAP := Lib.hid hcap
            have hge : ¬ ((repl.size : Int) ≤ (i : Int) + 1) := by omega
            clear hcap h37
            cases hcm : captureM (bytesOf s) repl[i + 1].toNat m with
            | none =>
              rw [hcm] at hgo HCAP
              have HRR := Lib.hid hgo.symm
              clear hgo hcm
              go_wp2
              refine wp_region_lex mixed (by kernel_rfl) ?_
              go_wp2_with fail
              refine HCAP.out.mono ?_
              rintro e w2 ⟨hb2, rfl⟩
              have HB2 := Lib.hid (HBW.out.trans (((Below.refl wr.heap.size wr).drew.trans hb2).mono hbw))
              clear hb2
              go_wp2
              refine ⟨by kernel_rfl, ?_⟩
              go_wp2
              go_ret2
              exact str_err HRR.out HB2.out
            | some T =>
              rw [hcm] at hgo HCAP
              have hTl := capture_len hs HRT.out hcm
              have HG := Lib.hid hgo
              clear hgo hcm
              go_wp2
              refine wp_region_lex mixed (by kernel_rfl) ?_
              go_wp2_with fail
              refine HCAP.out.mono ?_
              rintro e w2 ⟨hb2, r, hr, rfl⟩
              have hbl2 := isB_ext HBL.out ((Below.refl wr.heap.size wr).drew.trans hb2) (Nat.le_refl _)
              have hw2 : wr.heap.size ≤ w2.heap.size := hb2.size
              have hrsz := size_bytes hr
              have HRB := Lib.hid hr
              have HB2 := Lib.hid ((Below.refl wr.heap.size wr).drew.trans hb2)
              have HBL2 := Lib.hid hbl2
              clear hb2 hbl2 hr
              by_cases hlen : out.length ≤ 4096
              · have WR := Lib.hid (writeString_c w1.heap.size w1.heap.size (Lib.byteCells out) r w2 HBL2.out (by rw [Lib.byteCells_length]; omega) (by omega))
                clear hrsz
                go_wp2
                refine ⟨by kernel_rfl, ?_⟩
                go_wp2_with (go_at_call 36; refine (LEN.out _ HBL2.out).mono ?_; rintro e w' ⟨rfl, hw⟩; rw [hw])
                refine WR.out.mono ?_
                rintro e w3 ⟨rfl, hbl3, hb3⟩
                have HN := Lib.hid (WROTE.out r T (i + 2) w3 HRB.out hTl (by omega) ((HB2.out.mono hBs).trans hb3) HG.out hlen hbl3)
                clear hbl3 hb3
                go_wp2
                go_roundg (repl.size - (i + 2))
                case measure => omega
                case rel => exact (by rw [show ((i : Int) + 1 + 1) = ((i + 2 : Nat) : Int) from by omega]; exact HN.out)
              · have HN := Lib.hid (SKIPPED.out T (i + 2) w2 (by omega) HB2.out HG.out hlen)
                clear hrsz
                go_wp2
                refine ⟨by kernel_rfl, ?_⟩
                go_wp2_with (go_at_call 36; refine (LEN.out _ HBL2.out).mono ?_; rintro e w' ⟨rfl, hw⟩; rw [hw])
                go_roundg (repl.size - (i + 2))
                case measure => omega
                case rel => exact (by rw [show ((i : Int) + 1 + 1) = ((i + 2 : Nat) : Int) from by omega]; exact HN.out)
          · rw [bytesOf_end repl (i + 1) (by omega)] at hgo
            have HRR := Lib.hid hgo.symm
            have hge : (repl.size : Int) ≤ (i : Int) + 1 := by omega
            clear hgo h37
            go_wp2
            go_ret2
            exact str_err HRR.out HBW.out
        · have t37 : ((repl[i].toNat : Int) == 37) = false := by rw [beq_eq_false_iff_ne]; omega
          rw [if_neg h37] at hgo
          have HG := Lib.hid hgo
          have H1 := Lib.hid (bytesOf_one repl i hlt)
          clear hgo h37
          by_cases hlen : out.length ≤ 4096
          · have WR := Lib.hid (writeString_c w1.heap.size w1.heap.size (Lib.byteCells out) (repl.extract i (i + 1)) wr HBL.out (by rw [Lib.byteCells_length, size_bytes H1.out]; simp; omega) (by omega))
            go_wp2_with (first | (go_at_call 36; refine (LEN.out _ HBL.out).mono ?_; rintro e w' ⟨rfl, hw⟩; rw [hw]))
            refine WR.out.mono ?_
            rintro e w3 ⟨rfl, hbl3, hb3⟩
            have HN := Lib.hid (WROTE.out _ _ (i + 1) w3 H1.out (by simp) (by omega) hb3 HG.out hlen hbl3)
            clear hbl3 hb3
            go_wp2
            go_roundg (repl.size - (i + 1))
            case measure => omega
            case rel => exact (by have := HN.out; simpa using this)
          · have HN := Lib.hid (SKIPPED.out [repl[i].toNat] (i + 1) wr (by omega) (Below.refl _ _) HG.out hlen)
            go_wp2_with (first | (go_at_call 36; refine (LEN.out _ HBL.out).mono ?_; rintro e w' ⟨rfl, hw⟩; rw [hw]))
            go_roundg (repl.size - (i + 1))
            case measure => omega
            case rel => exact (by have := HN.out; simpa using this)
      · have hgo := HGO.out
        rw [bytesOf_end repl i (by omega)] at hgo
        have hge : ¬ ((i : Int) < (repl.size : Int)) := by omega
        have hgo2 : R = if 4096 < out.length then .error 14 else .ok (natsOf out) := by rw [← hgo]; unfold fillGo natsOf; rw [List.length_map]
        clear hgo
        by_cases hlen : 4096 < out.length
        · have HRR := Lib.hid (show R = .error 14 from by rw [hgo2, if_pos hlen])
          clear hgo2
          go_wp2_with (first | (go_at_call 36; refine (LEN.out _ HBL.out).mono ?_; rintro e w' ⟨rfl, hw⟩; rw [hw]))
          go_ret2
          exact str_err HRR.out HBW.out
        · have HRR := Lib.hid (show R = .ok (natsOf out) from by rw [hgo2, if_neg hlen])
          clear hgo2
          go_wp2_with (first | (go_at_call 36; refine (LEN.out _ HBL.out).mono ?_; rintro e w' ⟨rfl, hw⟩; rw [hw]))
          refine (Tryd.Builder_String_any w1.heap.size w1.heap.size out _ HBL.out hBs).mono ?_
          rintro e w3 ⟨rfl, hb3⟩
          have HB3 := Lib.hid (HBW.out.trans (hb3.mono (by omega)))
          clear hb3
          go_wp2
          go_ret2
          exact str_ok HRR.out (bytesOf_list out) HB3.out
end Go.Proofs.YtpbhncmaamedhaaDoor
