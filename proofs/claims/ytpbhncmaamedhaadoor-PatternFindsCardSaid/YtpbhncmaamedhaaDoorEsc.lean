import Derived.Test.YtpbhncmaamedhaaDoorFill
namespace Go.Proofs.YtpbhncmaamedhaaDoor
open Go.RowKit Go.Proofs.Lexi

def plainC (c : Nat) : Bool := isLetter c || isDigit c
def escC (c : Nat) : List Nat := if plainC c then [c] else [37, c]
def escapeM (l : List Nat) : List Nat := l.flatMap escC
def Str1 (w : World) (R : List Nat) (e : Ending) (w' : World) : Prop := Below w.heap.size w w' ∧ ∃ r, bytesOf r = R ∧ e = .returned (.string r)
theorem escC_len (c : Nat) : (escC c).length ≤ 2 := by unfold escC; split <;> simp
theorem esc_snoc (s : ByteArray) (i : Nat) (h : i < s.size) : escapeM ((bytesOf s).take (i + 1)) = escapeM ((bytesOf s).take i) ++ escC s[i].toNat := by
  have hl : i < (bytesOf s).length := by rw [bytesOf_length]; exact h
  rw [List.take_succ_eq_append_getElem hl]
  unfold escapeM
  rw [List.flatMap_append]
  have e : (bytesOf s)[i] = s[i].toNat := by
    have := getD_byte s i h
    rw [List.getD_eq_getElem?_getD, List.getElem?_eq_getElem hl] at this
    exact this
  rw [e]; simp
def EscRel (w : World) (s : ByteArray) (gg : Nat) (v : Value) (wr : World) : Prop := ∃ (i : Nat) (out : List UInt8), gg = s.size - i ∧ v = .int .i64 (i : Int) ∧ i ≤ s.size ∧ Below w.heap.size w wr ∧ Lib.IsBuilder 75 5 w.heap.size w.heap.size (Lib.byteCells out) wr ∧ out.length ≤ 2 * i ∧ natsOf out = escapeM ((bytesOf s).take i)
set_option maxRecDepth 100000 in
set_option maxHeartbeats 2000000 in
theorem Escape_c (s : ByteArray) (hs : s.size ≤ 100000000) (w : World) : Calls Tryd.prog 22 #[.string s] w (Str1 w (escapeM (bytesOf s))) := by
  have HS0 := Lib.hid (show EscRel w s s.size (.int .i64 0) (w.alloc (.cells #[.pointer none, .slice none 0 0] 75)) from ⟨0, [], rfl, rfl, Nat.zero_le _, (Below.refl _ _).alloc (Nat.le_refl _) _, isB_new w, by simp, rfl⟩)
  go_enter Tryd.func22, Tryd.ntmps22
  go_wp2
  go_loopg [4] s.size (fun gg v wr => EscRel w s gg v wr)
  case atStart => exact HS0.out
  case round =>
    clear HS0
    obtain ⟨i, out, rfl, rfl, hi, hb, hbl, hol, hout⟩ := hrel
    have hsz := hb.size
    have HB := Lib.hid hb
    have HBL := Lib.hid hbl
    have HOUT := Lib.hid hout
    clear hb hbl hout
    by_cases hlt : i < s.size
    · have HW := Lib.hid (writeByte_c w.heap.size w.heap.size (Lib.byteCells out) (s[i].toNat : Int) wr HBL.out (by rw [Lib.byteCells_length]; omega) hsz)
      have HW37 := Lib.hid (writeByte_c w.heap.size w.heap.size (Lib.byteCells out) 37 wr HBL.out (by rw [Lib.byteCells_length]; omega) hsz)
      have HESC := Lib.hid (esc_snoc s i hlt)
      have one : plainC s[i].toNat = true → ∀ w3, Lib.IsBuilder 75 5 w.heap.size w.heap.size (Lib.byteCells out ++ [.int .u8 (s[i].toNat : Int)]) w3 → Below w.heap.size wr w3 → EscRel w s (s.size - (i + 1)) (.int .i64 ((i : Int) + 1)) w3 := fun hp w3 h1 h2 =>
        ⟨i + 1, out ++ [s[i]], rfl, rfl, by omega, HB.out.trans h2, by rw [Lib.byteCells_append]; exact h1, by simp; omega, by rw [HESC.out, ← HOUT.out]; unfold escC natsOf; rw [hp]; simp⟩
      have two : plainC s[i].toNat = false → ∀ w3, Lib.IsBuilder 75 5 w.heap.size w.heap.size (Lib.byteCells (out ++ [37]) ++ [.int .u8 (s[i].toNat : Int)]) w3 → Below w.heap.size wr w3 → EscRel w s (s.size - (i + 1)) (.int .i64 ((i : Int) + 1)) w3 := fun hp w3 h1 h2 =>
        ⟨i + 1, out ++ [37] ++ [s[i]], rfl, rfl, by omega, HB.out.trans h2, by rw [Lib.byteCells_append]; exact h1, by simp; omega, by rw [HESC.out, ← HOUT.out]; unfold escC natsOf; rw [hp]; simp⟩
      have ONE := Lib.hid one
      have TWO := Lib.hid two
      clear one two
      cases hL : isLetter s[i].toNat with
      | true =>
        have HL := Lib.hid hL
        have HP := Lib.hid (show plainC s[i].toNat = true by unfold plainC; rw [hL]; rfl)
        clear hL
        go_wp2_with (first | (go_at_call 42; refine (letter_c _ _).mono ?_; rintro e w' ⟨rfl, rfl⟩; rw [HL.out]))
        refine HW.out.mono ?_
        rintro e w3 ⟨rfl, h1, h2⟩
        have HN := Lib.hid (ONE.out HP.out w3 h1 h2)
        clear h1 h2
        go_wp2
        go_roundg (s.size - (i + 1))
        case measure => omega
        case rel => exact HN.out
      | false =>
        cases hD : isDigit s[i].toNat with
        | true =>
          have HL := Lib.hid hL
          have HD := Lib.hid hD
          have HP := Lib.hid (show plainC s[i].toNat = true by unfold plainC; rw [hL, hD]; rfl)
          clear hL hD
          go_wp2_with (first | (go_at_call 42; refine (letter_c _ _).mono ?_; rintro e w' ⟨rfl, rfl⟩; rw [HL.out]) | (go_at_call 43; refine (digit_c _ _).mono ?_; rintro e w' ⟨rfl, rfl⟩; rw [HD.out]))
          refine HW.out.mono ?_
          rintro e w3 ⟨rfl, h1, h2⟩
          have HN := Lib.hid (ONE.out HP.out w3 h1 h2)
          clear h1 h2
          go_wp2
          go_roundg (s.size - (i + 1))
          case measure => omega
          case rel => exact HN.out
        | false =>
          have HL := Lib.hid hL
          have HD := Lib.hid hD
          have HP := Lib.hid (show plainC s[i].toNat = false by unfold plainC; rw [hL, hD]; rfl)
          clear hL hD
          go_wp2_with (first | (go_at_call 42; refine (letter_c _ _).mono ?_; rintro e w' ⟨rfl, rfl⟩; rw [HL.out]) | (go_at_call 43; refine (digit_c _ _).mono ?_; rintro e w' ⟨rfl, rfl⟩; rw [HD.out]))
          refine HW37.out.mono ?_
          rintro e w2 ⟨rfl, h1, h2⟩
          have h1' : Lib.IsBuilder 75 5 w.heap.size w.heap.size (Lib.byteCells (out ++ [37])) w2 := by rw [Lib.byteCells_append]; exact h1
          have hs2 := h2.size
          have HW2 := Lib.hid (writeByte_c w.heap.size w.heap.size (Lib.byteCells (out ++ [37])) (s[i].toNat : Int) w2 h1' (by rw [Lib.byteCells_length]; simp; omega) (by omega))
          have H2 := Lib.hid h2
          clear h1 h1' h2
          go_wp2_with fail
          refine HW2.out.mono ?_
          rintro e w3 ⟨rfl, h1, h2⟩
          have HN := Lib.hid (TWO.out HP.out w3 h1 (H2.out.trans h2))
          clear h1 h2
          go_wp2
          go_roundg (s.size - (i + 1))
          case measure => omega
          case rel => exact HN.out
    · have hge : ¬ ((i : Int) < (s.size : Int)) := by omega
      have HO := Lib.hid (show natsOf out = escapeM (bytesOf s) by rw [HOUT.out, List.take_of_length_le (by rw [bytesOf_length]; omega)])
      go_wp2_with fail
      refine (Tryd.Builder_String_any w.heap.size w.heap.size out _ HBL.out hsz).mono ?_
      rintro e w3 ⟨rfl, hb3⟩
      have HB3 := Lib.hid (HB.out.trans hb3)
      clear hb3
      go_wp2
      go_ret
      exact ⟨HB3.out, _, (bytesOf_list out).trans HO.out, rfl⟩
end Go.Proofs.YtpbhncmaamedhaaDoor
