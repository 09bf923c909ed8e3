import Derived.Test.YtpbhncmaamedhaaDoorEscL
import Derived.Test.YtpbhncmaamedhaaDoorRLeaf
import Derived.Deep.RegionHeld3
import Derived.StillTailTactics
import Derived.IntWalk
namespace Go.Proofs.YtpbhncmaamedhaaDoor
open Go.RowKit Go.Proofs.Lexi

/-! The reference's Escape, and PatternEscapes. -/
theorem plain_eq (c : Nat) : plainC c = (isDigit c || isLower c || isUpper c) := by
  unfold plainC isLetter isLower isUpper
  cases isDigit c <;> simp
theorem bytesOf_append (a b : ByteArray) : bytesOf (a ++ b) = bytesOf a ++ bytesOf b := by
  unfold bytesOf
  rw [← List.map_append]
  congr 1
theorem add_run (a b : ByteArray) (h : a.size + b.size ≤ 9223372036854775807) (w : World) : (Op.stringOp .add a b).run Tryd.prog w = .ok (.string (a ++ b)) w := by
  first | exact run_string_add_sum a b h | exact run_string_add_sum w a b h
def REscRel (w : World) (s : ByteArray) (gg : Nat) (vo vi : Value) (wr : World) : Prop := ∃ (i : Nat) (o : ByteArray), w = wr ∧ gg = s.size - i ∧ vo = .string o ∧ vi = .int .i64 (i : Int) ∧ i ≤ s.size ∧ bytesOf o = escapeM ((bytesOf s).take i)
def REscPost (w : World) (R : List Nat) (e : Ending) (w' : World) : Prop := w = w' ∧ ∃ r, bytesOf r = R ∧ e = .returned (.string r)
set_option maxRecDepth 100000 in
set_option maxHeartbeats 2000000 in
theorem rescape_c (s : ByteArray) (hs : s.size ≤ 100000000) (w : World) : Calls Tryd.prog 23 #[.string s] w (REscPost w (escapeM (bytesOf s))) := by
  go_enter Tryd.func23, Tryd.ntmps23
  go_wp2
  go_loopg [3, 4] s.size (fun gg vo vi wr => REscRel w s gg vo vi wr)
  case atStart => exact ⟨0, ⟨#[]⟩, rfl, rfl, rfl, rfl, Nat.zero_le _, rfl⟩
  case round =>
    obtain ⟨i, o, rfl, rfl, rfl, rfl, hi, ho⟩ := hrel
    have HO := Lib.hid ho
    clear ho
    by_cases hlt : i < s.size
    · have hsl := slice_run s (i : Int) ((i : Int) + 1) i (i + 1) rfl (by omega) (by omega) (by omega)
      have hosz : o.size ≤ 2 * i := by
        rw [← bytesOf_length, HO.out]
        have := esc_len ((bytesOf s).take i)
        rw [List.length_take] at this
        omega
      have h1s : (s.extract i (i + 1)).size = 1 := by rw [← bytesOf_length, bytesOf_one s i hlt]; rfl
      have hop : (o ++ (⟨#[37]⟩ : ByteArray)).size = o.size + 1 := by rw [← bytesOf_length, bytesOf_append, List.length_append, bytesOf_length]; rfl
      have ad1 := add_run o (s.extract i (i + 1)) (by omega)
      have ad2 := add_run o ⟨#[37]⟩ (by show o.size + 1 ≤ _; omega)
      have ad3 := add_run (o ++ ⟨#[37]⟩) (s.extract i (i + 1)) (by omega)
      clear h1s hop
      have HESC := Lib.hid (esc_snoc s i hlt)
      have H1 := Lib.hid (bytesOf_one s i hlt)
      have one : plainC s[i].toNat = true → Hid (REscRel w s (s.size - (i + 1)) (.string (o ++ s.extract i (i + 1))) (.int .i64 ((i : Int) + 1)) w) := fun hp =>
        ⟨i + 1, _, rfl, rfl, rfl, rfl, by omega, by rw [bytesOf_append, HO.out, H1.out, HESC.out]; unfold escC; rw [hp]; rfl⟩
      have two : plainC s[i].toNat = false → Hid (REscRel w s (s.size - (i + 1)) (.string (o ++ ⟨#[37]⟩ ++ s.extract i (i + 1))) (.int .i64 ((i : Int) + 1)) w) := fun hp =>
        ⟨i + 1, _, rfl, rfl, rfl, rfl, by omega, by rw [bytesOf_append, bytesOf_append, HO.out, H1.out, HESC.out]; unfold escC; rw [hp]; simp [bytesOf]⟩
      have HP := Lib.hid (plain_eq s[i].toNat)
      have ONE := Lib.hid one
      have TWO := Lib.hid two
      clear one two
      cases hD : isDigit s[i].toNat with
      | true =>
        have HD := Lib.hid hD
        have HN := ONE.out (by rw [HP.out, hD]; rfl)
        clear hD
        go_wp2_with (first | (go_at_call 40; refine (rdigit_c _ _).mono ?_; rintro e w' ⟨rfl, rfl⟩; rw [HD.out]))
        go_roundg (s.size - (i + 1))
        case measure => omega
        case rel => exact HN.out
      | false =>
        have HD := Lib.hid hD
        cases hL : isLower s[i].toNat with
        | true =>
          have HL := Lib.hid hL
          have HN := ONE.out (by rw [HP.out, hD, hL]; rfl)
          clear hD hL
          go_wp2_with (first | (go_at_call 40; refine (rdigit_c _ _).mono ?_; rintro e w' ⟨rfl, rfl⟩; rw [HD.out]) | (go_at_call 45; refine (rlower_c _ _).mono ?_; rintro e w' ⟨rfl, rfl⟩; rw [HL.out]))
          go_roundg (s.size - (i + 1))
          case measure => omega
          case rel => exact HN.out
        | false =>
          have HL := Lib.hid hL
          cases hU : isUpper s[i].toNat with
          | true =>
            have HU := Lib.hid hU
            have HN := ONE.out (by rw [HP.out, hD, hL, hU]; rfl)
            clear hD hL hU
            go_wp2_with (first | (go_at_call 40; refine (rdigit_c _ _).mono ?_; rintro e w' ⟨rfl, rfl⟩; rw [HD.out]) | (go_at_call 45; refine (rlower_c _ _).mono ?_; rintro e w' ⟨rfl, rfl⟩; rw [HL.out]) | (go_at_call 46; refine (rupper_c _ _).mono ?_; rintro e w' ⟨rfl, rfl⟩; rw [HU.out]))
            go_roundg (s.size - (i + 1))
            case measure => omega
            case rel => exact HN.out
          | false =>
            have HU := Lib.hid hU
            have HN := TWO.out (by rw [HP.out, hD, hL, hU]; rfl)
            clear hD hL hU
            go_wp2_with (first | (go_at_call 40; refine (rdigit_c _ _).mono ?_; rintro e w' ⟨rfl, rfl⟩; rw [HD.out]) | (go_at_call 45; refine (rlower_c _ _).mono ?_; rintro e w' ⟨rfl, rfl⟩; rw [HL.out]) | (go_at_call 46; refine (rupper_c _ _).mono ?_; rintro e w' ⟨rfl, rfl⟩; rw [HU.out]))
            go_roundg (s.size - (i + 1))
            case measure => omega
            case rel => exact HN.out
    · have hge : ¬ ((i : Int) < (s.size : Int)) := by omega
      have HE := Lib.hid (show bytesOf o = escapeM (bytesOf s) by rw [HO.out, List.take_of_length_le (by rw [bytesOf_length]; omega)])
      go_wp2
      go_ret
      exact ⟨rfl, o, HE.out, rfl⟩
theorem str_eq_there (s t : ByteArray) (i : Nat) (h : i + s.size ≤ t.size) : ((t.extract i (i + s.size)).toList == s.toList) = (bytesOf s).isPrefixOf ((bytesOf t).drop i) := by
  rw [Lib.toList_data, Lib.toList_data]
  have h1 : (bytesOf s).isPrefixOf ((bytesOf t).drop i) = decide (bytesOf (t.extract i (i + s.size)) = bytesOf s) := by
    rw [bytesOf_extract, show i + s.size - i = s.size by omega, Bool.eq_iff_iff, List.isPrefixOf_iff_prefix, List.prefix_iff_eq_take, bytesOf_length, decide_eq_true_eq]
    exact eq_comm
  rw [h1, Bool.eq_iff_iff, beq_iff_eq, decide_eq_true_eq]
  constructor
  · intro h; unfold bytesOf; rw [h]
  · intro h; rw [bytesOf_inj h]
end Go.Proofs.YtpbhncmaamedhaaDoor
