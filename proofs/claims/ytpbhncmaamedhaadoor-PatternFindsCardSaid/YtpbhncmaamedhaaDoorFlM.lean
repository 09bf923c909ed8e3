import Derived.Test.YtpbhncmaamedhaaDoorAll
import Derived.Test.YtpbhncmaamedhaaDoorBld
import Derived.Lib.AppendIntMem
namespace Go.Proofs.YtpbhncmaamedhaaDoor
open Go.RowKit Go.Proofs.Lexi

/-! Fill: its plain model. -/
def withinM (len a b : Int) : Bool := decide (0 ≤ a) && decide (a ≤ b) && decide (b ≤ len)
def capOkM (len : Int) (c : Int × Int) : Bool := withinM len c.1 c.2 || (c.2 == -1 && withinM len c.1 len)
def rightM (len : Int) (m : AM) : Bool := m.caps.all (capOkM len) && withinM len m.f m.t
def subM (l : List Nat) (a b : Int) : List Nat := (l.drop a.toNat).take (b - a).toNat
def decM (n : Int) : List Nat := (Lib.itoa n).map UInt8.toNat
def captureM (l : List Nat) (c : Nat) (m : AM) : Option (List Nat) :=
  if c = 37 then some [37]
  else if c = 48 ∨ (c = 49 ∧ m.caps = []) then some (subM l m.f m.t)
  else if isDigit c = false ∨ m.caps.length ≤ c - 49 then none
  else if (m.caps.getD (c - 49) (0, 0)).2 < 0 then some (decM ((m.caps.getD (c - 49) (0, 0)).1 + 1))
  else some (subM l (m.caps.getD (c - 49) (0, 0)).1 (m.caps.getD (c - 49) (0, 0)).2)
def putM (out t : List Nat) : List Nat := if out.length ≤ 4096 then out ++ t else out
def fillGo (l : List Nat) (m : AM) : List Nat → List Nat → Except Nat (List Nat)
  | [], out => if 4096 < out.length then .error 14 else .ok out
  | c :: r, out =>
    if c = 37 then
      match r with
      | [] => .error 4
      | d :: r' =>
        match captureM l d m with
        | none => .error 4
        | some t => fillGo l m r' (putM out t)
    else fillGo l m r (putM out [c])
def fillM (l repl : List Nat) (m : AM) : Except Nat (List Nat) := if rightM l.length m then fillGo l m repl [] else .error 2
theorem fillGo_cons (l : List Nat) (m : AM) (c : Nat) (r out : List Nat) : fillGo l m (c :: r) out =
    if c = 37 then
      match r with
      | [] => .error 4
      | d :: r' =>
        match captureM l d m with
        | none => .error 4
        | some t => fillGo l m r' (putM out t)
    else fillGo l m r (putM out [c]) := by
  cases r <;> rfl

/-- A slice of captures that is only read. -/
def CapsR (w : World) (v : Value) (l : List (Int × Int)) : Prop := ∃ ao cap, v = .slice ao l.length cap ∧ (0 < l.length → ∃ g o, ao = some ⟨g, o, none⟩ ∧ g < w.heap.size ∧
  ∀ k, k < l.length → w.cell? ⟨g, o + k * 2, none⟩ = some (.int .i64 (l.getD k (0, 0)).1) ∧ w.cell? ⟨g, o + k * 2 + 1, none⟩ = some (.int .i64 (l.getD k (0, 0)).2))
theorem flatP_get : ∀ (l : List (Int × Int)) (k : Nat), k < l.length → (l.flatMap pairP)[k * 2]? = some (.int .i64 (l.getD k (0, 0)).1) ∧ (l.flatMap pairP)[k * 2 + 1]? = some (.int .i64 (l.getD k (0, 0)).2)
  | [], k, h => by cases h
  | c :: l, 0, _ => by simp [pairP]
  | c :: l, k + 1, h => by
    have := flatP_get l k (by simpa using h)
    simp only [List.flatMap_cons, pairP, List.cons_append, List.nil_append]
    have e1 : (k + 1) * 2 = k * 2 + 1 + 1 := by omega
    rw [e1]
    simpa using this
theorem capsR_of {w : World} {base : Nat} {v : Value} {l : List (Int × Int)} (h : CapsV w base v l) : CapsR w v l := by
  obtain ⟨ao, cap, hv⟩ := capsV_slice h
  refine ⟨ao, cap, hv, fun h0 => ?_⟩
  rcases h.2 with ⟨_, hn⟩ | ⟨g, cap', cur, hv', hb, hh, hle, _, hsz, htk⟩
  · omega
  · rw [hv] at hv'
    injection hv' with h1
    refine ⟨g, 0, h1, (Array.getElem?_eq_some_iff.1 hh).1, fun k hk => ?_⟩
    have := flatP_get l k hk
    rw [← htk] at this
    rw [cell_of_heap hh, cell_of_heap hh]
    simp only [Nat.zero_add]
    rw [List.getElem?_take_of_lt (by omega), List.getElem?_take_of_lt (by omega)] at this
    simpa using this
theorem CapsR.mono {w w' : World} {v : Value} {l : List (Int × Int)} (h : CapsR w v l) {B : Nat} (hb : Below B w w') (hB : w.heap.size ≤ B) : CapsR w' v l := by
  obtain ⟨ao, cap, hv, h⟩ := h
  refine ⟨ao, cap, hv, fun h0 => ?_⟩
  obtain ⟨g, o, h1, h2, h3⟩ := h h0
  have hs := hb.size
  exact ⟨g, o, h1, by omega, fun k hk => by rw [hb.cell (p := ⟨g, o + k * 2, none⟩) (by show g < B; omega), hb.cell (p := ⟨g, o + k * 2 + 1, none⟩) (by show g < B; omega)]; exact h3 k hk⟩
/-- The table of powers of ten lies as it was laid. -/
def Tab (w : World) : Prop := Lib.TabIs Tryd.prog w "internal/strconv.uint64pow10" .u64 Lib.pow10Tab
theorem Tab.mono {w w' : World} (h : Tab w) {B : Nat} (hb : Below B w w') (hB : w.heap.size ≤ B) : Tab w' := by
  unfold Tab Lib.TabIs World.var? at *
  cases hg : Tryd.prog.globalNamed "internal/strconv.uint64pow10" with
  | none => rw [hg] at h; cases h
  | some g =>
    rw [hg] at h
    simp only [Option.bind_some] at h ⊢
    by_cases hlt : g < w.heap.size
    · rw [hb.block g (by omega)]; exact h
    · rw [Array.getElem?_eq_none (by omega)] at h; cases h
theorem strCells_eq (s : ByteArray) : Lib.strCells s = Lib.byteCells s.data.toList := rfl
theorem within_c (s : ByteArray) (a b : Int) (w : World) : Calls Tryd.prog 56 #[.string s, .int .i64 a, .int .i64 b] w fun e w' => e = .returned (.bool (withinM s.size a b)) ∧ w = w' := by
  go_enter Tryd.func56, Tryd.ntmps56
  go_wp2
  all_goals (go_ret; exact ⟨ret_bool (by unfold withinM; rw [Bool.eq_iff_iff]; simp; omega), rfl⟩)
end Go.Proofs.YtpbhncmaamedhaaDoor
