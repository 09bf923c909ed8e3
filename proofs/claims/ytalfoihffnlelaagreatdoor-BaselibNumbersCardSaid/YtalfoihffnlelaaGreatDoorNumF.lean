import Derived.Test.YtalfoihffnlelaaGreatDoorLexB
import Derived.Laws.IdiomStrings
import Derived.OwnWalk
import Derived.Laws.OwnMore
import Derived.Lib.SmallJoins
import Derived.Laws.BitsLemmas
import Derived.Laws.Bits64
import Derived.Maps.OwnSet
import Derived.DeepKeys3
import Derived.Test.YtalfoihffnlelaaGreatDoorRows
import Derived.Test.YtalfoihffnlelaaGreatDoorChecked
import Derived.ChangeSame
import Derived.ProofKit
import Derived.LaidMore
import Derived.OpenShut
import Derived.Stop.Joined
import Derived.Lib.LaidTab
import Derived.Handed
import Derived.Lay
import Derived.Carry
import Derived.SevenTiedAt
import Derived.ChangeMaps5
import Derived.Deep.MidRow
import Derived.Laws.AppendOwnNone
set_option linter.unusedVariables false
set_option linter.unusedSimpArgs false
set_option maxRecDepth 100000
namespace Go.Proofs.YtalfoihffnlelaaGreatDoor
open Go.RowKit Go.Proofs.Lexi
theorem slash_cons (c : Nat) (r : List Nat) : slashAt (c :: r) = if c = 47 then some 0 else (slashAt r).map (· + 1) := rfl
theorem index_slash : ∀ l : List UInt8, Lib.index l [47] = slashI 0 (slashAt (l.map UInt8.toNat))
  | [] => rfl
  | b :: l => by
    have ih := index_slash l
    show (if ([47] : List UInt8).isPrefixOf (b :: l) then (0 : Int) else if Lib.index l [47] == -1 then -1 else Lib.index l [47] + 1) = _
    have hp : ([47] : List UInt8).isPrefixOf (b :: l) = (47 == b) := by simp [List.isPrefixOf]
    rw [hp, ih, List.map_cons, slash_cons]
    by_cases hb : b = 47
    · subst hb; rfl
    · have h1 : ((47 : UInt8) == b) = false := by rw [beq_eq_false_iff_ne]; exact fun h => hb h.symm
      have h2 : b.toNat ≠ 47 := fun h => hb (UInt8.toNat_inj.1 h)
      rw [h1, if_neg (by decide), if_neg h2]
      cases slashAt (l.map UInt8.toNat) with
      | none => rfl
      | some k =>
        show (if (((0 + k : Nat) : Int) == -1) = true then (-1 : Int) else ((0 + k : Nat) : Int) + 1) = ((0 + (k + 1) : Nat) : Int)
        rw [if_neg]
        · omega
        · rw [beq_iff_eq]; omega
theorem cut_none {s : ByteArray} (h : slashAt (bytesOf s) = none) : Lib.cut s.data.toList [47] = (s.data.toList, [], false) := by
  unfold Lib.cut
  rw [index_slash, show s.data.toList.map UInt8.toNat = bytesOf s from rfl, h]
  rfl
theorem cut_some {s : ByteArray} {k : Nat} (h : slashAt (bytesOf s) = some k) : Lib.cut s.data.toList [47] = (s.data.toList.take k, s.data.toList.drop (k + 1), true) := by
  unfold Lib.cut
  rw [index_slash, show s.data.toList.map UInt8.toNat = bytesOf s from rfl, h]
  show (if (0 : Int) ≤ ((0 + k : Nat) : Int) then _ else _) = _
  rw [if_pos (by omega)]
  show (s.data.toList.take (((0 + k : Nat) : Int)).toNat, s.data.toList.drop ((((0 + k : Nat) : Int)).toNat + 1), true) = _
  rw [show (((0 + k : Nat) : Int)).toNat = k by omega]
theorem bytes_list (l : List UInt8) : bytesOf ⟨l.toArray⟩ = l.map UInt8.toNat := by unfold bytesOf; simp
def CutTo (s p q : ByteArray) (b : Bool) (w : World) : Prop := ∀ W, W.cell? ⟨0, 0, none⟩ = w.cell? ⟨0, 0, none⟩ → Calls Tryz.prog 177 #[.string s, .string ⟨#[47]⟩] W fun e w' => e = .returned (.tuple #[.string p, .string q, .bool b]) ∧ ∃ n, w' = W.drewN n
def FormWays (p q : ByteArray) : Prop :=
  p.toList.isEmpty = true ∨ (p.toList.isEmpty = false ∧ q.toList.isEmpty = true ∧ (p.toList.isEmpty || q.toList.isEmpty) = true) ∨
  (p.toList.isEmpty = false ∧ q.toList.isEmpty = false ∧ (p.toList.isEmpty || q.toList.isEmpty) = false ∧ ∃ a : Nat, PRuns p 0 10 a ∧ ((a : Int) != (p.size : Int)) = true) ∨
  (p.toList.isEmpty = false ∧ q.toList.isEmpty = false ∧ (p.toList.isEmpty || q.toList.isEmpty) = false ∧ (∃ a : Nat, PRuns p 0 10 a ∧ ((a : Int) != (p.size : Int)) = false) ∧ ∃ a : Nat, PRuns q 0 10 a ∧ ((a : Int) != (q.size : Int)) = true)
def IntTo (s : ByteArray) (A : Option Nat) : Prop := ∀ W, Calls Tryz.prog 175 #[.string s, .int .i64 10] W (OptPost W A)
def fracN (t : List Nat) : RR := match slashAt t with
  | none => .error 4
  | some k => fractionN (t.take k) (t.drop (k + 1))
theorem emp_true {p : ByteArray} (h : p.size = 0) : p.toList.isEmpty = true := by rw [toList_nil h]; rfl
theorem emp_false {p : ByteArray} (h : 0 < p.size) : p.toList.isEmpty = false := by
  cases he : p.toList.isEmpty with
  | false => rfl
  | true => exact absurd (List.isEmpty_iff.1 he) (toList_ne h)
theorem numeral_le (t : List Nat) : (numeralG t).1 ≤ t.length := by
  cases hx : hexHead t with
  | true =>
    rw [numeral_hex hx]
    have h1 := runN_le 16 (t.drop 2)
    rw [List.length_drop] at h1
    have h2 : 2 ≤ t.length := by
      match t, hx with
      | _ :: _ :: _ :: _, _ => simp
    show 2 + runN 16 (t.drop 2) ≤ _
    omega
  | false =>
    rw [numeral_dec hx]
    have h1 := runN_le 10 t
    split
    · exact Nat.zero_le _
    · split
      · exact h1
      · rename_i hp
        show runN 10 t + 1 + placesN t (runN 10 t) ≤ _
        unfold placesN at hp ⊢
        by_cases hc : t[runN 10 t]? = some 46
        · rw [if_pos hc]
          have h2 := runN_le 10 (t.drop (runN 10 t + 1))
          have h3 := (List.getElem?_eq_some_iff.1 hc).1
          rw [List.length_drop] at h2
          omega
        · rw [if_neg hc] at hp; exact absurd rfl hp
theorem uns_num {t : List Nat} (h0 : (numeralG t).1 ≠ 0) (h1 : (numeralG t).1 = t.length) : unsignedG t = (numeralG t).2 := by
  unfold unsignedG
  cases hk : slashAt t with
  | none =>
    show (if (numeralG t).1 = 0 ∨ (numeralG t).1 < t.length then _ else _) = _
    rw [if_neg (by omega)]
  | some k =>
    obtain ⟨h2, h3, _⟩ := slashAt_some hk
    have := numeral_slash h3
    omega
theorem uns_frac {t : List Nat} (h : (numeralG t).1 = 0 ∨ (numeralG t).1 ≠ t.length) : unsignedG t = fracN t := by
  unfold unsignedG fracN
  cases hk : slashAt t with
  | none =>
    show (if (numeralG t).1 = 0 ∨ (numeralG t).1 < t.length then _ else _) = _
    rw [if_pos]
    have := numeral_le t
    omega
  | some k => rfl
theorem find_fst (t : List Nat) : (∀ h p e f, findN t = some (h, p, e, f) → (numeralG t).1 = e ∧ e ≠ 0) ∧ (findN t = none → (numeralG t).1 = 0) := by
  unfold findN
  cases hx : hexHead t with
  | true =>
    rw [numeral_hex hx]
    refine ⟨fun h p e f hh => ?_, fun h => by cases h⟩
    rw [if_pos rfl] at hh
    injection hh with hh
    simp only [Prod.mk.injEq] at hh
    obtain ⟨_, _, rfl, _⟩ := hh
    exact ⟨rfl, by omega⟩
  | false =>
    rw [numeral_dec hx]
    by_cases h0 : runN 10 t = 0
    · rw [if_neg (by decide), if_pos h0, if_pos h0]
      exact ⟨fun h p e f hh => (by cases hh), fun _ => rfl⟩
    · rw [if_neg (by decide), if_neg h0, if_neg h0]
      by_cases hp : placesN t (runN 10 t) = 0
      · rw [if_pos hp, if_pos hp]
        refine ⟨fun h p e f hh => ?_, fun h => by cases h⟩
        injection hh with hh
        simp only [Prod.mk.injEq] at hh
        obtain ⟨_, _, rfl, _⟩ := hh
        exact ⟨rfl, h0⟩
      · rw [if_neg hp, if_neg hp]
        refine ⟨fun h p e f hh => ?_, fun h => by cases h⟩
        injection hh with hh
        simp only [Prod.mk.injEq] at hh
        obtain ⟨_, _, rfl, _⟩ := hh
        exact ⟨rfl, by omega⟩
/-- CutPrefix at "-". -/
def PreTo (s u : ByteArray) (b : Bool) : Prop := ∀ W, Calls Tryz.prog 107 #[.string s, .string ⟨#[45]⟩] W fun e w' => e = .returned (.tuple #[.string u, .bool b]) ∧ w' = W
def NumbAt (u : ByteArray) (hx : Bool) (p : Int) (e f : Nat) (M : RR) : Prop := ∀ W, Calls Tryz.prog 153 #[.agg #[.bool hx, .int .i64 p, .int .i64 (e : Nat), .int .i64 (f : Nat)], .string u] W (NumPost W M)
/-- The ways of the numeral's place: a numeral that is all, or a fraction. -/
def TailWays (u : ByteArray) (M : RR) (w : World) : Prop := ∃ F : FR, (∀ W, Calls Tryz.prog 152 #[.string u, .int .i64 0] W (FindPost W F)) ∧
  ((F = none ∧ ∀ W, W.cell? ⟨0, 0, none⟩ = w.cell? ⟨0, 0, none⟩ → Calls Tryz.prog 154 #[.string u] W (NumPost W M)) ∨
  (∃ hx p e f, F = some (hx, p, e, f) ∧ (((e : Nat) : Int) == (u.size : Int)) = false ∧ ∀ W, W.cell? ⟨0, 0, none⟩ = w.cell? ⟨0, 0, none⟩ → Calls Tryz.prog 154 #[.string u] W (NumPost W M)) ∨
  (∃ hx p e f, F = some (hx, p, e, f) ∧ (((e : Nat) : Int) == (u.size : Int)) = true ∧ NumbAt u hx p e f M))
def PTrimTo (s t : ByteArray) : Prop := ∀ W, Calls Tryz.prog 151 #[.string s] W (fun e w' => e = .returned (.string t) ∧ Below W.heap.size W w')
theorem digits_len (v : Nat) (h : (v : Int) ≤ 9223372036854775807) : (Lib.decDigits v).length ≤ 19 := by
  have key : ∀ k v : Nat, v < 10 ^ (k + 1) → (Lib.decDigits v).length ≤ k + 1 := by
    intro k
    induction k with
    | zero => intro v hv; rw [Lib.decDigits, dif_pos (by simpa using hv)]; exact Nat.le_refl _
    | succ k ih =>
      intro v hv
      rw [Lib.decDigits]
      split
      · simp
      · have := ih (v / 10) (by rw [Nat.pow_succ] at hv; omega)
        simp; omega
  exact key 18 v (by rw [show (10 : Nat) ^ (18 + 1) = 10000000000000000000 from by decide]; omega)
def itoaB (n : Int) : ByteArray := ⟨(Lib.itoa n).toArray⟩
def slashB : ByteArray := ⟨#[47]⟩
def textB (a : N2) : ByteArray := if validN a then (if a.2 = 1 then itoaB a.1 else itoaB a.1 ++ slashB ++ itoaB a.2) else ⟨#[110, 97, 110]⟩
def StrB (w : World) (s : ByteArray) (e : Ending) (w' : World) : Prop := e = .returned (.string s) ∧ Below w.heap.size w w'
theorem str_done {w w' : World} {s t : ByteArray} (h : s = t) (hb : Below w.heap.size w w') : StrB w s (.returned (.string t)) w' := by subst h; exact ⟨rfl, hb⟩
theorem itoaB_size {n : Int} (h1 : -2147483647 ≤ n) (h2 : n ≤ 2147483647) : (itoaB n).size ≤ 20 := by
  have h := digits_len n.natAbs (by omega)
  have hs : (itoaB n).size = (Lib.itoa n).length := by unfold itoaB; exact List.size_toArray
  rw [hs]
  unfold Lib.itoa
  split
  · rw [List.length_cons]; omega
  · rw [show n.toNat = n.natAbs by omega]; omega
def Pow10 (w : World) : Prop := Lib.TabIs Tryz.prog w "internal/strconv.uint64pow10" .u64 Lib.pow10Tab
theorem pow10_glob : (Tryz.prog.globalNamed "internal/strconv.uint64pow10").isSome = true := by kernel_rfl
theorem Pow10.stays {w w' : World} (h : Pow10 w) (hb : Below w.heap.size w w') : Pow10 w' := by
  obtain ⟨g, hg⟩ := Option.isSome_iff_exists.1 pow10_glob
  exact Joins.tab_stays hg h hb (Nat.le_refl _)
theorem below_growN (w : World) (k : Nat) (os : Array Obj) : Below w.heap.size w (Sort.grow (w.drewN k) os) := by
  have h := bdn (Below.refl w.heap.size w) k
  have hs := h.size
  refine ⟨h.os, h.tape, h.output, ?_, fun i hi => ?_⟩
  · show w.heap.size ≤ ((w.drewN k).heap ++ os).size
    rw [Array.size_append]; omega
  · show ((w.drewN k).heap ++ os)[i]? = _
    rw [Array.getElem?_append_left (by omega)]
    exact h.block i hi
def ValPost (w : World) (v : V) (e : Ending) (w' : World) : Prop := e = .returned v.v ∧ Below w.heap.size w w'
theorem below_five {B : Nat} {a w : World} (h : Below B a w) {b : Nat} (hb : B ≤ b) (x y z u v : Value) : Below B a (((((w.setCell ⟨b, 0, none⟩ x).setCell ⟨b, 1, none⟩ y).setCell ⟨b, 2, none⟩ z).setCell ⟨b, 3, none⟩ u).setCell ⟨b, 4, none⟩ v) :=
  ((((h.setCell (p := ⟨b, 0, none⟩) hb x).setCell (p := ⟨b, 1, none⟩) hb y).setCell (p := ⟨b, 2, none⟩) hb z).setCell (p := ⟨b, 3, none⟩) hb u).setCell (p := ⟨b, 4, none⟩) hb v
theorem val_done {w w' : World} {v : V} {k p q r : Int} {s : ByteArray} (h : v = ⟨k, p, q, s, r⟩) (hb : Below w.heap.size w w') : ValPost w v (.returned (.agg #[.int .i64 k, .int .i64 p, .int .i64 q, .string s, .int .i64 r])) w' := by subst h; exact ⟨rfl, hb⟩
theorem ne_eq {n : Nat} {b : Bool} (h : (((n : Nat) : Int) != 0) = b) : (((n : Nat) : Int) == 0) = !b := by rw [← h, bne, Bool.not_not]
def orType : RR → RR
  | .ok a => .ok a
  | .error _ => .error 8
theorem good_minus {R : RR} (h : Good R) : Good (minusN R) := by
  cases R with
  | error c => exact h
  | ok a => exact ⟨by have := h.2.1; show -2147483647 ≤ -a.1; omega, by have := h.1; show -a.1 ≤ 2147483647; omega, h.2.2⟩
theorem good_parse (l : List Nat) : Good (parseG l) := by
  unfold parseG
  cases trimG l with
  | nil => exact (good_unsigned [] : Good (unsignedG []))
  | cons c r => rw [signed_cons]; split; exact good_minus (good_unsigned _); exact good_unsigned _
abbrev o5 (k p q : Int) (s : ByteArray) (r : Int) : Obj := .cells #[.int .i64 k, .int .i64 p, .int .i64 q, .string s, .int .i64 r] 30
theorem frozen_of_heap {w : World} {b : Nat} {cs : Array Value} {t : TypeId} (h : w.heap[b]? = some (.cells cs t (0, 0))) (o : Nat) : w.frozen? ⟨b, o, none⟩ = false := by simp [World.frozen?, h]
theorem hkeep {w w' : World} (hb : Below w.heap.size w w') {b : Nat} {o : Obj} (h : w.heap[b]? = some o) : w'.heap[b]? = some o := (hb.block b (Array.getElem?_eq_some_iff.1 h).1).trans h
abbrev oV (k p q : Int) (s : ByteArray) (r : Int) : Obj := .cells #[.int .i64 k, .int .i64 p, .int .i64 q, .string s, .int .i64 r] 30
theorem textB_size (a : N2) : (textB a).size ≤ 4096 := by
  unfold textB
  cases hv : validN a with
  | false => show (3 : Nat) ≤ 4096; decide
  | true =>
    obtain ⟨b1, b2, b3, b4⟩ := validN_bounds hv
    have h1 := itoaB_size b3 b4
    have h2 := itoaB_size (n := a.2) (by omega) b2
    rw [if_pos rfl]
    split
    · omega
    · rw [ByteArray.size_append, ByteArray.size_append]
      have : slashB.size = 1 := rfl
      omega
theorem hgrow {w w' : World} (hb : Below w.heap.size w w') (o : Obj) {b : Nat} {x : Obj} (h : w.heap[b]? = some x) : (w'.alloc o).heap[b]? = some x := by
  have h1 := hkeep hb h
  exact (Below.heap_alloc w' o b (Array.getElem?_eq_some_iff.1 h1).1).trans h1
/-- What the program reads of its package-level variables. -/
def Glob (w : World) : Prop := (∃ m, w.cell? ⟨0, 0, none⟩ = some (.int .i64 m)) ∧ Pow10 w
theorem Glob.stays {w w' : World} (h : Glob w) (hb : Below w.heap.size w w') : Glob w' := by
  obtain ⟨⟨m, hm⟩, hp⟩ := h
  exact ⟨⟨m, (hb.cell (p := ⟨0, 0, none⟩) (World.block_lt_of_cell? _ _ hm)).trans hm⟩, hp.stays hb⟩
end Go.Proofs.YtalfoihffnlelaaGreatDoor
namespace Go.Proofs.YtalfoihffnlelaaGreatDoor
open Go.RowKit Go.Proofs.Lexi Go.ChangeMaps Go.MapKept
open Go.Maps (Keyed)
/-- What a call changes: the blocks in F, and new ones. -/
structure Mods (F : Nat → Prop) (w w' : World) : Prop where
  os : w'.os = w.os
  tape : w'.tape = w.tape
  output : w'.output = w.output
  size : w.heap.size ≤ w'.heap.size
  block : ∀ k, k < w.heap.size → ¬ F k → w'.heap[k]? = w.heap[k]?
theorem Mods.of_below {F : Nat → Prop} {w w' : World} (h : Below w.heap.size w w') : Mods F w w' := ⟨h.os, h.tape, h.output, h.size, fun k hk _ => h.block k hk⟩
theorem Mods.below {F : Nat → Prop} {B : Nat} {w w' : World} (h : Mods F w w') (hB : B ≤ w.heap.size) (hF : ∀ k, k < B → ¬ F k) : Below B w w' :=
  ⟨h.os, h.tape, h.output, h.size, fun k hk => h.block k (by omega) (hF k hk)⟩
theorem Mods.refl (F : Nat → Prop) (w : World) : Mods F w w := ⟨rfl, rfl, rfl, Nat.le_refl _, fun _ _ _ => rfl⟩
theorem Mods.trans {F : Nat → Prop} {a b c : World} (h : Mods F a b) (k : Mods F b c) : Mods F a c :=
  ⟨k.os.trans h.os, k.tape.trans h.tape, k.output.trans h.output, Nat.le_trans h.size k.size, fun i hi hF => (k.block i (Nat.lt_of_lt_of_le hi h.size) hF).trans (h.block i hi hF)⟩
theorem Mods.mono {F G : Nat → Prop} {a b : World} (h : Mods F a b) (hFG : ∀ k, k < a.heap.size → F k → G k) : Mods G a b :=
  ⟨h.os, h.tape, h.output, h.size, fun k hk hG => h.block k hk (fun hF => hG (hFG k hk hF))⟩
variable {P : Program}
/-- The stamps of a map's entries: no two are alike, all lie below the clock. -/
def Born (es : Array MapEntry) (c : Nat) : Prop := (es.toList.map (·.born)).Nodup ∧ ∀ b ∈ es.toList.map (·.born), b < c
theorem Born.same {es es' : Array MapEntry} {c : Nat} (h : Born es c) (e : es'.toList.map (·.born) = es.toList.map (·.born)) : Born es' c := by
  unfold Born
  rw [e]
  exact h
theorem Born.erase {es : Array MapEntry} {c : Nat} (h : Born es c) (j : Nat) : Born (es.eraseIdxIfInBounds j) c := by
  have e : ((es.eraseIdxIfInBounds j).toList.map (·.born)) = (es.toList.map (·.born)).eraseIdx j := by rw [Array.toList_eraseIdxIfInBounds, map_eraseIdx]
  unfold Born
  rw [e]
  exact ⟨h.1.sublist (List.eraseIdx_sublist _ _), fun b hb => h.2 b (List.mem_of_mem_eraseIdx hb)⟩
/-- A map's entries, in the order of the block. -/
def MapAt (P : Program) (k : TypeId) (w : World) (b : Nat) (E : List (Value × Value)) : Prop :=
  ∃ es clock, w.heap[b]? = some (.map es clock) ∧ es.toList.map (fun e => (e.key, e.val)) = E ∧ (∀ p ∈ E, ∃ l, keyOf P k p.1 = some l) ∧ E.Pairwise (fun p q => p.1 ≠ q.1) ∧ Born es clock
theorem MapAt.lt {k : TypeId} {w : World} {b : Nat} {E : List (Value × Value)} (h : MapAt P k w b E) : b < w.heap.size := by
  obtain ⟨es, c, hb, _⟩ := h
  exact (Array.getElem?_eq_some_iff.1 hb).1
theorem MapAt.keep {k : TypeId} {w w' : World} {b : Nat} {E : List (Value × Value)} (h : MapAt P k w b E) (hk : w'.heap[b]? = w.heap[b]?) : MapAt P k w' b E := by
  obtain ⟨es, c, hb, r⟩ := h
  exact ⟨es, c, hk.trans hb, r⟩
theorem mem_entries {es : Array MapEntry} {E : List (Value × Value)} (hE : es.toList.map (fun e => (e.key, e.val)) = E) {j : Nat} {e : MapEntry} (hj : es.toList[j]? = some e) : E[j]? = some (e.key, e.val) := by
  rw [← hE, List.getElem?_map, hj]; rfl
section
variable {k e t : TypeId} {w : World} {b : Nat} {E : List (Value × Value)}
theorem MapAt.find (h : MapAt P k w b E) (K : Keyed P k) {x : Value} {l : Lit} (hx : keyOf P k x = some l) {es : Array MapEntry} {c : Nat} (hb : w.heap[b]? = some (.map es c)) :
    ((Instr.findKey k x es.toList).run P w = .ok none w ∧ ∀ p ∈ E, p.1 ≠ x) ∨ ∃ j v, (Instr.findKey k x es.toList).run P w = .ok (some (j, v)) w ∧ E[j]? = some (x, v) ∧ j < es.size ∧ (es[j]?).map (·.key) = some x := by
  obtain ⟨es', c', hb', hE, hk, hd, _⟩ := h
  rw [hb] at hb'
  injection hb' with hb'
  injection hb' with h1 h2
  subst h1 h2
  rcases K.find w hx es.toList (fun y hy => by
    obtain ⟨j, hj⟩ := List.getElem?_of_mem hy
    exact hk _ (List.mem_of_getElem? (mem_entries hE hj))) with ⟨h1, h2⟩ | ⟨j, y, h1, h2, h3⟩
  · refine .inl ⟨h1, fun p hp => ?_⟩
    rw [← hE, List.mem_map] at hp
    obtain ⟨y, hy, rfl⟩ := hp
    exact h2 y hy
  · refine .inr ⟨j, y.val, h1, by rw [mem_entries hE h2, h3], ?_, ?_⟩
    · have := (List.getElem?_eq_some_iff.1 h2).1
      rwa [Array.length_toList] at this
    · rw [← Array.getElem?_toList, h2, ← h3]; rfl
/-- The deletion. -/
theorem MapAt.drop (h : MapAt P k w b E) (K : Keyed P k) (ht : P.underlying t = some (.map k e)) {x : Value} {l : Lit} (hx : keyOf P k x = some l) (ty : TypeId) :
    ∃ w' E', (Builtin.delete_ #[t, k] ty #[.map (some b), x]).run P w = .ok (.tuple #[]) w' ∧ MapAt P k w' b E' ∧ Mods (· = b) w w' ∧ w'.heap.size = w.heap.size ∧
      (∀ p, p ∈ E' ↔ p ∈ E ∧ p.1 ≠ x) := by
  have h0 := h
  obtain ⟨es, cl, hb, hE, hk, hd, hn⟩ := h0
  rcases h.find K hx hb with ⟨h1, h2⟩ | ⟨j, v0, h1, h2, h3, h4⟩
  · refine ⟨_, E, by simp [Builtin.delete_, run_underlying ht, MapKept.run_getObj_map hb, K.check w es.isEmpty hx, h1, MapKept.run_setObj_map _ hb, Result.andThen]; rfl, ?_, ?_, ?_, ?_⟩
    · exact ⟨_, _, (heap_set hb).1, hE, hk, hd, hn⟩
    · exact ⟨rfl, rfl, rfl, by simp, fun r _ hr => (heap_set hb).2 r hr⟩
    · simp
    · exact fun p => ⟨fun hp => ⟨hp, h2 p hp⟩, fun hp => hp.1⟩
  · have hl := (List.getElem?_eq_some_iff.1 h2).1
    have hjx : E[j] = (x, v0) := by rw [List.getElem?_eq_getElem hl] at h2; injection h2
    have hje : E.eraseIdx j = (es.eraseIdxIfInBounds j).toList.map (fun e => (e.key, e.val)) := by
      rw [← hE, Array.toList_eraseIdxIfInBounds, map_eraseIdx]
    refine ⟨_, E.eraseIdx j, by simp [Builtin.delete_, run_underlying ht, MapKept.run_getObj_map hb, K.check w es.isEmpty hx, h1, MapKept.run_setObj_map _ hb, Result.andThen]; rfl, ?_, ?_, ?_, ?_⟩
    · refine ⟨_, _, (heap_set hb).1, hje.symm, fun p hp => hk p (List.mem_of_mem_eraseIdx hp), hd.sublist (List.eraseIdx_sublist _ _), hn.erase j⟩
    · exact ⟨rfl, rfl, rfl, by simp, fun r _ hr => (heap_set hb).2 r hr⟩
    · simp
    · intro p
      rw [List.mem_eraseIdx_iff_getElem]
      constructor
      · rintro ⟨i, hi, hne, rfl⟩
        refine ⟨List.getElem_mem hi, fun hc => ?_⟩
        rcases Nat.lt_or_gt_of_ne hne with hlt | hgt
        · have := (List.pairwise_iff_getElem.1 hd) i j hi hl hlt
          rw [hjx] at this
          exact this hc
        · have := (List.pairwise_iff_getElem.1 hd) j i hl hi hgt
          rw [hjx] at this
          exact this hc.symm
      · rintro ⟨h5, h6⟩
        obtain ⟨i, hi, rfl⟩ := List.getElem_of_mem h5
        refine ⟨i, hi, ?_, rfl⟩
        rintro rfl
        rw [hjx] at h6
        exact h6 rfl
end
end Go.Proofs.YtalfoihffnlelaaGreatDoor
namespace Go.Proofs.YtalfoihffnlelaaGreatDoor
open Go.RowKit Go.Proofs.Lexi
def i64 (n : Int) : Prop := -9223372036854775808 ≤ n ∧ n ≤ 9223372036854775807
structure WfV (v : V) : Prop where
  k : i64 v.k
  p : i64 v.p
  q : i64 v.q
  s : v.s.size ≤ maxLen
  r : i64 v.r
theorem cells23 : Tryz.prog.cellsOf 28 = 2 := by kernel_rfl
theorem cells3 : Tryz.prog.cellsOf 3 = 1 := by kernel_rfl
end Go.Proofs.YtalfoihffnlelaaGreatDoor
namespace Go.Proofs.YtalfoihffnlelaaGreatDoor
open Go.ChangeShapes Go.WideShapes Go.ChangeAt Go.WideMaps Go.WideElems Go.RowKit
theorem Tryz.own : ownKnob Tryz.prog.godebug = none := by kernel_rfl
theorem Tryz.tPow : ∃ g, Tryz.prog.globalNamed "internal/strconv.uint64pow10" = some g ∧ (Tryz.prog.globals[g]?).map (·.type) = some 131 := by
  refine ⟨(Tryz.prog.globalNamed "internal/strconv.uint64pow10").getD 0, ?_, ?_⟩ <;> kernel_rfl
theorem Tryz.cPow : Tryz.prog.cellsOf 131 = 20 := by kernel_rfl
theorem Tryz.c64 : Tryz.prog.cellsOf 97 = 1 := by kernel_rfl
set_option maxRecDepth 100000 in
theorem glob_zero {W : World} (hs : W.ShapedOpen Tryz.prog) : ∃ m, W.cell? ⟨0, 0, none⟩ = some (.int .i64 m) := by
  have e : ((begin Tryz.prog (fun _ _ => 0) default).world.heap[0]?).bind Obj.row? = some (#[.int .i64 0], 3) := by kernel_rfl
  obtain ⟨cs, h1, h2, h3⟩ := hs.1 0 #[.int .i64 0] 3 (of_decide_eq_true (by kernel_rfl)) e
  obtain ⟨ts, ht, _, hc⟩ := h3 (by kernel_rfl)
  have hct : Tryz.prog.cellTypes Tryz.prog.depth 3 = some [3] := by kernel_rfl
  rw [hct] at ht
  injection ht with ht
  subst ht
  have hz : 0 < cs.size := by rw [h2]; decide
  obtain ⟨u, hu, hv⟩ := hc 0 cs[0] (Array.getElem?_eq_getElem hz)
  injection hu with hu
  subst hu
  unfold Cell.ok at hv
  rw [Tryz.underlying3] at hv
  generalize hx : cs[0] = x at hv
  cases x with
  | int k n =>
    obtain ⟨rfl, _⟩ := hv
    exact ⟨n, by rw [cell_of_heap h1, Array.getElem?_eq_getElem hz, hx]⟩
  | _ => exact hv.elim
section
variable {H : Type} {enc : TypeId × Value → H} {P : Program}
theorem post_of_below {f : Func} {s : ChangeSpec} {apart fresh handsOn again : Bool} {W W' : World} {args : Array Value} {v : Value} {ds gs : List (DataW H)} {before pa pv : List MemPlace}
    (hW : DataW.Whole enc P f.params.toList s.vars apart W args.toList ds gs before)
    (hres : ∀ (b : Nat) (sp : Nat → Bool) (hd : Bool), DataW.TrodAll enc P W' b sp hd f.resultTypes.toList (v.resultList f.resultTypes.size) (s.fn H (ds ++ gs)).results [])
    (hargs : ∀ sp : Nat → Bool, (∀ p ∈ before, sp p.block = true) → DataW.TrodAll enc P W' 0 sp true f.params.toList args.toList (s.fn H (ds ++ gs)).args pa)
    (hvars : ∀ sp : Nat → Bool, (∀ p ∈ before, sp p.block = true) → DataW.TrodVars enc P W' sp s.vars (s.fn H (ds ++ gs)).vars pv)
    (hps : before = pa ++ pv) (hb : Below W.heap.size W W')
    (hok : ∀ (j : Nat) (t : TypeId) (r : Value), f.resultTypes[j]? = some t → (v.resultList f.resultTypes.size)[j]? = some r → Value.okWide P W' .any 0 t r) :
    s.post enc P f apart fresh handsOn again W args v W' := by
  have hlt : ∀ p ∈ before, p.block < W.heap.size := fun p hp => hW.lt p hp
  have hold : ∀ p ∈ before, (fun b => decide (b < W.heap.size)) p.block = true := fun p hp => by simpa using hlt p hp
  refine ⟨ds, gs, before, [], pa, pv, hW, hres _ _ _, hargs _ hold, hvars _ hold, World.keptBut_mono (fun p hp => ⟨hp, ?_⟩) (hb.frame (· ∈ before)), fun _ => ?_⟩
  · rw [hps, List.mem_append] at hp
    exact Or.inr hp
  · obtain ⟨_, _, _, _, _, hz, hn⟩ := hW
    refine ⟨hok, _, _, ([] ++ pa) ++ pv, ⟨[] ++ pa, pv, trodAll_append (hargs _ (fun _ _ => rfl)) (hres _ _ _), hvars _ (fun _ _ => rfl), rfl, ?_, ?_⟩, ?_⟩
    · intro b off hp
      have hin : MemPlace.cell b off ∈ before := by rw [hps]; simpa using hp
      rw [hb.frozen (hlt _ hin)]
      exact hz b off hin
    · intro ha
      have := hn ha
      rw [hps] at this
      simpa using this
    · intro p hp _
      rw [hps]
      simpa using hp
end
section
variable {H : Type} {enc : TypeId × Value → H} {P : Program} {w : World} {base : Nat} {sp : Nat → Bool} {held : Bool}
theorem under_struct {t : TypeId} {l : List (TypeId × Nat)} (h : (match P.underlying t with | some (.struct fs) => decide (fs.toList.map (fun f => (f.type, f.offset)) = l) | _ => false) = true) : ∃ fs, P.underlying t = some (.struct fs) ∧ fs.toList.map (fun f => (f.type, f.offset)) = l := by
  split at h
  · rename_i fs hfs; exact ⟨fs, hfs, of_decide_eq_true h⟩
  · cases h
theorem trod_field {t : TypeId} {l : List (TypeId × Nat)} (hs : ∃ fs, P.underlying t = some (.struct fs) ∧ fs.toList.map (fun f => (f.type, f.offset)) = l) {fuel : Nat} {cs : List Value} {x : DataW H × List MemPlace} (h : DataW.trod enc P w base sp held fuel t cs = some x) :
    cs.length = P.cellsOf t ∧ ∃ n, ∀ (i : Nat) (ty : TypeId) (off : Nat), l[i]? = some (ty, off) → ∃ y, DataW.trod enc P w base sp held n ty ((cs.drop off).take (P.cellsOf ty)) = some y := by
  obtain ⟨fs, hf, rfl⟩ := hs
  obtain ⟨xs, n, _, _, hl, hlen, hx⟩ := DataW.trod_struct hf h
  refine ⟨hl, n, fun i ty off hi => ?_⟩
  rw [List.getElem?_map, Option.map_eq_some_iff] at hi
  obtain ⟨f, hf1, hf2⟩ := hi
  have hf1' : fs[i]? = some f := by simpa using hf1
  have := hx i f hf1'
  injection hf2 with e1 e2
  subst e1 e2
  have hi' : i < xs.length := by rw [hlen]; exact (Array.getElem?_eq_some_iff.1 hf1').1
  exact ⟨xs[i], by rw [this]; exact List.getElem?_eq_getElem hi'⟩
end
theorem shape23 : ∃ fs, Tryz.prog.underlying 28 = some (.struct fs) ∧ fs.toList.map (fun f => (f.type, f.offset)) = [(3, 0), (3, 1)] := under_struct (by kernel_rfl)
theorem list_two {α : Type} {l : List α} (h : l.length = 2) : ∃ a b, l = [a, b] := by
  match l, h with
  | [a, b], _ => exact ⟨a, b, rfl⟩
theorem Tryz.laidOut : laidOutB Tryz.prog = true := by kernel_rfl
end Go.Proofs.YtalfoihffnlelaaGreatDoor
namespace Go.Proofs.YtalfoihffnlelaaGreatDoor
open Go.RowKit Go.Proofs.Lexi
def vCells (v : V) : List Value := [.int .i64 v.k, .int .i64 v.p, .int .i64 v.q, .string v.s, .int .i64 v.r]
def rowV (A : List V) : List Value := A.flatMap vCells
theorem vCells_len (v : V) : (vCells v).length = 5 := rfl
theorem rowV_len (A : List V) : (rowV A).length = A.length * 5 := by
  induction A with
  | nil => rfl
  | cons v A ih => show (vCells v ++ rowV A).length = _; rw [List.length_append, vCells_len, ih, List.length_cons]; omega
theorem rowV_at : ∀ (A : List V) (i j : Nat) (v : V), A[i]? = some v → j < 5 → (rowV A)[i * 5 + j]? = (vCells v)[j]?
  | [], i, j, v, h, _ => by simp at h
  | x :: A, 0, j, v, h, hj => by
    rw [List.getElem?_cons_zero] at h
    injection h with h
    subst h
    show (vCells x ++ rowV A)[0 * 5 + j]? = _
    rw [List.getElem?_append_left (by rw [vCells_len]; omega)]
    congr 1
    omega
  | x :: A, i + 1, j, v, h, hj => by
    rw [List.getElem?_cons_succ] at h
    show (vCells x ++ rowV A)[(i + 1) * 5 + j]? = _
    rw [List.getElem?_append_right (by rw [vCells_len]; omega), vCells_len, show (i + 1) * 5 + j - 5 = i * 5 + j by omega]
    exact rowV_at A i j v h hj
theorem rowV_one {A : List V} : ∀ u ∈ rowV A, u.oneCell' = true := by
  intro u hu
  unfold rowV at hu
  rw [List.mem_flatMap] at hu
  obtain ⟨v, _, hu⟩ := hu
  simp only [vCells, List.mem_cons, List.mem_nil_iff, or_false] at hu
  rcases hu with rfl | rfl | rfl | rfl | rfl <;> rfl
theorem rowV_drop (A : List V) (k : Nat) : rowV (A.drop k) = (rowV A).drop (k * 5) := by
  induction A generalizing k with
  | nil => simp [rowV]
  | cons v A ih =>
    cases k with
    | zero => simp
    | succ k =>
      rw [List.drop_succ_cons, ih]
      show _ = (vCells v ++ rowV A).drop ((k + 1) * 5)
      rw [List.drop_append, show (vCells v).drop ((k + 1) * 5) = [] from List.drop_eq_nil_of_le (by rw [vCells_len]; omega), vCells_len, List.nil_append, show (k + 1) * 5 - 5 = k * 5 by omega]
theorem add_mk (g o n : Nat) (s : Option Nat) : (⟨g, o, s⟩ : Addr).add n = ⟨g, o + n, if n = 0 then s else none⟩ := by
  unfold Addr.add
  split
  · rename_i h; subst h; rfl
  · rfl
theorem add_none (g o n : Nat) : (⟨g, o, none⟩ : Addr).add n = ⟨g, o + n, none⟩ := by rw [add_mk]; split <;> rfl
/-- The slice sv holds the values A, for whoever reads. -/
def Vals (w : World) (sv : Value) (A : List V) : Prop :=
  ∃ so cap, sv = .slice so A.length cap ∧ A.length ≤ cap ∧ (so = none → cap = 0) ∧ (A = [] ∨ ∃ g o, so = some ⟨g, o, none⟩ ∧ g < w.heap.size ∧ ∀ j u, (rowV A)[j]? = some u → w.cell? ⟨g, o + j, none⟩ = some u)
theorem Vals.below {w w' : World} {sv : Value} {A : List V} (h : Vals w sv A) (hb : Below w.heap.size w w') : Vals w' sv A := by
  obtain ⟨so, cap, h1, h2, hn, h3⟩ := h
  refine ⟨so, cap, h1, h2, hn, ?_⟩
  rcases h3 with h3 | ⟨g, o, h4, h5, h6⟩
  · exact .inl h3
  · exact .inr ⟨g, o, h4, Nat.lt_of_lt_of_le h5 hb.size, fun j u hj => keepCell hb (h6 j u hj)⟩
theorem Vals.of_row {w : World} {base : Nat} {sv : Value} {A : List V} (h : w.ownsRow base 30 5 sv A.length (rowV A)) : Vals w sv A := by
  obtain ⟨h1, h2⟩ := h
  rcases h2 with ⟨rfl, h3⟩ | ⟨g, cap, cur, rfl, hbg, hg, hn, hm, hc, ht⟩
  · have hA : A = [] := List.eq_nil_of_length_eq_zero h3
    subst hA
    exact ⟨none, 0, rfl, Nat.le_refl _, fun _ => rfl, .inl rfl⟩
  · refine ⟨_, cap, rfl, hn, (fun h => by cases h), .inr ⟨g, 0, rfl, (Array.getElem?_eq_some_iff.1 hg).1, fun j u hj => ?_⟩⟩
    rw [cell_of_heap hg, Nat.zero_add]
    rw [← ht, List.getElem?_take] at hj
    split at hj
    · rw [← Array.getElem?_toList]; exact hj
    · cases hj
theorem Vals.at_ {w : World} {g o n cap : Nat} {A : List V} (h : Vals w (.slice (some ⟨g, o, none⟩) n cap) A) {i : Nat} {v : V} (hi : A[i]? = some v) :
    g < w.heap.size ∧ w.cell? ⟨g, o + i * 5, none⟩ = some (.int .i64 v.k) ∧ w.cell? ⟨g, o + i * 5 + 1, none⟩ = some (.int .i64 v.p) ∧ w.cell? ⟨g, o + i * 5 + 2, none⟩ = some (.int .i64 v.q) ∧ w.cell? ⟨g, o + i * 5 + 3, none⟩ = some (.string v.s) ∧ w.cell? ⟨g, o + i * 5 + 4, none⟩ = some (.int .i64 v.r) := by
  obtain ⟨so, c, h1, h2, hn, h3⟩ := h
  injection h1 with h1 h4 h5
  rcases h3 with rfl | ⟨g2, o2, h6, h7, h8⟩
  · simp at hi
  · rw [h6] at h1
    injection h1 with h1
    injection h1 with h1 h9 h10
    subst h1 h9
    have hx : ∀ j u, j < 5 → (vCells v)[j]? = some u → w.cell? ⟨g, o + i * 5 + j, none⟩ = some u := fun j u hj hu => by
      rw [Nat.add_assoc]
      exact h8 _ _ ((rowV_at A i j v hi hj).trans hu)
    exact ⟨h7, hx 0 _ (by omega) rfl, hx 1 _ (by omega) rfl, hx 2 _ (by omega) rfl, hx 3 _ (by omega) rfl, hx 4 _ (by omega) rfl⟩
theorem Vals.nilslice (w : World) : Vals w (.slice none 0 0) [] := ⟨none, 0, rfl, Nat.le_refl _, fun _ => rfl, .inl rfl⟩
theorem Vals.empty (w : World) (ad : Addr) (cap : Nat) : Vals w (.slice (some ad) 0 cap) [] := ⟨some ad, cap, rfl, Nat.zero_le _, (fun h => by cases h), .inl rfl⟩
theorem Vals.drop {w : World} {g o n cap : Nat} {A : List V} (h : Vals w (.slice (some ⟨g, o, none⟩) n cap) A) (k : Nat) (hk : k ≤ n) : Vals w (.slice (some ⟨g, o + k * 5, none⟩) (n - k) (cap - k)) (A.drop k) := by
  obtain ⟨so, c, h1, h2, hn, h3⟩ := h
  injection h1 with h1 h4 h5
  subst h4 h5
  refine ⟨_, _, by rw [List.length_drop], by rw [List.length_drop]; omega, (fun h => by cases h), ?_⟩
  rcases h3 with rfl | ⟨g2, o2, h6, h7, h8⟩
  · exact .inl List.drop_nil
  · rw [h6] at h1
    injection h1 with h1
    injection h1 with h1 h9 h10
    subst h1 h9
    refine .inr ⟨g, o + k * 5, rfl, h7, fun j u hj => ?_⟩
    rw [rowV_drop, List.getElem?_drop] at hj
    rw [Nat.add_assoc]
    exact h8 _ _ hj
def dgV (c : Nat) : Nat := if 48 ≤ c ∧ c ≤ 57 then c - 48 else if 97 ≤ c ∧ c ≤ 122 then c - 87 else if 65 ≤ c ∧ c ≤ 90 then c - 55 else 99
def dgM (base : Nat) : List Nat → Nat → Option Nat
  | [], n => some n
  | c :: l, n => if base ≤ dgV c then none else dgM base l (min (n * base + dgV c) 2147483648)
def dgOut (s : ByteArray) : Option Nat → Int × Bool
  | none => (0, false)
  | some n => (n, decide (s.size ≠ 0 ∧ n ≤ 2147483647))
def DgPost (w : World) (p : Int × Bool) (e : Ending) (w' : World) : Prop := e = .returned (.tuple #[.int .i64 p.1, .bool p.2]) ∧ w = w'
theorem dg_done {w w' : World} {p : Int × Bool} {n : Int} {b : Bool} (h : p = (n, b)) (hw : w = w') : DgPost w p (.returned (.tuple #[.int .i64 n, .bool b])) w' := by subst h; exact ⟨rfl, hw⟩
theorem dg_step {s : ByteArray} {base i n : Nat} {R : Option Nat} (h : i < s.size) (hr : dgM base ((bytesOf s).drop i) n = R) :
    (base ≤ dgV s[i].toNat → R = none) ∧ (¬ base ≤ dgV s[i].toNat → dgM base ((bytesOf s).drop (i + 1)) (min (n * base + dgV s[i].toNat) 2147483648) = R) := by
  rw [bytesOf_drop s i h] at hr
  unfold dgM at hr
  constructor
  · intro hc; rw [if_pos hc] at hr; exact hr.symm
  · intro hc; rw [if_neg hc] at hr; exact hr
theorem dg_stop {s : ByteArray} {base i n : Nat} {R : Option Nat} (h : s.size ≤ i) (hr : dgM base ((bytesOf s).drop i) n = R) : R = some n := by
  rw [bytesOf_end s i h] at hr; exact hr.symm
theorem mul_small {n base : Nat} (hn : n ≤ 2147483648) (hb : base ≤ 36) : (0 : Int) ≤ (n : Int) * (base : Int) ∧ (n : Int) * (base : Int) ≤ 77309411328 := by
  have h : n * base ≤ 77309411328 := Nat.le_trans (Nat.mul_le_mul hn hb) (by decide)
  have e : ((n * base : Nat) : Int) = (n : Int) * (base : Int) := Int.natCast_mul _ _
  rw [← e]
  omega
end Go.Proofs.YtalfoihffnlelaaGreatDoor
namespace Go.Proofs.YtalfoihffnlelaaGreatDoor
structure Sl where
  k : V
  v : V
  g : Bool
def liveN (L : List Sl) : Nat := (L.filter (fun s => !s.g)).length
/-- f is an index of the slots. -/
structure Idx (L : List Sl) (f : V → Option Nat) : Prop where
  live : ∀ (i : Nat) (s : Sl), L[i]? = some s → s.g = false → f s.k = some i
  key : ∀ (k : V) (i : Nat), f k = some i → ∃ s, L[i]? = some s ∧ s.k = k
  gone : ∀ (i : Nat) (s : Sl), L[i]? = some s → s.g = true → s.v = V.nil
end Go.Proofs.YtalfoihffnlelaaGreatDoor
namespace Go.Proofs.YtalfoihffnlelaaGreatDoor
open Go.RowKit Go.Proofs.Lexi
def slCells (s : Sl) : List Value := [.int .i64 s.k.k, .int .i64 s.k.p, .int .i64 s.k.q, .string s.k.s, .int .i64 s.k.r, .int .i64 s.v.k, .int .i64 s.v.p, .int .i64 s.v.q, .string s.v.s, .int .i64 s.v.r, .bool s.g]
def rowSl (L : List Sl) : List Value := L.flatMap slCells
/-- The entries of a map are the graph of an index. -/
def Graph (E : List (Value × Value)) (f : V → Option Nat) : Prop := ∀ p, p ∈ E ↔ ∃ v n, p = (v.v, .int .i64 (n : Nat)) ∧ f v = some n
structure OMap (w : World) (m g : Nat) (sv : Value) (L : List Sl) : Prop where
  hm : w.heap[m]? = some (.cells #[sv, .map (some g), .int .i64 (liveN L : Nat)] 180)
  row : w.ownsRow 0 182 11 sv L.length (rowSl L)
  wf : ∀ s ∈ L, WfV s.k ∧ WfV s.v
  map : ∃ E f, MapAt Tryz.prog 30 w g E ∧ Graph E f ∧ Idx L f
theorem OMap.keep {w w' : World} {m g : Nat} {sv : Value} {L : List Sl} (h : OMap w m g sv L) (h1 : w'.heap[m]? = w.heap[m]?) (h2 : w'.heap[g]? = w.heap[g]?) (h3 : ∀ b, sv.ownBlock = some b → w'.heap[b]? = w.heap[b]?) : OMap w' m g sv L := by
  obtain ⟨a, b, wf, E, f, c, d, e⟩ := h
  exact ⟨h1.trans a, ownsRow_keep b h3, wf, E, f, c.keep h2, d, e⟩
theorem heap2_a (w : World) (o1 o2 : Obj) : ((w.alloc o1).alloc o2).heap[w.heap.size]? = some o1 := by
  rw [Below.heap_alloc _ _ _ (by simp), heap_new]
theorem heap2_b (w : World) (o1 o2 : Obj) : ((w.alloc o1).alloc o2).heap[w.heap.size + 1]? = some o2 := by
  have := heap_new (w.alloc o1) o2
  simpa using this
theorem mods_setCell {F : Nat → Prop} {a w : World} (h : Mods F a w) {b o : Nat} (hb : F b ∨ a.heap.size ≤ b) (u : Value) : Mods F a (w.setCell ⟨b, o, none⟩ u) :=
  ⟨h.os, h.tape, h.output, by simpa using h.size, fun k hk hF => by
    rw [Below.heap_setCell _ _ _ _ (show k ≠ b from fun e => by subst e; rcases hb with hb | hb; exact hF hb; omega)]
    exact h.block k hk hF⟩
def OmF (m g : Nat) (sv : Value) (b : Nat) : Prop := b = m ∨ b = g ∨ sv.ownBlock = some b
/-- What a call changes, by the blocks' types. -/
def TMods (S : Obj → Prop) (w w' : World) : Prop := Mods (fun b => ∃ o, w.heap[b]? = some o ∧ S o) w w'
theorem TMods.of_below {S : Obj → Prop} {w w' : World} (h : Below w.heap.size w w') : TMods S w w' := Mods.of_below h
theorem TMods.trans {S : Obj → Prop} {a b c : World} (h : TMods S a b) (k : TMods S b c) : TMods S a c := by
  refine ⟨k.os.trans h.os, k.tape.trans h.tape, k.output.trans h.output, Nat.le_trans h.size k.size, fun i hi hF => ?_⟩
  have h1 := h.block i hi hF
  exact (k.block i (Nat.lt_of_lt_of_le hi h.size) (fun ⟨o, h2, h3⟩ => hF ⟨o, h1 ▸ h2, h3⟩)).trans h1
theorem TMods.drew {S : Obj → Prop} {a b : World} (h : TMods S a b) : TMods S a b.drew := h.trans (TMods.of_below (Below.refl _ _).drew)
theorem TMods.drewN {S : Obj → Prop} {a b : World} (h : TMods S a b) (n : Nat) : TMods S a (b.drewN n) := h.trans (TMods.of_below (bdn (Below.refl _ _) n))
theorem TMods.alloc {S : Obj → Prop} {a b : World} (h : TMods S a b) (o : Obj) : TMods S a (b.alloc o) := h.trans (TMods.of_below ((Below.refl _ _).alloc (Nat.le_refl _) o))
/-- A block that has another type stays. -/
theorem TMods.keep {S : Obj → Prop} {w w' : World} (h : TMods S w w') {b : Nat} {o : Obj} (hb : w.heap[b]? = some o) (hS : ¬ S o) : w'.heap[b]? = some o :=
  (h.block b (Array.getElem?_eq_some_iff.1 hb).1 (fun ⟨o2, h1, h2⟩ => hS (by rw [hb] at h1; injection h1 with h1; rw [h1]; exact h2))).trans hb
theorem TMods.setCell {S : Obj → Prop} {a b : World} (h : TMods S a b) {k o : Nat} (hk : a.heap.size ≤ k ∨ ∃ x, a.heap[k]? = some x ∧ S x) (u : Value) : TMods S a (b.setCell ⟨k, o, none⟩ u) := mods_setCell h hk.symm u
theorem row_block {w : World} {base e size n : Nat} {sv : Value} {xs : List Value} (h : w.ownsRow base e size sv n xs) {b : Nat} (hb : sv.ownBlock = some b) : ∃ cs, w.heap[b]? = some (.cells cs e (0, 0)) := by
  rcases h.2 with ⟨h2, _⟩ | ⟨g', cap', cur, h2, h3, h4, _⟩
  · rw [h2] at hb; cases hb
  · rw [h2] at hb
    injection hb with hb
    subst hb
    exact ⟨_, h4⟩
structure TabAt (w : World) (t m g : Nat) (sv : Value) (L : List Sl) : Prop where
  ht : w.heap[t]? = some (.cells #[.slice none 0 0, .pointer (some ⟨m, 0, none⟩)] 148)
  om : OMap w m g sv L
theorem TabAt.keep {w w' : World} {t m g : Nat} {sv : Value} {L : List Sl} (h : TabAt w t m g sv L) (h0 : w'.heap[t]? = w.heap[t]?) (h1 : w'.heap[m]? = w.heap[m]?) (h2 : w'.heap[g]? = w.heap[g]?) (h3 : ∀ b, sv.ownBlock = some b → w'.heap[b]? = w.heap[b]?) : TabAt w' t m g sv L :=
  ⟨h0.trans h.ht, h.om.keep h1 h2 h3⟩
structure LO where
  kind : Int
  mt : V
  L : List Sl
/-- An object of the program's heap: where it lies, and what it is. -/
structure PO where
  kind : Int
  tag : Int
  name : ByteArray
  mt : V
  vals : Value
  o : Nat
  t : Nat
  m : Nat
  g : Nat
  sv : Value
  L : List Sl
def PO.lo (x : PO) : LO := ⟨x.kind, x.mt, if x.kind = 4 then x.L else []⟩
def PO.tabv (x : PO) : Value := if x.kind = 4 then .pointer (some ⟨x.t, 0, none⟩) else .pointer none
abbrev PO.cells (x : PO) : Array Value := #[.int .i64 x.kind, .int .i64 x.tag, .string x.name, x.tabv, .int .i64 x.mt.k, .int .i64 x.mt.p, .int .i64 x.mt.q, .string x.mt.s, .int .i64 x.mt.r, x.vals]
structure PObj (w : World) (x : PO) : Prop where
  ho : w.heap[x.o]? = some (.cells x.cells 144)
  kd : x.kind = 4 ∨ x.kind = 5 ∨ x.kind = 8
  wm : WfV x.mt
  fm : x.kind = 5 → x.mt = V.nil ∧ x.vals = .slice none 0 0
  tb : x.kind = 4 → TabAt w x.t x.m x.g x.sv x.L
def PSep (x y : PO) : Prop := x.o ≠ y.o ∧ (x.kind = 4 → y.kind = 4 → x.m ≠ y.m ∧ x.g ≠ y.g ∧ ∀ b, x.sv.ownBlock = some b → y.sv.ownBlock ≠ some b)
def objE (H : List PO) : List (Value × Value) := H.mapIdx fun i x => (.int .i64 ((i + 1 : Nat) : Int), .pointer (some ⟨x.o, 0, none⟩))
structure HpAt (w : World) (h bo bt : Nat) (H : List PO) : Prop where
  hh : w.heap[h]? = some (.cells #[.map (some bo), .int .i64 (H.length : Nat), .map (some bt)] 152)
  objs : MapAt Tryz.prog 3 w bo (objE H)
  touched : ∃ E, MapAt Tryz.prog 3 w bt E
  one : ∀ x ∈ H, PObj w x
  sep : H.Pairwise PSep
  ot : bo ≠ bt
  gs : ∀ x ∈ H, x.kind = 4 → x.g ≠ bo ∧ x.g ≠ bt
def PtrPost (w : World) (v : Value) (e : Ending) (w' : World) : Prop := e = .returned v ∧ Below w.heap.size w w'
theorem heap1 (w : World) (o : Obj) : (w.alloc o).heap[w.heap.size]? = some o := heap_new w o
theorem heap1_old {w : World} {b : Nat} {x : Obj} (h : w.heap[b]? = some x) (o : Obj) : (w.alloc o).heap[b]? = some x := hkeep ((Below.refl _ _).alloc (Nat.le_refl _) o) h
theorem below1 (w : World) (o : Obj) : Below w.heap.size w (w.alloc o) := (Below.refl _ _).alloc (Nat.le_refl _) o
end Go.Proofs.YtalfoihffnlelaaGreatDoor
namespace Go.Proofs.YtalfoihffnlelaaGreatDoor
structure Nd where
  k : Int
  v : V
  f : V
  args : List V
  after : Int
  s : ByteArray
def ndVal (v : V) : Nd := ⟨1, v, V.nil, [], 0, ⟨#[]⟩⟩
end Go.Proofs.YtalfoihffnlelaaGreatDoor
namespace Go.Proofs.YtalfoihffnlelaaGreatDoor
open Go.RowKit Go.Proofs.Lexi
/-- A need as the model returns it; av: the slice of its arguments. -/
abbrev ndV (n : Nd) (av : Value) : Value := .agg #[.int .i64 n.k, .int .i64 n.v.k, .int .i64 n.v.p, .int .i64 n.v.q, .string n.v.s, .int .i64 n.v.r, .int .i64 n.f.k, .int .i64 n.f.p, .int .i64 n.f.q, .string n.f.s, .int .i64 n.f.r, av, .int .i64 n.after, .string n.s]
def ArgsAt (w : World) (base : Nat) (av : Value) (l : List V) : Prop :=
  (l = [] ∧ av = .slice none 0 0) ∨ ∃ (g : Nat) (a b : V), l = [a, b] ∧ av = .slice (some ⟨g, 0, none⟩) 2 2 ∧ base ≤ g ∧ w.heap[g]? = some (.cells #[.int .i64 a.k, .int .i64 a.p, .int .i64 a.q, .string a.s, .int .i64 a.r, .int .i64 b.k, .int .i64 b.p, .int .i64 b.q, .string b.s, .int .i64 b.r] 30)
def NdPost (w : World) (n : Nd) (e : Ending) (w' : World) : Prop := ∃ av, e = .returned (ndV n av) ∧ ArgsAt w' w.heap.size av n.args ∧ Below w.heap.size w w'
theorem ArgsAt.base {w : World} {base base' : Nat} {av : Value} {l : List V} (h : ArgsAt w base av l) (hb : base' ≤ base) : ArgsAt w base' av l := by
  rcases h with h | ⟨g, a, b, h1, h2, h3, h4⟩
  · exact .inl h
  · exact .inr ⟨g, a, b, h1, h2, Nat.le_trans hb h3, h4⟩
theorem below_fourteen {B : Nat} {a w : World} (h : Below B a w) {b : Nat} (hb : B ≤ b) (x0 x1 x2 x3 x4 x5 x6 x7 x8 x9 x10 x11 x12 x13 : Value) :
    Below B a ((((((((((((((w.setCell ⟨b, 0, none⟩ x0).setCell ⟨b, 1, none⟩ x1).setCell ⟨b, 2, none⟩ x2).setCell ⟨b, 3, none⟩ x3).setCell ⟨b, 4, none⟩ x4).setCell ⟨b, 5, none⟩ x5).setCell ⟨b, 6, none⟩ x6).setCell ⟨b, 7, none⟩ x7).setCell ⟨b, 8, none⟩ x8).setCell ⟨b, 9, none⟩ x9).setCell ⟨b, 10, none⟩ x10).setCell ⟨b, 11, none⟩ x11).setCell ⟨b, 12, none⟩ x12).setCell ⟨b, 13, none⟩ x13) :=
  (((((((((((((h.setCell (p := ⟨b, 0, none⟩) hb x0).setCell (p := ⟨b, 1, none⟩) hb x1).setCell (p := ⟨b, 2, none⟩) hb x2).setCell (p := ⟨b, 3, none⟩) hb x3).setCell (p := ⟨b, 4, none⟩) hb x4).setCell (p := ⟨b, 5, none⟩) hb x5).setCell (p := ⟨b, 6, none⟩) hb x6).setCell (p := ⟨b, 7, none⟩) hb x7).setCell (p := ⟨b, 8, none⟩) hb x8).setCell (p := ⟨b, 9, none⟩) hb x9).setCell (p := ⟨b, 10, none⟩) hb x10).setCell (p := ⟨b, 11, none⟩) hb x11).setCell (p := ⟨b, 12, none⟩) hb x12).setCell (p := ⟨b, 13, none⟩) hb x13
abbrev oNd : Obj := .cells #[.int .i64 0, .int .i64 0, .int .i64 0, .int .i64 0, .string ⟨#[]⟩, .int .i64 0, .int .i64 0, .int .i64 0, .int .i64 0, .string ⟨#[]⟩, .int .i64 0, .slice none 0 0, .int .i64 0, .string ⟨#[]⟩] 86
theorem PSep.symm {x y : PO} (h : PSep x y) : PSep y x := by
  obtain ⟨h1, h2⟩ := h
  refine ⟨fun e => h1 e.symm, fun a b => ?_⟩
  obtain ⟨h3, h4, h5⟩ := h2 b a
  exact ⟨fun e => h3 e.symm, fun e => h4 e.symm, fun c hc hd => h5 c hd hc⟩
theorem ne_of_types {w : World} {a b : Nat} {ca cb : Array Value} {ta tb : TypeId} {fa fb : Nat × Nat} (ha : w.heap[a]? = some (.cells ca ta fa)) (hb : w.heap[b]? = some (.cells cb tb fb)) (hne : ta ≠ tb) : a ≠ b := by
  rintro rfl
  rw [ha] at hb
  injection hb with hb
  injection hb with _ h2
  exact hne h2
theorem ne_map {w : World} {a b : Nat} {ca : Array Value} {ta : TypeId} {fa : Nat × Nat} {es : Array MapEntry} {c : Nat} (ha : w.heap[a]? = some (.cells ca ta fa)) (hb : w.heap[b]? = some (.map es c)) : a ≠ b := by
  rintro rfl
  rw [ha] at hb
  cases hb
theorem MapAt.obj {P : Program} {k : TypeId} {w : World} {b : Nat} {E : List (Value × Value)} (h : MapAt P k w b E) : ∃ es c, w.heap[b]? = some (.map es c) := by
  obtain ⟨es, c, hb, _⟩ := h
  exact ⟨es, c, hb⟩
theorem PObj.keep {w w' : World} {x : PO} (h : PObj w x) (h1 : w'.heap[x.o]? = w.heap[x.o]?) (h2 : x.kind = 4 → ∀ b, (b = x.t ∨ OmF x.m x.g x.sv b) → w'.heap[b]? = w.heap[b]?) : PObj w' x :=
  ⟨h1.trans h.ho, h.kd, h.wm, h.fm, fun h4 => (h.tb h4).keep (h2 h4 _ (.inl rfl)) (h2 h4 _ (.inr (.inl rfl))) (h2 h4 _ (.inr (.inr (.inl rfl)))) (fun b hb => h2 h4 _ (.inr (.inr (.inr hb))))⟩
/-- An object is added. -/
theorem HpAt.add {w w' : World} {h bo bt : Nat} {H : List PO} {x : PO} (hH : HpAt w h bo bt H) (hM : Mods (fun b => b = h ∨ b = bo ∨ b = bt) w w')
    (hh : w'.heap[h]? = some (.cells #[.map (some bo), .int .i64 ((H.length + 1 : Nat) : Int), .map (some bt)] 152)) (hbo : MapAt Tryz.prog 3 w' bo (objE H ++ [(.int .i64 ((H.length + 1 : Nat) : Int), .pointer (some ⟨x.o, 0, none⟩))])) (hbt : ∃ E, MapAt Tryz.prog 3 w' bt E)
    (hx : PObj w x) (hsep : ∀ y ∈ H, PSep y x) (hg : x.kind = 4 → x.g ≠ bo ∧ x.g ≠ bt) : HpAt w' h bo bt (H ++ [x]) := by
  obtain ⟨E0, hE0⟩ := hH.touched
  obtain ⟨es, c, hbt0⟩ := hE0.obj
  obtain ⟨es2, c2, hbo0⟩ := hH.objs.obj
  have kc : ∀ {b : Nat} {cs : Array Value} {t : TypeId} {fz : Nat × Nat}, w.heap[b]? = some (.cells cs t fz) → t ≠ 152 → w'.heap[b]? = w.heap[b]? := fun hb h1 => hM.block _ (Array.getElem?_eq_some_iff.1 hb).1 (fun e => by
    rcases e with e | e | e
    · exact ne_of_types hb hH.hh h1 e
    · exact ne_map hb hbo0 e
    · exact ne_map hb hbt0 e)
  have keep : ∀ y : PO, PObj w y → (y.kind = 4 → y.g ≠ bo ∧ y.g ≠ bt) → PObj w' y := fun y hyo hgy => by
    refine hyo.keep (kc hyo.ho (by decide)) (fun hy4 b hb => ?_)
    have hT := hyo.tb hy4
    rcases hb with rfl | rfl | rfl | hb
    · exact kc hT.ht (by decide)
    · exact kc hT.om.hm (by decide)
    · obtain ⟨E3, f3, hE3, _⟩ := hT.om.map
      obtain ⟨es3, c3, h3⟩ := hE3.obj
      refine hM.block _ hE3.lt (fun e => ?_)
      rcases e with e | e | e
      · exact ne_map hH.hh h3 e.symm
      · exact (hgy hy4).1 e
      · exact (hgy hy4).2 e
    · obtain ⟨c3, h3⟩ := row_block hT.om.row hb
      exact kc h3 (by decide)
  refine ⟨?_, ?_, hbt, fun y hy => ?_, ?_, hH.ot, fun y hy hy4 => ?_⟩
  · rw [List.length_append]; exact hh
  · have : objE (H ++ [x]) = objE H ++ [(.int .i64 ((H.length + 1 : Nat) : Int), .pointer (some ⟨x.o, 0, none⟩))] := by
      unfold objE
      rw [List.mapIdx_append]
      simp
    rw [this]; exact hbo
  · rcases List.mem_append.1 hy with hy | hy
    · exact keep y (hH.one y hy) (hH.gs y hy)
    · rw [List.mem_singleton] at hy
      subst hy
      exact keep y hx hg
  · rw [List.pairwise_append]
    refine ⟨hH.sep, List.pairwise_singleton _ _, fun y hy z hz => ?_⟩
    rw [List.mem_singleton] at hz
    subst hz
    exact hsep y hy
  · rcases List.mem_append.1 hy with hy | hy
    · exact hH.gs y hy hy4
    · rw [List.mem_singleton] at hy
      subst hy
      exact hg hy4
def BM (base : Nat) (S : Obj → Prop) (w w' : World) : Prop := Mods (fun b => base ≤ b ∧ ∃ o, w.heap[b]? = some o ∧ S o) w w'
theorem BM.trans {base : Nat} {S : Obj → Prop} {a b c : World} (h : BM base S a b) (k : BM base S b c) : BM base S a c := by
  refine ⟨k.os.trans h.os, k.tape.trans h.tape, k.output.trans h.output, Nat.le_trans h.size k.size, fun i hi hF => ?_⟩
  have h1 := h.block i hi hF
  exact (k.block i (Nat.lt_of_lt_of_le hi h.size) (fun ⟨hb, o, h2, h3⟩ => hF ⟨hb, o, h1 ▸ h2, h3⟩)).trans h1
theorem BM.mono {base : Nat} {S S' : Obj → Prop} {w w' : World} (h : BM base S w w') (hS : ∀ o, S o → S' o) : BM base S' w w' := Mods.mono h (fun k _ ⟨h1, o, h2, h3⟩ => ⟨h1, o, h2, hS o h3⟩)
structure RO where
  kind : Int
  tag : Int
  name : ByteArray
  mt : V
  user : Value
  refs : Value
  t : Nat
  m : Nat
  sv : Value
  L : List Sl
def RO.lo (x : RO) : LO := ⟨x.kind, x.mt, if x.kind = 4 then x.L else []⟩
def RO.tv (x : RO) : Value := if x.kind = 4 then .pointer (some ⟨x.t, 0, none⟩) else .pointer none
abbrev RO.cells (x : RO) : List Value := [.int .i64 x.kind, .int .i64 x.tag, .string x.name, x.tv, .int .i64 x.mt.k, .int .i64 x.mt.p, .int .i64 x.mt.q, .string x.mt.s, .int .i64 x.mt.r, x.user, x.refs]
def RSep (x y : RO) : Prop := x.kind = 4 → y.kind = 4 → x.m ≠ y.m ∧ ∀ b, x.sv.ownBlock = some b → y.sv.ownBlock ≠ some b
theorem info25p : (Tryz.prog.info? 30).map (fun i => (i.zero, i.size, i.bytes)) = some (some (.agg #[.int .i64 0, .int .i64 0, .int .i64 0, .string ⟨#[]⟩, .int .i64 0]), 5, 48) := by kernel_rfl
theorem heap_newD (w : World) (o : Obj) : (w.drew.alloc o).heap[w.heap.size]? = some o := heap_new w.drew o
def ListPost (w : World) (A : List V) (e : Ending) (w' : World) : Prop :=
  ∃ so cap, e = .returned (.slice so A.length cap) ∧ w'.ownsRow w.heap.size 30 5 (.slice so A.length cap) A.length (rowV A) ∧ Below w.heap.size w w'
theorem row_shape {w : World} {base : Nat} {e : TypeId} {size n : Nat} {v : Value} {xs : List Value} (h : w.ownsRow base e size v n xs) : ∃ so cap, v = .slice so n cap := by
  rcases h.2 with ⟨rfl, rfl⟩ | ⟨g, cap, cur, rfl, _⟩
  · exact ⟨_, _, rfl⟩
  · exact ⟨_, _, rfl⟩
theorem grown_below {w w' : World} (h : w.grownBy w' none) : Below w.heap.size w w' := ⟨h.os, h.tape, h.output, h.size, fun k hk => h.block k hk (by simp)⟩
/-- An action in parts. -/
abbrev acV (kind op : Int) (f : V) (vs : Value) (s : ByteArray) (level next : Int) (ks : Value) : Value :=
  .agg #[.int .i64 kind, .int .i64 op, .int .i64 f.k, .int .i64 f.p, .int .i64 f.q, .string f.s, .int .i64 f.r, vs, .string s, .int .i64 level, .int .i64 next, ks]
abbrev oAc : Obj := .cells #[.int .i64 0, .int .i64 0, .int .i64 0, .int .i64 0, .int .i64 0, .string ⟨#[]⟩, .int .i64 0, .slice none 0 0, .string ⟨#[]⟩, .int .i64 0, .int .i64 0, .slice none 0 0] 42
theorem cells12 {w : World} {b : Nat} {c0 c1 c2 c3 c4 c5 c6 c7 c8 c9 c10 c11 : Value} {t : TypeId} {fz : Nat × Nat} (h : w.heap[b]? = some (.cells #[c0, c1, c2, c3, c4, c5, c6, c7, c8, c9, c10, c11] t fz)) :
    w.cell? ⟨b, 0, none⟩ = some c0 ∧ w.cell? ⟨b, 1, none⟩ = some c1 ∧ w.cell? ⟨b, 2, none⟩ = some c2 ∧ w.cell? ⟨b, 3, none⟩ = some c3 ∧ w.cell? ⟨b, 4, none⟩ = some c4 ∧ w.cell? ⟨b, 5, none⟩ = some c5 ∧ w.cell? ⟨b, 6, none⟩ = some c6 ∧ w.cell? ⟨b, 7, none⟩ = some c7 ∧ w.cell? ⟨b, 8, none⟩ = some c8 ∧ w.cell? ⟨b, 9, none⟩ = some c9 ∧ w.cell? ⟨b, 10, none⟩ = some c10 ∧ w.cell? ⟨b, 11, none⟩ = some c11 := by
  refine ⟨?_, ?_, ?_, ?_, ?_, ?_, ?_, ?_, ?_, ?_, ?_, ?_⟩ <;> (rw [cell_of_heap h]; rfl)
theorem froz12 {w : World} {b : Nat} {cs : Array Value} {t : TypeId} (h : w.heap[b]? = some (.cells cs t (0, 0))) :
    w.frozen? ⟨b, 0, none⟩ = false ∧ w.frozen? ⟨b, 1, none⟩ = false ∧ w.frozen? ⟨b, 2, none⟩ = false ∧ w.frozen? ⟨b, 3, none⟩ = false ∧ w.frozen? ⟨b, 4, none⟩ = false ∧ w.frozen? ⟨b, 5, none⟩ = false ∧ w.frozen? ⟨b, 6, none⟩ = false ∧ w.frozen? ⟨b, 7, none⟩ = false ∧ w.frozen? ⟨b, 8, none⟩ = false ∧ w.frozen? ⟨b, 9, none⟩ = false ∧ w.frozen? ⟨b, 10, none⟩ = false ∧ w.frozen? ⟨b, 11, none⟩ = false := by
  refine ⟨?_, ?_, ?_, ?_, ?_, ?_, ?_, ?_, ?_, ?_, ?_, ?_⟩ <;> exact frozen_of_heap h _
theorem below_twelve {B : Nat} {a w : World} (h : Below B a w) {b : Nat} (hb : B ≤ b) (c0 c1 c2 c3 c4 c5 c6 c7 c8 c9 c10 c11 : Value) :
    Below B a ((((((((((((w.setCell ⟨b, 0, none⟩ c0).setCell ⟨b, 1, none⟩ c1).setCell ⟨b, 2, none⟩ c2).setCell ⟨b, 3, none⟩ c3).setCell ⟨b, 4, none⟩ c4).setCell ⟨b, 5, none⟩ c5).setCell ⟨b, 6, none⟩ c6).setCell ⟨b, 7, none⟩ c7).setCell ⟨b, 8, none⟩ c8).setCell ⟨b, 9, none⟩ c9).setCell ⟨b, 10, none⟩ c10).setCell ⟨b, 11, none⟩ c11) :=
  (((((((((((h.setCell (p := ⟨b, 0, none⟩) hb c0).setCell (p := ⟨b, 1, none⟩) hb c1).setCell (p := ⟨b, 2, none⟩) hb c2).setCell (p := ⟨b, 3, none⟩) hb c3).setCell (p := ⟨b, 4, none⟩) hb c4).setCell (p := ⟨b, 5, none⟩) hb c5).setCell (p := ⟨b, 6, none⟩) hb c6).setCell (p := ⟨b, 7, none⟩) hb c7).setCell (p := ⟨b, 8, none⟩) hb c8).setCell (p := ⟨b, 9, none⟩) hb c9).setCell (p := ⟨b, 10, none⟩) hb c10).setCell (p := ⟨b, 11, none⟩) hb c11
theorem row_twelve {w : World} {base : Nat} {e : TypeId} {size n : Nat} {v : Value} {xs : List Value} (ho : w.ownsRow base e size v n xs) {b : Nat} (hb : v.ownBlock ≠ some b) (c0 c1 c2 c3 c4 c5 c6 c7 c8 c9 c10 c11 : Value) :
    ((((((((((((w.setCell ⟨b, 0, none⟩ c0).setCell ⟨b, 1, none⟩ c1).setCell ⟨b, 2, none⟩ c2).setCell ⟨b, 3, none⟩ c3).setCell ⟨b, 4, none⟩ c4).setCell ⟨b, 5, none⟩ c5).setCell ⟨b, 6, none⟩ c6).setCell ⟨b, 7, none⟩ c7).setCell ⟨b, 8, none⟩ c8).setCell ⟨b, 9, none⟩ c9).setCell ⟨b, 10, none⟩ c10).setCell ⟨b, 11, none⟩ c11).ownsRow base e size v n xs := by
  have h : ∀ j, v.ownBlock ≠ some (⟨b, j, none⟩ : Addr).block := fun _ => hb
  exact (ownsRow_set (ownsRow_set (ownsRow_set (ownsRow_set (ownsRow_set (ownsRow_set (ownsRow_set (ownsRow_set (ownsRow_set (ownsRow_set (ownsRow_set (ownsRow_set ho (h _) c0) (h _) c1) (h _) c2) (h _) c3) (h _) c4) (h _) c5) (h _) c6) (h _) c7) (h _) c8) (h _) c9) (h _) c10) (h _) c11)
def RetPost (w : World) (A : List V) (e : Ending) (w' : World) : Prop :=
  ∃ so cap, e = .returned (acV 1 0 V.nil (.slice so A.length cap) ⟨#[]⟩ 0 0 (.slice none 0 0)) ∧ w'.ownsRow w.heap.size 30 5 (.slice so A.length cap) A.length (rowV A) ∧ Below w.heap.size w w'
abbrev oCl (nm : ByteArray) (av : Value) : Obj := .cells #[.pointer none, .string nm, av, .bool false, .int .i64 0, .int .i64 0, .int .i64 0, .int .i64 0, .int .i64 0, .string ⟨#[]⟩, .int .i64 0, .slice none 0 0, .string ⟨#[]⟩, .int .i64 0, .int .i64 0, .slice none 0 0] 51
theorem cells5 {w : World} {b : Nat} {c0 c1 c2 c3 c4 : Value} {t : TypeId} {fz : Nat × Nat} (h : w.heap[b]? = some (.cells #[c0, c1, c2, c3, c4] t fz)) :
    w.cell? ⟨b, 0, none⟩ = some c0 ∧ w.cell? ⟨b, 1, none⟩ = some c1 ∧ w.cell? ⟨b, 2, none⟩ = some c2 ∧ w.cell? ⟨b, 3, none⟩ = some c3 ∧ w.cell? ⟨b, 4, none⟩ = some c4 := by
  refine ⟨?_, ?_, ?_, ?_, ?_⟩ <;> (rw [cell_of_heap h]; rfl)
theorem froz5 {w : World} {b : Nat} {cs : Array Value} {t : TypeId} (h : w.heap[b]? = some (.cells cs t (0, 0))) :
    w.frozen? ⟨b, 0, none⟩ = false ∧ w.frozen? ⟨b, 1, none⟩ = false ∧ w.frozen? ⟨b, 2, none⟩ = false ∧ w.frozen? ⟨b, 3, none⟩ = false ∧ w.frozen? ⟨b, 4, none⟩ = false := by
  refine ⟨?_, ?_, ?_, ?_, ?_⟩ <;> exact frozen_of_heap h _
def SliceVals (w : World) (A : List V) (e : Ending) (w' : World) : Prop := ∃ g o cap, e = .returned (.slice (some ⟨g, o, none⟩) A.length cap) ∧ Vals w' (.slice (some ⟨g, o, none⟩) A.length cap) A ∧ Below w.heap.size w w'
theorem validN_int {p : Int} (h1 : -2147483647 ≤ p) (h2 : p ≤ 2147483647) : validN (p, 1) = true := validN_iff.2 ⟨by simp, by simp, h1, h2, by simp⟩
theorem RSep.symm {x y : RO} (h : RSep x y) : RSep y x := fun a b => by
  obtain ⟨h3, h5⟩ := h b a
  exact ⟨fun e => h3 e.symm, fun c hc hd => h5 c hd hc⟩
theorem vals_one (w : World) (v : V) : Vals (w.alloc (.cells #[.int .i64 v.k, .int .i64 v.p, .int .i64 v.q, .string v.s, .int .i64 v.r] 30)) (.slice (some ⟨w.heap.size, 0, none⟩) 1 1) [v] := by
  refine ⟨some ⟨w.heap.size, 0, none⟩, 1, rfl, Nat.le_refl _, (fun h => by cases h), .inr ⟨w.heap.size, 0, rfl, by simp, fun j u hj => ?_⟩⟩
  rw [cell_of_heap (heap_new w _), Nat.zero_add]
  have h5 : j < 5 := by
    have := (List.getElem?_eq_some_iff.1 hj).1
    rw [rowV_len] at this
    simpa using this
  rw [← hj]
  match j, h5 with
  | 0, _ => rfl
  | 1, _ => rfl
  | 2, _ => rfl
  | 3, _ => rfl
  | 4, _ => rfl
theorem Vals.some_of {w : World} {so : Option Addr} {n cap : Nat} {A : List V} (h : Vals w (.slice so n cap) A) (hne : A ≠ []) : ∃ g o, so = some ⟨g, o, none⟩ := by
  obtain ⟨s, c, e, _, _, h⟩ := h
  injection e with e _ _
  rcases h with h | ⟨g, o, h, _⟩
  · exact absurd h hne
  · exact ⟨g, o, e.trans h⟩
theorem btrim_c (w : World) (s : ByteArray) (hs : s.size ≤ 2000000000) : Calls Tryz.prog 108 #[.string s, .string ⟨#[32, 9, 10, 13]⟩] w (TrimPost w (trimG (bytesOf s))) := by
  have hcon := Any.strings_Trim_laid Tryz.lays160 (by kernel_rfl) s ⟨#[32, 9, 10, 13]⟩ w (by omega) (by decide) ascii4
  change Calls Tryz.prog 108 _ _ (fun e w' => e = .returned (.string ⟨(Lib.trimS s.data.toList [32, 9, 10, 13]).toArray⟩) ∧ Below w.heap.size w w') at hcon
  refine hcon.mono ?_
  rintro e w1 ⟨rfl, hb⟩
  exact ⟨⟨_, rfl, trim_bytes s⟩, hb⟩
end Go.Proofs.YtalfoihffnlelaaGreatDoor
