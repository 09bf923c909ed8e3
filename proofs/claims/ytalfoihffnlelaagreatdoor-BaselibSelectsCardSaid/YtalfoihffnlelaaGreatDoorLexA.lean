import Derived.Tactics
import Derived.Orders
import Derived.Laws.Sem
import Derived.Laws.Panics
import Derived.WalkKit
import Derived.Test.YtalfoihffnlelaaGreatDoorProg
import Derived.KernelRfl
import Derived.Lib.Hide
import Derived.Lib.Strings
import Derived.Laws.EntriesVeiled
import Derived.Maps.AppendAt
import Derived.RegionTactic
import Derived.BigRegion
import Derived.Below
import Derived.IntWalk
import Derived.Deep.LoopGhost
import Derived.Deep.Draws
import Derived.Deep.RegionHeld3
import Derived.Deep.QuietTactic
import Derived.BigQuiet
import Derived.BigFrame
import Derived.Laws.MakeOwn
import Derived.Lib.SliceRun
import Derived.Lib.AppendStr
import Derived.WalkSmall
import Derived.Shelf.Strings.Builder1
import Derived.Shelf.Strings.Builder2
import Derived.Shelf.Strings.Trim
import Derived.Shelf.Small.Utf8
import Derived.Shelf.Small.Strs
import Derived.Shelf.Small.Wraps
import Derived.Shelf.Strconv.Itoa0
import Derived.Shelf.Strconv.Itoa1
import Derived.Shelf.LaysM
import Derived.Shelf.Strconv.Itoa2
import Derived.Shelf.Strconv.Itoa3
import Derived.Shelf.Strings.Search1
import Derived.Shelf.Strings.Search2
import Derived.Shelf.Strings.Cut
import Derived.Shelf.Strings.Shaped
import Derived.Shelf.Strings.LastIndex
import Derived.Shelf.Strings.Prefix
import Derived.Shelf.Strings.Fields
import Derived.Shelf.Strings.SplitShaped
import Derived.Shelf.Unicode.Latin
import Derived.Shelf.Unicode.Decode
import Derived.Shelf.Strings.Runes
import Derived.Shelf.Strings.AsciiSet
import Derived.Shelf.Unicode.DecodeSlow
import Derived.Shelf.Unicode.DecodeAny
import Derived.Shelf.Unicode.Is16White
import Derived.Shelf.Unicode.IsSpaceAny
import Derived.Shelf.Unicode.DecodeLast
import Derived.Shelf.Unicode.Is16Any
import Derived.Shelf.Unicode.Is32Any
import Derived.Shelf.Unicode.ExclAny
import Derived.Shelf.Slices.Turned
import Derived.Shelf.Strings.SlTrimAscii
import Derived.Laws.IdiomStrings
import Derived.OwnWalk
import Derived.Laws.OwnMore
import Derived.Lib.SmallJoins
import Derived.Laws.BitsLemmas
import Derived.Laws.Bits64
import Derived.Maps.OwnSet
import Derived.DeepKeys3
import Derived.Test.YtalfoihffnlelaaGreatDoorRows
import Derived.Test.YtalfoihffnlelaaGreatDoorChecked
import Derived.ChangeSame
import Derived.ProofKit
import Derived.LaidMore
import Derived.OpenShut
import Derived.Stop.Joined
import Derived.Lib.LaidTab
import Derived.Handed
import Derived.Lay
import Derived.Carry
import Derived.SevenTiedAt
import Derived.ChangeMaps5
set_option linter.unusedVariables false
set_option linter.unusedSimpArgs false
namespace Go.Proofs.Lexi
open Go
section
variable {P : Program}
/-- W has all blocks of w, unchanged. -/
structure Ext (w W : World) : Prop where
  size : w.heap.size ≤ W.heap.size
  block : ∀ k, k < w.heap.size → W.heap[k]? = w.heap[k]?
theorem Ext.refl (w : World) : Ext w w := ⟨Nat.le_refl _, fun _ _ => rfl⟩
theorem Ext.trans {a b c : World} (h : Ext a b) (k : Ext b c) : Ext a c :=
  ⟨Nat.le_trans h.size k.size, fun i hi => (k.block i (Nat.lt_of_lt_of_le hi h.size)).trans (h.block i hi)⟩
def Pureish {α : Type} (P : Program) (s : Sem α) : Prop := ∀ w x w', s.run P w = .ok x w' → w' = w ∧ ∀ W, s.run P W = .ok x W
def Readish {α : Type} (P : Program) (s : Sem α) : Prop := ∀ w x w', s.run P w = .ok x w' → w' = w ∧ ∀ W, Ext w W → s.run P W = .ok x W
def Newish {α : Type} (P : Program) (s : Sem α) : Prop := ∀ w x w', s.run P w = .ok x w' → Ext w w'
theorem Pureish.read {α : Type} {s : Sem α} (h : Pureish P s) : Readish P s := fun w x w' e => ⟨(h w x w' e).1, fun W _ => (h w x w' e).2 W⟩
theorem Readish.new {α : Type} {s : Sem α} (h : Readish P s) : Newish P s := fun w x w' e => by rw [(h w x w' e).1]; exact Ext.refl _
theorem Pureish.pure {α : Type} (a : α) : Pureish P (Pure.pure a : Sem α) := fun w x w' e => by
  simp only [Sem.run_pure] at e; injection e with e1 e2; subst e1; subst e2; exact ⟨rfl, fun _ => by simp⟩
theorem Pureish.bind {α β : Type} {s : Sem α} {f : α → Sem β} (h : Pureish P s) (hf : ∀ a, Pureish P (f a)) : Pureish P (s >>= f) := fun w x w' e => by
  rw [Sem.run_bind] at e
  cases hs : s.run P w with
  | halt h w1 => rw [hs] at e; cases e
  | ok a w1 =>
    rw [hs] at e
    obtain ⟨rfl, h1⟩ := h _ _ _ hs
    obtain ⟨h2, h3⟩ := hf a _ _ _ e
    exact ⟨h2, fun W => by rw [Sem.run_bind, h1 W]; exact h3 W⟩
theorem Readish.bind {α β : Type} {s : Sem α} {f : α → Sem β} (h : Readish P s) (hf : ∀ a, Readish P (f a)) : Readish P (s >>= f) := fun w x w' e => by
  rw [Sem.run_bind] at e
  cases hs : s.run P w with
  | halt h w1 => rw [hs] at e; cases e
  | ok a w1 =>
    rw [hs] at e
    obtain ⟨rfl, h1⟩ := h _ _ _ hs
    obtain ⟨h2, h3⟩ := hf a _ _ _ e
    exact ⟨h2, fun W hW => by rw [Sem.run_bind, h1 W hW]; exact h3 W hW⟩
theorem Newish.bind {α β : Type} {s : Sem α} {f : α → Sem β} (h : Newish P s) (hf : ∀ a, Newish P (f a)) : Newish P (s >>= f) := fun w x w' e => by
  rw [Sem.run_bind] at e
  cases hs : s.run P w with
  | halt h w1 => rw [hs] at e; cases e
  | ok a w1 => rw [hs] at e; exact (h _ _ _ hs).trans (hf a _ _ _ e)
/-- Whatever never succeeds. -/
theorem Pureish.never {α : Type} {s : Sem α} (h : ∀ w, ∃ x w', s.run P w = .halt x w') : Pureish P s := fun w x w' e => by
  obtain ⟨_, _, h⟩ := h w; rw [h] at e; cases e
theorem Pureish.halt {α : Type} (h : Halt) : Pureish P (Sem.halt h : Sem α) := Pureish.never fun w => ⟨h, w, rfl⟩
theorem Pureish.stuck {α : Type} (h : String) : Pureish P (Go.stuck h : Sem α) := Pureish.halt _
theorem Pureish.unsupported {α : Type} (h : Unsupported) : Pureish P (Go.unsupported h : Sem α) := Pureish.halt _
theorem Pureish.boundsPanic {α : Type} (k : IntKind) (x y : Int) (c : BoundsCode) : Pureish P (boundsPanic k x y c : Sem α) :=
  Pureish.never fun w => by obtain ⟨s, w', h⟩ := run_boundsPanic (P := P) (w := w) (α := α) k x y c; exact ⟨_, _, h⟩
theorem Pureish.program : Pureish P Go.program := fun w x w' e => by
  simp only [Go.program, Sem.run] at e
  injection e with e1 e2; subst e1; subst e2; exact ⟨rfl, fun _ => rfl⟩
theorem Pureish.ite {α : Type} {c : Prop} [Decidable c] {s t : Sem α} (h : Pureish P s) (k : Pureish P t) : Pureish P (if c then s else t) := by split <;> assumption
theorem Pureish.underlying (t : TypeId) : Pureish P (Go.underlying t) := by
  unfold Go.underlying
  refine Pureish.bind Pureish.program fun p => ?_
  split
  · exact Pureish.pure _
  · exact Pureish.stuck _
theorem Pureish.typeInfo (t : TypeId) : Pureish P (Go.typeInfo t) := by
  unfold Go.typeInfo
  refine Pureish.bind Pureish.program fun p => ?_
  split
  · exact Pureish.pure _
  · exact Pureish.stuck _
theorem Pureish.sizeOf (t : TypeId) : Pureish P (Go.sizeOf t) := by
  unfold Go.sizeOf
  exact Pureish.bind (Pureish.typeInfo t) fun _ => Pureish.pure _
theorem Pureish.isAgg (t : TypeId) : Pureish P (Go.isAgg t) := by
  unfold Go.isAgg
  refine Pureish.bind (Pureish.underlying t) fun d => ?_
  split <;> exact Pureish.pure _
theorem Pureish.zeroValue (t : TypeId) : Pureish P (Go.zeroValue t) := by
  unfold Go.zeroValue
  refine Pureish.bind (Pureish.typeInfo t) fun d => ?_
  split
  · exact Pureish.pure _
  · exact Pureish.unsupported _
theorem Pureish.part (t : TypeId) (cs : Array Value) (off : Nat) : Pureish P (Go.part t cs off) := by
  unfold Go.part
  refine Pureish.bind (Pureish.isAgg t) fun b => ?_
  split
  · exact Pureish.bind (Pureish.sizeOf t) fun _ => Pureish.pure _
  · split
    · exact Pureish.pure _
    · exact Pureish.stuck _
theorem Pureish.asIntOf (v : Value) : Pureish P (Go.asIntOf v) := by
  unfold Go.asIntOf
  split <;> first | exact Pureish.pure _ | exact Pureish.stuck _ | exact Pureish.unsupported _
theorem Pureish.asInt (v : Value) : Pureish P (Go.asInt v) := by
  unfold Go.asInt
  exact Pureish.bind (Pureish.asIntOf v) fun _ => Pureish.pure _
theorem Pureish.asBool (v : Value) : Pureish P (Go.asBool v) := by
  unfold Go.asBool
  split <;> first | exact Pureish.pure _ | exact Pureish.stuck _ | exact Pureish.unsupported _
theorem Pureish.asAgg (v : Value) : Pureish P (Go.asAgg v) := by
  unfold Go.asAgg
  split <;> first | exact Pureish.pure _ | exact Pureish.stuck _ | exact Pureish.unsupported _
theorem Pureish.sureAddr (v : Value) : Pureish P (Instr.sureAddr v) := by
  unfold Instr.sureAddr
  split <;> first | exact Pureish.pure _ | exact Pureish.stuck _
def Never {α : Type} (P : Program) (s : Sem α) : Prop := ∀ w, ∃ x w', s.run P w = .halt x w'
theorem Never.bind {α β : Type} (s : Sem α) {f : α → Sem β} (hf : ∀ a, Never P (f a)) : Never P (s >>= f) := fun w => by
  rw [Sem.run_bind]
  cases hs : s.run P w with
  | halt h w1 => exact ⟨h, w1, rfl⟩
  | ok a w1 => exact hf a w1
theorem Never.goPanic {α : Type} (v : Value) : Never P (Go.goPanic v : Sem α) := fun w => ⟨_, w, rfl⟩
theorem Pureish.runtimePanic {α : Type} (e : RuntimeError) : Pureish P (Go.runtimePanic e : Sem α) := by
  refine Pureish.never ?_
  unfold Go.runtimePanic
  refine Never.bind _ fun p => ?_
  cases e <;> dsimp only <;> first | exact Never.goPanic _ | exact Never.bind _ fun _ => Never.bind _ fun _ => Never.goPanic _
theorem Pureish.asAddr (v : Value) : Pureish P (Go.asAddr v) := by
  unfold Go.asAddr
  split <;> first | exact Pureish.pure _ | exact Pureish.stuck _ | exact Pureish.runtimePanic _
theorem Pureish.sliceBound (x : Value) (y : Nat) (c : BoundsCode) : Pureish P (Instr.sliceBound x y c) := by
  unfold Instr.sliceBound
  refine Pureish.bind (Pureish.asIntOf x) fun p => ?_
  exact Pureish.ite (Pureish.pure _) (Pureish.boundsPanic _ _ _ _)
theorem Pureish.sliceBounds (b : Bool) (l c : Nat) (lo hi mx : Option Value) : Pureish P (Instr.sliceBounds b l c lo hi mx) := by
  unfold Instr.sliceBounds
  cases mx <;> cases hi <;> cases lo <;> dsimp only <;>
    repeat' (first | exact Pureish.pure _ | exact Pureish.stuck _ | exact Pureish.sliceBound _ _ _ | refine Pureish.bind ?_ (fun _ => ?_))
theorem Pureish.slice (t : TypeId) (x : Value) (lo hi mx : Option Value) : Pureish P (Instr.slice t x lo hi mx) := by
  unfold Instr.slice
  refine Pureish.bind (Pureish.underlying t) fun d => ?_
  split
  · refine Pureish.ite (Pureish.bind (Pureish.stuck _) fun _ => ?_) ?_
    all_goals exact Pureish.bind (Pureish.sliceBounds _ _ _ _ _ _) fun _ => Pureish.pure _
  · exact Pureish.bind (Pureish.sliceBounds _ _ _ _ _ _) fun _ => Pureish.bind (Pureish.sizeOf _) fun _ => Pureish.pure _
  · refine Pureish.bind (Pureish.asAddr _) fun _ => Pureish.bind (Pureish.underlying _) fun _ => ?_
    split
    · exact Pureish.bind (Pureish.sliceBounds _ _ _ _ _ _) fun _ => Pureish.bind (Pureish.sizeOf _) fun _ => Pureish.pure _
    · exact Pureish.stuck _
  · exact Pureish.stuck _
theorem Pureish.sliceAt (t : TypeId) (x : Value) (lo hi mx : Option Value) : Pureish P (Instr.sliceAt t x lo hi mx) := by
  unfold Instr.sliceAt
  refine Pureish.bind (Pureish.underlying t) fun d => ?_
  split
  · exact Pureish.bind (Pureish.sureAddr _) fun _ => Pureish.bind (Pureish.sliceBounds _ _ _ _ _ _) fun _ => Pureish.bind (Pureish.sizeOf _) fun _ => Pureish.pure _
  · exact Pureish.slice _ _ _ _ _
theorem Pureish.indexAt (t : TypeId) (x i : Value) : Pureish P (Instr.indexAt t x i) := by
  unfold Instr.indexAt
  dsimp only
  repeat' (first | exact Pureish.pure _ | exact Pureish.stuck _ | exact Pureish.unsupported _ | exact Pureish.boundsPanic _ _ _ _ | exact Pureish.underlying _ | exact Pureish.sizeOf _ | exact Pureish.asIntOf _ | exact Pureish.sureAddr _ | refine Pureish.bind ?_ (fun _ => ?_) | refine Pureish.ite ?_ ?_ | split)
theorem Pureish.index (t : TypeId) (x i : Value) : Pureish P (Instr.index t x i) := by
  unfold Instr.index
  refine Pureish.bind (Pureish.asIntOf _) fun p => Pureish.bind (Pureish.underlying t) fun d => ?_
  split
  · exact Pureish.ite (Pureish.bind (Pureish.sizeOf _) fun _ => Pureish.part _ _ _) (Pureish.boundsPanic _ _ _ _)
  · split
    · exact Pureish.pure _
    · exact Pureish.boundsPanic _ _ _ _
  · exact Pureish.stuck _
theorem Pureish.field (t : TypeId) (x : Value) (i : Nat) : Pureish P (Instr.field t x i) := by
  unfold Instr.field
  refine Pureish.bind (Pureish.underlying t) fun d => ?_
  split
  · split
    · exact Pureish.bind (Pureish.asAgg _) fun _ => Pureish.part _ _ _
    · exact Pureish.stuck _
  · exact Pureish.stuck _
theorem Pureish.extract (t : Value) (i : Nat) : Pureish P (Instr.extract t i) := by
  unfold Instr.extract
  split
  · split
    · exact Pureish.pure _
    · exact Pureish.stuck _
  · exact Pureish.stuck _
/-- No part of size nought among the fields that are named. -/
def fieldOK (P : Program) (s : TypeId) (f : Nat) : Bool :=
  match P.underlying s with
  | some (.struct fields) => (fields[f]?).all fun fd => (P.info? fd.type).all fun i => i.size != 0
  | _ => true
theorem Pureish.fieldAt (s : TypeId) (x : Value) (f : Nat) (h : fieldOK P s f = true) : Pureish P (Instr.fieldAt s x f) := by
  intro w v w' e
  unfold Instr.fieldAt at e ⊢
  simp only [Sem.run_bind, Go.underlying, Go.program] at e ⊢
  simp only [Sem.run, Result.andThen_ok] at e ⊢
  unfold fieldOK at h
  cases hu : P.underlying s with
  | none => rw [hu] at e; simp [Go.stuck] at e
  | some d =>
    rw [hu] at e h
    simp only [Sem.run_pure, Result.andThen_ok] at e ⊢
    cases d <;> simp only [] at e h ⊢ <;> try (simp [Go.stuck] at e; done)
    rename_i fields
    cases hf : fields[f]? with
    | none => rw [hf] at e; simp [Go.stuck] at e
    | some fd =>
      rw [hf] at e h
      simp only [Option.all_some] at h
      simp only [Sem.run_bind] at e ⊢
      cases x with
      | pointer p =>
        cases p with
        | none => simp [Instr.sureAddr, Go.stuck] at e
        | some a =>
          simp only [Instr.sureAddr, Sem.run_pure, Result.andThen_ok, fieldPlace, Go.sizeOf, Go.typeInfo, Go.program, Sem.run_bind, Sem.run] at e ⊢
          cases hi : P.info? fd.type with
          | none => rw [hi] at e; simp [Go.stuck] at e
          | some i =>
            rw [hi] at e h
            simp only [Option.all_some, bne_iff_ne] at h
            simp only [Sem.run_pure, Result.andThen_ok, if_neg h] at e ⊢
            injection e with e1 e2
            subst e1; subst e2
            exact ⟨rfl, fun _ => rfl⟩
      | _ => simp [Instr.sureAddr, Go.stuck] at e
theorem Pureish.build (t : TypeId) (ps : Array (Nat × Value)) : Pureish P (Instr.build t ps) := by
  unfold Instr.build
  refine Pureish.bind (Pureish.zeroValue _) fun z => Pureish.bind (Pureish.underlying _) fun d => ?_
  split
  · refine Pureish.bind ?_ fun _ => ?_
    · rename_i fields
      have key : ∀ (l : List Field) (acc : Array (Nat × Nat)), Pureish P (l.foldlM (init := acc) fun bs a => bs.push <$> (do let s ← Go.sizeOf a.type; Pure.pure (a.offset, s))) := by
        intro l
        induction l with
        | nil => intro acc; exact Pureish.pure _
        | cons x xs ih =>
          intro acc
          rw [List.foldlM_cons]
          refine Pureish.bind ?_ fun _ => ih _
          rw [← bind_pure_comp]
          exact Pureish.bind (Pureish.bind (Pureish.sizeOf _) fun _ => Pureish.pure _) fun _ => Pureish.pure _
      have := key fields.toList #[]
      rw [Array.mapM_eq_foldlM]
      simpa using this
    · split
      · exact Pureish.pure _
      · exact Pureish.stuck _
  · refine Pureish.bind (Pureish.sizeOf _) fun _ => ?_
    split
    · exact Pureish.pure _
    · exact Pureish.stuck _
  · exact Pureish.stuck _
/-- Operands of a comparison or a sum that name no memory. -/
def plainPair : Value → Value → Bool
  | .int .., .int .. | .string _, .string _ | .bool _, .bool _ => true
  | .pointer none, .pointer _ | .pointer _, .pointer none => true
  | .slice none .., .slice .. | .slice .., .slice none .. => true
  | .nilFunc, .nilFunc | .nilFunc, .func .. | .func .., .nilFunc => true
  | .map none, .map _ | .map _, .map none => true
  | .nilIface, .iface .. | .iface .., .nilIface => true
  | _, _ => false
theorem opt_cases {α : Type} (a : Option α) : a = none ∨ ∃ x, a = some x := by cases a <;> simp
theorem plain_cases {x y : Value} (h : plainPair x y = true) :
    (∃ k a k' b, x = .int k a ∧ y = .int k' b) ∨
    (∃ a b, x = .string a ∧ y = .string b) ∨
    (∃ a b, x = .bool a ∧ y = .bool b) ∨
    (x = .pointer none ∧ y = .pointer none) ∨
    (∃ a, x = .pointer none ∧ y = .pointer (some a)) ∨
    (∃ a, x = .pointer (some a) ∧ y = .pointer none) ∨
    (∃ l c l' c', x = .slice none l c ∧ y = .slice none l' c') ∨
    (∃ l c a l' c', x = .slice none l c ∧ y = .slice (some a) l' c') ∨
    (∃ a l c l' c', x = .slice (some a) l c ∧ y = .slice none l' c') ∨
    (x = .nilFunc ∧ y = .nilFunc) ∨
    (∃ f a b, x = .nilFunc ∧ y = .func f a b) ∨
    (∃ f a b, x = .func f a b ∧ y = .nilFunc) ∨
    (x = .map none ∧ y = .map none) ∨
    (∃ a, x = .map none ∧ y = .map (some a)) ∨
    (∃ a, x = .map (some a) ∧ y = .map none) ∨
    (∃ t v, x = .nilIface ∧ y = .iface t v) ∨
    (∃ t v, x = .iface t v ∧ y = .nilIface) := by
  unfold plainPair at h
  split at h <;> first | (cases h; done) | (simp; done) | (simp; exact opt_cases _)
theorem Pureish.equalIn (d : Nat) (t : TypeId) (x y : Value) (h : plainPair x y = true) : Pureish P (Op.equalIn (d + 1) t x y) := by
  unfold Op.equalIn
  refine Pureish.bind (Pureish.underlying t) fun u => ?_
  rcases plain_cases h with ⟨k, a, k', b, rfl, rfl⟩ | ⟨a, b, rfl, rfl⟩ | ⟨a, b, rfl, rfl⟩ | ⟨rfl, rfl⟩ | ⟨a, rfl, rfl⟩ | ⟨a, rfl, rfl⟩ | ⟨l, c, l', c', rfl, rfl⟩ | ⟨l, c, a, l', c', rfl, rfl⟩ | ⟨a, l, c, l', c', rfl, rfl⟩ | ⟨rfl, rfl⟩ | ⟨f, a, b, rfl, rfl⟩ | ⟨f, a, b, rfl, rfl⟩ | ⟨rfl, rfl⟩ | ⟨a, rfl, rfl⟩ | ⟨a, rfl, rfl⟩ | ⟨t, v, rfl, rfl⟩ | ⟨t, v, rfl, rfl⟩
  all_goals
    cases u <;> dsimp only <;> repeat' (first | exact Pureish.pure _ | exact Pureish.stuck _ | exact Pureish.unsupported _ | exact Pureish.runtimePanic _ | refine Pureish.ite ?_ ?_ | split)
theorem Pureish.equal (t : TypeId) (x y : Value) (h : plainPair x y = true) : Pureish P (Op.equal t x y) := Pureish.equalIn 9999 t x y h
theorem Pureish.binOp (op : BinOp) (t : TypeId) (x y : Value) (h : plainPair x y = true) : Pureish P (Go.binOp op t x y) := by
  have he := Pureish.equal (P := P) t x y h
  have e1 : Pureish P (do Pure.pure (Value.bool (← Op.equal t x y))) := Pureish.bind he fun _ => Pureish.pure _
  have e2 : Pureish P (do Pure.pure (Value.bool (!(← Op.equal t x y)))) := Pureish.bind he fun _ => Pureish.pure _
  rcases plain_cases h with ⟨k, a, k', b, rfl, rfl⟩ | ⟨a, b, rfl, rfl⟩ | ⟨a, b, rfl, rfl⟩ | ⟨rfl, rfl⟩ | ⟨a, rfl, rfl⟩ | ⟨a, rfl, rfl⟩ | ⟨l, c, l', c', rfl, rfl⟩ | ⟨l, c, a, l', c', rfl, rfl⟩ | ⟨a, l, c, l', c', rfl, rfl⟩ | ⟨rfl, rfl⟩ | ⟨f, a, b, rfl, rfl⟩ | ⟨f, a, b, rfl, rfl⟩ | ⟨rfl, rfl⟩ | ⟨a, rfl, rfl⟩ | ⟨a, rfl, rfl⟩ | ⟨t, v, rfl, rfl⟩ | ⟨t, v, rfl, rfl⟩
  all_goals
    unfold Go.binOp
    cases op <;> dsimp only [Op.shift, Op.intArith, Op.intDiv, Op.intBits, Op.intCmp, Op.stringOp] <;> first | exact e1 | exact e2 | (repeat' (first | exact Pureish.pure _ | exact Pureish.stuck _ | exact Pureish.unsupported _ | exact Pureish.runtimePanic _ | refine Pureish.ite ?_ ?_ | split))
theorem Pureish.eqGuard (op : BinOp) (t : TypeId) (x y : Operand) (a b : Value) (h : plainPair a b = true) : Pureish P (Go.eqGuard op t x y a b) := by
  unfold Go.eqGuard
  rcases plain_cases h with ⟨k, a, k', b, rfl, rfl⟩ | ⟨a, b, rfl, rfl⟩ | ⟨a, b, rfl, rfl⟩ | ⟨rfl, rfl⟩ | ⟨a, rfl, rfl⟩ | ⟨a, rfl, rfl⟩ | ⟨l, c, l', c', rfl, rfl⟩ | ⟨l, c, a, l', c', rfl, rfl⟩ | ⟨a, l, c, l', c', rfl, rfl⟩ | ⟨rfl, rfl⟩ | ⟨f, a, b, rfl, rfl⟩ | ⟨f, a, b, rfl, rfl⟩ | ⟨rfl, rfl⟩ | ⟨a, rfl, rfl⟩ | ⟨a, rfl, rfl⟩ | ⟨t, v, rfl, rfl⟩ | ⟨t, v, rfl, rfl⟩
  all_goals
    cases op <;> dsimp only <;> repeat' (first | exact Pureish.pure _ | exact Pureish.stuck _ | exact Pureish.unsupported _ | exact Pureish.runtimePanic _ | refine Pureish.ite ?_ ?_ | split)
theorem Pureish.unary (op : UnOp) (x : Value) : Pureish P (Op.unary op x) := by
  unfold Op.unary
  split <;> (try dsimp only [Op.intArith, Op.intBits]) <;> first | exact Pureish.pure _ | exact Pureish.unsupported _ | exact Pureish.stuck _
def plainLen : Value → Bool
  | .string _ | .slice .. => true
  | _ => false
theorem Pureish.len (ts : Array TypeId) (t : TypeId) (x : Value) (h : plainLen x = true) : Pureish P (Builtin.len_ ts t #[x]) := by
  unfold Builtin.len_
  cases x <;> first | (cases h; done) | skip
  all_goals
    split
    · refine Pureish.bind (Pureish.underlying _) fun u => ?_
      rename_i heq
      simp only [List.getElem?_toArray, List.length_cons, List.length_nil, Nat.zero_add, Nat.lt_add_one, getElem?_pos, List.getElem_cons_zero, Prod.mk.injEq, Option.some.injEq] at heq
      obtain ⟨_, rfl⟩ := heq
      cases u <;> dsimp only <;> repeat' (first | exact Pureish.pure _ | exact Pureish.stuck _ | exact Pureish.underlying _ | refine Pureish.bind ?_ (fun _ => ?_) | split)
    · exact Pureish.stuck _
theorem Ext.get {w W : World} (h : Ext w W) {b : Nat} {o : Obj} (e : w.heap[b]? = some o) : W.heap[b]? = some o := by
  rw [h.block b ((Array.getElem?_eq_some_iff.1 e).1)]; exact e
theorem seen_ext {w W : World} (h : Ext w W) {at_ k : Addr} {u : TypeId} {m : Bool} {r} (e : w.seen P at_ u k m = .ok r) : W.seen P at_ u k m = .ok r := by
  cases hb : w.heap[at_.block]? with
  | some o => unfold World.seen at e ⊢; rw [h.get hb]; rw [hb] at e; exact e
  | none =>
    exfalso
    unfold World.seen at e
    rw [hb] at e
    simp only [bind, Except.bind] at e
    repeat' (split at e <;> first | (cases e; done) | skip)
theorem viewLoad_ext {w W : World} (h : Ext w W) {at_ k : Addr} {u : TypeId} {m : Bool} {r} (e : w.viewLoad P at_ u k m = .ok r) : W.viewLoad P at_ u k m = .ok r := by
  unfold World.viewLoad at e ⊢
  cases hs : w.seen P at_ u k m with
  | error x => rw [hs] at e; cases e
  | ok r' => rw [seen_ext h hs]; rw [hs] at e; exact e
theorem Readish.load (a : Addr) (m : Mode) : Readish P (Go.load a m) := by
  intro w x w' e
  rw [run_load] at e
  cases hc : w.cell? a with
  | some v =>
    rw [hc] at e
    simp only [] at e
    injection e with e1 e2
    subst e1; subst e2
    refine ⟨rfl, fun W hW => ?_⟩
    have hb : ∃ o, w.heap[a.block]? = some o := by
      unfold World.cell? at hc
      cases h : w.heap[a.block]? with
      | none => rw [h] at hc; cases hc
      | some o => exact ⟨o, rfl⟩
    obtain ⟨o, ho⟩ := hb
    have : W.cell? a = some v := by rw [← hc]; unfold World.cell?; rw [ho, hW.get ho]
    rw [run_load, this]
  | none =>
    rw [hc] at e
    simp only [] at e
    cases hf : w.farLoad P a (m == .atomic) with
    | error x => rw [hf] at e; cases e
    | ok r =>
      rw [hf] at e
      obtain ⟨v, l⟩ := r
      simp only [] at e
      injection e with e1 e2
      subst e1; subst e2
      refine ⟨rfl, fun W hW => ?_⟩
      unfold World.farLoad at hf
      cases hb : w.heap[a.block]? with
      | none => rw [hb] at hf; cases hf
      | some o =>
        rw [hb] at hf
        have h1 : W.cell? a = none := by rw [← hc]; unfold World.cell?; rw [hb, hW.get hb]
        have h2 : W.farLoad P a (m == .atomic) = .ok (v, l) := by
          unfold World.farLoad
          rw [hW.get hb]
          cases o <;> first | (cases hf; done) | skip
          rename_i at_ u
          simp only [] at hf ⊢
          cases hv : w.viewLoad P at_ u a (m == .atomic) with
          | error y => rw [hv] at hf; cases hf
          | ok r => rw [hv] at hf; rw [viewLoad_ext hW hv]; exact hf
        rw [run_load, h1, h2]
theorem Readish.loadCellsFrom (a : Addr) : ∀ (n i : Nat) (acc : Array Value), Readish P (Go.loadCellsFrom a i n acc)
  | 0, _, _ => (Pureish.pure _).read
  | n + 1, i, acc => by
    unfold Go.loadCellsFrom
    exact Readish.bind (Readish.load _ _) fun v => Readish.loadCellsFrom a n (i + 1) _
theorem Readish.loadAt (t : TypeId) (v : Value) : Readish P (Instr.loadAt t v) := by
  unfold Instr.loadAt Go.loadVar
  refine Readish.bind (Pureish.sureAddr v).read fun a => Readish.bind (Pureish.isAgg t).read fun b => ?_
  split
  · exact Readish.bind (Pureish.sizeOf t).read fun n => Readish.bind (Readish.loadCellsFrom _ _ _ _) fun _ => (Pureish.pure _).read
  · exact Readish.load _ _
theorem Newish.newObj (o : Obj) : Newish P (Go.newObj o) := fun w x w' e => by
  simp only [Go.newObj, Sem.run] at e
  injection e with e1 e2
  subst e2
  refine ⟨by simp, fun k hk => ?_⟩
  show (w.heap.push o)[k]? = _
  rw [Array.getElem?_push, if_neg (by omega)]
theorem Newish.newRow (e : TypeId) (c : Array Value) : Newish P (Go.newRow e c) := by
  unfold Go.newRow
  exact Newish.bind (Newish.newObj _) fun _ => (Pureish.pure _).read.new
theorem Newish.alloc (e : TypeId) (v : Value) : Newish P (Instr.alloc e true v) := by
  unfold Instr.alloc
  refine Newish.bind (Pureish.zeroValue _).read.new fun z => ?_
  split
  · rename_i h; cases h
  · exact Newish.bind (Newish.newRow _ _) fun _ => (Pureish.pure _).read.new
theorem Newish.box (e : TypeId) (v : Value) : Newish P (Instr.box e v) := by
  unfold Instr.box
  exact Newish.bind (Newish.newRow _ _) fun _ => (Pureish.pure _).read.new
theorem Newish.buildSlice (t : TypeId) (n : Nat) (ps : Array (Nat × Value)) : Newish P (Instr.buildSlice t n ps) := by
  unfold Instr.buildSlice
  dsimp only
  repeat' (first | exact (Pureish.pure _).read.new | exact (Pureish.stuck _).read.new | exact (Pureish.unsupported _).read.new | exact (Pureish.underlying _).read.new | exact (Pureish.sizeOf _).read.new | exact (Pureish.zeroValue _).read.new | exact Newish.newRow _ _ | refine Newish.bind ?_ (fun _ => ?_) | split)
theorem Newish.askRoom (n : Nat) : Newish P (Go.askRoom n) := by
  unfold Go.askRoom
  split
  · intro w x w' e
    simp only [Go.mark, Sem.run] at e
    injection e with e1 e2
    subst e2; exact Ext.refl _
  · exact (Pureish.pure _).read.new
theorem Newish.choose (q : Question) : Newish P (Go.choose q) := fun w x w' e => by
  simp only [Go.choose, Sem.run] at e
  split at e
  · injection e with e1 e2; subst e2; exact Ext.refl _
  · injection e with e1 e2; subst e2; exact ⟨Nat.le_refl _, fun _ _ => rfl⟩
theorem Newish.makeSlice (t : TypeId) (l c : Value) : Newish P (Instr.makeSlice t l c) := by
  unfold Instr.makeSlice
  dsimp only
  repeat' (first | exact (Pureish.pure _).read.new | exact (Pureish.stuck _).read.new | exact (Pureish.unsupported _).read.new | exact (Pureish.underlying _).read.new | exact (Pureish.sizeOf _).read.new | exact (Pureish.typeInfo _).read.new | exact (Pureish.asInt _).read.new | exact (Pureish.zeroValue _).read.new | exact (Pureish.runtimePanic _).read.new | exact Newish.askRoom _ | exact Newish.choose _ | exact Newish.newRow _ _ | refine Newish.bind ?_ (fun _ => ?_) | split)
/-- The operand of a built-in len. -/
def lenCall (c : Call) : Option Operand :=
  match c.callee with
  | .builtin .len => if c.args.size = 1 then c.args[0]? else none
  | _ => none
/-- Operations that touch no memory; of some the check at the region's end asks plain operands. -/
def isPure (P : Program) : Op → Bool
  | .move _ | .assign _ | .pick .. | .extract .. | .makeFunc .. | .index .. | .indexAddr .. | .slice .. | .field .. | .build .. | .unOp .. | .binOp .. | .nilCheck _ => true
  | .fieldAddr s _ f => fieldOK P s f
  | .call c => (lenCall c).isSome
  | _ => false
def isRead : Op → Bool
  | .load .. => true
  | _ => false
def isNew : Op → Bool
  | .alloc _ | .box .. | .buildSlice .. | .makeSlice .. => true
  | _ => false
def plainPtr : Value → Bool
  | .pointer _ => true
  | _ => false
/-- What is asked of an operation's operands at the region's end. -/
def okVal (ρ : Operand → Value) : Op → Bool
  | .binOp _ _ x y _ => plainPair (ρ x) (ρ y)
  | .nilCheck x => plainPtr (ρ x)
  | .call c => (lenCall c).all fun x => plainLen (ρ x)
  | _ => true
theorem Pureish.value {s : Sem Value} (h : Pureish P s) : Pureish P (do Pure.pure (Next.value (← s))) := Pureish.bind h fun _ => Pureish.pure _
theorem pure_exec (ρ : Operand → Value) (o : Oper) (h : isPure P o.op = true) (hv : okVal ρ o.op = true) : Pureish P (execOp ρ o) := by
  obtain ⟨dst, op, type, pos, after, guard⟩ := o
  cases op <;> first | (cases h; done) | skip
  case move => exact Pureish.pure _
  case assign => exact Pureish.pure _
  case pick => exact Pureish.bind (Pureish.asBool _) fun _ => Pureish.pure _
  case extract => exact (Pureish.extract _ _).value
  case makeFunc => exact (Pureish.pure _).value
  case index => exact (Pureish.index _ _ _).value
  case indexAddr => exact (Pureish.indexAt _ _ _).value
  case slice => exact (Pureish.sliceAt _ _ _ _ _).value
  case field => exact (Pureish.field _ _ _).value
  case build => exact (Pureish.build _ _).value
  case unOp => exact (Pureish.unary _ _).value
  case binOp => exact (Pureish.bind (Pureish.eqGuard _ _ _ _ _ _ hv) fun _ => Pureish.binOp _ _ _ _ hv).value
  case fieldAddr => exact (Pureish.fieldAt _ _ _ h).value
  case nilCheck x =>
    simp only [okVal, plainPtr] at hv
    simp only [execOp]
    split at hv <;> first | (cases hv; done) | skip
    rename_i p e
    rw [e]
    cases p
    · exact Pureish.runtimePanic _
    · exact Pureish.pure _
  case call c =>
    obtain ⟨callee, args, ts⟩ := c
    simp only [isPure, okVal, lenCall] at h hv
    cases callee <;> first | (cases h; done) | skip
    rename_i bi
    cases bi <;> first | (cases h; done) | skip
    simp only [] at h hv
    split at h <;> first | (cases h; done) | skip
    rename_i hs
    obtain ⟨x, rfl⟩ := Array.size_eq_one_iff.1 hs
    simp at hv
    have := Pureish.len (P := P) ts type (ρ x) hv
    simp only [execOp, resolve, invoke, builtin]
    simpa using this.value
theorem read_exec (ρ : Operand → Value) (o : Oper) (h : isRead o.op = true) : Readish P (execOp ρ o) := by
  obtain ⟨dst, op, type, pos, after, guard⟩ := o
  cases op <;> first | (cases h; done) | skip
  exact Readish.bind (Readish.loadAt _ _) fun _ => (Pureish.pure _).read
theorem new_exec (ρ : Operand → Value) (o : Oper) (h : isNew o.op = true) : Newish P (execOp ρ o) := by
  obtain ⟨dst, op, type, pos, after, guard⟩ := o
  cases op <;> first | (cases h; done) | skip
  case alloc => exact Newish.bind (Newish.alloc _ _) fun _ => (Pureish.pure _).read.new
  case box => exact Newish.bind (Newish.box _ _) fun _ => (Pureish.pure _).read.new
  case buildSlice => exact Newish.bind (Newish.buildSlice _ _ _) fun _ => (Pureish.pure _).read.new
  case makeSlice => exact Newish.bind (Newish.makeSlice _ _ _) fun _ => (Pureish.pure _).read.new
end
end Go.Proofs.Lexi
namespace Go.Proofs.YtalfoihffnlelaaGreatDoor
open Go.RowKit Go.Proofs.Lexi
theorem mixed : Tryz.prog.follows .mixedOrders = true := by kernel_rfl
theorem ret_int {a b : Int} (h : a = b) : Ending.returned (.int .i64 a) = .returned (.int .i64 b) := by rw [h]
theorem cell_of_heap {w : World} {b o : Nat} {cs : Array Value} {t : TypeId} {fz : Nat × Nat} (h : w.heap[b]? = some (.cells cs t fz)) : w.cell? ⟨b, o, none⟩ = cs[o]? := by
  simp [World.cell?, h]
theorem bdn {B : Nat} {a w : World} (h : Below B a w) (n : Nat) : Below B a (w.drewN n) := ⟨h.os, h.tape, h.output, h.size, h.block⟩
theorem heap_new (w : World) (o : Obj) : (w.alloc o).heap[w.heap.size]? = some o := by
  show (w.heap.push o)[w.heap.size]? = _
  simp
theorem heap_setCell_same {w : World} {b : Nat} {cs : Array Value} {t : TypeId} {fz : Nat × Nat} (h : w.heap[b]? = some (.cells cs t fz)) (o : Nat) (v : Value) : (w.setCell ⟨b, o, none⟩ v).heap[b]? = some (.cells (cs.setIfInBounds o v) t fz) := by
  simp [World.setCell, Array.getElem?_modify, h]
/-- Blocks that were there are as they were. -/
structure Ext (w W : World) : Prop where
  size : w.heap.size ≤ W.heap.size
  blk : ∀ k, k < w.heap.size → W.heap[k]? = w.heap[k]?
theorem below_ext {B : Nat} {w w' : World} (h : Below B w w') (hB : w.heap.size ≤ B) : Ext w w' := ⟨h.size, fun k hk => h.block k (by omega)⟩
theorem ownBlock_lt {w : World} {base : Nat} {e : TypeId} {size : Nat} {v : Value} {n : Nat} {xs : List Value} (ho : w.ownsRow base e size v n xs) {g : Nat} (hg : v.ownBlock = some g) : base ≤ g ∧ g < w.heap.size := by
  rcases ho.2 with ⟨rfl, _⟩ | ⟨g', cap, cur, rfl, h1, h2, _⟩
  · cases hg
  · injection hg with hg; subst hg
    exact ⟨h1, (Array.getElem?_eq_some_iff.1 h2).1⟩
theorem ownsRow_keep {w w3 : World} {base : Nat} {e : TypeId} {size : Nat} {v : Value} {n : Nat} {xs : List Value} (ho : w.ownsRow base e size v n xs) (hk : ∀ g, v.ownBlock = some g → w3.heap[g]? = w.heap[g]?) : w3.ownsRow base e size v n xs := by
  obtain ⟨h1, h2⟩ := ho
  refine ⟨h1, ?_⟩
  rcases h2 with h2 | ⟨g, cap, cur, hv, hg, hh, r⟩
  · exact .inl h2
  · exact .inr ⟨g, cap, cur, hv, hg, by rw [hk g (by rw [hv]; rfl)]; exact hh, r⟩
theorem ownsRow_ext {w W : World} (h : Ext w W) {base : Nat} {e : TypeId} {size : Nat} {v : Value} {n : Nat} {xs : List Value} (ho : w.ownsRow base e size v n xs) : W.ownsRow base e size v n xs :=
  ownsRow_keep ho fun g hg => h.blk g (ownBlock_lt ho hg).2
theorem ownsRow_base {w : World} {base base' : Nat} {e : TypeId} {size : Nat} {v : Value} {n : Nat} {xs : List Value} (h : w.ownsRow base e size v n xs) (hb : base' ≤ base) : w.ownsRow base' e size v n xs := by
  obtain ⟨h1, h2⟩ := h
  refine ⟨h1, ?_⟩
  rcases h2 with h2 | ⟨g, cap, cur, hv, hg, r⟩
  · exact .inl h2
  · exact .inr ⟨g, cap, cur, hv, by omega, r⟩
theorem ownsRow_set {w : World} {base : Nat} {e : TypeId} {size : Nat} {v : Value} {n : Nat} {xs : List Value} (ho : w.ownsRow base e size v n xs) {a : Addr} (ha : v.ownBlock ≠ some a.block) (u : Value) : (w.setCell a u).ownsRow base e size v n xs :=
  ownsRow_keep ho fun g hg => Below.heap_setCell _ _ _ _ (fun e => ha (by rw [hg, e]))
theorem keepCell {W w' : World} (hb : Below W.heap.size W w') {a : Addr} {v : Value} (h : W.cell? a = some v) : w'.cell? a = some v := by
  rw [hb.cell (World.block_lt_of_cell? _ a h)]; exact h
theorem bcell {W w1 : World} (hb : Below W.heap.size W w1) : (∀ b o, b < W.heap.size → w1.cell? ⟨b, o, none⟩ = W.cell? ⟨b, o, none⟩) ∧ (∀ b o, b < W.heap.size → w1.frozen? ⟨b, o, none⟩ = W.frozen? ⟨b, o, none⟩) :=
  ⟨fun b o h => hb.cell (p := ⟨b, o, none⟩) h, fun b o h => hb.frozen (p := ⟨b, o, none⟩) h⟩
theorem below2w (w : World) (o1 o2 : Obj) : Below w.heap.size w ((w.alloc o1).alloc o2) := ((Below.refl _ _).alloc (Nat.le_refl _) _).alloc (by simp) _
theorem below_two {B : Nat} {a w : World} (h : Below B a w) {b : Nat} (hb : B ≤ b) (x y : Value) : Below B a ((w.setCell ⟨b, 0, none⟩ x).setCell ⟨b, 1, none⟩ y) :=
  (h.setCell (p := ⟨b, 0, none⟩) hb x).setCell (p := ⟨b, 1, none⟩) hb y
theorem below_next {w w1 w2 : World} (h : Below w.heap.size w w1) (k : Below w1.heap.size w1 w2) : Below w.heap.size w w2 := h.trans (k.mono h.size)
def bytesOf (p : ByteArray) : List Nat := p.data.toList.map UInt8.toNat
theorem bytesOf_length (p : ByteArray) : (bytesOf p).length = p.size := by unfold bytesOf; rw [List.length_map]; rfl
theorem bytesOf_drop (p : ByteArray) (k : Nat) (h : k < p.size) : (bytesOf p).drop k = p[k].toNat :: (bytesOf p).drop (k + 1) := by
  rw [List.drop_eq_getElem_cons (by rw [bytesOf_length]; exact h)]
  congr 1
  simp [bytesOf]; rfl
theorem bytesOf_end (p : ByteArray) (k : Nat) (h : p.size ≤ k) : (bytesOf p).drop k = [] := List.drop_eq_nil_of_le (by rw [bytesOf_length]; exact h)
theorem bytesOf_extract (s : ByteArray) (a b : Nat) : bytesOf (s.extract a b) = ((bytesOf s).drop a).take (b - a) := by
  unfold bytesOf
  rw [← Lib.toList_data, Lib.extract_toList, ← List.map_drop, ← List.map_take]
theorem nats_inj : ∀ (a b : List UInt8), a.map UInt8.toNat = b.map UInt8.toNat → a = b
  | [], [], _ => rfl
  | [], _ :: _, h => by cases h
  | _ :: _, [], h => by cases h
  | x :: a, y :: b, h => by
    simp only [List.map_cons, List.cons.injEq] at h
    rw [UInt8.toNat_inj.1 h.1, nats_inj a b h.2]
theorem bytesOf_inj {s t : ByteArray} (h : bytesOf s = bytesOf t) : s = t := by
  have h2 : s.data.toList = t.data.toList := nats_inj _ _ h
  cases s; cases t
  simp only [ByteArray.mk.injEq]
  exact Array.toList_inj.1 h2
theorem toList_nil {p : ByteArray} (h : p.size = 0) : p.toList = [] := by
  rw [ByteArray.toList_eq]
  exact List.eq_nil_of_length_eq_zero h
theorem toList_ne {p : ByteArray} (h : 0 < p.size) : ¬ p.toList = [] := by
  rw [ByteArray.toList_eq]
  intro e
  have : p.data.toList.length = 0 := by rw [e]; rfl
  have h2 : p.size = p.data.toList.length := rfl
  omega
end Go.Proofs.YtalfoihffnlelaaGreatDoor
namespace Go.Proofs.YtalfoihffnlelaaGreatDoor
abbrev N2 := Int × Int
abbrev RR := Except Nat N2
def inTop (n : Int) : Bool := decide (-2147483647 ≤ n) && decide (n ≤ 2147483647)
def validN (a : N2) : Bool := decide (1 ≤ a.2) && decide (a.2 ≤ 2147483647) && inTop a.1 && decide (Int.gcd a.1 a.2 = 1)
theorem inTop_iff {n : Int} : inTop n = true ↔ -2147483647 ≤ n ∧ n ≤ 2147483647 := by simp [inTop]
theorem validN_iff {a : N2} : validN a = true ↔ 1 ≤ a.2 ∧ a.2 ≤ 2147483647 ∧ -2147483647 ≤ a.1 ∧ a.1 ≤ 2147483647 ∧ Int.gcd a.1 a.2 = 1 := by
  simp only [validN, inTop, Bool.and_eq_true, decide_eq_true_eq]
  constructor
  · rintro ⟨⟨⟨h1, h2⟩, h3, h4⟩, h5⟩; exact ⟨h1, h2, h3, h4, h5⟩
  · rintro ⟨h1, h2, h3, h4, h5⟩; exact ⟨⟨⟨h1, h2⟩, h3, h4⟩, h5⟩
/-- What a function that gives a number returns. -/
def nP : RR → Int
  | .ok a => a.1
  | .error _ => 0
def nQ : RR → Int
  | .ok a => a.2
  | .error _ => 0
def nE : RR → Nat
  | .ok _ => 0
  | .error e => e
theorem validN_bounds {a : N2} (h : validN a = true) : 1 ≤ a.2 ∧ a.2 ≤ 2147483647 ∧ -2147483647 ≤ a.1 ∧ a.1 ≤ 2147483647 := by
  have := validN_iff.1 h
  exact ⟨this.1, this.2.1, this.2.2.1, this.2.2.2.1⟩
end Go.Proofs.YtalfoihffnlelaaGreatDoor
namespace Go.Proofs.YtalfoihffnlelaaGreatDoor
def isBlank (c : Nat) : Bool := c == 32 || c == 9 || c == 10 || c == 13
def trimG (l : List Nat) : List Nat := ((l.dropWhile isBlank).reverse.dropWhile isBlank).reverse
end Go.Proofs.YtalfoihffnlelaaGreatDoor
namespace Go.Proofs.YtalfoihffnlelaaGreatDoor
open Go.RowKit Go.Proofs.Lexi
def PureP (w : World) (v : Value) (e : Ending) (w' : World) : Prop := e = .returned v ∧ ∃ n, w' = w.drewN n
def NumPost (w : World) (R : RR) (e : Ending) (w' : World) : Prop := e = .returned (.tuple #[.agg #[.int .i64 (nP R), .int .i64 (nQ R)], .int .i64 (nE R : Nat)]) ∧ Below w.heap.size w w'
theorem num_err {w w' : World} {R : RR} {c : Nat} (hR : R = .error c) (hb : Below w.heap.size w w') : NumPost w R (.returned (.tuple #[.agg #[.int .i64 0, .int .i64 0], .int .i64 (c : Int)])) w' := by subst hR; exact ⟨rfl, hb⟩
theorem num_ok {w w' : World} {R : RR} {p q : Int} (hR : R = .ok (p, q)) (hb : Below w.heap.size w w') : NumPost w R (.returned (.tuple #[.agg #[.int .i64 p, .int .i64 q], .int .i64 0])) w' := by subst hR; exact ⟨rfl, hb⟩
theorem below_num0 (w : World) (o : Obj) : Below w.heap.size w (w.alloc o) := (Below.refl _ _).alloc (Nat.le_refl _) o
def BoolPost (w : World) (b : Bool) (e : Ending) (w' : World) : Prop := e = .returned (.bool b) ∧ Below w.heap.size w w'
def IntPost (w : World) (v : Int) (e : Ending) (w' : World) : Prop := e = .returned (.int .i64 v) ∧ Below w.heap.size w w'
theorem bool_done {w w' : World} {b c : Bool} (h : c = b) (hb : Below w.heap.size w w') : BoolPost w b (.returned (.bool c)) w' := by subst h; exact ⟨rfl, hb⟩
theorem validN_bad {p q : Int} (h : q < 1 ∨ 2147483647 < q ∨ p < -2147483647 ∨ 2147483647 < p) : validN (p, q) = false := by
  cases hv : validN (p, q) with
  | false => rfl
  | true => have := validN_bounds hv; simp only [] at this; omega
theorem validN_good {p q : Int} (h1 : 1 ≤ q) (h2 : q ≤ 2147483647) (h3 : -2147483647 ≤ p) (h4 : p ≤ 2147483647) {D : Nat} (hD : Nat.gcd p.natAbs q.natAbs = D) : validN (p, q) = ((D : Int) == 1) := by
  rw [Bool.eq_iff_iff, validN_iff]
  simp only [beq_iff_eq]
  have e : Int.gcd p q = D := hD
  constructor
  · intro h; have := h.2.2.2.2; omega
  · intro h; exact ⟨h1, h2, h3, h4, by rw [e]; omega⟩
theorem u8_le (b : UInt8) : b.toNat ≤ 255 := by have := b.toNat_lt; omega
end Go.Proofs.YtalfoihffnlelaaGreatDoor
namespace Go.Proofs
open Go.Shelf
def Tryz.lays160_ren : Go.Shelf.Ren := ⟨fun | 160 => 108 | 232 => 135 | 231 => 134 | 227 => 136 | 234 => 138 | 233 => 137 | 236 => 140 | 235 => 139 | 228 => 160 | 271 => 163 | 151 => 162 | 197 => 161 | 120 => 180 | 152 => 179 | 260 => 178 | 137 => 186 | 119 => 187 | 224 => 188 | 225 => 189 | 217 => 193 | 266 => 195 | n => n, fun | 9 => 9 | 4 => 4 | 3 => 3 | 5 => 5 | 117 => 157 | 116 => 156 | 0 => 0 | 124 => 160 | 21 => 21 | 105 => 188 | 46 => 135 | 119 => 137 | 139 => 228 | 138 => 227 | n => n, fun | 3 => 6 | 4 => 7 | n => n⟩
theorem Tryz.lays160 : Go.Proofs.Lays.n160 Tryz.prog Tryz.lays160_ren := {
  mixed := by kernel_rfl
  f119 := Tryz.func187.trans (congrArg some (by kernel_rfl))
  f120 := Tryz.func180.trans (congrArg some (by kernel_rfl))
  f137 := Tryz.func186.trans (congrArg some (by kernel_rfl))
  f151 := Tryz.func162.trans (congrArg some (by kernel_rfl))
  f152 := Tryz.func179.trans (congrArg some (by kernel_rfl))
  f160 := Tryz.func108.trans (congrArg some (by kernel_rfl))
  f197 := Tryz.func161.trans (congrArg some (by kernel_rfl))
  f217 := Tryz.func193.trans (congrArg some (by kernel_rfl))
  f224 := Tryz.func188.trans (congrArg some (by kernel_rfl))
  f225 := Tryz.func189.trans (congrArg some (by kernel_rfl))
  f227 := Tryz.func136.trans (congrArg some (by kernel_rfl))
  f228 := Tryz.func160.trans (congrArg some (by kernel_rfl))
  f231 := Tryz.func134.trans (congrArg some (by kernel_rfl))
  f232 := Tryz.func135.trans (congrArg some (by kernel_rfl))
  f233 := Tryz.func137.trans (congrArg some (by kernel_rfl))
  f234 := Tryz.func138.trans (congrArg some (by kernel_rfl))
  f235 := Tryz.func139.trans (congrArg some (by kernel_rfl))
  f236 := Tryz.func140.trans (congrArg some (by kernel_rfl))
  f260 := Tryz.func178.trans (congrArg some (by kernel_rfl))
  f266 := Tryz.func195.trans (congrArg some (by kernel_rfl))
  f271 := Tryz.func163.trans (congrArg some (by kernel_rfl))
  t0 := Tryz.underlying0
  a0 := Tryz.isAgg0
  z0 := Tryz.sizeOf0
  v0 := Tryz.zeroValue0
  t3 := Tryz.underlying3
  a3 := Tryz.isAgg3
  z3 := Tryz.sizeOf3
  v3 := Tryz.zeroValue3
  t4 := Tryz.underlying4
  a4 := Tryz.isAgg4
  z4 := Tryz.sizeOf4
  v4 := Tryz.zeroValue4
  t5 := Tryz.underlying5
  a5 := Tryz.isAgg5
  z5 := Tryz.sizeOf5
  v5 := Tryz.zeroValue5
  t9 := Tryz.underlying9
  a9 := Tryz.isAgg9
  z9 := Tryz.sizeOf9
  v9 := Tryz.zeroValue9
  t21 := Tryz.underlying21
  a21 := Tryz.isAgg21
  z21 := Tryz.sizeOf21
  v21 := Tryz.zeroValue21
  t46 := Tryz.underlying135
  a46 := Tryz.isAgg135
  z46 := Tryz.sizeOf135
  v46 := Tryz.zeroValue135
  t105 := Tryz.underlying188
  a105 := Tryz.isAgg188
  z105 := Tryz.sizeOf188
  v105 := Tryz.zeroValue188
  t116 := Tryz.underlying156
  a116 := Tryz.isAgg156
  z116 := Tryz.sizeOf156
  t117 := Tryz.underlying157
  a117 := Tryz.isAgg157
  z117 := Tryz.sizeOf157
  v117 := Tryz.zeroValue157
  t119 := Tryz.underlying137
  a119 := Tryz.isAgg137
  z119 := Tryz.sizeOf137
  t124 := Tryz.underlying160
  a124 := Tryz.isAgg160
  z124 := Tryz.sizeOf160
  v124 := Tryz.zeroValue160
  t138 := Tryz.underlying227
  a138 := Tryz.isAgg227
  z138 := Tryz.sizeOf227
  v138 := Tryz.zeroValue227
  t139 := Tryz.underlying228
  a139 := Tryz.isAgg228
  z139 := Tryz.sizeOf228
  v139 := Tryz.zeroValue228
  g3 := by kernel_rfl
  g4 := by kernel_rfl }
def Tryz.lays103_ren : Go.Shelf.Ren := ⟨fun | 103 => 107 | 210 => 133 | 206 => 159 | n => n, fun | 9 => 9 | 4 => 4 | 24 => 121 | 3 => 3 | n => n, fun | n => n⟩
theorem Tryz.lays103 : Go.Proofs.Lays.n103 Tryz.prog Tryz.lays103_ren := {
  mixed := by kernel_rfl
  f103 := Tryz.func107.trans (congrArg some (by kernel_rfl))
  f206 := Tryz.func159.trans (congrArg some (by kernel_rfl))
  f210 := Tryz.func133.trans (congrArg some (by kernel_rfl))
  t3 := Tryz.underlying3
  a3 := Tryz.isAgg3
  z3 := Tryz.sizeOf3
  v3 := Tryz.zeroValue3
  t4 := Tryz.underlying4
  a4 := Tryz.isAgg4
  z4 := Tryz.sizeOf4
  v4 := Tryz.zeroValue4
  t9 := Tryz.underlying9
  a9 := Tryz.isAgg9
  z9 := Tryz.sizeOf9
  v9 := Tryz.zeroValue9
  t24 := Tryz.underlying121
  a24 := Tryz.isAgg121
  z24 := Tryz.sizeOf121
  v24 := Tryz.zeroValue121 }
def Tryz.lays171_ren : Go.Shelf.Ren := ⟨fun | 171 => 85 | 243 => 122 | 246 => 35 | 283 => 78 | 284 => 79 | 285 => 80 | 286 => 81 | 129 => 115 | 317 => 114 | 318 => 116 | 319 => 117 | 320 => 118 | 337 => 148 | 338 => 149 | n => n, fun | 3 => 3 | 9 => 9 | 2 => 2 | 4 => 4 | 171 => 96 | 0 => 0 | 53 => 97 | 37 => 100 | 5 => 5 | 173 => 101 | 212 => 131 | 51 => 132 | 20 => 20 | 213 => 133 | 46 => 135 | 232 => 204 | 233 => 205 | n => n, fun | 17 => 1 | 18 => 4 | 19 => 5 | n => n⟩
theorem Tryz.lays171 : Go.Proofs.Lays.n171 Tryz.prog Tryz.lays171_ren := {
  mixed := by kernel_rfl
  f129 := Tryz.func115.trans (congrArg some (by kernel_rfl))
  f171 := Tryz.func85.trans (congrArg some (by kernel_rfl))
  f243 := Tryz.func122.trans (congrArg some (by kernel_rfl))
  f246 := Tryz.func35.trans (congrArg some (by kernel_rfl))
  f283 := Tryz.func78.trans (congrArg some (by kernel_rfl))
  f284 := Tryz.func79.trans (congrArg some (by kernel_rfl))
  f285 := Tryz.func80.trans (congrArg some (by kernel_rfl))
  f286 := Tryz.func81.trans (congrArg some (by kernel_rfl))
  f317 := Tryz.func114.trans (congrArg some (by kernel_rfl))
  f318 := Tryz.func116.trans (congrArg some (by kernel_rfl))
  f319 := Tryz.func117.trans (congrArg some (by kernel_rfl))
  f320 := Tryz.func118.trans (congrArg some (by kernel_rfl))
  f337 := Tryz.func148.trans (congrArg some (by kernel_rfl))
  f338 := Tryz.func149.trans (congrArg some (by kernel_rfl))
  t0 := Tryz.underlying0
  a0 := Tryz.isAgg0
  z0 := Tryz.sizeOf0
  v0 := Tryz.zeroValue0
  t2 := Tryz.underlying2
  a2 := Tryz.isAgg2
  z2 := Tryz.sizeOf2
  v2 := Tryz.zeroValue2
  t3 := Tryz.underlying3
  a3 := Tryz.isAgg3
  z3 := Tryz.sizeOf3
  v3 := Tryz.zeroValue3
  t4 := Tryz.underlying4
  a4 := Tryz.isAgg4
  z4 := Tryz.sizeOf4
  v4 := Tryz.zeroValue4
  t5 := Tryz.underlying5
  a5 := Tryz.isAgg5
  z5 := Tryz.sizeOf5
  v5 := Tryz.zeroValue5
  t9 := Tryz.underlying9
  a9 := Tryz.isAgg9
  z9 := Tryz.sizeOf9
  v9 := Tryz.zeroValue9
  t20 := Tryz.underlying20
  a20 := Tryz.isAgg20
  z20 := Tryz.sizeOf20
  v20 := Tryz.zeroValue20
  t37 := Tryz.underlying100
  a37 := Tryz.isAgg100
  z37 := Tryz.sizeOf100
  v37 := Tryz.zeroValue100
  t46 := Tryz.underlying135
  a46 := Tryz.isAgg135
  z46 := Tryz.sizeOf135
  v46 := Tryz.zeroValue135
  t51 := Tryz.underlying132
  a51 := Tryz.isAgg132
  z51 := Tryz.sizeOf132
  v51 := Tryz.zeroValue132
  t53 := Tryz.underlying97
  a53 := Tryz.isAgg97
  z53 := Tryz.sizeOf97
  v53 := Tryz.zeroValue97
  t171 := Tryz.underlying96
  a171 := Tryz.isAgg96
  z171 := Tryz.sizeOf96
  v171 := Tryz.zeroValue96
  t173 := Tryz.underlying101
  a173 := Tryz.isAgg101
  z173 := Tryz.sizeOf101
  v173 := Tryz.zeroValue101
  t212 := Tryz.underlying131
  a212 := Tryz.isAgg131
  z212 := Tryz.sizeOf131
  v212 := Tryz.zeroValue131
  t213 := Tryz.underlying133
  a213 := Tryz.isAgg133
  z213 := Tryz.sizeOf133
  t232 := Tryz.underlying204
  a232 := Tryz.isAgg204
  z232 := Tryz.sizeOf204
  v232 := Tryz.zeroValue204
  t233 := Tryz.underlying205
  a233 := Tryz.isAgg205
  z233 := Tryz.sizeOf205
  v233 := Tryz.zeroValue205
  g17 := by kernel_rfl
  g18 := by kernel_rfl
  g19 := by kernel_rfl }
def Tryz.lays149_ren : Go.Shelf.Ren := ⟨fun | 149 => 18 | 222 => 36 | n => n, fun | 9 => 9 | 5 => 5 | 3 => 3 | 4 => 4 | n => n, fun | n => n⟩
theorem Tryz.lays149 : Go.Proofs.Lays.n149 Tryz.prog Tryz.lays149_ren := {
  mixed := by kernel_rfl
  f149 := Tryz.func18.trans (congrArg some (by kernel_rfl))
  f222 := Tryz.func36.trans (congrArg some (by kernel_rfl))
  t3 := Tryz.underlying3
  a3 := Tryz.isAgg3
  z3 := Tryz.sizeOf3
  v3 := Tryz.zeroValue3
  t4 := Tryz.underlying4
  a4 := Tryz.isAgg4
  z4 := Tryz.sizeOf4
  v4 := Tryz.zeroValue4
  t5 := Tryz.underlying5
  a5 := Tryz.isAgg5
  z5 := Tryz.sizeOf5
  v5 := Tryz.zeroValue5
  t9 := Tryz.underlying9
  a9 := Tryz.isAgg9
  z9 := Tryz.sizeOf9
  v9 := Tryz.zeroValue9 }
def Tryz.laysM157_ren : Go.Shelf.Ren := ⟨fun | 157 => 82 | 229 => 119 | 199 => 120 | 261 => 150 | 311 => 172 | 312 => 173 | n => n, fun | 9 => 9 | 31 => 67 | 3 => 3 | 5 => 5 | 4 => 4 | 119 => 137 | 0 => 0 | 40 => 139 | 152 => 167 | 21 => 21 | 154 => 169 | 51 => 132 | 141 => 171 | 196 => 209 | 193 => 206 | 198 => 212 | 49 => 210 | 194 => 207 | 201 => 215 | 226 => 223 | 46 => 135 | 227 => 224 | n => n, fun | 0 => 2 | 6 => 3 | n => n⟩
theorem Tryz.laysM157 : Go.Proofs.LaysM.n157 Tryz.prog Tryz.laysM157_ren := {
  mixed := by kernel_rfl
  f157 := Tryz.func82.trans (congrArg some (by kernel_rfl))
  f199 := Tryz.func120.trans (congrArg some (by kernel_rfl))
  f229 := Tryz.func119.trans (congrArg some (by kernel_rfl))
  f261 := Tryz.func150.trans (congrArg some (by kernel_rfl))
  f311 := Tryz.func172.trans (congrArg some (by kernel_rfl))
  f312 := Tryz.func173.trans (congrArg some (by kernel_rfl))
  t0 := Tryz.underlying0
  a0 := Tryz.isAgg0
  z0 := Tryz.sizeOf0
  v0 := Tryz.zeroValue0
  t3 := Tryz.underlying3
  a3 := Tryz.isAgg3
  z3 := Tryz.sizeOf3
  v3 := Tryz.zeroValue3
  t4 := Tryz.underlying4
  a4 := Tryz.isAgg4
  z4 := Tryz.sizeOf4
  v4 := Tryz.zeroValue4
  t5 := Tryz.underlying5
  a5 := Tryz.isAgg5
  z5 := Tryz.sizeOf5
  v5 := Tryz.zeroValue5
  t9 := Tryz.underlying9
  a9 := Tryz.isAgg9
  z9 := Tryz.sizeOf9
  v9 := Tryz.zeroValue9
  t21 := Tryz.underlying21
  a21 := Tryz.isAgg21
  z21 := Tryz.sizeOf21
  v21 := Tryz.zeroValue21
  t31 := Tryz.underlying67
  a31 := Tryz.isAgg67
  z31 := Tryz.sizeOf67
  v31 := Tryz.zeroValue67
  t40 := Tryz.underlying139
  a40 := Tryz.isAgg139
  z40 := Tryz.sizeOf139
  v40 := Tryz.zeroValue139
  t46 := Tryz.underlying135
  a46 := Tryz.isAgg135
  z46 := Tryz.sizeOf135
  v46 := Tryz.zeroValue135
  t49 := Tryz.underlying210
  a49 := Tryz.isAgg210
  z49 := Tryz.sizeOf210
  v49 := Tryz.zeroValue210
  t51 := Tryz.underlying132
  a51 := Tryz.isAgg132
  z51 := Tryz.sizeOf132
  v51 := Tryz.zeroValue132
  t119 := Tryz.underlying137
  a119 := Tryz.isAgg137
  z119 := Tryz.sizeOf137
  t141 := Tryz.underlying171
  a141 := Tryz.isAgg171
  z141 := Tryz.sizeOf171
  v141 := Tryz.zeroValue171
  t152 := Tryz.underlying167
  a152 := Tryz.isAgg167
  z152 := Tryz.sizeOf167
  v152 := Tryz.zeroValue167
  t154 := Tryz.underlying169
  a154 := Tryz.isAgg169
  z154 := Tryz.sizeOf169
  v154 := Tryz.zeroValue169
  t193 := Tryz.underlying206
  a193 := Tryz.isAgg206
  z193 := Tryz.sizeOf206
  v193 := Tryz.zeroValue206
  t194 := Tryz.underlying207
  a194 := Tryz.isAgg207
  z194 := Tryz.sizeOf207
  v194 := Tryz.zeroValue207
  t196 := Tryz.underlying209
  a196 := Tryz.isAgg209
  z196 := Tryz.sizeOf209
  v196 := Tryz.zeroValue209
  t198 := Tryz.underlying212
  a198 := Tryz.isAgg212
  z198 := Tryz.sizeOf212
  v198 := Tryz.zeroValue212
  t201 := Tryz.underlying215
  a201 := Tryz.isAgg215
  z201 := Tryz.sizeOf215
  v201 := Tryz.zeroValue215
  t226 := Tryz.underlying223
  a226 := Tryz.isAgg223
  z226 := Tryz.sizeOf223
  v226 := Tryz.zeroValue223
  t227 := Tryz.underlying224
  a227 := Tryz.isAgg224
  z227 := Tryz.sizeOf224
  v227 := Tryz.zeroValue224
  g0 := by kernel_rfl
  g6 := by kernel_rfl
  i0 := by kernel_rfl
  i3 := by kernel_rfl
  i4 := by kernel_rfl
  i5 := by kernel_rfl
  i9 := by kernel_rfl
  i21 := by kernel_rfl
  i31 := by kernel_rfl
  i40 := by kernel_rfl
  i46 := by kernel_rfl
  i49 := by kernel_rfl
  i51 := by kernel_rfl
  i141 := by kernel_rfl
  i152 := by kernel_rfl
  i154 := by kernel_rfl
  i193 := by kernel_rfl
  i194 := by kernel_rfl
  i196 := by kernel_rfl
  i198 := by kernel_rfl
  i201 := by kernel_rfl
  i226 := by kernel_rfl
  i227 := by kernel_rfl
  m0 := by kernel_rfl
  m6 := by kernel_rfl }
def Tryz.lays109_ren : Go.Shelf.Ren := ⟨fun | 109 => 37 | n => n, fun | 31 => 67 | 9 => 9 | 3 => 3 | 0 => 0 | 4 => 4 | n => n, fun | n => n⟩
theorem Tryz.lays109 : Go.Proofs.Lays.n109 Tryz.prog Tryz.lays109_ren := {
  mixed := by kernel_rfl
  f109 := Tryz.func37.trans (congrArg some (by kernel_rfl))
  t0 := Tryz.underlying0
  a0 := Tryz.isAgg0
  z0 := Tryz.sizeOf0
  v0 := Tryz.zeroValue0
  t3 := Tryz.underlying3
  a3 := Tryz.isAgg3
  z3 := Tryz.sizeOf3
  v3 := Tryz.zeroValue3
  t4 := Tryz.underlying4
  a4 := Tryz.isAgg4
  z4 := Tryz.sizeOf4
  v4 := Tryz.zeroValue4
  t9 := Tryz.underlying9
  a9 := Tryz.isAgg9
  z9 := Tryz.sizeOf9
  v9 := Tryz.zeroValue9
  t31 := Tryz.underlying67
  a31 := Tryz.isAgg67
  z31 := Tryz.sizeOf67
  v31 := Tryz.zeroValue67 }
end Go.Proofs
namespace Go.Proofs.YtalfoihffnlelaaGreatDoor
open Go.RowKit Go.Proofs.Lexi
theorem trim_swap {α : Type} (p : α → Bool) : ∀ l : List α, ((l.dropWhile p).reverse.dropWhile p).reverse = ((l.reverse.dropWhile p).reverse).dropWhile p
  | [] => rfl
  | c :: r => by
    have ih := trim_swap p r
    rw [List.reverse_cons, List.dropWhile_append]
    cases hc : p c with
    | true =>
      rw [List.dropWhile_cons_of_pos hc, ih]
      split
      · rename_i he
        have he := List.isEmpty_iff.1 he
        rw [he, List.dropWhile_cons_of_pos hc]
        rfl
      · rw [List.reverse_append, List.reverse_singleton, List.singleton_append, List.dropWhile_cons_of_pos hc]
    | false =>
      have hc' : ¬ p c = true := by rw [hc]; decide
      rw [List.dropWhile_cons_of_neg hc', List.reverse_cons, List.dropWhile_append]
      split
      · rw [List.dropWhile_cons_of_neg hc', List.reverse_singleton, List.dropWhile_cons_of_neg hc']
      · rw [List.reverse_append, List.reverse_singleton, List.singleton_append, List.dropWhile_cons_of_neg hc']
theorem blank_contains (b : UInt8) : ([32, 9, 10, 13] : List UInt8).contains b = isBlank b.toNat := by
  have h : ∀ n : Fin 256, ([32, 9, 10, 13] : List UInt8).contains (UInt8.ofNat n.val) = isBlank (UInt8.ofNat n.val).toNat := by decide +kernel
  have := h ⟨b.toNat, b.toNat_lt⟩
  rwa [UInt8.ofNat_toNat] at this
theorem bytesOf_mk (l : List UInt8) : bytesOf ⟨l.toArray⟩ = l.map UInt8.toNat := rfl
theorem map_drop (l : List UInt8) : (l.dropWhile fun b => ([32, 9, 10, 13] : List UInt8).contains b).map UInt8.toNat = (l.map UInt8.toNat).dropWhile isBlank := by
  induction l with
  | nil => rfl
  | cons c r ih =>
    rw [List.map_cons]
    have hb := blank_contains c
    cases hc : isBlank c.toNat with
    | true => rw [List.dropWhile_cons_of_pos hc, List.dropWhile_cons_of_pos (by rw [hb, hc]), ih]
    | false => rw [List.dropWhile_cons_of_neg (by first | (rw [hb, hc]; decide) | (rw [hc]; decide)), List.dropWhile_cons_of_neg (by first | (rw [hb, hc]; decide) | (rw [hc]; decide)), List.map_cons]
theorem trim_bytes (s : ByteArray) : bytesOf ⟨(Lib.trimS s.data.toList [32, 9, 10, 13]).toArray⟩ = trimG (bytesOf s) := by
  rw [bytesOf_mk]
  unfold trimG
  rw [trim_swap]
  unfold Lib.trimS Lib.trimLeftS Lib.trimRightS
  rw [map_drop, List.map_reverse, map_drop, List.map_reverse]
  rfl
def TrimPost (w : World) (l : List Nat) (e : Ending) (w' : World) : Prop := (∃ r, e = .returned (.string r) ∧ bytesOf r = l) ∧ Below w.heap.size w w'
theorem ascii4 : ∀ (j : Nat) b, (⟨#[32, 9, 10, 13]⟩ : ByteArray).data.toList[j]? = some b → b.toNat < 128 := ascii_of_all (by decide)
abbrev o2 (p q : Int) : Obj := .cells #[.int .i64 p, .int .i64 q] 28
theorem add_run (a b : ByteArray) (h : a.size + b.size ≤ 9223372036854775807) (w : World) : (Op.stringOp .add a b).run Tryz.prog w = .ok (.string (a ++ b)) w := by
  first | exact run_string_add_sum a b h | exact run_string_add_sum w a b h
end Go.Proofs.YtalfoihffnlelaaGreatDoor
namespace Go.Proofs.YtalfoihffnlelaaGreatDoor
structure V where
  k : Int
  p : Int
  q : Int
  s : ByteArray
  r : Int
def V.nil : V := ⟨0, 0, 0, ⟨#[]⟩, 0⟩
def V.num (v : V) : N2 := (v.p, v.q)
abbrev V.cells (v : V) : Array Value := #[.int .i64 v.k, .int .i64 v.p, .int .i64 v.q, .string v.s, .int .i64 v.r]
abbrev V.v (v : V) : Value := .agg v.cells
def eqV (a b : V) : Bool := a.k == b.k && a.p == b.p && a.q == b.q && bytesOf a.s == bytesOf b.s && a.r == b.r
def noNum (v : V) : Bool := v.p == 0 && v.q == 0
def noStr (v : V) : Bool := v.s.size == 0
def isRef (k : Int) : Bool := k == 4 || k == 5 || k == 7 || k == 8
def validV (v : V) : Bool :=
  if v.k = 0 then noNum v && noStr v && v.r == 0
  else if v.k = 1 then noNum v && noStr v && (v.r == 0 || v.r == 1)
  else if v.k = 2 then validN v.num && noStr v && v.r == 0
  else if v.k = 3 then noNum v && decide (v.s.size ≤ 4096) && v.r == 0
  else if isRef v.k then noNum v && noStr v && decide (1 ≤ v.r)
  else if v.k = 6 then noNum v && decide (1 ≤ v.s.size) && decide (v.s.size ≤ 4096) && v.r == 0
  else false
def boolV (b : Bool) : V := ⟨1, 0, 0, ⟨#[]⟩, if b then 1 else 0⟩
def intV (n : Int) : V := if inTop n then ⟨2, n, 1, ⟨#[]⟩, 0⟩ else V.nil
def strV (s : ByteArray) : V := ⟨3, 0, 0, s, 0⟩
end Go.Proofs.YtalfoihffnlelaaGreatDoor
namespace Go.Proofs.YtalfoihffnlelaaGreatDoor
open Go.RowKit
theorem cell_alloc_old {w : World} {o : Obj} {b k : Nat} (h : b < w.heap.size) : (w.alloc o).cell? ⟨b, k, none⟩ = w.cell? ⟨b, k, none⟩ := World.cell?_of_block (Below.heap_alloc w o b h)
end Go.Proofs.YtalfoihffnlelaaGreatDoor
namespace Go.Proofs.YtalfoihffnlelaaGreatDoor
open Go.RowKit Go.Proofs.Lexi
abbrev o4 (h : Bool) (p e f : Int) : Obj := .cells #[.bool h, .int .i64 p, .int .i64 e, .int .i64 f] 174
def Pow10 (w : World) : Prop := Lib.TabIs Tryz.prog w "internal/strconv.uint64pow10" .u64 Lib.pow10Tab
theorem pow10_glob : (Tryz.prog.globalNamed "internal/strconv.uint64pow10").isSome = true := by kernel_rfl
theorem Pow10.stays {w w' : World} (h : Pow10 w) (hb : Below w.heap.size w w') : Pow10 w' := by
  obtain ⟨g, hg⟩ := Option.isSome_iff_exists.1 pow10_glob
  exact Joins.tab_stays hg h hb (Nat.le_refl _)
theorem toList_size (s : ByteArray) : s.toList = [] ↔ s.size = 0 := by
  constructor
  · intro h
    rcases Nat.eq_zero_or_pos s.size with h0 | h0
    · exact h0
    · exact absurd h (toList_ne h0)
  · exact toList_nil
theorem sz_le (n : Nat) : ((n : Int) ≤ 4096) = (n ≤ 4096) := propext ⟨fun h => by omega, fun h => by omega⟩
theorem sz_ge (n : Nat) : ((1 : Int) ≤ (n : Int)) = (1 ≤ n) := propext ⟨fun h => by omega, fun h => by omega⟩
theorem sz_lt (n : Nat) : ((4096 : Int) < (n : Int)) = (4096 < n) := propext ⟨fun h => by omega, fun h => by omega⟩
theorem sz_lt1 (n : Nat) : ((n : Int) < 1) = (n < 1) := propext ⟨fun h => by omega, fun h => by omega⟩
def ValPost (w : World) (v : V) (e : Ending) (w' : World) : Prop := e = .returned v.v ∧ Below w.heap.size w w'
theorem below_five {B : Nat} {a w : World} (h : Below B a w) {b : Nat} (hb : B ≤ b) (x y z u v : Value) : Below B a (((((w.setCell ⟨b, 0, none⟩ x).setCell ⟨b, 1, none⟩ y).setCell ⟨b, 2, none⟩ z).setCell ⟨b, 3, none⟩ u).setCell ⟨b, 4, none⟩ v) :=
  ((((h.setCell (p := ⟨b, 0, none⟩) hb x).setCell (p := ⟨b, 1, none⟩) hb y).setCell (p := ⟨b, 2, none⟩) hb z).setCell (p := ⟨b, 3, none⟩) hb u).setCell (p := ⟨b, 4, none⟩) hb v
theorem val_done {w w' : World} {v : V} {k p q r : Int} {s : ByteArray} (h : v = ⟨k, p, q, s, r⟩) (hb : Below w.heap.size w w') : ValPost w v (.returned (.agg #[.int .i64 k, .int .i64 p, .int .i64 q, .string s, .int .i64 r])) w' := by subst h; exact ⟨rfl, hb⟩
abbrev o5 (k p q : Int) (s : ByteArray) (r : Int) : Obj := .cells #[.int .i64 k, .int .i64 p, .int .i64 q, .string s, .int .i64 r] 30
theorem frozen_of_heap {w : World} {b : Nat} {cs : Array Value} {t : TypeId} (h : w.heap[b]? = some (.cells cs t (0, 0))) (o : Nat) : w.frozen? ⟨b, o, none⟩ = false := by simp [World.frozen?, h]
theorem hkeep {w w' : World} (hb : Below w.heap.size w w') {b : Nat} {o : Obj} (h : w.heap[b]? = some o) : w'.heap[b]? = some o := (hb.block b (Array.getElem?_eq_some_iff.1 h).1).trans h
abbrev oV (k p q : Int) (s : ByteArray) (r : Int) : Obj := .cells #[.int .i64 k, .int .i64 p, .int .i64 q, .string s, .int .i64 r] 30
theorem hgrow {w w' : World} (hb : Below w.heap.size w w') (o : Obj) {b : Nat} {x : Obj} (h : w.heap[b]? = some x) : (w'.alloc o).heap[b]? = some x := by
  have h1 := hkeep hb h
  exact (Below.heap_alloc w' o b (Array.getElem?_eq_some_iff.1 h1).1).trans h1
/-- What the program reads of its package-level variables. -/
def Glob (w : World) : Prop := (∃ m, w.cell? ⟨0, 0, none⟩ = some (.int .i64 m)) ∧ Pow10 w
theorem Glob.stays {w w' : World} (h : Glob w) (hb : Below w.heap.size w w') : Glob w' := by
  obtain ⟨⟨m, hm⟩, hp⟩ := h
  exact ⟨⟨m, (hb.cell (p := ⟨0, 0, none⟩) (World.block_lt_of_cell? _ _ hm)).trans hm⟩, hp.stays hb⟩
def i64 (n : Int) : Prop := -9223372036854775808 ≤ n ∧ n ≤ 9223372036854775807
structure WfV (v : V) : Prop where
  k : i64 v.k
  p : i64 v.p
  q : i64 v.q
  s : v.s.size ≤ maxLen
  r : i64 v.r
theorem cells25 : Tryz.prog.cellsOf 30 = 5 := by kernel_rfl
theorem cells23 : Tryz.prog.cellsOf 28 = 2 := by kernel_rfl
theorem cells3 : Tryz.prog.cellsOf 3 = 1 := by kernel_rfl
theorem cells9 : Tryz.prog.cellsOf 9 = 1 := by kernel_rfl
end Go.Proofs.YtalfoihffnlelaaGreatDoor
namespace Go.Proofs.YtalfoihffnlelaaGreatDoor
open Go.ChangeShapes Go.WideShapes Go.ChangeAt Go.WideMaps Go.WideElems Go.RowKit
theorem underVals : Tryz.prog.underlying 22 = some (.slice 30) := by kernel_rfl
theorem cell_in {w : World} {a : Addr} {v : Value} (h : w.cell? a = some v) : a.block < w.heap.size := World.block_lt_of_cell? _ a h
end Go.Proofs.YtalfoihffnlelaaGreatDoor
