import Derived.Tactics
import Derived.Orders
import Derived.Laws.Sem
import Derived.Laws.Panics
import Derived.WalkKit
import Derived.Test.YtalfoihffnlelaaGreatDoorProg
import Derived.KernelRfl
import Derived.Lib.Hide
import Derived.Lib.Strings
import Derived.Laws.EntriesVeiled
import Derived.Maps.AppendAt
import Derived.RegionTactic
import Derived.BigRegion
import Derived.Below
import Derived.IntWalk
import Derived.Deep.LoopGhost
import Derived.Deep.Draws
import Derived.Deep.RegionHeld3
import Derived.Deep.QuietTactic
import Derived.BigQuiet
import Derived.BigFrame
import Derived.Laws.MakeOwn
import Derived.Lib.SliceRun
import Derived.Lib.AppendStr
import Derived.WalkSmall
import Derived.Shelf.Strings.Builder1
import Derived.Shelf.Strings.Builder2
import Derived.Shelf.Strings.Trim
import Derived.Shelf.Small.Utf8
import Derived.Shelf.Small.Strs
import Derived.Shelf.Small.Wraps
import Derived.Shelf.Strconv.Itoa0
import Derived.Shelf.Strconv.Itoa1
import Derived.Shelf.LaysM
import Derived.Shelf.Strconv.Itoa2
import Derived.Shelf.Strconv.Itoa3
import Derived.Shelf.Strings.Search1
import Derived.Shelf.Strings.Search2
import Derived.Shelf.Strings.Cut
import Derived.Shelf.Strings.Shaped
import Derived.Shelf.Strings.LastIndex
import Derived.Shelf.Strings.Prefix
import Derived.Shelf.Strings.Fields
import Derived.Shelf.Strings.SplitShaped
import Derived.Shelf.Unicode.Latin
import Derived.Shelf.Unicode.Decode
import Derived.Shelf.Strings.Runes
import Derived.Shelf.Strings.AsciiSet
import Derived.Shelf.Unicode.DecodeSlow
import Derived.Shelf.Unicode.DecodeAny
import Derived.Shelf.Unicode.Is16White
import Derived.Shelf.Unicode.IsSpaceAny
import Derived.Shelf.Unicode.DecodeLast
import Derived.Shelf.Unicode.Is16Any
import Derived.Shelf.Unicode.Is32Any
import Derived.Shelf.Unicode.ExclAny
import Derived.Shelf.Slices.Turned
import Derived.Shelf.Strings.SlTrimAscii
set_option linter.unusedVariables false
set_option linter.unusedSimpArgs false
namespace Go.Proofs.Lexi
open Go
section
variable {P : Program}
/-- W has all blocks of w, unchanged. -/
structure Ext (w W : World) : Prop where
  size : w.heap.size ≤ W.heap.size
  block : ∀ k, k < w.heap.size → W.heap[k]? = w.heap[k]?
theorem Ext.refl (w : World) : Ext w w := ⟨Nat.le_refl _, fun _ _ => rfl⟩
theorem Ext.trans {a b c : World} (h : Ext a b) (k : Ext b c) : Ext a c :=
  ⟨Nat.le_trans h.size k.size, fun i hi => (k.block i (Nat.lt_of_lt_of_le hi h.size)).trans (h.block i hi)⟩
def Pureish {α : Type} (P : Program) (s : Sem α) : Prop := ∀ w x w', s.run P w = .ok x w' → w' = w ∧ ∀ W, s.run P W = .ok x W
def Readish {α : Type} (P : Program) (s : Sem α) : Prop := ∀ w x w', s.run P w = .ok x w' → w' = w ∧ ∀ W, Ext w W → s.run P W = .ok x W
def Newish {α : Type} (P : Program) (s : Sem α) : Prop := ∀ w x w', s.run P w = .ok x w' → Ext w w'
theorem Pureish.read {α : Type} {s : Sem α} (h : Pureish P s) : Readish P s := fun w x w' e => ⟨(h w x w' e).1, fun W _ => (h w x w' e).2 W⟩
theorem Readish.new {α : Type} {s : Sem α} (h : Readish P s) : Newish P s := fun w x w' e => by rw [(h w x w' e).1]; exact Ext.refl _
theorem Pureish.pure {α : Type} (a : α) : Pureish P (Pure.pure a : Sem α) := fun w x w' e => by
  simp only [Sem.run_pure] at e; injection e with e1 e2; subst e1; subst e2; exact ⟨rfl, fun _ => by simp⟩
theorem Pureish.bind {α β : Type} {s : Sem α} {f : α → Sem β} (h : Pureish P s) (hf : ∀ a, Pureish P (f a)) : Pureish P (s >>= f) := fun w x w' e => by
  rw [Sem.run_bind] at e
  cases hs : s.run P w with
  | halt h w1 => rw [hs] at e; cases e
  | ok a w1 =>
    rw [hs] at e
    obtain ⟨rfl, h1⟩ := h _ _ _ hs
    obtain ⟨h2, h3⟩ := hf a _ _ _ e
    exact ⟨h2, fun W => by rw [Sem.run_bind, h1 W]; exact h3 W⟩
theorem Readish.bind {α β : Type} {s : Sem α} {f : α → Sem β} (h : Readish P s) (hf : ∀ a, Readish P (f a)) : Readish P (s >>= f) := fun w x w' e => by
  rw [Sem.run_bind] at e
  cases hs : s.run P w with
  | halt h w1 => rw [hs] at e; cases e
  | ok a w1 =>
    rw [hs] at e
    obtain ⟨rfl, h1⟩ := h _ _ _ hs
    obtain ⟨h2, h3⟩ := hf a _ _ _ e
    exact ⟨h2, fun W hW => by rw [Sem.run_bind, h1 W hW]; exact h3 W hW⟩
theorem Newish.bind {α β : Type} {s : Sem α} {f : α → Sem β} (h : Newish P s) (hf : ∀ a, Newish P (f a)) : Newish P (s >>= f) := fun w x w' e => by
  rw [Sem.run_bind] at e
  cases hs : s.run P w with
  | halt h w1 => rw [hs] at e; cases e
  | ok a w1 => rw [hs] at e; exact (h _ _ _ hs).trans (hf a _ _ _ e)
/-- Whatever never succeeds. -/
theorem Pureish.never {α : Type} {s : Sem α} (h : ∀ w, ∃ x w', s.run P w = .halt x w') : Pureish P s := fun w x w' e => by
  obtain ⟨_, _, h⟩ := h w; rw [h] at e; cases e
theorem Pureish.halt {α : Type} (h : Halt) : Pureish P (Sem.halt h : Sem α) := Pureish.never fun w => ⟨h, w, rfl⟩
theorem Pureish.stuck {α : Type} (h : String) : Pureish P (Go.stuck h : Sem α) := Pureish.halt _
theorem Pureish.unsupported {α : Type} (h : Unsupported) : Pureish P (Go.unsupported h : Sem α) := Pureish.halt _
theorem Pureish.boundsPanic {α : Type} (k : IntKind) (x y : Int) (c : BoundsCode) : Pureish P (boundsPanic k x y c : Sem α) :=
  Pureish.never fun w => by obtain ⟨s, w', h⟩ := run_boundsPanic (P := P) (w := w) (α := α) k x y c; exact ⟨_, _, h⟩
theorem Pureish.program : Pureish P Go.program := fun w x w' e => by
  simp only [Go.program, Sem.run] at e
  injection e with e1 e2; subst e1; subst e2; exact ⟨rfl, fun _ => rfl⟩
theorem Pureish.ite {α : Type} {c : Prop} [Decidable c] {s t : Sem α} (h : Pureish P s) (k : Pureish P t) : Pureish P (if c then s else t) := by split <;> assumption
theorem Pureish.underlying (t : TypeId) : Pureish P (Go.underlying t) := by
  unfold Go.underlying
  refine Pureish.bind Pureish.program fun p => ?_
  split
  · exact Pureish.pure _
  · exact Pureish.stuck _
theorem Pureish.typeInfo (t : TypeId) : Pureish P (Go.typeInfo t) := by
  unfold Go.typeInfo
  refine Pureish.bind Pureish.program fun p => ?_
  split
  · exact Pureish.pure _
  · exact Pureish.stuck _
theorem Pureish.sizeOf (t : TypeId) : Pureish P (Go.sizeOf t) := by
  unfold Go.sizeOf
  exact Pureish.bind (Pureish.typeInfo t) fun _ => Pureish.pure _
theorem Pureish.isAgg (t : TypeId) : Pureish P (Go.isAgg t) := by
  unfold Go.isAgg
  refine Pureish.bind (Pureish.underlying t) fun d => ?_
  split <;> exact Pureish.pure _
theorem Pureish.zeroValue (t : TypeId) : Pureish P (Go.zeroValue t) := by
  unfold Go.zeroValue
  refine Pureish.bind (Pureish.typeInfo t) fun d => ?_
  split
  · exact Pureish.pure _
  · exact Pureish.unsupported _
theorem Pureish.part (t : TypeId) (cs : Array Value) (off : Nat) : Pureish P (Go.part t cs off) := by
  unfold Go.part
  refine Pureish.bind (Pureish.isAgg t) fun b => ?_
  split
  · exact Pureish.bind (Pureish.sizeOf t) fun _ => Pureish.pure _
  · split
    · exact Pureish.pure _
    · exact Pureish.stuck _
theorem Pureish.asIntOf (v : Value) : Pureish P (Go.asIntOf v) := by
  unfold Go.asIntOf
  split <;> first | exact Pureish.pure _ | exact Pureish.stuck _ | exact Pureish.unsupported _
theorem Pureish.asInt (v : Value) : Pureish P (Go.asInt v) := by
  unfold Go.asInt
  exact Pureish.bind (Pureish.asIntOf v) fun _ => Pureish.pure _
theorem Pureish.asBool (v : Value) : Pureish P (Go.asBool v) := by
  unfold Go.asBool
  split <;> first | exact Pureish.pure _ | exact Pureish.stuck _ | exact Pureish.unsupported _
theorem Pureish.asAgg (v : Value) : Pureish P (Go.asAgg v) := by
  unfold Go.asAgg
  split <;> first | exact Pureish.pure _ | exact Pureish.stuck _ | exact Pureish.unsupported _
theorem Pureish.sureAddr (v : Value) : Pureish P (Instr.sureAddr v) := by
  unfold Instr.sureAddr
  split <;> first | exact Pureish.pure _ | exact Pureish.stuck _
def Never {α : Type} (P : Program) (s : Sem α) : Prop := ∀ w, ∃ x w', s.run P w = .halt x w'
theorem Never.bind {α β : Type} (s : Sem α) {f : α → Sem β} (hf : ∀ a, Never P (f a)) : Never P (s >>= f) := fun w => by
  rw [Sem.run_bind]
  cases hs : s.run P w with
  | halt h w1 => exact ⟨h, w1, rfl⟩
  | ok a w1 => exact hf a w1
theorem Never.goPanic {α : Type} (v : Value) : Never P (Go.goPanic v : Sem α) := fun w => ⟨_, w, rfl⟩
theorem Pureish.runtimePanic {α : Type} (e : RuntimeError) : Pureish P (Go.runtimePanic e : Sem α) := by
  refine Pureish.never ?_
  unfold Go.runtimePanic
  refine Never.bind _ fun p => ?_
  cases e <;> dsimp only <;> first | exact Never.goPanic _ | exact Never.bind _ fun _ => Never.bind _ fun _ => Never.goPanic _
theorem Pureish.asAddr (v : Value) : Pureish P (Go.asAddr v) := by
  unfold Go.asAddr
  split <;> first | exact Pureish.pure _ | exact Pureish.stuck _ | exact Pureish.runtimePanic _
theorem Pureish.sliceBound (x : Value) (y : Nat) (c : BoundsCode) : Pureish P (Instr.sliceBound x y c) := by
  unfold Instr.sliceBound
  refine Pureish.bind (Pureish.asIntOf x) fun p => ?_
  exact Pureish.ite (Pureish.pure _) (Pureish.boundsPanic _ _ _ _)
theorem Pureish.sliceBounds (b : Bool) (l c : Nat) (lo hi mx : Option Value) : Pureish P (Instr.sliceBounds b l c lo hi mx) := by
  unfold Instr.sliceBounds
  cases mx <;> cases hi <;> cases lo <;> dsimp only <;>
    repeat' (first | exact Pureish.pure _ | exact Pureish.stuck _ | exact Pureish.sliceBound _ _ _ | refine Pureish.bind ?_ (fun _ => ?_))
theorem Pureish.slice (t : TypeId) (x : Value) (lo hi mx : Option Value) : Pureish P (Instr.slice t x lo hi mx) := by
  unfold Instr.slice
  refine Pureish.bind (Pureish.underlying t) fun d => ?_
  split
  · refine Pureish.ite (Pureish.bind (Pureish.stuck _) fun _ => ?_) ?_
    all_goals exact Pureish.bind (Pureish.sliceBounds _ _ _ _ _ _) fun _ => Pureish.pure _
  · exact Pureish.bind (Pureish.sliceBounds _ _ _ _ _ _) fun _ => Pureish.bind (Pureish.sizeOf _) fun _ => Pureish.pure _
  · refine Pureish.bind (Pureish.asAddr _) fun _ => Pureish.bind (Pureish.underlying _) fun _ => ?_
    split
    · exact Pureish.bind (Pureish.sliceBounds _ _ _ _ _ _) fun _ => Pureish.bind (Pureish.sizeOf _) fun _ => Pureish.pure _
    · exact Pureish.stuck _
  · exact Pureish.stuck _
theorem Pureish.sliceAt (t : TypeId) (x : Value) (lo hi mx : Option Value) : Pureish P (Instr.sliceAt t x lo hi mx) := by
  unfold Instr.sliceAt
  refine Pureish.bind (Pureish.underlying t) fun d => ?_
  split
  · exact Pureish.bind (Pureish.sureAddr _) fun _ => Pureish.bind (Pureish.sliceBounds _ _ _ _ _ _) fun _ => Pureish.bind (Pureish.sizeOf _) fun _ => Pureish.pure _
  · exact Pureish.slice _ _ _ _ _
theorem Pureish.indexAt (t : TypeId) (x i : Value) : Pureish P (Instr.indexAt t x i) := by
  unfold Instr.indexAt
  dsimp only
  repeat' (first | exact Pureish.pure _ | exact Pureish.stuck _ | exact Pureish.unsupported _ | exact Pureish.boundsPanic _ _ _ _ | exact Pureish.underlying _ | exact Pureish.sizeOf _ | exact Pureish.asIntOf _ | exact Pureish.sureAddr _ | refine Pureish.bind ?_ (fun _ => ?_) | refine Pureish.ite ?_ ?_ | split)
theorem Pureish.index (t : TypeId) (x i : Value) : Pureish P (Instr.index t x i) := by
  unfold Instr.index
  refine Pureish.bind (Pureish.asIntOf _) fun p => Pureish.bind (Pureish.underlying t) fun d => ?_
  split
  · exact Pureish.ite (Pureish.bind (Pureish.sizeOf _) fun _ => Pureish.part _ _ _) (Pureish.boundsPanic _ _ _ _)
  · split
    · exact Pureish.pure _
    · exact Pureish.boundsPanic _ _ _ _
  · exact Pureish.stuck _
theorem Pureish.field (t : TypeId) (x : Value) (i : Nat) : Pureish P (Instr.field t x i) := by
  unfold Instr.field
  refine Pureish.bind (Pureish.underlying t) fun d => ?_
  split
  · split
    · exact Pureish.bind (Pureish.asAgg _) fun _ => Pureish.part _ _ _
    · exact Pureish.stuck _
  · exact Pureish.stuck _
theorem Pureish.extract (t : Value) (i : Nat) : Pureish P (Instr.extract t i) := by
  unfold Instr.extract
  split
  · split
    · exact Pureish.pure _
    · exact Pureish.stuck _
  · exact Pureish.stuck _
/-- No part of size nought among the fields that are named. -/
def fieldOK (P : Program) (s : TypeId) (f : Nat) : Bool :=
  match P.underlying s with
  | some (.struct fields) => (fields[f]?).all fun fd => (P.info? fd.type).all fun i => i.size != 0
  | _ => true
theorem Pureish.fieldAt (s : TypeId) (x : Value) (f : Nat) (h : fieldOK P s f = true) : Pureish P (Instr.fieldAt s x f) := by
  intro w v w' e
  unfold Instr.fieldAt at e ⊢
  simp only [Sem.run_bind, Go.underlying, Go.program] at e ⊢
  simp only [Sem.run, Result.andThen_ok] at e ⊢
  unfold fieldOK at h
  cases hu : P.underlying s with
  | none => rw [hu] at e; simp [Go.stuck] at e
  | some d =>
    rw [hu] at e h
    simp only [Sem.run_pure, Result.andThen_ok] at e ⊢
    cases d <;> simp only [] at e h ⊢ <;> try (simp [Go.stuck] at e; done)
    rename_i fields
    cases hf : fields[f]? with
    | none => rw [hf] at e; simp [Go.stuck] at e
    | some fd =>
      rw [hf] at e h
      simp only [Option.all_some] at h
      simp only [Sem.run_bind] at e ⊢
      cases x with
      | pointer p =>
        cases p with
        | none => simp [Instr.sureAddr, Go.stuck] at e
        | some a =>
          simp only [Instr.sureAddr, Sem.run_pure, Result.andThen_ok, fieldPlace, Go.sizeOf, Go.typeInfo, Go.program, Sem.run_bind, Sem.run] at e ⊢
          cases hi : P.info? fd.type with
          | none => rw [hi] at e; simp [Go.stuck] at e
          | some i =>
            rw [hi] at e h
            simp only [Option.all_some, bne_iff_ne] at h
            simp only [Sem.run_pure, Result.andThen_ok, if_neg h] at e ⊢
            injection e with e1 e2
            subst e1; subst e2
            exact ⟨rfl, fun _ => rfl⟩
      | _ => simp [Instr.sureAddr, Go.stuck] at e
theorem Pureish.build (t : TypeId) (ps : Array (Nat × Value)) : Pureish P (Instr.build t ps) := by
  unfold Instr.build
  refine Pureish.bind (Pureish.zeroValue _) fun z => Pureish.bind (Pureish.underlying _) fun d => ?_
  split
  · refine Pureish.bind ?_ fun _ => ?_
    · rename_i fields
      have key : ∀ (l : List Field) (acc : Array (Nat × Nat)), Pureish P (l.foldlM (init := acc) fun bs a => bs.push <$> (do let s ← Go.sizeOf a.type; Pure.pure (a.offset, s))) := by
        intro l
        induction l with
        | nil => intro acc; exact Pureish.pure _
        | cons x xs ih =>
          intro acc
          rw [List.foldlM_cons]
          refine Pureish.bind ?_ fun _ => ih _
          rw [← bind_pure_comp]
          exact Pureish.bind (Pureish.bind (Pureish.sizeOf _) fun _ => Pureish.pure _) fun _ => Pureish.pure _
      have := key fields.toList #[]
      rw [Array.mapM_eq_foldlM]
      simpa using this
    · split
      · exact Pureish.pure _
      · exact Pureish.stuck _
  · refine Pureish.bind (Pureish.sizeOf _) fun _ => ?_
    split
    · exact Pureish.pure _
    · exact Pureish.stuck _
  · exact Pureish.stuck _
/-- Operands of a comparison or a sum that name no memory. -/
def plainPair : Value → Value → Bool
  | .int .., .int .. | .string _, .string _ | .bool _, .bool _ => true
  | .pointer none, .pointer _ | .pointer _, .pointer none => true
  | .slice none .., .slice .. | .slice .., .slice none .. => true
  | .nilFunc, .nilFunc | .nilFunc, .func .. | .func .., .nilFunc => true
  | .map none, .map _ | .map _, .map none => true
  | .nilIface, .iface .. | .iface .., .nilIface => true
  | _, _ => false
theorem opt_cases {α : Type} (a : Option α) : a = none ∨ ∃ x, a = some x := by cases a <;> simp
theorem plain_cases {x y : Value} (h : plainPair x y = true) :
    (∃ k a k' b, x = .int k a ∧ y = .int k' b) ∨
    (∃ a b, x = .string a ∧ y = .string b) ∨
    (∃ a b, x = .bool a ∧ y = .bool b) ∨
    (x = .pointer none ∧ y = .pointer none) ∨
    (∃ a, x = .pointer none ∧ y = .pointer (some a)) ∨
    (∃ a, x = .pointer (some a) ∧ y = .pointer none) ∨
    (∃ l c l' c', x = .slice none l c ∧ y = .slice none l' c') ∨
    (∃ l c a l' c', x = .slice none l c ∧ y = .slice (some a) l' c') ∨
    (∃ a l c l' c', x = .slice (some a) l c ∧ y = .slice none l' c') ∨
    (x = .nilFunc ∧ y = .nilFunc) ∨
    (∃ f a b, x = .nilFunc ∧ y = .func f a b) ∨
    (∃ f a b, x = .func f a b ∧ y = .nilFunc) ∨
    (x = .map none ∧ y = .map none) ∨
    (∃ a, x = .map none ∧ y = .map (some a)) ∨
    (∃ a, x = .map (some a) ∧ y = .map none) ∨
    (∃ t v, x = .nilIface ∧ y = .iface t v) ∨
    (∃ t v, x = .iface t v ∧ y = .nilIface) := by
  unfold plainPair at h
  split at h <;> first | (cases h; done) | (simp; done) | (simp; exact opt_cases _)
theorem Pureish.equalIn (d : Nat) (t : TypeId) (x y : Value) (h : plainPair x y = true) : Pureish P (Op.equalIn (d + 1) t x y) := by
  unfold Op.equalIn
  refine Pureish.bind (Pureish.underlying t) fun u => ?_
  rcases plain_cases h with ⟨k, a, k', b, rfl, rfl⟩ | ⟨a, b, rfl, rfl⟩ | ⟨a, b, rfl, rfl⟩ | ⟨rfl, rfl⟩ | ⟨a, rfl, rfl⟩ | ⟨a, rfl, rfl⟩ | ⟨l, c, l', c', rfl, rfl⟩ | ⟨l, c, a, l', c', rfl, rfl⟩ | ⟨a, l, c, l', c', rfl, rfl⟩ | ⟨rfl, rfl⟩ | ⟨f, a, b, rfl, rfl⟩ | ⟨f, a, b, rfl, rfl⟩ | ⟨rfl, rfl⟩ | ⟨a, rfl, rfl⟩ | ⟨a, rfl, rfl⟩ | ⟨t, v, rfl, rfl⟩ | ⟨t, v, rfl, rfl⟩
  all_goals
    cases u <;> dsimp only <;> repeat' (first | exact Pureish.pure _ | exact Pureish.stuck _ | exact Pureish.unsupported _ | exact Pureish.runtimePanic _ | refine Pureish.ite ?_ ?_ | split)
theorem Pureish.equal (t : TypeId) (x y : Value) (h : plainPair x y = true) : Pureish P (Op.equal t x y) := Pureish.equalIn 9999 t x y h
theorem Pureish.binOp (op : BinOp) (t : TypeId) (x y : Value) (h : plainPair x y = true) : Pureish P (Go.binOp op t x y) := by
  have he := Pureish.equal (P := P) t x y h
  have e1 : Pureish P (do Pure.pure (Value.bool (← Op.equal t x y))) := Pureish.bind he fun _ => Pureish.pure _
  have e2 : Pureish P (do Pure.pure (Value.bool (!(← Op.equal t x y)))) := Pureish.bind he fun _ => Pureish.pure _
  rcases plain_cases h with ⟨k, a, k', b, rfl, rfl⟩ | ⟨a, b, rfl, rfl⟩ | ⟨a, b, rfl, rfl⟩ | ⟨rfl, rfl⟩ | ⟨a, rfl, rfl⟩ | ⟨a, rfl, rfl⟩ | ⟨l, c, l', c', rfl, rfl⟩ | ⟨l, c, a, l', c', rfl, rfl⟩ | ⟨a, l, c, l', c', rfl, rfl⟩ | ⟨rfl, rfl⟩ | ⟨f, a, b, rfl, rfl⟩ | ⟨f, a, b, rfl, rfl⟩ | ⟨rfl, rfl⟩ | ⟨a, rfl, rfl⟩ | ⟨a, rfl, rfl⟩ | ⟨t, v, rfl, rfl⟩ | ⟨t, v, rfl, rfl⟩
  all_goals
    unfold Go.binOp
    cases op <;> dsimp only [Op.shift, Op.intArith, Op.intDiv, Op.intBits, Op.intCmp, Op.stringOp] <;> first | exact e1 | exact e2 | (repeat' (first | exact Pureish.pure _ | exact Pureish.stuck _ | exact Pureish.unsupported _ | exact Pureish.runtimePanic _ | refine Pureish.ite ?_ ?_ | split))
theorem Pureish.eqGuard (op : BinOp) (t : TypeId) (x y : Operand) (a b : Value) (h : plainPair a b = true) : Pureish P (Go.eqGuard op t x y a b) := by
  unfold Go.eqGuard
  rcases plain_cases h with ⟨k, a, k', b, rfl, rfl⟩ | ⟨a, b, rfl, rfl⟩ | ⟨a, b, rfl, rfl⟩ | ⟨rfl, rfl⟩ | ⟨a, rfl, rfl⟩ | ⟨a, rfl, rfl⟩ | ⟨l, c, l', c', rfl, rfl⟩ | ⟨l, c, a, l', c', rfl, rfl⟩ | ⟨a, l, c, l', c', rfl, rfl⟩ | ⟨rfl, rfl⟩ | ⟨f, a, b, rfl, rfl⟩ | ⟨f, a, b, rfl, rfl⟩ | ⟨rfl, rfl⟩ | ⟨a, rfl, rfl⟩ | ⟨a, rfl, rfl⟩ | ⟨t, v, rfl, rfl⟩ | ⟨t, v, rfl, rfl⟩
  all_goals
    cases op <;> dsimp only <;> repeat' (first | exact Pureish.pure _ | exact Pureish.stuck _ | exact Pureish.unsupported _ | exact Pureish.runtimePanic _ | refine Pureish.ite ?_ ?_ | split)
theorem Pureish.unary (op : UnOp) (x : Value) : Pureish P (Op.unary op x) := by
  unfold Op.unary
  split <;> (try dsimp only [Op.intArith, Op.intBits]) <;> first | exact Pureish.pure _ | exact Pureish.unsupported _ | exact Pureish.stuck _
def plainLen : Value → Bool
  | .string _ | .slice .. => true
  | _ => false
theorem Pureish.len (ts : Array TypeId) (t : TypeId) (x : Value) (h : plainLen x = true) : Pureish P (Builtin.len_ ts t #[x]) := by
  unfold Builtin.len_
  cases x <;> first | (cases h; done) | skip
  all_goals
    split
    · refine Pureish.bind (Pureish.underlying _) fun u => ?_
      rename_i heq
      simp only [List.getElem?_toArray, List.length_cons, List.length_nil, Nat.zero_add, Nat.lt_add_one, getElem?_pos, List.getElem_cons_zero, Prod.mk.injEq, Option.some.injEq] at heq
      obtain ⟨_, rfl⟩ := heq
      cases u <;> dsimp only <;> repeat' (first | exact Pureish.pure _ | exact Pureish.stuck _ | exact Pureish.underlying _ | refine Pureish.bind ?_ (fun _ => ?_) | split)
    · exact Pureish.stuck _
theorem Ext.get {w W : World} (h : Ext w W) {b : Nat} {o : Obj} (e : w.heap[b]? = some o) : W.heap[b]? = some o := by
  rw [h.block b ((Array.getElem?_eq_some_iff.1 e).1)]; exact e
theorem seen_ext {w W : World} (h : Ext w W) {at_ k : Addr} {u : TypeId} {m : Bool} {r} (e : w.seen P at_ u k m = .ok r) : W.seen P at_ u k m = .ok r := by
  cases hb : w.heap[at_.block]? with
  | some o => unfold World.seen at e ⊢; rw [h.get hb]; rw [hb] at e; exact e
  | none =>
    exfalso
    unfold World.seen at e
    rw [hb] at e
    simp only [bind, Except.bind] at e
    repeat' (split at e <;> first | (cases e; done) | skip)
theorem viewLoad_ext {w W : World} (h : Ext w W) {at_ k : Addr} {u : TypeId} {m : Bool} {r} (e : w.viewLoad P at_ u k m = .ok r) : W.viewLoad P at_ u k m = .ok r := by
  unfold World.viewLoad at e ⊢
  cases hs : w.seen P at_ u k m with
  | error x => rw [hs] at e; cases e
  | ok r' => rw [seen_ext h hs]; rw [hs] at e; exact e
theorem Readish.load (a : Addr) (m : Mode) : Readish P (Go.load a m) := by
  intro w x w' e
  rw [run_load] at e
  cases hc : w.cell? a with
  | some v =>
    rw [hc] at e
    simp only [] at e
    injection e with e1 e2
    subst e1; subst e2
    refine ⟨rfl, fun W hW => ?_⟩
    have hb : ∃ o, w.heap[a.block]? = some o := by
      unfold World.cell? at hc
      cases h : w.heap[a.block]? with
      | none => rw [h] at hc; cases hc
      | some o => exact ⟨o, rfl⟩
    obtain ⟨o, ho⟩ := hb
    have : W.cell? a = some v := by rw [← hc]; unfold World.cell?; rw [ho, hW.get ho]
    rw [run_load, this]
  | none =>
    rw [hc] at e
    simp only [] at e
    cases hf : w.farLoad P a (m == .atomic) with
    | error x => rw [hf] at e; cases e
    | ok r =>
      rw [hf] at e
      obtain ⟨v, l⟩ := r
      simp only [] at e
      injection e with e1 e2
      subst e1; subst e2
      refine ⟨rfl, fun W hW => ?_⟩
      unfold World.farLoad at hf
      cases hb : w.heap[a.block]? with
      | none => rw [hb] at hf; cases hf
      | some o =>
        rw [hb] at hf
        have h1 : W.cell? a = none := by rw [← hc]; unfold World.cell?; rw [hb, hW.get hb]
        have h2 : W.farLoad P a (m == .atomic) = .ok (v, l) := by
          unfold World.farLoad
          rw [hW.get hb]
          cases o <;> first | (cases hf; done) | skip
          rename_i at_ u
          simp only [] at hf ⊢
          cases hv : w.viewLoad P at_ u a (m == .atomic) with
          | error y => rw [hv] at hf; cases hf
          | ok r => rw [hv] at hf; rw [viewLoad_ext hW hv]; exact hf
        rw [run_load, h1, h2]
theorem Readish.loadCellsFrom (a : Addr) : ∀ (n i : Nat) (acc : Array Value), Readish P (Go.loadCellsFrom a i n acc)
  | 0, _, _ => (Pureish.pure _).read
  | n + 1, i, acc => by
    unfold Go.loadCellsFrom
    exact Readish.bind (Readish.load _ _) fun v => Readish.loadCellsFrom a n (i + 1) _
theorem Readish.loadAt (t : TypeId) (v : Value) : Readish P (Instr.loadAt t v) := by
  unfold Instr.loadAt Go.loadVar
  refine Readish.bind (Pureish.sureAddr v).read fun a => Readish.bind (Pureish.isAgg t).read fun b => ?_
  split
  · exact Readish.bind (Pureish.sizeOf t).read fun n => Readish.bind (Readish.loadCellsFrom _ _ _ _) fun _ => (Pureish.pure _).read
  · exact Readish.load _ _
theorem Newish.newObj (o : Obj) : Newish P (Go.newObj o) := fun w x w' e => by
  simp only [Go.newObj, Sem.run] at e
  injection e with e1 e2
  subst e2
  refine ⟨by simp, fun k hk => ?_⟩
  show (w.heap.push o)[k]? = _
  rw [Array.getElem?_push, if_neg (by omega)]
theorem Newish.newRow (e : TypeId) (c : Array Value) : Newish P (Go.newRow e c) := by
  unfold Go.newRow
  exact Newish.bind (Newish.newObj _) fun _ => (Pureish.pure _).read.new
theorem Newish.alloc (e : TypeId) (v : Value) : Newish P (Instr.alloc e true v) := by
  unfold Instr.alloc
  refine Newish.bind (Pureish.zeroValue _).read.new fun z => ?_
  split
  · rename_i h; cases h
  · exact Newish.bind (Newish.newRow _ _) fun _ => (Pureish.pure _).read.new
theorem Newish.box (e : TypeId) (v : Value) : Newish P (Instr.box e v) := by
  unfold Instr.box
  exact Newish.bind (Newish.newRow _ _) fun _ => (Pureish.pure _).read.new
theorem Newish.buildSlice (t : TypeId) (n : Nat) (ps : Array (Nat × Value)) : Newish P (Instr.buildSlice t n ps) := by
  unfold Instr.buildSlice
  dsimp only
  repeat' (first | exact (Pureish.pure _).read.new | exact (Pureish.stuck _).read.new | exact (Pureish.unsupported _).read.new | exact (Pureish.underlying _).read.new | exact (Pureish.sizeOf _).read.new | exact (Pureish.zeroValue _).read.new | exact Newish.newRow _ _ | refine Newish.bind ?_ (fun _ => ?_) | split)
theorem Newish.askRoom (n : Nat) : Newish P (Go.askRoom n) := by
  unfold Go.askRoom
  split
  · intro w x w' e
    simp only [Go.mark, Sem.run] at e
    injection e with e1 e2
    subst e2; exact Ext.refl _
  · exact (Pureish.pure _).read.new
theorem Newish.choose (q : Question) : Newish P (Go.choose q) := fun w x w' e => by
  simp only [Go.choose, Sem.run] at e
  split at e
  · injection e with e1 e2; subst e2; exact Ext.refl _
  · injection e with e1 e2; subst e2; exact ⟨Nat.le_refl _, fun _ _ => rfl⟩
theorem Newish.makeSlice (t : TypeId) (l c : Value) : Newish P (Instr.makeSlice t l c) := by
  unfold Instr.makeSlice
  dsimp only
  repeat' (first | exact (Pureish.pure _).read.new | exact (Pureish.stuck _).read.new | exact (Pureish.unsupported _).read.new | exact (Pureish.underlying _).read.new | exact (Pureish.sizeOf _).read.new | exact (Pureish.typeInfo _).read.new | exact (Pureish.asInt _).read.new | exact (Pureish.zeroValue _).read.new | exact (Pureish.runtimePanic _).read.new | exact Newish.askRoom _ | exact Newish.choose _ | exact Newish.newRow _ _ | refine Newish.bind ?_ (fun _ => ?_) | split)
/-- The operand of a built-in len. -/
def lenCall (c : Call) : Option Operand :=
  match c.callee with
  | .builtin .len => if c.args.size = 1 then c.args[0]? else none
  | _ => none
/-- Operations that touch no memory; of some the check at the region's end asks plain operands. -/
def isPure (P : Program) : Op → Bool
  | .move _ | .assign _ | .pick .. | .extract .. | .makeFunc .. | .index .. | .indexAddr .. | .slice .. | .field .. | .build .. | .unOp .. | .binOp .. | .nilCheck _ => true
  | .fieldAddr s _ f => fieldOK P s f
  | .call c => (lenCall c).isSome
  | _ => false
def isRead : Op → Bool
  | .load .. => true
  | _ => false
def isNew : Op → Bool
  | .alloc _ | .box .. | .buildSlice .. | .makeSlice .. => true
  | _ => false
def plainPtr : Value → Bool
  | .pointer _ => true
  | _ => false
/-- What is asked of an operation's operands at the region's end. -/
def okVal (ρ : Operand → Value) : Op → Bool
  | .binOp _ _ x y _ => plainPair (ρ x) (ρ y)
  | .nilCheck x => plainPtr (ρ x)
  | .call c => (lenCall c).all fun x => plainLen (ρ x)
  | _ => true
theorem Pureish.value {s : Sem Value} (h : Pureish P s) : Pureish P (do Pure.pure (Next.value (← s))) := Pureish.bind h fun _ => Pureish.pure _
theorem pure_exec (ρ : Operand → Value) (o : Oper) (h : isPure P o.op = true) (hv : okVal ρ o.op = true) : Pureish P (execOp ρ o) := by
  obtain ⟨dst, op, type, pos, after, guard⟩ := o
  cases op <;> first | (cases h; done) | skip
  case move => exact Pureish.pure _
  case assign => exact Pureish.pure _
  case pick => exact Pureish.bind (Pureish.asBool _) fun _ => Pureish.pure _
  case extract => exact (Pureish.extract _ _).value
  case makeFunc => exact (Pureish.pure _).value
  case index => exact (Pureish.index _ _ _).value
  case indexAddr => exact (Pureish.indexAt _ _ _).value
  case slice => exact (Pureish.sliceAt _ _ _ _ _).value
  case field => exact (Pureish.field _ _ _).value
  case build => exact (Pureish.build _ _).value
  case unOp => exact (Pureish.unary _ _).value
  case binOp => exact (Pureish.bind (Pureish.eqGuard _ _ _ _ _ _ hv) fun _ => Pureish.binOp _ _ _ _ hv).value
  case fieldAddr => exact (Pureish.fieldAt _ _ _ h).value
  case nilCheck x =>
    simp only [okVal, plainPtr] at hv
    simp only [execOp]
    split at hv <;> first | (cases hv; done) | skip
    rename_i p e
    rw [e]
    cases p
    · exact Pureish.runtimePanic _
    · exact Pureish.pure _
  case call c =>
    obtain ⟨callee, args, ts⟩ := c
    simp only [isPure, okVal, lenCall] at h hv
    cases callee <;> first | (cases h; done) | skip
    rename_i bi
    cases bi <;> first | (cases h; done) | skip
    simp only [] at h hv
    split at h <;> first | (cases h; done) | skip
    rename_i hs
    obtain ⟨x, rfl⟩ := Array.size_eq_one_iff.1 hs
    simp at hv
    have := Pureish.len (P := P) ts type (ρ x) hv
    simp only [execOp, resolve, invoke, builtin]
    simpa using this.value
theorem read_exec (ρ : Operand → Value) (o : Oper) (h : isRead o.op = true) : Readish P (execOp ρ o) := by
  obtain ⟨dst, op, type, pos, after, guard⟩ := o
  cases op <;> first | (cases h; done) | skip
  exact Readish.bind (Readish.loadAt _ _) fun _ => (Pureish.pure _).read
theorem new_exec (ρ : Operand → Value) (o : Oper) (h : isNew o.op = true) : Newish P (execOp ρ o) := by
  obtain ⟨dst, op, type, pos, after, guard⟩ := o
  cases op <;> first | (cases h; done) | skip
  case alloc => exact Newish.bind (Newish.alloc _ _) fun _ => (Pureish.pure _).read.new
  case box => exact Newish.bind (Newish.box _ _) fun _ => (Pureish.pure _).read.new
  case buildSlice => exact Newish.bind (Newish.buildSlice _ _ _) fun _ => (Pureish.pure _).read.new
  case makeSlice => exact Newish.bind (Newish.makeSlice _ _ _) fun _ => (Pureish.pure _).read.new
end
end Go.Proofs.Lexi
namespace Go.Proofs.YtalfoihffnlelaaGreatDoor
open Go.RowKit Go.Proofs.Lexi
theorem mixed : Tryz.prog.follows .mixedOrders = true := by kernel_rfl
theorem ret_int {a b : Int} (h : a = b) : Ending.returned (.int .i64 a) = .returned (.int .i64 b) := by rw [h]
theorem cell_of_heap {w : World} {b o : Nat} {cs : Array Value} {t : TypeId} {fz : Nat × Nat} (h : w.heap[b]? = some (.cells cs t fz)) : w.cell? ⟨b, o, none⟩ = cs[o]? := by
  simp [World.cell?, h]
theorem bdn {B : Nat} {a w : World} (h : Below B a w) (n : Nat) : Below B a (w.drewN n) := ⟨h.os, h.tape, h.output, h.size, h.block⟩
theorem heap_new (w : World) (o : Obj) : (w.alloc o).heap[w.heap.size]? = some o := by
  show (w.heap.push o)[w.heap.size]? = _
  simp
theorem heap_setCell_same {w : World} {b : Nat} {cs : Array Value} {t : TypeId} {fz : Nat × Nat} (h : w.heap[b]? = some (.cells cs t fz)) (o : Nat) (v : Value) : (w.setCell ⟨b, o, none⟩ v).heap[b]? = some (.cells (cs.setIfInBounds o v) t fz) := by
  simp [World.setCell, Array.getElem?_modify, h]
/-- Blocks that were there are as they were. -/
structure Ext (w W : World) : Prop where
  size : w.heap.size ≤ W.heap.size
  blk : ∀ k, k < w.heap.size → W.heap[k]? = w.heap[k]?
theorem below_ext {B : Nat} {w w' : World} (h : Below B w w') (hB : w.heap.size ≤ B) : Ext w w' := ⟨h.size, fun k hk => h.block k (by omega)⟩
theorem ownBlock_lt {w : World} {base : Nat} {e : TypeId} {size : Nat} {v : Value} {n : Nat} {xs : List Value} (ho : w.ownsRow base e size v n xs) {g : Nat} (hg : v.ownBlock = some g) : base ≤ g ∧ g < w.heap.size := by
  rcases ho.2 with ⟨rfl, _⟩ | ⟨g', cap, cur, rfl, h1, h2, _⟩
  · cases hg
  · injection hg with hg; subst hg
    exact ⟨h1, (Array.getElem?_eq_some_iff.1 h2).1⟩
theorem ownsRow_keep {w w3 : World} {base : Nat} {e : TypeId} {size : Nat} {v : Value} {n : Nat} {xs : List Value} (ho : w.ownsRow base e size v n xs) (hk : ∀ g, v.ownBlock = some g → w3.heap[g]? = w.heap[g]?) : w3.ownsRow base e size v n xs := by
  obtain ⟨h1, h2⟩ := ho
  refine ⟨h1, ?_⟩
  rcases h2 with h2 | ⟨g, cap, cur, hv, hg, hh, r⟩
  · exact .inl h2
  · exact .inr ⟨g, cap, cur, hv, hg, by rw [hk g (by rw [hv]; rfl)]; exact hh, r⟩
theorem ownsRow_ext {w W : World} (h : Ext w W) {base : Nat} {e : TypeId} {size : Nat} {v : Value} {n : Nat} {xs : List Value} (ho : w.ownsRow base e size v n xs) : W.ownsRow base e size v n xs :=
  ownsRow_keep ho fun g hg => h.blk g (ownBlock_lt ho hg).2
theorem ownsRow_base {w : World} {base base' : Nat} {e : TypeId} {size : Nat} {v : Value} {n : Nat} {xs : List Value} (h : w.ownsRow base e size v n xs) (hb : base' ≤ base) : w.ownsRow base' e size v n xs := by
  obtain ⟨h1, h2⟩ := h
  refine ⟨h1, ?_⟩
  rcases h2 with h2 | ⟨g, cap, cur, hv, hg, r⟩
  · exact .inl h2
  · exact .inr ⟨g, cap, cur, hv, by omega, r⟩
theorem ownsRow_set {w : World} {base : Nat} {e : TypeId} {size : Nat} {v : Value} {n : Nat} {xs : List Value} (ho : w.ownsRow base e size v n xs) {a : Addr} (ha : v.ownBlock ≠ some a.block) (u : Value) : (w.setCell a u).ownsRow base e size v n xs :=
  ownsRow_keep ho fun g hg => Below.heap_setCell _ _ _ _ (fun e => ha (by rw [hg, e]))
theorem keepCell {W w' : World} (hb : Below W.heap.size W w') {a : Addr} {v : Value} (h : W.cell? a = some v) : w'.cell? a = some v := by
  rw [hb.cell (World.block_lt_of_cell? _ a h)]; exact h
theorem bcell {W w1 : World} (hb : Below W.heap.size W w1) : (∀ b o, b < W.heap.size → w1.cell? ⟨b, o, none⟩ = W.cell? ⟨b, o, none⟩) ∧ (∀ b o, b < W.heap.size → w1.frozen? ⟨b, o, none⟩ = W.frozen? ⟨b, o, none⟩) :=
  ⟨fun b o h => hb.cell (p := ⟨b, o, none⟩) h, fun b o h => hb.frozen (p := ⟨b, o, none⟩) h⟩
theorem below2w (w : World) (o1 o2 : Obj) : Below w.heap.size w ((w.alloc o1).alloc o2) := ((Below.refl _ _).alloc (Nat.le_refl _) _).alloc (by simp) _
theorem below_two {B : Nat} {a w : World} (h : Below B a w) {b : Nat} (hb : B ≤ b) (x y : Value) : Below B a ((w.setCell ⟨b, 0, none⟩ x).setCell ⟨b, 1, none⟩ y) :=
  (h.setCell (p := ⟨b, 0, none⟩) hb x).setCell (p := ⟨b, 1, none⟩) hb y
theorem below_next {w w1 w2 : World} (h : Below w.heap.size w w1) (k : Below w1.heap.size w1 w2) : Below w.heap.size w w2 := h.trans (k.mono h.size)
def bytesOf (p : ByteArray) : List Nat := p.data.toList.map UInt8.toNat
theorem bytesOf_length (p : ByteArray) : (bytesOf p).length = p.size := by unfold bytesOf; rw [List.length_map]; rfl
theorem bytesOf_drop (p : ByteArray) (k : Nat) (h : k < p.size) : (bytesOf p).drop k = p[k].toNat :: (bytesOf p).drop (k + 1) := by
  rw [List.drop_eq_getElem_cons (by rw [bytesOf_length]; exact h)]
  congr 1
  simp [bytesOf]; rfl
theorem bytesOf_end (p : ByteArray) (k : Nat) (h : p.size ≤ k) : (bytesOf p).drop k = [] := List.drop_eq_nil_of_le (by rw [bytesOf_length]; exact h)
theorem bytesOf_extract (s : ByteArray) (a b : Nat) : bytesOf (s.extract a b) = ((bytesOf s).drop a).take (b - a) := by
  unfold bytesOf
  rw [← Lib.toList_data, Lib.extract_toList, ← List.map_drop, ← List.map_take]
theorem nats_inj : ∀ (a b : List UInt8), a.map UInt8.toNat = b.map UInt8.toNat → a = b
  | [], [], _ => rfl
  | [], _ :: _, h => by cases h
  | _ :: _, [], h => by cases h
  | x :: a, y :: b, h => by
    simp only [List.map_cons, List.cons.injEq] at h
    rw [UInt8.toNat_inj.1 h.1, nats_inj a b h.2]
theorem bytesOf_inj {s t : ByteArray} (h : bytesOf s = bytesOf t) : s = t := by
  have h2 : s.data.toList = t.data.toList := nats_inj _ _ h
  cases s; cases t
  simp only [ByteArray.mk.injEq]
  exact Array.toList_inj.1 h2
theorem bytesOf_append (a b : ByteArray) : bytesOf (a ++ b) = bytesOf a ++ bytesOf b := by
  unfold bytesOf
  rw [← List.map_append]
  congr 1
theorem toList_nil {p : ByteArray} (h : p.size = 0) : p.toList = [] := by
  rw [ByteArray.toList_eq]
  exact List.eq_nil_of_length_eq_zero h
theorem toList_ne {p : ByteArray} (h : 0 < p.size) : ¬ p.toList = [] := by
  rw [ByteArray.toList_eq]
  intro e
  have : p.data.toList.length = 0 := by rw [e]; rfl
  have h2 : p.size = p.data.toList.length := rfl
  omega
end Go.Proofs.YtalfoihffnlelaaGreatDoor
namespace Go.Proofs.YtalfoihffnlelaaGreatDoor
abbrev N2 := Int × Int
abbrev RR := Except Nat N2
def inTop (n : Int) : Bool := decide (-2147483647 ≤ n) && decide (n ≤ 2147483647)
def validN (a : N2) : Bool := decide (1 ≤ a.2) && decide (a.2 ≤ 2147483647) && inTop a.1 && decide (Int.gcd a.1 a.2 = 1)
theorem inTop_iff {n : Int} : inTop n = true ↔ -2147483647 ≤ n ∧ n ≤ 2147483647 := by simp [inTop]
theorem validN_iff {a : N2} : validN a = true ↔ 1 ≤ a.2 ∧ a.2 ≤ 2147483647 ∧ -2147483647 ≤ a.1 ∧ a.1 ≤ 2147483647 ∧ Int.gcd a.1 a.2 = 1 := by
  simp only [validN, inTop, Bool.and_eq_true, decide_eq_true_eq]
  constructor
  · rintro ⟨⟨⟨h1, h2⟩, h3, h4⟩, h5⟩; exact ⟨h1, h2, h3, h4, h5⟩
  · rintro ⟨h1, h2, h3, h4, h5⟩; exact ⟨⟨⟨h1, h2⟩, h3, h4⟩, h5⟩
def rangeN (p q : Int) : RR := if inTop p && decide (q ≤ 2147483647) then .ok (p, q) else .error 6
def redPos (p q : Int) : RR := rangeN (p / (Int.gcd p q : Nat)) (q / (Int.gcd p q : Nat))
def redN (p q : Int) : RR := if q < 0 then redPos (-p) (-q) else redPos p q
def in62 (n : Int) : Bool := decide (-4611686018427387904 ≤ n) && decide (n ≤ 4611686018427387904)
def makeN (p q : Int) : RR := if q = 0 then .error 7 else if in62 p && in62 q then redN p q else .error 6
/-- What a function that gives a number returns. -/
def nP : RR → Int
  | .ok a => a.1
  | .error _ => 0
def nQ : RR → Int
  | .ok a => a.2
  | .error _ => 0
def nE : RR → Nat
  | .ok _ => 0
  | .error e => e
theorem validN_bounds {a : N2} (h : validN a = true) : 1 ≤ a.2 ∧ a.2 ≤ 2147483647 ∧ -2147483647 ≤ a.1 ∧ a.1 ≤ 2147483647 := by
  have := validN_iff.1 h
  exact ⟨this.1, this.2.1, this.2.2.1, this.2.2.2.1⟩
theorem gcd_pos_right {p q : Int} (h : q ≠ 0) : 0 < Int.gcd p q := by
  rcases Nat.eq_zero_or_pos (Int.gcd p q) with h0 | h0
  · exact absurd (Int.gcd_eq_zero_iff.1 h0).2 h
  · exact h0
theorem redN_neg {p q : Int} (h : q < 0) : redN p q = redPos (-p) (-q) := by unfold redN; rw [if_pos h]
theorem redN_pos {p q : Int} (h : 0 ≤ q) : redN p q = redPos p q := by unfold redN; rw [if_neg (by omega)]
/-- Division by the divisor is exact, whichever way it is rounded. -/
theorem tdiv_gcd_left (p q : Int) : Int.tdiv p (Int.gcd p q : Nat) = p / (Int.gcd p q : Nat) := Int.tdiv_eq_ediv_of_dvd (Int.gcd_dvd_left ..)
theorem tdiv_gcd_right (p q : Int) : Int.tdiv q (Int.gcd p q : Nat) = q / (Int.gcd p q : Nat) := Int.tdiv_eq_ediv_of_dvd (Int.gcd_dvd_right ..)
end Go.Proofs.YtalfoihffnlelaaGreatDoor
namespace Go.Proofs.YtalfoihffnlelaaGreatDoor
def digV (c : Nat) : Nat := if 48 ≤ c ∧ c ≤ 57 then c - 48 else if 97 ≤ c ∧ c ≤ 102 then c - 87 else if 65 ≤ c ∧ c ≤ 70 then c - 55 else 99
def isDig (base c : Nat) : Bool := decide (digV c < base)
def runN (base : Nat) : List Nat → Nat
  | [] => 0
  | c :: r => if isDig base c then runN base r + 1 else 0
def numG (base : Nat) : List Nat → Nat → Option Nat
  | [], n => some n
  | c :: r, n => if (4611686018427387904 - digV c) / base < n then none else numG base r (n * base + digV c)
def hexHead : List Nat → Bool
  | a :: x :: d :: _ => a == 48 && (x == 120 || x == 88) && isDig 16 d
  | _ => false
def decN (l : List Nat) (places : Nat) : RR :=
  match numG 10 l 0 with
  | none => .error 6
  | some n => if 9 < places then .error 6 else makeN n ((10 : Nat) ^ places : Nat)
def hexN (l : List Nat) : RR :=
  match numG 16 l 0 with
  | none => .error 6
  | some n => makeN n 1
/-- The places behind a point, 0 if there is none. -/
def placesN (t : List Nat) (k : Nat) : Nat := if t[k]? = some 46 then runN 10 (t.drop (k + 1)) else 0
/-- The longest numeral at the head: its length, its number. -/
def numeralG (t : List Nat) : Nat × RR :=
  if hexHead t then (2 + runN 16 (t.drop 2), hexN ((t.drop 2).take (runN 16 (t.drop 2))))
  else if runN 10 t = 0 then (0, .error 4)
  else if placesN t (runN 10 t) = 0 then (runN 10 t, decN (t.take (runN 10 t)) 0)
  else (runN 10 t + 1 + placesN t (runN 10 t), decN (t.take (runN 10 t) ++ (t.drop (runN 10 t + 1)).take (placesN t (runN 10 t))) (placesN t (runN 10 t)))
def digitsN (l : List Nat) : Bool := !l.isEmpty && decide (runN 10 l = l.length)
def fractionN (p q : List Nat) : RR :=
  if digitsN p && digitsN q then
    match numG 10 p 0, numG 10 q 0 with
    | some a, some b => if b = 0 then .error 6 else makeN a b
    | _, _ => .error 6
  else .error 4
def slashAt : List Nat → Option Nat
  | [] => none
  | c :: r => if c = 47 then some 0 else (slashAt r).map (· + 1)
def unsignedG (t : List Nat) : RR :=
  match slashAt t with
  | none => if (numeralG t).1 = 0 ∨ (numeralG t).1 < t.length then .error 4 else (numeralG t).2
  | some k => fractionN (t.take k) (t.drop (k + 1))
def minusN : RR → RR
  | .ok a => .ok (-a.1, a.2)
  | .error e => .error e
def isBlank (c : Nat) : Bool := c == 32 || c == 9 || c == 10 || c == 13
def trimG (l : List Nat) : List Nat := ((l.dropWhile isBlank).reverse.dropWhile isBlank).reverse
def signedG : List Nat → RR
  | [] => unsignedG []
  | c :: r => if c = 45 then minusN (unsignedG r) else unsignedG (c :: r)
def parseG (l : List Nat) : RR := signedG (trimG l)
theorem runN_le (base : Nat) : ∀ l, runN base l ≤ l.length
  | [] => Nat.le_refl _
  | c :: r => by
    unfold runN
    split
    · have := runN_le base r; simp only [List.length_cons]; omega
    · simp
theorem slashAt_some : ∀ {l : List Nat} {k : Nat}, slashAt l = some k → k < l.length ∧ l[k]? = some 47 ∧ ∀ c ∈ l.take k, c ≠ 47
  | [], k, h => by cases h
  | x :: r, k, h => by
    unfold slashAt at h
    split at h
    · rename_i hx
      injection h with h; subst h
      exact ⟨by simp, by simp [hx], fun c hc => by simp at hc⟩
    · rename_i hx
      cases hr : slashAt r with
      | none => rw [hr] at h; cases h
      | some j =>
        rw [hr] at h
        injection h with h; subst h
        obtain ⟨h1, h2, h3⟩ := slashAt_some hr
        refine ⟨by simp; omega, by simpa using h2, fun c hc => ?_⟩
        simp only [List.take_succ_cons, List.mem_cons] at hc
        rcases hc with rfl | hc
        · exact hx
        · exact h3 c hc
/-- A run of digits holds digits. -/
theorem runN_all (base : Nat) : ∀ (l : List Nat) (k : Nat), k < runN base l → ∃ c, l[k]? = some c ∧ isDig base c = true
  | [], k, h => by cases h
  | c :: r, k, h => by
    unfold runN at h
    split at h
    · rename_i hc
      cases k with
      | zero => exact ⟨c, rfl, hc⟩
      | succ k =>
        obtain ⟨x, h1, h2⟩ := runN_all base r k (by omega)
        exact ⟨x, by simpa using h1, h2⟩
    · cases h
theorem isDig47 : isDig 10 47 = false := by decide
theorem isDig47' : isDig 16 47 = false := by decide
/-- A numeral holds no slash. -/
theorem numeral_slash {t : List Nat} {k : Nat} (hk : t[k]? = some 47) : (numeralG t).1 ≤ k := by
  have run : ∀ (base : Nat) (l : List Nat) (j : Nat), isDig base 47 = false → l[j]? = some 47 → runN base l ≤ j := fun base l j hb hj => by
    apply Classical.byContradiction
    intro hc
    obtain ⟨c, h1, h2⟩ := runN_all base l j (by omega)
    rw [hj] at h1
    injection h1 with h1
    subst h1
    rw [hb] at h2; cases h2
  unfold numeralG
  split
  · rename_i hh
    have hk2 : 2 ≤ k := by
      match t, hh, hk with
      | a :: x :: d :: r, hh, hk =>
        simp only [hexHead, Bool.and_eq_true, Bool.or_eq_true, beq_iff_eq] at hh
        match k, hk with
        | 0, hk => simp at hk; omega
        | 1, hk => simp at hk; omega
        | k + 2, _ => omega
    have := run 16 (t.drop 2) (k - 2) isDig47' (by rw [List.getElem?_drop, show 2 + (k - 2) = k by omega]; exact hk)
    show 2 + _ ≤ k
    omega
  · split
    · exact Nat.zero_le _
    · have h1 := run 10 t k isDig47 hk
      split
      · exact h1
      · rename_i hp
        unfold placesN at hp ⊢
        by_cases h46 : t[runN 10 t]? = some 46
        · rw [if_pos h46] at hp ⊢
          have hne : k ≠ runN 10 t := fun e => by rw [e, h46] at hk; cases hk
          have := run 10 (t.drop (runN 10 t + 1)) (k - (runN 10 t + 1)) isDig47 (by rw [List.getElem?_drop, show runN 10 t + 1 + (k - (runN 10 t + 1)) = k by omega]; exact hk)
          show runN 10 t + 1 + _ ≤ k
          omega
        · rw [if_neg h46] at hp; exact absurd rfl hp
end Go.Proofs.YtalfoihffnlelaaGreatDoor
namespace Go.Proofs.YtalfoihffnlelaaGreatDoor
open Go.RowKit Go.Proofs.Lexi
def PureP (w : World) (v : Value) (e : Ending) (w' : World) : Prop := e = .returned v ∧ ∃ n, w' = w.drewN n
def NumPost (w : World) (R : RR) (e : Ending) (w' : World) : Prop := e = .returned (.tuple #[.agg #[.int .i64 (nP R), .int .i64 (nQ R)], .int .i64 (nE R : Nat)]) ∧ Below w.heap.size w w'
theorem num_err {w w' : World} {R : RR} {c : Nat} (hR : R = .error c) (hb : Below w.heap.size w w') : NumPost w R (.returned (.tuple #[.agg #[.int .i64 0, .int .i64 0], .int .i64 (c : Int)])) w' := by subst hR; exact ⟨rfl, hb⟩
theorem num_ok {w w' : World} {R : RR} {p q : Int} (hR : R = .ok (p, q)) (hb : Below w.heap.size w w') : NumPost w R (.returned (.tuple #[.agg #[.int .i64 p, .int .i64 q], .int .i64 0])) w' := by subst hR; exact ⟨rfl, hb⟩
theorem redPos_range {P Q : Int} {D : Nat} (hD : D = Int.gcd P Q) : redPos P Q = rangeN (P / (D : Int)) (Q / (D : Int)) := by subst hD; rfl
theorem rangeN_err {p q : Int} (h : p < -2147483647 ∨ 2147483647 < p ∨ 2147483647 < q) : rangeN p q = .error 6 := by
  unfold rangeN
  rw [if_neg]
  simp only [Bool.and_eq_true, inTop_iff, decide_eq_true_eq]
  omega
theorem rangeN_ok {p q : Int} (h1 : -2147483647 ≤ p) (h2 : p ≤ 2147483647) (h3 : q ≤ 2147483647) : rangeN p q = .ok (p, q) := by
  unfold rangeN
  rw [if_pos]
  simp only [Bool.and_eq_true, inTop_iff, decide_eq_true_eq]
  omega
theorem quo_bounds {P : Int} {D : Nat} (hD : 0 < D) (h1 : -9223372036854775807 ≤ P) (h2 : P ≤ 9223372036854775807) : -9223372036854775807 ≤ P / (D : Int) ∧ P / (D : Int) ≤ 9223372036854775807 := by
  have := Int.natAbs_ediv_le_natAbs P D
  omega
theorem below_num (w : World) (o : Obj) (n : Nat) (a b : Value) : Below w.heap.size w ((((w.alloc o).drewN n).setCell ⟨w.heap.size, 0, none⟩ a).setCell ⟨w.heap.size, 1, none⟩ b) :=
  ((bdn ((Below.refl _ _).alloc (Nat.le_refl _) o) n).setCell (p := ⟨w.heap.size, 0, none⟩) (Nat.le_refl _) a).setCell (p := ⟨w.heap.size, 1, none⟩) (Nat.le_refl _) b
theorem below_num0 (w : World) (o : Obj) : Below w.heap.size w (w.alloc o) := (Below.refl _ _).alloc (Nat.le_refl _) o
def BoolPost (w : World) (b : Bool) (e : Ending) (w' : World) : Prop := e = .returned (.bool b) ∧ Below w.heap.size w w'
def IntPost (w : World) (v : Int) (e : Ending) (w' : World) : Prop := e = .returned (.int .i64 v) ∧ Below w.heap.size w w'
theorem bool_done {w w' : World} {b c : Bool} (h : c = b) (hb : Below w.heap.size w w') : BoolPost w b (.returned (.bool c)) w' := by subst h; exact ⟨rfl, hb⟩
theorem validN_bad {p q : Int} (h : q < 1 ∨ 2147483647 < q ∨ p < -2147483647 ∨ 2147483647 < p) : validN (p, q) = false := by
  cases hv : validN (p, q) with
  | false => rfl
  | true => have := validN_bounds hv; simp only [] at this; omega
theorem validN_good {p q : Int} (h1 : 1 ≤ q) (h2 : q ≤ 2147483647) (h3 : -2147483647 ≤ p) (h4 : p ≤ 2147483647) {D : Nat} (hD : Nat.gcd p.natAbs q.natAbs = D) : validN (p, q) = ((D : Int) == 1) := by
  rw [Bool.eq_iff_iff, validN_iff]
  simp only [beq_iff_eq]
  have e : Int.gcd p q = D := hD
  constructor
  · intro h; have := h.2.2.2.2; omega
  · intro h; exact ⟨h1, h2, h3, h4, by rw [e]; omega⟩
theorem u8_le (b : UInt8) : b.toNat ≤ 255 := by have := b.toNat_lt; omega
/-- The program's digit: letters to z have numbers, -1 for what is none. -/
def pdigV (c : Nat) : Int := if 48 ≤ c ∧ c ≤ 57 then c - 48 else if 97 ≤ c ∧ c ≤ 122 then c - 87 else if 65 ≤ c ∧ c ≤ 90 then c - 55 else -1
theorem pdigV_on {base c : Nat} (hb : base ≤ 16) (h : isDig base c = true) : pdigV c = (digV c : Int) ∧ digV c < base := by
  unfold isDig at h
  have h := of_decide_eq_true h
  refine ⟨?_, h⟩
  unfold digV at h ⊢
  unfold pdigV
  split at h
  · rename_i h1; rw [if_pos h1, if_pos h1]; omega
  · rename_i h1
    rw [if_neg h1, if_neg h1]
    split at h
    · rename_i h2; rw [if_pos h2, if_pos (by omega)]; omega
    · rename_i h2
      split at h
      · rename_i h3; rw [if_neg h2, if_neg (by omega), if_pos h3, if_pos (by omega)]; omega
      · omega
theorem pdigV_off {base c : Nat} (hb : base = 10 ∨ base = 16) (h : isDig base c = false) : pdigV c < 0 ∨ (0 ≤ pdigV c ∧ (base : Int) ≤ pdigV c ∧ pdigV c ≤ 35) := by
  unfold isDig at h
  have h := of_decide_eq_false h
  unfold digV at h
  unfold pdigV
  split
  · rename_i h1; rw [if_pos h1] at h; omega
  · rename_i h1
    rw [if_neg h1] at h
    split
    · split at h <;> omega
    · rename_i h2
      rw [if_neg (by omega)] at h
      split
      · split at h <;> omega
      · omega
theorem digV_le (c : Nat) : digV c ≤ 99 := by
  unfold digV
  repeat' split
  all_goals omega
theorem run_step {s : ByteArray} {base i R : Nat} (h : i < s.size) (hr : i + runN base ((bytesOf s).drop i) = R) : (isDig base s[i].toNat = true → (i + 1) + runN base ((bytesOf s).drop (i + 1)) = R) ∧ (isDig base s[i].toNat = false → i = R) := by
  rw [bytesOf_drop s i h] at hr
  unfold runN at hr
  constructor <;> intro hd
  · rw [if_pos hd] at hr; omega
  · rw [hd] at hr; simpa using hr
theorem run_stop {s : ByteArray} {base i R : Nat} (h : s.size ≤ i) (hr : i + runN base ((bytesOf s).drop i) = R) : i = R := by
  rw [bytesOf_end s i h] at hr; exact hr
theorem trim_swap {α : Type} (p : α → Bool) : ∀ l : List α, ((l.dropWhile p).reverse.dropWhile p).reverse = ((l.reverse.dropWhile p).reverse).dropWhile p
  | [] => rfl
  | c :: r => by
    have ih := trim_swap p r
    rw [List.reverse_cons, List.dropWhile_append]
    cases hc : p c with
    | true =>
      rw [List.dropWhile_cons_of_pos hc, ih]
      split
      · rename_i he
        have he := List.isEmpty_iff.1 he
        rw [he, List.dropWhile_cons_of_pos hc]
        rfl
      · rw [List.reverse_append, List.reverse_singleton, List.singleton_append, List.dropWhile_cons_of_pos hc]
    | false =>
      have hc' : ¬ p c = true := by rw [hc]; decide
      rw [List.dropWhile_cons_of_neg hc', List.reverse_cons, List.dropWhile_append]
      split
      · rw [List.dropWhile_cons_of_neg hc', List.reverse_singleton, List.dropWhile_cons_of_neg hc']
      · rw [List.reverse_append, List.reverse_singleton, List.singleton_append, List.dropWhile_cons_of_neg hc']
theorem blank_contains (b : UInt8) : ([32, 9, 10, 13] : List UInt8).contains b = isBlank b.toNat := by
  have h : ∀ n : Fin 256, ([32, 9, 10, 13] : List UInt8).contains (UInt8.ofNat n.val) = isBlank (UInt8.ofNat n.val).toNat := by decide +kernel
  have := h ⟨b.toNat, b.toNat_lt⟩
  rwa [UInt8.ofNat_toNat] at this
theorem bytesOf_mk (l : List UInt8) : bytesOf ⟨l.toArray⟩ = l.map UInt8.toNat := rfl
theorem map_drop (l : List UInt8) : (l.dropWhile fun b => ([32, 9, 10, 13] : List UInt8).contains b).map UInt8.toNat = (l.map UInt8.toNat).dropWhile isBlank := by
  induction l with
  | nil => rfl
  | cons c r ih =>
    rw [List.map_cons]
    have hb := blank_contains c
    cases hc : isBlank c.toNat with
    | true => rw [List.dropWhile_cons_of_pos hc, List.dropWhile_cons_of_pos (by rw [hb, hc]), ih]
    | false => rw [List.dropWhile_cons_of_neg (by first | (rw [hb, hc]; decide) | (rw [hc]; decide)), List.dropWhile_cons_of_neg (by first | (rw [hb, hc]; decide) | (rw [hc]; decide)), List.map_cons]
theorem trim_bytes (s : ByteArray) : bytesOf ⟨(Lib.trimS s.data.toList [32, 9, 10, 13]).toArray⟩ = trimG (bytesOf s) := by
  rw [bytesOf_mk]
  unfold trimG
  rw [trim_swap]
  unfold Lib.trimS Lib.trimLeftS Lib.trimRightS
  rw [map_drop, List.map_reverse, map_drop, List.map_reverse]
  rfl
def TrimPost (w : World) (l : List Nat) (e : Ending) (w' : World) : Prop := (∃ r, e = .returned (.string r) ∧ bytesOf r = l) ∧ Below w.heap.size w w'
theorem ascii4 : ∀ (j : Nat) b, (⟨#[32, 9, 10, 13]⟩ : ByteArray).data.toList[j]? = some b → b.toNat < 128 := ascii_of_all (by decide)
theorem slice_run (s : ByteArray) (a b : Int) (i j : Nat) (ha : a = i) (hb : b = j) (h1 : i ≤ j) (h2 : j ≤ s.size) (w : World) : Sem.run Tryz.prog (Instr.slice 9 (.string s) (some (.int .i64 a)) (some (.int .i64 b)) none) w = .ok (.string (s.extract i j)) w := by
  subst ha hb
  have g1 : (i : Int) ≤ (j : Int) := by omega
  have g2 : (j : Int) ≤ (s.size : Int) := by omega
  simp [Instr.slice, run_underlying Tryz.underlying9, Instr.sliceBounds, run_sliceBound, g1, g2]
abbrev o2 (p q : Int) : Obj := .cells #[.int .i64 p, .int .i64 q] 28
theorem num_res {w w' : World} {R : RR} (hb : Below w.heap.size w w') : NumPost w R (.returned (.tuple #[.agg #[.int .i64 (nP R), .int .i64 (nQ R)], .int .i64 (nE R : Nat)])) w' := ⟨rfl, hb⟩
def numV : Option Nat → Int
  | some n => n
  | none => 0
def OptPost (w : World) (R : Option Nat) (e : Ending) (w' : World) : Prop := e = .returned (.tuple #[.int .i64 (numV R), .bool R.isSome]) ∧ w = w'
theorem num_step {s : ByteArray} {base i n : Nat} {R : Option Nat} (hb : base = 10 ∨ base = 16) (h : i < s.size) (hr : numG base ((bytesOf s).drop i) n = R) :
    ((4611686018427387904 - (digV s[i].toNat : Int)) / (base : Int) < n → R = none) ∧
    ((n : Int) ≤ (4611686018427387904 - (digV s[i].toNat : Int)) / (base : Int) → numG base ((bytesOf s).drop (i + 1)) (n * base + digV s[i].toNat) = R) := by
  have hd := digV_le s[i].toNat
  rw [bytesOf_drop s i h] at hr
  unfold numG at hr
  generalize digV s[i].toNat = d at *
  have e : ((4611686018427387904 : Nat) - d) / base < n ↔ (4611686018427387904 - (d : Int)) / (base : Int) < n := by
    rcases hb with rfl | rfl <;> omega
  constructor
  · intro hc; rw [if_pos (e.2 hc)] at hr; exact hr.symm
  · intro hc; rw [if_neg (by rw [e]; omega)] at hr; exact hr
theorem num_stop {s : ByteArray} {base i n : Nat} {R : Option Nat} (h : s.size ≤ i) (hr : numG base ((bytesOf s).drop i) n = R) : R = some n := by
  rw [bytesOf_end s i h] at hr; exact hr.symm
theorem opt_none {w w' : World} {R : Option Nat} (h : R = none) (hw : w = w') : OptPost w R (.returned (.tuple #[.int .i64 0, .bool false])) w' := by subst h; exact ⟨rfl, hw⟩
theorem opt_some {w w' : World} {R : Option Nat} {n : Nat} (h : R = some n) (hw : w = w') : OptPost w R (.returned (.tuple #[.int .i64 n, .bool true])) w' := by subst h; exact ⟨rfl, hw⟩
def slashI (i : Nat) : Option Nat → Int
  | none => -1
  | some k => ((i + k : Nat) : Int)
theorem pow10_le {i : Nat} (h : i ≤ 9) : 10 ^ i ≤ 1000000000 := Nat.le_trans (Nat.pow_le_pow_right (by decide) h) (by decide)
theorem digits_nil {s : ByteArray} (h : s.size = 0) : digitsN (bytesOf s) = false := by
  have : bytesOf s = [] := List.eq_nil_of_length_eq_zero (by rw [bytesOf_length]; exact h)
  rw [this]; rfl
theorem digits_run {s : ByteArray} (h : 0 < s.size) : digitsN (bytesOf s) = decide (runN 10 (bytesOf s) = s.size) := by
  unfold digitsN
  have : (bytesOf s).isEmpty = false := by
    cases hb : bytesOf s with
    | nil => have := bytesOf_length s; rw [hb] at this; simp at this; omega
    | cons _ _ => rfl
  rw [this, bytesOf_length]; rfl
theorem bytes3 {s : ByteArray} (h : 2 < s.size) : bytesOf s = s[0].toNat :: s[1].toNat :: s[2].toNat :: (bytesOf s).drop 3 := by
  have h0 := bytesOf_drop s 0 (by omega)
  have h1 := bytesOf_drop s 1 (by omega)
  have h2 := bytesOf_drop s 2 (by omega)
  rw [List.drop_zero] at h0
  exact h0.trans (congrArg _ (h1.trans (congrArg _ h2)))
theorem hex_short {s : ByteArray} (h : s.size ≤ 2) : hexHead (bytesOf s) = false := by
  have hl := bytesOf_length s
  match hb : bytesOf s with
  | [] => rfl
  | [_] => rfl
  | [_, _] => rfl
  | _ :: _ :: _ :: _ => rw [hb] at hl; simp at hl; omega
theorem hex_long {s : ByteArray} (h : 2 < s.size) : hexHead (bytesOf s) = (s[0].toNat == 48 && (s[1].toNat == 120 || s[1].toNat == 88) && isDig 16 s[2].toNat) := by
  rw [bytes3 h]; rfl
theorem numeral_hex {t : List Nat} (h : hexHead t = true) : numeralG t = (2 + runN 16 (t.drop 2), hexN ((t.drop 2).take (runN 16 (t.drop 2)))) := by unfold numeralG; rw [if_pos h]
theorem add_run (a b : ByteArray) (h : a.size + b.size ≤ 9223372036854775807) (w : World) : (Op.stringOp .add a b).run Tryz.prog w = .ok (.string (a ++ b)) w := by
  first | exact run_string_add_sum a b h | exact run_string_add_sum w a b h
theorem byte_beq (b : UInt8) (n : Nat) : ((b.toNat : Int) == (n : Int)) = decide (b.toNat = n) := by
  rw [Bool.eq_iff_iff, beq_iff_eq, decide_eq_true_eq]; omega
theorem byte_at {s : ByteArray} {r : Nat} (h : r < s.size) : (bytesOf s)[r]? = some s[r].toNat := by
  have h2 : ((bytesOf s).drop r)[0]? = some s[r].toNat := by rw [bytesOf_drop s r h]; rfl
  rw [List.getElem?_drop] at h2
  exact h2
theorem run_head {s : ByteArray} {r : Nat} (h : r < s.size) : (runN 10 ((bytesOf s).drop r) = 0 → ¬ digV s[r].toNat < 10) ∧ (runN 10 ((bytesOf s).drop r) ≠ 0 → digV s[r].toNat < 10) := by
  rw [bytesOf_drop s r h]
  unfold runN isDig
  by_cases hd : digV s[r].toNat < 10
  · rw [if_pos (decide_eq_true hd)]; exact ⟨fun h => by omega, fun _ => hd⟩
  · rw [if_neg (by rw [decide_eq_false hd]; decide)]; exact ⟨fun _ => hd, fun h => absurd rfl h⟩
theorem run_nil {s : ByteArray} {r : Nat} (h : s.size ≤ r) : runN 10 ((bytesOf s).drop r) = 0 := by rw [bytesOf_end s r h]; rfl
theorem has_places {s : ByteArray} {r : Nat} (h : placesN (bytesOf s) r ≠ 0) : ∃ h : r + 1 < s.size,
    ((s[r].toNat : Int) == 46) = true ∧ digV s[r + 1].toNat < 10 ∧ placesN (bytesOf s) r = runN 10 ((bytesOf s).drop (r + 1)) := by
  unfold placesN at h ⊢
  by_cases hc : (bytesOf s)[r]? = some 46
  · rw [if_pos hc] at h ⊢
    have hl : r + 1 < s.size := by
      apply Classical.byContradiction
      intro hn
      exact h (run_nil (by omega))
    refine ⟨hl, ?_, (run_head hl).2 h, rfl⟩
    rw [byte_at (by omega)] at hc
    injection hc with hc
    exact (byte_beq s[r] 46).trans (decide_eq_true hc)
  · rw [if_neg hc] at h; exact absurd rfl h
theorem numeral_dec {t : List Nat} (h : hexHead t = false) : numeralG t = if runN 10 t = 0 then (0, .error 4)
    else if placesN t (runN 10 t) = 0 then (runN 10 t, decN (t.take (runN 10 t)) 0)
    else (runN 10 t + 1 + placesN t (runN 10 t), decN (t.take (runN 10 t) ++ (t.drop (runN 10 t + 1)).take (placesN t (runN 10 t))) (placesN t (runN 10 t))) := by
  rw [numeralG, h]; rfl
end Go.Proofs.YtalfoihffnlelaaGreatDoor
namespace Go.Proofs.YtalfoihffnlelaaGreatDoor
structure V where
  k : Int
  p : Int
  q : Int
  s : ByteArray
  r : Int
def V.nil : V := ⟨0, 0, 0, ⟨#[]⟩, 0⟩
abbrev V.cells (v : V) : Array Value := #[.int .i64 v.k, .int .i64 v.p, .int .i64 v.q, .string v.s, .int .i64 v.r]
abbrev V.v (v : V) : Value := .agg v.cells
def eqV (a b : V) : Bool := a.k == b.k && a.p == b.p && a.q == b.q && bytesOf a.s == bytesOf b.s && a.r == b.r
def boolV (b : Bool) : V := ⟨1, 0, 0, ⟨#[]⟩, if b then 1 else 0⟩
def intV (n : Int) : V := if inTop n then ⟨2, n, 1, ⟨#[]⟩, 0⟩ else V.nil
def numVal (a : N2) : V := if validN a then ⟨2, a.1, a.2, ⟨#[]⟩, 0⟩ else V.nil
def strV (s : ByteArray) : V := ⟨3, 0, 0, s, 0⟩
end Go.Proofs.YtalfoihffnlelaaGreatDoor
namespace Go.Proofs.YtalfoihffnlelaaGreatDoor
open Go.RowKit Go.Proofs.Lexi
theorem bytes_to (s : ByteArray) (k : Nat) : bytesOf (s.extract 0 k) = (bytesOf s).take k := by rw [bytesOf_extract, List.drop_zero, Nat.sub_zero]
theorem size_to (s : ByteArray) {k : Nat} (h : k ≤ s.size) : (s.extract 0 k).size = k := by rw [ByteArray.size_extract]; omega
def mkR (A : Option Nat) (q : Int) : RR := match A with | none => .error 6 | some n => makeN n q
def AllDig (base : Nat) (l : List Nat) : Prop := ∀ c ∈ l, isDig base c = true
theorem run_take (base : Nat) : ∀ l : List Nat, AllDig base (l.take (runN base l))
  | [] => fun c hc => by simp at hc
  | x :: r => by
    unfold runN
    split
    · rename_i hx
      intro c hc
      rw [List.take_succ_cons, List.mem_cons] at hc
      rcases hc with rfl | hc
      · exact hx
      · exact run_take base r c hc
    · intro c hc
      simp at hc
theorem allDig_at {base : Nat} {s : ByteArray} (h : AllDig base (bytesOf s)) (i : Nat) (hi : i < s.size) : isDig base s[i].toNat = true :=
  h _ (List.mem_of_getElem? (byte_at hi))
theorem dec_mk (A : Option Nat) {P : Nat} (h9 : ¬ 9 < P) : (match A with | none => (.error 6 : RR) | some n => if 9 < P then .error 6 else makeN n ((10 : Nat) ^ P : Nat)) = mkR A ((10 ^ P : Nat) : Int) := by
  cases A with
  | none => rfl
  | some n => exact if_neg h9
end Go.Proofs.YtalfoihffnlelaaGreatDoor
