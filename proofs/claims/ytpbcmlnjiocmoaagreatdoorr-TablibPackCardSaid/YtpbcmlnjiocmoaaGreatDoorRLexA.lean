import Derived.Tactics
import Derived.Orders
import Derived.Laws.Sem
import Derived.Laws.Panics
import Derived.WalkKit
import Derived.Test.YtpbcmlnjiocmoaaGreatDoorRProg
import Derived.KernelRfl
import Derived.Lib.Hide
import Derived.Lib.Strings
import Derived.Laws.EntriesVeiled
import Derived.Maps.AppendAt
import Derived.RegionTactic
import Derived.BigRegion
import Derived.Below
import Derived.IntWalk
import Derived.Deep.LoopGhost
import Derived.Deep.Draws
import Derived.Deep.RegionHeld3
import Derived.Deep.QuietTactic
import Derived.BigQuiet
import Derived.BigFrame
import Derived.Laws.MakeOwn
import Derived.Lib.SliceRun
import Derived.Lib.AppendStr
import Derived.WalkSmall
import Derived.Shelf.Strings.Builder1
import Derived.Shelf.Strings.Builder2
import Derived.Shelf.Strings.OnBuilder
import Derived.Shelf.Strings.Trim
import Derived.Shelf.Small.Utf8
import Derived.Shelf.Small.Strs
import Derived.Shelf.Small.Wraps
import Derived.Shelf.Strconv.Itoa0
import Derived.Shelf.Strconv.Itoa1
import Derived.Shelf.LaysM
import Derived.Shelf.Strconv.Itoa2
import Derived.Shelf.Strconv.Itoa3
import Derived.Shelf.Strings.Search1
import Derived.Shelf.Strings.Search2
import Derived.Shelf.Strings.Cut
import Derived.Shelf.Strings.Prefix
import Derived.Shelf.Unicode.Decode
import Derived.Shelf.Strings.Runes
import Derived.Shelf.Strings.AsciiSet
import Derived.Shelf.Unicode.DecodeSlow
import Derived.Shelf.Unicode.DecodeAny
import Derived.Shelf.Unicode.DecodeLast
import Derived.Shelf.Strings.SlTrimAscii
import Derived.Laws.IdiomStrings
import Derived.OwnWalk
import Derived.Laws.OwnMore
import Derived.Lib.SmallJoins
set_option linter.unusedVariables false
set_option linter.unusedSimpArgs false
namespace Go.Proofs.Lexi
open Go
section
variable {P : Program}
/-- W has all blocks of w, unchanged. -/
structure Ext (w W : World) : Prop where
  size : w.heap.size ≤ W.heap.size
  block : ∀ k, k < w.heap.size → W.heap[k]? = w.heap[k]?
theorem Ext.refl (w : World) : Ext w w := ⟨Nat.le_refl _, fun _ _ => rfl⟩
theorem Ext.trans {a b c : World} (h : Ext a b) (k : Ext b c) : Ext a c :=
  ⟨Nat.le_trans h.size k.size, fun i hi => (k.block i (Nat.lt_of_lt_of_le hi h.size)).trans (h.block i hi)⟩
def Pureish {α : Type} (P : Program) (s : Sem α) : Prop := ∀ w x w', s.run P w = .ok x w' → w' = w ∧ ∀ W, s.run P W = .ok x W
def Readish {α : Type} (P : Program) (s : Sem α) : Prop := ∀ w x w', s.run P w = .ok x w' → w' = w ∧ ∀ W, Ext w W → s.run P W = .ok x W
def Newish {α : Type} (P : Program) (s : Sem α) : Prop := ∀ w x w', s.run P w = .ok x w' → Ext w w'
theorem Pureish.read {α : Type} {s : Sem α} (h : Pureish P s) : Readish P s := fun w x w' e => ⟨(h w x w' e).1, fun W _ => (h w x w' e).2 W⟩
theorem Readish.new {α : Type} {s : Sem α} (h : Readish P s) : Newish P s := fun w x w' e => by rw [(h w x w' e).1]; exact Ext.refl _
theorem Pureish.pure {α : Type} (a : α) : Pureish P (Pure.pure a : Sem α) := fun w x w' e => by
  simp only [Sem.run_pure] at e; injection e with e1 e2; subst e1; subst e2; exact ⟨rfl, fun _ => by simp⟩
theorem Pureish.bind {α β : Type} {s : Sem α} {f : α → Sem β} (h : Pureish P s) (hf : ∀ a, Pureish P (f a)) : Pureish P (s >>= f) := fun w x w' e => by
  rw [Sem.run_bind] at e
  cases hs : s.run P w with
  | halt h w1 => rw [hs] at e; cases e
  | ok a w1 =>
    rw [hs] at e
    obtain ⟨rfl, h1⟩ := h _ _ _ hs
    obtain ⟨h2, h3⟩ := hf a _ _ _ e
    exact ⟨h2, fun W => by rw [Sem.run_bind, h1 W]; exact h3 W⟩
theorem Readish.bind {α β : Type} {s : Sem α} {f : α → Sem β} (h : Readish P s) (hf : ∀ a, Readish P (f a)) : Readish P (s >>= f) := fun w x w' e => by
  rw [Sem.run_bind] at e
  cases hs : s.run P w with
  | halt h w1 => rw [hs] at e; cases e
  | ok a w1 =>
    rw [hs] at e
    obtain ⟨rfl, h1⟩ := h _ _ _ hs
    obtain ⟨h2, h3⟩ := hf a _ _ _ e
    exact ⟨h2, fun W hW => by rw [Sem.run_bind, h1 W hW]; exact h3 W hW⟩
theorem Newish.bind {α β : Type} {s : Sem α} {f : α → Sem β} (h : Newish P s) (hf : ∀ a, Newish P (f a)) : Newish P (s >>= f) := fun w x w' e => by
  rw [Sem.run_bind] at e
  cases hs : s.run P w with
  | halt h w1 => rw [hs] at e; cases e
  | ok a w1 => rw [hs] at e; exact (h _ _ _ hs).trans (hf a _ _ _ e)
/-- Whatever never succeeds. -/
theorem Pureish.never {α : Type} {s : Sem α} (h : ∀ w, ∃ x w', s.run P w = .halt x w') : Pureish P s := fun w x w' e => by
  obtain ⟨_, _, h⟩ := h w; rw [h] at e; cases e
theorem Pureish.halt {α : Type} (h : Halt) : Pureish P (Sem.halt h : Sem α) := Pureish.never fun w => ⟨h, w, rfl⟩
theorem Pureish.stuck {α : Type} (h : String) : Pureish P (Go.stuck h : Sem α) := Pureish.halt _
theorem Pureish.unsupported {α : Type} (h : Unsupported) : Pureish P (Go.unsupported h : Sem α) := Pureish.halt _
theorem Pureish.boundsPanic {α : Type} (k : IntKind) (x y : Int) (c : BoundsCode) : Pureish P (boundsPanic k x y c : Sem α) :=
  Pureish.never fun w => by obtain ⟨s, w', h⟩ := run_boundsPanic (P := P) (w := w) (α := α) k x y c; exact ⟨_, _, h⟩
theorem Pureish.program : Pureish P Go.program := fun w x w' e => by
  simp only [Go.program, Sem.run] at e
  injection e with e1 e2; subst e1; subst e2; exact ⟨rfl, fun _ => rfl⟩
theorem Pureish.ite {α : Type} {c : Prop} [Decidable c] {s t : Sem α} (h : Pureish P s) (k : Pureish P t) : Pureish P (if c then s else t) := by split <;> assumption
theorem Pureish.underlying (t : TypeId) : Pureish P (Go.underlying t) := by
  unfold Go.underlying
  refine Pureish.bind Pureish.program fun p => ?_
  split
  · exact Pureish.pure _
  · exact Pureish.stuck _
theorem Pureish.typeInfo (t : TypeId) : Pureish P (Go.typeInfo t) := by
  unfold Go.typeInfo
  refine Pureish.bind Pureish.program fun p => ?_
  split
  · exact Pureish.pure _
  · exact Pureish.stuck _
theorem Pureish.sizeOf (t : TypeId) : Pureish P (Go.sizeOf t) := by
  unfold Go.sizeOf
  exact Pureish.bind (Pureish.typeInfo t) fun _ => Pureish.pure _
theorem Pureish.isAgg (t : TypeId) : Pureish P (Go.isAgg t) := by
  unfold Go.isAgg
  refine Pureish.bind (Pureish.underlying t) fun d => ?_
  split <;> exact Pureish.pure _
theorem Pureish.zeroValue (t : TypeId) : Pureish P (Go.zeroValue t) := by
  unfold Go.zeroValue
  refine Pureish.bind (Pureish.typeInfo t) fun d => ?_
  split
  · exact Pureish.pure _
  · exact Pureish.unsupported _
theorem Pureish.part (t : TypeId) (cs : Array Value) (off : Nat) : Pureish P (Go.part t cs off) := by
  unfold Go.part
  refine Pureish.bind (Pureish.isAgg t) fun b => ?_
  split
  · exact Pureish.bind (Pureish.sizeOf t) fun _ => Pureish.pure _
  · split
    · exact Pureish.pure _
    · exact Pureish.stuck _
theorem Pureish.asIntOf (v : Value) : Pureish P (Go.asIntOf v) := by
  unfold Go.asIntOf
  split <;> first | exact Pureish.pure _ | exact Pureish.stuck _ | exact Pureish.unsupported _
theorem Pureish.asInt (v : Value) : Pureish P (Go.asInt v) := by
  unfold Go.asInt
  exact Pureish.bind (Pureish.asIntOf v) fun _ => Pureish.pure _
theorem Pureish.asBool (v : Value) : Pureish P (Go.asBool v) := by
  unfold Go.asBool
  split <;> first | exact Pureish.pure _ | exact Pureish.stuck _ | exact Pureish.unsupported _
theorem Pureish.asAgg (v : Value) : Pureish P (Go.asAgg v) := by
  unfold Go.asAgg
  split <;> first | exact Pureish.pure _ | exact Pureish.stuck _ | exact Pureish.unsupported _
theorem Pureish.sureAddr (v : Value) : Pureish P (Instr.sureAddr v) := by
  unfold Instr.sureAddr
  split <;> first | exact Pureish.pure _ | exact Pureish.stuck _
def Never {α : Type} (P : Program) (s : Sem α) : Prop := ∀ w, ∃ x w', s.run P w = .halt x w'
theorem Never.bind {α β : Type} (s : Sem α) {f : α → Sem β} (hf : ∀ a, Never P (f a)) : Never P (s >>= f) := fun w => by
  rw [Sem.run_bind]
  cases hs : s.run P w with
  | halt h w1 => exact ⟨h, w1, rfl⟩
  | ok a w1 => exact hf a w1
theorem Never.goPanic {α : Type} (v : Value) : Never P (Go.goPanic v : Sem α) := fun w => ⟨_, w, rfl⟩
theorem Pureish.runtimePanic {α : Type} (e : RuntimeError) : Pureish P (Go.runtimePanic e : Sem α) := by
  refine Pureish.never ?_
  unfold Go.runtimePanic
  refine Never.bind _ fun p => ?_
  cases e <;> dsimp only <;> first | exact Never.goPanic _ | exact Never.bind _ fun _ => Never.bind _ fun _ => Never.goPanic _
theorem Pureish.asAddr (v : Value) : Pureish P (Go.asAddr v) := by
  unfold Go.asAddr
  split <;> first | exact Pureish.pure _ | exact Pureish.stuck _ | exact Pureish.runtimePanic _
theorem Pureish.sliceBound (x : Value) (y : Nat) (c : BoundsCode) : Pureish P (Instr.sliceBound x y c) := by
  unfold Instr.sliceBound
  refine Pureish.bind (Pureish.asIntOf x) fun p => ?_
  exact Pureish.ite (Pureish.pure _) (Pureish.boundsPanic _ _ _ _)
theorem Pureish.sliceBounds (b : Bool) (l c : Nat) (lo hi mx : Option Value) : Pureish P (Instr.sliceBounds b l c lo hi mx) := by
  unfold Instr.sliceBounds
  cases mx <;> cases hi <;> cases lo <;> dsimp only <;>
    repeat' (first | exact Pureish.pure _ | exact Pureish.stuck _ | exact Pureish.sliceBound _ _ _ | refine Pureish.bind ?_ (fun _ => ?_))
theorem Pureish.slice (t : TypeId) (x : Value) (lo hi mx : Option Value) : Pureish P (Instr.slice t x lo hi mx) := by
  unfold Instr.slice
  refine Pureish.bind (Pureish.underlying t) fun d => ?_
  split
  · refine Pureish.ite (Pureish.bind (Pureish.stuck _) fun _ => ?_) ?_
    all_goals exact Pureish.bind (Pureish.sliceBounds _ _ _ _ _ _) fun _ => Pureish.pure _
  · exact Pureish.bind (Pureish.sliceBounds _ _ _ _ _ _) fun _ => Pureish.bind (Pureish.sizeOf _) fun _ => Pureish.pure _
  · refine Pureish.bind (Pureish.asAddr _) fun _ => Pureish.bind (Pureish.underlying _) fun _ => ?_
    split
    · exact Pureish.bind (Pureish.sliceBounds _ _ _ _ _ _) fun _ => Pureish.bind (Pureish.sizeOf _) fun _ => Pureish.pure _
    · exact Pureish.stuck _
  · exact Pureish.stuck _
theorem Pureish.sliceAt (t : TypeId) (x : Value) (lo hi mx : Option Value) : Pureish P (Instr.sliceAt t x lo hi mx) := by
  unfold Instr.sliceAt
  refine Pureish.bind (Pureish.underlying t) fun d => ?_
  split
  · exact Pureish.bind (Pureish.sureAddr _) fun _ => Pureish.bind (Pureish.sliceBounds _ _ _ _ _ _) fun _ => Pureish.bind (Pureish.sizeOf _) fun _ => Pureish.pure _
  · exact Pureish.slice _ _ _ _ _
theorem Pureish.indexAt (t : TypeId) (x i : Value) : Pureish P (Instr.indexAt t x i) := by
  unfold Instr.indexAt
  dsimp only
  repeat' (first | exact Pureish.pure _ | exact Pureish.stuck _ | exact Pureish.unsupported _ | exact Pureish.boundsPanic _ _ _ _ | exact Pureish.underlying _ | exact Pureish.sizeOf _ | exact Pureish.asIntOf _ | exact Pureish.sureAddr _ | refine Pureish.bind ?_ (fun _ => ?_) | refine Pureish.ite ?_ ?_ | split)
theorem Pureish.index (t : TypeId) (x i : Value) : Pureish P (Instr.index t x i) := by
  unfold Instr.index
  refine Pureish.bind (Pureish.asIntOf _) fun p => Pureish.bind (Pureish.underlying t) fun d => ?_
  split
  · exact Pureish.ite (Pureish.bind (Pureish.sizeOf _) fun _ => Pureish.part _ _ _) (Pureish.boundsPanic _ _ _ _)
  · split
    · exact Pureish.pure _
    · exact Pureish.boundsPanic _ _ _ _
  · exact Pureish.stuck _
theorem Pureish.field (t : TypeId) (x : Value) (i : Nat) : Pureish P (Instr.field t x i) := by
  unfold Instr.field
  refine Pureish.bind (Pureish.underlying t) fun d => ?_
  split
  · split
    · exact Pureish.bind (Pureish.asAgg _) fun _ => Pureish.part _ _ _
    · exact Pureish.stuck _
  · exact Pureish.stuck _
theorem Pureish.extract (t : Value) (i : Nat) : Pureish P (Instr.extract t i) := by
  unfold Instr.extract
  split
  · split
    · exact Pureish.pure _
    · exact Pureish.stuck _
  · exact Pureish.stuck _
/-- No part of size nought among the fields that are named. -/
def fieldOK (P : Program) (s : TypeId) (f : Nat) : Bool :=
  match P.underlying s with
  | some (.struct fields) => (fields[f]?).all fun fd => (P.info? fd.type).all fun i => i.size != 0
  | _ => true
theorem Pureish.fieldAt (s : TypeId) (x : Value) (f : Nat) (h : fieldOK P s f = true) : Pureish P (Instr.fieldAt s x f) := by
  intro w v w' e
  unfold Instr.fieldAt at e ⊢
  simp only [Sem.run_bind, Go.underlying, Go.program] at e ⊢
  simp only [Sem.run, Result.andThen_ok] at e ⊢
  unfold fieldOK at h
  cases hu : P.underlying s with
  | none => rw [hu] at e; simp [Go.stuck] at e
  | some d =>
    rw [hu] at e h
    simp only [Sem.run_pure, Result.andThen_ok] at e ⊢
    cases d <;> simp only [] at e h ⊢ <;> try (simp [Go.stuck] at e; done)
    rename_i fields
    cases hf : fields[f]? with
    | none => rw [hf] at e; simp [Go.stuck] at e
    | some fd =>
      rw [hf] at e h
      simp only [Option.all_some] at h
      simp only [Sem.run_bind] at e ⊢
      cases x with
      | pointer p =>
        cases p with
        | none => simp [Instr.sureAddr, Go.stuck] at e
        | some a =>
          simp only [Instr.sureAddr, Sem.run_pure, Result.andThen_ok, fieldPlace, Go.sizeOf, Go.typeInfo, Go.program, Sem.run_bind, Sem.run] at e ⊢
          cases hi : P.info? fd.type with
          | none => rw [hi] at e; simp [Go.stuck] at e
          | some i =>
            rw [hi] at e h
            simp only [Option.all_some, bne_iff_ne] at h
            simp only [Sem.run_pure, Result.andThen_ok, if_neg h] at e ⊢
            injection e with e1 e2
            subst e1; subst e2
            exact ⟨rfl, fun _ => rfl⟩
      | _ => simp [Instr.sureAddr, Go.stuck] at e
theorem Pureish.build (t : TypeId) (ps : Array (Nat × Value)) : Pureish P (Instr.build t ps) := by
  unfold Instr.build
  refine Pureish.bind (Pureish.zeroValue _) fun z => Pureish.bind (Pureish.underlying _) fun d => ?_
  split
  · refine Pureish.bind ?_ fun _ => ?_
    · rename_i fields
      have key : ∀ (l : List Field) (acc : Array (Nat × Nat)), Pureish P (l.foldlM (init := acc) fun bs a => bs.push <$> (do let s ← Go.sizeOf a.type; Pure.pure (a.offset, s))) := by
        intro l
        induction l with
        | nil => intro acc; exact Pureish.pure _
        | cons x xs ih =>
          intro acc
          rw [List.foldlM_cons]
          refine Pureish.bind ?_ fun _ => ih _
          rw [← bind_pure_comp]
          exact Pureish.bind (Pureish.bind (Pureish.sizeOf _) fun _ => Pureish.pure _) fun _ => Pureish.pure _
      have := key fields.toList #[]
      rw [Array.mapM_eq_foldlM]
      simpa using this
    · split
      · exact Pureish.pure _
      · exact Pureish.stuck _
  · refine Pureish.bind (Pureish.sizeOf _) fun _ => ?_
    split
    · exact Pureish.pure _
    · exact Pureish.stuck _
  · exact Pureish.stuck _
/-- Operands of a comparison or a sum that name no memory. -/
def plainPair : Value → Value → Bool
  | .int .., .int .. | .string _, .string _ | .bool _, .bool _ => true
  | .pointer none, .pointer _ | .pointer _, .pointer none => true
  | .slice none .., .slice .. | .slice .., .slice none .. => true
  | .nilFunc, .nilFunc | .nilFunc, .func .. | .func .., .nilFunc => true
  | .map none, .map _ | .map _, .map none => true
  | .nilIface, .iface .. | .iface .., .nilIface => true
  | _, _ => false
theorem opt_cases {α : Type} (a : Option α) : a = none ∨ ∃ x, a = some x := by cases a <;> simp
theorem plain_cases {x y : Value} (h : plainPair x y = true) :
    (∃ k a k' b, x = .int k a ∧ y = .int k' b) ∨
    (∃ a b, x = .string a ∧ y = .string b) ∨
    (∃ a b, x = .bool a ∧ y = .bool b) ∨
    (x = .pointer none ∧ y = .pointer none) ∨
    (∃ a, x = .pointer none ∧ y = .pointer (some a)) ∨
    (∃ a, x = .pointer (some a) ∧ y = .pointer none) ∨
    (∃ l c l' c', x = .slice none l c ∧ y = .slice none l' c') ∨
    (∃ l c a l' c', x = .slice none l c ∧ y = .slice (some a) l' c') ∨
    (∃ a l c l' c', x = .slice (some a) l c ∧ y = .slice none l' c') ∨
    (x = .nilFunc ∧ y = .nilFunc) ∨
    (∃ f a b, x = .nilFunc ∧ y = .func f a b) ∨
    (∃ f a b, x = .func f a b ∧ y = .nilFunc) ∨
    (x = .map none ∧ y = .map none) ∨
    (∃ a, x = .map none ∧ y = .map (some a)) ∨
    (∃ a, x = .map (some a) ∧ y = .map none) ∨
    (∃ t v, x = .nilIface ∧ y = .iface t v) ∨
    (∃ t v, x = .iface t v ∧ y = .nilIface) := by
  unfold plainPair at h
  split at h <;> first | (cases h; done) | (simp; done) | (simp; exact opt_cases _)
theorem Pureish.equalIn (d : Nat) (t : TypeId) (x y : Value) (h : plainPair x y = true) : Pureish P (Op.equalIn (d + 1) t x y) := by
  unfold Op.equalIn
  refine Pureish.bind (Pureish.underlying t) fun u => ?_
  rcases plain_cases h with ⟨k, a, k', b, rfl, rfl⟩ | ⟨a, b, rfl, rfl⟩ | ⟨a, b, rfl, rfl⟩ | ⟨rfl, rfl⟩ | ⟨a, rfl, rfl⟩ | ⟨a, rfl, rfl⟩ | ⟨l, c, l', c', rfl, rfl⟩ | ⟨l, c, a, l', c', rfl, rfl⟩ | ⟨a, l, c, l', c', rfl, rfl⟩ | ⟨rfl, rfl⟩ | ⟨f, a, b, rfl, rfl⟩ | ⟨f, a, b, rfl, rfl⟩ | ⟨rfl, rfl⟩ | ⟨a, rfl, rfl⟩ | ⟨a, rfl, rfl⟩ | ⟨t, v, rfl, rfl⟩ | ⟨t, v, rfl, rfl⟩
  all_goals
    cases u <;> dsimp only <;> repeat' (first | exact Pureish.pure _ | exact Pureish.stuck _ | exact Pureish.unsupported _ | exact Pureish.runtimePanic _ | refine Pureish.ite ?_ ?_ | split)
theorem Pureish.equal (t : TypeId) (x y : Value) (h : plainPair x y = true) : Pureish P (Op.equal t x y) := Pureish.equalIn 9999 t x y h
theorem Pureish.binOp (op : BinOp) (t : TypeId) (x y : Value) (h : plainPair x y = true) : Pureish P (Go.binOp op t x y) := by
  have he := Pureish.equal (P := P) t x y h
  have e1 : Pureish P (do Pure.pure (Value.bool (← Op.equal t x y))) := Pureish.bind he fun _ => Pureish.pure _
  have e2 : Pureish P (do Pure.pure (Value.bool (!(← Op.equal t x y)))) := Pureish.bind he fun _ => Pureish.pure _
  rcases plain_cases h with ⟨k, a, k', b, rfl, rfl⟩ | ⟨a, b, rfl, rfl⟩ | ⟨a, b, rfl, rfl⟩ | ⟨rfl, rfl⟩ | ⟨a, rfl, rfl⟩ | ⟨a, rfl, rfl⟩ | ⟨l, c, l', c', rfl, rfl⟩ | ⟨l, c, a, l', c', rfl, rfl⟩ | ⟨a, l, c, l', c', rfl, rfl⟩ | ⟨rfl, rfl⟩ | ⟨f, a, b, rfl, rfl⟩ | ⟨f, a, b, rfl, rfl⟩ | ⟨rfl, rfl⟩ | ⟨a, rfl, rfl⟩ | ⟨a, rfl, rfl⟩ | ⟨t, v, rfl, rfl⟩ | ⟨t, v, rfl, rfl⟩
  all_goals
    unfold Go.binOp
    cases op <;> dsimp only [Op.shift, Op.intArith, Op.intDiv, Op.intBits, Op.intCmp, Op.stringOp] <;> first | exact e1 | exact e2 | (repeat' (first | exact Pureish.pure _ | exact Pureish.stuck _ | exact Pureish.unsupported _ | exact Pureish.runtimePanic _ | refine Pureish.ite ?_ ?_ | split))
theorem Pureish.eqGuard (op : BinOp) (t : TypeId) (x y : Operand) (a b : Value) (h : plainPair a b = true) : Pureish P (Go.eqGuard op t x y a b) := by
  unfold Go.eqGuard
  rcases plain_cases h with ⟨k, a, k', b, rfl, rfl⟩ | ⟨a, b, rfl, rfl⟩ | ⟨a, b, rfl, rfl⟩ | ⟨rfl, rfl⟩ | ⟨a, rfl, rfl⟩ | ⟨a, rfl, rfl⟩ | ⟨l, c, l', c', rfl, rfl⟩ | ⟨l, c, a, l', c', rfl, rfl⟩ | ⟨a, l, c, l', c', rfl, rfl⟩ | ⟨rfl, rfl⟩ | ⟨f, a, b, rfl, rfl⟩ | ⟨f, a, b, rfl, rfl⟩ | ⟨rfl, rfl⟩ | ⟨a, rfl, rfl⟩ | ⟨a, rfl, rfl⟩ | ⟨t, v, rfl, rfl⟩ | ⟨t, v, rfl, rfl⟩
  all_goals
    cases op <;> dsimp only <;> repeat' (first | exact Pureish.pure _ | exact Pureish.stuck _ | exact Pureish.unsupported _ | exact Pureish.runtimePanic _ | refine Pureish.ite ?_ ?_ | split)
theorem Pureish.unary (op : UnOp) (x : Value) : Pureish P (Op.unary op x) := by
  unfold Op.unary
  split <;> (try dsimp only [Op.intArith, Op.intBits]) <;> first | exact Pureish.pure _ | exact Pureish.unsupported _ | exact Pureish.stuck _
def plainLen : Value → Bool
  | .string _ | .slice .. => true
  | _ => false
theorem Pureish.len (ts : Array TypeId) (t : TypeId) (x : Value) (h : plainLen x = true) : Pureish P (Builtin.len_ ts t #[x]) := by
  unfold Builtin.len_
  cases x <;> first | (cases h; done) | skip
  all_goals
    split
    · refine Pureish.bind (Pureish.underlying _) fun u => ?_
      rename_i heq
      simp only [List.getElem?_toArray, List.length_cons, List.length_nil, Nat.zero_add, Nat.lt_add_one, getElem?_pos, List.getElem_cons_zero, Prod.mk.injEq, Option.some.injEq] at heq
      obtain ⟨_, rfl⟩ := heq
      cases u <;> dsimp only <;> repeat' (first | exact Pureish.pure _ | exact Pureish.stuck _ | exact Pureish.underlying _ | refine Pureish.bind ?_ (fun _ => ?_) | split)
    · exact Pureish.stuck _
theorem Ext.get {w W : World} (h : Ext w W) {b : Nat} {o : Obj} (e : w.heap[b]? = some o) : W.heap[b]? = some o := by
  rw [h.block b ((Array.getElem?_eq_some_iff.1 e).1)]; exact e
theorem seen_ext {w W : World} (h : Ext w W) {at_ k : Addr} {u : TypeId} {m : Bool} {r} (e : w.seen P at_ u k m = .ok r) : W.seen P at_ u k m = .ok r := by
  cases hb : w.heap[at_.block]? with
  | some o => unfold World.seen at e ⊢; rw [h.get hb]; rw [hb] at e; exact e
  | none =>
    exfalso
    unfold World.seen at e
    rw [hb] at e
    simp only [bind, Except.bind] at e
    repeat' (split at e <;> first | (cases e; done) | skip)
theorem viewLoad_ext {w W : World} (h : Ext w W) {at_ k : Addr} {u : TypeId} {m : Bool} {r} (e : w.viewLoad P at_ u k m = .ok r) : W.viewLoad P at_ u k m = .ok r := by
  unfold World.viewLoad at e ⊢
  cases hs : w.seen P at_ u k m with
  | error x => rw [hs] at e; cases e
  | ok r' => rw [seen_ext h hs]; rw [hs] at e; exact e
theorem Readish.load (a : Addr) (m : Mode) : Readish P (Go.load a m) := by
  intro w x w' e
  rw [run_load] at e
  cases hc : w.cell? a with
  | some v =>
    rw [hc] at e
    simp only [] at e
    injection e with e1 e2
    subst e1; subst e2
    refine ⟨rfl, fun W hW => ?_⟩
    have hb : ∃ o, w.heap[a.block]? = some o := by
      unfold World.cell? at hc
      cases h : w.heap[a.block]? with
      | none => rw [h] at hc; cases hc
      | some o => exact ⟨o, rfl⟩
    obtain ⟨o, ho⟩ := hb
    have : W.cell? a = some v := by rw [← hc]; unfold World.cell?; rw [ho, hW.get ho]
    rw [run_load, this]
  | none =>
    rw [hc] at e
    simp only [] at e
    cases hf : w.farLoad P a (m == .atomic) with
    | error x => rw [hf] at e; cases e
    | ok r =>
      rw [hf] at e
      obtain ⟨v, l⟩ := r
      simp only [] at e
      injection e with e1 e2
      subst e1; subst e2
      refine ⟨rfl, fun W hW => ?_⟩
      unfold World.farLoad at hf
      cases hb : w.heap[a.block]? with
      | none => rw [hb] at hf; cases hf
      | some o =>
        rw [hb] at hf
        have h1 : W.cell? a = none := by rw [← hc]; unfold World.cell?; rw [hb, hW.get hb]
        have h2 : W.farLoad P a (m == .atomic) = .ok (v, l) := by
          unfold World.farLoad
          rw [hW.get hb]
          cases o <;> first | (cases hf; done) | skip
          rename_i at_ u
          simp only [] at hf ⊢
          cases hv : w.viewLoad P at_ u a (m == .atomic) with
          | error y => rw [hv] at hf; cases hf
          | ok r => rw [hv] at hf; rw [viewLoad_ext hW hv]; exact hf
        rw [run_load, h1, h2]
theorem Readish.loadCellsFrom (a : Addr) : ∀ (n i : Nat) (acc : Array Value), Readish P (Go.loadCellsFrom a i n acc)
  | 0, _, _ => (Pureish.pure _).read
  | n + 1, i, acc => by
    unfold Go.loadCellsFrom
    exact Readish.bind (Readish.load _ _) fun v => Readish.loadCellsFrom a n (i + 1) _
theorem Readish.loadAt (t : TypeId) (v : Value) : Readish P (Instr.loadAt t v) := by
  unfold Instr.loadAt Go.loadVar
  refine Readish.bind (Pureish.sureAddr v).read fun a => Readish.bind (Pureish.isAgg t).read fun b => ?_
  split
  · exact Readish.bind (Pureish.sizeOf t).read fun n => Readish.bind (Readish.loadCellsFrom _ _ _ _) fun _ => (Pureish.pure _).read
  · exact Readish.load _ _
theorem Newish.newObj (o : Obj) : Newish P (Go.newObj o) := fun w x w' e => by
  simp only [Go.newObj, Sem.run] at e
  injection e with e1 e2
  subst e2
  refine ⟨by simp, fun k hk => ?_⟩
  show (w.heap.push o)[k]? = _
  rw [Array.getElem?_push, if_neg (by omega)]
theorem Newish.newRow (e : TypeId) (c : Array Value) : Newish P (Go.newRow e c) := by
  unfold Go.newRow
  exact Newish.bind (Newish.newObj _) fun _ => (Pureish.pure _).read.new
theorem Newish.alloc (e : TypeId) (v : Value) : Newish P (Instr.alloc e true v) := by
  unfold Instr.alloc
  refine Newish.bind (Pureish.zeroValue _).read.new fun z => ?_
  split
  · rename_i h; cases h
  · exact Newish.bind (Newish.newRow _ _) fun _ => (Pureish.pure _).read.new
theorem Newish.box (e : TypeId) (v : Value) : Newish P (Instr.box e v) := by
  unfold Instr.box
  exact Newish.bind (Newish.newRow _ _) fun _ => (Pureish.pure _).read.new
theorem Newish.buildSlice (t : TypeId) (n : Nat) (ps : Array (Nat × Value)) : Newish P (Instr.buildSlice t n ps) := by
  unfold Instr.buildSlice
  dsimp only
  repeat' (first | exact (Pureish.pure _).read.new | exact (Pureish.stuck _).read.new | exact (Pureish.unsupported _).read.new | exact (Pureish.underlying _).read.new | exact (Pureish.sizeOf _).read.new | exact (Pureish.zeroValue _).read.new | exact Newish.newRow _ _ | refine Newish.bind ?_ (fun _ => ?_) | split)
theorem Newish.askRoom (n : Nat) : Newish P (Go.askRoom n) := by
  unfold Go.askRoom
  split
  · intro w x w' e
    simp only [Go.mark, Sem.run] at e
    injection e with e1 e2
    subst e2; exact Ext.refl _
  · exact (Pureish.pure _).read.new
theorem Newish.choose (q : Question) : Newish P (Go.choose q) := fun w x w' e => by
  simp only [Go.choose, Sem.run] at e
  split at e
  · injection e with e1 e2; subst e2; exact Ext.refl _
  · injection e with e1 e2; subst e2; exact ⟨Nat.le_refl _, fun _ _ => rfl⟩
theorem Newish.makeSlice (t : TypeId) (l c : Value) : Newish P (Instr.makeSlice t l c) := by
  unfold Instr.makeSlice
  dsimp only
  repeat' (first | exact (Pureish.pure _).read.new | exact (Pureish.stuck _).read.new | exact (Pureish.unsupported _).read.new | exact (Pureish.underlying _).read.new | exact (Pureish.sizeOf _).read.new | exact (Pureish.typeInfo _).read.new | exact (Pureish.asInt _).read.new | exact (Pureish.zeroValue _).read.new | exact (Pureish.runtimePanic _).read.new | exact Newish.askRoom _ | exact Newish.choose _ | exact Newish.newRow _ _ | refine Newish.bind ?_ (fun _ => ?_) | split)
/-- The operand of a built-in len. -/
def lenCall (c : Call) : Option Operand :=
  match c.callee with
  | .builtin .len => if c.args.size = 1 then c.args[0]? else none
  | _ => none
/-- Operations that touch no memory; of some the check at the region's end asks plain operands. -/
def isPure (P : Program) : Op → Bool
  | .move _ | .assign _ | .pick .. | .extract .. | .makeFunc .. | .index .. | .indexAddr .. | .slice .. | .field .. | .build .. | .unOp .. | .binOp .. | .nilCheck _ => true
  | .fieldAddr s _ f => fieldOK P s f
  | .call c => (lenCall c).isSome
  | _ => false
def isRead : Op → Bool
  | .load .. => true
  | _ => false
def isNew : Op → Bool
  | .alloc _ | .box .. | .buildSlice .. | .makeSlice .. => true
  | _ => false
def plainPtr : Value → Bool
  | .pointer _ => true
  | _ => false
/-- What is asked of an operation's operands at the region's end. -/
def okVal (ρ : Operand → Value) : Op → Bool
  | .binOp _ _ x y _ => plainPair (ρ x) (ρ y)
  | .nilCheck x => plainPtr (ρ x)
  | .call c => (lenCall c).all fun x => plainLen (ρ x)
  | _ => true
theorem Pureish.value {s : Sem Value} (h : Pureish P s) : Pureish P (do Pure.pure (Next.value (← s))) := Pureish.bind h fun _ => Pureish.pure _
theorem pure_exec (ρ : Operand → Value) (o : Oper) (h : isPure P o.op = true) (hv : okVal ρ o.op = true) : Pureish P (execOp ρ o) := by
  obtain ⟨dst, op, type, pos, after, guard⟩ := o
  cases op <;> first | (cases h; done) | skip
  case move => exact Pureish.pure _
  case assign => exact Pureish.pure _
  case pick => exact Pureish.bind (Pureish.asBool _) fun _ => Pureish.pure _
  case extract => exact (Pureish.extract _ _).value
  case makeFunc => exact (Pureish.pure _).value
  case index => exact (Pureish.index _ _ _).value
  case indexAddr => exact (Pureish.indexAt _ _ _).value
  case slice => exact (Pureish.sliceAt _ _ _ _ _).value
  case field => exact (Pureish.field _ _ _).value
  case build => exact (Pureish.build _ _).value
  case unOp => exact (Pureish.unary _ _).value
  case binOp => exact (Pureish.bind (Pureish.eqGuard _ _ _ _ _ _ hv) fun _ => Pureish.binOp _ _ _ _ hv).value
  case fieldAddr => exact (Pureish.fieldAt _ _ _ h).value
  case nilCheck x =>
    simp only [okVal, plainPtr] at hv
    simp only [execOp]
    split at hv <;> first | (cases hv; done) | skip
    rename_i p e
    rw [e]
    cases p
    · exact Pureish.runtimePanic _
    · exact Pureish.pure _
  case call c =>
    obtain ⟨callee, args, ts⟩ := c
    simp only [isPure, okVal, lenCall] at h hv
    cases callee <;> first | (cases h; done) | skip
    rename_i bi
    cases bi <;> first | (cases h; done) | skip
    simp only [] at h hv
    split at h <;> first | (cases h; done) | skip
    rename_i hs
    obtain ⟨x, rfl⟩ := Array.size_eq_one_iff.1 hs
    simp at hv
    have := Pureish.len (P := P) ts type (ρ x) hv
    simp only [execOp, resolve, invoke, builtin]
    simpa using this.value
theorem read_exec (ρ : Operand → Value) (o : Oper) (h : isRead o.op = true) : Readish P (execOp ρ o) := by
  obtain ⟨dst, op, type, pos, after, guard⟩ := o
  cases op <;> first | (cases h; done) | skip
  exact Readish.bind (Readish.loadAt _ _) fun _ => (Pureish.pure _).read
theorem new_exec (ρ : Operand → Value) (o : Oper) (h : isNew o.op = true) : Newish P (execOp ρ o) := by
  obtain ⟨dst, op, type, pos, after, guard⟩ := o
  cases op <;> first | (cases h; done) | skip
  case alloc => exact Newish.bind (Newish.alloc _ _) fun _ => (Pureish.pure _).read.new
  case box => exact Newish.bind (Newish.box _ _) fun _ => (Pureish.pure _).read.new
  case buildSlice => exact Newish.bind (Newish.buildSlice _ _ _) fun _ => (Pureish.pure _).read.new
  case makeSlice => exact Newish.bind (Newish.makeSlice _ _ _) fun _ => (Pureish.pure _).read.new
end
end Go.Proofs.Lexi
namespace Go.Proofs.YtpbcmlnjiocmoaaGreatDoorR
open Go.RowKit Go.Proofs.Lexi
theorem mixed : Tryz.prog.follows .mixedOrders = true := by kernel_rfl
theorem ret_int {a b : Int} (h : a = b) : Ending.returned (.int .i64 a) = .returned (.int .i64 b) := by rw [h]
theorem cell_of_heap {w : World} {b o : Nat} {cs : Array Value} {t : TypeId} {fz : Nat × Nat} (h : w.heap[b]? = some (.cells cs t fz)) : w.cell? ⟨b, o, none⟩ = cs[o]? := by
  simp [World.cell?, h]
theorem bdn {B : Nat} {a w : World} (h : Below B a w) (n : Nat) : Below B a (w.drewN n) := ⟨h.os, h.tape, h.output, h.size, h.block⟩
theorem heap_new (w : World) (o : Obj) : (w.alloc o).heap[w.heap.size]? = some o := by
  show (w.heap.push o)[w.heap.size]? = _
  simp
theorem heap_setCell_same {w : World} {b : Nat} {cs : Array Value} {t : TypeId} {fz : Nat × Nat} (h : w.heap[b]? = some (.cells cs t fz)) (o : Nat) (v : Value) : (w.setCell ⟨b, o, none⟩ v).heap[b]? = some (.cells (cs.setIfInBounds o v) t fz) := by
  simp [World.setCell, Array.getElem?_modify, h]
/-- Blocks that were there are as they were. -/
structure Ext (w W : World) : Prop where
  size : w.heap.size ≤ W.heap.size
  blk : ∀ k, k < w.heap.size → W.heap[k]? = w.heap[k]?
theorem Ext.get {w W : World} (h : Ext w W) {b : Nat} {o : Obj} (hb : w.heap[b]? = some o) : W.heap[b]? = some o := by
  rw [h.blk b (Array.getElem?_eq_some_iff.1 hb).1]; exact hb
theorem below_ext {B : Nat} {w w' : World} (h : Below B w w') (hB : w.heap.size ≤ B) : Ext w w' := ⟨h.size, fun k hk => h.block k (by omega)⟩
theorem ownBlock_lt {w : World} {base : Nat} {e : TypeId} {size : Nat} {v : Value} {n : Nat} {xs : List Value} (ho : w.ownsRow base e size v n xs) {g : Nat} (hg : v.ownBlock = some g) : base ≤ g ∧ g < w.heap.size := by
  rcases ho.2 with ⟨rfl, _⟩ | ⟨g', cap, cur, rfl, h1, h2, _⟩
  · cases hg
  · injection hg with hg; subst hg
    exact ⟨h1, (Array.getElem?_eq_some_iff.1 h2).1⟩
theorem ownsRow_keep {w w3 : World} {base : Nat} {e : TypeId} {size : Nat} {v : Value} {n : Nat} {xs : List Value} (ho : w.ownsRow base e size v n xs) (hk : ∀ g, v.ownBlock = some g → w3.heap[g]? = w.heap[g]?) : w3.ownsRow base e size v n xs := by
  obtain ⟨h1, h2⟩ := ho
  refine ⟨h1, ?_⟩
  rcases h2 with h2 | ⟨g, cap, cur, hv, hg, hh, r⟩
  · exact .inl h2
  · exact .inr ⟨g, cap, cur, hv, hg, by rw [hk g (by rw [hv]; rfl)]; exact hh, r⟩
theorem ownsRow_ext {w W : World} (h : Ext w W) {base : Nat} {e : TypeId} {size : Nat} {v : Value} {n : Nat} {xs : List Value} (ho : w.ownsRow base e size v n xs) : W.ownsRow base e size v n xs :=
  ownsRow_keep ho fun g hg => h.blk g (ownBlock_lt ho hg).2
theorem ownsRow_base {w : World} {base base' : Nat} {e : TypeId} {size : Nat} {v : Value} {n : Nat} {xs : List Value} (h : w.ownsRow base e size v n xs) (hb : base' ≤ base) : w.ownsRow base' e size v n xs := by
  obtain ⟨h1, h2⟩ := h
  refine ⟨h1, ?_⟩
  rcases h2 with h2 | ⟨g, cap, cur, hv, hg, r⟩
  · exact .inl h2
  · exact .inr ⟨g, cap, cur, hv, by omega, r⟩
theorem ownsRow_set {w : World} {base : Nat} {e : TypeId} {size : Nat} {v : Value} {n : Nat} {xs : List Value} (ho : w.ownsRow base e size v n xs) {a : Addr} (ha : v.ownBlock ≠ some a.block) (u : Value) : (w.setCell a u).ownsRow base e size v n xs :=
  ownsRow_keep ho fun g hg => Below.heap_setCell _ _ _ _ (fun e => ha (by rw [hg, e]))
theorem keepCell {W w' : World} (hb : Below W.heap.size W w') {a : Addr} {v : Value} (h : W.cell? a = some v) : w'.cell? a = some v := by
  rw [hb.cell (World.block_lt_of_cell? _ a h)]; exact h
theorem bcell {W w1 : World} (hb : Below W.heap.size W w1) : (∀ b o, b < W.heap.size → w1.cell? ⟨b, o, none⟩ = W.cell? ⟨b, o, none⟩) ∧ (∀ b o, b < W.heap.size → w1.frozen? ⟨b, o, none⟩ = W.frozen? ⟨b, o, none⟩) :=
  ⟨fun b o h => hb.cell (p := ⟨b, o, none⟩) h, fun b o h => hb.frozen (p := ⟨b, o, none⟩) h⟩
theorem below2w (w : World) (o1 o2 : Obj) : Below w.heap.size w ((w.alloc o1).alloc o2) := ((Below.refl _ _).alloc (Nat.le_refl _) _).alloc (by simp) _
theorem below3w (w : World) (o1 o2 o3 : Obj) : Below w.heap.size w (((w.alloc o1).alloc o2).alloc o3) := (below2w w o1 o2).alloc (by simp; omega) _
theorem below_next {w w1 w2 : World} (h : Below w.heap.size w w1) (k : Below w1.heap.size w1 w2) : Below w.heap.size w w2 := h.trans (k.mono h.size)
def bytesOf (p : ByteArray) : List Nat := p.data.toList.map UInt8.toNat
theorem bytesOf_length (p : ByteArray) : (bytesOf p).length = p.size := by unfold bytesOf; rw [List.length_map]; rfl
theorem bytesOf_extract (s : ByteArray) (a b : Nat) : bytesOf (s.extract a b) = ((bytesOf s).drop a).take (b - a) := by
  unfold bytesOf
  rw [← Lib.toList_data, Lib.extract_toList, ← List.map_drop, ← List.map_take]
theorem nats_inj : ∀ (a b : List UInt8), a.map UInt8.toNat = b.map UInt8.toNat → a = b
  | [], [], _ => rfl
  | [], _ :: _, h => by cases h
  | _ :: _, [], h => by cases h
  | x :: a, y :: b, h => by
    simp only [List.map_cons, List.cons.injEq] at h
    rw [UInt8.toNat_inj.1 h.1, nats_inj a b h.2]
theorem bytesOf_inj {s t : ByteArray} (h : bytesOf s = bytesOf t) : s = t := by
  have h2 : s.data.toList = t.data.toList := nats_inj _ _ h
  cases s; cases t
  simp only [ByteArray.mk.injEq]
  exact Array.toList_inj.1 h2
theorem toList_nil {p : ByteArray} (h : p.size = 0) : p.toList = [] := by
  rw [ByteArray.toList_eq]
  exact List.eq_nil_of_length_eq_zero h
theorem toList_ne {p : ByteArray} (h : 0 < p.size) : ¬ p.toList = [] := by
  rw [ByteArray.toList_eq]
  intro e
  have : p.data.toList.length = 0 := by rw [e]; rfl
  have h2 : p.size = p.data.toList.length := rfl
  omega
end Go.Proofs.YtpbcmlnjiocmoaaGreatDoorR
namespace Go.Proofs.YtpbcmlnjiocmoaaGreatDoorR
abbrev N2 := Int × Int
def inTop (n : Int) : Bool := decide (-2147483647 ≤ n) && decide (n ≤ 2147483647)
def validN (a : N2) : Bool := decide (1 ≤ a.2) && decide (a.2 ≤ 2147483647) && inTop a.1 && decide (Int.gcd a.1 a.2 = 1)
theorem inTop_iff {n : Int} : inTop n = true ↔ -2147483647 ≤ n ∧ n ≤ 2147483647 := by simp [inTop]
theorem validN_iff {a : N2} : validN a = true ↔ 1 ≤ a.2 ∧ a.2 ≤ 2147483647 ∧ -2147483647 ≤ a.1 ∧ a.1 ≤ 2147483647 ∧ Int.gcd a.1 a.2 = 1 := by
  simp only [validN, inTop, Bool.and_eq_true, decide_eq_true_eq]
  constructor
  · rintro ⟨⟨⟨h1, h2⟩, h3, h4⟩, h5⟩; exact ⟨h1, h2, h3, h4, h5⟩
  · rintro ⟨h1, h2, h3, h4, h5⟩; exact ⟨⟨⟨h1, h2⟩, h3, h4⟩, h5⟩
theorem validN_bounds {a : N2} (h : validN a = true) : 1 ≤ a.2 ∧ a.2 ≤ 2147483647 ∧ -2147483647 ≤ a.1 ∧ a.1 ≤ 2147483647 := by
  have := validN_iff.1 h
  exact ⟨this.1, this.2.1, this.2.2.1, this.2.2.2.1⟩
end Go.Proofs.YtpbcmlnjiocmoaaGreatDoorR
namespace Go.Proofs.YtpbcmlnjiocmoaaGreatDoorR
open Go.RowKit Go.Proofs.Lexi
def PureP (w : World) (v : Value) (e : Ending) (w' : World) : Prop := e = .returned v ∧ ∃ n, w' = w.drewN n
theorem below_num0 (w : World) (o : Obj) : Below w.heap.size w (w.alloc o) := (Below.refl _ _).alloc (Nat.le_refl _) o
def BoolPost (w : World) (b : Bool) (e : Ending) (w' : World) : Prop := e = .returned (.bool b) ∧ Below w.heap.size w w'
def IntPost (w : World) (v : Int) (e : Ending) (w' : World) : Prop := e = .returned (.int .i64 v) ∧ Below w.heap.size w w'
theorem bool_done {w w' : World} {b c : Bool} (h : c = b) (hb : Below w.heap.size w w') : BoolPost w b (.returned (.bool c)) w' := by subst h; exact ⟨rfl, hb⟩
theorem int_done {w w' : World} {v u : Int} (h : u = v) (hb : Below w.heap.size w w') : IntPost w v (.returned (.int .i64 u)) w' := by subst h; exact ⟨rfl, hb⟩
theorem validN_bad {p q : Int} (h : q < 1 ∨ 2147483647 < q ∨ p < -2147483647 ∨ 2147483647 < p) : validN (p, q) = false := by
  cases hv : validN (p, q) with
  | false => rfl
  | true => have := validN_bounds hv; simp only [] at this; omega
theorem validN_good {p q : Int} (h1 : 1 ≤ q) (h2 : q ≤ 2147483647) (h3 : -2147483647 ≤ p) (h4 : p ≤ 2147483647) {D : Nat} (hD : Nat.gcd p.natAbs q.natAbs = D) : validN (p, q) = ((D : Int) == 1) := by
  rw [Bool.eq_iff_iff, validN_iff]
  simp only [beq_iff_eq]
  have e : Int.gcd p q = D := hD
  constructor
  · intro h; have := h.2.2.2.2; omega
  · intro h; exact ⟨h1, h2, h3, h4, by rw [e]; omega⟩
end Go.Proofs.YtpbcmlnjiocmoaaGreatDoorR
namespace Go.Proofs
open Go.Shelf
def Tryz.lays170_ren : Go.Shelf.Ren := ⟨fun | 170 => 59 | n => n, fun | 70 => 72 | 3 => 3 | 0 => 0 | 72 => 74 | 37 => 39 | 5 => 5 | n => n, fun | n => n⟩
theorem Tryz.lays170 : Go.Proofs.Lays.n170 Tryz.prog Tryz.lays170_ren := {
  mixed := by kernel_rfl
  f170 := Tryz.func59.trans (congrArg some (by kernel_rfl))
  t0 := Tryz.underlying0
  a0 := Tryz.isAgg0
  z0 := Tryz.sizeOf0
  v0 := Tryz.zeroValue0
  t3 := Tryz.underlying3
  a3 := Tryz.isAgg3
  z3 := Tryz.sizeOf3
  v3 := Tryz.zeroValue3
  t37 := Tryz.underlying39
  a37 := Tryz.isAgg39
  z37 := Tryz.sizeOf39
  v37 := Tryz.zeroValue39
  t70 := Tryz.underlying72
  a70 := Tryz.isAgg72
  z70 := Tryz.sizeOf72
  v70 := Tryz.zeroValue72
  t72 := Tryz.underlying74
  a72 := Tryz.isAgg74
  z72 := Tryz.sizeOf74
  v72 := Tryz.zeroValue74 }
def Tryz.lays169_ren : Go.Shelf.Ren := ⟨fun | 169 => 35 | n => n, fun | 70 => 72 | 9 => 9 | 0 => 0 | 72 => 74 | 37 => 39 | 127 => 118 | 3 => 3 | 5 => 5 | n => n, fun | n => n⟩
theorem Tryz.lays169 : Go.Proofs.Lays.n169 Tryz.prog Tryz.lays169_ren := {
  mixed := by kernel_rfl
  f169 := Tryz.func35.trans (congrArg some (by kernel_rfl))
  t0 := Tryz.underlying0
  a0 := Tryz.isAgg0
  z0 := Tryz.sizeOf0
  v0 := Tryz.zeroValue0
  t3 := Tryz.underlying3
  a3 := Tryz.isAgg3
  z3 := Tryz.sizeOf3
  v3 := Tryz.zeroValue3
  t9 := Tryz.underlying9
  a9 := Tryz.isAgg9
  z9 := Tryz.sizeOf9
  v9 := Tryz.zeroValue9
  t37 := Tryz.underlying39
  a37 := Tryz.isAgg39
  z37 := Tryz.sizeOf39
  v37 := Tryz.zeroValue39
  t70 := Tryz.underlying72
  a70 := Tryz.isAgg72
  z70 := Tryz.sizeOf72
  v70 := Tryz.zeroValue72
  t72 := Tryz.underlying74
  a72 := Tryz.isAgg74
  z72 := Tryz.sizeOf74
  v72 := Tryz.zeroValue74
  t127 := Tryz.underlying118
  a127 := Tryz.isAgg118
  z127 := Tryz.sizeOf118
  v127 := Tryz.zeroValue118 }
theorem Tryz.Builder_Extra_169 : Builder.Extra Tryz.prog Tryz.lays169_ren := {
  sizeBuilder := by kernel_rfl
  liesBuilder := by kernel_rfl
  t5 := Tryz.underlying5
  a5 := Tryz.isAgg5
  z5 := Tryz.sizeOf5
  v5 := Tryz.zeroValue5
  infoByte := by kernel_rfl
  cellsByte := by kernel_rfl
  sizeByte := by kernel_rfl
  neB5 := by decide }
def Tryz.laysM171_ren : Go.Shelf.Ren := ⟨fun | 171 => 58 | 243 => 89 | 246 => 103 | 283 => 108 | 284 => 109 | 285 => 110 | 286 => 111 | 129 => 119 | 317 => 118 | 318 => 120 | 319 => 121 | 320 => 122 | 337 => 135 | 338 => 136 | n => n, fun | 3 => 3 | 9 => 9 | 2 => 2 | 4 => 4 | 171 => 159 | 0 => 0 | 53 => 160 | 37 => 39 | 5 => 5 | 173 => 163 | 212 => 171 | 51 => 172 | 20 => 20 | 213 => 173 | 46 => 174 | 232 => 192 | 233 => 193 | n => n, fun | 17 => 1 | 18 => 2 | 19 => 3 | n => n⟩
theorem Tryz.laysM171 : Go.Proofs.LaysM.n171 Tryz.prog Tryz.laysM171_ren := {
  mixed := by kernel_rfl
  f129 := Tryz.func119.trans (congrArg some (by kernel_rfl))
  f171 := Tryz.func58.trans (congrArg some (by kernel_rfl))
  f243 := Tryz.func89.trans (congrArg some (by kernel_rfl))
  f246 := Tryz.func103.trans (congrArg some (by kernel_rfl))
  f283 := Tryz.func108.trans (congrArg some (by kernel_rfl))
  f284 := Tryz.func109.trans (congrArg some (by kernel_rfl))
  f285 := Tryz.func110.trans (congrArg some (by kernel_rfl))
  f286 := Tryz.func111.trans (congrArg some (by kernel_rfl))
  f317 := Tryz.func118.trans (congrArg some (by kernel_rfl))
  f318 := Tryz.func120.trans (congrArg some (by kernel_rfl))
  f319 := Tryz.func121.trans (congrArg some (by kernel_rfl))
  f320 := Tryz.func122.trans (congrArg some (by kernel_rfl))
  f337 := Tryz.func135.trans (congrArg some (by kernel_rfl))
  f338 := Tryz.func136.trans (congrArg some (by kernel_rfl))
  t0 := Tryz.underlying0
  a0 := Tryz.isAgg0
  z0 := Tryz.sizeOf0
  v0 := Tryz.zeroValue0
  t2 := Tryz.underlying2
  a2 := Tryz.isAgg2
  z2 := Tryz.sizeOf2
  v2 := Tryz.zeroValue2
  t3 := Tryz.underlying3
  a3 := Tryz.isAgg3
  z3 := Tryz.sizeOf3
  v3 := Tryz.zeroValue3
  t4 := Tryz.underlying4
  a4 := Tryz.isAgg4
  z4 := Tryz.sizeOf4
  v4 := Tryz.zeroValue4
  t5 := Tryz.underlying5
  a5 := Tryz.isAgg5
  z5 := Tryz.sizeOf5
  v5 := Tryz.zeroValue5
  t9 := Tryz.underlying9
  a9 := Tryz.isAgg9
  z9 := Tryz.sizeOf9
  v9 := Tryz.zeroValue9
  t20 := Tryz.underlying20
  a20 := Tryz.isAgg20
  z20 := Tryz.sizeOf20
  v20 := Tryz.zeroValue20
  t37 := Tryz.underlying39
  a37 := Tryz.isAgg39
  z37 := Tryz.sizeOf39
  v37 := Tryz.zeroValue39
  t46 := Tryz.underlying174
  a46 := Tryz.isAgg174
  z46 := Tryz.sizeOf174
  v46 := Tryz.zeroValue174
  t51 := Tryz.underlying172
  a51 := Tryz.isAgg172
  z51 := Tryz.sizeOf172
  v51 := Tryz.zeroValue172
  t53 := Tryz.underlying160
  a53 := Tryz.isAgg160
  z53 := Tryz.sizeOf160
  v53 := Tryz.zeroValue160
  t171 := Tryz.underlying159
  a171 := Tryz.isAgg159
  z171 := Tryz.sizeOf159
  v171 := Tryz.zeroValue159
  t173 := Tryz.underlying163
  a173 := Tryz.isAgg163
  z173 := Tryz.sizeOf163
  v173 := Tryz.zeroValue163
  t212 := Tryz.underlying171
  a212 := Tryz.isAgg171
  z212 := Tryz.sizeOf171
  v212 := Tryz.zeroValue171
  t213 := Tryz.underlying173
  a213 := Tryz.isAgg173
  z213 := Tryz.sizeOf173
  t232 := Tryz.underlying192
  a232 := Tryz.isAgg192
  z232 := Tryz.sizeOf192
  v232 := Tryz.zeroValue192
  t233 := Tryz.underlying193
  a233 := Tryz.isAgg193
  z233 := Tryz.sizeOf193
  v233 := Tryz.zeroValue193
  g17 := by kernel_rfl
  g18 := by kernel_rfl
  g19 := by kernel_rfl
  i0 := by kernel_rfl
  i2 := by kernel_rfl
  i3 := by kernel_rfl
  i4 := by kernel_rfl
  i5 := by kernel_rfl
  i9 := by kernel_rfl
  i20 := by kernel_rfl
  i37 := by kernel_rfl
  i46 := by kernel_rfl
  i51 := by kernel_rfl
  i53 := by kernel_rfl
  i171 := by kernel_rfl
  i173 := by kernel_rfl
  i212 := by kernel_rfl
  i232 := by kernel_rfl
  i233 := by kernel_rfl
  m17 := by kernel_rfl
  m18 := by kernel_rfl
  m19 := by kernel_rfl }
def Tryz.lays101_ren : Go.Shelf.Ren := ⟨fun | 101 => 24 | 208 => 47 | 206 => 84 | n => n, fun | 9 => 9 | 4 => 4 | 3 => 3 | n => n, fun | n => n⟩
theorem Tryz.lays101 : Go.Proofs.Lays.n101 Tryz.prog Tryz.lays101_ren := {
  mixed := by kernel_rfl
  f101 := Tryz.func24.trans (congrArg some (by kernel_rfl))
  f206 := Tryz.func84.trans (congrArg some (by kernel_rfl))
  f208 := Tryz.func47.trans (congrArg some (by kernel_rfl))
  t3 := Tryz.underlying3
  a3 := Tryz.isAgg3
  z3 := Tryz.sizeOf3
  v3 := Tryz.zeroValue3
  t4 := Tryz.underlying4
  a4 := Tryz.isAgg4
  z4 := Tryz.sizeOf4
  v4 := Tryz.zeroValue4
  t9 := Tryz.underlying9
  a9 := Tryz.isAgg9
  z9 := Tryz.sizeOf9
  v9 := Tryz.zeroValue9 }
end Go.Proofs
namespace Go.Proofs.YtpbcmlnjiocmoaaGreatDoorR
open Go.RowKit Go.Proofs.Lexi
abbrev o2 (p q : Int) : Obj := .cells #[.int .i64 p, .int .i64 q] 28
theorem add_run (a b : ByteArray) (h : a.size + b.size ≤ 9223372036854775807) (w : World) : (Op.stringOp .add a b).run Tryz.prog w = .ok (.string (a ++ b)) w := by
  first | exact run_string_add_sum a b h | exact run_string_add_sum w a b h
end Go.Proofs.YtpbcmlnjiocmoaaGreatDoorR
namespace Go.Proofs.YtpbcmlnjiocmoaaGreatDoorR
open Go.RowKit
theorem cell_alloc_old {w : World} {o : Obj} {b k : Nat} (h : b < w.heap.size) : (w.alloc o).cell? ⟨b, k, none⟩ = w.cell? ⟨b, k, none⟩ := World.cell?_of_block (Below.heap_alloc w o b h)
end Go.Proofs.YtpbcmlnjiocmoaaGreatDoorR
namespace Go.Proofs.YtpbcmlnjiocmoaaGreatDoorR
open Go.RowKit Go.Proofs.Lexi
def Pow10 (w : World) : Prop := Lib.TabIs Tryz.prog w "internal/strconv.uint64pow10" .u64 Lib.pow10Tab
theorem pow10_glob : (Tryz.prog.globalNamed "internal/strconv.uint64pow10").isSome = true := by kernel_rfl
theorem Pow10.stays {w w' : World} (h : Pow10 w) (hb : Below w.heap.size w w') : Pow10 w' := by
  obtain ⟨g, hg⟩ := Option.isSome_iff_exists.1 pow10_glob
  exact Joins.tab_stays hg h hb (Nat.le_refl _)
theorem below_growN (w : World) (k : Nat) (os : Array Obj) : Below w.heap.size w (Sort.grow (w.drewN k) os) := by
  have h := bdn (Below.refl w.heap.size w) k
  have hs := h.size
  refine ⟨h.os, h.tape, h.output, ?_, fun i hi => ?_⟩
  · show w.heap.size ≤ ((w.drewN k).heap ++ os).size
    rw [Array.size_append]; omega
  · show ((w.drewN k).heap ++ os)[i]? = _
    rw [Array.getElem?_append_left (by omega)]
    exact h.block i hi
theorem toList_size (s : ByteArray) : s.toList = [] ↔ s.size = 0 := by
  constructor
  · intro h
    rcases Nat.eq_zero_or_pos s.size with h0 | h0
    · exact h0
    · exact absurd h (toList_ne h0)
  · exact toList_nil
theorem sz_le (n : Nat) : ((n : Int) ≤ 4096) = (n ≤ 4096) := propext ⟨fun h => by omega, fun h => by omega⟩
theorem sz_ge (n : Nat) : ((1 : Int) ≤ (n : Int)) = (1 ≤ n) := propext ⟨fun h => by omega, fun h => by omega⟩
theorem sz_lt (n : Nat) : ((4096 : Int) < (n : Int)) = (4096 < n) := propext ⟨fun h => by omega, fun h => by omega⟩
theorem sz_lt1 (n : Nat) : ((n : Int) < 1) = (n < 1) := propext ⟨fun h => by omega, fun h => by omega⟩
end Go.Proofs.YtpbcmlnjiocmoaaGreatDoorR
