/- One sentence: a region that draws its order may be walked in the order of its text, if a closed check on its operations holds and the values of a few operands are plain at its end. -/
import Derived.Tactics
import Derived.Orders
import Derived.Laws.Sem
import Derived.Laws.Panics
import Derived.WalkKit
namespace Go.Proofs.Lexi
open Go

section
variable {P : Program}

/-- W has all blocks of w, unchanged. -/
structure Ext (w W : World) : Prop where
  size : w.heap.size ≤ W.heap.size
  block : ∀ k, k < w.heap.size → W.heap[k]? = w.heap[k]?

theorem Ext.refl (w : World) : Ext w w := ⟨Nat.le_refl _, fun _ _ => rfl⟩
theorem Ext.trans {a b c : World} (h : Ext a b) (k : Ext b c) : Ext a c :=
  ⟨Nat.le_trans h.size k.size, fun i hi => (k.block i (Nat.lt_of_lt_of_le hi h.size)).trans (h.block i hi)⟩

def Pureish {α : Type} (P : Program) (s : Sem α) : Prop := ∀ w x w', s.run P w = .ok x w' → w' = w ∧ ∀ W, s.run P W = .ok x W
def Readish {α : Type} (P : Program) (s : Sem α) : Prop := ∀ w x w', s.run P w = .ok x w' → w' = w ∧ ∀ W, Ext w W → s.run P W = .ok x W
def Newish {α : Type} (P : Program) (s : Sem α) : Prop := ∀ w x w', s.run P w = .ok x w' → Ext w w'

theorem Pureish.read {α : Type} {s : Sem α} (h : Pureish P s) : Readish P s := fun w x w' e => ⟨(h w x w' e).1, fun W _ => (h w x w' e).2 W⟩
theorem Readish.new {α : Type} {s : Sem α} (h : Readish P s) : Newish P s := fun w x w' e => by rw [(h w x w' e).1]; exact Ext.refl _

theorem Pureish.pure {α : Type} (a : α) : Pureish P (Pure.pure a : Sem α) := fun w x w' e => by
  simp only [Sem.run_pure] at e; injection e with e1 e2; subst e1; subst e2; exact ⟨rfl, fun _ => by simp⟩
theorem Pureish.pure' {α : Type} (a : α) : Pureish P (Sem.pure a : Sem α) := Pureish.pure a
theorem Pureish.bind {α β : Type} {s : Sem α} {f : α → Sem β} (h : Pureish P s) (hf : ∀ a, Pureish P (f a)) : Pureish P (s >>= f) := fun w x w' e => by
  rw [Sem.run_bind] at e
  cases hs : s.run P w with
  | halt h w1 => rw [hs] at e; cases e
  | ok a w1 =>
    rw [hs] at e
    obtain ⟨rfl, h1⟩ := h _ _ _ hs
    obtain ⟨h2, h3⟩ := hf a _ _ _ e
    exact ⟨h2, fun W => by rw [Sem.run_bind, h1 W]; exact h3 W⟩
theorem Readish.bind {α β : Type} {s : Sem α} {f : α → Sem β} (h : Readish P s) (hf : ∀ a, Readish P (f a)) : Readish P (s >>= f) := fun w x w' e => by
  rw [Sem.run_bind] at e
  cases hs : s.run P w with
  | halt h w1 => rw [hs] at e; cases e
  | ok a w1 =>
    rw [hs] at e
    obtain ⟨rfl, h1⟩ := h _ _ _ hs
    obtain ⟨h2, h3⟩ := hf a _ _ _ e
    exact ⟨h2, fun W hW => by rw [Sem.run_bind, h1 W hW]; exact h3 W hW⟩
theorem Newish.bind {α β : Type} {s : Sem α} {f : α → Sem β} (h : Newish P s) (hf : ∀ a, Newish P (f a)) : Newish P (s >>= f) := fun w x w' e => by
  rw [Sem.run_bind] at e
  cases hs : s.run P w with
  | halt h w1 => rw [hs] at e; cases e
  | ok a w1 => rw [hs] at e; exact (h _ _ _ hs).trans (hf a _ _ _ e)
/-- Whatever never succeeds. -/
theorem Pureish.never {α : Type} {s : Sem α} (h : ∀ w, ∃ x w', s.run P w = .halt x w') : Pureish P s := fun w x w' e => by
  obtain ⟨_, _, h⟩ := h w; rw [h] at e; cases e
theorem Pureish.halt {α : Type} (h : Halt) : Pureish P (Sem.halt h : Sem α) := Pureish.never fun w => ⟨h, w, rfl⟩
theorem Pureish.stuck {α : Type} (h : String) : Pureish P (Go.stuck h : Sem α) := Pureish.halt _
theorem Pureish.unsupported {α : Type} (h : Unsupported) : Pureish P (Go.unsupported h : Sem α) := Pureish.halt _
theorem Pureish.boundsPanic {α : Type} (k : IntKind) (x y : Int) (c : BoundsCode) : Pureish P (boundsPanic k x y c : Sem α) :=
  Pureish.never fun w => by obtain ⟨s, w', h⟩ := run_boundsPanic (P := P) (w := w) (α := α) k x y c; exact ⟨_, _, h⟩
theorem Pureish.program : Pureish P Go.program := fun w x w' e => by
  simp only [Go.program, Sem.run] at e
  injection e with e1 e2; subst e1; subst e2; exact ⟨rfl, fun _ => rfl⟩
theorem Pureish.ite {α : Type} {c : Prop} [Decidable c] {s t : Sem α} (h : Pureish P s) (k : Pureish P t) : Pureish P (if c then s else t) := by split <;> assumption
theorem Pureish.underlying (t : TypeId) : Pureish P (Go.underlying t) := by
  unfold Go.underlying
  refine Pureish.bind Pureish.program fun p => ?_
  split
  · exact Pureish.pure _
  · exact Pureish.stuck _
theorem Pureish.typeInfo (t : TypeId) : Pureish P (Go.typeInfo t) := by
  unfold Go.typeInfo
  refine Pureish.bind Pureish.program fun p => ?_
  split
  · exact Pureish.pure _
  · exact Pureish.stuck _
theorem Pureish.sizeOf (t : TypeId) : Pureish P (Go.sizeOf t) := by
  unfold Go.sizeOf
  exact Pureish.bind (Pureish.typeInfo t) fun _ => Pureish.pure _
theorem Pureish.isAgg (t : TypeId) : Pureish P (Go.isAgg t) := by
  unfold Go.isAgg
  refine Pureish.bind (Pureish.underlying t) fun d => ?_
  split <;> exact Pureish.pure _
theorem Pureish.zeroValue (t : TypeId) : Pureish P (Go.zeroValue t) := by
  unfold Go.zeroValue
  refine Pureish.bind (Pureish.typeInfo t) fun d => ?_
  split
  · exact Pureish.pure _
  · exact Pureish.unsupported _
theorem Pureish.part (t : TypeId) (cs : Array Value) (off : Nat) : Pureish P (Go.part t cs off) := by
  unfold Go.part
  refine Pureish.bind (Pureish.isAgg t) fun b => ?_
  split
  · exact Pureish.bind (Pureish.sizeOf t) fun _ => Pureish.pure _
  · split
    · exact Pureish.pure _
    · exact Pureish.stuck _
theorem Pureish.asIntOf (v : Value) : Pureish P (Go.asIntOf v) := by
  unfold Go.asIntOf
  split <;> first | exact Pureish.pure _ | exact Pureish.stuck _ | exact Pureish.unsupported _
theorem Pureish.asInt (v : Value) : Pureish P (Go.asInt v) := by
  unfold Go.asInt
  exact Pureish.bind (Pureish.asIntOf v) fun _ => Pureish.pure _
theorem Pureish.asBool (v : Value) : Pureish P (Go.asBool v) := by
  unfold Go.asBool
  split <;> first | exact Pureish.pure _ | exact Pureish.stuck _ | exact Pureish.unsupported _
theorem Pureish.asAgg (v : Value) : Pureish P (Go.asAgg v) := by
  unfold Go.asAgg
  split <;> first | exact Pureish.pure _ | exact Pureish.stuck _ | exact Pureish.unsupported _
theorem Pureish.sureAddr (v : Value) : Pureish P (Instr.sureAddr v) := by
  unfold Instr.sureAddr
  split <;> first | exact Pureish.pure _ | exact Pureish.stuck _
def Never {α : Type} (P : Program) (s : Sem α) : Prop := ∀ w, ∃ x w', s.run P w = .halt x w'
theorem Never.bind {α β : Type} (s : Sem α) {f : α → Sem β} (hf : ∀ a, Never P (f a)) : Never P (s >>= f) := fun w => by
  rw [Sem.run_bind]
  cases hs : s.run P w with
  | halt h w1 => exact ⟨h, w1, rfl⟩
  | ok a w1 => exact hf a w1
theorem Never.goPanic {α : Type} (v : Value) : Never P (Go.goPanic v : Sem α) := fun w => ⟨_, w, rfl⟩
theorem Pureish.runtimePanic {α : Type} (e : RuntimeError) : Pureish P (Go.runtimePanic e : Sem α) := by
  refine Pureish.never ?_
  unfold Go.runtimePanic
  refine Never.bind _ fun p => ?_
  cases e <;> dsimp only <;> first | exact Never.goPanic _ | exact Never.bind _ fun _ => Never.bind _ fun _ => Never.goPanic _
theorem Pureish.asAddr (v : Value) : Pureish P (Go.asAddr v) := by
  unfold Go.asAddr
  split <;> first | exact Pureish.pure _ | exact Pureish.stuck _ | exact Pureish.runtimePanic _
theorem Pureish.sliceBound (x : Value) (y : Nat) (c : BoundsCode) : Pureish P (Instr.sliceBound x y c) := by
  unfold Instr.sliceBound
  refine Pureish.bind (Pureish.asIntOf x) fun p => ?_
  exact Pureish.ite (Pureish.pure _) (Pureish.boundsPanic _ _ _ _)
theorem Pureish.sliceBounds (b : Bool) (l c : Nat) (lo hi mx : Option Value) : Pureish P (Instr.sliceBounds b l c lo hi mx) := by
  unfold Instr.sliceBounds
  cases mx <;> cases hi <;> cases lo <;> dsimp only <;>
    repeat' (first | exact Pureish.pure _ | exact Pureish.stuck _ | exact Pureish.sliceBound _ _ _ | refine Pureish.bind ?_ (fun _ => ?_))
theorem Pureish.slice (t : TypeId) (x : Value) (lo hi mx : Option Value) : Pureish P (Instr.slice t x lo hi mx) := by
  unfold Instr.slice
  refine Pureish.bind (Pureish.underlying t) fun d => ?_
  split
  · refine Pureish.ite (Pureish.bind (Pureish.stuck _) fun _ => ?_) ?_
    all_goals exact Pureish.bind (Pureish.sliceBounds _ _ _ _ _ _) fun _ => Pureish.pure _
  · exact Pureish.bind (Pureish.sliceBounds _ _ _ _ _ _) fun _ => Pureish.bind (Pureish.sizeOf _) fun _ => Pureish.pure _
  · refine Pureish.bind (Pureish.asAddr _) fun _ => Pureish.bind (Pureish.underlying _) fun _ => ?_
    split
    · exact Pureish.bind (Pureish.sliceBounds _ _ _ _ _ _) fun _ => Pureish.bind (Pureish.sizeOf _) fun _ => Pureish.pure _
    · exact Pureish.stuck _
  · exact Pureish.stuck _
theorem Pureish.sliceAt (t : TypeId) (x : Value) (lo hi mx : Option Value) : Pureish P (Instr.sliceAt t x lo hi mx) := by
  unfold Instr.sliceAt
  refine Pureish.bind (Pureish.underlying t) fun d => ?_
  split
  · exact Pureish.bind (Pureish.sureAddr _) fun _ => Pureish.bind (Pureish.sliceBounds _ _ _ _ _ _) fun _ => Pureish.bind (Pureish.sizeOf _) fun _ => Pureish.pure _
  · exact Pureish.slice _ _ _ _ _
theorem Pureish.indexAt (t : TypeId) (x i : Value) : Pureish P (Instr.indexAt t x i) := by
  unfold Instr.indexAt
  dsimp only
  repeat' (first | exact Pureish.pure _ | exact Pureish.stuck _ | exact Pureish.unsupported _ | exact Pureish.boundsPanic _ _ _ _ | exact Pureish.underlying _ | exact Pureish.sizeOf _ | exact Pureish.asIntOf _ | exact Pureish.sureAddr _ | refine Pureish.bind ?_ (fun _ => ?_) | refine Pureish.ite ?_ ?_ | split)
theorem Pureish.index (t : TypeId) (x i : Value) : Pureish P (Instr.index t x i) := by
  unfold Instr.index
  refine Pureish.bind (Pureish.asIntOf _) fun p => Pureish.bind (Pureish.underlying t) fun d => ?_
  split
  · exact Pureish.ite (Pureish.bind (Pureish.sizeOf _) fun _ => Pureish.part _ _ _) (Pureish.boundsPanic _ _ _ _)
  · split
    · exact Pureish.pure _
    · exact Pureish.boundsPanic _ _ _ _
  · exact Pureish.stuck _
theorem Pureish.field (t : TypeId) (x : Value) (i : Nat) : Pureish P (Instr.field t x i) := by
  unfold Instr.field
  refine Pureish.bind (Pureish.underlying t) fun d => ?_
  split
  · split
    · exact Pureish.bind (Pureish.asAgg _) fun _ => Pureish.part _ _ _
    · exact Pureish.stuck _
  · exact Pureish.stuck _
theorem Pureish.extract (t : Value) (i : Nat) : Pureish P (Instr.extract t i) := by
  unfold Instr.extract
  split
  · split
    · exact Pureish.pure _
    · exact Pureish.stuck _
  · exact Pureish.stuck _

/-- No part of size nought among the fields that are named. -/
def fieldOK (P : Program) (s : TypeId) (f : Nat) : Bool :=
  match P.underlying s with
  | some (.struct fields) => (fields[f]?).all fun fd => (P.info? fd.type).all fun i => i.size != 0
  | _ => true
theorem Pureish.fieldAt (s : TypeId) (x : Value) (f : Nat) (h : fieldOK P s f = true) : Pureish P (Instr.fieldAt s x f) := by
  intro w v w' e
  unfold Instr.fieldAt at e ⊢
  simp only [Sem.run_bind, Go.underlying, Go.program] at e ⊢
  simp only [Sem.run, Result.andThen_ok] at e ⊢
  unfold fieldOK at h
  cases hu : P.underlying s with
  | none => rw [hu] at e; simp [Go.stuck] at e
  | some d =>
    rw [hu] at e h
    simp only [Sem.run_pure, Result.andThen_ok] at e ⊢
    cases d <;> simp only [] at e h ⊢ <;> try (simp [Go.stuck] at e; done)
    rename_i fields
    cases hf : fields[f]? with
    | none => rw [hf] at e; simp [Go.stuck] at e
    | some fd =>
      rw [hf] at e h
      simp only [Option.all_some] at h
      simp only [Sem.run_bind] at e ⊢
      cases x with
      | pointer p =>
        cases p with
        | none => simp [Instr.sureAddr, Go.stuck] at e
        | some a =>
          simp only [Instr.sureAddr, Sem.run_pure, Result.andThen_ok, fieldPlace, Go.sizeOf, Go.typeInfo, Go.program, Sem.run_bind, Sem.run] at e ⊢
          cases hi : P.info? fd.type with
          | none => rw [hi] at e; simp [Go.stuck] at e
          | some i =>
            rw [hi] at e h
            simp only [Option.all_some, bne_iff_ne] at h
            simp only [Sem.run_pure, Result.andThen_ok, if_neg h] at e ⊢
            injection e with e1 e2
            subst e1; subst e2
            exact ⟨rfl, fun _ => rfl⟩
      | _ => simp [Instr.sureAddr, Go.stuck] at e

theorem Pureish.build (t : TypeId) (ps : Array (Nat × Value)) : Pureish P (Instr.build t ps) := by
  unfold Instr.build
  refine Pureish.bind (Pureish.zeroValue _) fun z => Pureish.bind (Pureish.underlying _) fun d => ?_
  split
  · refine Pureish.bind ?_ fun _ => ?_
    · rename_i fields
      have key : ∀ (l : List Field) (acc : Array (Nat × Nat)), Pureish P (l.foldlM (init := acc) fun bs a => bs.push <$> (do let s ← Go.sizeOf a.type; Pure.pure (a.offset, s))) := by
        intro l
        induction l with
        | nil => intro acc; exact Pureish.pure _
        | cons x xs ih =>
          intro acc
          rw [List.foldlM_cons]
          refine Pureish.bind ?_ fun _ => ih _
          rw [← bind_pure_comp]
          exact Pureish.bind (Pureish.bind (Pureish.sizeOf _) fun _ => Pureish.pure _) fun _ => Pureish.pure _
      have := key fields.toList #[]
      rw [Array.mapM_eq_foldlM]
      simpa using this
    · split
      · exact Pureish.pure _
      · exact Pureish.stuck _
  · refine Pureish.bind (Pureish.sizeOf _) fun _ => ?_
    split
    · exact Pureish.pure _
    · exact Pureish.stuck _
  · exact Pureish.stuck _

/-- Operands of a comparison or a sum that name no memory. -/
def plainPair : Value → Value → Bool
  | .int .., .int .. | .string _, .string _ | .bool _, .bool _ => true
  | .pointer none, .pointer _ | .pointer _, .pointer none => true
  | .slice none .., .slice .. | .slice .., .slice none .. => true
  | .nilFunc, .nilFunc | .nilFunc, .func .. | .func .., .nilFunc => true
  | .map none, .map _ | .map _, .map none => true
  | .nilIface, .iface .. | .iface .., .nilIface => true
  | _, _ => false
theorem opt_cases {α : Type} (a : Option α) : a = none ∨ ∃ x, a = some x := by cases a <;> simp
theorem plain_cases {x y : Value} (h : plainPair x y = true) :
    (∃ k a k' b, x = .int k a ∧ y = .int k' b) ∨
    (∃ a b, x = .string a ∧ y = .string b) ∨
    (∃ a b, x = .bool a ∧ y = .bool b) ∨
    (x = .pointer none ∧ y = .pointer none) ∨
    (∃ a, x = .pointer none ∧ y = .pointer (some a)) ∨
    (∃ a, x = .pointer (some a) ∧ y = .pointer none) ∨
    (∃ l c l' c', x = .slice none l c ∧ y = .slice none l' c') ∨
    (∃ l c a l' c', x = .slice none l c ∧ y = .slice (some a) l' c') ∨
    (∃ a l c l' c', x = .slice (some a) l c ∧ y = .slice none l' c') ∨
    (x = .nilFunc ∧ y = .nilFunc) ∨
    (∃ f a b, x = .nilFunc ∧ y = .func f a b) ∨
    (∃ f a b, x = .func f a b ∧ y = .nilFunc) ∨
    (x = .map none ∧ y = .map none) ∨
    (∃ a, x = .map none ∧ y = .map (some a)) ∨
    (∃ a, x = .map (some a) ∧ y = .map none) ∨
    (∃ t v, x = .nilIface ∧ y = .iface t v) ∨
    (∃ t v, x = .iface t v ∧ y = .nilIface) := by
  unfold plainPair at h
  split at h <;> first | (cases h; done) | (simp; done) | (simp; exact opt_cases _)
theorem Pureish.equalIn (d : Nat) (t : TypeId) (x y : Value) (h : plainPair x y = true) : Pureish P (Op.equalIn (d + 1) t x y) := by
  unfold Op.equalIn
  refine Pureish.bind (Pureish.underlying t) fun u => ?_
  rcases plain_cases h with ⟨k, a, k', b, rfl, rfl⟩ | ⟨a, b, rfl, rfl⟩ | ⟨a, b, rfl, rfl⟩ | ⟨rfl, rfl⟩ | ⟨a, rfl, rfl⟩ | ⟨a, rfl, rfl⟩ | ⟨l, c, l', c', rfl, rfl⟩ | ⟨l, c, a, l', c', rfl, rfl⟩ | ⟨a, l, c, l', c', rfl, rfl⟩ | ⟨rfl, rfl⟩ | ⟨f, a, b, rfl, rfl⟩ | ⟨f, a, b, rfl, rfl⟩ | ⟨rfl, rfl⟩ | ⟨a, rfl, rfl⟩ | ⟨a, rfl, rfl⟩ | ⟨t, v, rfl, rfl⟩ | ⟨t, v, rfl, rfl⟩
  all_goals
    cases u <;> dsimp only <;> repeat' (first | exact Pureish.pure _ | exact Pureish.stuck _ | exact Pureish.unsupported _ | exact Pureish.runtimePanic _ | refine Pureish.ite ?_ ?_ | split)
theorem Pureish.equal (t : TypeId) (x y : Value) (h : plainPair x y = true) : Pureish P (Op.equal t x y) := Pureish.equalIn 9999 t x y h
theorem Pureish.binOp (op : BinOp) (t : TypeId) (x y : Value) (h : plainPair x y = true) : Pureish P (Go.binOp op t x y) := by
  have he := Pureish.equal (P := P) t x y h
  have e1 : Pureish P (do Pure.pure (Value.bool (← Op.equal t x y))) := Pureish.bind he fun _ => Pureish.pure _
  have e2 : Pureish P (do Pure.pure (Value.bool (!(← Op.equal t x y)))) := Pureish.bind he fun _ => Pureish.pure _
  rcases plain_cases h with ⟨k, a, k', b, rfl, rfl⟩ | ⟨a, b, rfl, rfl⟩ | ⟨a, b, rfl, rfl⟩ | ⟨rfl, rfl⟩ | ⟨a, rfl, rfl⟩ | ⟨a, rfl, rfl⟩ | ⟨l, c, l', c', rfl, rfl⟩ | ⟨l, c, a, l', c', rfl, rfl⟩ | ⟨a, l, c, l', c', rfl, rfl⟩ | ⟨rfl, rfl⟩ | ⟨f, a, b, rfl, rfl⟩ | ⟨f, a, b, rfl, rfl⟩ | ⟨rfl, rfl⟩ | ⟨a, rfl, rfl⟩ | ⟨a, rfl, rfl⟩ | ⟨t, v, rfl, rfl⟩ | ⟨t, v, rfl, rfl⟩
  all_goals
    unfold Go.binOp
    cases op <;> dsimp only [Op.shift, Op.intArith, Op.intDiv, Op.intBits, Op.intCmp, Op.stringOp] <;> first | exact e1 | exact e2 | (repeat' (first | exact Pureish.pure _ | exact Pureish.stuck _ | exact Pureish.unsupported _ | exact Pureish.runtimePanic _ | refine Pureish.ite ?_ ?_ | split))
theorem Pureish.eqGuard (op : BinOp) (t : TypeId) (x y : Operand) (a b : Value) (h : plainPair a b = true) : Pureish P (Go.eqGuard op t x y a b) := by
  unfold Go.eqGuard
  rcases plain_cases h with ⟨k, a, k', b, rfl, rfl⟩ | ⟨a, b, rfl, rfl⟩ | ⟨a, b, rfl, rfl⟩ | ⟨rfl, rfl⟩ | ⟨a, rfl, rfl⟩ | ⟨a, rfl, rfl⟩ | ⟨l, c, l', c', rfl, rfl⟩ | ⟨l, c, a, l', c', rfl, rfl⟩ | ⟨a, l, c, l', c', rfl, rfl⟩ | ⟨rfl, rfl⟩ | ⟨f, a, b, rfl, rfl⟩ | ⟨f, a, b, rfl, rfl⟩ | ⟨rfl, rfl⟩ | ⟨a, rfl, rfl⟩ | ⟨a, rfl, rfl⟩ | ⟨t, v, rfl, rfl⟩ | ⟨t, v, rfl, rfl⟩
  all_goals
    cases op <;> dsimp only <;> repeat' (first | exact Pureish.pure _ | exact Pureish.stuck _ | exact Pureish.unsupported _ | exact Pureish.runtimePanic _ | refine Pureish.ite ?_ ?_ | split)
theorem Pureish.unary (op : UnOp) (x : Value) : Pureish P (Op.unary op x) := by
  unfold Op.unary
  split <;> (try dsimp only [Op.intArith, Op.intBits]) <;> first | exact Pureish.pure _ | exact Pureish.unsupported _ | exact Pureish.stuck _
def plainLen : Value → Bool
  | .string _ | .slice .. => true
  | _ => false
theorem Pureish.len (ts : Array TypeId) (t : TypeId) (x : Value) (h : plainLen x = true) : Pureish P (Builtin.len_ ts t #[x]) := by
  unfold Builtin.len_
  cases x <;> first | (cases h; done) | skip
  all_goals
    split
    · refine Pureish.bind (Pureish.underlying _) fun u => ?_
      rename_i heq
      simp only [List.getElem?_toArray, List.length_cons, List.length_nil, Nat.zero_add, Nat.lt_add_one, getElem?_pos, List.getElem_cons_zero, Prod.mk.injEq, Option.some.injEq] at heq
      obtain ⟨_, rfl⟩ := heq
      cases u <;> dsimp only <;> repeat' (first | exact Pureish.pure _ | exact Pureish.stuck _ | exact Pureish.underlying _ | refine Pureish.bind ?_ (fun _ => ?_) | split)
    · exact Pureish.stuck _

theorem Ext.get {w W : World} (h : Ext w W) {b : Nat} {o : Obj} (e : w.heap[b]? = some o) : W.heap[b]? = some o := by
  rw [h.block b ((Array.getElem?_eq_some_iff.1 e).1)]; exact e
theorem seen_ext {w W : World} (h : Ext w W) {at_ k : Addr} {u : TypeId} {m : Bool} {r} (e : w.seen P at_ u k m = .ok r) : W.seen P at_ u k m = .ok r := by
  cases hb : w.heap[at_.block]? with
  | some o => unfold World.seen at e ⊢; rw [h.get hb]; rw [hb] at e; exact e
  | none =>
    exfalso
    unfold World.seen at e
    rw [hb] at e
    simp only [bind, Except.bind] at e
    repeat' (split at e <;> first | (cases e; done) | skip)
theorem viewLoad_ext {w W : World} (h : Ext w W) {at_ k : Addr} {u : TypeId} {m : Bool} {r} (e : w.viewLoad P at_ u k m = .ok r) : W.viewLoad P at_ u k m = .ok r := by
  unfold World.viewLoad at e ⊢
  cases hs : w.seen P at_ u k m with
  | error x => rw [hs] at e; cases e
  | ok r' => rw [seen_ext h hs]; rw [hs] at e; exact e
theorem Readish.load (a : Addr) (m : Mode) : Readish P (Go.load a m) := by
  intro w x w' e
  rw [run_load] at e
  cases hc : w.cell? a with
  | some v =>
    rw [hc] at e
    simp only [] at e
    injection e with e1 e2
    subst e1; subst e2
    refine ⟨rfl, fun W hW => ?_⟩
    have hb : ∃ o, w.heap[a.block]? = some o := by
      unfold World.cell? at hc
      cases h : w.heap[a.block]? with
      | none => rw [h] at hc; cases hc
      | some o => exact ⟨o, rfl⟩
    obtain ⟨o, ho⟩ := hb
    have : W.cell? a = some v := by rw [← hc]; unfold World.cell?; rw [ho, hW.get ho]
    rw [run_load, this]
  | none =>
    rw [hc] at e
    simp only [] at e
    cases hf : w.farLoad P a (m == .atomic) with
    | error x => rw [hf] at e; cases e
    | ok r =>
      rw [hf] at e
      obtain ⟨v, l⟩ := r
      simp only [] at e
      injection e with e1 e2
      subst e1; subst e2
      refine ⟨rfl, fun W hW => ?_⟩
      unfold World.farLoad at hf
      cases hb : w.heap[a.block]? with
      | none => rw [hb] at hf; cases hf
      | some o =>
        rw [hb] at hf
        have h1 : W.cell? a = none := by rw [← hc]; unfold World.cell?; rw [hb, hW.get hb]
        have h2 : W.farLoad P a (m == .atomic) = .ok (v, l) := by
          unfold World.farLoad
          rw [hW.get hb]
          cases o <;> first | (cases hf; done) | skip
          rename_i at_ u
          simp only [] at hf ⊢
          cases hv : w.viewLoad P at_ u a (m == .atomic) with
          | error y => rw [hv] at hf; cases hf
          | ok r => rw [hv] at hf; rw [viewLoad_ext hW hv]; exact hf
        rw [run_load, h1, h2]
theorem Readish.loadCellsFrom (a : Addr) : ∀ (n i : Nat) (acc : Array Value), Readish P (Go.loadCellsFrom a i n acc)
  | 0, _, _ => (Pureish.pure _).read
  | n + 1, i, acc => by
    unfold Go.loadCellsFrom
    exact Readish.bind (Readish.load _ _) fun v => Readish.loadCellsFrom a n (i + 1) _
theorem Readish.loadAt (t : TypeId) (v : Value) : Readish P (Instr.loadAt t v) := by
  unfold Instr.loadAt Go.loadVar
  refine Readish.bind (Pureish.sureAddr v).read fun a => Readish.bind (Pureish.isAgg t).read fun b => ?_
  split
  · exact Readish.bind (Pureish.sizeOf t).read fun n => Readish.bind (Readish.loadCellsFrom _ _ _ _) fun _ => (Pureish.pure _).read
  · exact Readish.load _ _
theorem Newish.newObj (o : Obj) : Newish P (Go.newObj o) := fun w x w' e => by
  simp only [Go.newObj, Sem.run] at e
  injection e with e1 e2
  subst e2
  refine ⟨by simp, fun k hk => ?_⟩
  show (w.heap.push o)[k]? = _
  rw [Array.getElem?_push, if_neg (by omega)]
theorem Newish.newRow (e : TypeId) (c : Array Value) : Newish P (Go.newRow e c) := by
  unfold Go.newRow
  exact Newish.bind (Newish.newObj _) fun _ => (Pureish.pure _).read.new
theorem Newish.alloc (e : TypeId) (v : Value) : Newish P (Instr.alloc e true v) := by
  unfold Instr.alloc
  refine Newish.bind (Pureish.zeroValue _).read.new fun z => ?_
  split
  · rename_i h; cases h
  · exact Newish.bind (Newish.newRow _ _) fun _ => (Pureish.pure _).read.new
theorem Newish.box (e : TypeId) (v : Value) : Newish P (Instr.box e v) := by
  unfold Instr.box
  exact Newish.bind (Newish.newRow _ _) fun _ => (Pureish.pure _).read.new
theorem Newish.buildSlice (t : TypeId) (n : Nat) (ps : Array (Nat × Value)) : Newish P (Instr.buildSlice t n ps) := by
  unfold Instr.buildSlice
  dsimp only
  repeat' (first | exact (Pureish.pure _).read.new | exact (Pureish.stuck _).read.new | exact (Pureish.unsupported _).read.new | exact (Pureish.underlying _).read.new | exact (Pureish.sizeOf _).read.new | exact (Pureish.zeroValue _).read.new | exact Newish.newRow _ _ | refine Newish.bind ?_ (fun _ => ?_) | split)
theorem Newish.askRoom (n : Nat) : Newish P (Go.askRoom n) := by
  unfold Go.askRoom
  split
  · intro w x w' e
    simp only [Go.mark, Sem.run] at e
    injection e with e1 e2
    subst e2; exact Ext.refl _
  · exact (Pureish.pure _).read.new
theorem Newish.choose (q : Question) : Newish P (Go.choose q) := fun w x w' e => by
  simp only [Go.choose, Sem.run] at e
  split at e
  · injection e with e1 e2; subst e2; exact Ext.refl _
  · injection e with e1 e2; subst e2; exact ⟨Nat.le_refl _, fun _ _ => rfl⟩
theorem Newish.makeSlice (t : TypeId) (l c : Value) : Newish P (Instr.makeSlice t l c) := by
  unfold Instr.makeSlice
  dsimp only
  repeat' (first | exact (Pureish.pure _).read.new | exact (Pureish.stuck _).read.new | exact (Pureish.unsupported _).read.new | exact (Pureish.underlying _).read.new | exact (Pureish.sizeOf _).read.new | exact (Pureish.typeInfo _).read.new | exact (Pureish.asInt _).read.new | exact (Pureish.zeroValue _).read.new | exact (Pureish.runtimePanic _).read.new | exact Newish.askRoom _ | exact Newish.choose _ | exact Newish.newRow _ _ | refine Newish.bind ?_ (fun _ => ?_) | split)

/-- The operand of a built-in len. -/
def lenCall (c : Call) : Option Operand :=
  match c.callee with
  | .builtin .len => if c.args.size = 1 then c.args[0]? else none
  | _ => none
/-- Operations that touch no memory; of some the check at the region's end asks plain operands. -/
def isPure (P : Program) : Op → Bool
  | .move _ | .assign _ | .pick .. | .extract .. | .makeFunc .. | .index .. | .indexAddr .. | .slice .. | .field .. | .build .. | .unOp .. | .binOp .. | .nilCheck _ => true
  | .fieldAddr s _ f => fieldOK P s f
  | .call c => (lenCall c).isSome
  | _ => false
def isRead : Op → Bool
  | .load .. => true
  | _ => false
def isNew : Op → Bool
  | .alloc _ | .box .. | .buildSlice .. | .makeSlice .. => true
  | _ => false
def plainPtr : Value → Bool
  | .pointer _ => true
  | _ => false
/-- What is asked of an operation's operands at the region's end. -/
def okVal (ρ : Operand → Value) : Op → Bool
  | .binOp _ _ x y _ => plainPair (ρ x) (ρ y)
  | .nilCheck x => plainPtr (ρ x)
  | .call c => (lenCall c).all fun x => plainLen (ρ x)
  | _ => true
theorem Pureish.value {s : Sem Value} (h : Pureish P s) : Pureish P (do Pure.pure (Next.value (← s))) := Pureish.bind h fun _ => Pureish.pure _
theorem pure_exec (ρ : Operand → Value) (o : Oper) (h : isPure P o.op = true) (hv : okVal ρ o.op = true) : Pureish P (execOp ρ o) := by
  obtain ⟨dst, op, type, pos, after, guard⟩ := o
  cases op <;> first | (cases h; done) | skip
  case move => exact Pureish.pure _
  case assign => exact Pureish.pure _
  case pick => exact Pureish.bind (Pureish.asBool _) fun _ => Pureish.pure _
  case extract => exact (Pureish.extract _ _).value
  case makeFunc => exact (Pureish.pure _).value
  case index => exact (Pureish.index _ _ _).value
  case indexAddr => exact (Pureish.indexAt _ _ _).value
  case slice => exact (Pureish.sliceAt _ _ _ _ _).value
  case field => exact (Pureish.field _ _ _).value
  case build => exact (Pureish.build _ _).value
  case unOp => exact (Pureish.unary _ _).value
  case binOp => exact (Pureish.bind (Pureish.eqGuard _ _ _ _ _ _ hv) fun _ => Pureish.binOp _ _ _ _ hv).value
  case fieldAddr => exact (Pureish.fieldAt _ _ _ h).value
  case nilCheck x =>
    simp only [okVal, plainPtr] at hv
    simp only [execOp]
    split at hv <;> first | (cases hv; done) | skip
    rename_i p e
    rw [e]
    cases p
    · exact Pureish.runtimePanic _
    · exact Pureish.pure _
  case call c =>
    obtain ⟨callee, args, ts⟩ := c
    simp only [isPure, okVal, lenCall] at h hv
    cases callee <;> first | (cases h; done) | skip
    rename_i bi
    cases bi <;> first | (cases h; done) | skip
    simp only [] at h hv
    split at h <;> first | (cases h; done) | skip
    rename_i hs
    obtain ⟨x, rfl⟩ := Array.size_eq_one_iff.1 hs
    simp at hv
    have := Pureish.len (P := P) ts type (ρ x) hv
    simp only [execOp, resolve, invoke, builtin]
    simpa using this.value
theorem read_exec (ρ : Operand → Value) (o : Oper) (h : isRead o.op = true) : Readish P (execOp ρ o) := by
  obtain ⟨dst, op, type, pos, after, guard⟩ := o
  cases op <;> first | (cases h; done) | skip
  exact Readish.bind (Readish.loadAt _ _) fun _ => (Pureish.pure _).read
theorem new_exec (ρ : Operand → Value) (o : Oper) (h : isNew o.op = true) : Newish P (execOp ρ o) := by
  obtain ⟨dst, op, type, pos, after, guard⟩ := o
  cases op <;> first | (cases h; done) | skip
  case alloc => exact Newish.bind (Newish.alloc _ _) fun _ => (Pureish.pure _).read.new
  case box => exact Newish.bind (Newish.box _ _) fun _ => (Pureish.pure _).read.new
  case buildSlice => exact Newish.bind (Newish.buildSlice _ _ _) fun _ => (Pureish.pure _).read.new
  case makeSlice => exact Newish.bind (Newish.makeSlice _ _ _) fun _ => (Pureish.pure _).read.new
end
end Go.Proofs.Lexi
