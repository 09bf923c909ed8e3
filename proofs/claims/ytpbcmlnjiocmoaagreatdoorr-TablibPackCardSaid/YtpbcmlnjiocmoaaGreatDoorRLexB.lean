import Derived.Test.YtpbcmlnjiocmoaaGreatDoorRLexA
import Derived.Laws.BitsLemmas
import Derived.Laws.Bits64
import Derived.Maps.OwnSet
import Derived.DeepKeys3
import Derived.Deep.MidRow
import Derived.Deep.DeepCutAuto
import Derived.Laws.AppendOwnNone
import Derived.Maps.RangeWalk
import Derived.Lib.Builder
import Derived.Lib.Walk
import Derived.Laws.Externs
set_option linter.unusedVariables false
set_option linter.unusedSimpArgs false
namespace Go.Proofs.Lexi
open Go
section
variable {P : Program} {ops : Array Oper} {Q : Exit → Act → World → Prop}
/-- What an operation does to a state: it writes its slot (and may defer). -/
def G (o : Oper) (g : Act → Act) : Prop :=
  (∃ v, g = fun a => a.put o.dst v) ∨ (∃ d, g = fun a => ({ a with defers := d :: a.defers } : Act).put o.dst undef)
theorem G.comm {o : Oper} {g : Act → Act} (h : G o g) (a : Act) (x : Option Tmp) (v : Value) (hx : ∀ d, x = some d → o.dst ≠ some d) :
    g (a.put x v) = (g a).put x v := by
  rcases h with ⟨u, rfl⟩ | ⟨d, rfl⟩
  · exact Act.put_comm a v u hx
  · dsimp only
    rw [Act.put_defers]
    exact Act.put_comm _ v undef hx
theorem G.tmps {o : Oper} {g : Act → Act} (h : G o g) (a : Act) (t : Tmp) (ht : o.dst ≠ some t) : (g a).tmps[t]? = a.tmps[t]? := by
  rcases h with ⟨u, rfl⟩ | ⟨d, rfl⟩
  all_goals
    cases hd : o.dst with
    | none => rfl
    | some e =>
      have : e ≠ t := fun h => ht (by rw [hd, h])
      simp [Act.put, Array.getElem?_setIfInBounds_ne this]
theorem G.exec {o : Oper} {g : Act → Act} (h : G o g) (a : Act) (oi : Oper) (hs : ∀ cs b, oi.op ≠ .select cs b) (hd : ∀ d, o.dst = some d → d ∉ oi.looksAt ops) :
    execOp (g a).eval oi = execOp a.eval oi := by
  rcases h with ⟨u, rfl⟩ | ⟨d, rfl⟩
  · exact execOp_put oi hs a o.dst u hd
  · rw [execOp_put (ops := ops) oi hs _ o.dst undef hd]; rfl
theorem G.wanted {o : Oper} {g : Act → Act} (h : G o g) (a : Act) (oi : Oper) (hd : ∀ d, o.dst = some d → d ∉ oi.looksAt ops) :
    Region.wanted oi (yielded ops (g a).tmps) = Region.wanted oi (yielded ops a.tmps) := by
  rcases h with ⟨u, rfl⟩ | ⟨d, rfl⟩
  · exact wanted_put oi a o.dst u hd
  · rw [wanted_put oi _ o.dst undef hd]
def upon' (P : Program) (o : Oper) (K : (Act → Act) → World → Prop) : Result Next → Prop
  | .ok (.value v) w' => K (fun a => a.put o.dst v) w'
  | .ok .skip w' => K (fun a => a.put o.dst undef) w'
  | .ok (.defer d) w' => K (fun a => ({ a with defers := d :: a.defers } : Act).put o.dst undef) w'
  | .ok (.enter f args) w' => Calls P f args w' fun
      | .returned v, w'' => K (fun a => a.put o.dst v) w''
      | _, _ => False
  | .ok (.row row args) w' => Rows P row args w' fun v w'' => K (fun a => a.put o.dst v) w''
  | _ => False
def eff (P : Program) (ops : Array Oper) (o : Oper) (a : Act) (w : World) (K : (Act → Act) → World → Prop) : Prop :=
  if Region.wanted o (yielded ops a.tmps) then upon' P o K ((execOp a.eval o).run P w) else K (fun a => a.put o.dst undef) w
theorem upon'_mono {o : Oper} {K K' : (Act → Act) → World → Prop} (h : ∀ g w, G o g → K g w → K' g w) (r : Result Next) (hh : upon' P o K r) : upon' P o K' r := by
  cases r with
  | halt x w' => exact hh
  | ok n w' =>
    cases n <;> simp only [upon'] at hh ⊢
    case value v => exact h _ _ (.inl ⟨v, rfl⟩) hh
    case skip => exact h _ _ (.inl ⟨_, rfl⟩) hh
    case defer d => exact h _ _ (.inr ⟨d, rfl⟩) hh
    case enter f args => exact Calls.mono hh (fun e w'' he => by cases e <;> first | exact h _ _ (.inl ⟨_, rfl⟩) he | exact he)
    case row r args => exact Rows.mono hh (fun v _ he => h _ _ (.inl ⟨v, rfl⟩) he)
theorem eff_mono {o : Oper} {a : Act} {w : World} {K K' : (Act → Act) → World → Prop} (h : ∀ g w, G o g → K g w → K' g w) (hh : eff P ops o a w K) : eff P ops o a w K' := by
  unfold eff at *
  split
  · rename_i hw; rw [if_pos hw] at hh; exact upon'_mono h _ hh
  · rename_i hw; rw [if_neg hw] at hh; exact h _ _ (.inl ⟨undef, rfl⟩) hh
theorem eff_exists {o : Oper} {a : Act} {w : World} {K : (Act → Act) → World → Prop} (hh : eff P ops o a w K) : ∃ g w', G o g ∧ K g w' := by
  unfold eff at hh
  split at hh
  · generalize (execOp a.eval o).run P w = r at hh
    cases r with
    | halt x w' => exact hh.elim
    | ok n w' =>
      cases n <;> simp only [upon'] at hh
      case value v => exact ⟨_, _, .inl ⟨v, rfl⟩, hh⟩
      case skip => exact ⟨_, _, .inl ⟨undef, rfl⟩, hh⟩
      case defer d => exact ⟨_, _, .inr ⟨d, rfl⟩, hh⟩
      case enter f args =>
        obtain ⟨e, w'', fr, hR, _⟩ := hh []
        cases e <;> first | exact ⟨_, _, .inl ⟨_, rfl⟩, hR⟩ | exact hR.elim
      case row r args =>
        obtain ⟨v, w'', hR, _⟩ := hh default []
        exact ⟨_, _, .inl ⟨v, rfl⟩, hR⟩
  · exact ⟨_, _, .inl ⟨undef, rfl⟩, hh⟩
theorem eff_same {o : Oper} {a a' : Act} {w : World} {K : (Act → Act) → World → Prop} (he : execOp a'.eval o = execOp a.eval o)
    (hw : Region.wanted o (yielded ops a'.tmps) = Region.wanted o (yielded ops a.tmps)) (hh : eff P ops o a w K) : eff P ops o a' w K := by
  unfold eff at *
  rw [he, hw]; exact hh
/-- Only the normal exit. -/
def OnlyN (Q : Exit → Act → World → Prop) : Prop := ∀ e a w, Q e a w → e = .normal
theorem wpOp_iff {i : Nat} {o : Oper} (hi : ops[i]? = some o) (hQ : OnlyN Q) (K : Act → World → Prop) (a : Act) (w : World) :
    wpOp P ops Q i K a w ↔ eff P ops o a w (fun g w' => K (g a) w') := by
  unfold wpOp eff
  simp only [hi]
  split
  · have hout : ¬ LetsOut Q := fun ⟨a, w, h⟩ => by have := hQ _ _ _ h; cases this
    simp only [hout, and_false, or_false]
    unfold Oper.wp
    generalize (execOp a.eval o).run P w = r
    cases r with
    | halt x w' =>
      cases x <;> simp only [Oper.upon, upon', iff_self, iff_false]
      exact fun h => by have := hQ _ _ _ h; cases this
    | ok n w' =>
      cases n <;> simp only [Oper.upon, upon', iff_self]
      case enter f args =>
        constructor
        · exact fun h => h.mono fun e w'' he => by
            cases e with
            | returned v => exact he
            | panicked c => have := hQ _ _ _ he; cases this
            | outgrown => exact (hout he).elim
        · exact fun h => h.mono fun e w'' he => by
            cases e with
            | returned v => exact he
            | panicked c => exact he.elim
            | outgrown => exact he.elim
  · exact Iff.rfl
/-- The operation has one value, in every world. -/
def Gives (P : Program) (ops : Array Oper) (o : Oper) (a : Act) (C : World → Prop) (v : Value) : Prop :=
  (Region.wanted o (yielded ops a.tmps) = true ∧ ∀ W, C W → (execOp a.eval o).run P W = .ok (.value v) W) ∨ (Region.wanted o (yielded ops a.tmps) = false ∧ v = undef)
theorem Gives.eff {o : Oper} {a : Act} {C : World → Prop} {v : Value} (h : Gives P ops o a C v) (w : World) (hC : C w) (K : (Act → Act) → World → Prop) :
    eff P ops o a w K ↔ K (fun a => a.put o.dst v) w := by
  unfold Lexi.eff
  rcases h with ⟨h1, h2⟩ | ⟨h1, rfl⟩
  · rw [if_pos h1, h2 w hC]; exact Iff.rfl
  · rw [if_neg (by simp [h1])]
theorem Gives.same {o : Oper} {a a' : Act} {C : World → Prop} {v : Value} (h : Gives P ops o a C v) (he : execOp a'.eval o = execOp a.eval o)
    (hw : Region.wanted o (yielded ops a'.tmps) = Region.wanted o (yielded ops a.tmps)) : Gives P ops o a' C v := by
  unfold Gives at *; rw [he, hw]; exact h
def Valued (P : Program) (s : Sem Next) : Prop := ∀ w x w', s.run P w = .ok x w' → ∃ v, x = .value v
theorem Valued.mk (s : Sem Value) : Valued P (do Pure.pure (Next.value (← s))) := fun w x w' e => by
  rw [Sem.run_bind] at e
  cases hs : s.run P w with
  | halt h w1 => rw [hs] at e; cases e
  | ok a w1 => rw [hs] at e; simp only [Result.andThen_ok, Sem.run_pure] at e; injection e with e1 _; exact ⟨a, e1.symm⟩
theorem Valued.bind {α : Type} (s : Sem α) {f : α → Sem Next} (h : ∀ a, Valued P (f a)) : Valued P (s >>= f) := fun w x w' e => by
  rw [Sem.run_bind] at e
  cases hs : s.run P w with
  | halt h w1 => rw [hs] at e; cases e
  | ok a w1 => rw [hs] at e; exact h a _ _ _ e
theorem Valued.pure (v : Value) : Valued P (Pure.pure (Next.value v)) := fun w x w' e => by injection e with e1 _; exact ⟨v, e1.symm⟩
theorem Valued.never {s : Sem Next} (h : Never P s) : Valued P s := fun w x w' e => by obtain ⟨_, _, h⟩ := h w; rw [h] at e; cases e
theorem Never.nilDeref : Never P (runtimePanic .nilDeref : Sem Next) := Never.bind _ fun _ => Never.goPanic _
theorem okVal_congr {ρ ρ' : Operand → Value} (op : Op) (h : ∀ x ∈ op.operands, ρ x = ρ' x) : okVal ρ op = okVal ρ' op := by
  cases op <;> first | rfl | skip
  case binOp => simp only [okVal]; rw [h _ (by simp [Op.operands]), h _ (by simp [Op.operands])]
  case nilCheck => simp only [okVal]; rw [h _ (by simp [Op.operands])]
  case call c =>
    obtain ⟨callee, args, ts⟩ := c
    simp only [okVal, lenCall]
    cases callee <;> first | rfl | skip
    rename_i bi
    cases bi <;> first | rfl | skip
    simp only []
    split
    · rename_i hs
      obtain ⟨x, rfl⟩ := Array.size_eq_one_iff.1 hs
      simp only [List.getElem?_toArray, List.getElem?_cons_zero, Option.all_some]
      rw [h x (by simp [Op.operands, Call.operands])]
    · rfl
theorem G.evals {o : Oper} {g : Act → Act} (h : G o g) (a : Act) (oi : Oper) (hd : ∀ d, o.dst = some d → d ∉ oi.looksAt ops) : ∀ x ∈ oi.op.operands, (g a).eval x = a.eval x := by
  intro x hx
  have key : ∀ (b : Act) (u : Value), (b.put o.dst u).eval x = b.eval x := fun b u => Act.eval_put fun d hd' hxd => hd d hd' (by
    subst hxd
    exact List.mem_append_left _ (List.mem_filterMap.2 ⟨.tmp d, by simpa using hx, rfl⟩))
  rcases h with ⟨u, rfl⟩ | ⟨d, rfl⟩
  · exact key a u
  · dsimp only; rw [key]; rfl
theorem valued_exec (ρ : Operand → Value) (o : Oper) (h : (isPure P o.op || isRead o.op || isNew o.op) = true) : Valued P (execOp ρ o) := by
  obtain ⟨dst, op, type, pos, after, guard⟩ := o
  cases op <;> first | (cases h; done) | exact Valued.mk _ | skip
  case move => intro w x w' e; injection e with e1 _; exact ⟨_, e1.symm⟩
  case assign => intro w x w' e; injection e with e1 _; exact ⟨_, e1.symm⟩
  case pick c a b =>
    intro w x w' e
    simp only [execOp, Sem.run_bind] at e
    cases hs : (asBool (ρ c)).run P w with
    | halt h w1 => rw [hs] at e; cases e
    | ok b w1 => rw [hs] at e; simp only [Result.andThen_ok, Sem.run_pure] at e; injection e with e1 _; exact ⟨_, e1.symm⟩
  case nilCheck y =>
    simp only [execOp]
    repeat' (first | exact Valued.pure _ | exact Valued.never Never.nilDeref | exact Valued.never (fun w => ⟨_, w, rfl⟩) | refine Valued.bind _ (fun _ => ?_) | split)
  case call c =>
    obtain ⟨callee, args, ts⟩ := c
    simp only [isPure, isRead, isNew, Bool.or_false, lenCall] at h
    cases callee <;> first | (cases h; done) | skip
    rename_i bi
    cases bi <;> first | (cases h; done) | skip
    simp only [execOp, resolve, invoke, builtin]
    exact Valued.mk (Builtin.len_ ts type _)
theorem gives_of_pure {o : Oper} {a : Act} {w : World} {K : (Act → Act) → World → Prop} (hp : isPure P o.op = true)
    (hv : Region.wanted o (yielded ops a.tmps) = true → okVal a.eval o.op = true) (h : eff P ops o a w K) : ∃ v, Gives P ops o a (fun _ => True) v := by
  cases hw : Region.wanted o (yielded ops a.tmps) with
  | false => exact ⟨undef, .inr ⟨hw, rfl⟩⟩
  | true =>
    unfold eff at h
    rw [if_pos hw] at h
    have hpure := pure_exec a.eval o hp (hv hw)
    cases hr : (execOp a.eval o).run P w with
    | halt x w' => rw [hr] at h; exact h.elim
    | ok x w' =>
      obtain ⟨v, rfl⟩ := valued_exec a.eval o (by simp [hp]) w x w' hr
      exact ⟨v, .inl ⟨hw, fun W _ => (hpure _ _ _ hr).2 W⟩⟩
theorem gives_of_read {o : Oper} {a : Act} {w : World} {K : (Act → Act) → World → Prop} (hp : isRead o.op = true) (h : eff P ops o a w K) : ∃ v, Gives P ops o a (Ext w) v := by
  cases hw : Region.wanted o (yielded ops a.tmps) with
  | false => exact ⟨undef, .inr ⟨hw, rfl⟩⟩
  | true =>
    unfold eff at h
    rw [if_pos hw] at h
    have hread := read_exec (P := P) a.eval o hp
    cases hr : (execOp a.eval o).run P w with
    | halt x w' => rw [hr] at h; exact h.elim
    | ok x w' =>
      obtain ⟨v, rfl⟩ := valued_exec (P := P) a.eval o (by simp [hp]) w x w' hr
      exact ⟨v, .inl ⟨hw, fun W hW => (hread _ _ _ hr).2 W hW⟩⟩
/-- A read or a new block: one value, in a world that has grown. -/
theorem eff_newish {o : Oper} {a : Act} {w : World} {K : (Act → Act) → World → Prop} (hp : (isRead o.op || isNew o.op) = true) (h : eff P ops o a w K) :
    eff P ops o a w (fun g w' => Ext w w' ∧ K g w') := by
  unfold eff at *
  split
  · rename_i hw
    rw [if_pos hw] at h
    cases hr : (execOp a.eval o).run P w with
    | halt x w' => rw [hr] at h; exact h.elim
    | ok x w' =>
      obtain ⟨v, rfl⟩ := valued_exec (P := P) a.eval o (by rw [Bool.or_assoc, hp]; simp) w x w' hr
      rw [hr] at h
      refine ⟨?_, h⟩
      cases h1 : isRead o.op with
      | true => exact (read_exec (P := P) a.eval o h1).new _ _ _ hr
      | false => exact new_exec (P := P) a.eval o (by simpa [h1] using hp) _ _ _ hr
  · rename_i hw; rw [if_neg hw] at h; exact ⟨Ext.refl _, h⟩
def swapOK (P : Program) (ops : Array Oper) (x y : Oper) : Bool :=
  x.apart ops y && (isPure P x.op || isPure P y.op || (isRead x.op && (isRead y.op || isNew y.op)))
theorem commute {i j : Nat} {oi oj : Oper} (hi : ops[i]? = some oi) (hj : ops[j]? = some oj) (hQ : OnlyN Q) (hsw : swapOK P ops oi oj = true)
    (hsi : ∀ cs b, oi.op ≠ .select cs b) (hsj : ∀ cs b, oj.op ≠ .select cs b) {a : Act} {w : World} {K : Act → World → Prop}
    (hvi : Region.wanted oi (yielded ops a.tmps) = true → okVal a.eval oi.op = true) (hvj : Region.wanted oj (yielded ops a.tmps) = true → okVal a.eval oj.op = true)
    (H : wpOp P ops Q i (wpOp P ops Q j K) a w) : wpOp P ops Q j (wpOp P ops Q i K) a w := by
  simp only [swapOK, Bool.and_eq_true] at hsw
  obtain ⟨hap, hcl⟩ := hsw
  obtain ⟨h1, h2, h3⟩ := Oper.apart_spec hap
  have h2' : ∀ d, oj.dst = some d → oi.dst ≠ some d := fun d e e' => h2 d e' e
  rw [wpOp_iff hi hQ] at H
  rw [wpOp_iff hj hQ]
  -- the other one's state is no other for either
  have stepj : ∀ v, eff P ops oj (a.put oi.dst v) w (fun g w' => K (g (a.put oi.dst v)) w') → eff P ops oj a w (fun g w' => K ((g a).put oi.dst v) w') := by
    intro v hh
    have := eff_same (a' := a) (execOp_put oj hsj a oi.dst v h1).symm (wanted_put oj a oi.dst v h1).symm hh
    exact eff_mono (fun g w' hg hk => by rw [← hg.comm a oi.dst v h2]; exact hk) this
  by_cases c1 : isPure P oi.op = true
  · obtain ⟨v, hv⟩ := gives_of_pure c1 hvi H
    rw [hv.eff w trivial] at H
    rw [wpOp_iff hj hQ] at H
    refine eff_mono (fun g w' hg hk => ?_) (stepj v H)
    rw [wpOp_iff hi hQ]
    have hv' := hv.same (hg.exec (ops := ops) a oi hsi h3) (hg.wanted a oi h3)
    rw [hv'.eff w' trivial]
    exact hk
  · by_cases c2 : isPure P oj.op = true
    · obtain ⟨g0, w0, hg0, hk0⟩ := eff_exists H
      rw [wpOp_iff hj hQ] at hk0
      obtain ⟨v, hv0⟩ := gives_of_pure c2 (fun hw => by
        have hw' : Region.wanted oj (yielded ops a.tmps) = true := by rw [← hg0.wanted (ops := ops) a oj h1]; exact hw
        have := hvj hw'
        rw [okVal_congr oj.op (hg0.evals (ops := ops) a oj h1)]
        exact this) hk0
      have hv := hv0.same (hg0.exec (ops := ops) a oj hsj h1).symm (hg0.wanted a oj h1).symm
      rw [hv.eff w trivial, wpOp_iff hi hQ]
      have H' : eff P ops oi a w (fun g w' => K (g (a.put oj.dst v)) w') := eff_mono (fun g w' hg hk => by
        rw [wpOp_iff hj hQ] at hk
        have hv' := hv.same (hg.exec (ops := ops) a oj hsj h1) (hg.wanted a oj h1)
        rw [hv'.eff w' trivial] at hk
        rw [hg.comm a oj.dst v h2']
        exact hk) H
      exact eff_same (execOp_put oi hsi a oj.dst v h3) (wanted_put oi a oj.dst v h3) H'
    · simp only [c1, c2, Bool.false_or, Bool.and_eq_true] at hcl
      obtain ⟨c3, c4⟩ := hcl
      obtain ⟨v, hv⟩ := gives_of_read c3 H
      rw [hv.eff w (Ext.refl _)] at H
      rw [wpOp_iff hj hQ] at H
      refine eff_mono (fun g w' hg hk => ?_) (eff_newish c4 (stepj v H))
      rw [wpOp_iff hi hQ]
      have hv' := hv.same (hg.exec (ops := ops) a oi hsi h3) (hg.wanted a oi h3)
      rw [hv'.eff w' hk.1]
      exact hk.2
/-- Operations whose operands are asked at the end. -/
def asked : Op → Bool
  | .binOp .. | .nilCheck _ => true
  | .call c => (lenCall c).isSome
  | _ => false
theorem okVal_of_not_asked (ρ : Operand → Value) (op : Op) (h : asked op = false) : okVal ρ op = true := by
  cases op <;> first | rfl | (cases h; done) | skip
  case call c =>
    simp only [asked] at h
    simp only [okVal]
    cases hc : lenCall c with
    | none => rfl
    | some x => rw [hc] at h; cases h
def noSel : Op → Bool
  | .select .. => false
  | _ => true
/-- The closed check on a region's operations: m says of each which come before it. -/
def lexCheck (P : Program) (ops : Array Oper) (m : Array Nat) : Bool :=
  let n := ops.size
  (List.range n).all fun j => (ops[j]?).all fun oj =>
    noSel oj.op &&
    (oj.after.toList.all fun e => !Region.binds .any e || e.on < j) &&
    (List.range n).all fun i => (ops[i]?).all fun oi =>
      (!(m.getD j 0).testBit i || oj.after.toList.any fun e => Region.binds .any e && (e.on == i || (m.getD e.on 0).testBit i)) &&
      (!(i < j) || (m.getD j 0).testBit i || swapOK P ops oi oj) &&
      (!asked oj.op || (match oi.dst with | some d => !(oj.looksAt ops).contains d || (m.getD j 0).testBit i | none => true))
structure Lexed (P : Program) (ops : Array Oper) (m : Array Nat) : Prop where
  sel : ∀ (j : Nat) oj, ops[j]? = some oj → ∀ cs b, oj.op ≠ .select cs b
  low : ∀ (j : Nat) oj, ops[j]? = some oj → ∀ e ∈ oj.after, Region.binds .any e = true → e.on < j
  mask : ∀ (j i : Nat) oj oi, ops[j]? = some oj → ops[i]? = some oi → (m.getD j 0).testBit i = true → ∃ e ∈ oj.after, Region.binds .any e = true ∧ (e.on = i ∨ (m.getD e.on 0).testBit i = true)
  swap : ∀ (j i : Nat) oj oi, ops[j]? = some oj → ops[i]? = some oi → i < j → (m.getD j 0).testBit i = true ∨ swapOK P ops oi oj = true
  dsts : ∀ (j i : Nat) oj oi d, ops[j]? = some oj → ops[i]? = some oi → asked oj.op = true → oi.dst = some d → d ∈ oj.looksAt ops → (m.getD j 0).testBit i = true
theorem lexed_of {m : Array Nat} (h : lexCheck P ops m = true) : Lexed P ops m := by
  unfold lexCheck at h
  simp only [List.all_eq_true, List.mem_range] at h
  have lt : ∀ {j : Nat} {o : Oper}, ops[j]? = some o → j < ops.size := fun e => (Array.getElem?_eq_some_iff.1 e).1
  have hj : ∀ (j : Nat) oj, ops[j]? = some oj → _ := fun j oj e => by
    have := h j (lt e)
    rw [e] at this
    simp only [Option.all_some, Bool.and_eq_true, List.all_eq_true, List.mem_range] at this
    exact this
  have hji : ∀ (j i : Nat) oj oi, ops[j]? = some oj → ops[i]? = some oi → _ := fun j i oj oi e e' => by
    have := (hj j oj e).2 i (lt e')
    rw [e'] at this
    simp only [Option.all_some, Bool.and_eq_true] at this
    exact this
  refine ⟨?_, ?_, ?_, ?_, ?_⟩
  · intro j oj e cs b hs
    have := (hj j oj e).1.1
    rw [hs] at this; cases this
  · intro j oj e ed hed hb
    have := (hj j oj e).1.2 ed (by simpa using hed)
    rw [hb] at this; simpa using this
  · intro j i oj oi e e' hb
    have := (hji j i oj oi e e').1.1
    rw [hb] at this
    simp only [Bool.not_true, Bool.false_or, List.any_eq_true, Bool.and_eq_true, Bool.or_eq_true, beq_iff_eq] at this
    obtain ⟨ed, h1, h2, h3⟩ := this
    exact ⟨ed, by simpa using h1, h2, h3⟩
  · intro j i oj oi e e' hlt
    have := (hji j i oj oi e e').1.2
    simpa [hlt] using this
  · intro j i oj oi d e e' ha hd hm
    have := (hji j i oj oi e e').2
    rw [ha, hd] at this
    simpa [hm] using this
/-- What has come up is closed downwards. -/
def Down (ops : Array Oper) (listed : Array Bool) : Prop :=
  ∀ (x : Nat) o, listed.getD x false = true → ops[x]? = some o → ∀ e ∈ o.after, Region.binds .any e = true → listed.getD e.on false = true
theorem ready_iff {listed : Array Bool} {i : Nat} : i ∈ Region.ready .any ops listed ↔
    ∃ o, ops[i]? = some o ∧ listed.getD i true = false ∧ ∀ e ∈ o.after, Region.binds .any e = true → listed.getD e.on false = true := by
  unfold Region.ready
  simp only [List.mem_filter, List.mem_range, Bool.and_eq_true, Bool.not_eq_true']
  constructor
  · rintro ⟨h1, h2, h3⟩
    cases ho : ops[i]? with
    | none => rw [ho] at h3; cases h3
    | some o =>
      rw [ho] at h3
      simp only [Option.map_some, Option.getD_some, Array.all_eq_true] at h3
      refine ⟨o, rfl, h2, fun e he hb => ?_⟩
      obtain ⟨k, hk, rfl⟩ := Array.mem_iff_getElem.1 he
      have := h3 k hk
      rw [hb] at this; simpa using this
  · rintro ⟨o, ho, h2, h3⟩
    refine ⟨(Array.getElem?_eq_some_iff.1 ho).1, h2, ?_⟩
    rw [ho]
    simp only [Option.map_some, Option.getD_some, Array.all_eq_true]
    intro k hk
    cases hb : Region.binds .any o.after[k] with
    | false => rfl
    | true => simp [h3 _ (Array.getElem_mem hk) hb]
theorem listed_of_mask {m : Array Nat} (L : Lexed P ops m) {listed : Array Bool} (hd : Down ops listed) : ∀ (n x : Nat), x < n → ∀ o, ops[x]? = some o →
    (∀ e ∈ o.after, Region.binds .any e = true → listed.getD e.on false = true) → ∀ i oi, ops[i]? = some oi → (m.getD x 0).testBit i = true → listed.getD i false = true := by
  intro n
  induction n with
  | zero => intro x hx; omega
  | succ n ih =>
    intro x hx o ho hr i oi hi hb
    obtain ⟨e, he, hbe, h⟩ := L.mask x i o oi ho hi hb
    have hl := hr e he hbe
    rcases h with rfl | h
    · exact hl
    · have hlt := L.low x o ho e he hbe
      have hsz : e.on < ops.size := Nat.lt_trans hlt (Array.getElem?_eq_some_iff.1 ho).1
      have ho' : ops[e.on]? = some ops[e.on] := Array.getElem?_eq_getElem hsz
      exact ih e.on (by omega) _ ho' (fun e' he' hb' => hd e.on _ hl ho' e' he' hb') i oi hi h
theorem getD_set (listed : Array Bool) (i x : Nat) (d : Bool) (hi : i < listed.size) : (listed.setIfInBounds i true).getD x d = if x = i then true else listed.getD x d := by
  simp only [Array.getD_eq_getD_getElem?]
  by_cases h : x = i
  · subst h; simp [hi]
  · rw [Array.getElem?_setIfInBounds_ne (by omega), if_neg h]
theorem getD_tf {listed : Array Bool} {x : Nat} (hx : x < listed.size) : listed.getD x true = listed.getD x false := by
  simp [Array.getD_eq_getD_getElem?, hx]
theorem Down.set {listed : Array Bool} (hd : Down ops listed) {i : Nat} (hi : i ∈ Region.ready .any ops listed) (hs : listed.size = ops.size) : Down ops (listed.setIfInBounds i true) := by
  obtain ⟨o, ho, _, hr⟩ := ready_iff.1 hi
  have hlt : i < listed.size := by rw [hs]; exact (Array.getElem?_eq_some_iff.1 ho).1
  intro x ox hx hox e he hb
  rw [getD_set _ _ _ _ hlt] at hx ⊢
  split
  · rfl
  · split at hx
    · rename_i h; subst h; rw [ho] at hox; injection hox with hox; subst hox; exact hr e he hb
    · exact hd x ox hx hox e he hb
theorem ready_set {listed : Array Bool} {i j : Nat} (hs : listed.size = ops.size) (hi : i ∈ Region.ready .any ops listed) (hj : j ∈ Region.ready .any ops listed) (hne : j ≠ i) : j ∈ Region.ready .any ops (listed.setIfInBounds i true) := by
  obtain ⟨o, ho, hu, hr⟩ := ready_iff.1 hj
  obtain ⟨oi, hoi, _, _⟩ := ready_iff.1 hi
  have hlt : i < listed.size := by rw [hs]; exact (Array.getElem?_eq_some_iff.1 hoi).1
  refine ready_iff.2 ⟨o, ho, by rw [getD_set _ _ _ _ hlt, if_neg hne]; exact hu, fun e he hb => ?_⟩
  rw [getD_set _ _ _ _ hlt]
  split
  · rfl
  · exact hr e he hb
/-- From whatever is left to run, an end with the old slots that nothing left writes. -/
theorem final_of (hQ : OnlyN Q) : ∀ (fuel : Nat) (listed : Array Bool) (a : Act) (w : World), listed.size = ops.size → wpAny P .any ops Q fuel listed a w →
    ∃ a' w', Q .normal a' w' ∧ ∀ t : Tmp, (∀ (x : Nat) o, ops[x]? = some o → listed.getD x true = false → o.dst ≠ some t) → a'.tmps[t]? = a.tmps[t]? := by
  intro fuel
  induction fuel with
  | zero => intro listed a w _ h; exact ⟨a, w, h.2, fun _ _ => rfl⟩
  | succ fuel ih =>
    intro listed a w hs h
    cases hr : Region.ready .any ops listed with
    | nil => exact ⟨a, w, h.1 hr, fun _ _ => rfl⟩
    | cons i rest =>
      have hi : i ∈ Region.ready .any ops listed := by rw [hr]; exact List.mem_cons_self
      obtain ⟨o, ho, hu, _⟩ := ready_iff.1 hi
      have hlt : i < listed.size := by rw [hs]; exact (Array.getElem?_eq_some_iff.1 ho).1
      have h1 := h.2 i hi
      rw [wpOp_iff ho hQ] at h1
      obtain ⟨g, w1, hg, hk⟩ := eff_exists h1
      obtain ⟨a', w', hq, ht⟩ := ih _ _ _ (by simpa using hs) hk
      refine ⟨a', w', hq, fun t hx => ?_⟩
      rw [ht t (fun x ox hox hux => hx x ox hox (by
        rw [getD_set _ _ _ _ hlt] at hux
        split at hux
        · cases hux
        · exact hux))]
      exact hg.tmps a t (hx i o ho hu)
/-- Of every operation that was carried out the operands are plain. -/
def okAll (ops : Array Oper) (a : Act) : Bool := ops.toList.all fun o => !Region.wanted o (yielded ops a.tmps) || okVal a.eval o.op
theorem eval_eq {a a' : Act} {x : Operand} (h : ∀ t, x = .tmp t → a'.tmps[t]? = a.tmps[t]?) : a'.eval x = a.eval x := by
  cases x with
  | tmp t =>
    have := h t rfl
    simp only [Act.eval]
    simp [Array.getD_eq_getD_getElem?, this]
  | _ => rfl
theorem ok_now {m : Array Nat} (L : Lexed P ops m) (hQ : OnlyN Q) (hend : ∀ a w, Q .normal a w → okAll ops a = true) {listed : Array Bool} {a : Act}
    (hs : listed.size = ops.size) (hd : Down ops listed) (h : ∃ a1 w1 fuel' listed', listed'.size = ops.size ∧ (∀ x, listed'.getD x true = false → listed.getD x true = false) ∧
      (∀ t : Tmp, (∀ (x : Nat) o, ops[x]? = some o → listed.getD x true = false → o.dst ≠ some t) → a1.tmps[t]? = a.tmps[t]?) ∧ wpAny P .any ops Q fuel' listed' a1 w1)
    {j : Nat} {oj : Oper} (hj : j ∈ Region.ready .any ops listed) (hoj : ops[j]? = some oj) (hw : Region.wanted oj (yielded ops a.tmps) = true) : okVal a.eval oj.op = true := by
  cases ha : asked oj.op with
  | false => exact okVal_of_not_asked _ _ ha
  | true =>
    obtain ⟨a1, w1, fuel', listed', hs', hsub, ht1, hany⟩ := h
    obtain ⟨a', w', hq, ht⟩ := final_of hQ fuel' listed' a1 w1 hs' hany
    have hok := hend a' w' hq
    obtain ⟨o, ho, hu, hr⟩ := ready_iff.1 hj
    rw [hoj] at ho; injection ho with ho; subst ho
    have same : ∀ t ∈ oj.looksAt ops, a'.tmps[t]? = a.tmps[t]? := by
      intro t htm
      have hno : ∀ (x : Nat) o, ops[x]? = some o → listed.getD x true = false → o.dst ≠ some t := by
        intro x ox hox hux hdx
        have hb := L.dsts j x oj ox t hoj hox ha hdx htm
        have hl := listed_of_mask L hd (j + 1) j (by omega) oj hoj hr x ox hox hb
        rw [getD_tf (by rw [hs]; exact (Array.getElem?_eq_some_iff.1 hox).1), hl] at hux
        cases hux
      rw [ht t (fun x ox hox hux => hno x ox hox (hsub x hux)), ht1 t hno]
    have hev : ∀ x ∈ oj.op.operands, a'.eval x = a.eval x := fun x hx => eval_eq fun t e => same t (by
      subst e
      exact List.mem_append_left _ (List.mem_filterMap.2 ⟨.tmp t, by simpa using hx, rfl⟩))
    have hwt : Region.wanted oj (yielded ops a'.tmps) = Region.wanted oj (yielded ops a.tmps) := by
      unfold Region.wanted
      cases hg : oj.guard with
      | none => rfl
      | some p =>
        obtain ⟨k, b⟩ := p
        simp only []
        have : yielded ops a'.tmps k = yielded ops a.tmps k := by
          unfold yielded
          cases hk : (ops[k]?).bind (·.dst) with
          | none => rfl
          | some t =>
            have := same t (by unfold Oper.looksAt; rw [hg]; simp [hk])
            simp [this]
        rw [this]
    unfold okAll at hok
    have := List.all_eq_true.1 hok oj (by
      have := Array.mem_of_getElem? hoj
      simpa using this)
    rw [hwt, hw] at this
    rw [← okVal_congr oj.op hev]
    simpa using this
theorem any_first {m : Array Nat} (L : Lexed P ops m) (hQ : OnlyN Q) (hend : ∀ a w, Q .normal a w → okAll ops a = true) {i : Nat} {oi : Oper} (hi : ops[i]? = some oi) :
    ∀ (fuel : Nat) (listed : Array Bool) (a : Act) (w : World), listed.size = ops.size → Down ops listed → (∀ x, x < i → listed.getD x true = true) → i ∈ Region.ready .any ops listed →
      wpOp P ops Q i (wpAny P .any ops Q fuel (listed.setIfInBounds i true)) a w → wpAny P .any ops Q (fuel + 1) listed a w := by
  intro fuel
  induction fuel with
  | zero =>
    intro listed a w hs hd hlow hr H
    refine ⟨fun h => (by rw [h] at hr; cases hr), fun j hj => ?_⟩
    by_cases hji : j = i
    · subst hji; exact H
    · exfalso
      rw [wpOp_iff hi hQ] at H
      obtain ⟨g, w1, _, hk⟩ := eff_exists H
      have := ready_set hs hr hj hji
      rw [hk.1] at this
      cases this
  | succ fuel ih =>
    intro listed a w hs hd hlow hr H
    refine ⟨fun h => (by rw [h] at hr; cases hr), fun j hj => ?_⟩
    by_cases hji : j = i
    · subst hji; exact H
    · have hlti : i < listed.size := by rw [hs]; exact (Array.getElem?_eq_some_iff.1 hi).1
      obtain ⟨oj, hoj, huj, hrj⟩ := ready_iff.1 hj
      have hltj : j < listed.size := by rw [hs]; exact (Array.getElem?_eq_some_iff.1 hoj).1
      obtain ⟨_, hoi', hui, _⟩ := ready_iff.1 hr
      have hlt : i < j := by
        rcases Nat.lt_or_ge j i with h | h
        · rw [hlow j h] at huj; cases huj
        · omega
      have hswap : swapOK P ops oi oj = true := by
        rcases L.swap j i oj oi hoj hi hlt with h | h
        · have := listed_of_mask L hd (j + 1) j (by omega) oj hoj hrj i oi hi h
          rw [getD_tf hlti, this] at hui
          cases hui
        · exact h
      have H' : wpOp P ops Q i (wpOp P ops Q j (wpAny P .any ops Q fuel ((listed.setIfInBounds i true).setIfInBounds j true))) a w :=
        wpOp_mono (fun a w h => h.2 j (ready_set hs hr hj hji)) H
      have hex : ∃ a1 w1 fuel' listed', listed'.size = ops.size ∧ (∀ x, listed'.getD x true = false → listed.getD x true = false) ∧
          (∀ t : Tmp, (∀ (x : Nat) o, ops[x]? = some o → listed.getD x true = false → o.dst ≠ some t) → a1.tmps[t]? = a.tmps[t]?) ∧ wpAny P .any ops Q fuel' listed' a1 w1 := by
        rw [wpOp_iff hi hQ] at H
        obtain ⟨g, w1, hg, hk⟩ := eff_exists H
        refine ⟨g a, w1, _, _, by simpa using hs, fun x hx => ?_, fun t ht => hg.tmps a t (ht i oi hi hui), hk⟩
        rw [getD_set _ _ _ _ hlti] at hx
        split at hx
        · cases hx
        · exact hx
      have H2 := commute hi hoj hQ hswap (L.sel i oi hi) (L.sel j oj hoj) (fun hw => ok_now L hQ hend hs hd hex hr hi hw) (fun hw => ok_now L hQ hend hs hd hex hj hoj hw) H'
      refine wpOp_mono (fun a' w' h => ?_) H2
      refine ih _ a' w' (by simpa using hs) (hd.set hj hs) (fun x hx => ?_) (ready_set hs hj hr (Ne.symm hji)) ?_
      · rw [getD_set _ _ _ _ hltj]
        split
        · rfl
        · exact hlow x hx
      · rw [Array.setIfInBounds_comm _ _ (Ne.symm hji)] at h
        exact h
theorem any_of_lex {m : Array Nat} (L : Lexed P ops m) (hQ : OnlyN Q) (hend : ∀ a w, Q .normal a w → okAll ops a = true) :
    ∀ (r k : Nat) (listed : Array Bool) (a : Act) (w : World), k + r = ops.size → listed.size = ops.size → (∀ x, x < ops.size → listed.getD x false = decide (x < k)) →
      wpOps P ops Q (List.range' k r) a w → wpAny P .any ops Q r listed a w := by
  intro r
  induction r with
  | zero =>
    intro k listed a w hk hs hl h
    refine ⟨?_, h⟩
    rw [List.eq_nil_iff_forall_not_mem]
    intro i hi
    obtain ⟨o, ho, hu, _⟩ := ready_iff.1 hi
    have hlt := (Array.getElem?_eq_some_iff.1 ho).1
    rw [getD_tf (by rw [hs]; exact hlt), hl i hlt] at hu
    simp at hu; omega
  | succ r ih =>
    intro k listed a w hk hs hl h
    rw [List.range'_succ, wpOps_cons] at h
    have hlt : k < ops.size := by omega
    have ho : ops[k]? = some ops[k] := Array.getElem?_eq_getElem hlt
    have hd : Down ops listed := by
      intro x o hx hox e he hb
      have hxs := (Array.getElem?_eq_some_iff.1 hox).1
      have h1 := L.low x o hox e he hb
      rw [hl x hxs] at hx
      rw [hl e.on (by omega)]
      simp at hx ⊢; omega
    have hready : k ∈ Region.ready .any ops listed := by
      refine ready_iff.2 ⟨_, ho, ?_, fun e he hb => ?_⟩
      · rw [getD_tf (by rw [hs]; exact hlt), hl k hlt]; simp
      · have h1 := L.low k _ ho e he hb
        rw [hl e.on (by omega)]; simp; omega
    refine any_first L hQ hend ho r listed a w hs hd (fun x hx => ?_) hready (wpOp_mono (fun a w h => ih (k + 1) _ a w (by omega) (by simpa using hs) (fun x hx => ?_) h) h)
    · rw [getD_tf (by rw [hs]; omega), hl x (by omega)]; simp; omega
    · rw [getD_set _ _ _ _ (by rw [hs]; exact hlt), hl x hx]
      split
      · rename_i e; subst e; simp
      · rename_i hne
        by_cases h1 : x < k <;> simp [h1] <;> omega
/-- What is asked behind a region that is walked in the order of its text. -/
def Behind (ops : Array Oper) (Q : Exit → Act → World → Prop) : Exit → Act → World → Prop
  | .normal, a, w => okAll ops a = true ∧ Q .normal a w
  | _, _, _ => False
end
end Go.Proofs.Lexi
namespace Go.Proofs.YtpbcmlnjiocmoaaGreatDoorR
structure V where
  k : Int
  p : Int
  q : Int
  s : ByteArray
  r : Int
def V.nil : V := ⟨0, 0, 0, ⟨#[]⟩, 0⟩
def V.num (v : V) : N2 := (v.p, v.q)
abbrev V.cells (v : V) : Array Value := #[.int .i64 v.k, .int .i64 v.p, .int .i64 v.q, .string v.s, .int .i64 v.r]
abbrev V.v (v : V) : Value := .agg v.cells
def eqV (a b : V) : Bool := a.k == b.k && a.p == b.p && a.q == b.q && bytesOf a.s == bytesOf b.s && a.r == b.r
theorem eqV_iff {a b : V} : eqV a b = true ↔ a = b := by
  obtain ⟨k, p, q, s, r⟩ := a
  obtain ⟨k', p', q', s', r'⟩ := b
  simp only [eqV, Bool.and_eq_true, beq_iff_eq, V.mk.injEq]
  constructor
  · rintro ⟨⟨⟨⟨h1, h2⟩, h3⟩, h4⟩, h5⟩; exact ⟨h1, h2, h3, bytesOf_inj h4, h5⟩
  · rintro ⟨h1, h2, h3, h4, h5⟩; exact ⟨⟨⟨⟨h1, h2⟩, h3⟩, by rw [h4]⟩, h5⟩
def noNum (v : V) : Bool := v.p == 0 && v.q == 0
def noStr (v : V) : Bool := v.s.size == 0
def isRef (k : Int) : Bool := k == 4 || k == 5 || k == 7 || k == 8
def validV (v : V) : Bool :=
  if v.k = 0 then noNum v && noStr v && v.r == 0
  else if v.k = 1 then noNum v && noStr v && (v.r == 0 || v.r == 1)
  else if v.k = 2 then validN v.num && noStr v && v.r == 0
  else if v.k = 3 then noNum v && decide (v.s.size ≤ 4096) && v.r == 0
  else if isRef v.k then noNum v && noStr v && decide (1 ≤ v.r)
  else if v.k = 6 then noNum v && decide (1 ≤ v.s.size) && decide (v.s.size ≤ 4096) && v.r == 0
  else false
def intV (n : Int) : V := if inTop n then ⟨2, n, 1, ⟨#[]⟩, 0⟩ else V.nil
def strV (s : ByteArray) : V := ⟨3, 0, 0, s, 0⟩
abbrev VR := Except Nat V
end Go.Proofs.YtpbcmlnjiocmoaaGreatDoorR
namespace Go.Proofs.YtpbcmlnjiocmoaaGreatDoorR
open Go.RowKit Go.Proofs.Lexi
abbrev o4 (h : Bool) (p e f : Int) : Obj := .cells #[.bool h, .int .i64 p, .int .i64 e, .int .i64 f] 202
theorem digits_len (v : Nat) (h : (v : Int) ≤ 9223372036854775807) : (Lib.decDigits v).length ≤ 19 := by
  have key : ∀ k v : Nat, v < 10 ^ (k + 1) → (Lib.decDigits v).length ≤ k + 1 := by
    intro k
    induction k with
    | zero => intro v hv; rw [Lib.decDigits, dif_pos (by simpa using hv)]; exact Nat.le_refl _
    | succ k ih =>
      intro v hv
      rw [Lib.decDigits]
      split
      · simp
      · have := ih (v / 10) (by rw [Nat.pow_succ] at hv; omega)
        simp; omega
  exact key 18 v (by rw [show (10 : Nat) ^ (18 + 1) = 10000000000000000000 from by decide]; omega)
theorem slice_shape {w : World} {base : Nat} {e : TypeId} {size : Nat} {v : Value} {n : Nat} {xs : List Value} (ho : w.ownsRow base e size v n xs) (hn : 0 < n) : ∃ g cap, v = .slice (some ⟨g, 0, none⟩) n cap := by
  rcases ho.2 with ⟨_, h⟩ | ⟨g, cap, _, h, _⟩
  · omega
  · exact ⟨g, cap, h⟩
def itoaB (n : Int) : ByteArray := ⟨(Lib.itoa n).toArray⟩
def slashB : ByteArray := ⟨#[47]⟩
def textB (a : N2) : ByteArray := if validN a then (if a.2 = 1 then itoaB a.1 else itoaB a.1 ++ slashB ++ itoaB a.2) else ⟨#[110, 97, 110]⟩
def StrB (w : World) (s : ByteArray) (e : Ending) (w' : World) : Prop := e = .returned (.string s) ∧ Below w.heap.size w w'
theorem str_done {w w' : World} {s t : ByteArray} (h : s = t) (hb : Below w.heap.size w w') : StrB w s (.returned (.string t)) w' := by subst h; exact ⟨rfl, hb⟩
theorem itoaB_size {n : Int} (h1 : -2147483647 ≤ n) (h2 : n ≤ 2147483647) : (itoaB n).size ≤ 20 := by
  have h := digits_len n.natAbs (by omega)
  have hs : (itoaB n).size = (Lib.itoa n).length := by unfold itoaB; exact List.size_toArray
  rw [hs]
  unfold Lib.itoa
  split
  · rw [List.length_cons]; omega
  · rw [show n.toNat = n.natAbs by omega]; omega
def ValPost (w : World) (v : V) (e : Ending) (w' : World) : Prop := e = .returned v.v ∧ Below w.heap.size w w'
theorem below_five {B : Nat} {a w : World} (h : Below B a w) {b : Nat} (hb : B ≤ b) (x y z u v : Value) : Below B a (((((w.setCell ⟨b, 0, none⟩ x).setCell ⟨b, 1, none⟩ y).setCell ⟨b, 2, none⟩ z).setCell ⟨b, 3, none⟩ u).setCell ⟨b, 4, none⟩ v) :=
  ((((h.setCell (p := ⟨b, 0, none⟩) hb x).setCell (p := ⟨b, 1, none⟩) hb y).setCell (p := ⟨b, 2, none⟩) hb z).setCell (p := ⟨b, 3, none⟩) hb u).setCell (p := ⟨b, 4, none⟩) hb v
theorem val_done {w w' : World} {v : V} {k p q r : Int} {s : ByteArray} (h : v = ⟨k, p, q, s, r⟩) (hb : Below w.heap.size w w') : ValPost w v (.returned (.agg #[.int .i64 k, .int .i64 p, .int .i64 q, .string s, .int .i64 r])) w' := by subst h; exact ⟨rfl, hb⟩
abbrev o5 (k p q : Int) (s : ByteArray) (r : Int) : Obj := .cells #[.int .i64 k, .int .i64 p, .int .i64 q, .string s, .int .i64 r] 30
abbrev SR := Except Nat ByteArray
def sS : SR → ByteArray
  | .ok s => s
  | .error _ => ⟨#[]⟩
def sE : SR → Nat
  | .ok _ => 0
  | .error c => c
def strOf (v : V) : SR := if v.k = 3 then .ok v.s else if v.k = 2 then (if validN v.num then .ok (textB v.num) else .error 8) else .error 8
def SrPost (w : World) (R : SR) (e : Ending) (w' : World) : Prop := e = .returned (.tuple #[.string (sS R), .int .i64 (sE R : Nat)]) ∧ Below w.heap.size w w'
theorem sr_ok {w w' : World} {R : SR} {s : ByteArray} (h : R = .ok s) (hb : Below w.heap.size w w') : SrPost w R (.returned (.tuple #[.string s, .int .i64 0])) w' := by subst h; exact ⟨rfl, hb⟩
theorem sr_err {w w' : World} {R : SR} {c : Nat} (h : R = .error c) (hb : Below w.heap.size w w') : SrPost w R (.returned (.tuple #[.string ⟨#[]⟩, .int .i64 (c : Int)])) w' := by subst h; exact ⟨rfl, hb⟩
def vV : VR → V
  | .ok v => v
  | .error _ => V.nil
def vE : VR → Nat
  | .ok _ => 0
  | .error c => c
def VrPost (w : World) (R : VR) (e : Ending) (w' : World) : Prop := e = .returned (.tuple #[.agg #[.int .i64 (vV R).k, .int .i64 (vV R).p, .int .i64 (vV R).q, .string (vV R).s, .int .i64 (vV R).r], .int .i64 (vE R : Nat)]) ∧ Below w.heap.size w w'
theorem vr_ok {w w' : World} {R : VR} {k p q r : Int} {s : ByteArray} {v : V} (h : R = .ok v) (hk : v = ⟨k, p, q, s, r⟩) (hb : Below w.heap.size w w') : VrPost w R (.returned (.tuple #[.agg #[.int .i64 k, .int .i64 p, .int .i64 q, .string s, .int .i64 r], .int .i64 0])) w' := by subst h hk; exact ⟨rfl, hb⟩
theorem vr_err {w w' : World} {R : VR} {c : Nat} (h : R = .error c) (hb : Below w.heap.size w w') : VrPost w R (.returned (.tuple #[.agg #[.int .i64 0, .int .i64 0, .int .i64 0, .string ⟨#[]⟩, .int .i64 0], .int .i64 (c : Int)])) w' := by subst h; exact ⟨rfl, hb⟩
theorem frozen_of_heap {w : World} {b : Nat} {cs : Array Value} {t : TypeId} (h : w.heap[b]? = some (.cells cs t (0, 0))) (o : Nat) : w.frozen? ⟨b, o, none⟩ = false := by simp [World.frozen?, h]
theorem heap3_a (w : World) (o1 o2 o3 : Obj) : (((w.alloc o1).alloc o2).alloc o3).heap[w.heap.size]? = some o1 := by
  rw [Below.heap_alloc _ _ _ (by simp; omega), Below.heap_alloc _ _ _ (by simp), heap_new]
theorem heap3_b (w : World) (o1 o2 o3 : Obj) : (((w.alloc o1).alloc o2).alloc o3).heap[w.heap.size + 1]? = some o2 := by
  rw [Below.heap_alloc _ _ _ (by simp)]
  have := heap_new (w.alloc o1) o2
  simpa using this
theorem heap3_c (w : World) (o1 o2 o3 : Obj) : (((w.alloc o1).alloc o2).alloc o3).heap[w.heap.size + 1 + 1]? = some o3 := by
  have := heap_new ((w.alloc o1).alloc o2) o3
  simpa using this
theorem hkeep {w w' : World} (hb : Below w.heap.size w w') {b : Nat} {o : Obj} (h : w.heap[b]? = some o) : w'.heap[b]? = some o := (hb.block b (Array.getElem?_eq_some_iff.1 h).1).trans h
abbrev oV (k p q : Int) (s : ByteArray) (r : Int) : Obj := .cells #[.int .i64 k, .int .i64 p, .int .i64 q, .string s, .int .i64 r] 30
theorem hgrow {w w' : World} (hb : Below w.heap.size w w') (o : Obj) {b : Nat} {x : Obj} (h : w.heap[b]? = some x) : (w'.alloc o).heap[b]? = some x := by
  have h1 := hkeep hb h
  exact (Below.heap_alloc w' o b (Array.getElem?_eq_some_iff.1 h1).1).trans h1
theorem heap_five_at {w : World} {b : Nat} {t : TypeId} {fz : Nat × Nat} {x0 y0 z0 u0 v0 : Value} (h : w.heap[b]? = some (.cells #[x0, y0, z0, u0, v0] t fz)) (x y z u v : Value) :
    (((((w.setCell ⟨b, 0, none⟩ x).setCell ⟨b, 1, none⟩ y).setCell ⟨b, 2, none⟩ z).setCell ⟨b, 3, none⟩ u).setCell ⟨b, 4, none⟩ v).heap[b]? = some (.cells #[x, y, z, u, v] t fz) :=
  heap_setCell_same (heap_setCell_same (heap_setCell_same (heap_setCell_same (heap_setCell_same h 0 x) 1 y) 2 z) 3 u) 4 v
/-- What the program reads of its package-level variables. -/
def Glob (w : World) : Prop := (∃ m, w.cell? ⟨0, 0, none⟩ = some (.int .i64 m)) ∧ Pow10 w
theorem Glob.stays {w w' : World} (h : Glob w) (hb : Below w.heap.size w w') : Glob w' := by
  obtain ⟨⟨m, hm⟩, hp⟩ := h
  exact ⟨⟨m, (hb.cell (p := ⟨0, 0, none⟩) (World.block_lt_of_cell? _ _ hm)).trans hm⟩, hp.stays hb⟩
theorem validV_size {v : V} (h : validV v = true) : v.s.size ≤ 4096 := by
  unfold validV at h
  have z : noStr v = true → v.s.size ≤ 4096 := fun hz => by
    unfold noStr at hz
    have := beq_iff_eq.1 hz
    omega
  split at h
  · simp only [Bool.and_eq_true] at h; exact z h.1.2
  · split at h
    · simp only [Bool.and_eq_true] at h; exact z h.1.2
    · split at h
      · simp only [Bool.and_eq_true] at h; exact z h.1.2
      · split at h
        · simp only [Bool.and_eq_true, decide_eq_true_eq] at h; exact h.1.2
        · split at h
          · simp only [Bool.and_eq_true] at h; exact z h.1.2
          · split at h
            · simp only [Bool.and_eq_true, decide_eq_true_eq] at h; exact h.1.2
            · cases h
end Go.Proofs.YtpbcmlnjiocmoaaGreatDoorR
namespace Go.Proofs.YtpbcmlnjiocmoaaGreatDoorR
open Go.RowKit Go.Proofs.Lexi Go.ChangeMaps Go.MapKept
open Go.Maps (Keyed)
/-- What a call changes: the blocks in F, and new ones. -/
structure Mods (F : Nat → Prop) (w w' : World) : Prop where
  os : w'.os = w.os
  tape : w'.tape = w.tape
  output : w'.output = w.output
  size : w.heap.size ≤ w'.heap.size
  block : ∀ k, k < w.heap.size → ¬ F k → w'.heap[k]? = w.heap[k]?
theorem Mods.of_below {F : Nat → Prop} {w w' : World} (h : Below w.heap.size w w') : Mods F w w' := ⟨h.os, h.tape, h.output, h.size, fun k hk _ => h.block k hk⟩
theorem Mods.below {F : Nat → Prop} {B : Nat} {w w' : World} (h : Mods F w w') (hB : B ≤ w.heap.size) (hF : ∀ k, k < B → ¬ F k) : Below B w w' :=
  ⟨h.os, h.tape, h.output, h.size, fun k hk => h.block k (by omega) (hF k hk)⟩
theorem Mods.refl (F : Nat → Prop) (w : World) : Mods F w w := ⟨rfl, rfl, rfl, Nat.le_refl _, fun _ _ _ => rfl⟩
theorem Mods.trans {F : Nat → Prop} {a b c : World} (h : Mods F a b) (k : Mods F b c) : Mods F a c :=
  ⟨k.os.trans h.os, k.tape.trans h.tape, k.output.trans h.output, Nat.le_trans h.size k.size, fun i hi hF => (k.block i (Nat.lt_of_lt_of_le hi h.size) hF).trans (h.block i hi hF)⟩
theorem Mods.mono {F G : Nat → Prop} {a b : World} (h : Mods F a b) (hFG : ∀ k, k < a.heap.size → F k → G k) : Mods G a b :=
  ⟨h.os, h.tape, h.output, h.size, fun k hk hG => h.block k hk (fun hF => hG (hFG k hk hF))⟩
variable {P : Program}
/-- The stamps of a map's entries: no two are alike, all lie below the clock. -/
def Born (es : Array MapEntry) (c : Nat) : Prop := (es.toList.map (·.born)).Nodup ∧ ∀ b ∈ es.toList.map (·.born), b < c
theorem Born.push {es : Array MapEntry} {c : Nat} (h : Born es c) (x v : Value) : Born (es.push { key := x, val := v, born := c }) (c + 1) := by
  have e : (es.push { key := x, val := v, born := c }).toList.map (·.born) = es.toList.map (·.born) ++ [c] := by simp
  unfold Born
  rw [e]
  refine ⟨List.nodup_append.2 ⟨h.1, by simp, fun a ha b hb => ?_⟩, fun b hb => ?_⟩
  · rw [List.mem_singleton] at hb
    have := h.2 a ha
    omega
  · rcases List.mem_append.1 hb with hb | hb
    · have := h.2 b hb
      omega
    · rw [List.mem_singleton] at hb
      omega
theorem Born.same {es es' : Array MapEntry} {c : Nat} (h : Born es c) (e : es'.toList.map (·.born) = es.toList.map (·.born)) : Born es' c := by
  unfold Born
  rw [e]
  exact h
theorem Born.erase {es : Array MapEntry} {c : Nat} (h : Born es c) (j : Nat) : Born (es.eraseIdxIfInBounds j) c := by
  have e : ((es.eraseIdxIfInBounds j).toList.map (·.born)) = (es.toList.map (·.born)).eraseIdx j := by rw [Array.toList_eraseIdxIfInBounds, map_eraseIdx]
  unfold Born
  rw [e]
  exact ⟨h.1.sublist (List.eraseIdx_sublist _ _), fun b hb => h.2 b (List.mem_of_mem_eraseIdx hb)⟩
/-- A map's entries, in the order of the block. -/
def MapAt (P : Program) (k : TypeId) (w : World) (b : Nat) (E : List (Value × Value)) : Prop :=
  ∃ es clock, w.heap[b]? = some (.map es clock) ∧ es.toList.map (fun e => (e.key, e.val)) = E ∧ (∀ p ∈ E, ∃ l, keyOf P k p.1 = some l) ∧ E.Pairwise (fun p q => p.1 ≠ q.1) ∧ Born es clock
theorem mapAt_new (k : TypeId) (w : World) : MapAt P k (w.alloc (.map #[] 0)) w.heap.size [] := ⟨#[], 0, heap_new _ _, rfl, fun p h => by simp at h, .nil, .nil, fun b h => by simp at h⟩
theorem MapAt.lt {k : TypeId} {w : World} {b : Nat} {E : List (Value × Value)} (h : MapAt P k w b E) : b < w.heap.size := by
  obtain ⟨es, c, hb, _⟩ := h
  exact (Array.getElem?_eq_some_iff.1 hb).1
theorem MapAt.keep {k : TypeId} {w w' : World} {b : Nat} {E : List (Value × Value)} (h : MapAt P k w b E) (hk : w'.heap[b]? = w.heap[b]?) : MapAt P k w' b E := by
  obtain ⟨es, c, hb, r⟩ := h
  exact ⟨es, c, hk.trans hb, r⟩
theorem mem_entries {es : Array MapEntry} {E : List (Value × Value)} (hE : es.toList.map (fun e => (e.key, e.val)) = E) {j : Nat} {e : MapEntry} (hj : es.toList[j]? = some e) : E[j]? = some (e.key, e.val) := by
  rw [← hE, List.getElem?_map, hj]; rfl
section
variable {k e t : TypeId} {w : World} {b : Nat} {E : List (Value × Value)}
theorem MapAt.find (h : MapAt P k w b E) (K : Keyed P k) {x : Value} {l : Lit} (hx : keyOf P k x = some l) {es : Array MapEntry} {c : Nat} (hb : w.heap[b]? = some (.map es c)) :
    ((Instr.findKey k x es.toList).run P w = .ok none w ∧ ∀ p ∈ E, p.1 ≠ x) ∨ ∃ j v, (Instr.findKey k x es.toList).run P w = .ok (some (j, v)) w ∧ E[j]? = some (x, v) ∧ j < es.size ∧ (es[j]?).map (·.key) = some x := by
  obtain ⟨es', c', hb', hE, hk, hd, _⟩ := h
  rw [hb] at hb'
  injection hb' with hb'
  injection hb' with h1 h2
  subst h1 h2
  rcases K.find w hx es.toList (fun y hy => by
    obtain ⟨j, hj⟩ := List.getElem?_of_mem hy
    exact hk _ (List.mem_of_getElem? (mem_entries hE hj))) with ⟨h1, h2⟩ | ⟨j, y, h1, h2, h3⟩
  · refine .inl ⟨h1, fun p hp => ?_⟩
    rw [← hE, List.mem_map] at hp
    obtain ⟨y, hy, rfl⟩ := hp
    exact h2 y hy
  · refine .inr ⟨j, y.val, h1, by rw [mem_entries hE h2, h3], ?_, ?_⟩
    · have := (List.getElem?_eq_some_iff.1 h2).1
      rwa [Array.length_toList] at this
    · rw [← Array.getElem?_toList, h2, ← h3]; rfl
/-- The look-up. -/
theorem MapAt.look (h : MapAt P k w b E) (K : Keyed P k) (ht : P.underlying t = some (.map k e)) {z : Value} (hz : (zeroValue e).run P w = .ok z w) {x : Value} {l : Lit} (hx : keyOf P k x = some l) :
    ((∀ p ∈ E, p.1 ≠ x) ∧ ∀ c, (Instr.lookup t (.map (some b)) x c).run P w = .ok (if c then .tuple #[z, .bool false] else z) w) ∨
    ∃ v, (x, v) ∈ E ∧ ∀ c, (Instr.lookup t (.map (some b)) x c).run P w = .ok (if c then .tuple #[v, .bool true] else v) w := by
  have h0 := h
  obtain ⟨es, cl, hb, _⟩ := h0
  rcases h.find K hx hb with ⟨h1, h2⟩ | ⟨j, v, h1, h2, _⟩
  · refine .inl ⟨h2, fun c => ?_⟩
    simp [Instr.lookup, run_underlying ht, MapKept.run_getObj_map hb, K.check w es.isEmpty hx, h1, hz, Result.andThen]
  · refine .inr ⟨v, List.mem_of_getElem? h2, fun c => ?_⟩
    simp [Instr.lookup, run_underlying ht, MapKept.run_getObj_map hb, K.check w es.isEmpty hx, h1, Result.andThen]
theorem pairwise_set {E : List (Value × Value)} {j : Nat} {x v v' : Value} (hd : E.Pairwise (fun p q => p.1 ≠ q.1)) (hj : E[j]? = some (x, v)) : (E.set j (x, v')).Pairwise (fun p q => p.1 ≠ q.1) := by
  have h1 : (E.map (·.1)).Pairwise (· ≠ ·) := List.pairwise_map.2 hd
  have h2 : (E.set j (x, v')).map (·.1) = E.map (·.1) := by
    rw [List.map_set]
    apply List.ext_getElem?
    intro i
    rw [List.getElem?_set]
    split
    · rename_i he
      subst he
      rw [List.getElem?_map, hj]
      rw [List.length_map, if_pos (List.getElem?_eq_some_iff.1 hj).1]
      rfl
    · rfl
  exact List.pairwise_map.1 (h2 ▸ h1)
theorem mem_set_iff {E : List (Value × Value)} {j : Nat} {x v v' : Value} (hd : E.Pairwise (fun p q => p.1 ≠ q.1)) (hj : E[j]? = some (x, v)) (p : Value × Value) : p ∈ E.set j (x, v') ↔ p = (x, v') ∨ (p ∈ E ∧ p.1 ≠ x) := by
  have hl := (List.getElem?_eq_some_iff.1 hj).1
  have hjx : E[j] = (x, v) := by rw [List.getElem?_eq_getElem hl] at hj; injection hj
  constructor
  · intro hp
    obtain ⟨i, hi⟩ := List.getElem?_of_mem hp
    rw [List.getElem?_set] at hi
    split at hi
    · injection hi with hi; exact .inl hi.symm
    · rename_i hne
      refine .inr ⟨List.mem_of_getElem? hi, fun hc => ?_⟩
      have hil := (List.getElem?_eq_some_iff.1 hi).1
      rw [List.getElem?_eq_getElem hil] at hi
      injection hi with hi
      rcases Nat.lt_or_gt_of_ne hne with hlt | hgt
      · have := (List.pairwise_iff_getElem.1 hd) j i hl hil hlt
        rw [hi, hjx] at this
        exact this hc.symm
      · have := (List.pairwise_iff_getElem.1 hd) i j hil hl hgt
        rw [hi, hjx] at this
        exact this hc
  · rintro (rfl | ⟨h1, h2⟩)
    · exact List.mem_of_getElem? (List.getElem?_set_self hl)
    · obtain ⟨i, hi⟩ := List.getElem?_of_mem h1
      refine List.mem_of_getElem? (i := i) ?_
      rw [List.getElem?_set, if_neg]
      · exact hi
      · rintro rfl
        rw [hj] at hi
        injection hi with hi
        rw [← hi] at h2
        exact h2 rfl
/-- The store. -/
theorem MapAt.store (h : MapAt P k w b E) (K : Keyed P k) (ht : P.underlying t = some (.map k e)) {x : Value} {l : Lit} (hx : keyOf P k x = some l) (v : Value) :
    ∃ w' E', (Instr.mapUpdate t (.map (some b)) x v).run P w = .ok () w' ∧ MapAt P k w' b E' ∧ Mods (· = b) w w' ∧ w'.heap.size = w.heap.size ∧
      (∀ p, p ∈ E' ↔ p = (x, v) ∨ (p ∈ E ∧ p.1 ≠ x)) ∧ ((∀ p ∈ E, p.1 ≠ x) → E' = E ++ [(x, v)]) := by
  have h0 := h
  obtain ⟨es, cl, hb, hE, hk, hd, hn⟩ := h0
  rcases h.find K hx hb with ⟨h1, h2⟩ | ⟨j, v0, h1, h2, h3, h4⟩
  · refine ⟨_, E ++ [(x, v)], by simp [Instr.mapUpdate, run_underlying ht, MapKept.run_getObj_map hb, K.check w false hx, h1, MapKept.run_setObj_map _ hb, Result.andThen]; rfl, ?_, ?_, ?_, ?_, fun _ => rfl⟩
    · refine ⟨_, _, (heap_set hb).1, ?_, ?_, ?_, hn.push _ _⟩
      · rw [← hE]; simp
      · intro p hp
        rcases List.mem_append.1 hp with hp | hp
        · exact hk p hp
        · rw [List.mem_singleton] at hp; subst hp; exact ⟨l, hx⟩
      · rw [List.pairwise_append]
        refine ⟨hd, List.pairwise_singleton _ _, fun p hp q hq => ?_⟩
        rw [List.mem_singleton] at hq
        subst hq
        exact h2 p hp
    · exact ⟨rfl, rfl, rfl, by simp, fun r _ hr => (heap_set hb).2 r hr⟩
    · simp
    · intro p
      rw [List.mem_append, List.mem_singleton]
      constructor
      · rintro (hp | hp)
        · exact .inr ⟨hp, h2 p hp⟩
        · exact .inl hp
      · rintro (hp | hp)
        · exact .inr hp
        · exact .inl hp.1
  · have hkey : ((es[j]?).map (·.key)).getD x = x := by rw [h4]; rfl
    have hje : E.set j (x, v) = (es.modify j (fun e => { e with key := x, val := v })).toList.map (fun e => (e.key, e.val)) := by
      rw [← hE]
      apply List.ext_getElem?
      intro i
      rw [List.getElem?_set, List.getElem?_map, List.getElem?_map, Array.getElem?_toList, Array.getElem?_toList, Array.getElem?_modify]
      split
      · rename_i he
        subst he
        rw [List.length_map, Array.length_toList, if_pos h3, Array.getElem?_eq_getElem h3]
        rfl
      · rfl
    have hbo : (es.modify j (fun e => { e with key := x, val := v })).toList.map (·.born) = es.toList.map (·.born) := by
      apply List.ext_getElem?
      intro i
      rw [List.getElem?_map, List.getElem?_map, Array.getElem?_toList, Array.getElem?_toList, Array.getElem?_modify]
      split
      · rename_i he
        subst he
        rw [Array.getElem?_eq_getElem h3]
        rfl
      · rfl
    refine ⟨_, E.set j (x, v), by simp [Instr.mapUpdate, run_underlying ht, MapKept.run_getObj_map hb, K.check w false hx, h1, hkey, K.stays w hx, MapKept.run_setObj_map _ hb, Result.andThen]; rfl, ?_, ?_, ?_, ?_, fun hc => ?_⟩
    · refine ⟨_, _, (heap_set hb).1, hje.symm, ?_, pairwise_set hd h2, hn.same hbo⟩
      intro p hp
      rcases (mem_set_iff hd h2 p).1 hp with rfl | ⟨hp, _⟩
      · exact ⟨l, hx⟩
      · exact hk p hp
    · exact ⟨rfl, rfl, rfl, by simp, fun r _ hr => (heap_set hb).2 r hr⟩
    · simp
    · exact mem_set_iff hd h2
    · exact absurd rfl (hc _ (List.mem_of_getElem? h2))
/-- The deletion. -/
theorem MapAt.drop (h : MapAt P k w b E) (K : Keyed P k) (ht : P.underlying t = some (.map k e)) {x : Value} {l : Lit} (hx : keyOf P k x = some l) (ty : TypeId) :
    ∃ w' E', (Builtin.delete_ #[t, k] ty #[.map (some b), x]).run P w = .ok (.tuple #[]) w' ∧ MapAt P k w' b E' ∧ Mods (· = b) w w' ∧ w'.heap.size = w.heap.size ∧
      (∀ p, p ∈ E' ↔ p ∈ E ∧ p.1 ≠ x) := by
  have h0 := h
  obtain ⟨es, cl, hb, hE, hk, hd, hn⟩ := h0
  rcases h.find K hx hb with ⟨h1, h2⟩ | ⟨j, v0, h1, h2, h3, h4⟩
  · refine ⟨_, E, by simp [Builtin.delete_, run_underlying ht, MapKept.run_getObj_map hb, K.check w es.isEmpty hx, h1, MapKept.run_setObj_map _ hb, Result.andThen]; rfl, ?_, ?_, ?_, ?_⟩
    · exact ⟨_, _, (heap_set hb).1, hE, hk, hd, hn⟩
    · exact ⟨rfl, rfl, rfl, by simp, fun r _ hr => (heap_set hb).2 r hr⟩
    · simp
    · exact fun p => ⟨fun hp => ⟨hp, h2 p hp⟩, fun hp => hp.1⟩
  · have hl := (List.getElem?_eq_some_iff.1 h2).1
    have hjx : E[j] = (x, v0) := by rw [List.getElem?_eq_getElem hl] at h2; injection h2
    have hje : E.eraseIdx j = (es.eraseIdxIfInBounds j).toList.map (fun e => (e.key, e.val)) := by
      rw [← hE, Array.toList_eraseIdxIfInBounds, map_eraseIdx]
    refine ⟨_, E.eraseIdx j, by simp [Builtin.delete_, run_underlying ht, MapKept.run_getObj_map hb, K.check w es.isEmpty hx, h1, MapKept.run_setObj_map _ hb, Result.andThen]; rfl, ?_, ?_, ?_, ?_⟩
    · refine ⟨_, _, (heap_set hb).1, hje.symm, fun p hp => hk p (List.mem_of_mem_eraseIdx hp), hd.sublist (List.eraseIdx_sublist _ _), hn.erase j⟩
    · exact ⟨rfl, rfl, rfl, by simp, fun r _ hr => (heap_set hb).2 r hr⟩
    · simp
    · intro p
      rw [List.mem_eraseIdx_iff_getElem]
      constructor
      · rintro ⟨i, hi, hne, rfl⟩
        refine ⟨List.getElem_mem hi, fun hc => ?_⟩
        rcases Nat.lt_or_gt_of_ne hne with hlt | hgt
        · have := (List.pairwise_iff_getElem.1 hd) i j hi hl hlt
          rw [hjx] at this
          exact this hc
        · have := (List.pairwise_iff_getElem.1 hd) j i hl hi hgt
          rw [hjx] at this
          exact this hc.symm
      · rintro ⟨h5, h6⟩
        obtain ⟨i, hi, rfl⟩ := List.getElem_of_mem h5
        refine ⟨i, hi, ?_, rfl⟩
        rintro rfl
        rw [hjx] at h6
        exact h6 rfl
end
end Go.Proofs.YtpbcmlnjiocmoaaGreatDoorR
namespace Go.Proofs.YtpbcmlnjiocmoaaGreatDoorR
open Go.RowKit Go.Proofs.Lexi
theorem keyedV : Go.Maps.Keyed Tryz.prog 30 := .of_law (deep_law (m := 5) (by decide) (by kernel_rfl) (by kernel_rfl) (by rw [Tryz.underlying30]))
theorem keyedI : Go.Maps.Keyed Tryz.prog 3 := Go.Maps.int_keyed Tryz.underlying3
def i64 (n : Int) : Prop := -9223372036854775808 ≤ n ∧ n ≤ 9223372036854775807
structure WfV (v : V) : Prop where
  k : i64 v.k
  p : i64 v.p
  q : i64 v.q
  s : v.s.size ≤ maxLen
  r : i64 v.r
theorem wf_lit {n : Int} (h : i64 n) : (Lit.int .i64 n).wf = true := by
  obtain ⟨h1, h2⟩ := h
  exact WalkArith.wf_i64 (by omega)
theorem keyI {n : Int} (h : i64 n) : ∃ l, keyOf Tryz.prog 3 (.int .i64 n) = some l := ⟨_, Go.Maps.keyOf_int_mk Tryz.underlying3 (wf_lit h)⟩
theorem keyType25 : Tryz.prog.keyType 30 = true := by kernel_rfl
theorem cells25 : Tryz.prog.cellsOf 30 = 5 := by kernel_rfl
theorem cells23 : Tryz.prog.cellsOf 28 = 2 := by kernel_rfl
theorem cells3 : Tryz.prog.cellsOf 3 = 1 := by kernel_rfl
theorem cells9 : Tryz.prog.cellsOf 9 = 1 := by kernel_rfl
theorem keyV {v : V} (h : WfV v) : ∃ l, keyOf Tryz.prog 30 v.v = some l := by
  have hf : v.v.formed Tryz.prog 30 = true := by
    unfold Value.formed
    rw [Tryz.underlying30]
    show ((5 : Nat) == Tryz.prog.cellsOf 30) = true
    rw [cells25]; rfl
  unfold keyOf
  rw [Tryz.underlying30]
  show ∃ l, (if (Tryz.prog.keyType 30 && v.v.formed Tryz.prog 30) = true then _ else _) = some l
  rw [keyType25, hf, if_pos (by rfl)]
  have h2 : 2 ≤ Tryz.prog.types.size := Nat.le_of_ble_eq_true (by kernel_rfl)
  obtain ⟨d, hd⟩ : ∃ d, Tryz.prog.types.size = d + 2 := ⟨Tryz.prog.types.size - 2, by omega⟩
  rw [hd]
  obtain ⟨hk, hp, hq, hs, hr⟩ := h
  have wk := wf_lit hk
  have wp := wf_lit hp
  have wq := wf_lit hq
  have wr := wf_lit hr
  obtain ⟨k, p, q, s, r⟩ := v
  apply Option.isSome_iff_exists.1
  rw [Option.isSome_map]
  dsimp only at wk wp wq wr hs
  show (Tryz.prog.keyLits (d + 2 + 1) 30 [.int .i64 k, .int .i64 p, .int .i64 q, .string s, .int .i64 r]).isSome = true
  simp [Program.keyLits, Tryz.underlying30, Tryz.underlying28, Tryz.underlying3, Tryz.underlying9, cells25, cells23, cells3, cells9, wk, wp, wq, wr, hs]
  rw [if_pos (by decide)]
  rfl
/-- Whether a value is an integer key. -/
def intB (v : V) : Bool := (v.k == 2) && ((v.q == 1) && validV v)
theorem prjK6 {c0 c1 c2 c3 c4 c5 p : Prop} (h : c0 ∧ c1 ∧ c2 ∧ c3 ∧ c4 ∧ c5 ∧ Hid p) : p := (h.2.2.2.2.2.2).out
end Go.Proofs.YtpbcmlnjiocmoaaGreatDoorR
