import Derived.Test.YtalfoihffnlelaaGreatDoorLexA
import Derived.Deep.MidRow
set_option linter.unusedVariables false
set_option linter.unusedSimpArgs false
set_option maxRecDepth 100000
namespace Go.Proofs.Lexi
open Go
section
variable {P : Program} {ops : Array Oper} {Q : Exit → Act → World → Prop}
/-- What an operation does to a state: it writes its slot (and may defer). -/
def G (o : Oper) (g : Act → Act) : Prop :=
  (∃ v, g = fun a => a.put o.dst v) ∨ (∃ d, g = fun a => ({ a with defers := d :: a.defers } : Act).put o.dst undef)
theorem G.comm {o : Oper} {g : Act → Act} (h : G o g) (a : Act) (x : Option Tmp) (v : Value) (hx : ∀ d, x = some d → o.dst ≠ some d) :
    g (a.put x v) = (g a).put x v := by
  rcases h with ⟨u, rfl⟩ | ⟨d, rfl⟩
  · exact Act.put_comm a v u hx
  · dsimp only
    rw [Act.put_defers]
    exact Act.put_comm _ v undef hx
theorem G.tmps {o : Oper} {g : Act → Act} (h : G o g) (a : Act) (t : Tmp) (ht : o.dst ≠ some t) : (g a).tmps[t]? = a.tmps[t]? := by
  rcases h with ⟨u, rfl⟩ | ⟨d, rfl⟩
  all_goals
    cases hd : o.dst with
    | none => rfl
    | some e =>
      have : e ≠ t := fun h => ht (by rw [hd, h])
      simp [Act.put, Array.getElem?_setIfInBounds_ne this]
theorem G.exec {o : Oper} {g : Act → Act} (h : G o g) (a : Act) (oi : Oper) (hs : ∀ cs b, oi.op ≠ .select cs b) (hd : ∀ d, o.dst = some d → d ∉ oi.looksAt ops) :
    execOp (g a).eval oi = execOp a.eval oi := by
  rcases h with ⟨u, rfl⟩ | ⟨d, rfl⟩
  · exact execOp_put oi hs a o.dst u hd
  · rw [execOp_put (ops := ops) oi hs _ o.dst undef hd]; rfl
theorem G.wanted {o : Oper} {g : Act → Act} (h : G o g) (a : Act) (oi : Oper) (hd : ∀ d, o.dst = some d → d ∉ oi.looksAt ops) :
    Region.wanted oi (yielded ops (g a).tmps) = Region.wanted oi (yielded ops a.tmps) := by
  rcases h with ⟨u, rfl⟩ | ⟨d, rfl⟩
  · exact wanted_put oi a o.dst u hd
  · rw [wanted_put oi _ o.dst undef hd]
def upon' (P : Program) (o : Oper) (K : (Act → Act) → World → Prop) : Result Next → Prop
  | .ok (.value v) w' => K (fun a => a.put o.dst v) w'
  | .ok .skip w' => K (fun a => a.put o.dst undef) w'
  | .ok (.defer d) w' => K (fun a => ({ a with defers := d :: a.defers } : Act).put o.dst undef) w'
  | .ok (.enter f args) w' => Calls P f args w' fun
      | .returned v, w'' => K (fun a => a.put o.dst v) w''
      | _, _ => False
  | .ok (.row row args) w' => Rows P row args w' fun v w'' => K (fun a => a.put o.dst v) w''
  | _ => False
def eff (P : Program) (ops : Array Oper) (o : Oper) (a : Act) (w : World) (K : (Act → Act) → World → Prop) : Prop :=
  if Region.wanted o (yielded ops a.tmps) then upon' P o K ((execOp a.eval o).run P w) else K (fun a => a.put o.dst undef) w
theorem upon'_mono {o : Oper} {K K' : (Act → Act) → World → Prop} (h : ∀ g w, G o g → K g w → K' g w) (r : Result Next) (hh : upon' P o K r) : upon' P o K' r := by
  cases r with
  | halt x w' => exact hh
  | ok n w' =>
    cases n <;> simp only [upon'] at hh ⊢
    case value v => exact h _ _ (.inl ⟨v, rfl⟩) hh
    case skip => exact h _ _ (.inl ⟨_, rfl⟩) hh
    case defer d => exact h _ _ (.inr ⟨d, rfl⟩) hh
    case enter f args => exact Calls.mono hh (fun e w'' he => by cases e <;> first | exact h _ _ (.inl ⟨_, rfl⟩) he | exact he)
    case row r args => exact Rows.mono hh (fun v _ he => h _ _ (.inl ⟨v, rfl⟩) he)
theorem eff_mono {o : Oper} {a : Act} {w : World} {K K' : (Act → Act) → World → Prop} (h : ∀ g w, G o g → K g w → K' g w) (hh : eff P ops o a w K) : eff P ops o a w K' := by
  unfold eff at *
  split
  · rename_i hw; rw [if_pos hw] at hh; exact upon'_mono h _ hh
  · rename_i hw; rw [if_neg hw] at hh; exact h _ _ (.inl ⟨undef, rfl⟩) hh
theorem eff_exists {o : Oper} {a : Act} {w : World} {K : (Act → Act) → World → Prop} (hh : eff P ops o a w K) : ∃ g w', G o g ∧ K g w' := by
  unfold eff at hh
  split at hh
  · generalize (execOp a.eval o).run P w = r at hh
    cases r with
    | halt x w' => exact hh.elim
    | ok n w' =>
      cases n <;> simp only [upon'] at hh
      case value v => exact ⟨_, _, .inl ⟨v, rfl⟩, hh⟩
      case skip => exact ⟨_, _, .inl ⟨undef, rfl⟩, hh⟩
      case defer d => exact ⟨_, _, .inr ⟨d, rfl⟩, hh⟩
      case enter f args =>
        obtain ⟨e, w'', fr, hR, _⟩ := hh []
        cases e <;> first | exact ⟨_, _, .inl ⟨_, rfl⟩, hR⟩ | exact hR.elim
      case row r args =>
        obtain ⟨v, w'', hR, _⟩ := hh default []
        exact ⟨_, _, .inl ⟨v, rfl⟩, hR⟩
  · exact ⟨_, _, .inl ⟨undef, rfl⟩, hh⟩
theorem eff_same {o : Oper} {a a' : Act} {w : World} {K : (Act → Act) → World → Prop} (he : execOp a'.eval o = execOp a.eval o)
    (hw : Region.wanted o (yielded ops a'.tmps) = Region.wanted o (yielded ops a.tmps)) (hh : eff P ops o a w K) : eff P ops o a' w K := by
  unfold eff at *
  rw [he, hw]; exact hh
/-- Only the normal exit. -/
def OnlyN (Q : Exit → Act → World → Prop) : Prop := ∀ e a w, Q e a w → e = .normal
theorem wpOp_iff {i : Nat} {o : Oper} (hi : ops[i]? = some o) (hQ : OnlyN Q) (K : Act → World → Prop) (a : Act) (w : World) :
    wpOp P ops Q i K a w ↔ eff P ops o a w (fun g w' => K (g a) w') := by
  unfold wpOp eff
  simp only [hi]
  split
  · have hout : ¬ LetsOut Q := fun ⟨a, w, h⟩ => by have := hQ _ _ _ h; cases this
    simp only [hout, and_false, or_false]
    unfold Oper.wp
    generalize (execOp a.eval o).run P w = r
    cases r with
    | halt x w' =>
      cases x <;> simp only [Oper.upon, upon', iff_self, iff_false]
      exact fun h => by have := hQ _ _ _ h; cases this
    | ok n w' =>
      cases n <;> simp only [Oper.upon, upon', iff_self]
      case enter f args =>
        constructor
        · exact fun h => h.mono fun e w'' he => by
            cases e with
            | returned v => exact he
            | panicked c => have := hQ _ _ _ he; cases this
            | outgrown => exact (hout he).elim
        · exact fun h => h.mono fun e w'' he => by
            cases e with
            | returned v => exact he
            | panicked c => exact he.elim
            | outgrown => exact he.elim
  · exact Iff.rfl
/-- The operation has one value, in every world. -/
def Gives (P : Program) (ops : Array Oper) (o : Oper) (a : Act) (C : World → Prop) (v : Value) : Prop :=
  (Region.wanted o (yielded ops a.tmps) = true ∧ ∀ W, C W → (execOp a.eval o).run P W = .ok (.value v) W) ∨ (Region.wanted o (yielded ops a.tmps) = false ∧ v = undef)
theorem Gives.eff {o : Oper} {a : Act} {C : World → Prop} {v : Value} (h : Gives P ops o a C v) (w : World) (hC : C w) (K : (Act → Act) → World → Prop) :
    eff P ops o a w K ↔ K (fun a => a.put o.dst v) w := by
  unfold Lexi.eff
  rcases h with ⟨h1, h2⟩ | ⟨h1, rfl⟩
  · rw [if_pos h1, h2 w hC]; exact Iff.rfl
  · rw [if_neg (by simp [h1])]
theorem Gives.same {o : Oper} {a a' : Act} {C : World → Prop} {v : Value} (h : Gives P ops o a C v) (he : execOp a'.eval o = execOp a.eval o)
    (hw : Region.wanted o (yielded ops a'.tmps) = Region.wanted o (yielded ops a.tmps)) : Gives P ops o a' C v := by
  unfold Gives at *; rw [he, hw]; exact h
def Valued (P : Program) (s : Sem Next) : Prop := ∀ w x w', s.run P w = .ok x w' → ∃ v, x = .value v
theorem Valued.mk (s : Sem Value) : Valued P (do Pure.pure (Next.value (← s))) := fun w x w' e => by
  rw [Sem.run_bind] at e
  cases hs : s.run P w with
  | halt h w1 => rw [hs] at e; cases e
  | ok a w1 => rw [hs] at e; simp only [Result.andThen_ok, Sem.run_pure] at e; injection e with e1 _; exact ⟨a, e1.symm⟩
theorem Valued.bind {α : Type} (s : Sem α) {f : α → Sem Next} (h : ∀ a, Valued P (f a)) : Valued P (s >>= f) := fun w x w' e => by
  rw [Sem.run_bind] at e
  cases hs : s.run P w with
  | halt h w1 => rw [hs] at e; cases e
  | ok a w1 => rw [hs] at e; exact h a _ _ _ e
theorem Valued.pure (v : Value) : Valued P (Pure.pure (Next.value v)) := fun w x w' e => by injection e with e1 _; exact ⟨v, e1.symm⟩
theorem Valued.never {s : Sem Next} (h : Never P s) : Valued P s := fun w x w' e => by obtain ⟨_, _, h⟩ := h w; rw [h] at e; cases e
theorem Never.nilDeref : Never P (runtimePanic .nilDeref : Sem Next) := Never.bind _ fun _ => Never.goPanic _
theorem okVal_congr {ρ ρ' : Operand → Value} (op : Op) (h : ∀ x ∈ op.operands, ρ x = ρ' x) : okVal ρ op = okVal ρ' op := by
  cases op <;> first | rfl | skip
  case binOp => simp only [okVal]; rw [h _ (by simp [Op.operands]), h _ (by simp [Op.operands])]
  case nilCheck => simp only [okVal]; rw [h _ (by simp [Op.operands])]
  case call c =>
    obtain ⟨callee, args, ts⟩ := c
    simp only [okVal, lenCall]
    cases callee <;> first | rfl | skip
    rename_i bi
    cases bi <;> first | rfl | skip
    simp only []
    split
    · rename_i hs
      obtain ⟨x, rfl⟩ := Array.size_eq_one_iff.1 hs
      simp only [List.getElem?_toArray, List.getElem?_cons_zero, Option.all_some]
      rw [h x (by simp [Op.operands, Call.operands])]
    · rfl
theorem G.evals {o : Oper} {g : Act → Act} (h : G o g) (a : Act) (oi : Oper) (hd : ∀ d, o.dst = some d → d ∉ oi.looksAt ops) : ∀ x ∈ oi.op.operands, (g a).eval x = a.eval x := by
  intro x hx
  have key : ∀ (b : Act) (u : Value), (b.put o.dst u).eval x = b.eval x := fun b u => Act.eval_put fun d hd' hxd => hd d hd' (by
    subst hxd
    exact List.mem_append_left _ (List.mem_filterMap.2 ⟨.tmp d, by simpa using hx, rfl⟩))
  rcases h with ⟨u, rfl⟩ | ⟨d, rfl⟩
  · exact key a u
  · dsimp only; rw [key]; rfl
theorem valued_exec (ρ : Operand → Value) (o : Oper) (h : (isPure P o.op || isRead o.op || isNew o.op) = true) : Valued P (execOp ρ o) := by
  obtain ⟨dst, op, type, pos, after, guard⟩ := o
  cases op <;> first | (cases h; done) | exact Valued.mk _ | skip
  case move => intro w x w' e; injection e with e1 _; exact ⟨_, e1.symm⟩
  case assign => intro w x w' e; injection e with e1 _; exact ⟨_, e1.symm⟩
  case pick c a b =>
    intro w x w' e
    simp only [execOp, Sem.run_bind] at e
    cases hs : (asBool (ρ c)).run P w with
    | halt h w1 => rw [hs] at e; cases e
    | ok b w1 => rw [hs] at e; simp only [Result.andThen_ok, Sem.run_pure] at e; injection e with e1 _; exact ⟨_, e1.symm⟩
  case nilCheck y =>
    simp only [execOp]
    repeat' (first | exact Valued.pure _ | exact Valued.never Never.nilDeref | exact Valued.never (fun w => ⟨_, w, rfl⟩) | refine Valued.bind _ (fun _ => ?_) | split)
  case call c =>
    obtain ⟨callee, args, ts⟩ := c
    simp only [isPure, isRead, isNew, Bool.or_false, lenCall] at h
    cases callee <;> first | (cases h; done) | skip
    rename_i bi
    cases bi <;> first | (cases h; done) | skip
    simp only [execOp, resolve, invoke, builtin]
    exact Valued.mk (Builtin.len_ ts type _)
theorem gives_of_pure {o : Oper} {a : Act} {w : World} {K : (Act → Act) → World → Prop} (hp : isPure P o.op = true)
    (hv : Region.wanted o (yielded ops a.tmps) = true → okVal a.eval o.op = true) (h : eff P ops o a w K) : ∃ v, Gives P ops o a (fun _ => True) v := by
  cases hw : Region.wanted o (yielded ops a.tmps) with
  | false => exact ⟨undef, .inr ⟨hw, rfl⟩⟩
  | true =>
    unfold eff at h
    rw [if_pos hw] at h
    have hpure := pure_exec a.eval o hp (hv hw)
    cases hr : (execOp a.eval o).run P w with
    | halt x w' => rw [hr] at h; exact h.elim
    | ok x w' =>
      obtain ⟨v, rfl⟩ := valued_exec a.eval o (by simp [hp]) w x w' hr
      exact ⟨v, .inl ⟨hw, fun W _ => (hpure _ _ _ hr).2 W⟩⟩
theorem gives_of_read {o : Oper} {a : Act} {w : World} {K : (Act → Act) → World → Prop} (hp : isRead o.op = true) (h : eff P ops o a w K) : ∃ v, Gives P ops o a (Ext w) v := by
  cases hw : Region.wanted o (yielded ops a.tmps) with
  | false => exact ⟨undef, .inr ⟨hw, rfl⟩⟩
  | true =>
    unfold eff at h
    rw [if_pos hw] at h
    have hread := read_exec (P := P) a.eval o hp
    cases hr : (execOp a.eval o).run P w with
    | halt x w' => rw [hr] at h; exact h.elim
    | ok x w' =>
      obtain ⟨v, rfl⟩ := valued_exec (P := P) a.eval o (by simp [hp]) w x w' hr
      exact ⟨v, .inl ⟨hw, fun W hW => (hread _ _ _ hr).2 W hW⟩⟩
/-- A read or a new block: one value, in a world that has grown. -/
theorem eff_newish {o : Oper} {a : Act} {w : World} {K : (Act → Act) → World → Prop} (hp : (isRead o.op || isNew o.op) = true) (h : eff P ops o a w K) :
    eff P ops o a w (fun g w' => Ext w w' ∧ K g w') := by
  unfold eff at *
  split
  · rename_i hw
    rw [if_pos hw] at h
    cases hr : (execOp a.eval o).run P w with
    | halt x w' => rw [hr] at h; exact h.elim
    | ok x w' =>
      obtain ⟨v, rfl⟩ := valued_exec (P := P) a.eval o (by rw [Bool.or_assoc, hp]; simp) w x w' hr
      rw [hr] at h
      refine ⟨?_, h⟩
      cases h1 : isRead o.op with
      | true => exact (read_exec (P := P) a.eval o h1).new _ _ _ hr
      | false => exact new_exec (P := P) a.eval o (by simpa [h1] using hp) _ _ _ hr
  · rename_i hw; rw [if_neg hw] at h; exact ⟨Ext.refl _, h⟩
def swapOK (P : Program) (ops : Array Oper) (x y : Oper) : Bool :=
  x.apart ops y && (isPure P x.op || isPure P y.op || (isRead x.op && (isRead y.op || isNew y.op)))
theorem commute {i j : Nat} {oi oj : Oper} (hi : ops[i]? = some oi) (hj : ops[j]? = some oj) (hQ : OnlyN Q) (hsw : swapOK P ops oi oj = true)
    (hsi : ∀ cs b, oi.op ≠ .select cs b) (hsj : ∀ cs b, oj.op ≠ .select cs b) {a : Act} {w : World} {K : Act → World → Prop}
    (hvi : Region.wanted oi (yielded ops a.tmps) = true → okVal a.eval oi.op = true) (hvj : Region.wanted oj (yielded ops a.tmps) = true → okVal a.eval oj.op = true)
    (H : wpOp P ops Q i (wpOp P ops Q j K) a w) : wpOp P ops Q j (wpOp P ops Q i K) a w := by
  simp only [swapOK, Bool.and_eq_true] at hsw
  obtain ⟨hap, hcl⟩ := hsw
  obtain ⟨h1, h2, h3⟩ := Oper.apart_spec hap
  have h2' : ∀ d, oj.dst = some d → oi.dst ≠ some d := fun d e e' => h2 d e' e
  rw [wpOp_iff hi hQ] at H
  rw [wpOp_iff hj hQ]
  -- the other one's state is no other for either
  have stepj : ∀ v, eff P ops oj (a.put oi.dst v) w (fun g w' => K (g (a.put oi.dst v)) w') → eff P ops oj a w (fun g w' => K ((g a).put oi.dst v) w') := by
    intro v hh
    have := eff_same (a' := a) (execOp_put oj hsj a oi.dst v h1).symm (wanted_put oj a oi.dst v h1).symm hh
    exact eff_mono (fun g w' hg hk => by rw [← hg.comm a oi.dst v h2]; exact hk) this
  by_cases c1 : isPure P oi.op = true
  · obtain ⟨v, hv⟩ := gives_of_pure c1 hvi H
    rw [hv.eff w trivial] at H
    rw [wpOp_iff hj hQ] at H
    refine eff_mono (fun g w' hg hk => ?_) (stepj v H)
    rw [wpOp_iff hi hQ]
    have hv' := hv.same (hg.exec (ops := ops) a oi hsi h3) (hg.wanted a oi h3)
    rw [hv'.eff w' trivial]
    exact hk
  · by_cases c2 : isPure P oj.op = true
    · obtain ⟨g0, w0, hg0, hk0⟩ := eff_exists H
      rw [wpOp_iff hj hQ] at hk0
      obtain ⟨v, hv0⟩ := gives_of_pure c2 (fun hw => by
        have hw' : Region.wanted oj (yielded ops a.tmps) = true := by rw [← hg0.wanted (ops := ops) a oj h1]; exact hw
        have := hvj hw'
        rw [okVal_congr oj.op (hg0.evals (ops := ops) a oj h1)]
        exact this) hk0
      have hv := hv0.same (hg0.exec (ops := ops) a oj hsj h1).symm (hg0.wanted a oj h1).symm
      rw [hv.eff w trivial, wpOp_iff hi hQ]
      have H' : eff P ops oi a w (fun g w' => K (g (a.put oj.dst v)) w') := eff_mono (fun g w' hg hk => by
        rw [wpOp_iff hj hQ] at hk
        have hv' := hv.same (hg.exec (ops := ops) a oj hsj h1) (hg.wanted a oj h1)
        rw [hv'.eff w' trivial] at hk
        rw [hg.comm a oj.dst v h2']
        exact hk) H
      exact eff_same (execOp_put oi hsi a oj.dst v h3) (wanted_put oi a oj.dst v h3) H'
    · simp only [c1, c2, Bool.false_or, Bool.and_eq_true] at hcl
      obtain ⟨c3, c4⟩ := hcl
      obtain ⟨v, hv⟩ := gives_of_read c3 H
      rw [hv.eff w (Ext.refl _)] at H
      rw [wpOp_iff hj hQ] at H
      refine eff_mono (fun g w' hg hk => ?_) (eff_newish c4 (stepj v H))
      rw [wpOp_iff hi hQ]
      have hv' := hv.same (hg.exec (ops := ops) a oi hsi h3) (hg.wanted a oi h3)
      rw [hv'.eff w' hk.1]
      exact hk.2
/-- Operations whose operands are asked at the end. -/
def asked : Op → Bool
  | .binOp .. | .nilCheck _ => true
  | .call c => (lenCall c).isSome
  | _ => false
theorem okVal_of_not_asked (ρ : Operand → Value) (op : Op) (h : asked op = false) : okVal ρ op = true := by
  cases op <;> first | rfl | (cases h; done) | skip
  case call c =>
    simp only [asked] at h
    simp only [okVal]
    cases hc : lenCall c with
    | none => rfl
    | some x => rw [hc] at h; cases h
def noSel : Op → Bool
  | .select .. => false
  | _ => true
/-- The closed check on a region's operations: m says of each which come before it. -/
def lexCheck (P : Program) (ops : Array Oper) (m : Array Nat) : Bool :=
  let n := ops.size
  (List.range n).all fun j => (ops[j]?).all fun oj =>
    noSel oj.op &&
    (oj.after.toList.all fun e => !Region.binds .any e || e.on < j) &&
    (List.range n).all fun i => (ops[i]?).all fun oi =>
      (!(m.getD j 0).testBit i || oj.after.toList.any fun e => Region.binds .any e && (e.on == i || (m.getD e.on 0).testBit i)) &&
      (!(i < j) || (m.getD j 0).testBit i || swapOK P ops oi oj) &&
      (!asked oj.op || (match oi.dst with | some d => !(oj.looksAt ops).contains d || (m.getD j 0).testBit i | none => true))
structure Lexed (P : Program) (ops : Array Oper) (m : Array Nat) : Prop where
  sel : ∀ (j : Nat) oj, ops[j]? = some oj → ∀ cs b, oj.op ≠ .select cs b
  low : ∀ (j : Nat) oj, ops[j]? = some oj → ∀ e ∈ oj.after, Region.binds .any e = true → e.on < j
  mask : ∀ (j i : Nat) oj oi, ops[j]? = some oj → ops[i]? = some oi → (m.getD j 0).testBit i = true → ∃ e ∈ oj.after, Region.binds .any e = true ∧ (e.on = i ∨ (m.getD e.on 0).testBit i = true)
  swap : ∀ (j i : Nat) oj oi, ops[j]? = some oj → ops[i]? = some oi → i < j → (m.getD j 0).testBit i = true ∨ swapOK P ops oi oj = true
  dsts : ∀ (j i : Nat) oj oi d, ops[j]? = some oj → ops[i]? = some oi → asked oj.op = true → oi.dst = some d → d ∈ oj.looksAt ops → (m.getD j 0).testBit i = true
theorem lexed_of {m : Array Nat} (h : lexCheck P ops m = true) : Lexed P ops m := by
  unfold lexCheck at h
  simp only [List.all_eq_true, List.mem_range] at h
  have lt : ∀ {j : Nat} {o : Oper}, ops[j]? = some o → j < ops.size := fun e => (Array.getElem?_eq_some_iff.1 e).1
  have hj : ∀ (j : Nat) oj, ops[j]? = some oj → _ := fun j oj e => by
    have := h j (lt e)
    rw [e] at this
    simp only [Option.all_some, Bool.and_eq_true, List.all_eq_true, List.mem_range] at this
    exact this
  have hji : ∀ (j i : Nat) oj oi, ops[j]? = some oj → ops[i]? = some oi → _ := fun j i oj oi e e' => by
    have := (hj j oj e).2 i (lt e')
    rw [e'] at this
    simp only [Option.all_some, Bool.and_eq_true] at this
    exact this
  refine ⟨?_, ?_, ?_, ?_, ?_⟩
  · intro j oj e cs b hs
    have := (hj j oj e).1.1
    rw [hs] at this; cases this
  · intro j oj e ed hed hb
    have := (hj j oj e).1.2 ed (by simpa using hed)
    rw [hb] at this; simpa using this
  · intro j i oj oi e e' hb
    have := (hji j i oj oi e e').1.1
    rw [hb] at this
    simp only [Bool.not_true, Bool.false_or, List.any_eq_true, Bool.and_eq_true, Bool.or_eq_true, beq_iff_eq] at this
    obtain ⟨ed, h1, h2, h3⟩ := this
    exact ⟨ed, by simpa using h1, h2, h3⟩
  · intro j i oj oi e e' hlt
    have := (hji j i oj oi e e').1.2
    simpa [hlt] using this
  · intro j i oj oi d e e' ha hd hm
    have := (hji j i oj oi e e').2
    rw [ha, hd] at this
    simpa [hm] using this
/-- What has come up is closed downwards. -/
def Down (ops : Array Oper) (listed : Array Bool) : Prop :=
  ∀ (x : Nat) o, listed.getD x false = true → ops[x]? = some o → ∀ e ∈ o.after, Region.binds .any e = true → listed.getD e.on false = true
theorem ready_iff {listed : Array Bool} {i : Nat} : i ∈ Region.ready .any ops listed ↔
    ∃ o, ops[i]? = some o ∧ listed.getD i true = false ∧ ∀ e ∈ o.after, Region.binds .any e = true → listed.getD e.on false = true := by
  unfold Region.ready
  simp only [List.mem_filter, List.mem_range, Bool.and_eq_true, Bool.not_eq_true']
  constructor
  · rintro ⟨h1, h2, h3⟩
    cases ho : ops[i]? with
    | none => rw [ho] at h3; cases h3
    | some o =>
      rw [ho] at h3
      simp only [Option.map_some, Option.getD_some, Array.all_eq_true] at h3
      refine ⟨o, rfl, h2, fun e he hb => ?_⟩
      obtain ⟨k, hk, rfl⟩ := Array.mem_iff_getElem.1 he
      have := h3 k hk
      rw [hb] at this; simpa using this
  · rintro ⟨o, ho, h2, h3⟩
    refine ⟨(Array.getElem?_eq_some_iff.1 ho).1, h2, ?_⟩
    rw [ho]
    simp only [Option.map_some, Option.getD_some, Array.all_eq_true]
    intro k hk
    cases hb : Region.binds .any o.after[k] with
    | false => rfl
    | true => simp [h3 _ (Array.getElem_mem hk) hb]
theorem listed_of_mask {m : Array Nat} (L : Lexed P ops m) {listed : Array Bool} (hd : Down ops listed) : ∀ (n x : Nat), x < n → ∀ o, ops[x]? = some o →
    (∀ e ∈ o.after, Region.binds .any e = true → listed.getD e.on false = true) → ∀ i oi, ops[i]? = some oi → (m.getD x 0).testBit i = true → listed.getD i false = true := by
  intro n
  induction n with
  | zero => intro x hx; omega
  | succ n ih =>
    intro x hx o ho hr i oi hi hb
    obtain ⟨e, he, hbe, h⟩ := L.mask x i o oi ho hi hb
    have hl := hr e he hbe
    rcases h with rfl | h
    · exact hl
    · have hlt := L.low x o ho e he hbe
      have hsz : e.on < ops.size := Nat.lt_trans hlt (Array.getElem?_eq_some_iff.1 ho).1
      have ho' : ops[e.on]? = some ops[e.on] := Array.getElem?_eq_getElem hsz
      exact ih e.on (by omega) _ ho' (fun e' he' hb' => hd e.on _ hl ho' e' he' hb') i oi hi h
theorem getD_set (listed : Array Bool) (i x : Nat) (d : Bool) (hi : i < listed.size) : (listed.setIfInBounds i true).getD x d = if x = i then true else listed.getD x d := by
  simp only [Array.getD_eq_getD_getElem?]
  by_cases h : x = i
  · subst h; simp [hi]
  · rw [Array.getElem?_setIfInBounds_ne (by omega), if_neg h]
theorem getD_tf {listed : Array Bool} {x : Nat} (hx : x < listed.size) : listed.getD x true = listed.getD x false := by
  simp [Array.getD_eq_getD_getElem?, hx]
theorem Down.set {listed : Array Bool} (hd : Down ops listed) {i : Nat} (hi : i ∈ Region.ready .any ops listed) (hs : listed.size = ops.size) : Down ops (listed.setIfInBounds i true) := by
  obtain ⟨o, ho, _, hr⟩ := ready_iff.1 hi
  have hlt : i < listed.size := by rw [hs]; exact (Array.getElem?_eq_some_iff.1 ho).1
  intro x ox hx hox e he hb
  rw [getD_set _ _ _ _ hlt] at hx ⊢
  split
  · rfl
  · split at hx
    · rename_i h; subst h; rw [ho] at hox; injection hox with hox; subst hox; exact hr e he hb
    · exact hd x ox hx hox e he hb
theorem ready_set {listed : Array Bool} {i j : Nat} (hs : listed.size = ops.size) (hi : i ∈ Region.ready .any ops listed) (hj : j ∈ Region.ready .any ops listed) (hne : j ≠ i) : j ∈ Region.ready .any ops (listed.setIfInBounds i true) := by
  obtain ⟨o, ho, hu, hr⟩ := ready_iff.1 hj
  obtain ⟨oi, hoi, _, _⟩ := ready_iff.1 hi
  have hlt : i < listed.size := by rw [hs]; exact (Array.getElem?_eq_some_iff.1 hoi).1
  refine ready_iff.2 ⟨o, ho, by rw [getD_set _ _ _ _ hlt, if_neg hne]; exact hu, fun e he hb => ?_⟩
  rw [getD_set _ _ _ _ hlt]
  split
  · rfl
  · exact hr e he hb
/-- From whatever is left to run, an end with the old slots that nothing left writes. -/
theorem final_of (hQ : OnlyN Q) : ∀ (fuel : Nat) (listed : Array Bool) (a : Act) (w : World), listed.size = ops.size → wpAny P .any ops Q fuel listed a w →
    ∃ a' w', Q .normal a' w' ∧ ∀ t : Tmp, (∀ (x : Nat) o, ops[x]? = some o → listed.getD x true = false → o.dst ≠ some t) → a'.tmps[t]? = a.tmps[t]? := by
  intro fuel
  induction fuel with
  | zero => intro listed a w _ h; exact ⟨a, w, h.2, fun _ _ => rfl⟩
  | succ fuel ih =>
    intro listed a w hs h
    cases hr : Region.ready .any ops listed with
    | nil => exact ⟨a, w, h.1 hr, fun _ _ => rfl⟩
    | cons i rest =>
      have hi : i ∈ Region.ready .any ops listed := by rw [hr]; exact List.mem_cons_self
      obtain ⟨o, ho, hu, _⟩ := ready_iff.1 hi
      have hlt : i < listed.size := by rw [hs]; exact (Array.getElem?_eq_some_iff.1 ho).1
      have h1 := h.2 i hi
      rw [wpOp_iff ho hQ] at h1
      obtain ⟨g, w1, hg, hk⟩ := eff_exists h1
      obtain ⟨a', w', hq, ht⟩ := ih _ _ _ (by simpa using hs) hk
      refine ⟨a', w', hq, fun t hx => ?_⟩
      rw [ht t (fun x ox hox hux => hx x ox hox (by
        rw [getD_set _ _ _ _ hlt] at hux
        split at hux
        · cases hux
        · exact hux))]
      exact hg.tmps a t (hx i o ho hu)
/-- Of every operation that was carried out the operands are plain. -/
def okAll (ops : Array Oper) (a : Act) : Bool := ops.toList.all fun o => !Region.wanted o (yielded ops a.tmps) || okVal a.eval o.op
theorem eval_eq {a a' : Act} {x : Operand} (h : ∀ t, x = .tmp t → a'.tmps[t]? = a.tmps[t]?) : a'.eval x = a.eval x := by
  cases x with
  | tmp t =>
    have := h t rfl
    simp only [Act.eval]
    simp [Array.getD_eq_getD_getElem?, this]
  | _ => rfl
theorem ok_now {m : Array Nat} (L : Lexed P ops m) (hQ : OnlyN Q) (hend : ∀ a w, Q .normal a w → okAll ops a = true) {listed : Array Bool} {a : Act}
    (hs : listed.size = ops.size) (hd : Down ops listed) (h : ∃ a1 w1 fuel' listed', listed'.size = ops.size ∧ (∀ x, listed'.getD x true = false → listed.getD x true = false) ∧
      (∀ t : Tmp, (∀ (x : Nat) o, ops[x]? = some o → listed.getD x true = false → o.dst ≠ some t) → a1.tmps[t]? = a.tmps[t]?) ∧ wpAny P .any ops Q fuel' listed' a1 w1)
    {j : Nat} {oj : Oper} (hj : j ∈ Region.ready .any ops listed) (hoj : ops[j]? = some oj) (hw : Region.wanted oj (yielded ops a.tmps) = true) : okVal a.eval oj.op = true := by
  cases ha : asked oj.op with
  | false => exact okVal_of_not_asked _ _ ha
  | true =>
    obtain ⟨a1, w1, fuel', listed', hs', hsub, ht1, hany⟩ := h
    obtain ⟨a', w', hq, ht⟩ := final_of hQ fuel' listed' a1 w1 hs' hany
    have hok := hend a' w' hq
    obtain ⟨o, ho, hu, hr⟩ := ready_iff.1 hj
    rw [hoj] at ho; injection ho with ho; subst ho
    have same : ∀ t ∈ oj.looksAt ops, a'.tmps[t]? = a.tmps[t]? := by
      intro t htm
      have hno : ∀ (x : Nat) o, ops[x]? = some o → listed.getD x true = false → o.dst ≠ some t := by
        intro x ox hox hux hdx
        have hb := L.dsts j x oj ox t hoj hox ha hdx htm
        have hl := listed_of_mask L hd (j + 1) j (by omega) oj hoj hr x ox hox hb
        rw [getD_tf (by rw [hs]; exact (Array.getElem?_eq_some_iff.1 hox).1), hl] at hux
        cases hux
      rw [ht t (fun x ox hox hux => hno x ox hox (hsub x hux)), ht1 t hno]
    have hev : ∀ x ∈ oj.op.operands, a'.eval x = a.eval x := fun x hx => eval_eq fun t e => same t (by
      subst e
      exact List.mem_append_left _ (List.mem_filterMap.2 ⟨.tmp t, by simpa using hx, rfl⟩))
    have hwt : Region.wanted oj (yielded ops a'.tmps) = Region.wanted oj (yielded ops a.tmps) := by
      unfold Region.wanted
      cases hg : oj.guard with
      | none => rfl
      | some p =>
        obtain ⟨k, b⟩ := p
        simp only []
        have : yielded ops a'.tmps k = yielded ops a.tmps k := by
          unfold yielded
          cases hk : (ops[k]?).bind (·.dst) with
          | none => rfl
          | some t =>
            have := same t (by unfold Oper.looksAt; rw [hg]; simp [hk])
            simp [this]
        rw [this]
    unfold okAll at hok
    have := List.all_eq_true.1 hok oj (by
      have := Array.mem_of_getElem? hoj
      simpa using this)
    rw [hwt, hw] at this
    rw [← okVal_congr oj.op hev]
    simpa using this
theorem any_first {m : Array Nat} (L : Lexed P ops m) (hQ : OnlyN Q) (hend : ∀ a w, Q .normal a w → okAll ops a = true) {i : Nat} {oi : Oper} (hi : ops[i]? = some oi) :
    ∀ (fuel : Nat) (listed : Array Bool) (a : Act) (w : World), listed.size = ops.size → Down ops listed → (∀ x, x < i → listed.getD x true = true) → i ∈ Region.ready .any ops listed →
      wpOp P ops Q i (wpAny P .any ops Q fuel (listed.setIfInBounds i true)) a w → wpAny P .any ops Q (fuel + 1) listed a w := by
  intro fuel
  induction fuel with
  | zero =>
    intro listed a w hs hd hlow hr H
    refine ⟨fun h => (by rw [h] at hr; cases hr), fun j hj => ?_⟩
    by_cases hji : j = i
    · subst hji; exact H
    · exfalso
      rw [wpOp_iff hi hQ] at H
      obtain ⟨g, w1, _, hk⟩ := eff_exists H
      have := ready_set hs hr hj hji
      rw [hk.1] at this
      cases this
  | succ fuel ih =>
    intro listed a w hs hd hlow hr H
    refine ⟨fun h => (by rw [h] at hr; cases hr), fun j hj => ?_⟩
    by_cases hji : j = i
    · subst hji; exact H
    · have hlti : i < listed.size := by rw [hs]; exact (Array.getElem?_eq_some_iff.1 hi).1
      obtain ⟨oj, hoj, huj, hrj⟩ := ready_iff.1 hj
      have hltj : j < listed.size := by rw [hs]; exact (Array.getElem?_eq_some_iff.1 hoj).1
      obtain ⟨_, hoi', hui, _⟩ := ready_iff.1 hr
      have hlt : i < j := by
        rcases Nat.lt_or_ge j i with h | h
        · rw [hlow j h] at huj; cases huj
        · omega
      have hswap : swapOK P ops oi oj = true := by
        rcases L.swap j i oj oi hoj hi hlt with h | h
        · have := listed_of_mask L hd (j + 1) j (by omega) oj hoj hrj i oi hi h
          rw [getD_tf hlti, this] at hui
          cases hui
        · exact h
      have H' : wpOp P ops Q i (wpOp P ops Q j (wpAny P .any ops Q fuel ((listed.setIfInBounds i true).setIfInBounds j true))) a w :=
        wpOp_mono (fun a w h => h.2 j (ready_set hs hr hj hji)) H
      have hex : ∃ a1 w1 fuel' listed', listed'.size = ops.size ∧ (∀ x, listed'.getD x true = false → listed.getD x true = false) ∧
          (∀ t : Tmp, (∀ (x : Nat) o, ops[x]? = some o → listed.getD x true = false → o.dst ≠ some t) → a1.tmps[t]? = a.tmps[t]?) ∧ wpAny P .any ops Q fuel' listed' a1 w1 := by
        rw [wpOp_iff hi hQ] at H
        obtain ⟨g, w1, hg, hk⟩ := eff_exists H
        refine ⟨g a, w1, _, _, by simpa using hs, fun x hx => ?_, fun t ht => hg.tmps a t (ht i oi hi hui), hk⟩
        rw [getD_set _ _ _ _ hlti] at hx
        split at hx
        · cases hx
        · exact hx
      have H2 := commute hi hoj hQ hswap (L.sel i oi hi) (L.sel j oj hoj) (fun hw => ok_now L hQ hend hs hd hex hr hi hw) (fun hw => ok_now L hQ hend hs hd hex hj hoj hw) H'
      refine wpOp_mono (fun a' w' h => ?_) H2
      refine ih _ a' w' (by simpa using hs) (hd.set hj hs) (fun x hx => ?_) (ready_set hs hj hr (Ne.symm hji)) ?_
      · rw [getD_set _ _ _ _ hltj]
        split
        · rfl
        · exact hlow x hx
      · rw [Array.setIfInBounds_comm _ _ (Ne.symm hji)] at h
        exact h
theorem any_of_lex {m : Array Nat} (L : Lexed P ops m) (hQ : OnlyN Q) (hend : ∀ a w, Q .normal a w → okAll ops a = true) :
    ∀ (r k : Nat) (listed : Array Bool) (a : Act) (w : World), k + r = ops.size → listed.size = ops.size → (∀ x, x < ops.size → listed.getD x false = decide (x < k)) →
      wpOps P ops Q (List.range' k r) a w → wpAny P .any ops Q r listed a w := by
  intro r
  induction r with
  | zero =>
    intro k listed a w hk hs hl h
    refine ⟨?_, h⟩
    rw [List.eq_nil_iff_forall_not_mem]
    intro i hi
    obtain ⟨o, ho, hu, _⟩ := ready_iff.1 hi
    have hlt := (Array.getElem?_eq_some_iff.1 ho).1
    rw [getD_tf (by rw [hs]; exact hlt), hl i hlt] at hu
    simp at hu; omega
  | succ r ih =>
    intro k listed a w hk hs hl h
    rw [List.range'_succ, wpOps_cons] at h
    have hlt : k < ops.size := by omega
    have ho : ops[k]? = some ops[k] := Array.getElem?_eq_getElem hlt
    have hd : Down ops listed := by
      intro x o hx hox e he hb
      have hxs := (Array.getElem?_eq_some_iff.1 hox).1
      have h1 := L.low x o hox e he hb
      rw [hl x hxs] at hx
      rw [hl e.on (by omega)]
      simp at hx ⊢; omega
    have hready : k ∈ Region.ready .any ops listed := by
      refine ready_iff.2 ⟨_, ho, ?_, fun e he hb => ?_⟩
      · rw [getD_tf (by rw [hs]; exact hlt), hl k hlt]; simp
      · have h1 := L.low k _ ho e he hb
        rw [hl e.on (by omega)]; simp; omega
    refine any_first L hQ hend ho r listed a w hs hd (fun x hx => ?_) hready (wpOp_mono (fun a w h => ih (k + 1) _ a w (by omega) (by simpa using hs) (fun x hx => ?_) h) h)
    · rw [getD_tf (by rw [hs]; omega), hl x (by omega)]; simp; omega
    · rw [getD_set _ _ _ _ (by rw [hs]; exact hlt), hl x hx]
      split
      · rename_i e; subst e; simp
      · rename_i hne
        by_cases h1 : x < k <;> simp [h1] <;> omega
/-- What is asked behind a region that is walked in the order of its text. -/
def Behind (ops : Array Oper) (Q : Exit → Act → World → Prop) : Exit → Act → World → Prop
  | .normal, a, w => okAll ops a = true ∧ Q .normal a w
  | _, _, _ => False
end
end Go.Proofs.Lexi
namespace Go.Proofs.YtalfoihffnlelaaGreatDoor
open Go.RowKit Go.Proofs.Lexi Go.ChangeMaps Go.MapKept
open Go.Maps (Keyed)
/-- What a call changes: the blocks in F, and new ones. -/
structure Mods (F : Nat → Prop) (w w' : World) : Prop where
  os : w'.os = w.os
  tape : w'.tape = w.tape
  output : w'.output = w.output
  size : w.heap.size ≤ w'.heap.size
  block : ∀ k, k < w.heap.size → ¬ F k → w'.heap[k]? = w.heap[k]?
theorem Mods.of_below {F : Nat → Prop} {w w' : World} (h : Below w.heap.size w w') : Mods F w w' := ⟨h.os, h.tape, h.output, h.size, fun k hk _ => h.block k hk⟩
theorem Mods.below {F : Nat → Prop} {B : Nat} {w w' : World} (h : Mods F w w') (hB : B ≤ w.heap.size) (hF : ∀ k, k < B → ¬ F k) : Below B w w' :=
  ⟨h.os, h.tape, h.output, h.size, fun k hk => h.block k (by omega) (hF k hk)⟩
theorem Mods.refl (F : Nat → Prop) (w : World) : Mods F w w := ⟨rfl, rfl, rfl, Nat.le_refl _, fun _ _ _ => rfl⟩
theorem Mods.trans {F : Nat → Prop} {a b c : World} (h : Mods F a b) (k : Mods F b c) : Mods F a c :=
  ⟨k.os.trans h.os, k.tape.trans h.tape, k.output.trans h.output, Nat.le_trans h.size k.size, fun i hi hF => (k.block i (Nat.lt_of_lt_of_le hi h.size) hF).trans (h.block i hi hF)⟩
theorem Mods.mono {F G : Nat → Prop} {a b : World} (h : Mods F a b) (hFG : ∀ k, k < a.heap.size → F k → G k) : Mods G a b :=
  ⟨h.os, h.tape, h.output, h.size, fun k hk hG => h.block k hk (fun hF => hG (hFG k hk hF))⟩
variable {P : Program}
/-- The stamps of a map's entries: no two are alike, all lie below the clock. -/
def Born (es : Array MapEntry) (c : Nat) : Prop := (es.toList.map (·.born)).Nodup ∧ ∀ b ∈ es.toList.map (·.born), b < c
theorem Born.same {es es' : Array MapEntry} {c : Nat} (h : Born es c) (e : es'.toList.map (·.born) = es.toList.map (·.born)) : Born es' c := by
  unfold Born
  rw [e]
  exact h
theorem Born.erase {es : Array MapEntry} {c : Nat} (h : Born es c) (j : Nat) : Born (es.eraseIdxIfInBounds j) c := by
  have e : ((es.eraseIdxIfInBounds j).toList.map (·.born)) = (es.toList.map (·.born)).eraseIdx j := by rw [Array.toList_eraseIdxIfInBounds, map_eraseIdx]
  unfold Born
  rw [e]
  exact ⟨h.1.sublist (List.eraseIdx_sublist _ _), fun b hb => h.2 b (List.mem_of_mem_eraseIdx hb)⟩
/-- A map's entries, in the order of the block. -/
def MapAt (P : Program) (k : TypeId) (w : World) (b : Nat) (E : List (Value × Value)) : Prop :=
  ∃ es clock, w.heap[b]? = some (.map es clock) ∧ es.toList.map (fun e => (e.key, e.val)) = E ∧ (∀ p ∈ E, ∃ l, keyOf P k p.1 = some l) ∧ E.Pairwise (fun p q => p.1 ≠ q.1) ∧ Born es clock
theorem MapAt.lt {k : TypeId} {w : World} {b : Nat} {E : List (Value × Value)} (h : MapAt P k w b E) : b < w.heap.size := by
  obtain ⟨es, c, hb, _⟩ := h
  exact (Array.getElem?_eq_some_iff.1 hb).1
theorem MapAt.keep {k : TypeId} {w w' : World} {b : Nat} {E : List (Value × Value)} (h : MapAt P k w b E) (hk : w'.heap[b]? = w.heap[b]?) : MapAt P k w' b E := by
  obtain ⟨es, c, hb, r⟩ := h
  exact ⟨es, c, hk.trans hb, r⟩
theorem mem_entries {es : Array MapEntry} {E : List (Value × Value)} (hE : es.toList.map (fun e => (e.key, e.val)) = E) {j : Nat} {e : MapEntry} (hj : es.toList[j]? = some e) : E[j]? = some (e.key, e.val) := by
  rw [← hE, List.getElem?_map, hj]; rfl
section
variable {k e t : TypeId} {w : World} {b : Nat} {E : List (Value × Value)}
theorem MapAt.find (h : MapAt P k w b E) (K : Keyed P k) {x : Value} {l : Lit} (hx : keyOf P k x = some l) {es : Array MapEntry} {c : Nat} (hb : w.heap[b]? = some (.map es c)) :
    ((Instr.findKey k x es.toList).run P w = .ok none w ∧ ∀ p ∈ E, p.1 ≠ x) ∨ ∃ j v, (Instr.findKey k x es.toList).run P w = .ok (some (j, v)) w ∧ E[j]? = some (x, v) ∧ j < es.size ∧ (es[j]?).map (·.key) = some x := by
  obtain ⟨es', c', hb', hE, hk, hd, _⟩ := h
  rw [hb] at hb'
  injection hb' with hb'
  injection hb' with h1 h2
  subst h1 h2
  rcases K.find w hx es.toList (fun y hy => by
    obtain ⟨j, hj⟩ := List.getElem?_of_mem hy
    exact hk _ (List.mem_of_getElem? (mem_entries hE hj))) with ⟨h1, h2⟩ | ⟨j, y, h1, h2, h3⟩
  · refine .inl ⟨h1, fun p hp => ?_⟩
    rw [← hE, List.mem_map] at hp
    obtain ⟨y, hy, rfl⟩ := hp
    exact h2 y hy
  · refine .inr ⟨j, y.val, h1, by rw [mem_entries hE h2, h3], ?_, ?_⟩
    · have := (List.getElem?_eq_some_iff.1 h2).1
      rwa [Array.length_toList] at this
    · rw [← Array.getElem?_toList, h2, ← h3]; rfl
/-- The deletion. -/
theorem MapAt.drop (h : MapAt P k w b E) (K : Keyed P k) (ht : P.underlying t = some (.map k e)) {x : Value} {l : Lit} (hx : keyOf P k x = some l) (ty : TypeId) :
    ∃ w' E', (Builtin.delete_ #[t, k] ty #[.map (some b), x]).run P w = .ok (.tuple #[]) w' ∧ MapAt P k w' b E' ∧ Mods (· = b) w w' ∧ w'.heap.size = w.heap.size ∧
      (∀ p, p ∈ E' ↔ p ∈ E ∧ p.1 ≠ x) := by
  have h0 := h
  obtain ⟨es, cl, hb, hE, hk, hd, hn⟩ := h0
  rcases h.find K hx hb with ⟨h1, h2⟩ | ⟨j, v0, h1, h2, h3, h4⟩
  · refine ⟨_, E, by simp [Builtin.delete_, run_underlying ht, MapKept.run_getObj_map hb, K.check w es.isEmpty hx, h1, MapKept.run_setObj_map _ hb, Result.andThen]; rfl, ?_, ?_, ?_, ?_⟩
    · exact ⟨_, _, (heap_set hb).1, hE, hk, hd, hn⟩
    · exact ⟨rfl, rfl, rfl, by simp, fun r _ hr => (heap_set hb).2 r hr⟩
    · simp
    · exact fun p => ⟨fun hp => ⟨hp, h2 p hp⟩, fun hp => hp.1⟩
  · have hl := (List.getElem?_eq_some_iff.1 h2).1
    have hjx : E[j] = (x, v0) := by rw [List.getElem?_eq_getElem hl] at h2; injection h2
    have hje : E.eraseIdx j = (es.eraseIdxIfInBounds j).toList.map (fun e => (e.key, e.val)) := by
      rw [← hE, Array.toList_eraseIdxIfInBounds, map_eraseIdx]
    refine ⟨_, E.eraseIdx j, by simp [Builtin.delete_, run_underlying ht, MapKept.run_getObj_map hb, K.check w es.isEmpty hx, h1, MapKept.run_setObj_map _ hb, Result.andThen]; rfl, ?_, ?_, ?_, ?_⟩
    · refine ⟨_, _, (heap_set hb).1, hje.symm, fun p hp => hk p (List.mem_of_mem_eraseIdx hp), hd.sublist (List.eraseIdx_sublist _ _), hn.erase j⟩
    · exact ⟨rfl, rfl, rfl, by simp, fun r _ hr => (heap_set hb).2 r hr⟩
    · simp
    · intro p
      rw [List.mem_eraseIdx_iff_getElem]
      constructor
      · rintro ⟨i, hi, hne, rfl⟩
        refine ⟨List.getElem_mem hi, fun hc => ?_⟩
        rcases Nat.lt_or_gt_of_ne hne with hlt | hgt
        · have := (List.pairwise_iff_getElem.1 hd) i j hi hl hlt
          rw [hjx] at this
          exact this hc
        · have := (List.pairwise_iff_getElem.1 hd) j i hl hi hgt
          rw [hjx] at this
          exact this hc.symm
      · rintro ⟨h5, h6⟩
        obtain ⟨i, hi, rfl⟩ := List.getElem_of_mem h5
        refine ⟨i, hi, ?_, rfl⟩
        rintro rfl
        rw [hjx] at h6
        exact h6 rfl
end
end Go.Proofs.YtalfoihffnlelaaGreatDoor
namespace Go.Proofs.YtalfoihffnlelaaGreatDoor
open Go.ChangeShapes Go.WideShapes Go.ChangeAt Go.WideMaps Go.WideElems Go.RowKit
theorem Tryz.own : ownKnob Tryz.prog.godebug = none := by kernel_rfl
theorem Tryz.tPow : ∃ g, Tryz.prog.globalNamed "internal/strconv.uint64pow10" = some g ∧ (Tryz.prog.globals[g]?).map (·.type) = some 131 := by
  refine ⟨(Tryz.prog.globalNamed "internal/strconv.uint64pow10").getD 0, ?_, ?_⟩ <;> kernel_rfl
theorem Tryz.cPow : Tryz.prog.cellsOf 131 = 20 := by kernel_rfl
theorem Tryz.c64 : Tryz.prog.cellsOf 97 = 1 := by kernel_rfl
set_option maxRecDepth 100000 in
theorem glob_zero {W : World} (hs : W.ShapedOpen Tryz.prog) : ∃ m, W.cell? ⟨0, 0, none⟩ = some (.int .i64 m) := by
  have e : ((begin Tryz.prog (fun _ _ => 0) default).world.heap[0]?).bind Obj.row? = some (#[.int .i64 0], 3) := by kernel_rfl
  obtain ⟨cs, h1, h2, h3⟩ := hs.1 0 #[.int .i64 0] 3 (of_decide_eq_true (by kernel_rfl)) e
  obtain ⟨ts, ht, _, hc⟩ := h3 (by kernel_rfl)
  have hct : Tryz.prog.cellTypes Tryz.prog.depth 3 = some [3] := by kernel_rfl
  rw [hct] at ht
  injection ht with ht
  subst ht
  have hz : 0 < cs.size := by rw [h2]; decide
  obtain ⟨u, hu, hv⟩ := hc 0 cs[0] (Array.getElem?_eq_getElem hz)
  injection hu with hu
  subst hu
  unfold Cell.ok at hv
  rw [Tryz.underlying3] at hv
  generalize hx : cs[0] = x at hv
  cases x with
  | int k n =>
    obtain ⟨rfl, _⟩ := hv
    exact ⟨n, by rw [cell_of_heap h1, Array.getElem?_eq_getElem hz, hx]⟩
  | _ => exact hv.elim
section
variable {H : Type} {enc : TypeId × Value → H} {P : Program}
theorem post_of_below {f : Func} {s : ChangeSpec} {apart fresh handsOn again : Bool} {W W' : World} {args : Array Value} {v : Value} {ds gs : List (DataW H)} {before pa pv : List MemPlace}
    (hW : DataW.Whole enc P f.params.toList s.vars apart W args.toList ds gs before)
    (hres : ∀ (b : Nat) (sp : Nat → Bool) (hd : Bool), DataW.TrodAll enc P W' b sp hd f.resultTypes.toList (v.resultList f.resultTypes.size) (s.fn H (ds ++ gs)).results [])
    (hargs : ∀ sp : Nat → Bool, (∀ p ∈ before, sp p.block = true) → DataW.TrodAll enc P W' 0 sp true f.params.toList args.toList (s.fn H (ds ++ gs)).args pa)
    (hvars : ∀ sp : Nat → Bool, (∀ p ∈ before, sp p.block = true) → DataW.TrodVars enc P W' sp s.vars (s.fn H (ds ++ gs)).vars pv)
    (hps : before = pa ++ pv) (hb : Below W.heap.size W W')
    (hok : ∀ (j : Nat) (t : TypeId) (r : Value), f.resultTypes[j]? = some t → (v.resultList f.resultTypes.size)[j]? = some r → Value.okWide P W' .any 0 t r) :
    s.post enc P f apart fresh handsOn again W args v W' := by
  have hlt : ∀ p ∈ before, p.block < W.heap.size := fun p hp => hW.lt p hp
  have hold : ∀ p ∈ before, (fun b => decide (b < W.heap.size)) p.block = true := fun p hp => by simpa using hlt p hp
  refine ⟨ds, gs, before, [], pa, pv, hW, hres _ _ _, hargs _ hold, hvars _ hold, World.keptBut_mono (fun p hp => ⟨hp, ?_⟩) (hb.frame (· ∈ before)), fun _ => ?_⟩
  · rw [hps, List.mem_append] at hp
    exact Or.inr hp
  · obtain ⟨_, _, _, _, _, hz, hn⟩ := hW
    refine ⟨hok, _, _, ([] ++ pa) ++ pv, ⟨[] ++ pa, pv, trodAll_append (hargs _ (fun _ _ => rfl)) (hres _ _ _), hvars _ (fun _ _ => rfl), rfl, ?_, ?_⟩, ?_⟩
    · intro b off hp
      have hin : MemPlace.cell b off ∈ before := by rw [hps]; simpa using hp
      rw [hb.frozen (hlt _ hin)]
      exact hz b off hin
    · intro ha
      have := hn ha
      rw [hps] at this
      simpa using this
    · intro p hp _
      rw [hps]
      simpa using hp
end
section
variable {H : Type} {enc : TypeId × Value → H} {P : Program} {w : World} {base : Nat} {sp : Nat → Bool} {held : Bool}
theorem under_struct {t : TypeId} {l : List (TypeId × Nat)} (h : (match P.underlying t with | some (.struct fs) => decide (fs.toList.map (fun f => (f.type, f.offset)) = l) | _ => false) = true) : ∃ fs, P.underlying t = some (.struct fs) ∧ fs.toList.map (fun f => (f.type, f.offset)) = l := by
  split at h
  · rename_i fs hfs; exact ⟨fs, hfs, of_decide_eq_true h⟩
  · cases h
theorem trod_field {t : TypeId} {l : List (TypeId × Nat)} (hs : ∃ fs, P.underlying t = some (.struct fs) ∧ fs.toList.map (fun f => (f.type, f.offset)) = l) {fuel : Nat} {cs : List Value} {x : DataW H × List MemPlace} (h : DataW.trod enc P w base sp held fuel t cs = some x) :
    cs.length = P.cellsOf t ∧ ∃ n, ∀ (i : Nat) (ty : TypeId) (off : Nat), l[i]? = some (ty, off) → ∃ y, DataW.trod enc P w base sp held n ty ((cs.drop off).take (P.cellsOf ty)) = some y := by
  obtain ⟨fs, hf, rfl⟩ := hs
  obtain ⟨xs, n, _, _, hl, hlen, hx⟩ := DataW.trod_struct hf h
  refine ⟨hl, n, fun i ty off hi => ?_⟩
  rw [List.getElem?_map, Option.map_eq_some_iff] at hi
  obtain ⟨f, hf1, hf2⟩ := hi
  have hf1' : fs[i]? = some f := by simpa using hf1
  have := hx i f hf1'
  injection hf2 with e1 e2
  subst e1 e2
  have hi' : i < xs.length := by rw [hlen]; exact (Array.getElem?_eq_some_iff.1 hf1').1
  exact ⟨xs[i], by rw [this]; exact List.getElem?_eq_getElem hi'⟩
end
theorem i64_of_wf {n : Int} (h : (Lit.int .i64 n).wf = true) : i64 n := by
  have h2 : (decide ((-9223372036854775808 : Int) ≤ n) && decide (n ≤ (9223372036854775807 : Int))) = true := h
  rw [Bool.and_eq_true, decide_eq_true_eq, decide_eq_true_eq] at h2
  exact h2
theorem shape25 : ∃ fs, Tryz.prog.underlying 30 = some (.struct fs) ∧ fs.toList.map (fun f => (f.type, f.offset)) = [(3, 0), (28, 1), (9, 3), (3, 4)] := under_struct (by kernel_rfl)
theorem shape23 : ∃ fs, Tryz.prog.underlying 28 = some (.struct fs) ∧ fs.toList.map (fun f => (f.type, f.offset)) = [(3, 0), (3, 1)] := under_struct (by kernel_rfl)
theorem list_five {α : Type} {l : List α} (h : l.length = 5) : ∃ a b c d e, l = [a, b, c, d, e] := by
  match l, h with
  | [a, b, c, d, e], _ => exact ⟨a, b, c, d, e, rfl⟩
theorem open_cells {H : Type} {enc : TypeId × Value → H} {w : World} {base : Nat} {sp : Nat → Bool} {held : Bool} {fuel : Nat} {cs : List Value} {x : DataW H × List MemPlace} (h : DataW.trod enc Tryz.prog w base sp held fuel 30 cs = some x) :
    ∃ v : V, cs = [.int .i64 v.k, .int .i64 v.p, .int .i64 v.q, .string v.s, .int .i64 v.r] ∧ WfV v := by
  obtain ⟨hl, n, hf⟩ := trod_field shape25 h
  rw [cells25] at hl
  obtain ⟨a, b, c, d, e, rfl⟩ := list_five hl
  obtain ⟨y0, h0⟩ := hf 0 3 0 rfl
  obtain ⟨y1, h1⟩ := hf 1 28 1 rfl
  obtain ⟨y2, h2⟩ := hf 2 9 3 rfl
  obtain ⟨y3, h3⟩ := hf 3 3 4 rfl
  rw [cells3] at h0 h3
  rw [cells23] at h1
  rw [cells9] at h2
  obtain ⟨_, m, hg⟩ := trod_field shape23 h1
  obtain ⟨z0, g0⟩ := hg 0 3 0 rfl
  obtain ⟨z1, g1⟩ := hg 1 3 1 rfl
  rw [cells3] at g0 g1
  obtain ⟨k, hk, _, wk⟩ := DataW.trod_int Tryz.underlying3 h0
  obtain ⟨p, hp, _, wp⟩ := DataW.trod_int Tryz.underlying3 g0
  obtain ⟨q, hq, _, wq⟩ := DataW.trod_int Tryz.underlying3 g1
  obtain ⟨s, hs, _, ws⟩ := DataW.trod_string Tryz.underlying9 h2
  obtain ⟨r, hr, _, wr⟩ := DataW.trod_int Tryz.underlying3 h3
  simp at hk hp hq hs hr
  exact ⟨⟨k, p, q, s, r⟩, by rw [hk, hp, hq, hs, hr], ⟨i64_of_wf wk, i64_of_wf wp, i64_of_wf wq, ws, i64_of_wf wr⟩⟩
theorem Tryz.laidOut : laidOutB Tryz.prog = true := by kernel_rfl
end Go.Proofs.YtalfoihffnlelaaGreatDoor
namespace Go.Proofs.YtalfoihffnlelaaGreatDoor
open Go.RowKit Go.Proofs.Lexi
def vCells (v : V) : List Value := [.int .i64 v.k, .int .i64 v.p, .int .i64 v.q, .string v.s, .int .i64 v.r]
def rowV (A : List V) : List Value := A.flatMap vCells
theorem vCells_len (v : V) : (vCells v).length = 5 := rfl
theorem rowV_len (A : List V) : (rowV A).length = A.length * 5 := by
  induction A with
  | nil => rfl
  | cons v A ih => show (vCells v ++ rowV A).length = _; rw [List.length_append, vCells_len, ih, List.length_cons]; omega
theorem rowV_at : ∀ (A : List V) (i j : Nat) (v : V), A[i]? = some v → j < 5 → (rowV A)[i * 5 + j]? = (vCells v)[j]?
  | [], i, j, v, h, _ => by simp at h
  | x :: A, 0, j, v, h, hj => by
    rw [List.getElem?_cons_zero] at h
    injection h with h
    subst h
    show (vCells x ++ rowV A)[0 * 5 + j]? = _
    rw [List.getElem?_append_left (by rw [vCells_len]; omega)]
    congr 1
    omega
  | x :: A, i + 1, j, v, h, hj => by
    rw [List.getElem?_cons_succ] at h
    show (vCells x ++ rowV A)[(i + 1) * 5 + j]? = _
    rw [List.getElem?_append_right (by rw [vCells_len]; omega), vCells_len, show (i + 1) * 5 + j - 5 = i * 5 + j by omega]
    exact rowV_at A i j v h hj
theorem rowV_append (A B : List V) : rowV (A ++ B) = rowV A ++ rowV B := by unfold rowV; rw [List.flatMap_append]
theorem rowV_one {A : List V} : ∀ u ∈ rowV A, u.oneCell' = true := by
  intro u hu
  unfold rowV at hu
  rw [List.mem_flatMap] at hu
  obtain ⟨v, _, hu⟩ := hu
  simp only [vCells, List.mem_cons, List.mem_nil_iff, or_false] at hu
  rcases hu with rfl | rfl | rfl | rfl | rfl <;> rfl
theorem rowV_drop (A : List V) (k : Nat) : rowV (A.drop k) = (rowV A).drop (k * 5) := by
  induction A generalizing k with
  | nil => simp [rowV]
  | cons v A ih =>
    cases k with
    | zero => simp
    | succ k =>
      rw [List.drop_succ_cons, ih]
      show _ = (vCells v ++ rowV A).drop ((k + 1) * 5)
      rw [List.drop_append, show (vCells v).drop ((k + 1) * 5) = [] from List.drop_eq_nil_of_le (by rw [vCells_len]; omega), vCells_len, List.nil_append, show (k + 1) * 5 - 5 = k * 5 by omega]
theorem add_mk (g o n : Nat) (s : Option Nat) : (⟨g, o, s⟩ : Addr).add n = ⟨g, o + n, if n = 0 then s else none⟩ := by
  unfold Addr.add
  split
  · rename_i h; subst h; rfl
  · rfl
theorem add_none (g o n : Nat) : (⟨g, o, none⟩ : Addr).add n = ⟨g, o + n, none⟩ := by rw [add_mk]; split <;> rfl
theorem add_two (a : Addr) (n k : Nat) : (a.add n).add k = a.add (n + k) := by
  obtain ⟨g, o, s⟩ := a
  rw [add_mk, add_mk, add_mk]
  by_cases hn : n = 0
  · subst hn; simp
  · by_cases hk : k = 0
    · subst hk; simp
    · rw [if_neg hn, if_neg hk, if_neg (by omega)]
      simp; omega
/-- The slice sv holds the values A, for whoever reads. -/
def Vals (w : World) (sv : Value) (A : List V) : Prop :=
  ∃ so cap, sv = .slice so A.length cap ∧ A.length ≤ cap ∧ (so = none → cap = 0) ∧ (A = [] ∨ ∃ g o, so = some ⟨g, o, none⟩ ∧ g < w.heap.size ∧ ∀ j u, (rowV A)[j]? = some u → w.cell? ⟨g, o + j, none⟩ = some u)
theorem Vals.below {w w' : World} {sv : Value} {A : List V} (h : Vals w sv A) (hb : Below w.heap.size w w') : Vals w' sv A := by
  obtain ⟨so, cap, h1, h2, hn, h3⟩ := h
  refine ⟨so, cap, h1, h2, hn, ?_⟩
  rcases h3 with h3 | ⟨g, o, h4, h5, h6⟩
  · exact .inl h3
  · exact .inr ⟨g, o, h4, Nat.lt_of_lt_of_le h5 hb.size, fun j u hj => keepCell hb (h6 j u hj)⟩
theorem Vals.of_row {w : World} {base : Nat} {sv : Value} {A : List V} (h : w.ownsRow base 30 5 sv A.length (rowV A)) : Vals w sv A := by
  obtain ⟨h1, h2⟩ := h
  rcases h2 with ⟨rfl, h3⟩ | ⟨g, cap, cur, rfl, hbg, hg, hn, hm, hc, ht⟩
  · have hA : A = [] := List.eq_nil_of_length_eq_zero h3
    subst hA
    exact ⟨none, 0, rfl, Nat.le_refl _, fun _ => rfl, .inl rfl⟩
  · refine ⟨_, cap, rfl, hn, (fun h => by cases h), .inr ⟨g, 0, rfl, (Array.getElem?_eq_some_iff.1 hg).1, fun j u hj => ?_⟩⟩
    rw [cell_of_heap hg, Nat.zero_add]
    rw [← ht, List.getElem?_take] at hj
    split at hj
    · rw [← Array.getElem?_toList]; exact hj
    · cases hj
theorem Vals.at_ {w : World} {g o n cap : Nat} {A : List V} (h : Vals w (.slice (some ⟨g, o, none⟩) n cap) A) {i : Nat} {v : V} (hi : A[i]? = some v) :
    g < w.heap.size ∧ w.cell? ⟨g, o + i * 5, none⟩ = some (.int .i64 v.k) ∧ w.cell? ⟨g, o + i * 5 + 1, none⟩ = some (.int .i64 v.p) ∧ w.cell? ⟨g, o + i * 5 + 2, none⟩ = some (.int .i64 v.q) ∧ w.cell? ⟨g, o + i * 5 + 3, none⟩ = some (.string v.s) ∧ w.cell? ⟨g, o + i * 5 + 4, none⟩ = some (.int .i64 v.r) := by
  obtain ⟨so, c, h1, h2, hn, h3⟩ := h
  injection h1 with h1 h4 h5
  rcases h3 with rfl | ⟨g2, o2, h6, h7, h8⟩
  · simp at hi
  · rw [h6] at h1
    injection h1 with h1
    injection h1 with h1 h9 h10
    subst h1 h9
    have hx : ∀ j u, j < 5 → (vCells v)[j]? = some u → w.cell? ⟨g, o + i * 5 + j, none⟩ = some u := fun j u hj hu => by
      rw [Nat.add_assoc]
      exact h8 _ _ ((rowV_at A i j v hi hj).trans hu)
    exact ⟨h7, hx 0 _ (by omega) rfl, hx 1 _ (by omega) rfl, hx 2 _ (by omega) rfl, hx 3 _ (by omega) rfl, hx 4 _ (by omega) rfl⟩
theorem Vals.nilslice (w : World) : Vals w (.slice none 0 0) [] := ⟨none, 0, rfl, Nat.le_refl _, fun _ => rfl, .inl rfl⟩
theorem Vals.empty (w : World) (ad : Addr) (cap : Nat) : Vals w (.slice (some ad) 0 cap) [] := ⟨some ad, cap, rfl, Nat.zero_le _, (fun h => by cases h), .inl rfl⟩
theorem Vals.drop {w : World} {g o n cap : Nat} {A : List V} (h : Vals w (.slice (some ⟨g, o, none⟩) n cap) A) (k : Nat) (hk : k ≤ n) : Vals w (.slice (some ⟨g, o + k * 5, none⟩) (n - k) (cap - k)) (A.drop k) := by
  obtain ⟨so, c, h1, h2, hn, h3⟩ := h
  injection h1 with h1 h4 h5
  subst h4 h5
  refine ⟨_, _, by rw [List.length_drop], by rw [List.length_drop]; omega, (fun h => by cases h), ?_⟩
  rcases h3 with rfl | ⟨g2, o2, h6, h7, h8⟩
  · exact .inl List.drop_nil
  · rw [h6] at h1
    injection h1 with h1
    injection h1 with h1 h9 h10
    subst h1 h9
    refine .inr ⟨g, o + k * 5, rfl, h7, fun j u hj => ?_⟩
    rw [rowV_drop, List.getElem?_drop] at hj
    rw [Nat.add_assoc]
    exact h8 _ _ hj
end Go.Proofs.YtalfoihffnlelaaGreatDoor
namespace Go.Proofs.YtalfoihffnlelaaGreatDoor
open Go.ChangeShapes Go.WideShapes Go.ChangeAt Go.WideMaps Go.WideElems Go.RowKit
theorem rowV_get {A : List V} {j : Nat} {u : Value} (h : (rowV A)[j]? = some u) : ∃ v, A[j / 5]? = some v ∧ (vCells v)[j % 5]? = some u := by
  have hj : j < A.length * 5 := by rw [← rowV_len]; exact (List.getElem?_eq_some_iff.1 h).1
  have hi : j / 5 < A.length := by omega
  refine ⟨A[j / 5], List.getElem?_eq_getElem hi, ?_⟩
  rw [← rowV_at A (j / 5) (j % 5) _ (List.getElem?_eq_getElem hi) (by omega), show j / 5 * 5 + j % 5 = j by omega]
  exact h
set_option maxRecDepth 100000 in
theorem open_list {H : Type} {enc : TypeId × Value → H} {w : World} {b0 : Nat} {sp : Nat → Bool} {v : Value} {d : DataW H} {ps : List MemPlace} (hval : Value.okWide Tryz.prog w .any b0 22 v) (h : DataW.Trod enc Tryz.prog w 0 sp true 22 v d ps) :
    ∃ A : List V, Vals w v A ∧ ∀ x ∈ A, WfV x := by
  obtain ⟨a0, l0, c0, rfl⟩ := okWide_slice underVals hval
  obtain ⟨fuel, h⟩ := h
  rcases DataW.trod_slice underVals h with ⟨e, _⟩ | ⟨ad, len, cap, elems, rest, m, _, e, _, _, hlc, _, hel, hin, _⟩
  · simp [Value.cells] at e
    obtain ⟨rfl, rfl, rfl⟩ := e
    exact ⟨[], Vals.nilslice _, fun x hx => by cases hx⟩
  · simp [Value.cells] at e
    obtain ⟨rfl, rfl, rfl⟩ := e
    have hall : ∀ i : Fin l0, ∃ x : V, WfV x ∧ ∀ j u, (vCells x)[j]? = some u → w.cell? (ad.add (i.1 * 5 + j)) = some u := by
      intro ⟨i, hi⟩
      have h0 := hin i hi
      rw [List.getElem?_eq_getElem (by omega), Option.bind_eq_some_iff, cells25] at h0
      obtain ⟨cs, hc, ht⟩ := h0
      obtain ⟨x, rfl, hwf⟩ := open_cells ht
      obtain ⟨_, _, hcell⟩ := World.cells?_some hc
      refine ⟨x, hwf, fun j u hj => ?_⟩
      have hj5 : j < 5 := (List.getElem?_eq_some_iff.1 hj).1
      rw [← add_two, hcell j (by simpa using hj5), ← hj]
      match j, hj5 with
      | 0, _ => rfl
      | 1, _ => rfl
      | 2, _ => rfl
      | 3, _ => rfl
      | 4, _ => rfl
    obtain ⟨f, hf⟩ := Classical.axiomOfChoice hall
    have hlen : (List.ofFn f).length = l0 := List.length_ofFn
    refine ⟨List.ofFn f, ⟨some ad, c0, by rw [hlen], by rw [hlen]; exact hlc, (fun h => by cases h), ?_⟩, fun x hx => by obtain ⟨i, rfl⟩ := List.mem_ofFn.1 hx; exact (hf i).1⟩
    rcases Nat.eq_zero_or_pos l0 with hz | hz
    · exact .inl (List.eq_nil_of_length_eq_zero (by rw [hlen]; exact hz))
    · have e0 := (hf ⟨0, hz⟩).2 0 _ rfl
      obtain ⟨g, o, spot⟩ := ad
      have hspot : spot = none := by simpa [Addr.add] using World.cell?_spot e0
      subst hspot
      refine .inr ⟨g, o, rfl, by simpa [Addr.add] using cell_in e0, fun j u hj => ?_⟩
      obtain ⟨x, hx, hu⟩ := rowV_get hj
      have hlt : j / 5 < l0 := by rw [← hlen]; exact (List.getElem?_eq_some_iff.1 hx).1
      have hxe : x = f ⟨j / 5, hlt⟩ := by
        rw [List.getElem?_ofFn, dif_pos hlt] at hx
        exact (Option.some.inj hx).symm
      subst hxe
      have := (hf ⟨j / 5, hlt⟩).2 (j % 5) u hu
      rw [add_none, show j / 5 * 5 + j % 5 = j by omega] at this
      exact this
end Go.Proofs.YtalfoihffnlelaaGreatDoor
namespace Go.Proofs.YtalfoihffnlelaaGreatDoor
open Go.RowKit Go.Proofs.Lexi
def dgV (c : Nat) : Nat := if 48 ≤ c ∧ c ≤ 57 then c - 48 else if 97 ≤ c ∧ c ≤ 122 then c - 87 else if 65 ≤ c ∧ c ≤ 90 then c - 55 else 99
def dgM (base : Nat) : List Nat → Nat → Option Nat
  | [], n => some n
  | c :: l, n => if base ≤ dgV c then none else dgM base l (min (n * base + dgV c) 2147483648)
def dgOut (s : ByteArray) : Option Nat → Int × Bool
  | none => (0, false)
  | some n => (n, decide (s.size ≠ 0 ∧ n ≤ 2147483647))
def DgPost (w : World) (p : Int × Bool) (e : Ending) (w' : World) : Prop := e = .returned (.tuple #[.int .i64 p.1, .bool p.2]) ∧ w = w'
theorem dg_done {w w' : World} {p : Int × Bool} {n : Int} {b : Bool} (h : p = (n, b)) (hw : w = w') : DgPost w p (.returned (.tuple #[.int .i64 n, .bool b])) w' := by subst h; exact ⟨rfl, hw⟩
theorem dg_step {s : ByteArray} {base i n : Nat} {R : Option Nat} (h : i < s.size) (hr : dgM base ((bytesOf s).drop i) n = R) :
    (base ≤ dgV s[i].toNat → R = none) ∧ (¬ base ≤ dgV s[i].toNat → dgM base ((bytesOf s).drop (i + 1)) (min (n * base + dgV s[i].toNat) 2147483648) = R) := by
  rw [bytesOf_drop s i h] at hr
  unfold dgM at hr
  constructor
  · intro hc; rw [if_pos hc] at hr; exact hr.symm
  · intro hc; rw [if_neg hc] at hr; exact hr
theorem dg_stop {s : ByteArray} {base i n : Nat} {R : Option Nat} (h : s.size ≤ i) (hr : dgM base ((bytesOf s).drop i) n = R) : R = some n := by
  rw [bytesOf_end s i h] at hr; exact hr.symm
theorem mul_small {n base : Nat} (hn : n ≤ 2147483648) (hb : base ≤ 36) : (0 : Int) ≤ (n : Int) * (base : Int) ∧ (n : Int) * (base : Int) ≤ 77309411328 := by
  have h : n * base ≤ 77309411328 := Nat.le_trans (Nat.mul_le_mul hn hb) (by decide)
  have e : ((n * base : Nat) : Int) = (n : Int) * (base : Int) := Int.natCast_mul _ _
  rw [← e]
  omega
end Go.Proofs.YtalfoihffnlelaaGreatDoor
namespace Go.Proofs.YtalfoihffnlelaaGreatDoor
structure Sl where
  k : V
  v : V
  g : Bool
def liveN (L : List Sl) : Nat := (L.filter (fun s => !s.g)).length
/-- f is an index of the slots. -/
structure Idx (L : List Sl) (f : V → Option Nat) : Prop where
  live : ∀ (i : Nat) (s : Sl), L[i]? = some s → s.g = false → f s.k = some i
  key : ∀ (k : V) (i : Nat), f k = some i → ∃ s, L[i]? = some s ∧ s.k = k
  gone : ∀ (i : Nat) (s : Sl), L[i]? = some s → s.g = true → s.v = V.nil
end Go.Proofs.YtalfoihffnlelaaGreatDoor
namespace Go.Proofs.YtalfoihffnlelaaGreatDoor
open Go.RowKit Go.Proofs.Lexi
theorem heap2_a (w : World) (o1 o2 : Obj) : ((w.alloc o1).alloc o2).heap[w.heap.size]? = some o1 := by
  rw [Below.heap_alloc _ _ _ (by simp), heap_new]
theorem heap2_b (w : World) (o1 o2 : Obj) : ((w.alloc o1).alloc o2).heap[w.heap.size + 1]? = some o2 := by
  have := heap_new (w.alloc o1) o2
  simpa using this
def OmF (m g : Nat) (sv : Value) (b : Nat) : Prop := b = m ∨ b = g ∨ sv.ownBlock = some b
theorem info25p : (Tryz.prog.info? 30).map (fun i => (i.zero, i.size, i.bytes)) = some (some (.agg #[.int .i64 0, .int .i64 0, .int .i64 0, .string ⟨#[]⟩, .int .i64 0]), 5, 48) := by kernel_rfl
end Go.Proofs.YtalfoihffnlelaaGreatDoor
