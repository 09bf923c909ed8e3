import Derived.Test.YtalfoihffnlelaaGreatDoorLexA
set_option linter.unusedVariables false
set_option linter.unusedSimpArgs false
namespace Go.Proofs.Lexi
open Go
section
variable {P : Program} {ops : Array Oper} {Q : Exit → Act → World → Prop}
/-- What an operation does to a state: it writes its slot (and may defer). -/
def G (o : Oper) (g : Act → Act) : Prop :=
  (∃ v, g = fun a => a.put o.dst v) ∨ (∃ d, g = fun a => ({ a with defers := d :: a.defers } : Act).put o.dst undef)
theorem G.comm {o : Oper} {g : Act → Act} (h : G o g) (a : Act) (x : Option Tmp) (v : Value) (hx : ∀ d, x = some d → o.dst ≠ some d) :
    g (a.put x v) = (g a).put x v := by
  rcases h with ⟨u, rfl⟩ | ⟨d, rfl⟩
  · exact Act.put_comm a v u hx
  · dsimp only
    rw [Act.put_defers]
    exact Act.put_comm _ v undef hx
theorem G.tmps {o : Oper} {g : Act → Act} (h : G o g) (a : Act) (t : Tmp) (ht : o.dst ≠ some t) : (g a).tmps[t]? = a.tmps[t]? := by
  rcases h with ⟨u, rfl⟩ | ⟨d, rfl⟩
  all_goals
    cases hd : o.dst with
    | none => rfl
    | some e =>
      have : e ≠ t := fun h => ht (by rw [hd, h])
      simp [Act.put, Array.getElem?_setIfInBounds_ne this]
theorem G.exec {o : Oper} {g : Act → Act} (h : G o g) (a : Act) (oi : Oper) (hs : ∀ cs b, oi.op ≠ .select cs b) (hd : ∀ d, o.dst = some d → d ∉ oi.looksAt ops) :
    execOp (g a).eval oi = execOp a.eval oi := by
  rcases h with ⟨u, rfl⟩ | ⟨d, rfl⟩
  · exact execOp_put oi hs a o.dst u hd
  · rw [execOp_put (ops := ops) oi hs _ o.dst undef hd]; rfl
theorem G.wanted {o : Oper} {g : Act → Act} (h : G o g) (a : Act) (oi : Oper) (hd : ∀ d, o.dst = some d → d ∉ oi.looksAt ops) :
    Region.wanted oi (yielded ops (g a).tmps) = Region.wanted oi (yielded ops a.tmps) := by
  rcases h with ⟨u, rfl⟩ | ⟨d, rfl⟩
  · exact wanted_put oi a o.dst u hd
  · rw [wanted_put oi _ o.dst undef hd]
def upon' (P : Program) (o : Oper) (K : (Act → Act) → World → Prop) : Result Next → Prop
  | .ok (.value v) w' => K (fun a => a.put o.dst v) w'
  | .ok .skip w' => K (fun a => a.put o.dst undef) w'
  | .ok (.defer d) w' => K (fun a => ({ a with defers := d :: a.defers } : Act).put o.dst undef) w'
  | .ok (.enter f args) w' => Calls P f args w' fun
      | .returned v, w'' => K (fun a => a.put o.dst v) w''
      | _, _ => False
  | .ok (.row row args) w' => Rows P row args w' fun v w'' => K (fun a => a.put o.dst v) w''
  | _ => False
def eff (P : Program) (ops : Array Oper) (o : Oper) (a : Act) (w : World) (K : (Act → Act) → World → Prop) : Prop :=
  if Region.wanted o (yielded ops a.tmps) then upon' P o K ((execOp a.eval o).run P w) else K (fun a => a.put o.dst undef) w
theorem upon'_mono {o : Oper} {K K' : (Act → Act) → World → Prop} (h : ∀ g w, G o g → K g w → K' g w) (r : Result Next) (hh : upon' P o K r) : upon' P o K' r := by
  cases r with
  | halt x w' => exact hh
  | ok n w' =>
    cases n <;> simp only [upon'] at hh ⊢
    case value v => exact h _ _ (.inl ⟨v, rfl⟩) hh
    case skip => exact h _ _ (.inl ⟨_, rfl⟩) hh
    case defer d => exact h _ _ (.inr ⟨d, rfl⟩) hh
    case enter f args => exact Calls.mono hh (fun e w'' he => by cases e <;> first | exact h _ _ (.inl ⟨_, rfl⟩) he | exact he)
    case row r args => exact Rows.mono hh (fun v _ he => h _ _ (.inl ⟨v, rfl⟩) he)
theorem eff_mono {o : Oper} {a : Act} {w : World} {K K' : (Act → Act) → World → Prop} (h : ∀ g w, G o g → K g w → K' g w) (hh : eff P ops o a w K) : eff P ops o a w K' := by
  unfold eff at *
  split
  · rename_i hw; rw [if_pos hw] at hh; exact upon'_mono h _ hh
  · rename_i hw; rw [if_neg hw] at hh; exact h _ _ (.inl ⟨undef, rfl⟩) hh
theorem eff_exists {o : Oper} {a : Act} {w : World} {K : (Act → Act) → World → Prop} (hh : eff P ops o a w K) : ∃ g w', G o g ∧ K g w' := by
  unfold eff at hh
  split at hh
  · generalize (execOp a.eval o).run P w = r at hh
    cases r with
    | halt x w' => exact hh.elim
    | ok n w' =>
      cases n <;> simp only [upon'] at hh
      case value v => exact ⟨_, _, .inl ⟨v, rfl⟩, hh⟩
      case skip => exact ⟨_, _, .inl ⟨undef, rfl⟩, hh⟩
      case defer d => exact ⟨_, _, .inr ⟨d, rfl⟩, hh⟩
      case enter f args =>
        obtain ⟨e, w'', fr, hR, _⟩ := hh []
        cases e <;> first | exact ⟨_, _, .inl ⟨_, rfl⟩, hR⟩ | exact hR.elim
      case row r args =>
        obtain ⟨v, w'', hR, _⟩ := hh default []
        exact ⟨_, _, .inl ⟨v, rfl⟩, hR⟩
  · exact ⟨_, _, .inl ⟨undef, rfl⟩, hh⟩
theorem eff_same {o : Oper} {a a' : Act} {w : World} {K : (Act → Act) → World → Prop} (he : execOp a'.eval o = execOp a.eval o)
    (hw : Region.wanted o (yielded ops a'.tmps) = Region.wanted o (yielded ops a.tmps)) (hh : eff P ops o a w K) : eff P ops o a' w K := by
  unfold eff at *
  rw [he, hw]; exact hh
/-- Only the normal exit. -/
def OnlyN (Q : Exit → Act → World → Prop) : Prop := ∀ e a w, Q e a w → e = .normal
theorem wpOp_iff {i : Nat} {o : Oper} (hi : ops[i]? = some o) (hQ : OnlyN Q) (K : Act → World → Prop) (a : Act) (w : World) :
    wpOp P ops Q i K a w ↔ eff P ops o a w (fun g w' => K (g a) w') := by
  unfold wpOp eff
  simp only [hi]
  split
  · have hout : ¬ LetsOut Q := fun ⟨a, w, h⟩ => by have := hQ _ _ _ h; cases this
    simp only [hout, and_false, or_false]
    unfold Oper.wp
    generalize (execOp a.eval o).run P w = r
    cases r with
    | halt x w' =>
      cases x <;> simp only [Oper.upon, upon', iff_self, iff_false]
      exact fun h => by have := hQ _ _ _ h; cases this
    | ok n w' =>
      cases n <;> simp only [Oper.upon, upon', iff_self]
      case enter f args =>
        constructor
        · exact fun h => h.mono fun e w'' he => by
            cases e with
            | returned v => exact he
            | panicked c => have := hQ _ _ _ he; cases this
            | outgrown => exact (hout he).elim
        · exact fun h => h.mono fun e w'' he => by
            cases e with
            | returned v => exact he
            | panicked c => exact he.elim
            | outgrown => exact he.elim
  · exact Iff.rfl
/-- The operation has one value, in every world. -/
def Gives (P : Program) (ops : Array Oper) (o : Oper) (a : Act) (C : World → Prop) (v : Value) : Prop :=
  (Region.wanted o (yielded ops a.tmps) = true ∧ ∀ W, C W → (execOp a.eval o).run P W = .ok (.value v) W) ∨ (Region.wanted o (yielded ops a.tmps) = false ∧ v = undef)
theorem Gives.eff {o : Oper} {a : Act} {C : World → Prop} {v : Value} (h : Gives P ops o a C v) (w : World) (hC : C w) (K : (Act → Act) → World → Prop) :
    eff P ops o a w K ↔ K (fun a => a.put o.dst v) w := by
  unfold Lexi.eff
  rcases h with ⟨h1, h2⟩ | ⟨h1, rfl⟩
  · rw [if_pos h1, h2 w hC]; exact Iff.rfl
  · rw [if_neg (by simp [h1])]
theorem Gives.same {o : Oper} {a a' : Act} {C : World → Prop} {v : Value} (h : Gives P ops o a C v) (he : execOp a'.eval o = execOp a.eval o)
    (hw : Region.wanted o (yielded ops a'.tmps) = Region.wanted o (yielded ops a.tmps)) : Gives P ops o a' C v := by
  unfold Gives at *; rw [he, hw]; exact h
def Valued (P : Program) (s : Sem Next) : Prop := ∀ w x w', s.run P w = .ok x w' → ∃ v, x = .value v
theorem Valued.mk (s : Sem Value) : Valued P (do Pure.pure (Next.value (← s))) := fun w x w' e => by
  rw [Sem.run_bind] at e
  cases hs : s.run P w with
  | halt h w1 => rw [hs] at e; cases e
  | ok a w1 => rw [hs] at e; simp only [Result.andThen_ok, Sem.run_pure] at e; injection e with e1 _; exact ⟨a, e1.symm⟩
theorem Valued.bind {α : Type} (s : Sem α) {f : α → Sem Next} (h : ∀ a, Valued P (f a)) : Valued P (s >>= f) := fun w x w' e => by
  rw [Sem.run_bind] at e
  cases hs : s.run P w with
  | halt h w1 => rw [hs] at e; cases e
  | ok a w1 => rw [hs] at e; exact h a _ _ _ e
theorem Valued.pure (v : Value) : Valued P (Pure.pure (Next.value v)) := fun w x w' e => by injection e with e1 _; exact ⟨v, e1.symm⟩
theorem Valued.never {s : Sem Next} (h : Never P s) : Valued P s := fun w x w' e => by obtain ⟨_, _, h⟩ := h w; rw [h] at e; cases e
theorem Never.nilDeref : Never P (runtimePanic .nilDeref : Sem Next) := Never.bind _ fun _ => Never.goPanic _
theorem okVal_congr {ρ ρ' : Operand → Value} (op : Op) (h : ∀ x ∈ op.operands, ρ x = ρ' x) : okVal ρ op = okVal ρ' op := by
  cases op <;> first | rfl | skip
  case binOp => simp only [okVal]; rw [h _ (by simp [Op.operands]), h _ (by simp [Op.operands])]
  case nilCheck => simp only [okVal]; rw [h _ (by simp [Op.operands])]
  case call c =>
    obtain ⟨callee, args, ts⟩ := c
    simp only [okVal, lenCall]
    cases callee <;> first | rfl | skip
    rename_i bi
    cases bi <;> first | rfl | skip
    simp only []
    split
    · rename_i hs
      obtain ⟨x, rfl⟩ := Array.size_eq_one_iff.1 hs
      simp only [List.getElem?_toArray, List.getElem?_cons_zero, Option.all_some]
      rw [h x (by simp [Op.operands, Call.operands])]
    · rfl
theorem G.evals {o : Oper} {g : Act → Act} (h : G o g) (a : Act) (oi : Oper) (hd : ∀ d, o.dst = some d → d ∉ oi.looksAt ops) : ∀ x ∈ oi.op.operands, (g a).eval x = a.eval x := by
  intro x hx
  have key : ∀ (b : Act) (u : Value), (b.put o.dst u).eval x = b.eval x := fun b u => Act.eval_put fun d hd' hxd => hd d hd' (by
    subst hxd
    exact List.mem_append_left _ (List.mem_filterMap.2 ⟨.tmp d, by simpa using hx, rfl⟩))
  rcases h with ⟨u, rfl⟩ | ⟨d, rfl⟩
  · exact key a u
  · dsimp only; rw [key]; rfl
theorem valued_exec (ρ : Operand → Value) (o : Oper) (h : (isPure P o.op || isRead o.op || isNew o.op) = true) : Valued P (execOp ρ o) := by
  obtain ⟨dst, op, type, pos, after, guard⟩ := o
  cases op <;> first | (cases h; done) | exact Valued.mk _ | skip
  case move => intro w x w' e; injection e with e1 _; exact ⟨_, e1.symm⟩
  case assign => intro w x w' e; injection e with e1 _; exact ⟨_, e1.symm⟩
  case pick c a b =>
    intro w x w' e
    simp only [execOp, Sem.run_bind] at e
    cases hs : (asBool (ρ c)).run P w with
    | halt h w1 => rw [hs] at e; cases e
    | ok b w1 => rw [hs] at e; simp only [Result.andThen_ok, Sem.run_pure] at e; injection e with e1 _; exact ⟨_, e1.symm⟩
  case nilCheck y =>
    simp only [execOp]
    repeat' (first | exact Valued.pure _ | exact Valued.never Never.nilDeref | exact Valued.never (fun w => ⟨_, w, rfl⟩) | refine Valued.bind _ (fun _ => ?_) | split)
  case call c =>
    obtain ⟨callee, args, ts⟩ := c
    simp only [isPure, isRead, isNew, Bool.or_false, lenCall] at h
    cases callee <;> first | (cases h; done) | skip
    rename_i bi
    cases bi <;> first | (cases h; done) | skip
    simp only [execOp, resolve, invoke, builtin]
    exact Valued.mk (Builtin.len_ ts type _)
theorem gives_of_pure {o : Oper} {a : Act} {w : World} {K : (Act → Act) → World → Prop} (hp : isPure P o.op = true)
    (hv : Region.wanted o (yielded ops a.tmps) = true → okVal a.eval o.op = true) (h : eff P ops o a w K) : ∃ v, Gives P ops o a (fun _ => True) v := by
  cases hw : Region.wanted o (yielded ops a.tmps) with
  | false => exact ⟨undef, .inr ⟨hw, rfl⟩⟩
  | true =>
    unfold eff at h
    rw [if_pos hw] at h
    have hpure := pure_exec a.eval o hp (hv hw)
    cases hr : (execOp a.eval o).run P w with
    | halt x w' => rw [hr] at h; exact h.elim
    | ok x w' =>
      obtain ⟨v, rfl⟩ := valued_exec a.eval o (by simp [hp]) w x w' hr
      exact ⟨v, .inl ⟨hw, fun W _ => (hpure _ _ _ hr).2 W⟩⟩
theorem gives_of_read {o : Oper} {a : Act} {w : World} {K : (Act → Act) → World → Prop} (hp : isRead o.op = true) (h : eff P ops o a w K) : ∃ v, Gives P ops o a (Ext w) v := by
  cases hw : Region.wanted o (yielded ops a.tmps) with
  | false => exact ⟨undef, .inr ⟨hw, rfl⟩⟩
  | true =>
    unfold eff at h
    rw [if_pos hw] at h
    have hread := read_exec (P := P) a.eval o hp
    cases hr : (execOp a.eval o).run P w with
    | halt x w' => rw [hr] at h; exact h.elim
    | ok x w' =>
      obtain ⟨v, rfl⟩ := valued_exec (P := P) a.eval o (by simp [hp]) w x w' hr
      exact ⟨v, .inl ⟨hw, fun W hW => (hread _ _ _ hr).2 W hW⟩⟩
/-- A read or a new block: one value, in a world that has grown. -/
theorem eff_newish {o : Oper} {a : Act} {w : World} {K : (Act → Act) → World → Prop} (hp : (isRead o.op || isNew o.op) = true) (h : eff P ops o a w K) :
    eff P ops o a w (fun g w' => Ext w w' ∧ K g w') := by
  unfold eff at *
  split
  · rename_i hw
    rw [if_pos hw] at h
    cases hr : (execOp a.eval o).run P w with
    | halt x w' => rw [hr] at h; exact h.elim
    | ok x w' =>
      obtain ⟨v, rfl⟩ := valued_exec (P := P) a.eval o (by rw [Bool.or_assoc, hp]; simp) w x w' hr
      rw [hr] at h
      refine ⟨?_, h⟩
      cases h1 : isRead o.op with
      | true => exact (read_exec (P := P) a.eval o h1).new _ _ _ hr
      | false => exact new_exec (P := P) a.eval o (by simpa [h1] using hp) _ _ _ hr
  · rename_i hw; rw [if_neg hw] at h; exact ⟨Ext.refl _, h⟩
def swapOK (P : Program) (ops : Array Oper) (x y : Oper) : Bool :=
  x.apart ops y && (isPure P x.op || isPure P y.op || (isRead x.op && (isRead y.op || isNew y.op)))
theorem commute {i j : Nat} {oi oj : Oper} (hi : ops[i]? = some oi) (hj : ops[j]? = some oj) (hQ : OnlyN Q) (hsw : swapOK P ops oi oj = true)
    (hsi : ∀ cs b, oi.op ≠ .select cs b) (hsj : ∀ cs b, oj.op ≠ .select cs b) {a : Act} {w : World} {K : Act → World → Prop}
    (hvi : Region.wanted oi (yielded ops a.tmps) = true → okVal a.eval oi.op = true) (hvj : Region.wanted oj (yielded ops a.tmps) = true → okVal a.eval oj.op = true)
    (H : wpOp P ops Q i (wpOp P ops Q j K) a w) : wpOp P ops Q j (wpOp P ops Q i K) a w := by
  simp only [swapOK, Bool.and_eq_true] at hsw
  obtain ⟨hap, hcl⟩ := hsw
  obtain ⟨h1, h2, h3⟩ := Oper.apart_spec hap
  have h2' : ∀ d, oj.dst = some d → oi.dst ≠ some d := fun d e e' => h2 d e' e
  rw [wpOp_iff hi hQ] at H
  rw [wpOp_iff hj hQ]
  -- the other one's state is no other for either
  have stepj : ∀ v, eff P ops oj (a.put oi.dst v) w (fun g w' => K (g (a.put oi.dst v)) w') → eff P ops oj a w (fun g w' => K ((g a).put oi.dst v) w') := by
    intro v hh
    have := eff_same (a' := a) (execOp_put oj hsj a oi.dst v h1).symm (wanted_put oj a oi.dst v h1).symm hh
    exact eff_mono (fun g w' hg hk => by rw [← hg.comm a oi.dst v h2]; exact hk) this
  by_cases c1 : isPure P oi.op = true
  · obtain ⟨v, hv⟩ := gives_of_pure c1 hvi H
    rw [hv.eff w trivial] at H
    rw [wpOp_iff hj hQ] at H
    refine eff_mono (fun g w' hg hk => ?_) (stepj v H)
    rw [wpOp_iff hi hQ]
    have hv' := hv.same (hg.exec (ops := ops) a oi hsi h3) (hg.wanted a oi h3)
    rw [hv'.eff w' trivial]
    exact hk
  · by_cases c2 : isPure P oj.op = true
    · obtain ⟨g0, w0, hg0, hk0⟩ := eff_exists H
      rw [wpOp_iff hj hQ] at hk0
      obtain ⟨v, hv0⟩ := gives_of_pure c2 (fun hw => by
        have hw' : Region.wanted oj (yielded ops a.tmps) = true := by rw [← hg0.wanted (ops := ops) a oj h1]; exact hw
        have := hvj hw'
        rw [okVal_congr oj.op (hg0.evals (ops := ops) a oj h1)]
        exact this) hk0
      have hv := hv0.same (hg0.exec (ops := ops) a oj hsj h1).symm (hg0.wanted a oj h1).symm
      rw [hv.eff w trivial, wpOp_iff hi hQ]
      have H' : eff P ops oi a w (fun g w' => K (g (a.put oj.dst v)) w') := eff_mono (fun g w' hg hk => by
        rw [wpOp_iff hj hQ] at hk
        have hv' := hv.same (hg.exec (ops := ops) a oj hsj h1) (hg.wanted a oj h1)
        rw [hv'.eff w' trivial] at hk
        rw [hg.comm a oj.dst v h2']
        exact hk) H
      exact eff_same (execOp_put oi hsi a oj.dst v h3) (wanted_put oi a oj.dst v h3) H'
    · simp only [c1, c2, Bool.false_or, Bool.and_eq_true] at hcl
      obtain ⟨c3, c4⟩ := hcl
      obtain ⟨v, hv⟩ := gives_of_read c3 H
      rw [hv.eff w (Ext.refl _)] at H
      rw [wpOp_iff hj hQ] at H
      refine eff_mono (fun g w' hg hk => ?_) (eff_newish c4 (stepj v H))
      rw [wpOp_iff hi hQ]
      have hv' := hv.same (hg.exec (ops := ops) a oi hsi h3) (hg.wanted a oi h3)
      rw [hv'.eff w' hk.1]
      exact hk.2
/-- Operations whose operands are asked at the end. -/
def asked : Op → Bool
  | .binOp .. | .nilCheck _ => true
  | .call c => (lenCall c).isSome
  | _ => false
theorem okVal_of_not_asked (ρ : Operand → Value) (op : Op) (h : asked op = false) : okVal ρ op = true := by
  cases op <;> first | rfl | (cases h; done) | skip
  case call c =>
    simp only [asked] at h
    simp only [okVal]
    cases hc : lenCall c with
    | none => rfl
    | some x => rw [hc] at h; cases h
def noSel : Op → Bool
  | .select .. => false
  | _ => true
/-- The closed check on a region's operations: m says of each which come before it. -/
def lexCheck (P : Program) (ops : Array Oper) (m : Array Nat) : Bool :=
  let n := ops.size
  (List.range n).all fun j => (ops[j]?).all fun oj =>
    noSel oj.op &&
    (oj.after.toList.all fun e => !Region.binds .any e || e.on < j) &&
    (List.range n).all fun i => (ops[i]?).all fun oi =>
      (!(m.getD j 0).testBit i || oj.after.toList.any fun e => Region.binds .any e && (e.on == i || (m.getD e.on 0).testBit i)) &&
      (!(i < j) || (m.getD j 0).testBit i || swapOK P ops oi oj) &&
      (!asked oj.op || (match oi.dst with | some d => !(oj.looksAt ops).contains d || (m.getD j 0).testBit i | none => true))
structure Lexed (P : Program) (ops : Array Oper) (m : Array Nat) : Prop where
  sel : ∀ (j : Nat) oj, ops[j]? = some oj → ∀ cs b, oj.op ≠ .select cs b
  low : ∀ (j : Nat) oj, ops[j]? = some oj → ∀ e ∈ oj.after, Region.binds .any e = true → e.on < j
  mask : ∀ (j i : Nat) oj oi, ops[j]? = some oj → ops[i]? = some oi → (m.getD j 0).testBit i = true → ∃ e ∈ oj.after, Region.binds .any e = true ∧ (e.on = i ∨ (m.getD e.on 0).testBit i = true)
  swap : ∀ (j i : Nat) oj oi, ops[j]? = some oj → ops[i]? = some oi → i < j → (m.getD j 0).testBit i = true ∨ swapOK P ops oi oj = true
  dsts : ∀ (j i : Nat) oj oi d, ops[j]? = some oj → ops[i]? = some oi → asked oj.op = true → oi.dst = some d → d ∈ oj.looksAt ops → (m.getD j 0).testBit i = true
theorem lexed_of {m : Array Nat} (h : lexCheck P ops m = true) : Lexed P ops m := by
  unfold lexCheck at h
  simp only [List.all_eq_true, List.mem_range] at h
  have lt : ∀ {j : Nat} {o : Oper}, ops[j]? = some o → j < ops.size := fun e => (Array.getElem?_eq_some_iff.1 e).1
  have hj : ∀ (j : Nat) oj, ops[j]? = some oj → _ := fun j oj e => by
    have := h j (lt e)
    rw [e] at this
    simp only [Option.all_some, Bool.and_eq_true, List.all_eq_true, List.mem_range] at this
    exact this
  have hji : ∀ (j i : Nat) oj oi, ops[j]? = some oj → ops[i]? = some oi → _ := fun j i oj oi e e' => by
    have := (hj j oj e).2 i (lt e')
    rw [e'] at this
    simp only [Option.all_some, Bool.and_eq_true] at this
    exact this
  refine ⟨?_, ?_, ?_, ?_, ?_⟩
  · intro j oj e cs b hs
    have := (hj j oj e).1.1
    rw [hs] at this; cases this
  · intro j oj e ed hed hb
    have := (hj j oj e).1.2 ed (by simpa using hed)
    rw [hb] at this; simpa using this
  · intro j i oj oi e e' hb
    have := (hji j i oj oi e e').1.1
    rw [hb] at this
    simp only [Bool.not_true, Bool.false_or, List.any_eq_true, Bool.and_eq_true, Bool.or_eq_true, beq_iff_eq] at this
    obtain ⟨ed, h1, h2, h3⟩ := this
    exact ⟨ed, by simpa using h1, h2, h3⟩
  · intro j i oj oi e e' hlt
    have := (hji j i oj oi e e').1.2
    simpa [hlt] using this
  · intro j i oj oi d e e' ha hd hm
    have := (hji j i oj oi e e').2
    rw [ha, hd] at this
    simpa [hm] using this
/-- What has come up is closed downwards. -/
def Down (ops : Array Oper) (listed : Array Bool) : Prop :=
  ∀ (x : Nat) o, listed.getD x false = true → ops[x]? = some o → ∀ e ∈ o.after, Region.binds .any e = true → listed.getD e.on false = true
theorem ready_iff {listed : Array Bool} {i : Nat} : i ∈ Region.ready .any ops listed ↔
    ∃ o, ops[i]? = some o ∧ listed.getD i true = false ∧ ∀ e ∈ o.after, Region.binds .any e = true → listed.getD e.on false = true := by
  unfold Region.ready
  simp only [List.mem_filter, List.mem_range, Bool.and_eq_true, Bool.not_eq_true']
  constructor
  · rintro ⟨h1, h2, h3⟩
    cases ho : ops[i]? with
    | none => rw [ho] at h3; cases h3
    | some o =>
      rw [ho] at h3
      simp only [Option.map_some, Option.getD_some, Array.all_eq_true] at h3
      refine ⟨o, rfl, h2, fun e he hb => ?_⟩
      obtain ⟨k, hk, rfl⟩ := Array.mem_iff_getElem.1 he
      have := h3 k hk
      rw [hb] at this; simpa using this
  · rintro ⟨o, ho, h2, h3⟩
    refine ⟨(Array.getElem?_eq_some_iff.1 ho).1, h2, ?_⟩
    rw [ho]
    simp only [Option.map_some, Option.getD_some, Array.all_eq_true]
    intro k hk
    cases hb : Region.binds .any o.after[k] with
    | false => rfl
    | true => simp [h3 _ (Array.getElem_mem hk) hb]
theorem listed_of_mask {m : Array Nat} (L : Lexed P ops m) {listed : Array Bool} (hd : Down ops listed) : ∀ (n x : Nat), x < n → ∀ o, ops[x]? = some o →
    (∀ e ∈ o.after, Region.binds .any e = true → listed.getD e.on false = true) → ∀ i oi, ops[i]? = some oi → (m.getD x 0).testBit i = true → listed.getD i false = true := by
  intro n
  induction n with
  | zero => intro x hx; omega
  | succ n ih =>
    intro x hx o ho hr i oi hi hb
    obtain ⟨e, he, hbe, h⟩ := L.mask x i o oi ho hi hb
    have hl := hr e he hbe
    rcases h with rfl | h
    · exact hl
    · have hlt := L.low x o ho e he hbe
      have hsz : e.on < ops.size := Nat.lt_trans hlt (Array.getElem?_eq_some_iff.1 ho).1
      have ho' : ops[e.on]? = some ops[e.on] := Array.getElem?_eq_getElem hsz
      exact ih e.on (by omega) _ ho' (fun e' he' hb' => hd e.on _ hl ho' e' he' hb') i oi hi h
theorem getD_set (listed : Array Bool) (i x : Nat) (d : Bool) (hi : i < listed.size) : (listed.setIfInBounds i true).getD x d = if x = i then true else listed.getD x d := by
  simp only [Array.getD_eq_getD_getElem?]
  by_cases h : x = i
  · subst h; simp [hi]
  · rw [Array.getElem?_setIfInBounds_ne (by omega), if_neg h]
theorem getD_tf {listed : Array Bool} {x : Nat} (hx : x < listed.size) : listed.getD x true = listed.getD x false := by
  simp [Array.getD_eq_getD_getElem?, hx]
theorem Down.set {listed : Array Bool} (hd : Down ops listed) {i : Nat} (hi : i ∈ Region.ready .any ops listed) (hs : listed.size = ops.size) : Down ops (listed.setIfInBounds i true) := by
  obtain ⟨o, ho, _, hr⟩ := ready_iff.1 hi
  have hlt : i < listed.size := by rw [hs]; exact (Array.getElem?_eq_some_iff.1 ho).1
  intro x ox hx hox e he hb
  rw [getD_set _ _ _ _ hlt] at hx ⊢
  split
  · rfl
  · split at hx
    · rename_i h; subst h; rw [ho] at hox; injection hox with hox; subst hox; exact hr e he hb
    · exact hd x ox hx hox e he hb
theorem ready_set {listed : Array Bool} {i j : Nat} (hs : listed.size = ops.size) (hi : i ∈ Region.ready .any ops listed) (hj : j ∈ Region.ready .any ops listed) (hne : j ≠ i) : j ∈ Region.ready .any ops (listed.setIfInBounds i true) := by
  obtain ⟨o, ho, hu, hr⟩ := ready_iff.1 hj
  obtain ⟨oi, hoi, _, _⟩ := ready_iff.1 hi
  have hlt : i < listed.size := by rw [hs]; exact (Array.getElem?_eq_some_iff.1 hoi).1
  refine ready_iff.2 ⟨o, ho, by rw [getD_set _ _ _ _ hlt, if_neg hne]; exact hu, fun e he hb => ?_⟩
  rw [getD_set _ _ _ _ hlt]
  split
  · rfl
  · exact hr e he hb
/-- From whatever is left to run, an end with the old slots that nothing left writes. -/
theorem final_of (hQ : OnlyN Q) : ∀ (fuel : Nat) (listed : Array Bool) (a : Act) (w : World), listed.size = ops.size → wpAny P .any ops Q fuel listed a w →
    ∃ a' w', Q .normal a' w' ∧ ∀ t : Tmp, (∀ (x : Nat) o, ops[x]? = some o → listed.getD x true = false → o.dst ≠ some t) → a'.tmps[t]? = a.tmps[t]? := by
  intro fuel
  induction fuel with
  | zero => intro listed a w _ h; exact ⟨a, w, h.2, fun _ _ => rfl⟩
  | succ fuel ih =>
    intro listed a w hs h
    cases hr : Region.ready .any ops listed with
    | nil => exact ⟨a, w, h.1 hr, fun _ _ => rfl⟩
    | cons i rest =>
      have hi : i ∈ Region.ready .any ops listed := by rw [hr]; exact List.mem_cons_self
      obtain ⟨o, ho, hu, _⟩ := ready_iff.1 hi
      have hlt : i < listed.size := by rw [hs]; exact (Array.getElem?_eq_some_iff.1 ho).1
      have h1 := h.2 i hi
      rw [wpOp_iff ho hQ] at h1
      obtain ⟨g, w1, hg, hk⟩ := eff_exists h1
      obtain ⟨a', w', hq, ht⟩ := ih _ _ _ (by simpa using hs) hk
      refine ⟨a', w', hq, fun t hx => ?_⟩
      rw [ht t (fun x ox hox hux => hx x ox hox (by
        rw [getD_set _ _ _ _ hlt] at hux
        split at hux
        · cases hux
        · exact hux))]
      exact hg.tmps a t (hx i o ho hu)
/-- Of every operation that was carried out the operands are plain. -/
def okAll (ops : Array Oper) (a : Act) : Bool := ops.toList.all fun o => !Region.wanted o (yielded ops a.tmps) || okVal a.eval o.op
theorem eval_eq {a a' : Act} {x : Operand} (h : ∀ t, x = .tmp t → a'.tmps[t]? = a.tmps[t]?) : a'.eval x = a.eval x := by
  cases x with
  | tmp t =>
    have := h t rfl
    simp only [Act.eval]
    simp [Array.getD_eq_getD_getElem?, this]
  | _ => rfl
theorem ok_now {m : Array Nat} (L : Lexed P ops m) (hQ : OnlyN Q) (hend : ∀ a w, Q .normal a w → okAll ops a = true) {listed : Array Bool} {a : Act}
    (hs : listed.size = ops.size) (hd : Down ops listed) (h : ∃ a1 w1 fuel' listed', listed'.size = ops.size ∧ (∀ x, listed'.getD x true = false → listed.getD x true = false) ∧
      (∀ t : Tmp, (∀ (x : Nat) o, ops[x]? = some o → listed.getD x true = false → o.dst ≠ some t) → a1.tmps[t]? = a.tmps[t]?) ∧ wpAny P .any ops Q fuel' listed' a1 w1)
    {j : Nat} {oj : Oper} (hj : j ∈ Region.ready .any ops listed) (hoj : ops[j]? = some oj) (hw : Region.wanted oj (yielded ops a.tmps) = true) : okVal a.eval oj.op = true := by
  cases ha : asked oj.op with
  | false => exact okVal_of_not_asked _ _ ha
  | true =>
    obtain ⟨a1, w1, fuel', listed', hs', hsub, ht1, hany⟩ := h
    obtain ⟨a', w', hq, ht⟩ := final_of hQ fuel' listed' a1 w1 hs' hany
    have hok := hend a' w' hq
    obtain ⟨o, ho, hu, hr⟩ := ready_iff.1 hj
    rw [hoj] at ho; injection ho with ho; subst ho
    have same : ∀ t ∈ oj.looksAt ops, a'.tmps[t]? = a.tmps[t]? := by
      intro t htm
      have hno : ∀ (x : Nat) o, ops[x]? = some o → listed.getD x true = false → o.dst ≠ some t := by
        intro x ox hox hux hdx
        have hb := L.dsts j x oj ox t hoj hox ha hdx htm
        have hl := listed_of_mask L hd (j + 1) j (by omega) oj hoj hr x ox hox hb
        rw [getD_tf (by rw [hs]; exact (Array.getElem?_eq_some_iff.1 hox).1), hl] at hux
        cases hux
      rw [ht t (fun x ox hox hux => hno x ox hox (hsub x hux)), ht1 t hno]
    have hev : ∀ x ∈ oj.op.operands, a'.eval x = a.eval x := fun x hx => eval_eq fun t e => same t (by
      subst e
      exact List.mem_append_left _ (List.mem_filterMap.2 ⟨.tmp t, by simpa using hx, rfl⟩))
    have hwt : Region.wanted oj (yielded ops a'.tmps) = Region.wanted oj (yielded ops a.tmps) := by
      unfold Region.wanted
      cases hg : oj.guard with
      | none => rfl
      | some p =>
        obtain ⟨k, b⟩ := p
        simp only []
        have : yielded ops a'.tmps k = yielded ops a.tmps k := by
          unfold yielded
          cases hk : (ops[k]?).bind (·.dst) with
          | none => rfl
          | some t =>
            have := same t (by unfold Oper.looksAt; rw [hg]; simp [hk])
            simp [this]
        rw [this]
    unfold okAll at hok
    have := List.all_eq_true.1 hok oj (by
      have := Array.mem_of_getElem? hoj
      simpa using this)
    rw [hwt, hw] at this
    rw [← okVal_congr oj.op hev]
    simpa using this
theorem any_first {m : Array Nat} (L : Lexed P ops m) (hQ : OnlyN Q) (hend : ∀ a w, Q .normal a w → okAll ops a = true) {i : Nat} {oi : Oper} (hi : ops[i]? = some oi) :
    ∀ (fuel : Nat) (listed : Array Bool) (a : Act) (w : World), listed.size = ops.size → Down ops listed → (∀ x, x < i → listed.getD x true = true) → i ∈ Region.ready .any ops listed →
      wpOp P ops Q i (wpAny P .any ops Q fuel (listed.setIfInBounds i true)) a w → wpAny P .any ops Q (fuel + 1) listed a w := by
  intro fuel
  induction fuel with
  | zero =>
    intro listed a w hs hd hlow hr H
    refine ⟨fun h => (by rw [h] at hr; cases hr), fun j hj => ?_⟩
    by_cases hji : j = i
    · subst hji; exact H
    · exfalso
      rw [wpOp_iff hi hQ] at H
      obtain ⟨g, w1, _, hk⟩ := eff_exists H
      have := ready_set hs hr hj hji
      rw [hk.1] at this
      cases this
  | succ fuel ih =>
    intro listed a w hs hd hlow hr H
    refine ⟨fun h => (by rw [h] at hr; cases hr), fun j hj => ?_⟩
    by_cases hji : j = i
    · subst hji; exact H
    · have hlti : i < listed.size := by rw [hs]; exact (Array.getElem?_eq_some_iff.1 hi).1
      obtain ⟨oj, hoj, huj, hrj⟩ := ready_iff.1 hj
      have hltj : j < listed.size := by rw [hs]; exact (Array.getElem?_eq_some_iff.1 hoj).1
      obtain ⟨_, hoi', hui, _⟩ := ready_iff.1 hr
      have hlt : i < j := by
        rcases Nat.lt_or_ge j i with h | h
        · rw [hlow j h] at huj; cases huj
        · omega
      have hswap : swapOK P ops oi oj = true := by
        rcases L.swap j i oj oi hoj hi hlt with h | h
        · have := listed_of_mask L hd (j + 1) j (by omega) oj hoj hrj i oi hi h
          rw [getD_tf hlti, this] at hui
          cases hui
        · exact h
      have H' : wpOp P ops Q i (wpOp P ops Q j (wpAny P .any ops Q fuel ((listed.setIfInBounds i true).setIfInBounds j true))) a w :=
        wpOp_mono (fun a w h => h.2 j (ready_set hs hr hj hji)) H
      have hex : ∃ a1 w1 fuel' listed', listed'.size = ops.size ∧ (∀ x, listed'.getD x true = false → listed.getD x true = false) ∧
          (∀ t : Tmp, (∀ (x : Nat) o, ops[x]? = some o → listed.getD x true = false → o.dst ≠ some t) → a1.tmps[t]? = a.tmps[t]?) ∧ wpAny P .any ops Q fuel' listed' a1 w1 := by
        rw [wpOp_iff hi hQ] at H
        obtain ⟨g, w1, hg, hk⟩ := eff_exists H
        refine ⟨g a, w1, _, _, by simpa using hs, fun x hx => ?_, fun t ht => hg.tmps a t (ht i oi hi hui), hk⟩
        rw [getD_set _ _ _ _ hlti] at hx
        split at hx
        · cases hx
        · exact hx
      have H2 := commute hi hoj hQ hswap (L.sel i oi hi) (L.sel j oj hoj) (fun hw => ok_now L hQ hend hs hd hex hr hi hw) (fun hw => ok_now L hQ hend hs hd hex hj hoj hw) H'
      refine wpOp_mono (fun a' w' h => ?_) H2
      refine ih _ a' w' (by simpa using hs) (hd.set hj hs) (fun x hx => ?_) (ready_set hs hj hr (Ne.symm hji)) ?_
      · rw [getD_set _ _ _ _ hltj]
        split
        · rfl
        · exact hlow x hx
      · rw [Array.setIfInBounds_comm _ _ (Ne.symm hji)] at h
        exact h
theorem any_of_lex {m : Array Nat} (L : Lexed P ops m) (hQ : OnlyN Q) (hend : ∀ a w, Q .normal a w → okAll ops a = true) :
    ∀ (r k : Nat) (listed : Array Bool) (a : Act) (w : World), k + r = ops.size → listed.size = ops.size → (∀ x, x < ops.size → listed.getD x false = decide (x < k)) →
      wpOps P ops Q (List.range' k r) a w → wpAny P .any ops Q r listed a w := by
  intro r
  induction r with
  | zero =>
    intro k listed a w hk hs hl h
    refine ⟨?_, h⟩
    rw [List.eq_nil_iff_forall_not_mem]
    intro i hi
    obtain ⟨o, ho, hu, _⟩ := ready_iff.1 hi
    have hlt := (Array.getElem?_eq_some_iff.1 ho).1
    rw [getD_tf (by rw [hs]; exact hlt), hl i hlt] at hu
    simp at hu; omega
  | succ r ih =>
    intro k listed a w hk hs hl h
    rw [List.range'_succ, wpOps_cons] at h
    have hlt : k < ops.size := by omega
    have ho : ops[k]? = some ops[k] := Array.getElem?_eq_getElem hlt
    have hd : Down ops listed := by
      intro x o hx hox e he hb
      have hxs := (Array.getElem?_eq_some_iff.1 hox).1
      have h1 := L.low x o hox e he hb
      rw [hl x hxs] at hx
      rw [hl e.on (by omega)]
      simp at hx ⊢; omega
    have hready : k ∈ Region.ready .any ops listed := by
      refine ready_iff.2 ⟨_, ho, ?_, fun e he hb => ?_⟩
      · rw [getD_tf (by rw [hs]; exact hlt), hl k hlt]; simp
      · have h1 := L.low k _ ho e he hb
        rw [hl e.on (by omega)]; simp; omega
    refine any_first L hQ hend ho r listed a w hs hd (fun x hx => ?_) hready (wpOp_mono (fun a w h => ih (k + 1) _ a w (by omega) (by simpa using hs) (fun x hx => ?_) h) h)
    · rw [getD_tf (by rw [hs]; omega), hl x (by omega)]; simp; omega
    · rw [getD_set _ _ _ _ (by rw [hs]; exact hlt), hl x hx]
      split
      · rename_i e; subst e; simp
      · rename_i hne
        by_cases h1 : x < k <;> simp [h1] <;> omega
/-- What is asked behind a region that is walked in the order of its text. -/
def Behind (ops : Array Oper) (Q : Exit → Act → World → Prop) : Exit → Act → World → Prop
  | .normal, a, w => okAll ops a = true ∧ Q .normal a w
  | _, _, _ => False
end
end Go.Proofs.Lexi
namespace Go.Proofs
open Go.Shelf
def Tryz.lays160_ren : Go.Shelf.Ren := ⟨fun | 160 => 108 | 232 => 135 | 231 => 134 | 227 => 136 | 234 => 138 | 233 => 137 | 236 => 140 | 235 => 139 | 228 => 160 | 271 => 163 | 151 => 162 | 197 => 161 | 120 => 180 | 152 => 179 | 260 => 178 | 137 => 186 | 119 => 187 | 224 => 188 | 225 => 189 | 217 => 193 | 266 => 195 | n => n, fun | 9 => 9 | 4 => 4 | 3 => 3 | 5 => 5 | 117 => 157 | 116 => 156 | 0 => 0 | 124 => 160 | 21 => 21 | 105 => 188 | 46 => 135 | 119 => 137 | 139 => 228 | 138 => 227 | n => n, fun | 3 => 6 | 4 => 7 | n => n⟩
theorem Tryz.lays160 : Go.Proofs.Lays.n160 Tryz.prog Tryz.lays160_ren := {
  mixed := by kernel_rfl
  f119 := Tryz.func187.trans (congrArg some (by kernel_rfl))
  f120 := Tryz.func180.trans (congrArg some (by kernel_rfl))
  f137 := Tryz.func186.trans (congrArg some (by kernel_rfl))
  f151 := Tryz.func162.trans (congrArg some (by kernel_rfl))
  f152 := Tryz.func179.trans (congrArg some (by kernel_rfl))
  f160 := Tryz.func108.trans (congrArg some (by kernel_rfl))
  f197 := Tryz.func161.trans (congrArg some (by kernel_rfl))
  f217 := Tryz.func193.trans (congrArg some (by kernel_rfl))
  f224 := Tryz.func188.trans (congrArg some (by kernel_rfl))
  f225 := Tryz.func189.trans (congrArg some (by kernel_rfl))
  f227 := Tryz.func136.trans (congrArg some (by kernel_rfl))
  f228 := Tryz.func160.trans (congrArg some (by kernel_rfl))
  f231 := Tryz.func134.trans (congrArg some (by kernel_rfl))
  f232 := Tryz.func135.trans (congrArg some (by kernel_rfl))
  f233 := Tryz.func137.trans (congrArg some (by kernel_rfl))
  f234 := Tryz.func138.trans (congrArg some (by kernel_rfl))
  f235 := Tryz.func139.trans (congrArg some (by kernel_rfl))
  f236 := Tryz.func140.trans (congrArg some (by kernel_rfl))
  f260 := Tryz.func178.trans (congrArg some (by kernel_rfl))
  f266 := Tryz.func195.trans (congrArg some (by kernel_rfl))
  f271 := Tryz.func163.trans (congrArg some (by kernel_rfl))
  t0 := Tryz.underlying0
  a0 := Tryz.isAgg0
  z0 := Tryz.sizeOf0
  v0 := Tryz.zeroValue0
  t3 := Tryz.underlying3
  a3 := Tryz.isAgg3
  z3 := Tryz.sizeOf3
  v3 := Tryz.zeroValue3
  t4 := Tryz.underlying4
  a4 := Tryz.isAgg4
  z4 := Tryz.sizeOf4
  v4 := Tryz.zeroValue4
  t5 := Tryz.underlying5
  a5 := Tryz.isAgg5
  z5 := Tryz.sizeOf5
  v5 := Tryz.zeroValue5
  t9 := Tryz.underlying9
  a9 := Tryz.isAgg9
  z9 := Tryz.sizeOf9
  v9 := Tryz.zeroValue9
  t21 := Tryz.underlying21
  a21 := Tryz.isAgg21
  z21 := Tryz.sizeOf21
  v21 := Tryz.zeroValue21
  t46 := Tryz.underlying135
  a46 := Tryz.isAgg135
  z46 := Tryz.sizeOf135
  v46 := Tryz.zeroValue135
  t105 := Tryz.underlying188
  a105 := Tryz.isAgg188
  z105 := Tryz.sizeOf188
  v105 := Tryz.zeroValue188
  t116 := Tryz.underlying156
  a116 := Tryz.isAgg156
  z116 := Tryz.sizeOf156
  t117 := Tryz.underlying157
  a117 := Tryz.isAgg157
  z117 := Tryz.sizeOf157
  v117 := Tryz.zeroValue157
  t119 := Tryz.underlying137
  a119 := Tryz.isAgg137
  z119 := Tryz.sizeOf137
  t124 := Tryz.underlying160
  a124 := Tryz.isAgg160
  z124 := Tryz.sizeOf160
  v124 := Tryz.zeroValue160
  t138 := Tryz.underlying227
  a138 := Tryz.isAgg227
  z138 := Tryz.sizeOf227
  v138 := Tryz.zeroValue227
  t139 := Tryz.underlying228
  a139 := Tryz.isAgg228
  z139 := Tryz.sizeOf228
  v139 := Tryz.zeroValue228
  g3 := by kernel_rfl
  g4 := by kernel_rfl }
def Tryz.lays103_ren : Go.Shelf.Ren := ⟨fun | 103 => 107 | 210 => 133 | 206 => 159 | n => n, fun | 9 => 9 | 4 => 4 | 24 => 121 | 3 => 3 | n => n, fun | n => n⟩
theorem Tryz.lays103 : Go.Proofs.Lays.n103 Tryz.prog Tryz.lays103_ren := {
  mixed := by kernel_rfl
  f103 := Tryz.func107.trans (congrArg some (by kernel_rfl))
  f206 := Tryz.func159.trans (congrArg some (by kernel_rfl))
  f210 := Tryz.func133.trans (congrArg some (by kernel_rfl))
  t3 := Tryz.underlying3
  a3 := Tryz.isAgg3
  z3 := Tryz.sizeOf3
  v3 := Tryz.zeroValue3
  t4 := Tryz.underlying4
  a4 := Tryz.isAgg4
  z4 := Tryz.sizeOf4
  v4 := Tryz.zeroValue4
  t9 := Tryz.underlying9
  a9 := Tryz.isAgg9
  z9 := Tryz.sizeOf9
  v9 := Tryz.zeroValue9
  t24 := Tryz.underlying121
  a24 := Tryz.isAgg121
  z24 := Tryz.sizeOf121
  v24 := Tryz.zeroValue121 }
def Tryz.laysM246_ren : Go.Shelf.Ren := ⟨fun | 246 => 35 | 283 => 78 | 284 => 79 | 285 => 80 | 286 => 81 | 129 => 115 | 317 => 114 | 318 => 116 | 319 => 117 | 320 => 118 | 337 => 148 | 338 => 149 | n => n, fun | 2 => 2 | 3 => 3 | 9 => 9 | 4 => 4 | 171 => 96 | 0 => 0 | 53 => 97 | 37 => 100 | 5 => 5 | 173 => 101 | 212 => 131 | 51 => 132 | 20 => 20 | 213 => 133 | 46 => 135 | 232 => 204 | 233 => 205 | n => n, fun | 17 => 1 | 18 => 4 | 19 => 5 | n => n⟩
theorem Tryz.laysM246 : Go.Proofs.LaysM.n246 Tryz.prog Tryz.laysM246_ren := {
  mixed := by kernel_rfl
  f129 := Tryz.func115.trans (congrArg some (by kernel_rfl))
  f246 := Tryz.func35.trans (congrArg some (by kernel_rfl))
  f283 := Tryz.func78.trans (congrArg some (by kernel_rfl))
  f284 := Tryz.func79.trans (congrArg some (by kernel_rfl))
  f285 := Tryz.func80.trans (congrArg some (by kernel_rfl))
  f286 := Tryz.func81.trans (congrArg some (by kernel_rfl))
  f317 := Tryz.func114.trans (congrArg some (by kernel_rfl))
  f318 := Tryz.func116.trans (congrArg some (by kernel_rfl))
  f319 := Tryz.func117.trans (congrArg some (by kernel_rfl))
  f320 := Tryz.func118.trans (congrArg some (by kernel_rfl))
  f337 := Tryz.func148.trans (congrArg some (by kernel_rfl))
  f338 := Tryz.func149.trans (congrArg some (by kernel_rfl))
  t0 := Tryz.underlying0
  a0 := Tryz.isAgg0
  z0 := Tryz.sizeOf0
  v0 := Tryz.zeroValue0
  t2 := Tryz.underlying2
  a2 := Tryz.isAgg2
  z2 := Tryz.sizeOf2
  v2 := Tryz.zeroValue2
  t3 := Tryz.underlying3
  a3 := Tryz.isAgg3
  z3 := Tryz.sizeOf3
  v3 := Tryz.zeroValue3
  t4 := Tryz.underlying4
  a4 := Tryz.isAgg4
  z4 := Tryz.sizeOf4
  v4 := Tryz.zeroValue4
  t5 := Tryz.underlying5
  a5 := Tryz.isAgg5
  z5 := Tryz.sizeOf5
  v5 := Tryz.zeroValue5
  t9 := Tryz.underlying9
  a9 := Tryz.isAgg9
  z9 := Tryz.sizeOf9
  v9 := Tryz.zeroValue9
  t20 := Tryz.underlying20
  a20 := Tryz.isAgg20
  z20 := Tryz.sizeOf20
  v20 := Tryz.zeroValue20
  t37 := Tryz.underlying100
  a37 := Tryz.isAgg100
  z37 := Tryz.sizeOf100
  v37 := Tryz.zeroValue100
  t46 := Tryz.underlying135
  a46 := Tryz.isAgg135
  z46 := Tryz.sizeOf135
  v46 := Tryz.zeroValue135
  t51 := Tryz.underlying132
  a51 := Tryz.isAgg132
  z51 := Tryz.sizeOf132
  v51 := Tryz.zeroValue132
  t53 := Tryz.underlying97
  a53 := Tryz.isAgg97
  z53 := Tryz.sizeOf97
  v53 := Tryz.zeroValue97
  t171 := Tryz.underlying96
  a171 := Tryz.isAgg96
  z171 := Tryz.sizeOf96
  v171 := Tryz.zeroValue96
  t173 := Tryz.underlying101
  a173 := Tryz.isAgg101
  z173 := Tryz.sizeOf101
  v173 := Tryz.zeroValue101
  t212 := Tryz.underlying131
  a212 := Tryz.isAgg131
  z212 := Tryz.sizeOf131
  v212 := Tryz.zeroValue131
  t213 := Tryz.underlying133
  a213 := Tryz.isAgg133
  z213 := Tryz.sizeOf133
  t232 := Tryz.underlying204
  a232 := Tryz.isAgg204
  z232 := Tryz.sizeOf204
  v232 := Tryz.zeroValue204
  t233 := Tryz.underlying205
  a233 := Tryz.isAgg205
  z233 := Tryz.sizeOf205
  v233 := Tryz.zeroValue205
  g17 := by kernel_rfl
  g18 := by kernel_rfl
  g19 := by kernel_rfl
  i0 := by kernel_rfl
  i2 := by kernel_rfl
  i3 := by kernel_rfl
  i4 := by kernel_rfl
  i5 := by kernel_rfl
  i9 := by kernel_rfl
  i20 := by kernel_rfl
  i37 := by kernel_rfl
  i46 := by kernel_rfl
  i51 := by kernel_rfl
  i53 := by kernel_rfl
  i171 := by kernel_rfl
  i173 := by kernel_rfl
  i212 := by kernel_rfl
  i232 := by kernel_rfl
  i233 := by kernel_rfl
  m17 := by kernel_rfl
  m18 := by kernel_rfl
  m19 := by kernel_rfl }
def Tryz.laysM171_ren : Go.Shelf.Ren := ⟨fun | 171 => 85 | 243 => 122 | 246 => 35 | 283 => 78 | 284 => 79 | 285 => 80 | 286 => 81 | 129 => 115 | 317 => 114 | 318 => 116 | 319 => 117 | 320 => 118 | 337 => 148 | 338 => 149 | n => n, fun | 3 => 3 | 9 => 9 | 2 => 2 | 4 => 4 | 171 => 96 | 0 => 0 | 53 => 97 | 37 => 100 | 5 => 5 | 173 => 101 | 212 => 131 | 51 => 132 | 20 => 20 | 213 => 133 | 46 => 135 | 232 => 204 | 233 => 205 | n => n, fun | 17 => 1 | 18 => 4 | 19 => 5 | n => n⟩
theorem Tryz.laysM171 : Go.Proofs.LaysM.n171 Tryz.prog Tryz.laysM171_ren := {
  mixed := by kernel_rfl
  f129 := Tryz.func115.trans (congrArg some (by kernel_rfl))
  f171 := Tryz.func85.trans (congrArg some (by kernel_rfl))
  f243 := Tryz.func122.trans (congrArg some (by kernel_rfl))
  f246 := Tryz.func35.trans (congrArg some (by kernel_rfl))
  f283 := Tryz.func78.trans (congrArg some (by kernel_rfl))
  f284 := Tryz.func79.trans (congrArg some (by kernel_rfl))
  f285 := Tryz.func80.trans (congrArg some (by kernel_rfl))
  f286 := Tryz.func81.trans (congrArg some (by kernel_rfl))
  f317 := Tryz.func114.trans (congrArg some (by kernel_rfl))
  f318 := Tryz.func116.trans (congrArg some (by kernel_rfl))
  f319 := Tryz.func117.trans (congrArg some (by kernel_rfl))
  f320 := Tryz.func118.trans (congrArg some (by kernel_rfl))
  f337 := Tryz.func148.trans (congrArg some (by kernel_rfl))
  f338 := Tryz.func149.trans (congrArg some (by kernel_rfl))
  t0 := Tryz.underlying0
  a0 := Tryz.isAgg0
  z0 := Tryz.sizeOf0
  v0 := Tryz.zeroValue0
  t2 := Tryz.underlying2
  a2 := Tryz.isAgg2
  z2 := Tryz.sizeOf2
  v2 := Tryz.zeroValue2
  t3 := Tryz.underlying3
  a3 := Tryz.isAgg3
  z3 := Tryz.sizeOf3
  v3 := Tryz.zeroValue3
  t4 := Tryz.underlying4
  a4 := Tryz.isAgg4
  z4 := Tryz.sizeOf4
  v4 := Tryz.zeroValue4
  t5 := Tryz.underlying5
  a5 := Tryz.isAgg5
  z5 := Tryz.sizeOf5
  v5 := Tryz.zeroValue5
  t9 := Tryz.underlying9
  a9 := Tryz.isAgg9
  z9 := Tryz.sizeOf9
  v9 := Tryz.zeroValue9
  t20 := Tryz.underlying20
  a20 := Tryz.isAgg20
  z20 := Tryz.sizeOf20
  v20 := Tryz.zeroValue20
  t37 := Tryz.underlying100
  a37 := Tryz.isAgg100
  z37 := Tryz.sizeOf100
  v37 := Tryz.zeroValue100
  t46 := Tryz.underlying135
  a46 := Tryz.isAgg135
  z46 := Tryz.sizeOf135
  v46 := Tryz.zeroValue135
  t51 := Tryz.underlying132
  a51 := Tryz.isAgg132
  z51 := Tryz.sizeOf132
  v51 := Tryz.zeroValue132
  t53 := Tryz.underlying97
  a53 := Tryz.isAgg97
  z53 := Tryz.sizeOf97
  v53 := Tryz.zeroValue97
  t171 := Tryz.underlying96
  a171 := Tryz.isAgg96
  z171 := Tryz.sizeOf96
  v171 := Tryz.zeroValue96
  t173 := Tryz.underlying101
  a173 := Tryz.isAgg101
  z173 := Tryz.sizeOf101
  v173 := Tryz.zeroValue101
  t212 := Tryz.underlying131
  a212 := Tryz.isAgg131
  z212 := Tryz.sizeOf131
  v212 := Tryz.zeroValue131
  t213 := Tryz.underlying133
  a213 := Tryz.isAgg133
  z213 := Tryz.sizeOf133
  t232 := Tryz.underlying204
  a232 := Tryz.isAgg204
  z232 := Tryz.sizeOf204
  v232 := Tryz.zeroValue204
  t233 := Tryz.underlying205
  a233 := Tryz.isAgg205
  z233 := Tryz.sizeOf205
  v233 := Tryz.zeroValue205
  g17 := by kernel_rfl
  g18 := by kernel_rfl
  g19 := by kernel_rfl
  i0 := by kernel_rfl
  i2 := by kernel_rfl
  i3 := by kernel_rfl
  i4 := by kernel_rfl
  i5 := by kernel_rfl
  i9 := by kernel_rfl
  i20 := by kernel_rfl
  i37 := by kernel_rfl
  i46 := by kernel_rfl
  i51 := by kernel_rfl
  i53 := by kernel_rfl
  i171 := by kernel_rfl
  i173 := by kernel_rfl
  i212 := by kernel_rfl
  i232 := by kernel_rfl
  i233 := by kernel_rfl
  m17 := by kernel_rfl
  m18 := by kernel_rfl
  m19 := by kernel_rfl }
def Tryz.lays145_ren : Go.Shelf.Ren := ⟨fun | 145 => 177 | 220 => 185 | 219 => 192 | 217 => 193 | 225 => 189 | 224 => 188 | 267 => 194 | 266 => 195 | 314 => 196 | n => n, fun | 9 => 9 | 4 => 4 | 59 => 219 | 3 => 3 | 5 => 5 | 46 => 135 | 146 => 233 | 51 => 132 | n => n, fun | 1 => 0 | n => n⟩
theorem Tryz.lays145 : Go.Proofs.Lays.n145 Tryz.prog Tryz.lays145_ren := {
  mixed := by kernel_rfl
  f145 := Tryz.func177.trans (congrArg some (by kernel_rfl))
  f217 := Tryz.func193.trans (congrArg some (by kernel_rfl))
  f219 := Tryz.func192.trans (congrArg some (by kernel_rfl))
  f220 := Tryz.func185.trans (congrArg some (by kernel_rfl))
  f224 := Tryz.func188.trans (congrArg some (by kernel_rfl))
  f225 := Tryz.func189.trans (congrArg some (by kernel_rfl))
  f266 := Tryz.func195.trans (congrArg some (by kernel_rfl))
  f267 := Tryz.func194.trans (congrArg some (by kernel_rfl))
  f314 := Tryz.func196.trans (congrArg some (by kernel_rfl))
  t3 := Tryz.underlying3
  a3 := Tryz.isAgg3
  z3 := Tryz.sizeOf3
  v3 := Tryz.zeroValue3
  t4 := Tryz.underlying4
  a4 := Tryz.isAgg4
  z4 := Tryz.sizeOf4
  v4 := Tryz.zeroValue4
  t5 := Tryz.underlying5
  a5 := Tryz.isAgg5
  z5 := Tryz.sizeOf5
  v5 := Tryz.zeroValue5
  t9 := Tryz.underlying9
  a9 := Tryz.isAgg9
  z9 := Tryz.sizeOf9
  v9 := Tryz.zeroValue9
  t46 := Tryz.underlying135
  a46 := Tryz.isAgg135
  z46 := Tryz.sizeOf135
  v46 := Tryz.zeroValue135
  t51 := Tryz.underlying132
  a51 := Tryz.isAgg132
  z51 := Tryz.sizeOf132
  v51 := Tryz.zeroValue132
  t59 := Tryz.underlying219
  a59 := Tryz.isAgg219
  z59 := Tryz.sizeOf219
  v59 := Tryz.zeroValue219
  t146 := Tryz.underlying233
  a146 := Tryz.isAgg233
  z146 := Tryz.sizeOf233
  v146 := Tryz.zeroValue233
  g1 := by kernel_rfl }
def Tryz.lays149_ren : Go.Shelf.Ren := ⟨fun | 149 => 18 | 222 => 36 | n => n, fun | 9 => 9 | 5 => 5 | 3 => 3 | 4 => 4 | n => n, fun | n => n⟩
theorem Tryz.lays149 : Go.Proofs.Lays.n149 Tryz.prog Tryz.lays149_ren := {
  mixed := by kernel_rfl
  f149 := Tryz.func18.trans (congrArg some (by kernel_rfl))
  f222 := Tryz.func36.trans (congrArg some (by kernel_rfl))
  t3 := Tryz.underlying3
  a3 := Tryz.isAgg3
  z3 := Tryz.sizeOf3
  v3 := Tryz.zeroValue3
  t4 := Tryz.underlying4
  a4 := Tryz.isAgg4
  z4 := Tryz.sizeOf4
  v4 := Tryz.zeroValue4
  t5 := Tryz.underlying5
  a5 := Tryz.isAgg5
  z5 := Tryz.sizeOf5
  v5 := Tryz.zeroValue5
  t9 := Tryz.underlying9
  a9 := Tryz.isAgg9
  z9 := Tryz.sizeOf9
  v9 := Tryz.zeroValue9 }
def Tryz.laysM157_ren : Go.Shelf.Ren := ⟨fun | 157 => 82 | 229 => 119 | 199 => 120 | 261 => 150 | 311 => 172 | 312 => 173 | n => n, fun | 9 => 9 | 31 => 67 | 3 => 3 | 5 => 5 | 4 => 4 | 119 => 137 | 0 => 0 | 40 => 139 | 152 => 167 | 21 => 21 | 154 => 169 | 51 => 132 | 141 => 171 | 196 => 209 | 193 => 206 | 198 => 212 | 49 => 210 | 194 => 207 | 201 => 215 | 226 => 223 | 46 => 135 | 227 => 224 | n => n, fun | 0 => 2 | 6 => 3 | n => n⟩
theorem Tryz.laysM157 : Go.Proofs.LaysM.n157 Tryz.prog Tryz.laysM157_ren := {
  mixed := by kernel_rfl
  f157 := Tryz.func82.trans (congrArg some (by kernel_rfl))
  f199 := Tryz.func120.trans (congrArg some (by kernel_rfl))
  f229 := Tryz.func119.trans (congrArg some (by kernel_rfl))
  f261 := Tryz.func150.trans (congrArg some (by kernel_rfl))
  f311 := Tryz.func172.trans (congrArg some (by kernel_rfl))
  f312 := Tryz.func173.trans (congrArg some (by kernel_rfl))
  t0 := Tryz.underlying0
  a0 := Tryz.isAgg0
  z0 := Tryz.sizeOf0
  v0 := Tryz.zeroValue0
  t3 := Tryz.underlying3
  a3 := Tryz.isAgg3
  z3 := Tryz.sizeOf3
  v3 := Tryz.zeroValue3
  t4 := Tryz.underlying4
  a4 := Tryz.isAgg4
  z4 := Tryz.sizeOf4
  v4 := Tryz.zeroValue4
  t5 := Tryz.underlying5
  a5 := Tryz.isAgg5
  z5 := Tryz.sizeOf5
  v5 := Tryz.zeroValue5
  t9 := Tryz.underlying9
  a9 := Tryz.isAgg9
  z9 := Tryz.sizeOf9
  v9 := Tryz.zeroValue9
  t21 := Tryz.underlying21
  a21 := Tryz.isAgg21
  z21 := Tryz.sizeOf21
  v21 := Tryz.zeroValue21
  t31 := Tryz.underlying67
  a31 := Tryz.isAgg67
  z31 := Tryz.sizeOf67
  v31 := Tryz.zeroValue67
  t40 := Tryz.underlying139
  a40 := Tryz.isAgg139
  z40 := Tryz.sizeOf139
  v40 := Tryz.zeroValue139
  t46 := Tryz.underlying135
  a46 := Tryz.isAgg135
  z46 := Tryz.sizeOf135
  v46 := Tryz.zeroValue135
  t49 := Tryz.underlying210
  a49 := Tryz.isAgg210
  z49 := Tryz.sizeOf210
  v49 := Tryz.zeroValue210
  t51 := Tryz.underlying132
  a51 := Tryz.isAgg132
  z51 := Tryz.sizeOf132
  v51 := Tryz.zeroValue132
  t119 := Tryz.underlying137
  a119 := Tryz.isAgg137
  z119 := Tryz.sizeOf137
  t141 := Tryz.underlying171
  a141 := Tryz.isAgg171
  z141 := Tryz.sizeOf171
  v141 := Tryz.zeroValue171
  t152 := Tryz.underlying167
  a152 := Tryz.isAgg167
  z152 := Tryz.sizeOf167
  v152 := Tryz.zeroValue167
  t154 := Tryz.underlying169
  a154 := Tryz.isAgg169
  z154 := Tryz.sizeOf169
  v154 := Tryz.zeroValue169
  t193 := Tryz.underlying206
  a193 := Tryz.isAgg206
  z193 := Tryz.sizeOf206
  v193 := Tryz.zeroValue206
  t194 := Tryz.underlying207
  a194 := Tryz.isAgg207
  z194 := Tryz.sizeOf207
  v194 := Tryz.zeroValue207
  t196 := Tryz.underlying209
  a196 := Tryz.isAgg209
  z196 := Tryz.sizeOf209
  v196 := Tryz.zeroValue209
  t198 := Tryz.underlying212
  a198 := Tryz.isAgg212
  z198 := Tryz.sizeOf212
  v198 := Tryz.zeroValue212
  t201 := Tryz.underlying215
  a201 := Tryz.isAgg215
  z201 := Tryz.sizeOf215
  v201 := Tryz.zeroValue215
  t226 := Tryz.underlying223
  a226 := Tryz.isAgg223
  z226 := Tryz.sizeOf223
  v226 := Tryz.zeroValue223
  t227 := Tryz.underlying224
  a227 := Tryz.isAgg224
  z227 := Tryz.sizeOf224
  v227 := Tryz.zeroValue224
  g0 := by kernel_rfl
  g6 := by kernel_rfl
  i0 := by kernel_rfl
  i3 := by kernel_rfl
  i4 := by kernel_rfl
  i5 := by kernel_rfl
  i9 := by kernel_rfl
  i21 := by kernel_rfl
  i31 := by kernel_rfl
  i40 := by kernel_rfl
  i46 := by kernel_rfl
  i49 := by kernel_rfl
  i51 := by kernel_rfl
  i141 := by kernel_rfl
  i152 := by kernel_rfl
  i154 := by kernel_rfl
  i193 := by kernel_rfl
  i194 := by kernel_rfl
  i196 := by kernel_rfl
  i198 := by kernel_rfl
  i201 := by kernel_rfl
  i226 := by kernel_rfl
  i227 := by kernel_rfl
  m0 := by kernel_rfl
  m6 := by kernel_rfl }
def Tryz.lays109_ren : Go.Shelf.Ren := ⟨fun | 109 => 37 | n => n, fun | 31 => 67 | 9 => 9 | 3 => 3 | 0 => 0 | 4 => 4 | n => n, fun | n => n⟩
theorem Tryz.lays109 : Go.Proofs.Lays.n109 Tryz.prog Tryz.lays109_ren := {
  mixed := by kernel_rfl
  f109 := Tryz.func37.trans (congrArg some (by kernel_rfl))
  t0 := Tryz.underlying0
  a0 := Tryz.isAgg0
  z0 := Tryz.sizeOf0
  v0 := Tryz.zeroValue0
  t3 := Tryz.underlying3
  a3 := Tryz.isAgg3
  z3 := Tryz.sizeOf3
  v3 := Tryz.zeroValue3
  t4 := Tryz.underlying4
  a4 := Tryz.isAgg4
  z4 := Tryz.sizeOf4
  v4 := Tryz.zeroValue4
  t9 := Tryz.underlying9
  a9 := Tryz.isAgg9
  z9 := Tryz.sizeOf9
  v9 := Tryz.zeroValue9
  t31 := Tryz.underlying67
  a31 := Tryz.isAgg67
  z31 := Tryz.sizeOf67
  v31 := Tryz.zeroValue67 }
end Go.Proofs
namespace Go.Proofs.YtalfoihffnlelaaGreatDoor
open Go.RowKit Go.Proofs.Lexi
abbrev FR := Option (Bool × Int × Nat × Nat)
def findN (t : List Nat) : FR :=
  if hexHead t then some (true, -1, 2 + runN 16 (t.drop 2), 2)
  else if runN 10 t = 0 then none
  else if placesN t (runN 10 t) = 0 then some (false, -1, runN 10 t, 0)
  else some (false, (runN 10 t : Nat), runN 10 t + 1 + placesN t (runN 10 t), 0)
def FindPost (w : World) (R : FR) (e : Ending) (w' : World) : Prop := match R with
  | some (h, p, n, f) => e = .returned (.tuple #[.agg #[.bool h, .int .i64 p, .int .i64 (n : Nat), .int .i64 (f : Nat)], .bool true]) ∧ Below w.heap.size w w'
  | none => e = .returned (.tuple #[.agg #[.bool false, .int .i64 0, .int .i64 0, .int .i64 0], .bool false]) ∧ Below w.heap.size w w'
theorem find_no {w w' : World} {R : FR} (h : R = none) (hb : Below w.heap.size w w') : FindPost w R (.returned (.tuple #[.agg #[.bool false, .int .i64 0, .int .i64 0, .int .i64 0], .bool false])) w' := by subst h; exact ⟨rfl, hb⟩
theorem find_yes {w w' : World} {R : FR} {h : Bool} {p : Int} {n f : Nat} {n' f' : Int} (hR : R = some (h, p, n, f)) (hn : n' = n) (hf : f' = f) (hb : Below w.heap.size w w') : FindPost w R (.returned (.tuple #[.agg #[.bool h, .int .i64 p, .int .i64 n', .int .i64 f'], .bool true])) w' := by subst hR hn hf; exact ⟨rfl, hb⟩
theorem below_four {B : Nat} {a w : World} (h : Below B a w) {b : Nat} (hb : B ≤ b) (x y z u : Value) : Below B a ((((w.setCell ⟨b, 0, none⟩ x).setCell ⟨b, 1, none⟩ y).setCell ⟨b, 2, none⟩ z).setCell ⟨b, 3, none⟩ u) :=
  (((h.setCell (p := ⟨b, 0, none⟩) hb x).setCell (p := ⟨b, 1, none⟩) hb y).setCell (p := ⟨b, 2, none⟩) hb z).setCell (p := ⟨b, 3, none⟩) hb u
def PRuns (s : ByteArray) (a base : Int) (r : Int) : Prop := ∀ W, Calls Tryz.prog 174 #[.string s, .int .i64 a, .int .i64 base] W fun e w' => e = .returned (.int .i64 r) ∧ W = w'
theorem digV_x : isDig 10 120 = false ∧ isDig 10 88 = false ∧ isDig 10 48 = true := by decide
theorem hex_run10 {t : List Nat} (h : hexHead t = true) : runN 10 t = 1 := by
  match t, h with
  | a :: x :: d :: r, h =>
    simp only [hexHead, Bool.and_eq_true, Bool.or_eq_true, beq_iff_eq] at h
    obtain ⟨⟨rfl, hx⟩, _⟩ := h
    unfold runN
    rw [if_pos digV_x.2.2]
    unfold runN
    rw [if_neg]
    rcases hx with rfl | rfl
    · rw [digV_x.1]; decide
    · rw [digV_x.2.1]; decide
/-- The ways behind the digits: a point or none. -/
def DotNo (s : ByteArray) (r : Nat) : Prop := s.size ≤ r ∨ ∃ h : r < s.size, ((s[r].toNat : Int) == 46) = false ∨ (((s[r].toNat : Int) == 46) = true ∧ PRuns s ((r : Int) + 1) 10 ((r : Int) + 1))
/-- The ways of the test for a hexadecimal numeral, where there is none; r: the digits at 0. -/
def HexNo (s : ByteArray) (r : Nat) : Prop := ((r : Int) == 1) = false ∨ (((r : Int) == 1) = true ∧ ∃ h0 : 0 < s.size, ((s[0].toNat : Int) == 48) = false ∨ (((s[0].toNat : Int) == 48) = true ∧ (s.size ≤ 1 ∨ ∃ h1 : 1 < s.size,
  (((s[1].toNat : Int) == 120) = false ∧ ((s[1].toNat : Int) == 88) = false) ∨ (PRuns s 2 16 2 ∧ ((s[1].toNat : Int) == 46) = false ∧ (((s[1].toNat : Int) == 120) = true ∨ (((s[1].toNat : Int) == 120) = false ∧ ((s[1].toNat : Int) == 88) = true))))))
end Go.Proofs.YtalfoihffnlelaaGreatDoor
namespace Go.Proofs.YtalfoihffnlelaaGreatDoor
open Go.RowKit
def Good : RR → Prop
  | .ok a => -2147483647 ≤ a.1 ∧ a.1 ≤ 2147483647 ∧ a.2 ≤ 2147483647
  | .error c => c = 4 ∨ c = 6 ∨ c = 7
theorem good_range (p q : Int) : Good (rangeN p q) := by
  unfold rangeN
  split
  · rename_i h
    rw [Bool.and_eq_true, inTop_iff, decide_eq_true_eq] at h
    exact ⟨h.1.1, h.1.2, h.2⟩
  · exact .inr (.inl rfl)
theorem good_red (p q : Int) : Good (redN p q) := by
  unfold redN redPos
  split <;> exact good_range _ _
theorem good_make (p q : Int) : Good (makeN p q) := by
  unfold makeN
  split
  · exact .inr (.inr rfl)
  · split
    · exact good_red _ _
    · exact .inr (.inl rfl)
theorem range_err {p q : Int} {c : Nat} (h : rangeN p q = .error c) : c = 6 := by
  unfold rangeN at h
  split at h
  · cases h
  · injection h with h; exact h.symm
theorem make_err {p q : Int} {c : Nat} (hq : q ≠ 0) (h : makeN p q = .error c) : c = 6 := by
  unfold makeN at h
  rw [if_neg hq] at h
  split at h
  · unfold redN redPos at h
    split at h <;> exact range_err h
  · injection h with h; exact h.symm
theorem pow_ne (P : Nat) : ((10 ^ P : Nat) : Int) ≠ 0 := by
  have : 0 < 10 ^ P := Nat.pow_pos (by decide)
  omega
theorem good_dec (l : List Nat) (P : Nat) : Good (decN l P) := by
  unfold decN
  split
  · exact .inr (.inl rfl)
  · split
    · exact .inr (.inl rfl)
    · exact good_make _ _
theorem good_hex (l : List Nat) : Good (hexN l) := by
  unfold hexN
  split
  · exact .inr (.inl rfl)
  · exact good_make _ _
theorem good_numeral (t : List Nat) : Good (numeralG t).2 := by
  unfold numeralG
  split
  · exact good_hex _
  · split
    · exact .inl rfl
    · split <;> exact good_dec _ _
theorem good_fraction (p q : List Nat) : Good (fractionN p q) := by
  unfold fractionN
  split
  · split
    · split
      · exact .inr (.inl rfl)
      · exact good_make _ _
    · exact .inr (.inl rfl)
  · exact .inl rfl
theorem good_unsigned (t : List Nat) : Good (unsignedG t) := by
  unfold unsignedG
  split
  · split
    · exact .inl rfl
    · exact good_numeral t
  · exact good_fraction _ _
theorem good_bounds {R : RR} (h : Good R) : -2147483647 ≤ nP R ∧ nP R ≤ 2147483647 ∧ nE R ≤ 7 := by
  cases R with
  | ok a => exact ⟨h.1, h.2.1, Nat.zero_le _⟩
  | error c =>
    refine ⟨show (-2147483647 : Int) ≤ 0 from by decide, show (0 : Int) ≤ 2147483647 from by decide, ?_⟩
    have h : c = 4 ∨ c = 6 ∨ c = 7 := h
    show c ≤ 7
    omega
theorem good_err {c : Nat} (h : Good (.error c)) : c ≠ 0 := by
  have h : c = 4 ∨ c = 6 ∨ c = 7 := h
  omega
theorem dropWhile_le (p : Nat → Bool) : ∀ l : List Nat, (l.dropWhile p).length ≤ l.length
  | [] => Nat.le_refl _
  | c :: r => by
    rw [List.dropWhile_cons]
    split
    · exact Nat.le_succ_of_le (dropWhile_le p r)
    · exact Nat.le_refl _
theorem trimG_le (l : List Nat) : (trimG l).length ≤ l.length := by
  unfold trimG
  rw [List.length_reverse]
  refine Nat.le_trans (dropWhile_le _ _) ?_
  rw [List.length_reverse]
  exact dropWhile_le _ _
theorem cell_alloc_old {w : World} {o : Obj} {b k : Nat} (h : b < w.heap.size) : (w.alloc o).cell? ⟨b, k, none⟩ = w.cell? ⟨b, k, none⟩ := World.cell?_of_block (Below.heap_alloc w o b h)
theorem frozen_alloc_old {w : World} {o : Obj} {b k : Nat} (h : b < w.heap.size) : (w.alloc o).frozen? ⟨b, k, none⟩ = w.frozen? ⟨b, k, none⟩ := World.frozen?_of_block (Below.heap_alloc w o b h)
end Go.Proofs.YtalfoihffnlelaaGreatDoor
namespace Go.Proofs.YtalfoihffnlelaaGreatDoor
open Go.RowKit Go.Proofs.Lexi
abbrev o4 (h : Bool) (p e f : Int) : Obj := .cells #[.bool h, .int .i64 p, .int .i64 e, .int .i64 f] 174
theorem mk_ways {n q : Int} {R : RR} (hq : q ≠ 0) (hR : R = makeN n q) : ((((nE (makeN n q) : Nat) : Int) != 0) = false ∧ R = makeN n q ∧ nE R = 0) ∨ ((((nE (makeN n q) : Nat) : Int) != 0) = true ∧ R = .error 6) := by
  cases hM : makeN n q with
  | ok a => exact .inl ⟨rfl, by rw [hR, hM], by rw [hR, hM]; rfl⟩
  | error c =>
    have := make_err hq hM
    subst this
    exact .inr ⟨rfl, by rw [hR, hM]⟩
theorem num_ok0 {w w' : World} {R M : RR} (h : R = M) (h0 : nE R = 0) (hb : Below w.heap.size w w') : NumPost w R (.returned (.tuple #[.agg #[.int .i64 (nP M), .int .i64 (nQ M)], .int .i64 0])) w' := by
  subst h
  have := num_res (R := R) hb
  rw [h0] at this
  exact this
theorem err_ways {M : RR} (hg : Good M) : ((((nE M : Nat) : Int) != 0) = true ∧ ∃ c, M = .error c) ∨ ((((nE M : Nat) : Int) != 0) = false ∧ nE M = 0 ∧ ∃ a, M = .ok a) := by
  cases M with
  | ok a => exact .inr ⟨rfl, rfl, a, rfl⟩
  | error c =>
    refine .inl ⟨?_, c, rfl⟩
    have := good_err hg
    rw [bne_iff_ne]
    show (c : Int) ≠ 0
    omega
theorem num_errE {w w' : World} {R M : RR} {c : Nat} (h : R = .error c) (hM : M = .error c) (hb : Below w.heap.size w w') : NumPost w R (.returned (.tuple #[.agg #[.int .i64 0, .int .i64 0], .int .i64 (nE M : Nat)])) w' := by subst hM; exact num_err h hb
theorem signed_cons (c : Nat) (r : List Nat) : signedG (c :: r) = if c = 45 then minusN (unsignedG r) else unsignedG (c :: r) := rfl
end Go.Proofs.YtalfoihffnlelaaGreatDoor
