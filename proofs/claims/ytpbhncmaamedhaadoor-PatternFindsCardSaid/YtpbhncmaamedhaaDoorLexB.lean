import Derived.Test.YtpbhncmaamedhaaDoorLexA
namespace Go.Proofs.Lexi
open Go

section
variable {P : Program} {ops : Array Oper} {Q : Exit → Act → World → Prop}

/-- What an operation does to a state: it writes its slot (and may defer). -/
def G (o : Oper) (g : Act → Act) : Prop :=
  (∃ v, g = fun a => a.put o.dst v) ∨ (∃ d, g = fun a => ({ a with defers := d :: a.defers } : Act).put o.dst undef)
theorem G.comm {o : Oper} {g : Act → Act} (h : G o g) (a : Act) (x : Option Tmp) (v : Value) (hx : ∀ d, x = some d → o.dst ≠ some d) :
    g (a.put x v) = (g a).put x v := by
  rcases h with ⟨u, rfl⟩ | ⟨d, rfl⟩
  · exact Act.put_comm a v u hx
  · dsimp only
    rw [Act.put_defers]
    exact Act.put_comm _ v undef hx
theorem G.tmps {o : Oper} {g : Act → Act} (h : G o g) (a : Act) (t : Tmp) (ht : o.dst ≠ some t) : (g a).tmps[t]? = a.tmps[t]? := by
  rcases h with ⟨u, rfl⟩ | ⟨d, rfl⟩
  all_goals
    cases hd : o.dst with
    | none => rfl
    | some e =>
      have : e ≠ t := fun h => ht (by rw [hd, h])
      simp [Act.put, Array.getElem?_setIfInBounds_ne this]
theorem G.exec {o : Oper} {g : Act → Act} (h : G o g) (a : Act) (oi : Oper) (hs : ∀ cs b, oi.op ≠ .select cs b) (hd : ∀ d, o.dst = some d → d ∉ oi.looksAt ops) :
    execOp (g a).eval oi = execOp a.eval oi := by
  rcases h with ⟨u, rfl⟩ | ⟨d, rfl⟩
  · exact execOp_put oi hs a o.dst u hd
  · rw [execOp_put (ops := ops) oi hs _ o.dst undef hd]; rfl
theorem G.wanted {o : Oper} {g : Act → Act} (h : G o g) (a : Act) (oi : Oper) (hd : ∀ d, o.dst = some d → d ∉ oi.looksAt ops) :
    Region.wanted oi (yielded ops (g a).tmps) = Region.wanted oi (yielded ops a.tmps) := by
  rcases h with ⟨u, rfl⟩ | ⟨d, rfl⟩
  · exact wanted_put oi a o.dst u hd
  · rw [wanted_put oi _ o.dst undef hd]

def upon' (P : Program) (o : Oper) (K : (Act → Act) → World → Prop) : Result Next → Prop
  | .ok (.value v) w' => K (fun a => a.put o.dst v) w'
  | .ok .skip w' => K (fun a => a.put o.dst undef) w'
  | .ok (.defer d) w' => K (fun a => ({ a with defers := d :: a.defers } : Act).put o.dst undef) w'
  | .ok (.enter f args) w' => Calls P f args w' fun
      | .returned v, w'' => K (fun a => a.put o.dst v) w''
      | _, _ => False
  | .ok (.row row args) w' => Rows P row args w' fun v w'' => K (fun a => a.put o.dst v) w''
  | _ => False
def eff (P : Program) (ops : Array Oper) (o : Oper) (a : Act) (w : World) (K : (Act → Act) → World → Prop) : Prop :=
  if Region.wanted o (yielded ops a.tmps) then upon' P o K ((execOp a.eval o).run P w) else K (fun a => a.put o.dst undef) w

theorem upon'_mono {o : Oper} {K K' : (Act → Act) → World → Prop} (h : ∀ g w, G o g → K g w → K' g w) (r : Result Next) (hh : upon' P o K r) : upon' P o K' r := by
  cases r with
  | halt x w' => exact hh
  | ok n w' =>
    cases n <;> simp only [upon'] at hh ⊢
    case value v => exact h _ _ (.inl ⟨v, rfl⟩) hh
    case skip => exact h _ _ (.inl ⟨_, rfl⟩) hh
    case defer d => exact h _ _ (.inr ⟨d, rfl⟩) hh
    case enter f args => exact Calls.mono hh (fun e w'' he => by cases e <;> first | exact h _ _ (.inl ⟨_, rfl⟩) he | exact he)
    case row r args => exact Rows.mono hh (fun v _ he => h _ _ (.inl ⟨v, rfl⟩) he)
theorem eff_mono {o : Oper} {a : Act} {w : World} {K K' : (Act → Act) → World → Prop} (h : ∀ g w, G o g → K g w → K' g w) (hh : eff P ops o a w K) : eff P ops o a w K' := by
  unfold eff at *
  split
  · rename_i hw; rw [if_pos hw] at hh; exact upon'_mono h _ hh
  · rename_i hw; rw [if_neg hw] at hh; exact h _ _ (.inl ⟨undef, rfl⟩) hh
theorem eff_exists {o : Oper} {a : Act} {w : World} {K : (Act → Act) → World → Prop} (hh : eff P ops o a w K) : ∃ g w', G o g ∧ K g w' := by
  unfold eff at hh
  split at hh
  · generalize (execOp a.eval o).run P w = r at hh
    cases r with
    | halt x w' => exact hh.elim
    | ok n w' =>
      cases n <;> simp only [upon'] at hh
      case value v => exact ⟨_, _, .inl ⟨v, rfl⟩, hh⟩
      case skip => exact ⟨_, _, .inl ⟨undef, rfl⟩, hh⟩
      case defer d => exact ⟨_, _, .inr ⟨d, rfl⟩, hh⟩
      case enter f args =>
        obtain ⟨e, w'', fr, hR, _⟩ := hh []
        cases e <;> first | exact ⟨_, _, .inl ⟨_, rfl⟩, hR⟩ | exact hR.elim
      case row r args =>
        obtain ⟨v, w'', hR, _⟩ := hh default []
        exact ⟨_, _, .inl ⟨v, rfl⟩, hR⟩
  · exact ⟨_, _, .inl ⟨undef, rfl⟩, hh⟩
theorem eff_same {o : Oper} {a a' : Act} {w : World} {K : (Act → Act) → World → Prop} (he : execOp a'.eval o = execOp a.eval o)
    (hw : Region.wanted o (yielded ops a'.tmps) = Region.wanted o (yielded ops a.tmps)) (hh : eff P ops o a w K) : eff P ops o a' w K := by
  unfold eff at *
  rw [he, hw]; exact hh

/-- Only the normal exit. -/
def OnlyN (Q : Exit → Act → World → Prop) : Prop := ∀ e a w, Q e a w → e = .normal
theorem wpOp_iff {i : Nat} {o : Oper} (hi : ops[i]? = some o) (hQ : OnlyN Q) (K : Act → World → Prop) (a : Act) (w : World) :
    wpOp P ops Q i K a w ↔ eff P ops o a w (fun g w' => K (g a) w') := by
  unfold wpOp eff
  simp only [hi]
  split
  · have hout : ¬ LetsOut Q := fun ⟨a, w, h⟩ => by have := hQ _ _ _ h; cases this
    simp only [hout, and_false, or_false]
    unfold Oper.wp
    generalize (execOp a.eval o).run P w = r
    cases r with
    | halt x w' =>
      cases x <;> simp only [Oper.upon, upon', iff_self, iff_false]
      exact fun h => by have := hQ _ _ _ h; cases this
    | ok n w' =>
      cases n <;> simp only [Oper.upon, upon', iff_self]
      case enter f args =>
        constructor
        · exact fun h => h.mono fun e w'' he => by
            cases e with
            | returned v => exact he
            | panicked c => have := hQ _ _ _ he; cases this
            | outgrown => exact (hout he).elim
        · exact fun h => h.mono fun e w'' he => by
            cases e with
            | returned v => exact he
            | panicked c => exact he.elim
            | outgrown => exact he.elim
  · exact Iff.rfl

/-- The operation has one value, in every world. -/
def Gives (P : Program) (ops : Array Oper) (o : Oper) (a : Act) (C : World → Prop) (v : Value) : Prop :=
  (Region.wanted o (yielded ops a.tmps) = true ∧ ∀ W, C W → (execOp a.eval o).run P W = .ok (.value v) W) ∨ (Region.wanted o (yielded ops a.tmps) = false ∧ v = undef)
theorem Gives.eff {o : Oper} {a : Act} {C : World → Prop} {v : Value} (h : Gives P ops o a C v) (w : World) (hC : C w) (K : (Act → Act) → World → Prop) :
    eff P ops o a w K ↔ K (fun a => a.put o.dst v) w := by
  unfold Lexi.eff
  rcases h with ⟨h1, h2⟩ | ⟨h1, rfl⟩
  · rw [if_pos h1, h2 w hC]; exact Iff.rfl
  · rw [if_neg (by simp [h1])]
theorem Gives.same {o : Oper} {a a' : Act} {C : World → Prop} {v : Value} (h : Gives P ops o a C v) (he : execOp a'.eval o = execOp a.eval o)
    (hw : Region.wanted o (yielded ops a'.tmps) = Region.wanted o (yielded ops a.tmps)) : Gives P ops o a' C v := by
  unfold Gives at *; rw [he, hw]; exact h

def Valued (P : Program) (s : Sem Next) : Prop := ∀ w x w', s.run P w = .ok x w' → ∃ v, x = .value v
theorem Valued.mk (s : Sem Value) : Valued P (do Pure.pure (Next.value (← s))) := fun w x w' e => by
  rw [Sem.run_bind] at e
  cases hs : s.run P w with
  | halt h w1 => rw [hs] at e; cases e
  | ok a w1 => rw [hs] at e; simp only [Result.andThen_ok, Sem.run_pure] at e; injection e with e1 _; exact ⟨a, e1.symm⟩
theorem Valued.bind {α : Type} (s : Sem α) {f : α → Sem Next} (h : ∀ a, Valued P (f a)) : Valued P (s >>= f) := fun w x w' e => by
  rw [Sem.run_bind] at e
  cases hs : s.run P w with
  | halt h w1 => rw [hs] at e; cases e
  | ok a w1 => rw [hs] at e; exact h a _ _ _ e
theorem Valued.pure (v : Value) : Valued P (Pure.pure (Next.value v)) := fun w x w' e => by injection e with e1 _; exact ⟨v, e1.symm⟩
theorem Valued.never {s : Sem Next} (h : Never P s) : Valued P s := fun w x w' e => by obtain ⟨_, _, h⟩ := h w; rw [h] at e; cases e
theorem Never.nilDeref : Never P (runtimePanic .nilDeref : Sem Next) := Never.bind _ fun _ => Never.goPanic _
theorem okVal_congr {ρ ρ' : Operand → Value} (op : Op) (h : ∀ x ∈ op.operands, ρ x = ρ' x) : okVal ρ op = okVal ρ' op := by
  cases op <;> first | rfl | skip
  case binOp => simp only [okVal]; rw [h _ (by simp [Op.operands]), h _ (by simp [Op.operands])]
  case nilCheck => simp only [okVal]; rw [h _ (by simp [Op.operands])]
  case call c =>
    obtain ⟨callee, args, ts⟩ := c
    simp only [okVal, lenCall]
    cases callee <;> first | rfl | skip
    rename_i bi
    cases bi <;> first | rfl | skip
    simp only []
    split
    · rename_i hs
      obtain ⟨x, rfl⟩ := Array.size_eq_one_iff.1 hs
      simp only [List.getElem?_toArray, List.getElem?_cons_zero, Option.all_some]
      rw [h x (by simp [Op.operands, Call.operands])]
    · rfl
theorem G.evals {o : Oper} {g : Act → Act} (h : G o g) (a : Act) (oi : Oper) (hd : ∀ d, o.dst = some d → d ∉ oi.looksAt ops) : ∀ x ∈ oi.op.operands, (g a).eval x = a.eval x := by
  intro x hx
  have key : ∀ (b : Act) (u : Value), (b.put o.dst u).eval x = b.eval x := fun b u => Act.eval_put fun d hd' hxd => hd d hd' (by
    subst hxd
    exact List.mem_append_left _ (List.mem_filterMap.2 ⟨.tmp d, by simpa using hx, rfl⟩))
  rcases h with ⟨u, rfl⟩ | ⟨d, rfl⟩
  · exact key a u
  · dsimp only; rw [key]; rfl
theorem valued_exec (ρ : Operand → Value) (o : Oper) (h : (isPure P o.op || isRead o.op || isNew o.op) = true) : Valued P (execOp ρ o) := by
  obtain ⟨dst, op, type, pos, after, guard⟩ := o
  cases op <;> first | (cases h; done) | exact Valued.mk _ | skip
  case move => intro w x w' e; injection e with e1 _; exact ⟨_, e1.symm⟩
  case assign => intro w x w' e; injection e with e1 _; exact ⟨_, e1.symm⟩
  case pick c a b =>
    intro w x w' e
    simp only [execOp, Sem.run_bind] at e
    cases hs : (asBool (ρ c)).run P w with
    | halt h w1 => rw [hs] at e; cases e
    | ok b w1 => rw [hs] at e; simp only [Result.andThen_ok, Sem.run_pure] at e; injection e with e1 _; exact ⟨_, e1.symm⟩
  case nilCheck y =>
    simp only [execOp]
    repeat' (first | exact Valued.pure _ | exact Valued.never Never.nilDeref | exact Valued.never (fun w => ⟨_, w, rfl⟩) | refine Valued.bind _ (fun _ => ?_) | split)
  case call c =>
    obtain ⟨callee, args, ts⟩ := c
    simp only [isPure, isRead, isNew, Bool.or_false, lenCall] at h
    cases callee <;> first | (cases h; done) | skip
    rename_i bi
    cases bi <;> first | (cases h; done) | skip
    simp only [execOp, resolve, invoke, builtin]
    exact Valued.mk (Builtin.len_ ts type _)

theorem gives_of_pure {o : Oper} {a : Act} {w : World} {K : (Act → Act) → World → Prop} (hp : isPure P o.op = true)
    (hv : Region.wanted o (yielded ops a.tmps) = true → okVal a.eval o.op = true) (h : eff P ops o a w K) : ∃ v, Gives P ops o a (fun _ => True) v := by
  cases hw : Region.wanted o (yielded ops a.tmps) with
  | false => exact ⟨undef, .inr ⟨hw, rfl⟩⟩
  | true =>
    unfold eff at h
    rw [if_pos hw] at h
    have hpure := pure_exec a.eval o hp (hv hw)
    cases hr : (execOp a.eval o).run P w with
    | halt x w' => rw [hr] at h; exact h.elim
    | ok x w' =>
      obtain ⟨v, rfl⟩ := valued_exec a.eval o (by simp [hp]) w x w' hr
      exact ⟨v, .inl ⟨hw, fun W _ => (hpure _ _ _ hr).2 W⟩⟩
theorem gives_of_read {o : Oper} {a : Act} {w : World} {K : (Act → Act) → World → Prop} (hp : isRead o.op = true) (h : eff P ops o a w K) : ∃ v, Gives P ops o a (Ext w) v := by
  cases hw : Region.wanted o (yielded ops a.tmps) with
  | false => exact ⟨undef, .inr ⟨hw, rfl⟩⟩
  | true =>
    unfold eff at h
    rw [if_pos hw] at h
    have hread := read_exec (P := P) a.eval o hp
    cases hr : (execOp a.eval o).run P w with
    | halt x w' => rw [hr] at h; exact h.elim
    | ok x w' =>
      obtain ⟨v, rfl⟩ := valued_exec (P := P) a.eval o (by simp [hp]) w x w' hr
      exact ⟨v, .inl ⟨hw, fun W hW => (hread _ _ _ hr).2 W hW⟩⟩
/-- A read or a new block: one value, in a world that has grown. -/
theorem eff_newish {o : Oper} {a : Act} {w : World} {K : (Act → Act) → World → Prop} (hp : (isRead o.op || isNew o.op) = true) (h : eff P ops o a w K) :
    eff P ops o a w (fun g w' => Ext w w' ∧ K g w') := by
  unfold eff at *
  split
  · rename_i hw
    rw [if_pos hw] at h
    cases hr : (execOp a.eval o).run P w with
    | halt x w' => rw [hr] at h; exact h.elim
    | ok x w' =>
      obtain ⟨v, rfl⟩ := valued_exec (P := P) a.eval o (by rw [Bool.or_assoc, hp]; simp) w x w' hr
      rw [hr] at h
      refine ⟨?_, h⟩
      cases h1 : isRead o.op with
      | true => exact (read_exec (P := P) a.eval o h1).new _ _ _ hr
      | false => exact new_exec (P := P) a.eval o (by simpa [h1] using hp) _ _ _ hr
  · rename_i hw; rw [if_neg hw] at h; exact ⟨Ext.refl _, h⟩

def swapOK (P : Program) (ops : Array Oper) (x y : Oper) : Bool :=
  x.apart ops y && (isPure P x.op || isPure P y.op || (isRead x.op && (isRead y.op || isNew y.op)))

theorem commute {i j : Nat} {oi oj : Oper} (hi : ops[i]? = some oi) (hj : ops[j]? = some oj) (hQ : OnlyN Q) (hsw : swapOK P ops oi oj = true)
    (hsi : ∀ cs b, oi.op ≠ .select cs b) (hsj : ∀ cs b, oj.op ≠ .select cs b) {a : Act} {w : World} {K : Act → World → Prop}
    (hvi : Region.wanted oi (yielded ops a.tmps) = true → okVal a.eval oi.op = true) (hvj : Region.wanted oj (yielded ops a.tmps) = true → okVal a.eval oj.op = true)
    (H : wpOp P ops Q i (wpOp P ops Q j K) a w) : wpOp P ops Q j (wpOp P ops Q i K) a w := by
  simp only [swapOK, Bool.and_eq_true] at hsw
  obtain ⟨hap, hcl⟩ := hsw
  obtain ⟨h1, h2, h3⟩ := Oper.apart_spec hap
  have h2' : ∀ d, oj.dst = some d → oi.dst ≠ some d := fun d e e' => h2 d e' e
  rw [wpOp_iff hi hQ] at H
  rw [wpOp_iff hj hQ]
  -- the other one's state is no other for either
  have stepj : ∀ v, eff P ops oj (a.put oi.dst v) w (fun g w' => K (g (a.put oi.dst v)) w') → eff P ops oj a w (fun g w' => K ((g a).put oi.dst v) w') := by
    intro v hh
    have := eff_same (a' := a) (execOp_put oj hsj a oi.dst v h1).symm (wanted_put oj a oi.dst v h1).symm hh
    exact eff_mono (fun g w' hg hk => by rw [← hg.comm a oi.dst v h2]; exact hk) this
  by_cases c1 : isPure P oi.op = true
  · obtain ⟨v, hv⟩ := gives_of_pure c1 hvi H
    rw [hv.eff w trivial] at H
    rw [wpOp_iff hj hQ] at H
    refine eff_mono (fun g w' hg hk => ?_) (stepj v H)
    rw [wpOp_iff hi hQ]
    have hv' := hv.same (hg.exec (ops := ops) a oi hsi h3) (hg.wanted a oi h3)
    rw [hv'.eff w' trivial]
    exact hk
  · by_cases c2 : isPure P oj.op = true
    · obtain ⟨g0, w0, hg0, hk0⟩ := eff_exists H
      rw [wpOp_iff hj hQ] at hk0
      obtain ⟨v, hv0⟩ := gives_of_pure c2 (fun hw => by
        have hw' : Region.wanted oj (yielded ops a.tmps) = true := by rw [← hg0.wanted (ops := ops) a oj h1]; exact hw
        have := hvj hw'
        rw [okVal_congr oj.op (hg0.evals (ops := ops) a oj h1)]
        exact this) hk0
      have hv := hv0.same (hg0.exec (ops := ops) a oj hsj h1).symm (hg0.wanted a oj h1).symm
      rw [hv.eff w trivial, wpOp_iff hi hQ]
      have H' : eff P ops oi a w (fun g w' => K (g (a.put oj.dst v)) w') := eff_mono (fun g w' hg hk => by
        rw [wpOp_iff hj hQ] at hk
        have hv' := hv.same (hg.exec (ops := ops) a oj hsj h1) (hg.wanted a oj h1)
        rw [hv'.eff w' trivial] at hk
        rw [hg.comm a oj.dst v h2']
        exact hk) H
      exact eff_same (execOp_put oi hsi a oj.dst v h3) (wanted_put oi a oj.dst v h3) H'
    · simp only [c1, c2, Bool.false_or, Bool.and_eq_true] at hcl
      obtain ⟨c3, c4⟩ := hcl
      obtain ⟨v, hv⟩ := gives_of_read c3 H
      rw [hv.eff w (Ext.refl _)] at H
      rw [wpOp_iff hj hQ] at H
      refine eff_mono (fun g w' hg hk => ?_) (eff_newish c4 (stepj v H))
      rw [wpOp_iff hi hQ]
      have hv' := hv.same (hg.exec (ops := ops) a oi hsi h3) (hg.wanted a oi h3)
      rw [hv'.eff w' hk.1]
      exact hk.2

/-- Operations whose operands are asked at the end. -/
def asked : Op → Bool
  | .binOp .. | .nilCheck _ => true
  | .call c => (lenCall c).isSome
  | _ => false
theorem okVal_of_not_asked (ρ : Operand → Value) (op : Op) (h : asked op = false) : okVal ρ op = true := by
  cases op <;> first | rfl | (cases h; done) | skip
  case call c =>
    simp only [asked] at h
    simp only [okVal]
    cases hc : lenCall c with
    | none => rfl
    | some x => rw [hc] at h; cases h
def noSel : Op → Bool
  | .select .. => false
  | _ => true
/-- The closed check on a region's operations: m says of each which come before it. -/
def lexCheck (P : Program) (ops : Array Oper) (m : Array Nat) : Bool :=
  let n := ops.size
  (List.range n).all fun j => (ops[j]?).all fun oj =>
    noSel oj.op &&
    (oj.after.toList.all fun e => !Region.binds .any e || e.on < j) &&
    (List.range n).all fun i => (ops[i]?).all fun oi =>
      (!(m.getD j 0).testBit i || oj.after.toList.any fun e => Region.binds .any e && (e.on == i || (m.getD e.on 0).testBit i)) &&
      (!(i < j) || (m.getD j 0).testBit i || swapOK P ops oi oj) &&
      (!asked oj.op || (match oi.dst with | some d => !(oj.looksAt ops).contains d || (m.getD j 0).testBit i | none => true))

structure Lexed (P : Program) (ops : Array Oper) (m : Array Nat) : Prop where
  sel : ∀ (j : Nat) oj, ops[j]? = some oj → ∀ cs b, oj.op ≠ .select cs b
  low : ∀ (j : Nat) oj, ops[j]? = some oj → ∀ e ∈ oj.after, Region.binds .any e = true → e.on < j
  mask : ∀ (j i : Nat) oj oi, ops[j]? = some oj → ops[i]? = some oi → (m.getD j 0).testBit i = true → ∃ e ∈ oj.after, Region.binds .any e = true ∧ (e.on = i ∨ (m.getD e.on 0).testBit i = true)
  swap : ∀ (j i : Nat) oj oi, ops[j]? = some oj → ops[i]? = some oi → i < j → (m.getD j 0).testBit i = true ∨ swapOK P ops oi oj = true
  dsts : ∀ (j i : Nat) oj oi d, ops[j]? = some oj → ops[i]? = some oi → asked oj.op = true → oi.dst = some d → d ∈ oj.looksAt ops → (m.getD j 0).testBit i = true
theorem lexed_of {m : Array Nat} (h : lexCheck P ops m = true) : Lexed P ops m := by
  unfold lexCheck at h
  simp only [List.all_eq_true, List.mem_range] at h
  have lt : ∀ {j : Nat} {o : Oper}, ops[j]? = some o → j < ops.size := fun e => (Array.getElem?_eq_some_iff.1 e).1
  have hj : ∀ (j : Nat) oj, ops[j]? = some oj → _ := fun j oj e => by
    have := h j (lt e)
    rw [e] at this
    simp only [Option.all_some, Bool.and_eq_true, List.all_eq_true, List.mem_range] at this
    exact this
  have hji : ∀ (j i : Nat) oj oi, ops[j]? = some oj → ops[i]? = some oi → _ := fun j i oj oi e e' => by
    have := (hj j oj e).2 i (lt e')
    rw [e'] at this
    simp only [Option.all_some, Bool.and_eq_true] at this
    exact this
  refine ⟨?_, ?_, ?_, ?_, ?_⟩
  · intro j oj e cs b hs
    have := (hj j oj e).1.1
    rw [hs] at this; cases this
  · intro j oj e ed hed hb
    have := (hj j oj e).1.2 ed (by simpa using hed)
    rw [hb] at this; simpa using this
  · intro j i oj oi e e' hb
    have := (hji j i oj oi e e').1.1
    rw [hb] at this
    simp only [Bool.not_true, Bool.false_or, List.any_eq_true, Bool.and_eq_true, Bool.or_eq_true, beq_iff_eq] at this
    obtain ⟨ed, h1, h2, h3⟩ := this
    exact ⟨ed, by simpa using h1, h2, h3⟩
  · intro j i oj oi e e' hlt
    have := (hji j i oj oi e e').1.2
    simpa [hlt] using this
  · intro j i oj oi d e e' ha hd hm
    have := (hji j i oj oi e e').2
    rw [ha, hd] at this
    simpa [hm] using this

/-- What has come up is closed downwards. -/
def Down (ops : Array Oper) (listed : Array Bool) : Prop :=
  ∀ (x : Nat) o, listed.getD x false = true → ops[x]? = some o → ∀ e ∈ o.after, Region.binds .any e = true → listed.getD e.on false = true
theorem ready_iff {listed : Array Bool} {i : Nat} : i ∈ Region.ready .any ops listed ↔
    ∃ o, ops[i]? = some o ∧ listed.getD i true = false ∧ ∀ e ∈ o.after, Region.binds .any e = true → listed.getD e.on false = true := by
  unfold Region.ready
  simp only [List.mem_filter, List.mem_range, Bool.and_eq_true, Bool.not_eq_true']
  constructor
  · rintro ⟨h1, h2, h3⟩
    cases ho : ops[i]? with
    | none => rw [ho] at h3; cases h3
    | some o =>
      rw [ho] at h3
      simp only [Option.map_some, Option.getD_some, Array.all_eq_true] at h3
      refine ⟨o, rfl, h2, fun e he hb => ?_⟩
      obtain ⟨k, hk, rfl⟩ := Array.mem_iff_getElem.1 he
      have := h3 k hk
      rw [hb] at this; simpa using this
  · rintro ⟨o, ho, h2, h3⟩
    refine ⟨(Array.getElem?_eq_some_iff.1 ho).1, h2, ?_⟩
    rw [ho]
    simp only [Option.map_some, Option.getD_some, Array.all_eq_true]
    intro k hk
    cases hb : Region.binds .any o.after[k] with
    | false => rfl
    | true => simp [h3 _ (Array.getElem_mem hk) hb]
theorem listed_of_mask {m : Array Nat} (L : Lexed P ops m) {listed : Array Bool} (hd : Down ops listed) : ∀ (n x : Nat), x < n → ∀ o, ops[x]? = some o →
    (∀ e ∈ o.after, Region.binds .any e = true → listed.getD e.on false = true) → ∀ i oi, ops[i]? = some oi → (m.getD x 0).testBit i = true → listed.getD i false = true := by
  intro n
  induction n with
  | zero => intro x hx; omega
  | succ n ih =>
    intro x hx o ho hr i oi hi hb
    obtain ⟨e, he, hbe, h⟩ := L.mask x i o oi ho hi hb
    have hl := hr e he hbe
    rcases h with rfl | h
    · exact hl
    · have hlt := L.low x o ho e he hbe
      have hsz : e.on < ops.size := Nat.lt_trans hlt (Array.getElem?_eq_some_iff.1 ho).1
      have ho' : ops[e.on]? = some ops[e.on] := Array.getElem?_eq_getElem hsz
      exact ih e.on (by omega) _ ho' (fun e' he' hb' => hd e.on _ hl ho' e' he' hb') i oi hi h
theorem getD_set (listed : Array Bool) (i x : Nat) (d : Bool) (hi : i < listed.size) : (listed.setIfInBounds i true).getD x d = if x = i then true else listed.getD x d := by
  simp only [Array.getD_eq_getD_getElem?]
  by_cases h : x = i
  · subst h; simp [hi]
  · rw [Array.getElem?_setIfInBounds_ne (by omega), if_neg h]
theorem getD_tf {listed : Array Bool} {x : Nat} (hx : x < listed.size) : listed.getD x true = listed.getD x false := by
  simp [Array.getD_eq_getD_getElem?, hx]
theorem Down.set {listed : Array Bool} (hd : Down ops listed) {i : Nat} (hi : i ∈ Region.ready .any ops listed) (hs : listed.size = ops.size) : Down ops (listed.setIfInBounds i true) := by
  obtain ⟨o, ho, _, hr⟩ := ready_iff.1 hi
  have hlt : i < listed.size := by rw [hs]; exact (Array.getElem?_eq_some_iff.1 ho).1
  intro x ox hx hox e he hb
  rw [getD_set _ _ _ _ hlt] at hx ⊢
  split
  · rfl
  · split at hx
    · rename_i h; subst h; rw [ho] at hox; injection hox with hox; subst hox; exact hr e he hb
    · exact hd x ox hx hox e he hb
theorem ready_set {listed : Array Bool} {i j : Nat} (hs : listed.size = ops.size) (hi : i ∈ Region.ready .any ops listed) (hj : j ∈ Region.ready .any ops listed) (hne : j ≠ i) : j ∈ Region.ready .any ops (listed.setIfInBounds i true) := by
  obtain ⟨o, ho, hu, hr⟩ := ready_iff.1 hj
  obtain ⟨oi, hoi, _, _⟩ := ready_iff.1 hi
  have hlt : i < listed.size := by rw [hs]; exact (Array.getElem?_eq_some_iff.1 hoi).1
  refine ready_iff.2 ⟨o, ho, by rw [getD_set _ _ _ _ hlt, if_neg hne]; exact hu, fun e he hb => ?_⟩
  rw [getD_set _ _ _ _ hlt]
  split
  · rfl
  · exact hr e he hb

/-- From whatever is left to run, an end with the old slots that nothing left writes. -/
theorem final_of (hQ : OnlyN Q) : ∀ (fuel : Nat) (listed : Array Bool) (a : Act) (w : World), listed.size = ops.size → wpAny P .any ops Q fuel listed a w →
    ∃ a' w', Q .normal a' w' ∧ ∀ t : Tmp, (∀ (x : Nat) o, ops[x]? = some o → listed.getD x true = false → o.dst ≠ some t) → a'.tmps[t]? = a.tmps[t]? := by
  intro fuel
  induction fuel with
  | zero => intro listed a w _ h; exact ⟨a, w, h.2, fun _ _ => rfl⟩
  | succ fuel ih =>
    intro listed a w hs h
    cases hr : Region.ready .any ops listed with
    | nil => exact ⟨a, w, h.1 hr, fun _ _ => rfl⟩
    | cons i rest =>
      have hi : i ∈ Region.ready .any ops listed := by rw [hr]; exact List.mem_cons_self
      obtain ⟨o, ho, hu, _⟩ := ready_iff.1 hi
      have hlt : i < listed.size := by rw [hs]; exact (Array.getElem?_eq_some_iff.1 ho).1
      have h1 := h.2 i hi
      rw [wpOp_iff ho hQ] at h1
      obtain ⟨g, w1, hg, hk⟩ := eff_exists h1
      obtain ⟨a', w', hq, ht⟩ := ih _ _ _ (by simpa using hs) hk
      refine ⟨a', w', hq, fun t hx => ?_⟩
      rw [ht t (fun x ox hox hux => hx x ox hox (by
        rw [getD_set _ _ _ _ hlt] at hux
        split at hux
        · cases hux
        · exact hux))]
      exact hg.tmps a t (hx i o ho hu)

/-- Of every operation that was carried out the operands are plain. -/
def okAll (ops : Array Oper) (a : Act) : Bool := ops.toList.all fun o => !Region.wanted o (yielded ops a.tmps) || okVal a.eval o.op

theorem eval_eq {a a' : Act} {x : Operand} (h : ∀ t, x = .tmp t → a'.tmps[t]? = a.tmps[t]?) : a'.eval x = a.eval x := by
  cases x with
  | tmp t =>
    have := h t rfl
    simp only [Act.eval]
    simp [Array.getD_eq_getD_getElem?, this]
  | _ => rfl
theorem ok_now {m : Array Nat} (L : Lexed P ops m) (hQ : OnlyN Q) (hend : ∀ a w, Q .normal a w → okAll ops a = true) {listed : Array Bool} {a : Act}
    (hs : listed.size = ops.size) (hd : Down ops listed) (h : ∃ a1 w1 fuel' listed', listed'.size = ops.size ∧ (∀ x, listed'.getD x true = false → listed.getD x true = false) ∧
      (∀ t : Tmp, (∀ (x : Nat) o, ops[x]? = some o → listed.getD x true = false → o.dst ≠ some t) → a1.tmps[t]? = a.tmps[t]?) ∧ wpAny P .any ops Q fuel' listed' a1 w1)
    {j : Nat} {oj : Oper} (hj : j ∈ Region.ready .any ops listed) (hoj : ops[j]? = some oj) (hw : Region.wanted oj (yielded ops a.tmps) = true) : okVal a.eval oj.op = true := by
  cases ha : asked oj.op with
  | false => exact okVal_of_not_asked _ _ ha
  | true =>
    obtain ⟨a1, w1, fuel', listed', hs', hsub, ht1, hany⟩ := h
    obtain ⟨a', w', hq, ht⟩ := final_of hQ fuel' listed' a1 w1 hs' hany
    have hok := hend a' w' hq
    obtain ⟨o, ho, hu, hr⟩ := ready_iff.1 hj
    rw [hoj] at ho; injection ho with ho; subst ho
    have same : ∀ t ∈ oj.looksAt ops, a'.tmps[t]? = a.tmps[t]? := by
      intro t htm
      have hno : ∀ (x : Nat) o, ops[x]? = some o → listed.getD x true = false → o.dst ≠ some t := by
        intro x ox hox hux hdx
        have hb := L.dsts j x oj ox t hoj hox ha hdx htm
        have hl := listed_of_mask L hd (j + 1) j (by omega) oj hoj hr x ox hox hb
        rw [getD_tf (by rw [hs]; exact (Array.getElem?_eq_some_iff.1 hox).1), hl] at hux
        cases hux
      rw [ht t (fun x ox hox hux => hno x ox hox (hsub x hux)), ht1 t hno]
    have hev : ∀ x ∈ oj.op.operands, a'.eval x = a.eval x := fun x hx => eval_eq fun t e => same t (by
      subst e
      exact List.mem_append_left _ (List.mem_filterMap.2 ⟨.tmp t, by simpa using hx, rfl⟩))
    have hwt : Region.wanted oj (yielded ops a'.tmps) = Region.wanted oj (yielded ops a.tmps) := by
      unfold Region.wanted
      cases hg : oj.guard with
      | none => rfl
      | some p =>
        obtain ⟨k, b⟩ := p
        simp only []
        have : yielded ops a'.tmps k = yielded ops a.tmps k := by
          unfold yielded
          cases hk : (ops[k]?).bind (·.dst) with
          | none => rfl
          | some t =>
            have := same t (by unfold Oper.looksAt; rw [hg]; simp [hk])
            simp [this]
        rw [this]
    unfold okAll at hok
    have := List.all_eq_true.1 hok oj (by
      have := Array.mem_of_getElem? hoj
      simpa using this)
    rw [hwt, hw] at this
    rw [← okVal_congr oj.op hev]
    simpa using this

theorem any_first {m : Array Nat} (L : Lexed P ops m) (hQ : OnlyN Q) (hend : ∀ a w, Q .normal a w → okAll ops a = true) {i : Nat} {oi : Oper} (hi : ops[i]? = some oi) :
    ∀ (fuel : Nat) (listed : Array Bool) (a : Act) (w : World), listed.size = ops.size → Down ops listed → (∀ x, x < i → listed.getD x true = true) → i ∈ Region.ready .any ops listed →
      wpOp P ops Q i (wpAny P .any ops Q fuel (listed.setIfInBounds i true)) a w → wpAny P .any ops Q (fuel + 1) listed a w := by
  intro fuel
  induction fuel with
  | zero =>
    intro listed a w hs hd hlow hr H
    refine ⟨fun h => (by rw [h] at hr; cases hr), fun j hj => ?_⟩
    by_cases hji : j = i
    · subst hji; exact H
    · exfalso
      rw [wpOp_iff hi hQ] at H
      obtain ⟨g, w1, _, hk⟩ := eff_exists H
      have := ready_set hs hr hj hji
      rw [hk.1] at this
      cases this
  | succ fuel ih =>
    intro listed a w hs hd hlow hr H
    refine ⟨fun h => (by rw [h] at hr; cases hr), fun j hj => ?_⟩
    by_cases hji : j = i
    · subst hji; exact H
    · have hlti : i < listed.size := by rw [hs]; exact (Array.getElem?_eq_some_iff.1 hi).1
      obtain ⟨oj, hoj, huj, hrj⟩ := ready_iff.1 hj
      have hltj : j < listed.size := by rw [hs]; exact (Array.getElem?_eq_some_iff.1 hoj).1
      obtain ⟨_, hoi', hui, _⟩ := ready_iff.1 hr
      have hlt : i < j := by
        rcases Nat.lt_or_ge j i with h | h
        · rw [hlow j h] at huj; cases huj
        · omega
      have hswap : swapOK P ops oi oj = true := by
        rcases L.swap j i oj oi hoj hi hlt with h | h
        · have := listed_of_mask L hd (j + 1) j (by omega) oj hoj hrj i oi hi h
          rw [getD_tf hlti, this] at hui
          cases hui
        · exact h
      have H' : wpOp P ops Q i (wpOp P ops Q j (wpAny P .any ops Q fuel ((listed.setIfInBounds i true).setIfInBounds j true))) a w :=
        wpOp_mono (fun a w h => h.2 j (ready_set hs hr hj hji)) H
      have hex : ∃ a1 w1 fuel' listed', listed'.size = ops.size ∧ (∀ x, listed'.getD x true = false → listed.getD x true = false) ∧
          (∀ t : Tmp, (∀ (x : Nat) o, ops[x]? = some o → listed.getD x true = false → o.dst ≠ some t) → a1.tmps[t]? = a.tmps[t]?) ∧ wpAny P .any ops Q fuel' listed' a1 w1 := by
        rw [wpOp_iff hi hQ] at H
        obtain ⟨g, w1, hg, hk⟩ := eff_exists H
        refine ⟨g a, w1, _, _, by simpa using hs, fun x hx => ?_, fun t ht => hg.tmps a t (ht i oi hi hui), hk⟩
        rw [getD_set _ _ _ _ hlti] at hx
        split at hx
        · cases hx
        · exact hx
      have H2 := commute hi hoj hQ hswap (L.sel i oi hi) (L.sel j oj hoj) (fun hw => ok_now L hQ hend hs hd hex hr hi hw) (fun hw => ok_now L hQ hend hs hd hex hj hoj hw) H'
      refine wpOp_mono (fun a' w' h => ?_) H2
      refine ih _ a' w' (by simpa using hs) (hd.set hj hs) (fun x hx => ?_) (ready_set hs hj hr (Ne.symm hji)) ?_
      · rw [getD_set _ _ _ _ hltj]
        split
        · rfl
        · exact hlow x hx
      · rw [Array.setIfInBounds_comm _ _ (Ne.symm hji)] at h
        exact h

theorem any_of_lex {m : Array Nat} (L : Lexed P ops m) (hQ : OnlyN Q) (hend : ∀ a w, Q .normal a w → okAll ops a = true) :
    ∀ (r k : Nat) (listed : Array Bool) (a : Act) (w : World), k + r = ops.size → listed.size = ops.size → (∀ x, x < ops.size → listed.getD x false = decide (x < k)) →
      wpOps P ops Q (List.range' k r) a w → wpAny P .any ops Q r listed a w := by
  intro r
  induction r with
  | zero =>
    intro k listed a w hk hs hl h
    refine ⟨?_, h⟩
    rw [List.eq_nil_iff_forall_not_mem]
    intro i hi
    obtain ⟨o, ho, hu, _⟩ := ready_iff.1 hi
    have hlt := (Array.getElem?_eq_some_iff.1 ho).1
    rw [getD_tf (by rw [hs]; exact hlt), hl i hlt] at hu
    simp at hu; omega
  | succ r ih =>
    intro k listed a w hk hs hl h
    rw [List.range'_succ, wpOps_cons] at h
    have hlt : k < ops.size := by omega
    have ho : ops[k]? = some ops[k] := Array.getElem?_eq_getElem hlt
    have hd : Down ops listed := by
      intro x o hx hox e he hb
      have hxs := (Array.getElem?_eq_some_iff.1 hox).1
      have h1 := L.low x o hox e he hb
      rw [hl x hxs] at hx
      rw [hl e.on (by omega)]
      simp at hx ⊢; omega
    have hready : k ∈ Region.ready .any ops listed := by
      refine ready_iff.2 ⟨_, ho, ?_, fun e he hb => ?_⟩
      · rw [getD_tf (by rw [hs]; exact hlt), hl k hlt]; simp
      · have h1 := L.low k _ ho e he hb
        rw [hl e.on (by omega)]; simp; omega
    refine any_first L hQ hend ho r listed a w hs hd (fun x hx => ?_) hready (wpOp_mono (fun a w h => ih (k + 1) _ a w (by omega) (by simpa using hs) (fun x hx => ?_) h) h)
    · rw [getD_tf (by rw [hs]; omega), hl x (by omega)]; simp; omega
    · rw [getD_set _ _ _ _ (by rw [hs]; exact hlt), hl x hx]
      split
      · rename_i e; subst e; simp
      · rename_i hne
        by_cases h1 : x < k <;> simp [h1] <;> omega

/-- What is asked behind a region that is walked in the order of its text. -/
def Behind (ops : Array Oper) (Q : Exit → Act → World → Prop) : Exit → Act → World → Prop
  | .normal, a, w => okAll ops a = true ∧ Q .normal a w
  | _, _, _ => False

/-- A REGION THAT DRAWS, WALKED IN THE ORDER OF ITS TEXT. -/
theorem wp_region_lex {id : Nat} {l : List Oper} {a : Act} {w : World} (hm : P.follows .mixedOrders = true) (hB : lexCheck P l.toArray (Region.before l.toArray) = true)
    (h : wpList P l.toArray (Behind l.toArray Q) l a w.drew) : (Code.region id l.toArray true).wp P Q a w := by
  have hQ : OnlyN (Behind l.toArray Q) := fun e a w h => by cases e <;> first | rfl | exact h.elim
  refine Code.wp_mono (Q := Behind l.toArray Q) (fun e a w h => by cases e <;> first | exact h.2 | exact h.elim) ?_
  refine wp_region_any hm ?_
  refine any_of_lex (lexed_of hB) hQ (fun a w h => h.1) l.toArray.size 0 _ a _ (by simp) (by simp) (fun x hx => by
    simp only [Array.getD_eq_getD_getElem?, Array.getElem?_replicate, Nat.not_lt_zero, decide_false]
    split <;> rfl) ?_
  have := wpOps_eq_wpList (P := P) (ops := l.toArray) (Q := Behind l.toArray Q) l 0 (by simp)
  simp only [List.size_toArray]
  rw [this]
  exact h
end
end Go.Proofs.Lexi
