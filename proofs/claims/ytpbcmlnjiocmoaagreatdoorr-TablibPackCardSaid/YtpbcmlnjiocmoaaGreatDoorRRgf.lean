import Derived.Test.YtpbcmlnjiocmoaaGreatDoorRLexB
import Derived.Shelf.Strings.BuilderK
set_option linter.unusedVariables false
set_option linter.unusedSimpArgs false
set_option maxRecDepth 100000
set_option maxHeartbeats 2000000
namespace Go.Proofs.Lexi
open Go Go.RowKit
section
variable {P : Program} {E : Type} {ops : Array Oper} {Q : Exit → Act → World → Prop}
/-- Only block n may be another. -/
structure Only (n : Nat) (w w' : World) : Prop where
  os : w'.os = w.os
  tape : w'.tape = w.tape
  output : w'.output = w.output
  size : w.heap.size ≤ w'.heap.size
  block : ∀ k, k ≠ n → k < w.heap.size → w'.heap[k]? = w.heap[k]?
/-- What an operation leaves: a value; a value that hangs on the great call's outcome; a new block that stays; a new block that is stored into later; that store; the great call. -/
inductive Kd (E : Type)
  | val (v : Value)
  | vale (f : E → Value)
  | arr (mk : Nat → Value) (o : Obj)
  | box (mk : Nat → Value) (o : Obj)
  | sto (x : Nat) (o : Obj) (f : E → Obj) (dep : Bool)
  | hev (f : E → Value)
def Kd.value (k : Kd E) (p : Nat → Nat) (e : E) (x : Nat) : Value :=
  match k with
  | .val v => v
  | .vale f => f e
  | .arr mk _ => mk (p x)
  | .box mk _ => mk (p x)
  | .sto .. => undef
  | .hev f => f e
def Kd.obj? : Kd E → Option Obj
  | .arr _ o => some o
  | .box _ o => some o
  | _ => none
def freeCheck (ops : Array Oper) (m : Array Nat) (n : Nat) : Bool :=
  let N := ops.size
  (List.range N).all fun j => (ops[j]?).all fun oj =>
    noSel oj.op &&
    (oj.after.toList.all fun e => !Region.binds .any e || e.on < j) &&
    (match oj.dst with | some d => decide (d < n) | none => true) &&
    (List.range N).all fun i => (ops[i]?).all fun oi =>
      (!(m.getD j 0).testBit i || oj.after.toList.any fun e => Region.binds .any e && (e.on == i || (m.getD e.on 0).testBit i)) &&
      (match oi.dst with
       | some d => (!(oj.looksAt ops).contains d || (decide (i < j) && (m.getD j 0).testBit i) || (decide (j < i) && (m.getD i 0).testBit j) || i == j) && (i == j || oj.dst != some d)
       | none => true)
structure Freed (ops : Array Oper) (m : Array Nat) (n : Nat) : Prop where
  sel : ∀ (j : Nat) oj, ops[j]? = some oj → ∀ cs b, oj.op ≠ .select cs b
  low : ∀ (j : Nat) oj, ops[j]? = some oj → ∀ e ∈ oj.after, Region.binds .any e = true → e.on < j
  bound : ∀ (j : Nat) oj d, ops[j]? = some oj → oj.dst = some d → d < n
  mask : ∀ (j i : Nat) oj oi, ops[j]? = some oj → ops[i]? = some oi → (m.getD j 0).testBit i = true → ∃ e ∈ oj.after, Region.binds .any e = true ∧ (e.on = i ∨ (m.getD e.on 0).testBit i = true)
  reads : ∀ (j i : Nat) oj oi d, ops[j]? = some oj → ops[i]? = some oi → oi.dst = some d → d ∈ oj.looksAt ops → (i < j ∧ (m.getD j 0).testBit i = true) ∨ (j < i ∧ (m.getD i 0).testBit j = true) ∨ i = j
  dist : ∀ (j i : Nat) oj oi d, ops[j]? = some oj → ops[i]? = some oi → oi.dst = some d → oj.dst = some d → i = j
theorem freed_of {m : Array Nat} {n : Nat} (h : freeCheck ops m n = true) : Freed ops m n := by
  unfold freeCheck at h
  simp only [List.all_eq_true, List.mem_range] at h
  have lt : ∀ {j : Nat} {o : Oper}, ops[j]? = some o → j < ops.size := fun e => (Array.getElem?_eq_some_iff.1 e).1
  have hj : ∀ (j : Nat) oj, ops[j]? = some oj → _ := fun j oj e => by
    have := h j (lt e)
    rw [e] at this
    simp only [Option.all_some, Bool.and_eq_true, List.all_eq_true, List.mem_range] at this
    exact this
  have hji : ∀ (j i : Nat) oj oi, ops[j]? = some oj → ops[i]? = some oi → _ := fun j i oj oi e e' => by
    have := (hj j oj e).2 i (lt e')
    rw [e'] at this
    simp only [Option.all_some, Bool.and_eq_true] at this
    exact this
  refine ⟨?_, ?_, ?_, ?_, ?_, ?_⟩
  · intro j oj e cs b hs
    have := (hj j oj e).1.1.1
    rw [hs] at this; cases this
  · intro j oj e ed hed hb
    have := (hj j oj e).1.1.2 ed (by simpa using hed)
    rw [hb] at this; simpa using this
  · intro j oj d e hd
    have := (hj j oj e).1.2
    rw [hd] at this; simpa using this
  · intro j i oj oi e e' hb
    have := (hji j i oj oi e e').1
    rw [hb] at this
    simp only [Bool.not_true, Bool.false_or, List.any_eq_true, Bool.and_eq_true, Bool.or_eq_true, beq_iff_eq] at this
    obtain ⟨ed, h1, h2, h3⟩ := this
    exact ⟨ed, by simpa using h1, h2, h3⟩
  · intro j i oj oi d e e' hd hm
    have := (hji j i oj oi e e').2
    rw [hd] at this
    simp only [Bool.and_eq_true, Bool.or_eq_true, decide_eq_true_eq, beq_iff_eq, Bool.not_eq_true'] at this
    have := this.1
    rw [List.contains_iff_mem.2 hm] at this
    rcases this with ((h1 | h1) | h1) | h1
    · cases h1
    · exact .inl h1
    · exact .inr (.inl h1)
    · exact .inr (.inr h1)
  · intro j i oj oi d e e' hd hd2
    have := (hji j i oj oi e e').2
    rw [hd] at this
    simp only [Bool.and_eq_true, Bool.or_eq_true, beq_iff_eq, bne_iff_ne] at this
    exact this.2.resolve_right (fun h => h hd2)
def kindsCheck (ks : List (Kd E)) (m : Array Nat) (h n : Nat) : Bool :=
  decide (ks.length = n) &&
  (match ks[h]? with | some (.hev _) => true | none => true | _ => false) &&
  (List.range ks.length).all fun i =>
    match ks[i]? with
    | some (.vale _) => (m.getD i 0).testBit h
    | some (.sto x _ _ dep) => (m.getD i 0).testBit x && (match ks[x]? with | some (.box ..) => true | _ => false) && (!dep || (m.getD i 0).testBit h) &&
        (List.range ks.length).all fun s => match ks[s]? with | some (.sto y _ _ _) => s == i || y != x | _ => true
    | some (.hev _) => i == h
    | _ => true
structure Kinded (ks : List (Kd E)) (m : Array Nat) (h n : Nat) : Prop where
  len : ks.length = n
  head : ∀ k, ks[h]? = some k → ∃ f, k = .hev f
  vale : ∀ i f, ks[i]? = some (.vale f) → (m.getD i 0).testBit h = true
  sto : ∀ i x o f d, ks[i]? = some (.sto x o f d) → (m.getD i 0).testBit x = true ∧ (∃ mk o', ks[x]? = some (.box mk o')) ∧ (d = true → (m.getD i 0).testBit h = true) ∧ ∀ s o' f' d', ks[s]? = some (.sto x o' f' d') → s = i
  hev : ∀ i f, ks[i]? = some (.hev f) → i = h
theorem kinded_of {ks : List (Kd E)} {m : Array Nat} {h n : Nat} (hc : kindsCheck ks m h n = true) : Kinded ks m h n := by
  unfold kindsCheck at hc
  simp only [Bool.and_eq_true, List.all_eq_true, List.mem_range, decide_eq_true_eq] at hc
  obtain ⟨⟨h1, h2⟩, h3⟩ := hc
  have lt : ∀ {i : Nat} {k : Kd E}, ks[i]? = some k → i < ks.length := fun e => (List.getElem?_eq_some_iff.1 e).1
  refine ⟨h1, ?_, ?_, ?_, ?_⟩
  · intro k hk
    rw [hk] at h2
    cases k <;> first | exact ⟨_, rfl⟩ | cases h2
  · intro i f hi
    have := h3 i (lt hi)
    rw [hi] at this
    exact this
  · intro i x o f d hi
    have := h3 i (lt hi)
    rw [hi] at this
    simp only [Bool.and_eq_true, List.all_eq_true, List.mem_range, Bool.or_eq_true, Bool.not_eq_true'] at this
    obtain ⟨⟨⟨g1, g2⟩, g3⟩, g4⟩ := this
    refine ⟨g1, ?_, fun hd => ?_, fun s o' f' d' hs => ?_⟩
    · split at g2
      · rename_i e; exact ⟨_, _, e⟩
      · cases g2
    · rcases g3 with g3 | g3
      · rw [hd] at g3; cases g3
      · exact g3
    · have := g4 s (lt hs)
      rw [hs] at this
      simp only [Bool.or_eq_true, beq_iff_eq, bne_iff_ne, ne_eq, not_true_eq_false, or_false] at this
      exact this
  · intro i f hi
    have := h3 i (lt hi)
    rw [hi] at this
    exact eq_of_beq this
theorem listed_of_mask' {m : Array Nat} {n : Nat} (L : Freed ops m n) {listed : Array Bool} (hd : Down ops listed) : ∀ (n x : Nat), x < n → ∀ o, ops[x]? = some o →
    (∀ e ∈ o.after, Region.binds .any e = true → listed.getD e.on false = true) → ∀ i oi, ops[i]? = some oi → (m.getD x 0).testBit i = true → listed.getD i false = true := by
  intro n
  induction n with
  | zero => intro x hx; omega
  | succ n ih =>
    intro x hx o ho hr i oi hi hb
    obtain ⟨e, he, hbe, h⟩ := L.mask x i o oi ho hi hb
    have hl := hr e he hbe
    rcases h with rfl | h
    · exact hl
    · have hlt := L.low x o ho e he hbe
      have hsz : e.on < ops.size := Nat.lt_trans hlt (Array.getElem?_eq_some_iff.1 ho).1
      have ho' : ops[e.on]? = some ops[e.on] := Array.getElem?_eq_getElem hsz
      exact ih e.on (by omega) _ ho' (fun e' he' hb' => hd e.on _ hl ho' e' he' hb') i oi hi h
/-- The frame before operation number j, in the text's order. -/
def frameAt (ops : Array Oper) (ks : List (Kd E)) (a0 : Act) (p : Nat → Nat) (e : E) : Nat → Act
  | 0 => a0
  | j + 1 => (frameAt ops ks a0 p e j).put ((ops[j]?).bind (·.dst)) ((ks[j]?).elim undef (·.value p e j))
theorem put_size (a : Act) (d : Option Tmp) (v : Value) : (a.put d v).tmps.size = a.tmps.size := by cases d <;> simp [Act.put]
theorem put_defs (a : Act) (d : Option Tmp) (v : Value) : (a.put d v).defers = a.defers := by cases d <;> rfl
theorem put_ne (a : Act) (d : Option Tmp) (v : Value) (t : Tmp) (h : d ≠ some t) : (a.put d v).tmps[t]? = a.tmps[t]? := by
  cases d with
  | none => rfl
  | some x => have : x ≠ t := fun e => h (by rw [e]); simp [Act.put, Array.getElem?_setIfInBounds_ne this]
theorem put_eq (a : Act) (v : Value) (t : Tmp) (h : t < a.tmps.size) : (a.put (some t) v).tmps[t]? = some v := by
  simp [Act.put, h]
theorem frame_size (ks : List (Kd E)) (a0 : Act) (p : Nat → Nat) (e : E) : ∀ j, (frameAt ops ks a0 p e j).tmps.size = a0.tmps.size
  | 0 => rfl
  | j + 1 => by rw [frameAt, put_size]; exact frame_size ks a0 p e j
theorem frame_defs (ks : List (Kd E)) (a0 : Act) (p : Nat → Nat) (e : E) : ∀ j, (frameAt ops ks a0 p e j).defers = a0.defers
  | 0 => rfl
  | j + 1 => by rw [frameAt, put_defs]; exact frame_defs ks a0 p e j
theorem frame_old (ks : List (Kd E)) (a0 : Act) (p : Nat → Nat) (e : E) (t : Tmp) : ∀ j, (∀ x o, x < j → ops[x]? = some o → o.dst ≠ some t) → (frameAt ops ks a0 p e j).tmps[t]? = a0.tmps[t]?
  | 0, _ => rfl
  | j + 1, h => by
    rw [frameAt, put_ne _ _ _ _ (fun hd => ?_)]
    · exact frame_old ks a0 p e t j (fun x o hx => h x o (by omega))
    · cases ho : ops[j]? with
      | none => rw [ho] at hd; cases hd
      | some o => rw [ho] at hd; exact h j o (by omega) ho hd
theorem frame_new {m : Array Nat} {n : Nat} (L : Freed ops m n) {ks : List (Kd E)} {a0 : Act} (hn : a0.tmps.size = n) (p : Nat → Nat) (e : E) {x : Nat} {o : Oper} {k : Kd E} {t : Tmp} (ho : ops[x]? = some o) (hk : ks[x]? = some k) (ht : o.dst = some t) :
    ∀ j, x < j → (frameAt ops ks a0 p e j).tmps[t]? = some (k.value p e x)
  | 0, h => by omega
  | j + 1, h => by
    rw [frameAt]
    by_cases hx : x = j
    · subst hx
      rw [ho, hk]
      show ((frameAt ops ks a0 p e x).put o.dst (k.value p e x)).tmps[t]? = _
      rw [ht]
      exact put_eq _ _ _ (by rw [frame_size, hn]; exact L.bound x o t ho ht)
    · rw [put_ne _ _ _ _ (fun hd => ?_)]
      · exact frame_new L hn p e ho hk ht j (by omega)
      · cases ho' : ops[j]? with
        | none => rw [ho'] at hd; cases hd
        | some o' => rw [ho'] at hd; exact hx (L.dist j x o' o t ho' ho ht hd)
/-- The new blocks that stay, of those that come before an operation. -/
def Facts (ks : List (Kd E)) (M : Nat) (base : Nat) (Fr : Nat → Prop) (p : Nat → Nat) (W : World) : Prop :=
  ∀ x mk o, ks[x]? = some (.arr mk o) → M.testBit x = true → base ≤ p x ∧ Fr (p x) ∧ W.heap[p x]? = some o
/-- One operation in a world. -/
def StepK (P : Program) (ops : Array Oper) (o : Oper) (A : Act) (W : World) (R : Act → World → Prop) : Prop :=
  ∀ K : Act → World → Prop, (∀ a w, R a w → K a w) → if Region.wanted o (yielded ops A.tmps) = true then o.wp P A W K (fun _ _ _ => False) else K (A.put o.dst undef) W
theorem StepK.eff {i : Nat} {o : Oper} (hi : ops[i]? = some o) {A : Act} {W : World} {R : Act → World → Prop} (h : StepK P ops o A W R) : eff P ops o A W (fun g w' => R (g A) w') := by
  have h1 := h R (fun _ _ h => h)
  have := (wpOp_iff (P := P) (Q := fun _ _ _ => False) hi (fun _ _ _ h => h.elim) R A W).1 (by
    unfold wpOp
    simp only [hi]
    split
    · rename_i hw; rw [if_pos hw] at h1; exact .inl h1
    · rename_i hw; rw [if_neg hw] at h1; exact h1)
  exact this
theorem StepK.take {o : Oper} {A : Act} {W W' : World} {R : Act → World → Prop} {v : Value} (hw : Region.wanted o (yielded ops A.tmps) = true) (hr : (execOp A.eval o).run P W = .ok (.value v) W') (h : R (A.put o.dst v) W') : StepK P ops o A W R := fun K hK => by
  rw [if_pos hw]
  unfold Oper.wp
  rw [hr]
  exact hK _ _ h
theorem StepK.skip {o : Oper} {A : Act} {W W' : World} {R : Act → World → Prop} (hw : Region.wanted o (yielded ops A.tmps) = true) (hr : (execOp A.eval o).run P W = .ok .skip W') (h : R (A.put o.dst undef) W') : StepK P ops o A W R := fun K hK => by
  rw [if_pos hw]
  unfold Oper.wp
  rw [hr]
  exact hK _ _ h
inductive WalkG (P : Program) (ops : Array Oper) (I : Option E → World → Prop) (Fr : Option E → Nat → Prop) (Safe : Obj → Prop) (base : Nat) (m : Array Nat) (h : Nat) (fin : E → Option E) (Q : Exit → Act → World → Prop) :
    List Oper → List (Kd E) → ((Nat → Nat) → E → Act) → List (Kd E) → Prop
  | nil {pre : List (Kd E)} {A : (Nat → Nat) → E → Act}
      (hq : ∀ p e W, I (fin e) W → (∀ x mk o, pre[x]? = some (.arr mk o) → base ≤ p x ∧ Fr (fin e) (p x) ∧ W.heap[p x]? = some o) →
        (∀ (s x : Nat) (o : Obj) (f : E → Obj) (d : Bool), pre[s]? = some (Kd.sto x o f d) → base ≤ p x ∧ Fr (fin e) (p x) ∧ W.heap[p x]? = some (f e)) →
        (∀ (x y : Nat) (k k' : Kd E), pre[x]? = some k → pre[y]? = some k' → k.obj?.isSome = true → k'.obj?.isSome = true → x ≠ y → p x ≠ p y) → Q .normal (A p e) W) :
      WalkG P ops I Fr Safe base m h fin Q [] pre A []
  | val {o : Oper} {rest : List Oper} {pre ks : List (Kd E)} {A : (Nat → Nat) → E → Act} (v : Value)
      (hs : ∀ p e W oo, I oo W → ((m.getD pre.length 0).testBit h = true → oo = some e) → ((m.getD h 0).testBit pre.length = true → oo = none) → Facts pre (m.getD pre.length 0) base (Fr oo) p W →
        StepK P ops o (A p e) W (fun a w => a = (A p e).put o.dst v ∧ Below W.heap.size W w))
      (hr : WalkG P ops I Fr Safe base m h fin Q rest (pre ++ [.val v]) (fun p e => (A p e).put o.dst v) ks) :
      WalkG P ops I Fr Safe base m h fin Q (o :: rest) pre A (.val v :: ks)
  | vale {o : Oper} {rest : List Oper} {pre ks : List (Kd E)} {A : (Nat → Nat) → E → Act} (f : E → Value)
      (hs : ∀ p e W, I (some e) W → Facts pre (m.getD pre.length 0) base (Fr (some e)) p W →
        StepK P ops o (A p e) W (fun a w => a = (A p e).put o.dst (f e) ∧ Below W.heap.size W w))
      (hr : WalkG P ops I Fr Safe base m h fin Q rest (pre ++ [.vale f]) (fun p e => (A p e).put o.dst (f e)) ks) :
      WalkG P ops I Fr Safe base m h fin Q (o :: rest) pre A (.vale f :: ks)
  | arr {o : Oper} {rest : List Oper} {pre ks : List (Kd E)} {A : (Nat → Nat) → E → Act} (mk : Nat → Value) (ob : Obj)
      (hs : ∀ p e W oo, I oo W → StepK P ops o (A p e) W (fun a w => a = (A p e).put o.dst (mk W.heap.size) ∧ w = W.alloc ob)) (hsf : Safe ob)
      (hr : WalkG P ops I Fr Safe base m h fin Q rest (pre ++ [.arr mk ob]) (fun p e => (A p e).put o.dst (mk (p pre.length))) ks) :
      WalkG P ops I Fr Safe base m h fin Q (o :: rest) pre A (.arr mk ob :: ks)
  | box {o : Oper} {rest : List Oper} {pre ks : List (Kd E)} {A : (Nat → Nat) → E → Act} (mk : Nat → Value) (ob : Obj)
      (hs : ∀ p e W oo, I oo W → StepK P ops o (A p e) W (fun a w => a = (A p e).put o.dst (mk W.heap.size) ∧ w = W.alloc ob)) (hsf : Safe ob)
      (hr : WalkG P ops I Fr Safe base m h fin Q rest (pre ++ [.box mk ob]) (fun p e => (A p e).put o.dst (mk (p pre.length))) ks) :
      WalkG P ops I Fr Safe base m h fin Q (o :: rest) pre A (.box mk ob :: ks)
  | sto {o : Oper} {rest : List Oper} {pre ks : List (Kd E)} {A : (Nat → Nat) → E → Act} (x : Nat) (mk : Nat → Value) (ob : Obj) (f : E → Obj) (dep : Bool)
      (hx : pre[x]? = some (.box mk ob)) (hd : dep = false → ∀ e e', f e = f e') (hsf : ∀ e, Safe (f e))
      (hs : ∀ p e W oo, I oo W → ((m.getD pre.length 0).testBit h = true → oo = some e) → W.heap[p x]? = some ob →
        StepK P ops o (A p e) W (fun a w => a = (A p e).put o.dst undef ∧ Only (p x) W w ∧ w.heap[p x]? = some (f e)))
      (hr : WalkG P ops I Fr Safe base m h fin Q rest (pre ++ [.sto x ob f dep]) (fun p e => (A p e).put o.dst undef) ks) :
      WalkG P ops I Fr Safe base m h fin Q (o :: rest) pre A (.sto x ob f dep :: ks)
  | hev {o : Oper} {rest : List Oper} {pre ks : List (Kd E)} {A : (Nat → Nat) → E → Act} (f : E → Value)
      (hs : ∀ p e W, I none W → Facts pre (m.getD pre.length 0) base (Fr none) p W →
        StepK P ops o (A p e) W (fun a w => ∃ e', a = (A p e).put o.dst (f e') ∧ I (some e') w ∧ W.heap.size ≤ w.heap.size ∧
          ∀ n ob, base ≤ n → W.heap[n]? = some ob → Safe ob → Fr none n → w.heap[n]? = some ob ∧ Fr (some e') n))
      (hr : WalkG P ops I Fr Safe base m h fin Q rest (pre ++ [.hev f]) (fun p e => (A p e).put o.dst (f e)) ks) :
      WalkG P ops I Fr Safe base m h fin Q (o :: rest) pre A (.hev f :: ks)
theorem G.back {o : Oper} {g : Act → Act} (hg : G o g) {A a : Act} {v : Value} (h : g A = A.put o.dst v) (hsz : ∀ d, o.dst = some d → d < A.tmps.size) : g a = a.put o.dst v := by
  rcases hg with ⟨u, rfl⟩ | ⟨d, rfl⟩
  · dsimp only at h ⊢
    cases hd : o.dst with
    | none => rfl
    | some t =>
      rw [hd] at h
      have h1 := put_eq A u t (hsz t hd)
      have h2 := put_eq A v t (hsz t hd)
      rw [h] at h1
      rw [h1] at h2
      injection h2 with h2
      rw [h2]
  · dsimp only at h
    have h1 := congrArg Act.defers h
    rw [put_defs, put_defs] at h1
    have := congrArg List.length h1
    simp at this
def Prem (P : Program) (ops : Array Oper) (I : Option E → World → Prop) (Fr : Option E → Nat → Prop) (Safe : Obj → Prop) (base : Nat) (m : Array Nat) (h : Nat) (ks : List (Kd E)) (i : Nat) (o : Oper) (A : (Nat → Nat) → E → Act) : Kd E → Prop
  | .val v => ∀ p e W oo, I oo W → ((m.getD i 0).testBit h = true → oo = some e) → ((m.getD h 0).testBit i = true → oo = none) → Facts ks (m.getD i 0) base (Fr oo) p W → StepK P ops o (A p e) W (fun a w => a = (A p e).put o.dst v ∧ Below W.heap.size W w)
  | .vale f => ∀ p e W, I (some e) W → Facts ks (m.getD i 0) base (Fr (some e)) p W → StepK P ops o (A p e) W (fun a w => a = (A p e).put o.dst (f e) ∧ Below W.heap.size W w)
  | .arr mk ob => Safe ob ∧ ∀ p e W oo, I oo W → StepK P ops o (A p e) W (fun a w => a = (A p e).put o.dst (mk W.heap.size) ∧ w = W.alloc ob)
  | .box mk ob => Safe ob ∧ ∀ p e W oo, I oo W → StepK P ops o (A p e) W (fun a w => a = (A p e).put o.dst (mk W.heap.size) ∧ w = W.alloc ob)
  | .sto x ob f dep => (dep = false → ∀ e e', f e = f e') ∧ (∀ e, Safe (f e)) ∧ (∃ mk, ks[x]? = some (.box mk ob)) ∧ ∀ p e W oo, I oo W → ((m.getD i 0).testBit h = true → oo = some e) → W.heap[p x]? = some ob →
      StepK P ops o (A p e) W (fun a w => a = (A p e).put o.dst undef ∧ Only (p x) W w ∧ w.heap[p x]? = some (f e))
  | .hev f => ∀ p e W, I none W → Facts ks (m.getD i 0) base (Fr none) p W →
      StepK P ops o (A p e) W (fun a w => ∃ e', a = (A p e).put o.dst (f e') ∧ I (some e') w ∧ W.heap.size ≤ w.heap.size ∧ ∀ n ob, base ≤ n → W.heap[n]? = some ob → Safe ob → Fr none n → w.heap[n]? = some ob ∧ Fr (some e') n)
/-- What the walk shows of the end. -/
def Final (I : Option E → World → Prop) (Fr : Option E → Nat → Prop) (base : Nat) (fin : E → Option E) (Q : Exit → Act → World → Prop) (ks : List (Kd E)) (A : (Nat → Nat) → E → Act) : Prop :=
  ∀ p e W, I (fin e) W → (∀ x mk o, ks[x]? = some (.arr mk o) → base ≤ p x ∧ Fr (fin e) (p x) ∧ W.heap[p x]? = some o) →
    (∀ (s x : Nat) (o : Obj) (f : E → Obj) (d : Bool), ks[s]? = some (Kd.sto x o f d) → base ≤ p x ∧ Fr (fin e) (p x) ∧ W.heap[p x]? = some (f e)) →
    (∀ (x y : Nat) (k k' : Kd E), ks[x]? = some k → ks[y]? = some k' → k.obj?.isSome = true → k'.obj?.isSome = true → x ≠ y → p x ≠ p y) → Q .normal (A p e) W
theorem pre_at {α : Type} {pre ks : List α} {x : Nat} {k : α} (h : pre[x]? = some k) : (pre ++ ks)[x]? = some k := by
  rw [List.getElem?_append_left (List.getElem?_eq_some_iff.1 h).1]; exact h
theorem pre_mid {α : Type} (pre : List α) (k : α) (ks : List α) : (pre ++ k :: ks)[pre.length]? = some k := by simp
theorem Facts.pre {pre ks : List (Kd E)} {M base : Nat} {Fr : Nat → Prop} {p : Nat → Nat} {W : World} (h : Facts (pre ++ ks) M base Fr p W) : Facts pre M base Fr p W :=
  fun x mk o hx => h x mk o (pre_at hx)
section
variable {I : Option E → World → Prop} {Fr : Option E → Nat → Prop} {Safe : Obj → Prop} {base : Nat} {m : Array Nat} {h : Nat} {fin : E → Option E}
theorem good_next {l : List Oper} {pre ks : List (Kd E)} {A : (Nat → Nat) → E → Act} {o : Oper} {k : Kd E} {a0 : Act}
    (ih : ∀ (lp : List Oper), ops.toList = lp ++ l → lp.length = (pre ++ [k]).length → (∀ p e, (A p e).put o.dst (k.value p e pre.length) = frameAt ops ((pre ++ [k]) ++ ks) a0 p e (pre ++ [k]).length) →
      ks.length = l.length ∧ (∀ i o' k', (pre ++ [k]).length ≤ i → ops[i]? = some o' → ((pre ++ [k]) ++ ks)[i]? = some k' → Prem P ops I Fr Safe base m h ((pre ++ [k]) ++ ks) i o' (fun p e => frameAt ops ((pre ++ [k]) ++ ks) a0 p e i) k') ∧
      Final I Fr base fin Q ((pre ++ [k]) ++ ks) (fun p e => frameAt ops ((pre ++ [k]) ++ ks) a0 p e ((pre ++ [k]) ++ ks).length))
    (hp : Prem P ops I Fr Safe base m h (pre ++ k :: ks) pre.length o A k)
    (lp : List Oper) (hl : ops.toList = lp ++ o :: l) (hlen : lp.length = pre.length) (hA : ∀ p e, A p e = frameAt ops (pre ++ k :: ks) a0 p e pre.length) :
    (k :: ks).length = (o :: l).length ∧ (∀ i o' k', pre.length ≤ i → ops[i]? = some o' → (pre ++ k :: ks)[i]? = some k' → Prem P ops I Fr Safe base m h (pre ++ k :: ks) i o' (fun p e => frameAt ops (pre ++ k :: ks) a0 p e i) k') ∧
      Final I Fr base fin Q (pre ++ k :: ks) (fun p e => frameAt ops (pre ++ k :: ks) a0 p e (pre ++ k :: ks).length) := by
  have e1 : (pre ++ [k]) ++ ks = pre ++ k :: ks := by simp
  have ho : ops[pre.length]? = some o := by
    rw [← Array.getElem?_toList, hl, ← hlen]
    exact pre_mid lp o l
  have hk : (pre ++ k :: ks)[pre.length]? = some k := pre_mid pre k ks
  have hh := ih (lp ++ [o]) (by rw [hl]; simp) (by simp [hlen]) (fun p e => by
    rw [e1, List.length_append, List.length_singleton, frameAt, ho, hk, hA]
    rfl)
  rw [e1] at hh
  obtain ⟨h1, h2, h3⟩ := hh
  refine ⟨by simp [h1], fun i o' k' hi ho' hk' => ?_, h3⟩
  by_cases he : i = pre.length
  · subst he
    rw [ho] at ho'
    rw [hk] at hk'
    injection ho' with ho'
    injection hk' with hk'
    subst ho' hk'
    have : A = fun p e => frameAt ops (pre ++ k :: ks) a0 p e pre.length := funext fun p => funext fun e => hA p e
    rw [← this]
    exact hp
  · exact h2 i o' k' (by simp; omega) ho' hk'
theorem WalkG.good {l : List Oper} {pre ks : List (Kd E)} {A : (Nat → Nat) → E → Act} (hw : WalkG P ops I Fr Safe base m h fin Q l pre A ks) (a0 : Act) :
    ∀ (lp : List Oper), ops.toList = lp ++ l → lp.length = pre.length → (∀ p e, A p e = frameAt ops (pre ++ ks) a0 p e pre.length) →
      ks.length = l.length ∧ (∀ i o' k', pre.length ≤ i → ops[i]? = some o' → (pre ++ ks)[i]? = some k' → Prem P ops I Fr Safe base m h (pre ++ ks) i o' (fun p e => frameAt ops (pre ++ ks) a0 p e i) k') ∧
      Final I Fr base fin Q (pre ++ ks) (fun p e => frameAt ops (pre ++ ks) a0 p e (pre ++ ks).length) := by
  induction hw with
  | nil hq =>
    rename_i pre A
    intro lp hl hlen hA
    refine ⟨rfl, fun i o' k' hi ho' hk' => ?_, ?_⟩
    · rw [List.append_nil] at hk'
      have := (List.getElem?_eq_some_iff.1 hk').1
      omega
    · rw [List.append_nil] at hA ⊢
      intro p e W h1 h2 h3 h4
      have := hq p e W h1 h2 h3 h4
      rw [hA] at this
      exact this
  | val v hs hr ih => exact good_next ih (fun p e W oo h1 h2 h2' h3 => hs p e W oo h1 h2 h2' h3.pre)
  | vale f hs hr ih => exact good_next ih (fun p e W h1 h3 => hs p e W h1 h3.pre)
  | arr mk ob hs hsf hr ih => exact good_next ih ⟨hsf, hs⟩
  | box mk ob hs hsf hr ih => exact good_next ih ⟨hsf, hs⟩
  | sto x mk ob f dep hx hd hsf hs hr ih => exact good_next ih ⟨hd, hsf, ⟨mk, pre_at hx⟩, hs⟩
  | hev f hs hr ih => exact good_next ih (fun p e W h1 h3 => hs p e W h1 h3.pre)
structure Slots (ops : Array Oper) (ks : List (Kd E)) (a0 : Act) (listed : Array Bool) (p : Nat → Nat) (e : E) (a : Act) : Prop where
  defs : a.defers = a0.defers
  size : a.tmps.size = a0.tmps.size
  old : ∀ t : Tmp, (∀ (x : Nat) o, ops[x]? = some o → listed.getD x false = true → o.dst ≠ some t) → a.tmps[t]? = a0.tmps[t]?
  new : ∀ (x : Nat) o k (t : Tmp), ops[x]? = some o → ks[x]? = some k → listed.getD x false = true → o.dst = some t → a.tmps[t]? = some (k.value p e x)
theorem Slots.step {n : Nat} (L : Freed ops m n) {ks : List (Kd E)} {a0 : Act} (hn : a0.tmps.size = n) {listed : Array Bool} (hs : listed.size = ops.size) {p p' : Nat → Nat} {e e' : E} {a : Act} (S : Slots ops ks a0 listed p e a) {i : Nat} {o : Oper} {k : Kd E}
    (ho : ops[i]? = some o) (hk : ks[i]? = some k) (hv : ∀ x kx, ks[x]? = some kx → listed.getD x false = true → kx.value p' e' x = kx.value p e x) :
    Slots ops ks a0 (listed.setIfInBounds i true) p' e' (a.put o.dst (k.value p' e' i)) := by
  have hlt : i < listed.size := by rw [hs]; exact (Array.getElem?_eq_some_iff.1 ho).1
  refine ⟨by rw [put_defs]; exact S.defs, by rw [put_size]; exact S.size, fun t ht => ?_, fun x ox kx t hox hkx hl hd => ?_⟩
  · rw [put_ne _ _ _ _ (ht i o ho (by rw [getD_set _ _ _ _ hlt, if_pos rfl]))]
    exact S.old t (fun x ox hox hl => ht x ox hox (by rw [getD_set _ _ _ _ hlt, hl]; split <;> rfl))
  · by_cases hx : x = i
    · subst hx
      rw [ho] at hox
      rw [hk] at hkx
      injection hox with hox
      injection hkx with hkx
      subst hox hkx
      rw [hd]
      exact put_eq _ _ _ (by rw [S.size, hn]; exact L.bound x o t ho hd)
    · rw [getD_set _ _ _ _ hlt, if_neg hx] at hl
      rw [put_ne _ _ _ _ (fun h => hx (L.dist i x o ox t ho hox hd h)), S.new x ox kx t hox hkx hl hd, hv x kx hkx hl]
/-- An operation that may come up finds its operands as the text's order has them. -/
theorem Slots.looks {n : Nat} (L : Freed ops m n) {ks : List (Kd E)} (hlen : ks.length = ops.size) {a0 : Act} (hn : a0.tmps.size = n) {listed : Array Bool} (hs : listed.size = ops.size) (hd : Down ops listed) {p : Nat → Nat} {e : E} {a : Act} (S : Slots ops ks a0 listed p e a) {i : Nat} {o : Oper}
    (ho : ops[i]? = some o) (hu : listed.getD i true = false) (hr : ∀ e ∈ o.after, Region.binds .any e = true → listed.getD e.on false = true) (t : Tmp) (ht : t ∈ o.looksAt ops) : a.tmps[t]? = (frameAt ops ks a0 p e i).tmps[t]? := by
  have hlt : i < listed.size := by rw [hs]; exact (Array.getElem?_eq_some_iff.1 ho).1
  have hui : listed.getD i false = false := by rw [← getD_tf hlt]; exact hu
  by_cases hex : ∃ (x : Nat) (ox : Oper), ops[x]? = some ox ∧ ox.dst = some t
  · obtain ⟨x, ox, hox, hdx⟩ := hex
    have hxs := (Array.getElem?_eq_some_iff.1 hox).1
    have only : ∀ (y : Nat) oy, ops[y]? = some oy → oy.dst = some t → y = x := fun y oy hoy hdy => L.dist x y ox oy t hox hoy hdy hdx
    have unl : listed.getD x false = false → (∀ (y : Nat) oy, ops[y]? = some oy → listed.getD y false = true → oy.dst ≠ some t) := fun hf y oy hoy hl hdy => by
      rw [only y oy hoy hdy, hf] at hl; cases hl
    rcases L.reads i x o ox t ho hox hdx ht with ⟨h1, h2⟩ | ⟨h1, h2⟩ | h1
    · have hl := listed_of_mask' L hd (i + 1) i (by omega) o ho hr x ox hox h2
      obtain ⟨kx, hkx⟩ : ∃ kx, ks[x]? = some kx := ⟨_, List.getElem?_eq_getElem (by rw [hlen]; exact hxs)⟩
      rw [S.new x ox kx t hox hkx hl hdx, frame_new L hn p e hox hkx hdx i h1]
    · have hf : listed.getD x false = false := by
        cases hl : listed.getD x false with
        | false => rfl
        | true =>
          have := listed_of_mask' L hd (x + 1) x (by omega) ox hox (fun e' he' hb' => hd x ox hl hox e' he' hb') i o ho h2
          rw [hui] at this
          cases this
      rw [S.old t (unl hf), frame_old ks a0 p e t i (fun y oy hy hoy hdy => by have := only y oy hoy hdy; omega)]
    · subst h1
      rw [S.old t (unl hui), frame_old ks a0 p e t x (fun y oy hy hoy hdy => by have := only y oy hoy hdy; omega)]
  · rw [S.old t (fun x ox hox _ hdx => hex ⟨x, ox, hox, hdx⟩), frame_old ks a0 p e t i (fun x ox _ hox hdx => hex ⟨x, ox, hox, hdx⟩)]
theorem looks_same {o : Oper} (hsel : ∀ cs b, o.op ≠ .select cs b) {a a' : Act} (h : ∀ t ∈ o.looksAt ops, a.tmps[t]? = a'.tmps[t]?) :
    execOp a.eval o = execOp a'.eval o ∧ Region.wanted o (yielded ops a.tmps) = Region.wanted o (yielded ops a'.tmps) := by
  refine ⟨execOp_congr o hsel (fun x hx => eval_eq fun t e => h t ?_), ?_⟩
  · subst e
    exact List.mem_append_left _ (List.mem_filterMap.2 ⟨.tmp t, by simpa using hx, rfl⟩)
  · unfold Region.wanted
    cases hg : o.guard with
    | none => rfl
    | some q =>
      obtain ⟨k, b⟩ := q
      simp only []
      have : yielded ops a.tmps k = yielded ops a'.tmps k := by
        unfold yielded
        cases hk : (ops[k]?).bind (·.dst) with
        | none => rfl
        | some t =>
          have := h t (by unfold Oper.looksAt; rw [hg]; simp [hk])
          simp [this]
      rw [this]
def now (listed : Array Bool) (h : Nat) (e : E) : Option E := if listed.getD h false then some e else none
structure Blocks (ks : List (Kd E)) (I : Option E → World → Prop) (Fr : Option E → Nat → Prop) (Safe : Obj → Prop) (base h : Nat) (listed : Array Bool) (p : Nat → Nat) (e : E) (W : World) : Prop where
  inv : I (now listed h e) W
  box : ∀ (x : Nat) k o, ks[x]? = some k → k.obj? = some o → listed.getD x false = true → base ≤ p x ∧ Fr (now listed h e) (p x) ∧ ∃ c, W.heap[p x]? = some c ∧ Safe c ∧
    ((∀ (s : Nat) o' f d, ks[s]? = some (.sto x o' f d) → listed.getD s false = false) → c = o) ∧ ∀ (s : Nat) o' f d, ks[s]? = some (.sto x o' f d) → listed.getD s false = true → c = f e
  dist : ∀ (x y : Nat) k k', ks[x]? = some k → ks[y]? = some k' → k.obj?.isSome = true → k'.obj?.isSome = true → listed.getD x false = true → listed.getD y false = true → x ≠ y → p x ≠ p y
def Norm (Q : Exit → Act → World → Prop) : Exit → Act → World → Prop
  | .normal, a, w => Q .normal a w
  | _, _, _ => False
theorem norm_only : OnlyN (Norm Q) := fun e a w hh => by cases e <;> first | rfl | exact hh.elim
theorem count_set : ∀ (l : List Bool) (i : Nat), l[i]? = some false → (l.set i true).count false + 1 = l.count false
  | [], _, h => by simp at h
  | b :: l, 0, h => by
    simp at h
    subst h
    simp
  | b :: l, i + 1, h => by
    have := count_set l i (by simpa using h)
    simp [List.count_cons]
    omega
theorem count_zero {l : List Bool} (h : l.count false = 0) (i : Nat) (hi : i < l.length) : l[i]? = some true := by
  have h1 := List.count_eq_zero.1 h
  rw [List.getElem?_eq_getElem hi]
  cases hb : l[i] with
  | true => rfl
  | false => exact absurd (hb ▸ List.getElem_mem hi) h1
theorem all_listed {n : Nat} (L : Freed ops m n) {listed : Array Bool} (hs : listed.size = ops.size) (hr : Region.ready .any ops listed = []) : ∀ (N x : Nat), x < N → x < ops.size → listed.getD x false = true := by
  intro N
  induction N with
  | zero => intro x hx; omega
  | succ N ih =>
    intro x hx hxs
    cases hl : listed.getD x false with
    | true => rfl
    | false =>
      exfalso
      have ho : ops[x]? = some ops[x] := Array.getElem?_eq_getElem hxs
      have : x ∈ Region.ready .any ops listed := ready_iff.2 ⟨_, ho, by rw [getD_tf (by rw [hs]; exact hxs)]; exact hl, fun e he hb => by
        have h1 := L.low x _ ho e he hb
        exact ih e.on (by omega) (by omega)⟩
      rw [hr] at this
      cases this
end
section
variable {I : Option E → World → Prop} {Fr : Option E → Nat → Prop} {Safe : Obj → Prop} {base : Nat} {m : Array Nat} {h : Nat} {fin : E → Option E}
theorem heap_lt {W : World} {n : Nat} {c : Obj} (hc : W.heap[n]? = some c) : n < W.heap.size := (Array.getElem?_eq_some_iff.1 hc).1
theorem alloc_below (W : World) (o : Obj) : Below W.heap.size W (W.alloc o) := (Below.refl _ _).alloc (Nat.le_refl _) o
theorem value_p {k : Kd E} {p p' : Nat → Nat} {e : E} {x : Nat} (hx : p' x = p x) : k.value p' e x = k.value p e x := by
  cases k <;> simp only [Kd.value, hx]
theorem free_final {n : Nat} (L : Freed ops m n) {ks : List (Kd E)} (KK : Kinded ks m h ops.size) {a0 : Act} (hn : a0.tmps.size = n)
    (hfinal : Final I Fr base fin Q ks (fun p e => frameAt ops ks a0 p e ks.length)) (hfin : ∀ e, fin e = if h < ops.size then some e else none)
    {listed : Array Bool} (hs : listed.size = ops.size) (hall : ∀ x, x < ops.size → listed.getD x false = true) {a : Act} {W : World} {p : Nat → Nat} {e : E}
    (S : Slots ops ks a0 listed p e a) (B : Blocks ks I Fr Safe base h listed p e W) : Norm Q .normal a W := by
  have hnow : now listed h e = fin e := by
    unfold now
    rw [hfin]
    by_cases hh : h < ops.size
    · rw [hall h hh, if_pos rfl, if_pos hh]
    · rw [if_neg hh]
      have : listed.getD h false = false := by simp [Array.getD_eq_getD_getElem?, hs, hh]
      rw [this]
      rfl
  have lt : ∀ {x : Nat} {k : Kd E}, ks[x]? = some k → x < ops.size := fun hk => by rw [← KK.len]; exact (List.getElem?_eq_some_iff.1 hk).1
  have ha : a = frameAt ops ks a0 p e ks.length := by
    have hd : a.defers = (frameAt ops ks a0 p e ks.length).defers := by rw [S.defs, frame_defs]
    have ht : a.tmps = (frameAt ops ks a0 p e ks.length).tmps := by
      apply Array.ext_getElem?
      intro t
      by_cases hex : ∃ (x : Nat) (ox : Oper), ops[x]? = some ox ∧ ox.dst = some t
      · obtain ⟨x, ox, hox, hdx⟩ := hex
        have hxs := (Array.getElem?_eq_some_iff.1 hox).1
        obtain ⟨kx, hkx⟩ : ∃ kx, ks[x]? = some kx := ⟨_, List.getElem?_eq_getElem (by rw [KK.len]; exact hxs)⟩
        rw [S.new x ox kx t hox hkx (hall x hxs) hdx, frame_new L hn p e hox hkx hdx ks.length (by rw [KK.len]; exact hxs)]
      · rw [S.old t (fun x ox hox _ hdx => hex ⟨x, ox, hox, hdx⟩), frame_old ks a0 p e t ks.length (fun x ox _ hox hdx => hex ⟨x, ox, hox, hdx⟩)]
    cases a
    cases hf : frameAt ops ks a0 p e ks.length
    rw [hf] at hd ht
    cases hd
    cases ht
    rfl
  show Q .normal a W
  rw [ha]
  refine hfinal p e W (hnow ▸ B.inv) (fun x mk o hx => ?_) (fun s x o f d hx => ?_) (fun x y k k' hx hy hk hk' hne => B.dist x y k k' hx hy hk hk' (hall x (lt hx)) (hall y (lt hy)) hne)
  · obtain ⟨h1, h2, c, h3, _, h4, _⟩ := B.box x _ o hx rfl (hall x (lt hx))
    rw [hnow] at h2
    refine ⟨h1, h2, ?_⟩
    rw [h3, h4 (fun s o' f d hss => ?_)]
    obtain ⟨_, ⟨mk', o2, h6⟩, _⟩ := KK.sto s x o' f d hss
    rw [hx] at h6
    cases h6
  · obtain ⟨_, ⟨mk', o2, h6⟩, _⟩ := KK.sto s x o f d hx
    obtain ⟨h1, h2, c, h3, _, _, h5⟩ := B.box x _ o2 h6 rfl (hall x (lt h6))
    rw [hnow] at h2
    exact ⟨h1, h2, by rw [h3, h5 s o f d hx (hall s (lt hx))]⟩
theorem free_any {n : Nat} (L : Freed ops m n) {ks : List (Kd E)} (KK : Kinded ks m h ops.size) (hlow : h < ops.size ∨ ∀ i, (m.getD i 0).testBit h = false) {a0 : Act} (hn : a0.tmps.size = n)
    (prem : ∀ (i : Nat) o k, ops[i]? = some o → ks[i]? = some k → Prem P ops I Fr Safe base m h ks i o (fun p e => frameAt ops ks a0 p e i) k)
    (hfinal : Final I Fr base fin Q ks (fun p e => frameAt ops ks a0 p e ks.length)) (hfin : ∀ e, fin e = if h < ops.size then some e else none)
    (c1 : ∀ oo W W', I oo W → Below W.heap.size W W' → I oo W')
    (c2 : ∀ oo W W' n, I oo W → base ≤ n → Fr oo n → (∃ c, W.heap[n]? = some c ∧ Safe c) → (∃ c, W'.heap[n]? = some c ∧ Safe c) → Only n W W' → I oo W')
    (c3 : ∀ oo W n, I oo W → W.heap.size ≤ n → Fr oo n) (c4 : ∀ oo W, I oo W → base ≤ W.heap.size) :
    ∀ (fuel : Nat) (listed : Array Bool) (a : Act) (W : World), listed.size = ops.size → Down ops listed → listed.toList.count false = fuel →
      (∃ p e, Slots ops ks a0 listed p e a ∧ Blocks ks I Fr Safe base h listed p e W) → wpAny P .any ops (Norm Q) fuel listed a W := by
  have ltk : ∀ {x : Nat} {k : Kd E}, ks[x]? = some k → x < ops.size := fun hk => by rw [← KK.len]; exact (List.getElem?_eq_some_iff.1 hk).1
  intro fuel
  induction fuel with
  | zero =>
    intro listed a W hs hd hf ⟨p, e, S, B⟩
    have hall : ∀ x, x < ops.size → listed.getD x false = true := fun x hx => by
      have := count_zero hf x (by simpa [hs] using hx)
      rw [Array.getElem?_toList] at this
      simp [Array.getD_eq_getD_getElem?, this]
    refine ⟨?_, free_final L KK hn hfinal hfin hs hall S B⟩
    rw [List.eq_nil_iff_forall_not_mem]
    intro i hi
    obtain ⟨o, ho, hu, _⟩ := ready_iff.1 hi
    have hlt := (Array.getElem?_eq_some_iff.1 ho).1
    rw [getD_tf (by rw [hs]; exact hlt), hall i hlt] at hu
    cases hu
  | succ fuel ih =>
    intro listed a W hs hd hf ⟨p, e, S, B⟩
    refine ⟨fun hr => free_final L KK hn hfinal hfin hs (fun x hx => all_listed L hs hr (x + 1) x (by omega) hx) S B, fun i hi => ?_⟩
    obtain ⟨o, ho, hu, hr⟩ := ready_iff.1 hi
    have hio := (Array.getElem?_eq_some_iff.1 ho).1
    have hlt : i < listed.size := by rw [hs]; exact hio
    have hui : listed.getD i false = false := by rw [← getD_tf hlt]; exact hu
    obtain ⟨k, hk⟩ : ∃ k, ks[i]? = some k := ⟨_, List.getElem?_eq_getElem (by rw [KK.len]; exact hio)⟩
    have hp := prem i o k ho hk
    have hne : ∀ {x : Nat}, listed.getD x false = true → x ≠ i := fun hl he => by rw [he, hui] at hl; cases hl
    have hset : ∀ x, (listed.setIfInBounds i true).getD x false = if x = i then true else listed.getD x false := fun x => getD_set _ _ _ _ hlt
    -- what is behind a mask has come up
    have hmask : ∀ {x : Nat}, x < ops.size → (m.getD i 0).testBit x = true → listed.getD x false = true := fun hx hb =>
      listed_of_mask' L hd (i + 1) i (by omega) o ho hr _ _ (Array.getElem?_eq_getElem hx) hb
    have hdown : ∀ {x y : Nat}, x < ops.size → y < ops.size → listed.getD x false = true → (m.getD x 0).testBit y = true → listed.getD y false = true := fun {x y} hx hy hl hb =>
      listed_of_mask' L hd (x + 1) x (by omega) _ (Array.getElem?_eq_getElem hx) (fun e' he' hb' => hd x _ hl (Array.getElem?_eq_getElem hx) e' he' hb') _ _ (Array.getElem?_eq_getElem hy) hb
    have hheavy : (m.getD i 0).testBit h = true → listed.getD h false = true := fun hb => by
      rcases hlow with h1 | h1
      · exact hmask h1 hb
      · rw [h1] at hb; cases hb
    have hnowi : (m.getD i 0).testBit h = true → now listed h e = some e := fun hb => by unfold now; rw [hheavy hb]; rfl
    have hbefi : (m.getD h 0).testBit i = true → now listed h e = none := fun hb => by
      unfold now
      cases hl : listed.getD h false with
      | false => rfl
      | true =>
        exfalso
        have hh : h < ops.size := by
          rcases Nat.lt_or_ge h ops.size with h1 | h1
          · exact h1
          · rw [show listed.getD h false = false by simp [Array.getD_eq_getD_getElem?, hs, Nat.not_lt.2 h1]] at hl
            cases hl
        have := hdown hh hio hl hb
        rw [hui] at this
        cases this
    have hfacts : Facts ks (m.getD i 0) base (Fr (now listed h e)) p W := fun x mk ob hx hb => by
      obtain ⟨h1, h2, c, h3, _, h4, _⟩ := B.box x _ ob hx rfl (hmask (ltk hx) hb)
      refine ⟨h1, h2, ?_⟩
      rw [h3, h4 (fun s o' f d hss => ?_)]
      obtain ⟨_, ⟨mk', o2, h6⟩, _⟩ := KK.sto s x o' f d hss
      rw [hx] at h6
      cases h6
    have hsame := looks_same (L.sel i o ho) (fun t ht => S.looks L KK.len hn hs hd ho hu hr t ht)
    have hsz : ∀ d, o.dst = some d → d < (frameAt ops ks a0 p e i).tmps.size := fun d hdd => by rw [frame_size, hn]; exact L.bound i o d ho hdd
    have key : ∀ (R : Act → World → Prop), StepK P ops o (frameAt ops ks a0 p e i) W R → (∀ g w', G o g → R (g (frameAt ops ks a0 p e i)) w' → wpAny P .any ops (Norm Q) fuel (listed.setIfInBounds i true) (g a) w') →
        wpOp P ops (Norm Q) i (wpAny P .any ops (Norm Q) fuel (listed.setIfInBounds i true)) a W := fun R hst hK => by
      rw [wpOp_iff ho norm_only]
      exact eff_same hsame.1 hsame.2 (eff_mono (fun g w' hg hk => hK g w' hg hk) (StepK.eff ho hst))
    have hcnt : (listed.setIfInBounds i true).toList.count false = fuel := by
      have h1 : listed.toList[i]? = some false := by
        rw [Array.getElem?_toList, Array.getElem?_eq_getElem hlt]
        have : listed.getD i false = listed[i] := by simp [Array.getD_eq_getD_getElem?, hlt]
        rw [← this, hui]
      have := count_set listed.toList i h1
      rw [Array.toList_setIfInBounds]
      omega
    have go : ∀ (p' : Nat → Nat) (e' : E) (W' : World), (∀ x kx, ks[x]? = some kx → listed.getD x false = true → kx.value p' e' x = kx.value p e x) → Blocks ks I Fr Safe base h (listed.setIfInBounds i true) p' e' W' →
        wpAny P .any ops (Norm Q) fuel (listed.setIfInBounds i true) (a.put o.dst (k.value p' e' i)) W' := fun p' e' W' hv B' =>
      ih _ _ _ (by simpa using hs) (hd.set hi hs) hcnt ⟨p', e', S.step L hn hs ho hk hv, B'⟩
    -- the great call's place
    have hnh : (∀ f, k ≠ .hev f) → i ≠ h := fun hk' he => by
      subst he
      obtain ⟨f, hf⟩ := KK.head k hk
      exact hk' f hf
    have hnow' : i ≠ h → ∀ e' : E, now (listed.setIfInBounds i true) h e' = now listed h e' := fun hih e' => by
      have : (listed.setIfInBounds i true).getD h false = listed.getD h false := by rw [hset, if_neg (fun hh => hih hh.symm)]
      unfold now
      rw [this]
    -- the blocks, where the operation is neither a new block nor a store
    have grow : (∀ ob, k.obj? ≠ some ob) → (∀ x o' f d, k ≠ .sto x o' f d) → i ≠ h → ∀ W', Below W.heap.size W W' → Blocks ks I Fr Safe base h (listed.setIfInBounds i true) p e W' := fun hk1 hk2 hih W' hb => by
      refine ⟨?_, fun x kx ob hx hob hl => ?_, fun x y kx ky hx hy hxo hyo hlx hly hxy => ?_⟩
      · rw [hnow' hih]; exact c1 _ _ _ B.inv hb
      · have hxi : x ≠ i := fun he => by subst he; rw [hk] at hx; injection hx with hx; subst hx; exact hk1 _ hob
        rw [hset, if_neg hxi] at hl
        obtain ⟨h1, h2, c, h3, h4, h5, h6⟩ := B.box x kx ob hx hob hl
        have hsi : ∀ (s : Nat) o' f d, ks[s]? = some (.sto x o' f d) → s ≠ i := fun s o' f d hss he => by subst he; rw [hk] at hss; injection hss with hss; exact hk2 _ _ _ _ hss
        refine ⟨h1, by rw [hnow' hih]; exact h2, c, ?_, h4, fun hh => h5 (fun s o' f d hss => ?_), fun s o' f d hss hls => h6 s o' f d hss ?_⟩
        · rw [hb.block _ (heap_lt h3)]; exact h3
        · have := hh s o' f d hss
          rwa [hset, if_neg (hsi s o' f d hss)] at this
        · rwa [hset, if_neg (hsi s o' f d hss)] at hls
      · have hxi : x ≠ i := fun he => by subst he; rw [hk] at hx; injection hx with hx; subst hx; cases ho' : k.obj? with | none => rw [ho'] at hxo; cases hxo | some ob => exact hk1 _ ho'
        have hyi : y ≠ i := fun he => by subst he; rw [hk] at hy; injection hy with hy; subst hy; cases ho' : k.obj? with | none => rw [ho'] at hyo; cases hyo | some ob => exact hk1 _ ho'
        rw [hset, if_neg hxi] at hlx
        rw [hset, if_neg hyi] at hly
        exact B.dist x y kx ky hx hy hxo hyo hlx hly hxy
    -- the blocks, where the operation makes one
    have made : ∀ mk ob, (k = .arr mk ob ∨ k = .box mk ob) → Safe ob → (∀ p e W oo, I oo W → StepK P ops o (frameAt ops ks a0 p e i) W (fun a w => a = (frameAt ops ks a0 p e i).put o.dst (mk W.heap.size) ∧ w = W.alloc ob)) →
        wpOp P ops (Norm Q) i (wpAny P .any ops (Norm Q) fuel (listed.setIfInBounds i true)) a W := fun mk ob hkk hsf hst => by
      have hih : i ≠ h := hnh (fun f he => by rcases hkk with e1 | e1 <;> (rw [e1] at he; cases he))
      have hobj : k.obj? = some ob := by rcases hkk with e1 | e1 <;> (rw [e1]; rfl)
      refine key _ (hst p e W _ B.inv) ?_
      rintro g w' hg ⟨h1, rfl⟩
      have hga := G.back hg h1 hsz (a := a)
      rw [hga]
      have hv : k.value (fun x => if x = i then W.heap.size else p x) e i = mk W.heap.size := by rcases hkk with e1 | e1 <;> (rw [e1]; simp [Kd.value])
      rw [← hv]
      refine go _ e _ (fun x kx hx hl => value_p (by simp [hne hl])) ⟨?_, fun x kx ob' hx hob hl => ?_, fun x y kx ky hx hy hxo hyo hlx hly hxy => ?_⟩
      · rw [hnow' hih]; exact c1 _ _ _ B.inv (alloc_below _ _)
      · by_cases hxi : x = i
        · subst hxi
          rw [hk] at hx
          injection hx with hx
          subst hx
          rw [hobj] at hob
          injection hob with hob
          subst hob
          simp only [if_pos]
          refine ⟨c4 _ _ B.inv, by rw [hnow' hih]; exact c3 _ _ _ B.inv (Nat.le_refl _), ob, ?_, hsf, fun _ => rfl, fun s o' f d hss hls => ?_⟩
          · show (W.heap.push ob)[W.heap.size]? = _
            simp
          · exfalso
            have hsx : s ≠ x := fun he => by subst he; rw [hk] at hss; injection hss with hss; rw [hss] at hobj; cases hobj
            rw [hset, if_neg hsx] at hls
            have := hdown (ltk hss) hio hls (KK.sto s x o' f d hss).1
            rw [hui] at this
            cases this
        · rw [hset, if_neg hxi] at hl
          obtain ⟨h1, h2, c, h3, h4, h5, h6⟩ := B.box x kx ob' hx hob hl
          have hsi : ∀ (s : Nat) o' f d, ks[s]? = some (.sto x o' f d) → s ≠ i := fun s o' f d hss he => by subst he; rw [hk] at hss; injection hss with hss; rw [hss] at hobj; cases hobj
          simp only [if_neg hxi]
          refine ⟨h1, by rw [hnow' hih]; exact h2, c, ?_, h4, fun hh => h5 (fun s o' f d hss => ?_), fun s o' f d hss hls => h6 s o' f d hss ?_⟩
          · rw [(alloc_below W ob).block _ (heap_lt h3)]; exact h3
          · have := hh s o' f d hss
            rwa [hset, if_neg (hsi s o' f d hss)] at this
          · rwa [hset, if_neg (hsi s o' f d hss)] at hls
      · have old : ∀ (z : Nat) kz, ks[z]? = some kz → kz.obj?.isSome = true → z ≠ i → (listed.setIfInBounds i true).getD z false = true → p z < W.heap.size := fun z kz hz hzo hzi hlz => by
          rw [hset, if_neg hzi] at hlz
          obtain ⟨oz, hoz⟩ := Option.isSome_iff_exists.1 hzo
          obtain ⟨_, _, c, h3, _⟩ := B.box z kz oz hz hoz hlz
          exact heap_lt h3
        by_cases hxi : x = i
        · have hyi : y ≠ i := fun he => hxy (hxi.trans he.symm)
          have := old y ky hy hyo hyi hly
          simp only [if_pos hxi, if_neg hyi]
          omega
        · by_cases hyi : y = i
          · have := old x kx hx hxo hxi hlx
            simp only [if_neg hxi, if_pos hyi]
            omega
          · simp only [if_neg hxi, if_neg hyi]
            rw [hset, if_neg hxi] at hlx
            rw [hset, if_neg hyi] at hly
            exact B.dist x y kx ky hx hy hxo hyo hlx hly hxy
    cases k with
    | val v =>
      have hih := hnh (fun f he => by cases he)
      refine key _ (hp p e W _ B.inv hnowi hbefi hfacts) ?_
      rintro g w' hg ⟨h1, hb⟩
      rw [G.back hg h1 hsz (a := a)]
      exact go p e w' (fun _ _ _ _ => rfl) (grow (fun _ he => by cases he) (fun _ _ _ _ he => by cases he) hih w' hb)
    | vale f =>
      have hih := hnh (fun f he => by cases he)
      have hno := hnowi (KK.vale i f hk)
      have hf2 := hfacts
      rw [hno] at hf2
      refine key _ (hp p e W (hno ▸ B.inv) hf2) ?_
      rintro g w' hg ⟨h1, hb⟩
      rw [G.back hg h1 hsz (a := a)]
      exact go p e w' (fun _ _ _ _ => rfl) (grow (fun _ he => by cases he) (fun _ _ _ _ he => by cases he) hih w' hb)
    | arr mk ob => exact made mk ob (.inl rfl) hp.1 hp.2
    | box mk ob => exact made mk ob (.inr rfl) hp.1 hp.2
    | sto x ob f dep =>
      have hih := hnh (fun f he => by cases he)
      obtain ⟨hconst, hsafe, ⟨mk, hx⟩, hst⟩ := hp
      obtain ⟨hm1, _, hm3, hm4⟩ := KK.sto i x ob f dep hk
      have hlx := hmask (ltk hx) hm1
      obtain ⟨b1, b2, c, b3, b4, b5, b6⟩ := B.box x _ ob hx rfl hlx
      have hc : c = ob := b5 (fun s o' f' d' hss => by rw [hm4 s o' f' d' hss]; exact hui)
      subst hc
      refine key _ (hst p e W _ B.inv hnowi b3) ?_
      rintro g w' hg ⟨h1, hon, hnew⟩
      rw [G.back hg h1 hsz (a := a)]
      refine go p e w' (fun _ _ _ _ => rfl) ⟨?_, fun y ky ob' hy hob hl => ?_, fun y z ky kz hy hz hyo hzo hly hlz hyz => ?_⟩
      · rw [hnow' hih]; exact c2 _ _ _ _ B.inv b1 b2 ⟨_, b3, b4⟩ ⟨_, hnew, hsafe e⟩ hon
      · have hyi : y ≠ i := fun he => by subst he; rw [hk] at hy; injection hy with hy; subst hy; cases hob
        rw [hset, if_neg hyi] at hl
        by_cases hyx : y = x
        · subst hyx
          refine ⟨b1, by rw [hnow' hih]; exact b2, f e, hnew, hsafe e, fun hh => ?_, fun s o' f' d' hss hls => ?_⟩
          · have := hh i _ f dep hk
            rw [hset, if_pos rfl] at this
            cases this
          · have := hm4 s o' f' d' hss
            subst this
            rw [hk] at hss
            injection hss with hss
            injection hss with _ _ h3 _
            rw [h3]
        · obtain ⟨g1, g2, c', g3, g4, g5, g6⟩ := B.box y ky ob' hy hob hl
          have hpp : p y ≠ p x := B.dist y x ky _ hy hx (by rw [hob]; rfl) rfl hl hlx hyx
          have hsi : ∀ (s : Nat) o' f d, ks[s]? = some (.sto y o' f d) → s ≠ i := fun s o' f d hss he => by subst he; rw [hk] at hss; injection hss with hss; injection hss with h1; exact hyx h1.symm
          refine ⟨g1, by rw [hnow' hih]; exact g2, c', ?_, g4, fun hh => g5 (fun s o' f d hss => ?_), fun s o' f d hss hls => g6 s o' f d hss ?_⟩
          · rw [hon.block _ hpp (heap_lt g3)]; exact g3
          · have := hh s o' f d hss
            rwa [hset, if_neg (hsi s o' f d hss)] at this
          · rwa [hset, if_neg (hsi s o' f d hss)] at hls
      · have hyi : y ≠ i := fun he => by subst he; rw [hk] at hy; injection hy with hy; subst hy; cases hyo
        have hzi : z ≠ i := fun he => by subst he; rw [hk] at hz; injection hz with hz; subst hz; cases hzo
        rw [hset, if_neg hyi] at hly
        rw [hset, if_neg hzi] at hlz
        exact B.dist y z ky kz hy hz hyo hzo hly hlz hyz
    | hev f =>
      have hih := KK.hev i f hk
      subst hih
      have hno : now listed i e = none := by unfold now; rw [hui]; rfl
      have hf2 := hfacts
      rw [hno] at hf2
      refine key _ (hp p e W (hno ▸ B.inv) hf2) ?_
      rintro g w' hg ⟨e', h1, hI, hsz', hkeep⟩
      rw [G.back hg h1 hsz (a := a)]
      have hnow2 : now (listed.setIfInBounds i true) i e' = some e' := by unfold now; rw [hset, if_pos rfl]; rfl
      have nolist : ∀ {x : Nat}, x < ops.size → listed.getD x false = true → ¬ (m.getD x 0).testBit i = true := fun hx hl hb => by
        have := hdown hx hio hl hb
        rw [hui] at this
        cases this
      refine go p e' w' (fun x kx hx hl => ?_) ⟨?_, fun x kx ob hx hob hl => ?_, fun x y kx ky hx hy hxo hyo hlx hly hxy => ?_⟩
      · cases kx with
        | vale f' => exact absurd (KK.vale x f' hx) (nolist (ltk hx) hl)
        | hev f' => exact absurd (KK.hev x f' hx) (hne hl)
        | _ => rfl
      · rw [hnow2]; exact hI
      · have hxi : x ≠ i := fun he => by subst he; rw [hk] at hx; injection hx with hx; subst hx; cases hob
        rw [hset, if_neg hxi] at hl
        obtain ⟨g1, g2, c, g3, g4, g5, g6⟩ := B.box x kx ob hx hob hl
        rw [hno] at g2
        have hsi : ∀ (s : Nat) o' f d, ks[s]? = some (.sto x o' f d) → s ≠ i := fun s o' f d hss he => by subst he; rw [hk] at hss; cases hss
        obtain ⟨k1, k2⟩ := hkeep _ _ g1 g3 g4 g2
        refine ⟨g1, by rw [hnow2]; exact k2, c, k1, g4, fun hh => g5 (fun s o' f d hss => ?_), fun s o' f' d hss hls => ?_⟩
        · have := hh s o' f d hss
          rwa [hset, if_neg (hsi s o' f d hss)] at this
        · rw [hset, if_neg (hsi s o' f' d hss)] at hls
          rw [g6 s o' f' d hss hls]
          have hps := prem s (ops[s]'(ltk hss)) _ (Array.getElem?_eq_getElem (ltk hss)) hss
          cases d with
          | true => exact absurd ((KK.sto s x o' f' true hss).2.2.1 rfl) (nolist (ltk hss) hls)
          | false => exact hps.1 rfl e e'
      · have hxi : x ≠ i := fun he => by subst he; rw [hk] at hx; injection hx with hx; subst hx; cases hxo
        have hyi : y ≠ i := fun he => by subst he; rw [hk] at hy; injection hy with hy; subst hy; cases hyo
        rw [hset, if_neg hxi] at hlx
        rw [hset, if_neg hyi] at hly
        exact B.dist x y kx ky hx hy hxo hyo hlx hly hxy
end
end
end Go.Proofs.Lexi
namespace Go.Proofs.Lexi
open Go
section
variable {P : Program} {ops : Array Oper} {Q : Exit → Act → World → Prop}
/-- A REGION THAT DRAWS, WALKED IN THE ORDER OF ITS TEXT. -/
theorem wp_region_lex {id : Nat} {l : List Oper} {a : Act} {w : World} (hm : P.follows .mixedOrders = true) (hB : lexCheck P l.toArray (Region.before l.toArray) = true)
    (h : wpList P l.toArray (Behind l.toArray Q) l a w.drew) : (Code.region id l.toArray true).wp P Q a w := by
  have hQ : OnlyN (Behind l.toArray Q) := fun e a w h => by cases e <;> first | rfl | exact h.elim
  refine Code.wp_mono (Q := Behind l.toArray Q) (fun e a w h => by cases e <;> first | exact h.2 | exact h.elim) ?_
  refine wp_region_any hm ?_
  refine any_of_lex (lexed_of hB) hQ (fun a w h => h.1) l.toArray.size 0 _ a _ (by simp) (by simp) (fun x hx => by
    simp only [Array.getD_eq_getD_getElem?, Array.getElem?_replicate, Nat.not_lt_zero, decide_false]
    split <;> rfl) ?_
  have := wpOps_eq_wpList (P := P) (ops := l.toArray) (Q := Behind l.toArray Q) l 0 (by simp)
  simp only [List.size_toArray]
  rw [this]
  exact h
end
end Go.Proofs.Lexi
namespace Go.Proofs.YtpbcmlnjiocmoaaGreatDoorR
open Go.RowKit Go.Proofs.Lexi
set_option maxHeartbeats 400000 in
theorem gcd_c (w : World) (x y : Int) (a b : Nat) (hx : x = a) (hy : y = b) (ha : a ≤ 9223372036854775807) (hb : b ≤ 9223372036854775807) :
    Calls Tryz.prog 98 #[.int .i64 x, .int .i64 y] w (PureP w (.int .i64 (Nat.gcd a b : Nat))) := by
  subst hx hy
  obtain ⟨G, hG⟩ : ∃ G, G = Nat.gcd a b := ⟨_, rfl⟩
  rw [← hG]
  have HG := Lib.hid hG.symm
  clear hG
  go_enter Tryz.func98, Tryz.ntmps98
  go_wp2
  go_loopg [0, 1] b (fun gg u v wr => ∃ x y n : Nat, wr = w.drewN n ∧ y = gg ∧ u = .int .i64 (x : Int) ∧ v = .int .i64 (y : Int) ∧ x ≤ 9223372036854775807 ∧ y ≤ 9223372036854775807 ∧ Hid (Nat.gcd x y = G))
  case atStart => exact ⟨a, b, 0, rfl, rfl, rfl, rfl, ha, hb, HG⟩
  case round =>
    obtain ⟨x, y, n, rfl, rfl, rfl, rfl, h1, h2, h3⟩ := hrel
    by_cases h0 : y = 0
    · subst h0
      have HX := Lib.hid (show (x : Int) = G from by have := h3.out; rw [Nat.gcd_zero_right] at this; omega)
      go_wp2
      go_ret
      exact ⟨ret_int HX.out, n, rfl⟩
    · have t0 : ((y : Int) != 0) = true := by rw [bne_iff_ne]; omega
      have hy0 : 0 < y := by omega
      have hm := Nat.mod_lt x hy0
      have HN := Lib.hid (show Nat.gcd y (x % y) = G from by rw [← h3.out, Nat.gcd_comm x y]; exact (Nat.gcd_rec y x).symm ▸ (Nat.gcd_comm _ _))
      clear h0
      go_wp2
      refine wp_region_lex mixed (by kernel_rfl) ?_
      go_wp2
      refine ⟨by kernel_rfl, ?_⟩
      go_wp2
      go_roundg (x % y)
      case measure => omega
      case rel => exact ⟨y, x % y, _, rfl, rfl, rfl, (by first | rfl | simp), h2, by omega, HN⟩
set_option maxRecDepth 100000 in
set_option maxHeartbeats 1000000 in
theorem rvalid_c (w : World) (p q : Int) : Calls Tryz.prog 80 #[.agg #[.int .i64 p, .int .i64 q]] w (BoolPost w (validN (p, q))) := by
  have HB := Lib.hid (below_num0 w (.cells #[.int .i64 p, .int .i64 q] 28))
  by_cases h : 1 ≤ q ∧ q ≤ 2147483647 ∧ -2147483647 ≤ p ∧ p ≤ 2147483647
  · obtain ⟨h1, h2, h3, h4⟩ := h
    have HGC := Lib.hid (fun W x y hx hy => gcd_c W x y p.natAbs q.natAbs hx hy (by omega) (by omega))
    obtain ⟨D, hD⟩ : ∃ D, D = Nat.gcd p.natAbs q.natAbs := ⟨_, rfl⟩
    have HV := Lib.hid (validN_good h1 h2 h3 h4 hD.symm)
    have HDD := Lib.hid hD.symm
    clear hD
    go_enter Tryz.func80, Tryz.ntmps80
    go_wp2_with fail
    all_goals
      refine (HGC.out _ _ _ (by omega) (by omega)).mono ?_
      rw [HDD.out]
      rintro e w1 ⟨rfl, n, rfl⟩
      go_wp2
      go_ret
      exact bool_done HV.out.symm (bdn HB.out n)
  · have HV := Lib.hid (validN_bad (p := p) (q := q) (by omega))
    have hc : q < 1 ∨ (1 ≤ q ∧ 2147483647 < q) ∨ (1 ≤ q ∧ q ≤ 2147483647 ∧ p < -2147483647) ∨ (1 ≤ q ∧ q ≤ 2147483647 ∧ -2147483647 ≤ p ∧ 2147483647 < p) := by omega
    clear h
    rcases hc with k1 | ⟨k1, k2⟩ | ⟨k1, k2, k3⟩ | ⟨k1, k2, k3, k4⟩
    all_goals
      go_enter Tryz.func80, Tryz.ntmps80
      go_wp2
      go_ret
      exact bool_done HV.out.symm HB.out
set_option maxHeartbeats 400000 in
theorem sgcd_c (w : World) (x y : Int) (a b : Nat) (hx : x = a) (hy : y = b) (ha : a ≤ 9223372036854775807) (hb : b ≤ 9223372036854775807) :
    Calls Tryz.prog 75 #[.int .i64 x, .int .i64 y] w (PureP w (.int .i64 (Nat.gcd a b : Nat))) := by
  subst hx hy
  obtain ⟨G, hG⟩ : ∃ G, G = Nat.gcd a b := ⟨_, rfl⟩
  rw [← hG]
  have HG := Lib.hid hG.symm
  clear hG
  go_enter Tryz.func75, Tryz.ntmps75
  go_wp2
  go_loopg [0, 1] b (fun gg u v wr => ∃ x y n : Nat, wr = w.drewN n ∧ y = gg ∧ u = .int .i64 (x : Int) ∧ v = .int .i64 (y : Int) ∧ x ≤ 9223372036854775807 ∧ y ≤ 9223372036854775807 ∧ Hid (Nat.gcd x y = G))
  case atStart => exact ⟨a, b, 0, rfl, rfl, rfl, rfl, ha, hb, HG⟩
  case round =>
    obtain ⟨x, y, n, rfl, rfl, rfl, rfl, h1, h2, h3⟩ := hrel
    by_cases h0 : y = 0
    · subst h0
      have HX := Lib.hid (show (x : Int) = G from by have := h3.out; rw [Nat.gcd_zero_right] at this; omega)
      go_wp2
      go_ret
      exact ⟨ret_int HX.out, n, rfl⟩
    · have t0 : ((y : Int) != 0) = true := by rw [bne_iff_ne]; omega
      have hy0 : 0 < y := by omega
      have hm := Nat.mod_lt x hy0
      have HN := Lib.hid (show Nat.gcd y (x % y) = G from by rw [← h3.out, Nat.gcd_comm x y]; exact (Nat.gcd_rec y x).symm ▸ (Nat.gcd_comm _ _))
      clear h0
      go_wp2
      refine wp_region_lex mixed (by kernel_rfl) ?_
      go_wp2
      refine ⟨by kernel_rfl, ?_⟩
      go_wp2
      go_roundg (x % y)
      case measure => omega
      case rel => exact ⟨y, x % y, _, rfl, rfl, rfl, (by first | rfl | simp), h2, by omega, HN⟩
set_option maxHeartbeats 400000 in
theorem sabs_c (w : World) (x : Int) (h1 : -9223372036854775807 ≤ x) (h2 : x ≤ 9223372036854775807) : Calls Tryz.prog 76 #[.int .i64 x] w fun e w' => e = .returned (.int .i64 (x.natAbs : Int)) ∧ w' = w := by
  by_cases h : x < 0
  all_goals
    go_enter Tryz.func76, Tryz.ntmps76
    go_wp2
    go_ret
    exact ⟨ret_int (by omega), rfl⟩
set_option maxRecDepth 100000 in
set_option maxHeartbeats 2000000 in
theorem tStored_c (w : World) (c : Value) : Calls Tryz.prog 62 #[c, .int .i64 0] w (fun e w' => e = .returned (.tuple #[]) ∧ w' = w) := by
  go_enter Tryz.func62, Tryz.ntmps62
  go_wp2
  go_end0
  exact ⟨rfl, rfl⟩
end Go.Proofs.YtpbcmlnjiocmoaaGreatDoorR
