import Derived.Test.YtpbhncmaamedhaaDoorFind
namespace Go.Proofs.YtpbhncmaamedhaaDoor
open Go.RowKit Go.Proofs.Lexi

/-! All: its model's laws, and a slice of matches in memory. -/
theorem run_good {l p : List Nat} {q : St × Bool × Bool} (hq : parseM p = .ok q) {i : Nat} (hi : i ≤ l.length) : Gd i (fun e cs' => e ≤ l.length ∧ (q.2.2 = true → e = l.length) ∧ CapInv q.1.caps (stEnd st0 q.1.items) i e cs') (List.replicate q.1.caps zeroCap) (fun m => runP l q i m) := by
  obtain ⟨hwf, -, -, -, -⟩ := parseM_inv (s := q.1) (anc := q.2.1) (fin := q.2.2) hq
  exact Gd.match_ l q.2.2 q.1.caps i q.1.items st0 i _ hwf hi (Nat.le_refl _) ⟨by simp, fun k h => by simp [st0] at h, fun k h => by simp [st0] at h, fun k h => by simp [st0] at h⟩
theorem run_bounds {l p : List Nat} {q : St × Bool × Bool} (hq : parseM p = .ok q) {i n k : Nat} {st : MS} (hi : i ≤ l.length) (h : runP l q i n = some (some k, st)) : i ≤ k ∧ k ≤ l.length := by
  obtain ⟨n', cs⟩ := st
  have := (run_good hq hi n (some k) n' cs h).2.2.2 k rfl
  exact ⟨this.1, this.2.1⟩
theorem fuel_pos (len i : Nat) (last : Int) : 1 ≤ allFuel len i last := by unfold allFuel; omega
theorem fuel_miss {len i : Nat} {last : Int} {d : Nat} (hi : i ≤ len) (h : allFuel len i last ≤ d + 1) : allFuel len (i + 1) last ≤ d := by
  unfold allFuel at *
  split <;> split at h <;> omega
theorem fuel_hit {len i t : Nat} {last : Int} {d : Nat} (hi : i ≤ len) (h1 : i ≤ t) (h2 : t ≤ len) (hl : (t : Int) ≠ last) (h : allFuel len i last ≤ d + 1) : allFuel len t (t : Int) ≤ d := by
  unfold allFuel at *
  rw [if_pos rfl]
  split at h <;> omega
theorem allGo_err {run : Nat → Nat → MR} {anc : Bool} {len d i n : Nat} {last : Int} {acc : List AM} (hi : i ≤ len) (h : outE (ofRun i (run i n)) ≠ 0) : allGo run anc len (d + 1) i last n acc = .error (outE (ofRun i (run i n))) := by
  unfold allGo
  rw [if_pos hi]
  cases hr : run i n with
  | none => rfl
  | some q =>
    obtain ⟨o, n', cs⟩ := q
    rw [hr] at h
    cases o <;> exact absurd rfl h
theorem allGo_hit {run : Nat → Nat → MR} {anc : Bool} {len d i n n' : Nat} {last : Int} {acc : List AM} {o : Option Nat} {cs : List ACap} (hi : i ≤ len) (hr : run i n = some (o, (n', cs))) (hb : outB (ofRun i (run i n)) = true) (hl : (outM (ofRun i (run i n))).t ≠ last) :
    allGo run anc len (d + 1) i last n acc = if anc then .ok (acc ++ [outM (ofRun i (run i n))]) else allGo run anc len d (outM (ofRun i (run i n))).t.toNat (outM (ofRun i (run i n))).t n' (acc ++ [outM (ofRun i (run i n))]) := by
  rw [hr] at hb hl ⊢
  conv => lhs; unfold allGo
  rw [if_pos hi, hr]
  cases o with
  | none => cases hb
  | some k =>
    simp only []
    rw [if_neg (show ¬ (k : Int) = last from hl)]
    cases anc <;> rfl
theorem allGo_miss {run : Nat → Nat → MR} {anc : Bool} {len d i n n' : Nat} {last : Int} {acc : List AM} {o : Option Nat} {cs : List ACap} (hi : i ≤ len) (hr : run i n = some (o, (n', cs))) (hb : outB (ofRun i (run i n)) = false ∨ (outM (ofRun i (run i n))).t = last) :
    allGo run anc len (d + 1) i last n acc = if anc then .ok acc else allGo run anc len d (i + 1) last n' acc := by
  rw [hr] at hb
  conv => lhs; unfold allGo
  rw [if_pos hi, hr]
  cases o with
  | none => cases anc <;> rfl
  | some k =>
    simp only []
    have hk : (k : Int) = last := by
      rcases hb with hb | hb
      · cases hb
      · exact hb
    rw [if_pos hk]
theorem allGo_end {run : Nat → Nat → MR} {anc : Bool} {len d i n : Nat} {last : Int} {acc : List AM} (hi : ¬ i ≤ len) : allGo run anc len d i last n acc = .ok acc := by
  cases d with
  | zero => rfl
  | succ d => unfold allGo; rw [if_neg hi]

def mrow : List AM → List Value → List Value
  | [], _ => []
  | m :: l, us => [.int .i64 m.f, .int .i64 m.t, us.headD .nilFunc] ++ mrow l us.tail
theorem mrow_snoc : ∀ (l : List AM) (us : List Value) (m : AM) (u : Value), us.length = l.length → mrow (l ++ [m]) (us ++ [u]) = mrow l us ++ [.int .i64 m.f, .int .i64 m.t, u]
  | [], [], m, u, _ => by simp [mrow]
  | [], _ :: _, _, _, h => by cases h
  | _ :: _, [], _, _, h => by cases h
  | a :: l, b :: us, m, u, h => by
    simp only [List.cons_append, mrow, List.headD_cons, List.tail_cons, List.append_assoc]
    rw [mrow_snoc l us m u (by simpa using h)]
theorem mrow_get : ∀ (l : List AM) (us : List Value) (k : Nat), k < l.length → (mrow l us)[k * 3]? = some (.int .i64 (l.getD k zeroAM).f) ∧ (mrow l us)[k * 3 + 1]? = some (.int .i64 (l.getD k zeroAM).t) ∧ (mrow l us)[k * 3 + 2]? = some (us.getD k .nilFunc)
  | [], _, _, h => by cases h
  | m :: l, us, 0, _ => by cases us <;> simp [mrow]
  | m :: l, us, k + 1, h => by
    have := mrow_get l us.tail k (by simpa using h)
    have e : (k + 1) * 3 = k * 3 + 3 := by omega
    simp only [mrow, e]
    have g : ∀ j, ([Value.int .i64 m.f, .int .i64 m.t, us.headD .nilFunc] ++ mrow l us.tail)[j + 3]? = (mrow l us.tail)[j]? := fun j => by rw [List.getElem?_append_right (by simp)]; simp
    refine ⟨by rw [g]; exact this.1, ?_, ?_⟩
    · rw [show k * 3 + 3 + 1 = k * 3 + 1 + 3 by omega, g]; exact this.2.1
    · rw [show k * 3 + 3 + 2 = k * 3 + 2 + 3 by omega, g, this.2.2]; cases us <;> rfl
/-- A slice of matches, all of it in blocks from base on. -/
structure MatchesV (w : World) (base : Nat) (v : Value) (l : List AM) (us : List Value) : Prop where
  len : us.length = l.length
  own : w.ownsRow base 29 3 v l.length (mrow l us)
  caps : ∀ k, k < l.length → CapsV w base (us.getD k .nilFunc) (l.getD k zeroAM).caps
  sep : ∀ k, k < l.length → ∀ g, v.ownBlock = some g → (us.getD k .nilFunc).ownBlock ≠ some g
theorem MatchesV.nil (w : World) (base : Nat) : MatchesV w base (.slice none 0 0) [] [] := ⟨rfl, World.ownsRow_nil _ _ _ _, (fun k h => by cases h), (fun k h => by cases h)⟩
theorem MatchesV.keep {w w' : World} {base : Nat} {v : Value} {l : List AM} {us : List Value} (h : MatchesV w base v l us) (hk : ∀ b, base ≤ b → b < w.heap.size → w'.heap[b]? = w.heap[b]?) : MatchesV w' base v l us :=
  ⟨h.len, ownsRow_keep h.own (fun g hg => hk g (ownBlock_lt h.own hg).1 (ownBlock_lt h.own hg).2), fun k hk' => ownsRow_keep (h.caps k hk') (fun g hg => hk g (ownBlock_lt (h.caps k hk') hg).1 (ownBlock_lt (h.caps k hk') hg).2), h.sep⟩
theorem MatchesV.push {w w2 : World} {base : Nat} {v v' : Value} {l : List AM} {us : List Value} (h : MatchesV w base v l us) {m : AM} {u : Value} (hu : CapsV w base u m.caps) (hus : ∀ g, v.ownBlock = some g → u.ownBlock ≠ some g)
    (hown : w2.ownsRow base 29 3 v' (l.length + 1) (mrow l us ++ [.int .i64 m.f, .int .i64 m.t, u])) (hg : w.grownBy w2 v.ownBlock) (hat : v'.ownBlock = v.ownBlock ∨ ∃ z, w.heap.size ≤ z ∧ v'.ownBlock = some z) : MatchesV w2 base v' (l ++ [m]) (us ++ [u]) := by
  have hl := h.len
  have row : ∀ k, k < l.length + 1 → (k < l.length ∧ (us ++ [u]).getD k .nilFunc = us.getD k .nilFunc ∧ (l ++ [m]).getD k zeroAM = l.getD k zeroAM) ∨ ((us ++ [u]).getD k .nilFunc = u ∧ (l ++ [m]).getD k zeroAM = m) := fun k hk => by
    by_cases hlt : k < l.length
    · exact .inl ⟨hlt, getD_left _ _ _ _ (by omega), getD_left _ _ _ _ hlt⟩
    · obtain rfl : l.length = k := by omega
      exact .inr ⟨by rw [← hl]; exact getD_last _ _ _, getD_last _ _ _⟩
  have keepC : ∀ {x : Value} {c : List (Int × Int)}, CapsV w base x c → (∀ g, v.ownBlock = some g → x.ownBlock ≠ some g) → CapsV w2 base x c := fun hx hsep => ownsRow_keep hx (fun g hg' => hg.block g (ownBlock_lt hx hg').2 (fun e => hsep g e.symm hg'))
  have sepN : ∀ {x : Value} {c : List (Int × Int)}, CapsV w base x c → (∀ g, v.ownBlock = some g → x.ownBlock ≠ some g) → ∀ g, v'.ownBlock = some g → x.ownBlock ≠ some g := fun hx hsep g hg' e => by
    rcases hat with h1 | ⟨z, hz, h1⟩
    · exact hsep g (h1.symm.trans hg') e
    · rw [h1] at hg'; injection hg' with hg'; subst hg'
      have := (ownBlock_lt hx e).2; omega
  refine ⟨by simp [hl], ?_, fun k hk => ?_, fun k hk => ?_⟩
  · rw [mrow_snoc l us m u hl]
    simpa using hown
  · rcases row k (by simpa using hk) with ⟨hlt, e1, e2⟩ | ⟨e1, e2⟩
    · rw [e1, e2]; exact keepC (h.caps k hlt) (h.sep k hlt)
    · rw [e1, e2]; exact keepC hu hus
  · rcases row k (by simpa using hk) with ⟨hlt, e1, _⟩ | ⟨e1, _⟩
    · rw [e1]; exact sepN (h.caps k hlt) (h.sep k hlt)
    · rw [e1]; exact sepN hu hus
def AllPost (w : World) (R : Except Nat (List AM)) (e : Ending) (w' : World) : Prop := Below w.heap.size w w' ∧
  match R with
  | .error c => e = .returned (.tuple #[.slice none 0 0, .int .i64 (c : Int)])
  | .ok l => ∃ ao cap us, e = .returned (.tuple #[.slice ao l.length cap, .int .i64 0]) ∧ MatchesV w' w.heap.size (.slice ao l.length cap) l us
theorem all_err {w w' : World} {R : Except Nat (List AM)} {c : Nat} (hR : R = .error c) (hb : Below w.heap.size w w') : AllPost w R (.returned (.tuple #[.slice none 0 0, .int .i64 (c : Int)])) w' := by subst hR; exact ⟨hb, rfl⟩
theorem MatchesV.slice {w : World} {base : Nat} {v : Value} {l : List AM} {us : List Value} (h : MatchesV w base v l us) : ∃ ao cap, v = .slice ao l.length cap := by
  rcases h.own.2 with ⟨hv, hn⟩ | ⟨g, cap, cur, hv, _⟩
  · exact ⟨none, 0, by rw [hv, hn]⟩
  · exact ⟨_, _, hv⟩
theorem MatchesV.base {w : World} {b b' : Nat} {v : Value} {l : List AM} {us : List Value} (h : MatchesV w b v l us) (hb : b' ≤ b) : MatchesV w b' v l us := ⟨h.len, ownsRow_base h.own hb, fun k hk => ownsRow_base (h.caps k hk) hb, h.sep⟩
theorem all_ok {w w' : World} {R : Except Nat (List AM)} {l : List AM} {v : Value} {us : List Value} (hR : R = .ok l) (hb : Below w.heap.size w w') (h : MatchesV w' w.heap.size v l us) : AllPost w R (.returned (.tuple #[v, .int .i64 0])) w' := by
  subst hR
  obtain ⟨ao, cap, rfl⟩ := h.slice
  exact ⟨hb, ao, cap, us, rfl, h⟩
def AllRel (E : MEnv) (len B : Nat) (run : Nat → Nat → MR) (anc : Bool) (R : Except Nat (List AM)) (gg : Nat) (vo vl vi : Value) (wr : World) : Prop :=
  ∃ (d i : Nat) (last : Int) (n : Nat) (cs : List ACap) (acc : List AM) (us : List Value), d = gg ∧ vl = .int .i64 last ∧ vi = .int .i64 (i : Int) ∧ i ≤ len + 1 ∧ MSt E wr n cs ∧ n ≤ maxSteps ∧ B ≤ wr.heap.size ∧ MatchesV wr B vo acc us ∧
    acc.length + d ≤ 2 * len + 4 ∧ allFuel len i last ≤ d ∧ allGo run anc len d i last n acc = R
/-- An append to a row of the call's own leaves the matcher. -/
theorem MSt.grownRow {E : MEnv} {w w' : World} {n : Nat} {cs : List ACap} (h : MSt E w n cs) {r : Option Nat} (hg : w.grownBy w' r) (hr : ∀ g, r = some g → E.w0.heap.size ≤ g ∧ g ≠ E.mb ∧ g ≠ E.nb ∧ g ≠ E.cb) : MSt E w' n cs := by
  have lt : ∀ {b : Nat} {o : Obj}, w.heap[b]? = some o → b < w.heap.size := fun h => (Array.getElem?_eq_some_iff.1 h).1
  refine ⟨h.below.trans ⟨hg.os, hg.tape, hg.output, hg.size, fun k hk => hg.block k (Nat.lt_of_lt_of_le hk h.below.size) (fun e => by have := (hr k e.symm).1; omega)⟩, ?_, ?_, ?_, h.cl⟩
  · rw [hg.block _ (lt h.hm) (fun e => (hr _ e.symm).2.1 rfl)]; exact h.hm
  · rw [hg.block _ (lt h.hn) (fun e => (hr _ e.symm).2.2.1 rfl)]; exact h.hn
  · rw [hg.block _ (lt h.hc) (fun e => (hr _ e.symm).2.2.2 rfl)]; exact h.hc
end Go.Proofs.YtpbhncmaamedhaaDoor
