import Derived.Test.YtpbhncmaamedhaaDoorEsc
namespace Go.Proofs.YtpbhncmaamedhaaDoor
open Go.RowKit Go.Proofs.Lexi

/-! Replace. -/
/-- Matches one behind the other, from at on. -/
def OrdM (len : Int) : Int → List AM → Prop
  | _, [] => True
  | at_, m :: r => at_ ≤ m.f ∧ m.f ≤ m.t ∧ m.t ≤ len ∧ OrdM len m.t r
theorem OrdM.snoc {len : Int} : ∀ {l : List AM} {a : Int} {m : AM} {b : Int}, OrdM len a l → (∀ x, l.getLast? = some x → x.t ≤ b) → (l = [] → a ≤ b) → b ≤ m.f → m.f ≤ m.t → m.t ≤ len → OrdM len a (l ++ [m])
  | [], a, m, b, _, _, h0, h1, h2, h3 => ⟨by have := h0 rfl; omega, h2, h3, trivial⟩
  | x :: l, a, m, b, h, hl, _, h1, h2, h3 => by
    refine ⟨h.1, h.2.1, h.2.2.1, OrdM.snoc h.2.2.2 (fun y hy => hl y ?_) (fun e => ?_) h1 h2 h3⟩
    · cases l with
      | nil => cases hy
      | cons z l => rw [List.getLast?_cons_cons]; exact hy
    · subst e; exact hl x rfl
theorem OrdM.take {len : Int} : ∀ {l : List AM} {a : Int} (n : Nat), OrdM len a l → OrdM len a (l.take n)
  | [], _, n, _ => by simp [OrdM]
  | _ :: _, _, 0, _ => trivial
  | m :: l, a, n + 1, h => ⟨h.1, h.2.1, h.2.2.1, OrdM.take n h.2.2.2⟩
theorem allGo_ord {l p : List Nat} {q : St × Bool × Bool} (hq : parseM p = .ok q) : ∀ (f i : Nat) (last : Int) (n : Nat) (acc ms : List AM), allGo (runP l q) q.2.1 l.length f i last n acc = .ok ms →
    OrdM l.length 0 acc → (∀ x, acc.getLast? = some x → x.t ≤ i) → acc.length + f ≤ 2 * l.length + 4 → OrdM l.length 0 ms ∧ ms.length ≤ 2 * l.length + 4
  | 0, i, last, n, acc, ms, h, ho, _, hl => by
    simp only [allGo] at h
    injection h with h; subst h; exact ⟨ho, by omega⟩
  | f + 1, i, last, n, acc, ms, h, ho, hx, hl => by
    unfold allGo at h
    split at h
    · rename_i hi
      split at h
      · cases h
      · rename_i k n' cs hr
        have hb := run_bounds hq hi hr
        split at h
        · split at h
          · injection h with h; subst h; exact ⟨ho, by omega⟩
          · exact allGo_ord hq f (i + 1) last n' acc ms h ho (fun x e => by have := hx x e; omega) (by omega)
        · have ho' : OrdM l.length 0 (acc ++ [⟨i, k, cs.map capV⟩]) := ho.snoc (b := (i : Int)) hx (fun _ => by omega) (Int.le_refl _) (by show (i : Int) ≤ (k : Int); omega) (by show (k : Int) ≤ _; omega)
          split at h
          · injection h with h; subst h; exact ⟨ho', by simp; omega⟩
          · exact allGo_ord hq f k k n' _ ms h ho' (fun x e => by simp at e; subst e; exact Int.le_refl _) (by simp; omega)
      · split at h
        · injection h with h; subst h; exact ⟨ho, by omega⟩
        · exact allGo_ord hq f (i + 1) last _ acc ms h ho (fun x e => by have := hx x e; omega) (by omega)
    · injection h with h; subst h; exact ⟨ho, by omega⟩
theorem allM_ord {l p : List Nat} {ms : List AM} (h : allM l p = .ok ms) : OrdM l.length 0 ms ∧ ms.length ≤ 2 * l.length + 4 := by
  unfold allM at h
  split at h
  · cases h
  · rename_i q hq
    exact allGo_ord hq _ _ _ _ _ _ h trivial (fun x e => by cases e) (by unfold allFuel; simp; omega)
theorem allM_err {l p : List Nat} {c : Nat} (h : allM l p = .error c) : c = 3 ∨ c = 4 := by
  have go : ∀ (run : Nat → Nat → MR) (anc : Bool) (len f i : Nat) (last : Int) (n : Nat) (acc : List AM), allGo run anc len f i last n acc = .error c → c = 3 := by
    intro run anc len f
    induction f with
    | zero => intro i last n acc h; simp [allGo] at h
    | succ f ih =>
      intro i last n acc h
      unfold allGo at h
      split at h
      · split at h
        · injection h with h; exact h.symm
        · split at h
          · split at h
            · cases h
            · exact ih _ _ _ _ h
          · split at h
            · cases h
            · exact ih _ _ _ _ h
        · split at h
          · cases h
          · exact ih _ _ _ _ h
      · cases h
  unfold allM at h
  split at h
  · rename_i e he
    injection h with h; subst h
    exact parseM_err he
  · exact .inl (go _ _ _ _ _ _ _ _ h)
def replGo (l repl : List Nat) : List AM → Int → List Nat → Except Nat (List Nat)
  | [], at_, out => if 4096 < (out ++ l.drop at_.toNat).length then .error 14 else .ok (out ++ l.drop at_.toNat)
  | m :: r, at_, out =>
    match fillM l repl m with
    | .error e => .error e
    | .ok t => replGo l repl r m.t (out ++ subM l at_ m.f ++ t)
def cutM (most : Int) (ms : List AM) : List AM := if 0 ≤ most ∧ most < ms.length then ms.take most.toNat else ms
def replM (l p repl : List Nat) (most : Int) : Except Nat (List Nat × Nat) :=
  match allM l p with
  | .error e => .error e
  | .ok ms => (replGo l repl (cutM most ms) 0 []).map fun o => (o, (cutM most ms).length)
def ReplPost (w : World) (R : Except Nat (List Nat × Nat)) (e : Ending) (w' : World) : Prop := Below w.heap.size w w' ∧
  match R with
  | .error c => e = .returned (.tuple #[.string ⟨#[]⟩, .int .i64 0, .int .i64 (c : Int)])
  | .ok q => ∃ r, bytesOf r = q.1 ∧ e = .returned (.tuple #[.string r, .int .i64 (q.2 : Int), .int .i64 0])
theorem rep_err {w w' : World} {R : Except Nat (List Nat × Nat)} {c : Nat} (hR : R = .error c) (hb : Below w.heap.size w w') : ReplPost w R (.returned (.tuple #[.string ⟨#[]⟩, .int .i64 0, .int .i64 (c : Int)])) w' := by subst hR; exact ⟨hb, rfl⟩
theorem rep_ok {w w' : World} {R : Except Nat (List Nat × Nat)} {l : List Nat} {n : Nat} {r : ByteArray} (hR : R = .ok (l, n)) (hr : bytesOf r = l) (hb : Below w.heap.size w w') : ReplPost w R (.returned (.tuple #[.string r, .int .i64 (n : Int), .int .i64 0])) w' := by subst hR; exact ⟨hb, r, hr, rfl⟩
theorem fillGo_small {l : List Nat} {m : AM} : ∀ (k : Nat) (r out o : List Nat), r.length ≤ k → fillGo l m r out = .ok o → o.length ≤ 4096 := by
  intro k
  induction k with
  | zero =>
    intro r out o hr h
    cases r with
    | nil => unfold fillGo at h; split at h; cases h; injection h with h; subst h; omega
    | cons c r => simp at hr
  | succ k ih =>
    intro r out o hr h
    cases r with
    | nil => unfold fillGo at h; split at h; cases h; injection h with h; subst h; omega
    | cons c r =>
      rw [fillGo_cons] at h
      simp only [List.length_cons] at hr
      split at h
      · split at h
        · cases h
        · split at h
          · cases h
          · exact ih _ _ _ (by simp at hr; omega) h
      · exact ih _ _ _ (by omega) h
theorem fillM_small {l repl : List Nat} {m : AM} {o : List Nat} (h : fillM l repl m = .ok o) : o.length ≤ 4096 := by
  unfold fillM at h
  split at h
  · exact fillGo_small _ _ _ _ (Nat.le_refl _) h
  · cases h
theorem fillM_err {l repl : List Nat} {m : AM} {c : Nat} (h : fillM l repl m = .error c) : 1 ≤ c := by
  have go : ∀ (k : Nat) (r out : List Nat), r.length ≤ k → fillGo l m r out = .error c → 1 ≤ c := by
    intro k
    induction k with
    | zero =>
      intro r out hr h
      cases r with
      | nil => unfold fillGo at h; split at h; injection h with h; omega; cases h
      | cons c r => simp at hr
    | succ k ih =>
      intro r out hr h
      cases r with
      | nil => unfold fillGo at h; split at h; injection h with h; omega; cases h
      | cons c r =>
        rw [fillGo_cons] at h
        simp only [List.length_cons] at hr
        split at h
        · split at h
          · injection h with h; omega
          · split at h
            · injection h with h; omega
            · exact ih _ _ (by simp at hr; omega) h
        · exact ih _ _ (by omega) h
  unfold fillM at h
  split at h
  · exact go _ _ _ (Nat.le_refl _) h
  · injection h with h; omega
/-- One match of a slice of matches, read. -/
theorem MatchesV.read {w : World} {base : Nat} {ao : Option Addr} {n cap : Nat} {l : List AM} {us : List Value} (h : MatchesV w base (.slice ao n cap) l us) {k : Nat} (hk : k < l.length) :
    ∃ g ao' cap', ao = some ⟨g, 0, none⟩ ∧ g < w.heap.size ∧ us.getD k .nilFunc = .slice ao' (l.getD k zeroAM).caps.length cap' ∧ w.cell? ⟨g, k * 3, none⟩ = some (.int .i64 (l.getD k zeroAM).f) ∧ w.cell? ⟨g, k * 3 + 1, none⟩ = some (.int .i64 (l.getD k zeroAM).t) ∧ w.cell? ⟨g, k * 3 + 2, none⟩ = some (.slice ao' (l.getD k zeroAM).caps.length cap') ∧ CapsR w (.slice ao' (l.getD k zeroAM).caps.length cap') (l.getD k zeroAM).caps := by
  obtain ⟨ao', cap', hu⟩ := capsV_slice (h.caps k hk)
  rcases h.own.2 with ⟨_, hn⟩ | ⟨g, cp, cur, hv, hb, hh, hle, _, hsz, htk⟩
  · omega
  · injection hv with h1 h2 h3
    have := mrow_get l us k hk
    rw [← htk] at this
    rw [List.getElem?_take_of_lt (by omega), List.getElem?_take_of_lt (by omega), List.getElem?_take_of_lt (by omega)] at this
    refine ⟨g, ao', cap', h1, (Array.getElem?_eq_some_iff.1 hh).1, hu, ?_, ?_, ?_, by rw [← hu]; exact capsR_of (h.caps k hk)⟩
    · rw [cell_of_heap hh]; simpa using this.1
    · rw [cell_of_heap hh]; simpa using this.2.1
    · rw [cell_of_heap hh, ← hu]; simpa using this.2.2
def ReplRel (w1 : World) (s : ByteArray) (repl : List Nat) (ms : List AM) (R : Except Nat (List Nat)) (gg : Nat) (vk va : Value) (wr : World) : Prop := ∃ (k : Nat) (at_ : Nat) (out : List UInt8), gg = ms.length - k ∧ vk = .int .i64 (k : Int) ∧ va = .int .i64 (at_ : Int) ∧ k ≤ ms.length ∧ at_ ≤ s.size ∧ Below w1.heap.size w1 wr ∧
  Lib.IsBuilder 75 5 w1.heap.size w1.heap.size (Lib.byteCells out) wr ∧ out.length ≤ k * 20000 ∧ OrdM s.size at_ (ms.drop k) ∧ replGo (bytesOf s) repl (ms.drop k) at_ (natsOf out) = R
theorem drop_getD {l : List AM} {k : Nat} (h : k < l.length) : l.drop k = l.getD k zeroAM :: l.drop (k + 1) := by
  rw [List.drop_eq_getElem_cons h]; congr 1; simp [List.getD_eq_getElem?_getD, h]
theorem str_err_of {w w' : World} {R : Except Nat (List Nat)} {c : Nat} {e : Ending} (h : StrPost w R e w') (hR : R = .error c) : Below w.heap.size w w' ∧ e = .returned (.tuple #[.string ⟨#[]⟩, .int .i64 (c : Int)]) := by subst hR; exact h
theorem str_ok_of {w w' : World} {R : Except Nat (List Nat)} {l : List Nat} {e : Ending} (h : StrPost w R e w') (hR : R = .ok l) : Below w.heap.size w w' ∧ ∃ r, bytesOf r = l ∧ e = .returned (.tuple #[.string r, .int .i64 0]) := by subst hR; exact h
/-- A match that a run gives. -/
def RunAM (l : List Nat) (q : St × Bool × Bool) (m : AM) : Prop := ∃ (i n k n' : Nat) (cs : List ACap), i ≤ l.length ∧ runP l q i n = some (some k, (n', cs)) ∧ m = ⟨i, k, cs.map capV⟩
theorem allGo_mem {l : List Nat} {q : St × Bool × Bool} : ∀ (f i : Nat) (last : Int) (n : Nat) (acc ms : List AM), allGo (runP l q) q.2.1 l.length f i last n acc = .ok ms → (∀ m ∈ acc, RunAM l q m) → ∀ m ∈ ms, RunAM l q m
  | 0, i, last, n, acc, ms, h, ha => by
    simp only [allGo] at h
    injection h with h; subst h; exact ha
  | f + 1, i, last, n, acc, ms, h, ha => by
    unfold allGo at h
    split at h
    · rename_i hi
      split at h
      · cases h
      · rename_i k n' cs hr
        split at h
        · split at h
          · injection h with h; subst h; exact ha
          · exact allGo_mem f _ _ _ _ _ h ha
        · have ha' : ∀ m ∈ acc ++ [⟨i, k, cs.map capV⟩], RunAM l q m := fun m hm => by
            rw [List.mem_append] at hm
            rcases hm with hm | hm
            · exact ha m hm
            · simp at hm; subst hm; exact ⟨i, n, k, n', cs, hi, hr, rfl⟩
          split at h
          · injection h with h; subst h; exact ha'
          · exact allGo_mem f _ _ _ _ _ h ha'
      · split at h
        · injection h with h; subst h; exact ha
        · exact allGo_mem f _ _ _ _ _ h ha
    · injection h with h; subst h; exact ha
/-- What is known of a match: it lies in the string, its captures in it. -/
structure GoodAM (len : Nat) (m : AM) : Prop where
  n16 : m.caps.length ≤ 16
  f0 : 0 ≤ m.f
  ft : m.f ≤ m.t
  tl : m.t ≤ len
  cap : ∀ c ∈ m.caps, m.f ≤ c.1 ∧ c.1 ≤ m.t ∧ (c.2 = -1 ∨ (c.1 ≤ c.2 ∧ c.2 ≤ m.t))
theorem runAM_good {l p : List Nat} {q : St × Bool × Bool} (hq : parseM p = .ok q) {m : AM} (h : RunAM l q m) : GoodAM l.length m := by
  obtain ⟨i, n, k, n', cs, hi, hr, rfl⟩ := h
  obtain ⟨_, hst, h16, _, _⟩ := parseM_inv (s := q.1) (anc := q.2.1) (fin := q.2.2) hq
  obtain ⟨_, _, _, h4⟩ := run_good hq hi n (some k) n' cs hr
  obtain ⟨hik, hkl, _, hci⟩ := h4 k rfl
  refine ⟨by simp [hci.len, h16], by simp, by simp; omega, by simp; omega, fun c hc => ?_⟩
  simp only [List.mem_map] at hc
  obtain ⟨a, ha, rfl⟩ := hc
  obtain ⟨j, hj, rfl⟩ := List.getElem_of_mem ha
  have e : cs.getD j zeroCap = cs[j] := by simp [List.getD_eq_getElem?_getD, hj]
  rcases hst j (by rw [← hci.len]; exact hj) with h2 | h3
  · have := hci.c2 j h2
    rw [e] at this
    simp only [capV, this.1]
    refine ⟨this.2.1, by omega, .inr ⟨?_, ?_⟩⟩
    · simpa using this.2.2.1
    · simpa using this.2.2.2
  · have := hci.c3 j h3
    rw [e] at this
    simp only [capV, this.1]
    exact ⟨this.2.1, this.2.2.1, .inl (by simpa using this.2.2.2)⟩
theorem allM_good {l p : List Nat} {ms : List AM} (h : allM l p = .ok ms) : ∀ m ∈ ms, GoodAM l.length m := by
  unfold allM at h
  split at h
  · cases h
  · rename_i q hq
    exact fun m hm => runAM_good hq (allGo_mem _ _ _ _ _ _ h (fun m hm => by cases hm) m hm)
theorem GoodAM.right {len : Nat} {m : AM} (h : GoodAM len m) : rightM len m = true := by
  unfold rightM
  rw [Bool.and_eq_true, List.all_eq_true]
  have f0 := h.f0; have ft := h.ft; have tl := h.tl
  refine ⟨fun c hc => ?_, by unfold withinM; simp; omega⟩
  have := h.cap c hc
  unfold capOkM withinM
  rcases this.2.2 with h1 | h1
  · rw [Bool.or_eq_true]; right; simp [h1]; omega
  · rw [Bool.or_eq_true]; left; simp; omega
end Go.Proofs.YtpbhncmaamedhaaDoor
