import Derived.Test.YtpbhncmaamedhaaDoorMaI
namespace Go.Proofs.YtpbhncmaamedhaaDoor
open Go.RowKit Go.Proofs.Lexi

theorem rowOf_get : ∀ (l : List Item) (vs : List Value) (j k : Nat) (hj : j < l.length), k < 6 → (rowOf l vs)[j * 6 + k]? = (itemCells l[j] (vs.getD j .nilFunc))[k]?
  | [], _, _, _, h, _ => by cases h
  | it :: l, vs, 0, k, _, hk => by
    simp only [rowOf, Nat.zero_mul, Nat.zero_add]
    rw [List.getElem?_append_left (by simp [itemCells]; omega)]
    cases vs <;> rfl
  | it :: l, vs, j + 1, k, h, hk => by
    have := rowOf_get l vs.tail j k (by simpa using h) hk
    simp only [rowOf, List.getElem_cons_succ]
    rw [List.getElem?_append_right (by simp [itemCells]; omega)]
    have e : (j + 1) * 6 + k - (itemCells it (vs.headD .nilFunc)).length = j * 6 + k := by simp [itemCells]; omega
    rw [e, this]
    cases vs <;> rfl
def itemAt (E : MEnv) (j : Nat) : Item := E.items.getD j ⟨0, 0, 0, 0, noSet, 0⟩
theorem itemAt_eq (E : MEnv) (j : Nat) (h : j < E.items.length) : itemAt E j = E.items[j] := by simp [itemAt, List.getD_eq_getElem?_getD, h]
/-- The row of items: its block, and an item's cells in every later world. -/
theorem MOK.row {E : MEnv} (ok : MOK E) {j : Nat} (hj : j < E.items.length) : ∃ g cap, E.vi = .slice (some ⟨g, 0, none⟩) E.items.length cap ∧ g < E.w0.heap.size ∧
    ∀ w n cs, MSt E w n cs → ∀ k, k < 6 → w.cell? ⟨g, j * 6 + k, none⟩ = (itemCells (itemAt E j) (E.vs.getD j .nilFunc))[k]? := by
  obtain ⟨A, ho, _⟩ := ok.A
  obtain ⟨g, cap, hv⟩ := slice_shape ho (by omega)
  have hg := ownBlock_lt ho (g := g) (by rw [hv]; rfl)
  refine ⟨g, cap, hv, hg.2, fun w n cs h k hk => ?_⟩
  rw [hv] at ho
  rw [h.below.cell (p := ⟨g, j * 6 + k, none⟩) hg.2, ho.cellAt _ (by omega), itemAt_eq E j hj]
  exact rowOf_get _ _ _ _ hj hk
theorem MOK.pred {E : MEnv} (ok : MOK E) {j : Nat} (hj : j < E.items.length) (hs : (itemAt E j).sets = true) {w : World} (hb : Below E.w0.heap.size E.w0 w) : PredOf w (E.vs.getD j .nilFunc) (itemAt E j).one := by
  obtain ⟨A, _, hi⟩ := ok.A
  have := hi j hj
  rw [← itemAt_eq E j hj] at this
  unfold ItemOK at this
  rw [if_pos hs] at this
  obtain ⟨lo, hi, _, h2, _, h4⟩ := this
  exact h4 w fun b _ hb' => hb.block b (by omega)

set_option maxHeartbeats 400000 in
theorem spend_c {E : MEnv} (_ok : MOK E) {w : World} {n : Nat} {cs : List ACap} (h : MSt E w n cs) (hn : n ≤ 1000000) : Calls Tryd.prog 52 #[.int .i64 1, .pointer (some ⟨E.nb, 0, none⟩)] w fun e w' =>
    e = .returned (.bool (decide (n + 1 ≤ maxSteps))) ∧ w' = w.setCell ⟨E.nb, 0, none⟩ (.int .i64 ((n : Int) + 1)) := by
  have h1 : w.cell? ⟨E.nb, 0, none⟩ = some (.int .i64 n) := by rw [cell_of_heap h.hn]; rfl
  have h2 := (h.fz 0).2
  go_enter Tryd.func52, Tryd.ntmps52
  go_wp2
  all_goals (go_ret; exact ⟨ret_bool (by rw [Bool.eq_iff_iff]; simp [maxSteps]; omega), rfl⟩)
set_option maxHeartbeats 400000 in
theorem over_c {E : MEnv} {w : World} {n : Nat} {cs : List ACap} (h : MSt E w n cs) : Calls Tryd.prog 53 #[.pointer (some ⟨E.nb, 0, none⟩)] w fun e w' =>
    e = .returned (.bool (decide (maxSteps < n))) ∧ w = w' := by
  have h1 : w.cell? ⟨E.nb, 0, none⟩ = some (.int .i64 n) := by rw [cell_of_heap h.hn]; rfl
  clear h
  go_enter Tryd.func53, Tryd.ntmps53
  go_wp2
  all_goals (go_ret; exact ⟨ret_bool (decide_eq_decide.2 (by unfold maxSteps; omega)), rfl⟩)

theorem belongs_no (p : ByteArray) (S : Nat → Bool) (i : Nat) (h : p.size ≤ i) : belongsM (bytesOf p) S i = false := by unfold belongsM; rw [bytesOf_end p i h]
theorem belongs_yes (p : ByteArray) (S : Nat → Bool) (i : Nat) (h : i < p.size) : belongsM (bytesOf p) S i = S p[i].toNat := by unfold belongsM; rw [bytesOf_drop p i h]
set_option maxRecDepth 100000 in
set_option maxHeartbeats 1000000 in
theorem belongs_c {E : MEnv} (ok : MOK E) {j : Nat} (hj : j < E.items.length) (hs : (itemAt E j).sets = true) {w : World} {n : Nat} {cs : List ACap} (h : MSt E w n cs) (a b : Int) (i : Nat) (ha : a = j) (hb : b = i) :
    Calls Tryd.prog 94 #[.pointer (some ⟨E.mb, 0, none⟩), .int .i64 a, .int .i64 b] w fun e w' => e = .returned (.bool (belongsM (bytesOf E.s) (itemAt E j).one i)) ∧ w' = w.drew := by
  subst ha hb
  obtain ⟨g, cap, hv, hg, hcell⟩ := ok.row hj
  have m0 : w.cell? ⟨E.mb, 0, none⟩ = some (.slice (some ⟨g, 0, none⟩) E.items.length cap) := by rw [cell_of_heap h.hm, hv]; rfl
  have m4 : w.cell? ⟨E.mb, 4, none⟩ = some (.string E.s) := by rw [cell_of_heap h.hm]; rfl
  have hl := ok.len
  have hsl := ok.sl
  by_cases hi : i < E.s.size
  · have hB := Lib.hid (belongs_yes E.s (itemAt E j).one i hi)
    obtain ⟨f, caps, hval, hcf, hp⟩ := ok.pred hj hs h.drew.below
    have HP := Lib.hid (hp E.s[i].toNat (UInt8.toNat_lt _))
    have c4 : w.cell? ⟨g, j * 6 + 4, none⟩ = some (.func (.func f) #[] caps) := by rw [hcell w n cs h 4 (by omega), ← hval]; rfl
    clear hv hcell hval hp h hs
    go_enter Tryd.func94, Tryd.ntmps94
    go_wp2
    refine wp_region_lex mixed (by kernel_rfl) ?_
    go_wp2_with fail
    refine HP.out.mono ?_
    rintro e w' ⟨rfl, rfl⟩
    go_wp2
    refine ⟨by kernel_rfl, ?_⟩
    go_wp2
    go_ret
    exact ⟨ret_bool (by rw [hB.out]), rfl⟩
  · have hB := Lib.hid (belongs_no E.s (itemAt E j).one i (by omega))
    have hd : decide ((i : Int) < (E.s.size : Int)) = false := by simp; omega
    clear hv hcell h hs
    go_enter Tryd.func94, Tryd.ntmps94
    go_wp2
    refine wp_region_lex mixed (by kernel_rfl) ?_
    go_wp2
    refine ⟨by kernel_rfl, ?_⟩
    go_wp2
    go_ret
    exact ⟨ret_bool (by rw [hB.out]), rfl⟩

/-- All blocks but the counter's and the captures' are as they were. -/
structure Fr (E : MEnv) (w w' : World) : Prop where
  size : w.heap.size ≤ w'.heap.size
  block : ∀ b, b < w.heap.size → b ≠ E.nb → b ≠ E.cb → w'.heap[b]? = w.heap[b]?
theorem Fr.refl (E : MEnv) (w : World) : Fr E w w := ⟨Nat.le_refl _, fun _ _ _ _ => rfl⟩
theorem Fr.trans {E : MEnv} {a b c : World} (h : Fr E a b) (k : Fr E b c) : Fr E a c := ⟨Nat.le_trans h.size k.size, fun i hi h1 h2 => (k.block i (Nat.lt_of_lt_of_le hi h.size) h1 h2).trans (h.block i hi h1 h2)⟩
theorem Fr.below {E : MEnv} {w w' : World} (hb : Below w.heap.size w w') : Fr E w w' := ⟨hb.size, fun b hlt _ _ => hb.block b hlt⟩
theorem Fr.drew {E : MEnv} {w w' : World} (h : Fr E w w') : Fr E w w'.drew := ⟨h.size, h.block⟩
theorem Fr.setn {E : MEnv} {w w' : World} (h : Fr E w w') (k : Nat) (v : Value) : Fr E w (w'.setCell ⟨E.nb, k, none⟩ v) := ⟨by simpa using h.size, fun b hb h1 h2 => by rw [Below.heap_setCell _ _ _ _ h1]; exact h.block b hb h1 h2⟩
theorem Fr.setc {E : MEnv} {w w' : World} (h : Fr E w w') (k : Nat) (v : Value) : Fr E w (w'.setCell ⟨E.cb, k, none⟩ v) := ⟨by simpa using h.size, fun b hb h1 h2 => by rw [Below.heap_setCell _ _ _ _ h2]; exact h.block b hb h1 h2⟩
/-- What a call that matches leaves: over the limit, or what the model says. -/
def MPost (E : MEnv) (w : World) (R : MR) (e : Ending) (w' : World) : Prop := Fr E w w' ∧
  match R with
  | none => ∃ (x : Int) (n : Nat) (cs : List ACap), e = .returned (.tuple #[.int .i64 x, .bool false]) ∧ maxSteps < n ∧ n ≤ maxSteps + 1 ∧ MSt E w' n cs
  | some (some k, (n, cs)) => e = .returned (.tuple #[.int .i64 (k : Int), .bool true]) ∧ n ≤ maxSteps ∧ k ≤ E.s.size ∧ MSt E w' n cs
  | some (none, (n, cs)) => ∃ x : Int, e = .returned (.tuple #[.int .i64 x, .bool false]) ∧ n ≤ maxSteps ∧ MSt E w' n cs
/-- What the captures are at item j. -/
def CapW (E : MEnv) (j i : Nat) (cs : List ACap) : Prop := CapInv E.K (stEnd st0 (E.items.take j)) 0 i cs
/-- The contract of match from item j on. -/
def MatchOK (E : MEnv) (j : Nat) : Prop := ∀ (w : World) (n : Nat) (cs : List ACap) (a b : Int) (i : Nat), MSt E w n cs → n ≤ maxSteps → i ≤ E.s.size → CapW E j i cs → a = j → b = i →
  Calls Tryd.prog 54 #[.pointer (some ⟨E.mb, 0, none⟩), .int .i64 a, .int .i64 b] w (MPost E w (matchM (bytesOf E.s) E.fin (E.items.drop j) i (n, cs)))
/-- What matches the items behind j. -/
def nextM (E : MEnv) (j : Nat) : Nat → MS → MR := matchM (bytesOf E.s) E.fin (E.items.drop (j + 1))
theorem next_same {E : MEnv} (hwf : WfItems E.K st0 E.items) {j i n n' : Nat} {cs cs' : List ACap} (hi : i ≤ E.s.size) (hc : CapW E (j + 1) i cs) (h : nextM E j i (n, cs) = some (none, (n', cs'))) : cs = cs' := by
  have hw : WfItems E.K (stEnd st0 (E.items.take (j + 1))) (E.items.drop (j + 1)) := WfItems.drop (a := E.items.take (j + 1)) (by rw [List.take_append_drop]; exact hwf)
  exact ((Gd.match_ (bytesOf E.s) E.fin E.K 0 _ _ i cs hw (by rw [bytesOf_length]; exact hi) (Nat.zero_le _) hc n none n' cs' h).2.2.1 rfl).symm
theorem mp_no {E : MEnv} {w w' : World} {R : MR} {x : Int} {n : Nat} {cs : List ACap} (hR : R = some (none, (n, cs))) (hf : Fr E w w') (hn : n ≤ maxSteps) (h : MSt E w' n cs) : MPost E w R (.returned (.tuple #[.int .i64 x, .bool false])) w' := by
  subst hR; exact ⟨hf, x, rfl, hn, h⟩
theorem mp_yes {E : MEnv} {w w' : World} {R : MR} {k : Nat} {n : Nat} {cs : List ACap} (hR : R = some (some k, (n, cs))) (hf : Fr E w w') (hn : n ≤ maxSteps) (hk : k ≤ E.s.size) (h : MSt E w' n cs) : MPost E w R (.returned (.tuple #[.int .i64 (k : Int), .bool true])) w' := by
  subst hR; exact ⟨hf, rfl, hn, hk, h⟩
theorem mp_over {E : MEnv} {w w' : World} {R : MR} {x : Int} {n : Nat} {cs : List ACap} (hR : R = none) (hf : Fr E w w') (h1 : maxSteps < n) (h2 : n ≤ maxSteps + 1) (h : MSt E w' n cs) : MPost E w R (.returned (.tuple #[.int .i64 x, .bool false])) w' := by
  subst hR; exact ⟨hf, x, n, cs, rfl, h1, h2, h⟩

set_option maxRecDepth 100000 in
set_option maxHeartbeats 2000000 in
theorem keep_c {E : MEnv} (ok : MOK E) {j : Nat} (hj : j < E.items.length) (hm : MatchOK E (j + 1)) {w : World} {n : Nat} {cs : List ACap} (h : MSt E w n cs) (hn : n ≤ maxSteps) (a b : Int) (i : Nat) (hi : i ≤ E.s.size) (ha : a = j) (hb : b = i) (k : Nat) (hk : k < E.K) (c : ACap) (t : Int) (ht : t = if c.o then 0 else c.t) (hco : CapW E (j + 1) i (cs.set k c)) :
    Calls Tryd.prog 69 #[.pointer (some ⟨E.mb, 0, none⟩), .int .i64 a, .int .i64 b, .int .i64 k, .agg #[.int .i64 c.f, .int .i64 t]] w (MPost E w (keepM k c (nextM E j i) (n, cs))) := by
  subst ha hb
  have m5 : w.cell? ⟨E.mb, 5, none⟩ = some (.slice (some ⟨E.cb, 0, none⟩) E.K E.K) := by rw [cell_of_heap h.hm]; rfl
  obtain ⟨c1, c2⟩ := h.capf k hk
  obtain ⟨f0, hf0⟩ : ∃ f0, f0 = (cs.getD k zeroCap).f := ⟨_, rfl⟩
  obtain ⟨t0, ht0⟩ : ∃ t0, t0 = if (cs.getD k zeroCap).o then 0 else (cs.getD k zeroCap).t := ⟨_, rfl⟩
  rw [← hf0] at c1
  rw [← ht0] at c2
  have f1 := (h.fz (k * 2)).1
  have f2 := (h.fz (k * 2 + 1)).1
  have hl := ok.len
  have hsl := ok.sl
  have hmb : E.mb < w.heap.size := (Array.getElem?_eq_some_iff.1 h.hm).1
  have hcb : E.cb < w.heap.size := (Array.getElem?_eq_some_iff.1 h.hc).1
  have hnb : E.nb < w.heap.size := (Array.getElem?_eq_some_iff.1 h.hn).1
  have hkk := ok.kk
  have D2 := ok.d2
  have hW := ((h.setc ok k hk c).grow (below2 _ (.cells #[.int .i64 c.f, .int .i64 t] 43) (.cells #[.int .i64 f0, .int .i64 t0] 43)))
  rw [← ht] at hW
  have hF : Fr E w ((((w.setCell ⟨E.cb, k * 2, none⟩ (.int .i64 c.f)).setCell ⟨E.cb, k * 2 + 1, none⟩ (.int .i64 t)).alloc (.cells #[.int .i64 c.f, .int .i64 t] 43)).alloc (.cells #[.int .i64 f0, .int .i64 t0] 43)).drew :=
    (((Fr.refl E w).setc _ _).setc _ _).trans (Fr.below (below2 _ _ _))
  have hwas := heap2_b ((w.setCell ⟨E.cb, k * 2, none⟩ (.int .i64 c.f)).setCell ⟨E.cb, k * 2 + 1, none⟩ (.int .i64 t)) (.cells #[.int .i64 c.f, .int .i64 t] 43) (.cells #[.int .i64 f0, .int .i64 t0] 43)
  simp only [World.size_setCell] at hwas
  have HW := Lib.hid hW
  have HF := Lib.hid hF
  have HWAS := Lib.hid hwas
  have HF0 := Lib.hid hf0
  have HT0 := Lib.hid ht0
  have HE := Lib.hid (show keepM k c (nextM E j i) (n, cs) = match nextM E j i (n, cs.set k c) with | none => none | some (some e, st') => some (some e, st') | some (none, st') => some (none, (st'.1, st'.2.set k (cs.getD k zeroCap))) from rfl)
  clear h ht hW hF hwas hf0 ht0
  go_enter Tryd.func69, Tryd.ntmps69
  go_wp2
  refine wp_region_lex mixed (by kernel_rfl) ?_
  go_wp2
  refine ⟨by kernel_rfl, ?_⟩
  go_wp2_with fail
  refine (hm _ n (cs.set k c) _ _ i HW.out hn hi hco (by omega) rfl).mono ?_
  rintro e w1 ⟨hF1, hp⟩
  have hs1 := hF1.size
  simp at hs1
  have hwas1 : w1.heap[w.heap.size + 1]? = some (.cells #[.int .i64 f0, .int .i64 t0] 43) := (hF1.block (w.heap.size + 1) (by simp) (by omega) (by omega)).trans HWAS.out
  have b0 : w1.cell? ⟨w.heap.size + 1, 0, none⟩ = some (.int .i64 f0) := by rw [cell_of_heap hwas1]; rfl
  have b1 : w1.cell? ⟨w.heap.size + 1, 1, none⟩ = some (.int .i64 t0) := by rw [cell_of_heap hwas1]; rfl
  have HF1 := Lib.hid (HF.out.trans hF1)
  have HEQ := HE.out
  have restore : ∀ n' cs', MSt E w1 n' cs' → MSt E ((w1.setCell ⟨E.cb, k * 2, none⟩ (.int .i64 f0)).setCell ⟨E.cb, k * 2 + 1, none⟩ (.int .i64 t0)).drew n' (cs'.set k (cs.getD k zeroCap)) := fun n' cs' h => by
    have := h.setc ok k hk (cs.getD k zeroCap)
    rw [← HF0.out, ← HT0.out] at this
    exact this.drew
  have HRS := Lib.hid restore
  clear hwas1 hF1 restore
  cases hr : matchM (bytesOf E.s) E.fin (E.items.drop (j + 1)) i (n, cs.set k c) with
  | none =>
    rw [hr] at hp
    rw [show nextM E j i (n, cs.set k c) = none from hr] at HEQ
    obtain ⟨x, n', cs', rfl, hn1, hn2, h1⟩ := hp
    have HQ := Lib.hid HEQ
    have p5 : w1.cell? ⟨E.mb, 5, none⟩ = some (.slice (some ⟨E.cb, 0, none⟩) E.K E.K) := by rw [cell_of_heap h1.hm]; rfl
    obtain ⟨g1, g2⟩ := h1.capf k hk
    have y1 := (h1.fz (k * 2)).1
    have y2 := (h1.fz (k * 2 + 1)).1
    obtain ⟨v1, hv1⟩ : ∃ v, v = (cs'.getD k zeroCap).f := ⟨_, rfl⟩
    obtain ⟨v2, hv2⟩ : ∃ v, v = if (cs'.getD k zeroCap).o then 0 else (cs'.getD k zeroCap).t := ⟨_, rfl⟩
    rw [← hv1] at g1
    rw [← hv2] at g2
    have HR := Lib.hid (HRS.out n' cs' h1)
    clear hr HEQ h1 hv1 hv2
    go_wp2
    refine wp_region_lex mixed (by kernel_rfl) ?_
    go_wp2
    refine ⟨by kernel_rfl, ?_⟩
    go_wp2
    go_ret2
    exact mp_over HQ.out ((HF1.out.setc _ _).setc _ _).drew hn1 hn2 HR.out
  | some q =>
    obtain ⟨o, n', cs'⟩ := q
    rw [hr] at hp
    rw [show nextM E j i (n, cs.set k c) = some (o, (n', cs')) from hr] at HEQ
    cases o with
    | some e =>
      obtain ⟨rfl, hn1, hk1, h1⟩ := hp
      have HQ := Lib.hid HEQ
      have HR := Lib.hid h1
      clear hr HEQ h1
      go_wp2
      go_ret2
      exact mp_yes HQ.out HF1.out hn1 hk1 HR.out
    | none =>
      obtain ⟨x, rfl, hn1, h1⟩ := hp
      have HQ := Lib.hid HEQ
      have p5 : w1.cell? ⟨E.mb, 5, none⟩ = some (.slice (some ⟨E.cb, 0, none⟩) E.K E.K) := by rw [cell_of_heap h1.hm]; rfl
      obtain ⟨g1, g2⟩ := h1.capf k hk
      have y1 := (h1.fz (k * 2)).1
      have y2 := (h1.fz (k * 2 + 1)).1
      obtain ⟨v1, hv1⟩ : ∃ v, v = (cs'.getD k zeroCap).f := ⟨_, rfl⟩
      obtain ⟨v2, hv2⟩ : ∃ v, v = if (cs'.getD k zeroCap).o then 0 else (cs'.getD k zeroCap).t := ⟨_, rfl⟩
      rw [← hv1] at g1
      rw [← hv2] at g2
      have HR := Lib.hid (HRS.out n' cs' h1)
      clear hr HEQ h1 hv1 hv2
      go_wp2
      refine wp_region_lex mixed (by kernel_rfl) ?_
      go_wp2
      refine ⟨by kernel_rfl, ?_⟩
      go_wp2
      go_ret2
      exact mp_no HQ.out ((HF1.out.setc _ _).setc _ _).drew hn1 HR.out
end Go.Proofs.YtpbhncmaamedhaaDoor
