import Derived.Test.YtpbhncmaamedhaaDoorRP2
import Derived.Test.YtpbhncmaamedhaaDoorMaF
namespace Go.Proofs.YtpbhncmaamedhaaDoor
open Go.RowKit Go.Proofs.Lexi

/-! The reference's matcher in memory. Of the environment, nb is the matcher's block, mb the pattern's. -/
def capPR (c : ACap) : List Value := [.int .i64 c.f, .int .i64 (if c.o then -2 else c.t)]
def capCellsR (cs : List ACap) : Array Value := (cs.flatMap capPR).toArray
structure RMSt (E : MEnv) (w : World) (n : Nat) (cs : List ACap) : Prop where
  below : Below E.w0.heap.size E.w0 w
  hm : w.heap[E.nb]? = some (.cells #[.string E.s, .pointer (some ⟨E.mb, 0, none⟩), .slice (some ⟨E.cb, 0, none⟩) E.K E.K, .int .i64 n] 70 (0, 0))
  hc : w.heap[E.cb]? = some (.cells (capCellsR cs) 43 (0, 0))
  cl : cs.length = E.K
structure RMOK (E : MEnv) : Prop where
  nb0 : E.w0.heap.size ≤ E.nb
  cb0 : E.w0.heap.size ≤ E.cb
  d3 : E.nb ≠ E.cb
  il : E.vs.length = E.items.length
  hp : ∃ vo vc vp, E.w0.heap[E.mb]? = some (.cells #[E.vi, .bool E.anc, .bool E.fin, .int .i64 E.K, vo, vc, vp] 68 (0, 0))
  A : ∃ A M, E.w0.ownsRow A 114 6 E.vi E.items.length (rowR E.items E.vs) ∧ ItemsR E.w0 A M E.items E.vs
  len : E.items.length ≤ 5000
  sl : E.s.size ≤ 100000000
  kk : E.K ≤ 16
section
variable {E : MEnv} {w w' w1 : World} {n : Nat} {cs : List ACap}
theorem RMSt.grow (h : RMSt E w n cs) (hb : Below w.heap.size w w') : RMSt E w' n cs := by
  have hx := below_ext hb (Nat.le_refl _)
  exact ⟨h.below.trans (hb.mono h.below.size), hx.get h.hm, hx.get h.hc, h.cl⟩
theorem RMSt.drew (h : RMSt E w n cs) : RMSt E w.drew n cs := h.grow (Below.refl _ _).drew
theorem RMSt.setn (ok : RMOK E) (h : RMSt E w n cs) (m : Nat) : RMSt E (w.setCell ⟨E.nb, 3, none⟩ (.int .i64 m)) m cs :=
  ⟨h.below.setCell ok.nb0 _, by rw [heap_setCell_same h.hm]; rfl, by rw [Below.heap_setCell _ _ _ _ (Ne.symm ok.d3)]; exact h.hc, h.cl⟩
theorem flatR_get : ∀ (cs : List ACap) (k : Nat), k < cs.length → (cs.flatMap capPR)[k * 2]? = some (.int .i64 (cs.getD k zeroCap).f) ∧ (cs.flatMap capPR)[k * 2 + 1]? = some (.int .i64 (if (cs.getD k zeroCap).o then -2 else (cs.getD k zeroCap).t))
  | [], k, h => by cases h
  | c :: cs, 0, _ => by simp [capPR]
  | c :: cs, k + 1, h => by
    have := flatR_get cs k (by simpa using h)
    simp only [List.flatMap_cons, capPR, List.cons_append, List.nil_append]
    have e1 : (k + 1) * 2 = k * 2 + 1 + 1 := by omega
    rw [e1]
    simpa using this
theorem flatR_set : ∀ (cs : List ACap) (k : Nat) (c : ACap), k < cs.length → ((cs.flatMap capPR).set (k * 2) (.int .i64 c.f)).set (k * 2 + 1) (.int .i64 (if c.o then -2 else c.t)) = (cs.set k c).flatMap capPR
  | [], k, c, h => by cases h
  | d :: cs, 0, c, _ => by simp [capPR]
  | d :: cs, k + 1, c, h => by
    have := flatR_set cs k c (by simpa using h)
    simp only [List.flatMap_cons, capPR, List.cons_append, List.nil_append, List.set_cons_succ]
    have e1 : (k + 1) * 2 = k * 2 + 1 + 1 := by omega
    rw [e1]
    simp only [List.set_cons_succ]
    rw [this]
theorem RMSt.capf (h : RMSt E w n cs) (k : Nat) (hk : k < E.K) : w.cell? ⟨E.cb, k * 2, none⟩ = some (.int .i64 (cs.getD k zeroCap).f) ∧ w.cell? ⟨E.cb, k * 2 + 1, none⟩ = some (.int .i64 (if (cs.getD k zeroCap).o then -2 else (cs.getD k zeroCap).t)) := by
  have := flatR_get cs k (by rw [h.cl]; exact hk)
  rw [cell_of_heap h.hc, cell_of_heap h.hc]
  simpa [capCellsR] using this
theorem RMSt.setc (ok : RMOK E) (h : RMSt E w n cs) (k : Nat) (hk : k < E.K) (c : ACap) : RMSt E ((w.setCell ⟨E.cb, k * 2, none⟩ (.int .i64 c.f)).setCell ⟨E.cb, k * 2 + 1, none⟩ (.int .i64 (if c.o then -2 else c.t))) n (cs.set k c) := by
  refine ⟨(h.below.setCell ok.cb0 _).setCell ok.cb0 _, ?_, ?_, by simpa using h.cl⟩
  · rw [Below.heap_setCell _ _ _ _ ok.d3, Below.heap_setCell _ _ _ _ ok.d3]; exact h.hm
  · rw [heap_setCell_same (heap_setCell_same h.hc _ _)]
    have := flatR_set cs k c (by rw [h.cl]; exact hk)
    unfold capCellsR
    rw [← this]
    simp
theorem RMSt.fz (h : RMSt E w n cs) (k : Nat) : w.frozen? ⟨E.cb, k, none⟩ = false ∧ w.frozen? ⟨E.nb, k, none⟩ = false := by
  simp [World.frozen?, h.hc, h.hm]
theorem rowR_get : ∀ (l : List Item) (vs : List Value) (j k : Nat) (hj : j < l.length), k < 6 → (rowR l vs)[j * 6 + k]? = (cellsR l[j] (vs.getD j (.slice none 0 0)))[k]?
  | [], _, _, _, h, _ => by cases h
  | it :: l, vs, 0, k, _, hk => by
    simp only [rowR, Nat.zero_mul, Nat.zero_add]
    rw [List.getElem?_append_left (by simp [cellsR]; omega)]
    cases vs <;> rfl
  | it :: l, vs, j + 1, k, h, hk => by
    have := rowR_get l vs.tail j k (by simpa using h) hk
    simp only [rowR, List.getElem_cons_succ]
    rw [List.getElem?_append_right (by simp [cellsR]; omega)]
    have e : (j + 1) * 6 + k - (cellsR it (vs.headD (.slice none 0 0))).length = j * 6 + k := by simp [cellsR]; omega
    rw [e, this]
    cases vs <;> rfl
theorem RMOK.row (ok : RMOK E) {j : Nat} (hj : j < E.items.length) : ∃ g cap, E.vi = .slice (some ⟨g, 0, none⟩) E.items.length cap ∧ g < E.w0.heap.size ∧
    ∀ w n cs, RMSt E w n cs → ∀ k, k < 6 → w.cell? ⟨g, j * 6 + k, none⟩ = (cellsR (itemAt E j) (E.vs.getD j (.slice none 0 0)))[k]? := by
  obtain ⟨A, M, ho, _⟩ := ok.A
  obtain ⟨g, cap, hv⟩ := slice_shape ho (by omega)
  have hg := ownBlock_lt ho (g := g) (by rw [hv]; rfl)
  refine ⟨g, cap, hv, hg.2, fun w n cs h k hk => ?_⟩
  rw [hv] at ho
  rw [h.below.cell (p := ⟨g, j * 6 + k, none⟩) hg.2, ho.cellAt _ (by omega), itemAt_eq E j hj]
  exact rowR_get _ _ _ _ hj hk
theorem RMOK.set (ok : RMOK E) {j : Nat} (hj : j < E.items.length) (hs : (itemAt E j).sets = true) : ∃ b, E.vs.getD j (.slice none 0 0) = .slice (some ⟨b, 0, none⟩) 256 256 ∧ ∀ w, Below E.w0.heap.size E.w0 w → RSet w b (itemAt E j).one := by
  obtain ⟨A, M, _, hi⟩ := ok.A
  have := hi j hj
  rw [← itemAt_eq E j hj] at this
  unfold ItemR at this
  rw [if_pos hs] at this
  obtain ⟨b, h1, _, _, h4⟩ := this
  exact ⟨b, h1, fun w hb => h4.ext (hb.block b h4.lt)⟩
theorem RMOK.noset (ok : RMOK E) {j : Nat} (hj : j < E.items.length) (hs : (itemAt E j).sets = false) : E.vs.getD j (.slice none 0 0) = .slice none 0 0 := by
  obtain ⟨A, M, _, hi⟩ := ok.A
  have := hi j hj
  rw [← itemAt_eq E j hj] at this
  unfold ItemR at this
  rw [if_neg (by rw [hs]; decide)] at this
  exact this
theorem RMOK.pat (ok : RMOK E) : E.mb < E.w0.heap.size ∧ ∀ w n cs, RMSt E w n cs → w.cell? ⟨E.mb, 0, none⟩ = some E.vi ∧ w.cell? ⟨E.mb, 2, none⟩ = some (.bool E.fin) := by
  obtain ⟨vo, vc, vp, h⟩ := ok.hp
  have hlt := (Array.getElem?_eq_some_iff.1 h).1
  refine ⟨hlt, fun w n cs hw => ?_⟩
  have h2 := (hw.below.block E.mb hlt).trans h
  exact ⟨by rw [cell_of_heap h2]; rfl, by rw [cell_of_heap h2]; rfl⟩
theorem RMOK.vi_shape (ok : RMOK E) : ∃ p cap, E.vi = .slice p E.items.length cap := by
  obtain ⟨A, M, ho, _⟩ := ok.A
  rcases ho.2 with ⟨h1, h2⟩ | ⟨g, cap, cur, hv, _⟩
  · exact ⟨none, 0, by rw [h1, h2]⟩
  · exact ⟨_, _, hv⟩
theorem RMSt.lts (h : RMSt E w n cs) : E.nb < w.heap.size ∧ E.cb < w.heap.size := ⟨(Array.getElem?_eq_some_iff.1 h.hm).1, (Array.getElem?_eq_some_iff.1 h.hc).1⟩
end
/-- What a call that matches leaves. -/
def RMPost (E : MEnv) (w : World) (R : MR) (e : Ending) (w' : World) : Prop := Fr E w w' ∧
  match R with
  | none => ∃ (x : Int) (n : Nat) (cs : List ACap), e = .returned (.tuple #[.int .i64 x, .bool false]) ∧ maxSteps < n ∧ n ≤ maxSteps + 1 ∧ RMSt E w' n cs
  | some (some k, (n, cs)) => e = .returned (.tuple #[.int .i64 (k : Int), .bool true]) ∧ n ≤ maxSteps ∧ k ≤ E.s.size ∧ RMSt E w' n cs
  | some (none, (n, cs)) => ∃ x : Int, e = .returned (.tuple #[.int .i64 x, .bool false]) ∧ n ≤ maxSteps ∧ RMSt E w' n cs
def RMatchOK (E : MEnv) (j : Nat) : Prop := ∀ (w : World) (n : Nat) (cs : List ACap) (a b : Int) (i : Nat), RMSt E w n cs → n ≤ maxSteps → i ≤ E.s.size → CapW E j i cs → a = j → b = i →
  Calls Tryd.prog 55 #[.pointer (some ⟨E.nb, 0, none⟩), .int .i64 a, .int .i64 b] w (RMPost E w (matchM (bytesOf E.s) E.fin (E.items.drop j) i (n, cs)))
theorem rp_no {E : MEnv} {w w' : World} {R : MR} {x : Int} {n : Nat} {cs : List ACap} (hR : R = some (none, (n, cs))) (hf : Fr E w w') (hn : n ≤ maxSteps) (h : RMSt E w' n cs) : RMPost E w R (.returned (.tuple #[.int .i64 x, .bool false])) w' := by
  subst hR; exact ⟨hf, x, rfl, hn, h⟩
theorem rp_yes {E : MEnv} {w w' : World} {R : MR} {k : Nat} {n : Nat} {cs : List ACap} (hR : R = some (some k, (n, cs))) (hf : Fr E w w') (hn : n ≤ maxSteps) (hk : k ≤ E.s.size) (h : RMSt E w' n cs) : RMPost E w R (.returned (.tuple #[.int .i64 (k : Int), .bool true])) w' := by
  subst hR; exact ⟨hf, rfl, hn, hk, h⟩
theorem rp_over {E : MEnv} {w w' : World} {R : MR} {x : Int} {n : Nat} {cs : List ACap} (hR : R = none) (hf : Fr E w w') (h1 : maxSteps < n) (h2 : n ≤ maxSteps + 1) (h : RMSt E w' n cs) : RMPost E w R (.returned (.tuple #[.int .i64 x, .bool false])) w' := by
  subst hR; exact ⟨hf, x, n, cs, rfl, h1, h2, h⟩
theorem RMPost.shape {E : MEnv} {w w' : World} {R : MR} {e : Ending} (h : RMPost E w R e w') : ∃ (x : Int) (b : Bool), e = .returned (.tuple #[.int .i64 x, .bool b]) := by
  obtain ⟨_, h⟩ := h
  match R, h with
  | none, ⟨x, _, _, he, _⟩ => exact ⟨x, false, he⟩
  | some (some k, (_, _)), ⟨he, _⟩ => exact ⟨k, true, he⟩
  | some (none, (_, _)), ⟨x, he, _⟩ => exact ⟨x, false, he⟩
theorem RMPost.after {E : MEnv} {w w1 w' : World} {R : MR} {e : Ending} (hf : Fr E w w1) (h : RMPost E w1 R e w') : RMPost E w R e w' := ⟨hf.trans h.1, h.2⟩
theorem rmatch_end {E : MEnv} {w : World} {R : MR} {n : Nat} {cs : List ACap} {i : Nat} {b : Bool} {w' : World} (hR : R = some (if b then some i else none, (n, cs))) (hf : Fr E w w') (hn : n ≤ maxSteps) (hi : i ≤ E.s.size) (h : RMSt E w' n cs) : RMPost E w R (.returned (.tuple #[.int .i64 (i : Int), .bool b])) w' := by
  cases b with
  | true => exact rp_yes hR hf hn hi h
  | false => exact rp_no hR hf hn h

/-! step (74), in (80), place (77), with (75). -/
def StepPost (E : MEnv) (w : World) (n : Nat) (cs : List ACap) (e : Ending) (w' : World) : Prop := e = .returned (.bool (decide (maxSteps < n + 1))) ∧ RMSt E w' (n + 1) cs ∧ Fr E w w'
set_option maxHeartbeats 400000 in
theorem rstep_c {E : MEnv} (ok : RMOK E) {w : World} {n : Nat} {cs : List ACap} (h : RMSt E w n cs) (hn : n ≤ maxSteps) : Calls Tryd.prog 74 #[.pointer (some ⟨E.nb, 0, none⟩)] w (StepPost E w n cs) := by
  have h1 : w.cell? ⟨E.nb, 3, none⟩ = some (.int .i64 n) := by rw [cell_of_heap h.hm]; rfl
  have h2 := (h.fz 3).2
  have HS := Lib.hid (h.setn ok (n + 1))
  have HF := Lib.hid ((Fr.refl E w).setn 3 (.int .i64 ((n : Int) + 1)))
  unfold maxSteps at hn
  clear h
  go_enter Tryd.func74, Tryd.ntmps74
  go_wp2
  all_goals (go_ret; exact ⟨ret_bool (decide_eq_decide.2 (by unfold maxSteps; omega)), HS.out, HF.out⟩)
set_option maxRecDepth 100000 in
set_option maxHeartbeats 1000000 in
theorem rin_c {E : MEnv} (ok : RMOK E) {w : World} {n : Nat} {cs : List ACap} (h : RMSt E w n cs) (sb : Nat) (S : Nat → Bool) (hs : RSet w sb S) (b : Int) (i : Nat) (hb : b = i) :
    Calls Tryd.prog 80 #[.pointer (some ⟨E.nb, 0, none⟩), .slice (some ⟨sb, 0, none⟩) 256 256, .int .i64 b] w fun e w' => e = .returned (.bool (belongsM (bytesOf E.s) S i)) ∧ w = w' := by
  subst hb
  have m4 : w.cell? ⟨E.nb, 0, none⟩ = some (.string E.s) := by rw [cell_of_heap h.hm]; rfl
  have hsl := ok.sl
  by_cases hi : i < E.s.size
  · have hB := Lib.hid (belongs_yes E.s S i hi)
    have hb := UInt8.toNat_lt E.s[i]
    have c4 : w.cell? ⟨sb, E.s[i].toNat, none⟩ = some (.bool (S E.s[i].toNat)) := hs.cell hb
    clear h hs
    go_enter Tryd.func80, Tryd.ntmps80
    go_wp2
    go_ret
    exact ⟨ret_bool (by rw [hB.out]), rfl⟩
  · have hB := Lib.hid (belongs_no E.s S i (by omega))
    have hd : decide ((i : Int) < (E.s.size : Int)) = false := by simp; omega
    clear h hs
    go_enter Tryd.func80, Tryd.ntmps80
    go_wp2
    go_ret
    exact ⟨ret_bool (by rw [hB.out]), rfl⟩
end Go.Proofs.YtpbhncmaamedhaaDoor

namespace Go.Proofs.YtpbhncmaamedhaaDoor
open Go.RowKit Go.Proofs.Lexi

set_option maxRecDepth 100000 in
set_option maxHeartbeats 2000000 in
theorem rplace_c {E : MEnv} (ok : RMOK E) {w : World} {n : Nat} {cs : List ACap} (h : RMSt E w n cs) (sb : Nat) (S : Nat → Bool) (hs : RSet w sb S) (b : Int) (i : Nat) (hb : b = i) (hi : i ≤ E.s.size) :
    Calls Tryd.prog 77 #[.pointer (some ⟨E.nb, 0, none⟩), .slice (some ⟨sb, 0, none⟩) 256 256, .int .i64 b] w fun e w' => e = .returned (.bool (frontM (bytesOf E.s) S i)) ∧ w = w' := by
  subst hb
  have m4 : w.cell? ⟨E.nb, 0, none⟩ = some (.string E.s) := by rw [cell_of_heap h.hm]; rfl
  have hsl := ok.sl
  obtain ⟨cb, hcb⟩ : ∃ cb, cb = if i = 0 then 0 else (bytesOf E.s).getD (i - 1) 0 := ⟨_, rfl⟩
  obtain ⟨ca, hca⟩ : ∃ ca, ca = (bytesOf E.s).getD i 0 := ⟨_, rfl⟩
  have hfr : frontM (bytesOf E.s) S i = (!S cb && S ca) := by rw [hcb, hca]; rfl
  rw [hfr]
  have bcb : cb < 256 := by
    rw [hcb]; split
    · omega
    · rw [getD_byte E.s (i - 1) (by omega)]; exact UInt8.toNat_lt _
  have bca : ca < 256 := by
    rw [hca]
    by_cases h : i < E.s.size
    · rw [getD_byte E.s i h]; exact UInt8.toNat_lt _
    · rw [getD_past E.s i (by omega)]; omega
  have kb := hs.cell bcb
  have ka := hs.cell bca
  obtain ⟨vb, hvb⟩ : ∃ vb, vb = S cb := ⟨_, rfl⟩
  obtain ⟨va, hva⟩ : ∃ va, va = S ca := ⟨_, rfl⟩
  rw [← hvb] at kb ⊢
  rw [← hva] at ka ⊢
  clear hfr h hs hvb hva bcb bca
  by_cases h0 : i = 0
  · rw [if_pos h0] at hcb
    subst hcb
    by_cases h1 : i < E.s.size
    · rw [getD_byte E.s i h1] at hca
      subst hca
      have hb1 := UInt8.toNat_lt E.s[i]
      subst h0
      cases vb
      all_goals
        go_enter Tryd.func77, Tryd.ntmps77
        go_wp2
        go_ret
        exact ⟨rfl, rfl⟩
    · rw [getD_past E.s i (by omega)] at hca
      subst hca
      subst h0
      obtain rfl : vb = va := by have := kb.symm.trans ka; simpa using this
      clear ka
      cases vb
      all_goals
        go_enter Tryd.func77, Tryd.ntmps77
        go_wp2
        go_ret
        exact ⟨rfl, rfl⟩
  · have hi1 : i - 1 < E.s.size := by omega
    rw [if_neg h0, getD_byte E.s (i - 1) hi1] at hcb
    rw [hcb] at kb
    clear hcb
    have h0' : 0 < i := by omega
    have h00 : (0 : Int) ≤ (i : Int) - 1 := by omega
    have hb0 := UInt8.toNat_lt (E.s[i - 1]'hi1)
    clear h0
    by_cases h1 : i < E.s.size
    · rw [getD_byte E.s i h1] at hca
      subst hca
      have hb1 := UInt8.toNat_lt E.s[i]
      cases vb
      all_goals
        go_enter Tryd.func77, Tryd.ntmps77
        go_wp2
        go_ret
        exact ⟨rfl, rfl⟩
    · rw [getD_past E.s i (by omega)] at hca
      subst hca
      cases vb
      all_goals
        go_enter Tryd.func77, Tryd.ntmps77
        go_wp2
        go_ret
        exact ⟨rfl, rfl⟩

set_option maxRecDepth 100000 in
set_option maxHeartbeats 2000000 in
theorem with_c {E : MEnv} (ok : RMOK E) {j : Nat} (hj : j < E.items.length) (hm : RMatchOK E (j + 1)) {w : World} {n : Nat} {cs : List ACap} (h : RMSt E w n cs) (hn : n ≤ maxSteps) (a b : Int) (i : Nat) (hi : i ≤ E.s.size) (ha : a = j) (hb : b = i) (k : Nat) (hk : k < E.K) (c : ACap) (t : Int) (ht : t = if c.o then -2 else c.t) (hco : CapW E (j + 1) i (cs.set k c)) :
    Calls Tryd.prog 75 #[.pointer (some ⟨E.nb, 0, none⟩), .int .i64 a, .int .i64 b, .int .i64 k, .agg #[.int .i64 c.f, .int .i64 t]] w (RMPost E w (keepM k c (nextM E j i) (n, cs))) := by
  subst ha hb
  have m5 : w.cell? ⟨E.nb, 2, none⟩ = some (.slice (some ⟨E.cb, 0, none⟩) E.K E.K) := by rw [cell_of_heap h.hm]; rfl
  obtain ⟨c1, c2⟩ := h.capf k hk
  obtain ⟨f0, hf0⟩ : ∃ f0, f0 = (cs.getD k zeroCap).f := ⟨_, rfl⟩
  obtain ⟨t0, ht0⟩ : ∃ t0, t0 = if (cs.getD k zeroCap).o then -2 else (cs.getD k zeroCap).t := ⟨_, rfl⟩
  rw [← hf0] at c1
  rw [← ht0] at c2
  have f1 := (h.fz (k * 2)).1
  have f2 := (h.fz (k * 2 + 1)).1
  have hl := ok.len
  have hsl := ok.sl
  obtain ⟨hnb, hcb⟩ := h.lts
  have hkk := ok.kk
  have D3 := ok.d3
  have hW := ((h.setc ok k hk c).grow (below2 _ (.cells #[.int .i64 c.f, .int .i64 t] 43) (.cells #[.int .i64 f0, .int .i64 t0] 43)))
  rw [← ht] at hW
  have hF : Fr E w ((((w.setCell ⟨E.cb, k * 2, none⟩ (.int .i64 c.f)).setCell ⟨E.cb, k * 2 + 1, none⟩ (.int .i64 t)).alloc (.cells #[.int .i64 c.f, .int .i64 t] 43)).alloc (.cells #[.int .i64 f0, .int .i64 t0] 43)).drew :=
    (((Fr.refl E w).setc _ _).setc _ _).trans (Fr.below (below2 _ _ _))
  have hwas := heap2_b ((w.setCell ⟨E.cb, k * 2, none⟩ (.int .i64 c.f)).setCell ⟨E.cb, k * 2 + 1, none⟩ (.int .i64 t)) (.cells #[.int .i64 c.f, .int .i64 t] 43) (.cells #[.int .i64 f0, .int .i64 t0] 43)
  simp only [World.size_setCell] at hwas
  have HW := Lib.hid hW
  have HF := Lib.hid hF
  have HWAS := Lib.hid hwas
  have HF0 := Lib.hid hf0
  have HT0 := Lib.hid ht0
  have HE := Lib.hid (show keepM k c (nextM E j i) (n, cs) = match nextM E j i (n, cs.set k c) with | none => none | some (some e, st') => some (some e, st') | some (none, st') => some (none, (st'.1, st'.2.set k (cs.getD k zeroCap))) from rfl)
  clear h ht hW hF hwas hf0 ht0
  go_enter Tryd.func75, Tryd.ntmps75
  go_wp2
  refine wp_region_lex mixed (by kernel_rfl) ?_
  go_wp2
  refine ⟨by kernel_rfl, ?_⟩
  go_wp2_with fail
  refine (hm _ n (cs.set k c) _ _ i HW.out hn hi hco (by omega) rfl).mono ?_
  rintro e w1 ⟨hF1, hp⟩
  have hs1 := hF1.size
  simp at hs1
  have hwas1 : w1.heap[w.heap.size + 1]? = some (.cells #[.int .i64 f0, .int .i64 t0] 43) := (hF1.block (w.heap.size + 1) (by simp) (by omega) (by omega)).trans HWAS.out
  have b0 : w1.cell? ⟨w.heap.size + 1, 0, none⟩ = some (.int .i64 f0) := by rw [cell_of_heap hwas1]; rfl
  have b1 : w1.cell? ⟨w.heap.size + 1, 1, none⟩ = some (.int .i64 t0) := by rw [cell_of_heap hwas1]; rfl
  have HF1 := Lib.hid (HF.out.trans hF1)
  have HEQ := HE.out
  have restore : ∀ n' cs', RMSt E w1 n' cs' → RMSt E ((w1.setCell ⟨E.cb, k * 2, none⟩ (.int .i64 f0)).setCell ⟨E.cb, k * 2 + 1, none⟩ (.int .i64 t0)).drew n' (cs'.set k (cs.getD k zeroCap)) := fun n' cs' h => by
    have := h.setc ok k hk (cs.getD k zeroCap)
    rw [← HF0.out, ← HT0.out] at this
    exact this.drew
  have HRS := Lib.hid restore
  clear hwas1 hF1 restore
  cases hr : matchM (bytesOf E.s) E.fin (E.items.drop (j + 1)) i (n, cs.set k c) with
  | none =>
    rw [hr] at hp
    rw [show nextM E j i (n, cs.set k c) = none from hr] at HEQ
    obtain ⟨x, n', cs', rfl, hn1, hn2, h1⟩ := hp
    have HQ := Lib.hid HEQ
    have p5 : w1.cell? ⟨E.nb, 2, none⟩ = some (.slice (some ⟨E.cb, 0, none⟩) E.K E.K) := by rw [cell_of_heap h1.hm]; rfl
    obtain ⟨g1, g2⟩ := h1.capf k hk
    have y1 := (h1.fz (k * 2)).1
    have y2 := (h1.fz (k * 2 + 1)).1
    obtain ⟨v1, hv1⟩ : ∃ v, v = (cs'.getD k zeroCap).f := ⟨_, rfl⟩
    obtain ⟨v2, hv2⟩ : ∃ v, v = if (cs'.getD k zeroCap).o then -2 else (cs'.getD k zeroCap).t := ⟨_, rfl⟩
    rw [← hv1] at g1
    rw [← hv2] at g2
    have HR := Lib.hid (HRS.out n' cs' h1)
    clear hr HEQ h1 hv1 hv2
    go_wp2
    refine wp_region_lex mixed (by kernel_rfl) ?_
    go_wp2
    refine ⟨by kernel_rfl, ?_⟩
    go_wp2
    go_ret2
    exact rp_over HQ.out ((HF1.out.setc _ _).setc _ _).drew hn1 hn2 HR.out
  | some q =>
    obtain ⟨o, n', cs'⟩ := q
    rw [hr] at hp
    rw [show nextM E j i (n, cs.set k c) = some (o, (n', cs')) from hr] at HEQ
    cases o with
    | some e =>
      obtain ⟨rfl, hn1, hk1, h1⟩ := hp
      have HQ := Lib.hid HEQ
      have HR := Lib.hid h1
      clear hr HEQ h1
      go_wp2
      go_ret2
      exact rp_yes HQ.out HF1.out hn1 hk1 HR.out
    | none =>
      obtain ⟨x, rfl, hn1, h1⟩ := hp
      have HQ := Lib.hid HEQ
      have p5 : w1.cell? ⟨E.nb, 2, none⟩ = some (.slice (some ⟨E.cb, 0, none⟩) E.K E.K) := by rw [cell_of_heap h1.hm]; rfl
      obtain ⟨g1, g2⟩ := h1.capf k hk
      have y1 := (h1.fz (k * 2)).1
      have y2 := (h1.fz (k * 2 + 1)).1
      obtain ⟨v1, hv1⟩ : ∃ v, v = (cs'.getD k zeroCap).f := ⟨_, rfl⟩
      obtain ⟨v2, hv2⟩ : ∃ v, v = if (cs'.getD k zeroCap).o then -2 else (cs'.getD k zeroCap).t := ⟨_, rfl⟩
      rw [← hv1] at g1
      rw [← hv2] at g2
      have HR := Lib.hid (HRS.out n' cs' h1)
      clear hr HEQ h1 hv1 hv2
      go_wp2
      refine wp_region_lex mixed (by kernel_rfl) ?_
      go_wp2
      refine ⟨by kernel_rfl, ?_⟩
      go_wp2
      go_ret2
      exact rp_no HQ.out ((HF1.out.setc _ _).setc _ _).drew hn1 HR.out
end Go.Proofs.YtpbhncmaamedhaaDoor

namespace Go.Proofs.YtpbhncmaamedhaaDoor
open Go.RowKit Go.Proofs.Lexi

def RBalRel (E : MEnv) (w : World) (x y : Nat) (f : Nat → MS → MR) (R : MR) (xc : Array Value) (i : Nat) (cs : List ACap) (gg : Nat) (count k : Value) (wr : World) : Prop :=
  ∃ (q m : Nat) (n : Nat), i ≤ q ∧ gg = E.s.size - q ∧ count = .int .i64 (m : Int) ∧ k = .int .i64 (q : Int) ∧ 1 ≤ m ∧ m ≤ q ∧ q ≤ E.s.size ∧ RMSt E wr n cs ∧ n ≤ maxSteps ∧ Fr E w wr ∧ wr.heap[w.heap.size]? = some (.cells xc 114 (0, 0)) ∧ w.heap.size < wr.heap.size ∧ balM x y f ((bytesOf E.s).drop q) q m (n, cs) = R
set_option maxRecDepth 100000 in
set_option maxHeartbeats 2000000 in
theorem balanced_c {E : MEnv} (ok : RMOK E) {j : Nat} (hj : j < E.items.length) (hm : RMatchOK E (j + 1)) {w : World} {n : Nat} {cs : List ACap} (h : RMSt E w n cs) (hn : n ≤ maxSteps) (a b : Int) (i : Nat) (hi : i ≤ E.s.size) (ha : a = j) (hb : b = i)
    (hco : CapW E (j + 1) i cs)
    (R : MR) (hR : R = match (bytesOf E.s).drop i with | c :: r => if c = (itemAt E j).x then balM (itemAt E j).x (itemAt E j).y (nextM E j) r (i + 1) 1 (n, cs) else some (none, (n, cs)) | [] => some (none, (n, cs))) (it : Item) (hit : it = itemAt E j) (kd hw nn : Int) (V : Value) :
    Calls Tryd.prog 76 #[.pointer (some ⟨E.nb, 0, none⟩), .int .i64 a, .int .i64 b, .agg #[.int .i64 kd, V, .int .u8 hw, .int .u8 it.x, .int .u8 it.y, .int .i64 nn]] w (RMPost E w R) := by
  subst ha hb
  have m4 : w.cell? ⟨E.nb, 0, none⟩ = some (.string E.s) := by rw [cell_of_heap h.hm]; rfl
  have hl := ok.len
  have hsl := ok.sl
  have HR := Lib.hid hR
  clear hR
  rw [← hit] at HR
  obtain ⟨hnb, hcb⟩ := h.lts
  have H := Lib.hid h
  clear h hit
  obtain ⟨XC, hXC⟩ : ∃ XC : Array Value, XC = #[.int .i64 kd, V, .int .u8 hw, .int .u8 it.x, .int .u8 it.y, .int .i64 nn] := ⟨_, rfl⟩
  have hbw : Below w.heap.size w (w.alloc (.cells #[.int .i64 kd, V, .int .u8 hw, .int .u8 it.x, .int .u8 it.y, .int .i64 nn] 114)).drew := ((Below.refl _ _).alloc (Nat.le_refl _) _).drew
  have HBW := Lib.hid hbw
  have HXC := Lib.hid hXC
  clear hbw hXC
  by_cases hi1 : i < E.s.size
  · have hd : decide ((E.s.size : Int) ≤ (i : Int)) = false := by simp; omega
    have hd' : decide (E.s.size ≤ i) = false := by simp; omega
    by_cases hx : E.s[i].toNat = it.x
    · have tx : ((E.s[i].toNat : Int) != (it.x : Int)) = false := by rw [hx]; simp
      have hst : RBalRel E w it.x it.y (nextM E j) R XC i cs (E.s.size - (i + 1)) (.int .i64 1) (.int .i64 ((i : Int) + 1)) (w.alloc (.cells #[.int .i64 kd, V, .int .u8 hw, .int .u8 it.x, .int .u8 it.y, .int .i64 nn] 114)).drew := by
        refine ⟨i + 1, 1, n, by omega, rfl, rfl, rfl, Nat.le_refl _, by omega, by omega, H.out.grow HBW.out, hn, Fr.below HBW.out, ?_, by simp, ?_⟩
        · rw [HXC.out]; exact heap_new _ _
        · rw [HR.out, bytesOf_drop E.s i hi1]
          simp only [hx, if_true]
      have HST := Lib.hid hst
      clear hst hx
      go_enter Tryd.func76, Tryd.ntmps76
      go_wp2
      refine wp_region_lex mixed (by kernel_rfl) ?_
      go_wp2
      refine ⟨by kernel_rfl, ?_⟩
      go_wp2
      go_loopg [10, 11] (E.s.size - (i + 1)) (fun gg count k wr => RBalRel E w it.x it.y (nextM E j) R XC i cs gg count k wr)
      case atStart => exact HST.out
      case round =>
        clear HST m4 tx hd
        obtain ⟨q, m, n1, hiq, rfl, rfl, rfl, hm1, hmq, hq, h1, hn1, hF1, hxb, hxs, hgo⟩ := hrel
        have m4 : wr.cell? ⟨E.nb, 0, none⟩ = some (.string E.s) := by rw [cell_of_heap h1.hm]; rfl
        have HGO := Lib.hid hgo
        have H1 := Lib.hid h1
        have HF1 := Lib.hid hF1
        have HXB := Lib.hid hxb
        clear hgo h1 hF1 hxb
        by_cases hlt : q < E.s.size
        · go_wp2_with fail
          refine (rstep_c ok H1.out hn1).mono ?_
          rintro e w1 ⟨rfl, h2, hF2⟩
          have hgo := HGO.out
          rw [bytesOf_drop E.s q hlt, bal_cons] at hgo
          have hxb2 : w1.heap[w.heap.size]? = some (.cells XC 114 (0, 0)) := (hF2.block _ hxs (by omega) (by omega)).trans HXB.out
          have hxs2 : w.heap.size < w1.heap.size := (Array.getElem?_eq_some_iff.1 hxb2).1
          by_cases hlim : n1 + 1 ≤ maxSteps
          · rw [decide_eq_false (show ¬ maxSteps < n1 + 1 by omega)]
            rw [if_pos hlim] at hgo
            have p4 : w1.cell? ⟨E.nb, 0, none⟩ = some (.string E.s) := by rw [cell_of_heap h2.hm]; rfl
            have x2 : w1.cell? ⟨w.heap.size, 3, none⟩ = some (.int .u8 it.x) := by rw [cell_of_heap hxb2, HXC.out]; rfl
            have x3 : w1.cell? ⟨w.heap.size, 4, none⟩ = some (.int .u8 it.y) := by rw [cell_of_heap hxb2, HXC.out]; rfl
            have H2 := Lib.hid h2
            have HF2 := Lib.hid (HF1.out.trans hF2)
            have HX2 := Lib.hid hxb2
            clear h2 hF2 hxb2
            by_cases hy : E.s[q].toNat = it.y
            · have ty : ((E.s[q].toNat : Int) == (it.y : Int)) = true := by rw [hy]; simp
              rw [if_pos hy] at hgo
              clear hy
              by_cases hm2 : m = 1
              · rw [if_pos hm2] at hgo
                have hml : m ≤ 1 := by omega
                have HG := Lib.hid hgo
                clear hgo hm2
                go_wp2
                refine wp_region_lex mixed (by kernel_rfl) ?_
                go_wp2
                refine ⟨by kernel_rfl, ?_⟩
                go_wp2_with fail
                refine (hm _ (n1 + 1) cs _ _ (q + 1) H2.out.drew hlim (by omega) (hco.mono (by omega)) (by omega) (by omega)).mono ?_
                intro e w9 hpost
                obtain ⟨x, bb, rfl⟩ := hpost.shape
                have HPO := Lib.hid hpost
                clear hpost
                go_wp2
                go_ret2
                exact (by rw [← HG.out]; exact (HPO.out).after HF2.out.drew)
              · rw [if_neg hm2] at hgo
                have hml : 2 ≤ m := by omega
                have HN := Lib.hid (show RBalRel E w it.x it.y (nextM E j) R XC i cs (E.s.size - (q + 1)) (.int .i64 ((m : Int) - 1)) (.int .i64 ((q : Int) + 1)) w1.drew from ⟨q + 1, m - 1, n1 + 1, by omega, rfl, by congr 1; omega, rfl, by omega, by omega, by omega, H2.out.drew, hlim, HF2.out.drew, HX2.out, hxs2, hgo⟩)
                clear hgo hm2
                go_wp2
                refine wp_region_lex mixed (by kernel_rfl) ?_
                go_wp2
                refine ⟨by kernel_rfl, ?_⟩
                go_wp2
                go_roundg (E.s.size - (q + 1))
                case measure => omega
                case rel => exact HN.out
            · have ty : ((E.s[q].toNat : Int) == (it.y : Int)) = false := by rw [beq_eq_false_iff_ne]; omega
              rw [if_neg hy] at hgo
              clear hy
              by_cases hx : E.s[q].toNat = it.x
              · have tx : ((E.s[q].toNat : Int) == (it.x : Int)) = true := by rw [hx]; simp
                rw [if_pos hx] at hgo
                have HN := Lib.hid (show RBalRel E w it.x it.y (nextM E j) R XC i cs (E.s.size - (q + 1)) (.int .i64 ((m : Int) + 1)) (.int .i64 ((q : Int) + 1)) w1.drew.drew from ⟨q + 1, m + 1, n1 + 1, by omega, rfl, rfl, rfl, by omega, by omega, by omega, H2.out.drew.drew, hlim, HF2.out.drew.drew, HX2.out, hxs2, hgo⟩)
                clear hgo hx
                go_wp2
                refine wp_region_lex mixed (by kernel_rfl) ?_
                go_wp2
                refine ⟨by kernel_rfl, ?_⟩
                go_wp2
                refine wp_region_lex mixed (by kernel_rfl) ?_
                go_wp2
                refine ⟨by kernel_rfl, ?_⟩
                go_wp2
                go_roundg (E.s.size - (q + 1))
                case measure => omega
                case rel => exact HN.out
              · have tx : ((E.s[q].toNat : Int) == (it.x : Int)) = false := by rw [beq_eq_false_iff_ne]; omega
                rw [if_neg hx] at hgo
                have HN := Lib.hid (show RBalRel E w it.x it.y (nextM E j) R XC i cs (E.s.size - (q + 1)) (.int .i64 (m : Int)) (.int .i64 ((q : Int) + 1)) w1.drew.drew from ⟨q + 1, m, n1 + 1, by omega, rfl, rfl, rfl, by omega, by omega, by omega, H2.out.drew.drew, hlim, HF2.out.drew.drew, HX2.out, hxs2, hgo⟩)
                clear hgo hx
                go_wp2
                refine wp_region_lex mixed (by kernel_rfl) ?_
                go_wp2
                refine ⟨by kernel_rfl, ?_⟩
                go_wp2
                refine wp_region_lex mixed (by kernel_rfl) ?_
                go_wp2
                refine ⟨by kernel_rfl, ?_⟩
                go_wp2
                go_roundg (E.s.size - (q + 1))
                case measure => omega
                case rel => exact HN.out
          · rw [decide_eq_true (show maxSteps < n1 + 1 by omega)]
            rw [if_neg hlim] at hgo
            have HG := Lib.hid hgo.symm
            have H2 := Lib.hid h2
            have HF2 := Lib.hid (HF1.out.trans hF2)
            clear h2 hF2 hxb2 hgo
            go_wp2
            go_ret2
            exact rp_over HG.out HF2.out (by omega) (by omega) H2.out
        · have HG := Lib.hid (show R = some (none, (n1, cs)) from by rw [← HGO.out, bytesOf_end E.s q (by omega)]; rfl)
          go_wp2
          go_ret2
          exact rp_no HG.out HF1.out hn1 H1.out
    · have tx : ((E.s[i].toNat : Int) != (it.x : Int)) = true := by rw [bne_iff_ne]; omega
      have HQ := Lib.hid (show R = some (none, (n, cs)) from by rw [HR.out, bytesOf_drop E.s i hi1]; simp only [hx, if_false])
      clear hx
      go_enter Tryd.func76, Tryd.ntmps76
      go_wp2
      refine wp_region_lex mixed (by kernel_rfl) ?_
      go_wp2
      refine ⟨by kernel_rfl, ?_⟩
      go_wp2
      go_ret2
      exact rp_no HQ.out (Fr.below HBW.out) hn (H.out.grow HBW.out)
  · have hd : decide ((E.s.size : Int) ≤ (i : Int)) = true := by simp; omega
    have hd' : decide (E.s.size ≤ i) = true := by simp; omega
    have HQ := Lib.hid (show R = some (none, (n, cs)) from by rw [HR.out, bytesOf_end E.s i (by omega)])
    go_enter Tryd.func76, Tryd.ntmps76
    go_wp2
    refine wp_region_lex mixed (by kernel_rfl) ?_
    go_wp2
    refine ⟨by kernel_rfl, ?_⟩
    go_wp2
    go_ret2
    exact rp_no HQ.out (Fr.below HBW.out) hn (H.out.grow HBW.out)
end Go.Proofs.YtpbhncmaamedhaaDoor

namespace Go.Proofs.YtpbhncmaamedhaaDoor
open Go.RowKit Go.Proofs.Lexi

def RFewRel (E : MEnv) (w : World) (S : Nat → Bool) (f : Nat → MS → MR) (R : MR) (i : Nat) (cs : List ACap) (xc : Array Value) (gg : Nat) (iv : Value) (wr : World) : Prop :=
  ∃ (q n : Nat), i ≤ q ∧ gg = E.s.size - q ∧ iv = .int .i64 (q : Int) ∧ q ≤ E.s.size ∧ RMSt E wr n cs ∧ n ≤ maxSteps ∧ Fr E w wr ∧ wr.heap[w.heap.size]? = some (.cells xc 114 (0, 0)) ∧ w.heap.size < wr.heap.size ∧ fewM S f ((bytesOf E.s).drop q) q (n, cs) = R
set_option maxRecDepth 100000 in
set_option maxHeartbeats 2000000 in
theorem rfew_c {E : MEnv} (ok : RMOK E) (hwf : WfItems E.K st0 E.items) {j : Nat} (hj : j < E.items.length) (hm : RMatchOK E (j + 1)) {w : World} {n : Nat} {cs : List ACap} (h : RMSt E w n cs) (hn : n ≤ maxSteps) (a b : Int) (i : Nat) (hi : i ≤ E.s.size) (ha : a = j) (hb : b = i)
    (hco : CapW E (j + 1) i cs)
    (R : MR) (hR : R = fewM (itemAt E j).one (nextM E j) ((bytesOf E.s).drop i) i (n, cs)) (sb : Nat) (hset : ∀ w, Below E.w0.heap.size E.w0 w → RSet w sb (itemAt E j).one) (kd hw xx yy nn : Int) :
    Calls Tryd.prog 79 #[.pointer (some ⟨E.nb, 0, none⟩), .int .i64 a, .int .i64 b, .agg #[.int .i64 kd, .slice (some ⟨sb, 0, none⟩) 256 256, .int .u8 hw, .int .u8 xx, .int .u8 yy, .int .i64 nn]] w (RMPost E w R) := by
  subst ha hb
  have hl := ok.len
  have hsl := ok.sl
  obtain ⟨S, hS⟩ : ∃ S, S = (itemAt E j).one := ⟨_, rfl⟩
  obtain ⟨XC, hXC⟩ : ∃ XC : Array Value, XC = #[.int .i64 kd, .slice (some ⟨sb, 0, none⟩) 256 256, .int .u8 hw, .int .u8 xx, .int .u8 yy, .int .i64 nn] := ⟨_, rfl⟩
  have hbw : Below w.heap.size w (w.alloc (.cells #[.int .i64 kd, .slice (some ⟨sb, 0, none⟩) 256 256, .int .u8 hw, .int .u8 xx, .int .u8 yy, .int .i64 nn] 114)) := (Below.refl _ _).alloc (Nat.le_refl _) _
  have HS0 := Lib.hid (show RFewRel E w S (nextM E j) R i cs XC (E.s.size - i) (.int .i64 (i : Int)) (w.alloc (.cells #[.int .i64 kd, .slice (some ⟨sb, 0, none⟩) 256 256, .int .u8 hw, .int .u8 xx, .int .u8 yy, .int .i64 nn] 114)) from ⟨i, n, Nat.le_refl _, rfl, rfl, hi, h.grow hbw, hn, Fr.below hbw, by rw [hXC]; exact heap_new _ _, by simp, by rw [hR, hS]⟩)
  have HSET := Lib.hid hset
  rw [← hS] at HSET
  have HXC := Lib.hid hXC
  obtain ⟨hnb, hcb⟩ := h.lts
  clear hR h hS hset hXC hbw
  go_enter Tryd.func79, Tryd.ntmps79
  go_wp2
  go_loopg [2] (E.s.size - i) (fun gg iv wr => RFewRel E w S (nextM E j) R i cs XC gg iv wr)
  case atStart => exact HS0.out
  case round =>
    clear HS0
    obtain ⟨q, n1, hiq, rfl, rfl, hq, h1, hn1, hF1, hxb, hxs, hgo⟩ := hrel
    have HGO := Lib.hid hgo
    have HF1 := Lib.hid hF1
    have H1 := Lib.hid h1
    have HXB := Lib.hid hxb
    clear hgo hF1 h1 hxb
    go_wp2_with fail
    refine (hm _ n1 cs _ _ q H1.out hn1 hq (hco.mono hiq) (by omega) rfl).mono ?_
    rintro e w1 ⟨hF2, hp⟩
    have hxb2 : w1.heap[w.heap.size]? = some (.cells XC 114 (0, 0)) := (hF2.block _ hxs (by omega) (by omega)).trans HXB.out
    have hxs2 : w.heap.size < w1.heap.size := (Array.getElem?_eq_some_iff.1 hxb2).1
    have x1 : w1.cell? ⟨w.heap.size, 1, none⟩ = some (.slice (some ⟨sb, 0, none⟩) 256 256) := by rw [cell_of_heap hxb2, HXC.out]; rfl
    have HX2 := Lib.hid hxb2
    clear hxb2
    have HF2 := Lib.hid (HF1.out.trans hF2)
    clear hF2
    cases hr : nextM E j q (n1, cs) with
    | none =>
      rw [show matchM (bytesOf E.s) E.fin (E.items.drop (j + 1)) q (n1, cs) = none from hr] at hp
      obtain ⟨x, n', cs', rfl, hn2, hn3, h2⟩ := hp
      have HG := Lib.hid (few_over HGO.out hq hr)
      have m3 : w1.cell? ⟨E.nb, 3, none⟩ = some (.int .i64 n') := by rw [cell_of_heap h2.hm]; rfl
      have H2 := Lib.hid h2
      have tov : (100000 : Int) < (n' : Int) := by unfold maxSteps at hn2; omega
      clear hr h2
      go_wp2
      go_ret2
      exact rp_over HG.out HF2.out hn2 hn3 H2.out
    | some qq =>
      obtain ⟨o, n', cs'⟩ := qq
      rw [show matchM (bytesOf E.s) E.fin (E.items.drop (j + 1)) q (n1, cs) = some (o, (n', cs')) from hr] at hp
      cases o with
      | some e =>
        obtain ⟨rfl, hn2, hk2, h2⟩ := hp
        have HG := Lib.hid (few_some HGO.out hq hr)
        have H2 := Lib.hid h2
        clear hr h2
        go_wp2
        go_ret2
        exact rp_yes HG.out HF2.out hn2 hk2 H2.out
      | none =>
        obtain ⟨x, rfl, hn2, h2⟩ := hp
        have hG := few_none HGO.out hr
        have hcs := next_same hwf hq (hco.mono hiq) hr
        subst hcs
        have m3 : w1.cell? ⟨E.nb, 3, none⟩ = some (.int .i64 n') := by rw [cell_of_heap h2.hm]; rfl
        have tov : ¬ (100000 : Int) < (n' : Int) := by unfold maxSteps at hn2; omega
        have H2 := Lib.hid h2
        have HB := Lib.hid (rin_c ok h2 sb S (HSET.out _ h2.below) (q : Int) q rfl)
        have HP2 := Lib.hid (rstep_c ok h2 hn2)
        clear hr h2
        cases hbl : belongsM (bytesOf E.s) S q with
        | false =>
          rw [hbl] at hG HB
          have HG := Lib.hid (show R = some (none, (n', cs)) from hG)
          clear hG hbl
          go_wp2_with (go_at_call 80; refine HB.out.mono ?_; rintro e w' ⟨rfl, rfl⟩)
          go_ret2
          exact rp_no HG.out HF2.out hn2 H2.out
        | true =>
          rw [hbl] at hG HB
          by_cases hlim : n' + 1 ≤ maxSteps
          · have HDL := Lib.hid (decide_eq_false (show ¬ maxSteps < n' + 1 by omega))
            have HG := Lib.hid (show fewM S (nextM E j) ((bytesOf E.s).drop (q + 1)) (q + 1) (n' + 1, cs) = R from by rw [hG]; simp only [if_true, hlim])
            have hlt : q < E.s.size := by
              apply Classical.byContradiction
              intro hc
              rw [belongs_no E.s S q (by omega)] at hbl
              cases hbl
            clear hG hbl
            go_wp2_with (go_at_call 80; refine HB.out.mono ?_; rintro e w' ⟨rfl, rfl⟩)
            refine HP2.out.mono ?_
            rintro e w3 ⟨rfl, h3, hF3⟩
            rw [HDL.out]
            have hxb3 : w3.heap[w.heap.size]? = some (.cells XC 114 (0, 0)) := (hF3.block _ hxs2 (by omega) (by omega)).trans HX2.out
            have HN := Lib.hid (show RFewRel E w S (nextM E j) R i cs XC (E.s.size - (q + 1)) (.int .i64 ((q : Int) + 1)) w3 from ⟨q + 1, n' + 1, by omega, rfl, rfl, by omega, h3, hlim, HF2.out.trans hF3, hxb3, (Array.getElem?_eq_some_iff.1 hxb3).1, HG.out⟩)
            clear hxb3
            clear h3 hF3
            go_wp2
            go_roundg (E.s.size - (q + 1))
            case measure => omega
            case rel => exact HN.out
          · have HDL := Lib.hid (decide_eq_true (show maxSteps < n' + 1 by omega))
            have HG := Lib.hid (show R = none from by rw [hG]; simp only [if_true, hlim, if_false])
            clear hG hbl
            go_wp2_with (go_at_call 80; refine HB.out.mono ?_; rintro e w' ⟨rfl, rfl⟩)
            refine HP2.out.mono ?_
            rintro e w3 ⟨rfl, h3, hF3⟩
            rw [HDL.out]
            have H3 := Lib.hid h3
            have HF3 := Lib.hid (HF2.out.trans hF3)
            clear h3 hF3
            go_wp2
            go_ret2
            exact rp_over HG.out HF3.out (by omega) (by omega) H3.out
end Go.Proofs.YtpbhncmaamedhaaDoor

namespace Go.Proofs.YtpbhncmaamedhaaDoor
open Go.RowKit Go.Proofs.Lexi

def RCntRel (E : MEnv) (w : World) (S : Nat → Bool) (i : Nat) (C : Option (Nat × MS)) (cs : List ACap) (xc : Array Value) (gg : Nat) (v : Value) (wr : World) : Prop :=
  ∃ (q n : Nat), gg = E.s.size - (i + q) ∧ v = .int .i64 (q : Int) ∧ i + q ≤ E.s.size ∧ RMSt E wr n cs ∧ n ≤ maxSteps ∧ Fr E w wr ∧ wr.heap[w.heap.size]? = some (.cells xc 114 (0, 0)) ∧ w.heap.size < wr.heap.size ∧ countM S ((bytesOf E.s).drop (i + q)) q (n, cs) = C
def RDownRel (E : MEnv) (w : World) (f : Nat → MS → MR) (i least : Nat) (R : MR) (cs : List ACap) (gg : Nat) (v : Value) (wr : World) : Prop :=
  ∃ (u : Int) (n : Nat), gg = (u + 1).toNat ∧ v = .int .i64 u ∧ -1 ≤ u ∧ u ≤ E.s.size ∧ Fr E w wr ∧
    ((∃ m : Nat, u = m ∧ i + m ≤ E.s.size ∧ RMSt E wr n cs ∧ n ≤ maxSteps ∧ downM f i least m (n, cs) = R) ∨ (u < least ∧ RMSt E wr n cs ∧ n ≤ maxSteps ∧ R = some (none, (n, cs))) ∨ (∃ cs', RMSt E wr n cs' ∧ maxSteps < n ∧ n ≤ maxSteps + 1 ∧ R = none))

set_option maxRecDepth 100000 in
set_option maxHeartbeats 4000000 in
theorem rmany_c {E : MEnv} (ok : RMOK E) (hwf : WfItems E.K st0 E.items) {j : Nat} (hj : j < E.items.length) (hm : RMatchOK E (j + 1)) {w : World} {n : Nat} {cs : List ACap} (h : RMSt E w n cs) (hn : n ≤ maxSteps) (a b : Int) (i least : Nat) (hi : i ≤ E.s.size) (ha : a = j) (hb : b = i) (hw : Nat) (hhw : (hw = 42 ∧ least = 0) ∨ (hw = 43 ∧ least = 1))
    (hco : CapW E (j + 1) i cs)
    (R : MR) (hR : R = manyM (bytesOf E.s) (itemAt E j).one (nextM E j) i least (n, cs)) (sb : Nat) (hset : ∀ w, Below E.w0.heap.size E.w0 w → RSet w sb (itemAt E j).one) (kd xx yy nn : Int) :
    Calls Tryd.prog 78 #[.pointer (some ⟨E.nb, 0, none⟩), .int .i64 a, .int .i64 b, .agg #[.int .i64 kd, .slice (some ⟨sb, 0, none⟩) 256 256, .int .u8 hw, .int .u8 xx, .int .u8 yy, .int .i64 nn]] w (RMPost E w R) := by
  subst ha hb
  have hle : least ≤ 1 := by omega
  have hl := ok.len
  have hsl := ok.sl
  obtain ⟨S, hS⟩ : ∃ S, S = (itemAt E j).one := ⟨_, rfl⟩
  obtain ⟨C, hC⟩ : ∃ C, C = countM S ((bytesOf E.s).drop i) 0 (n, cs) := ⟨_, rfl⟩
  have HRC := Lib.hid (show R = afterC (nextM E j) i least C from by rw [hR, hC, hS]; unfold manyM; cases countM (itemAt E j).one ((bytesOf E.s).drop i) 0 (n, cs) <;> rfl)
  obtain ⟨XC, hXC⟩ : ∃ XC : Array Value, XC = #[.int .i64 kd, .slice (some ⟨sb, 0, none⟩) 256 256, .int .u8 hw, .int .u8 xx, .int .u8 yy, .int .i64 nn] := ⟨_, rfl⟩
  have hbw : Below w.heap.size w (w.alloc (.cells #[.int .i64 kd, .slice (some ⟨sb, 0, none⟩) 256 256, .int .u8 hw, .int .u8 xx, .int .u8 yy, .int .i64 nn] 114)) := (Below.refl _ _).alloc (Nat.le_refl _) _
  have HS0 := Lib.hid (show RCntRel E w S i C cs XC (E.s.size - i) (.int .i64 0) (w.alloc (.cells #[.int .i64 kd, .slice (some ⟨sb, 0, none⟩) 256 256, .int .u8 hw, .int .u8 xx, .int .u8 yy, .int .i64 nn] 114)) from ⟨0, n, rfl, rfl, by omega, h.grow hbw, hn, Fr.below hbw, by rw [hXC]; exact heap_new _ _, by simp, by rw [hC]; rfl⟩)
  have HSET := Lib.hid hset
  rw [← hS] at HSET
  have HXC := Lib.hid hXC
  obtain ⟨hnb, hcb⟩ := h.lts
  have tq : (((hw : Int) == 43) = true ∧ least = 1) ∨ (((hw : Int) == 43) = false ∧ least = 0) := by
    rcases hhw with ⟨e, e'⟩ | ⟨e, e'⟩
    · right; exact ⟨by rw [e]; rfl, e'⟩
    · left; exact ⟨by rw [e]; rfl, e'⟩
  have HTQ := Lib.hid tq
  clear hR h hS hset hXC hbw hC hhw tq
  go_enter Tryd.func78, Tryd.ntmps78
  go_wp2
  go_loopg [10] (E.s.size - i) (fun gg v wr => RCntRel E w S i C cs XC gg v wr)
  case atStart => exact HS0.out
  case round =>
    clear HS0
    obtain ⟨q, n1, rfl, rfl, hq, h1, hn1, hF1, hxb, hxs, hgo⟩ := hrel
    have hst := count_step hgo
    have HF1 := Lib.hid hF1
    have H1 := Lib.hid h1
    have HB := Lib.hid (fun (b : Int) hb => rin_c ok h1 sb S (HSET.out _ h1.below) b (i + q) hb)
    have x1 : wr.cell? ⟨w.heap.size, 1, none⟩ = some (.slice (some ⟨sb, 0, none⟩) 256 256) := by rw [cell_of_heap hxb, HXC.out]; rfl
    have x2 : wr.cell? ⟨w.heap.size, 2, none⟩ = some (.int .u8 hw) := by rw [cell_of_heap hxb, HXC.out]; rfl
    have HXB := Lib.hid hxb
    clear hgo hF1 h1 hxb
    cases hbl : belongsM (bytesOf E.s) S (i + q) with
    | true =>
      rw [hbl] at hst HB
      have hlt : i + q < E.s.size := by
        apply Classical.byContradiction
        intro hc
        rw [belongs_no E.s S (i + q) (by omega)] at hbl
        cases hbl
      have HP2 := Lib.hid (rstep_c ok H1.out hn1)
      by_cases hlim : n1 + 1 ≤ maxSteps
      · have HDL := Lib.hid (decide_eq_false (show ¬ maxSteps < n1 + 1 by omega))
        have HG := Lib.hid (show countM S ((bytesOf E.s).drop (i + (q + 1))) (q + 1) (n1 + 1, cs) = C from by rw [hst]; simp only [if_true, hlim]; rfl)
        clear hst hbl
        go_wp2_with (go_at_call 80; refine (HB.out _ (by omega)).mono ?_; rintro e w' ⟨rfl, rfl⟩)
        refine HP2.out.mono ?_
        rintro e w3 ⟨rfl, h3, hF3⟩
        rw [HDL.out]
        have hxb3 : w3.heap[w.heap.size]? = some (.cells XC 114 (0, 0)) := (hF3.block _ hxs (by omega) (by omega)).trans HXB.out
        have HN := Lib.hid (show RCntRel E w S i C cs XC (E.s.size - (i + (q + 1))) (.int .i64 ((q : Int) + 1)) w3 from ⟨q + 1, n1 + 1, rfl, rfl, by omega, h3, hlim, HF1.out.trans hF3, hxb3, (Array.getElem?_eq_some_iff.1 hxb3).1, HG.out⟩)
        clear hxb3
        clear h3 hF3
        go_wp2
        go_roundg (E.s.size - (i + (q + 1)))
        case measure => omega
        case rel => exact HN.out
      · have HDL := Lib.hid (decide_eq_true (show maxSteps < n1 + 1 by omega))
        have HG := Lib.hid (show R = none from by rw [HRC.out, hst]; simp only [if_true, hlim, if_false]; rfl)
        clear hst hbl
        go_wp2_with (go_at_call 80; refine (HB.out _ (by omega)).mono ?_; rintro e w' ⟨rfl, rfl⟩)
        refine HP2.out.mono ?_
        rintro e w3 ⟨rfl, h3, hF3⟩
        rw [HDL.out]
        have H3 := Lib.hid h3
        have HF3 := Lib.hid (HF1.out.trans hF3)
        clear h3 hF3
        go_wp2
        go_ret2
        exact rp_over HG.out HF3.out (by omega) (by omega) H3.out
    | false =>
      rw [hbl] at hst HB
      have HD0 := Lib.hid (show RDownRel E w (nextM E j) i least R cs (q + 1) (.int .i64 (q : Int)) wr from ⟨q, n1, by omega, rfl, by omega, by omega, HF1.out, .inl ⟨q, rfl, by omega, H1.out, hn1, by rw [HRC.out, hst]; rfl⟩⟩)
      clear hst hbl
      rcases HTQ.out with ⟨tq, hlq⟩ | ⟨tq, hlq⟩
      all_goals
        go_wp2_with (go_at_call 80; refine (HB.out _ (by omega)).mono ?_; rintro e w' ⟨rfl, rfl⟩)
        clear HB HF1 H1 x1 x2 HXB
        go_loopg [10] (q + 1) (fun gg v wr => RDownRel E w (nextM E j) i least R cs gg v wr)
        case atStart => exact HD0.out
        case round =>
          clear HD0
          obtain ⟨u, n2, rfl, rfl, hu1, hu2, hF1, hcase⟩ := hrel
          have HF1 := Lib.hid hF1
          clear hF1
          rcases hcase with ⟨m, rfl, him, h1, hn2, hgo⟩ | ⟨hlow, h1, hn2, hgo⟩ | ⟨cs', h1, hov, hov2, hgo⟩
          · have m3 : wr.cell? ⟨E.nb, 3, none⟩ = some (.int .i64 n2) := by rw [cell_of_heap h1.hm]; rfl
            have tov : (n2 : Int) ≤ 100000 := by unfold maxSteps at hn2; omega
            have H1 := Lib.hid h1
            have HGO := Lib.hid hgo
            clear h1 hgo
            by_cases hlow : m < least
            · first
              | (exfalso; omega)
              | (have HG := Lib.hid (show R = some (none, (n2, cs)) from by rw [← HGO.out]; exact down_low _ _ _ _ _ hlow)
                 have hl2 : ¬ ((least : Int) ≤ (m : Int)) := by omega
                 go_wp2
                 go_ret2
                 exact rp_no HG.out HF1.out hn2 H1.out)
            · have hl2 : ((least : Int) ≤ (m : Int)) := by omega
              go_wp2_with fail
              refine (hm _ n2 cs _ _ (i + m) H1.out hn2 him (hco.mono (by omega)) (by omega) (by omega)).mono ?_
              rintro e w1 ⟨hF2, hp⟩
              have HF2 := Lib.hid (HF1.out.trans hF2)
              clear hF2
              cases hr : nextM E j (i + m) (n2, cs) with
              | none =>
                rw [show matchM (bytesOf E.s) E.fin (E.items.drop (j + 1)) (i + m) (n2, cs) = none from hr] at hp
                obtain ⟨x, n', cs', rfl, hn3, hn4, h2⟩ := hp
                have HN := Lib.hid (show RDownRel E w (nextM E j) i least R cs m (.int .i64 ((m : Int) - 1)) w1 from
                  ⟨(m : Int) - 1, n', by omega, rfl, by omega, by omega, HF2.out, .inr (.inr ⟨cs', h2, hn3, hn4, HGO.out.symm.trans (down_over _ _ _ _ _ (by omega) hr)⟩)⟩)
                clear hr h2
                go_wp2
                go_roundg m
                case measure => omega
                case rel => exact HN.out
              | some qq =>
                obtain ⟨o, n', cs'⟩ := qq
                rw [show matchM (bytesOf E.s) E.fin (E.items.drop (j + 1)) (i + m) (n2, cs) = some (o, (n', cs')) from hr] at hp
                cases o with
                | some e =>
                  obtain ⟨rfl, hn3, hk2, h2⟩ := hp
                  have HG := Lib.hid (HGO.out.symm.trans (down_some _ _ _ _ _ _ _ (by omega) hr))
                  have H2 := Lib.hid h2
                  clear hr h2
                  go_wp2
                  go_ret2
                  exact rp_yes HG.out HF2.out hn3 hk2 H2.out
                | none =>
                  obtain ⟨x, rfl, hn3, h2⟩ := hp
                  have hcs := next_same hwf him (hco.mono (by omega)) hr
                  subst hcs
                  have HN := Lib.hid (show RDownRel E w (nextM E j) i least R cs m (.int .i64 ((m : Int) - 1)) w1 from by
                    refine ⟨(m : Int) - 1, n', by omega, rfl, by omega, by omega, HF2.out, ?_⟩
                    cases m with
                    | zero => exact .inr (.inl ⟨by omega, h2, hn3, HGO.out.symm.trans (down_zero _ _ _ _ _ (by omega) hr)⟩)
                    | succ m' => exact .inl ⟨m', by omega, by omega, h2, hn3, (down_succ _ _ _ _ _ _ (by omega) hr).symm.trans HGO.out⟩)
                  clear hr h2
                  go_wp2
                  go_roundg m
                  case measure => omega
                  case rel => exact HN.out
          · have m3 : wr.cell? ⟨E.nb, 3, none⟩ = some (.int .i64 n2) := by rw [cell_of_heap h1.hm]; rfl
            have tov : (n2 : Int) ≤ 100000 := by unfold maxSteps at hn2; omega
            have HG := Lib.hid hgo
            have H1 := Lib.hid h1
            have hl2 : ¬ ((least : Int) ≤ u) := by omega
            clear h1 hgo
            go_wp2
            go_ret2
            exact rp_no HG.out HF1.out hn2 H1.out
          · have m3 : wr.cell? ⟨E.nb, 3, none⟩ = some (.int .i64 n2) := by rw [cell_of_heap h1.hm]; rfl
            have tov : ¬ (n2 : Int) ≤ 100000 := by unfold maxSteps at hov; omega
            have HG := Lib.hid hgo
            have H1 := Lib.hid h1
            clear h1 hgo
            by_cases hl2 : (least : Int) ≤ u
            · go_wp2
              go_ret2
              exact rp_over HG.out HF1.out hov hov2 H1.out
            · go_wp2
              go_ret2
              exact rp_over HG.out HF1.out hov hov2 H1.out
end Go.Proofs.YtpbhncmaamedhaaDoor
