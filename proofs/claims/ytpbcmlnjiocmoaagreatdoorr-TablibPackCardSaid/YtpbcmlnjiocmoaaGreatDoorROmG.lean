import Derived.Test.YtpbcmlnjiocmoaaGreatDoorRCdA
set_option linter.unusedVariables false
set_option linter.unusedSimpArgs false
set_option maxRecDepth 100000
namespace Go.Proofs.YtpbcmlnjiocmoaaGreatDoorR
open Go.RowKit Go.Proofs.Lexi
theorem liveN_cons (s : Sl) (L : List Sl) : liveN (s :: L) = (if s.g then 0 else 1) + liveN L := by
  unfold liveN
  cases hg : s.g <;> simp [hg] <;> omega
theorem liveN_set : ∀ (L : List Sl) (n : Nat) (s x : Sl), L[n]? = some s → s.g = false → liveN (L.set n x) = liveN L - (if x.g then 1 else 0) ∧ 1 ≤ liveN L
  | [], n, s, x, h, _ => by simp at h
  | a :: L, 0, s, x, h, hg => by
    rw [List.getElem?_cons_zero] at h
    injection h with h
    subst h
    rw [List.set_cons_zero, liveN_cons, liveN_cons, hg]
    cases x.g <;> simp
  | a :: L, n + 1, s, x, h, hg => by
    rw [List.getElem?_cons_succ] at h
    obtain ⟨h1, h2⟩ := liveN_set L n s x h hg
    rw [List.set_cons_succ, liveN_cons, liveN_cons, h1]
    cases x.g <;> simp <;> omega
theorem wf_set {L : List Sl} (h : ∀ s ∈ L, WfV s.k ∧ WfV s.v) (n : Nat) {x : Sl} (hx : WfV x.k ∧ WfV x.v) : ∀ s ∈ L.set n x, WfV s.k ∧ WfV s.v := by
  intro s hs
  rcases List.mem_or_eq_of_mem_set hs with h1 | h1
  · exact h s h1
  · rw [h1]; exact hx
theorem wf_nil : WfV V.nil := ⟨⟨by decide, by decide⟩, ⟨by decide, by decide⟩, ⟨by decide, by decide⟩, by decide, ⟨by decide, by decide⟩⟩
theorem om_keep_below {w w' : World} {m g : Nat} {sv : Value} {L : List Sl} (h : OMap w m g sv L) (hb : Below w.heap.size w w') : OMap w' m g sv L :=
  h.keep (hb.block _ (Array.getElem?_eq_some_iff.1 h.hm).1) (by obtain ⟨E, f, hE, _⟩ := h.map; exact hb.block _ hE.lt) (fun b e => hb.block _ (ownBlock_lt h.row e).2)
theorem om_same {w w' : World} {m g : Nat} {sv : Value} {L : List Sl} {e : Ending} (h : OMap w m g sv L) (he : e = .returned (.int .i64 0)) (hb : Below w.heap.size w w') : OmPost w m g sv L e w' :=
  ⟨he, sv, om_keep_below h hb, Mods.of_below hb, fun _ h => .inl h⟩
theorem om_remove {w w2 : World} {m g rb cap n : Nat} {L : List Sl} {sl : Sl} {k : V} {f : V → Option Nat} {E : List (Value × Value)}
    (hm : w.heap[m]? = some (.cells #[.slice (some ⟨rb, 0, none⟩) L.length cap, .map (some g), .int .i64 (liveN L : Nat)] 144)) (hrow : w.ownsRow 0 146 11 (.slice (some ⟨rb, 0, none⟩) L.length cap) L.length (rowSl L))
    (hwf : ∀ s ∈ L, WfV s.k ∧ WfV s.v) (hE : MapAt Tryz.prog 30 w g E) (hG : Graph E f) (hI : Idx L f) (hf : f k = some n) (hs : L[n]? = some sl) (hg : sl.g = false) (hk : WfV k) (hb : Below w.heap.size w w2) :
    OmPost w m g (.slice (some ⟨rb, 0, none⟩) L.length cap) (L.set n ⟨k, V.nil, true⟩) (.returned (.int .i64 0)) ((setCells w2 rb (n * 11) (slCells ⟨k, V.nil, true⟩)).setCell ⟨m, 2, none⟩ (.int .i64 ((liveN L : Nat) - 1 : Int))) := by
  have hn : n < L.length := (List.getElem?_eq_some_iff.1 hs).1
  have hmr : m ≠ rb := fun e => mrb hm hrow e
  have hgr : g ≠ rb := by obtain ⟨es, c, hh, _⟩ := id hE; exact fun e => row_ne hrow hh rb rfl e.symm
  have hgm : g ≠ m := by obtain ⟨es, c, hh, _⟩ := id hE; intro e; rw [e, hm] at hh; cases hh
  have hml := (Array.getElem?_eq_some_iff.1 hm).1
  obtain ⟨l1, l2⟩ := liveN_set L n sl ⟨k, V.nil, true⟩ hs hg
  have hm2 : (setCells w2 rb (n * 11) (slCells ⟨k, V.nil, true⟩)).heap[m]? = some (.cells #[.slice (some ⟨rb, 0, none⟩) L.length cap, .map (some g), .int .i64 (liveN L : Nat)] 144) := by
    rw [setCells_other hmr]; exact hkeep hb hm
  refine ⟨rfl, _, ⟨?_, ?_, wf_set hwf n ⟨hk, wf_nil⟩, E, f, hE.keep ?_, hG, hI.remove hf⟩, ?_, fun _ h => .inl h⟩
  · rw [heap_setCell_same hm2 2 (.int .i64 ((liveN L : Nat) - 1 : Int)), l1]
    have : (((liveN L - (if (⟨k, V.nil, true⟩ : Sl).g = true then 1 else 0) : Nat)) : Int) = (liveN L : Nat) - 1 := by
      show (((liveN L - 1 : Nat)) : Int) = _
      omega
    rw [this]
    rfl
  · have h3 := ownsRow_setCells (slCells ⟨k, V.nil, true⟩) w2 (rowSl L) (n * 11) (ownsRow_ext (below_ext hb (Nat.le_refl _)) hrow)
    rw [rowSl_set hn] at h3
    rw [List.length_set]
    exact ownsRow_keep h3 (fun b hb => Below.heap_setCell _ _ _ _ (by injection hb with hb; subst hb; exact fun e => hmr e.symm))
  · rw [Below.heap_setCell _ _ _ _ hgm, setCells_other hgr]
    exact hb.block _ hE.lt
  · exact mods_setCell (mods_setCells (.inl (.inr (.inr rfl))) _ _ _ (Mods.of_below hb)) (.inl (.inl rfl)) _
theorem om_write {w w2 : World} {m g rb cap n : Nat} {L : List Sl} {sl : Sl} {k v : V} {f : V → Option Nat} {E : List (Value × Value)}
    (hm : w.heap[m]? = some (.cells #[.slice (some ⟨rb, 0, none⟩) L.length cap, .map (some g), .int .i64 (liveN L : Nat)] 144)) (hrow : w.ownsRow 0 146 11 (.slice (some ⟨rb, 0, none⟩) L.length cap) L.length (rowSl L))
    (hwf : ∀ s ∈ L, WfV s.k ∧ WfV s.v) (hE : MapAt Tryz.prog 30 w g E) (hG : Graph E f) (hI : Idx L f) (hf : f k = some n) (hs : L[n]? = some sl) (hg : sl.g = false) (hk : WfV k) (hv : WfV v) (hb : Below w.heap.size w w2) :
    OmPost w m g (.slice (some ⟨rb, 0, none⟩) L.length cap) (L.set n ⟨k, v, false⟩) (.returned (.int .i64 0)) (setCells w2 rb (n * 11 + 5) (valCells v)) := by
  have hn : n < L.length := (List.getElem?_eq_some_iff.1 hs).1
  have hmr : m ≠ rb := fun e => mrb hm hrow e
  have hgr : g ≠ rb := by obtain ⟨es, c, hh, _⟩ := id hE; exact fun e => row_ne hrow hh rb rfl e.symm
  have hsk : sl.k = k := by
    obtain ⟨s', h1, h2⟩ := hI.key k n hf
    rw [hs] at h1
    injection h1 with h1
    subst h1
    exact h2
  obtain ⟨l1, l2⟩ := liveN_set L n sl ⟨k, v, false⟩ hs hg
  refine ⟨rfl, _, ⟨?_, ?_, wf_set hwf n ⟨hk, hv⟩, E, f, hE.keep ?_, hG, hI.write hf⟩, ?_, fun _ h => .inl h⟩
  · rw [setCells_other hmr, l1]
    exact hkeep hb hm
  · have h3 := ownsRow_setCells (valCells v) w2 (rowSl L) (n * 11 + 5) (ownsRow_ext (below_ext hb (Nat.le_refl _)) hrow)
    rw [rowSl_setVal hs, hsk, hg] at h3
    rw [List.length_set]
    exact h3
  · rw [setCells_other hgr]
    exact hb.block _ hE.lt
  · exact mods_setCells (.inl (.inr (.inr rfl))) _ _ _ (Mods.of_below hb)
/-- What a call changes, by the blocks' types. -/
def TMods (S : Obj → Prop) (w w' : World) : Prop := Mods (fun b => ∃ o, w.heap[b]? = some o ∧ S o) w w'
theorem TMods.of_below {S : Obj → Prop} {w w' : World} (h : Below w.heap.size w w') : TMods S w w' := Mods.of_below h
theorem TMods.trans {S : Obj → Prop} {a b c : World} (h : TMods S a b) (k : TMods S b c) : TMods S a c := by
  refine ⟨k.os.trans h.os, k.tape.trans h.tape, k.output.trans h.output, Nat.le_trans h.size k.size, fun i hi hF => ?_⟩
  have h1 := h.block i hi hF
  exact (k.block i (Nat.lt_of_lt_of_le hi h.size) (fun ⟨o, h2, h3⟩ => hF ⟨o, h1 ▸ h2, h3⟩)).trans h1
theorem TMods.drew {S : Obj → Prop} {a b : World} (h : TMods S a b) : TMods S a b.drew := h.trans (TMods.of_below (Below.refl _ _).drew)
theorem TMods.drewN {S : Obj → Prop} {a b : World} (h : TMods S a b) (n : Nat) : TMods S a (b.drewN n) := h.trans (TMods.of_below (bdn (Below.refl _ _) n))
theorem TMods.alloc {S : Obj → Prop} {a b : World} (h : TMods S a b) (o : Obj) : TMods S a (b.alloc o) := h.trans (TMods.of_below ((Below.refl _ _).alloc (Nat.le_refl _) o))
/-- A block that has another type stays. -/
theorem TMods.keep {S : Obj → Prop} {w w' : World} (h : TMods S w w') {b : Nat} {o : Obj} (hb : w.heap[b]? = some o) (hS : ¬ S o) : w'.heap[b]? = some o :=
  (h.block b (Array.getElem?_eq_some_iff.1 hb).1 (fun ⟨o2, h1, h2⟩ => hS (by rw [hb] at h1; injection h1 with h1; rw [h1]; exact h2))).trans hb
theorem TMods.setCell {S : Obj → Prop} {a b : World} (h : TMods S a b) {k o : Nat} (hk : a.heap.size ≤ k ∨ ∃ x, a.heap[k]? = some x ∧ S x) (u : Value) : TMods S a (b.setCell ⟨k, o, none⟩ u) := mods_setCell h hk.symm u
/-- The blocks of the program's heaps. -/
def PB : Obj → Prop
  | .map _ _ => True
  | .cells _ t _ => t = 144 ∨ t = 146 ∨ t = 126 ∨ t = 94 ∨ t = 63
  | _ => False
theorem row_block {w : World} {base e size n : Nat} {sv : Value} {xs : List Value} (h : w.ownsRow base e size sv n xs) {b : Nat} (hb : sv.ownBlock = some b) : ∃ cs, w.heap[b]? = some (.cells cs e (0, 0)) := by
  rcases h.2 with ⟨h2, _⟩ | ⟨g', cap', cur, h2, h3, h4, _⟩
  · rw [h2] at hb; cases hb
  · rw [h2] at hb
    injection hb with hb
    subst hb
    exact ⟨_, h4⟩
structure TabAt (w : World) (t m g : Nat) (sv : Value) (L : List Sl) : Prop where
  ht : w.heap[t]? = some (.cells #[.slice none 0 0, .pointer (some ⟨m, 0, none⟩)] 126)
  om : OMap w m g sv L
theorem valid_str {s : ByteArray} (h : s.size ≤ 4096) : validV (strV s) = true := by
  unfold validV strV noNum
  simp [h]
theorem i64_lit : i64 0 ∧ i64 3 := ⟨⟨by decide, by decide⟩, ⟨by decide, by decide⟩⟩
theorem wf_str {s : ByteArray} (h : s.size ≤ 4096) : WfV (strV s) := ⟨i64_lit.2, i64_lit.1, i64_lit.1, by show s.size ≤ maxLen; unfold maxLen; omega, i64_lit.1⟩
def IntBool (w : World) (n : Int) (b : Bool) (e : Ending) (w' : World) : Prop := e = .returned (.tuple #[.int .i64 n, .bool b]) ∧ Below w.heap.size w w'
theorem TabAt.keep {w w' : World} {t m g : Nat} {sv : Value} {L : List Sl} (h : TabAt w t m g sv L) (h0 : w'.heap[t]? = w.heap[t]?) (h1 : w'.heap[m]? = w.heap[m]?) (h2 : w'.heap[g]? = w.heap[g]?) (h3 : ∀ b, sv.ownBlock = some b → w'.heap[b]? = w.heap[b]?) : TabAt w' t m g sv L :=
  ⟨h0.trans h.ht, h.om.keep h1 h2 h3⟩
theorem TabAt.below {w w' : World} {t m g : Nat} {sv : Value} {L : List Sl} (h : TabAt w t m g sv L) (hb : Below w.heap.size w w') : TabAt w' t m g sv L := ⟨hkeep hb h.ht, om_keep_below h.om hb⟩
def vCells (v : V) : List Value := [.int .i64 v.k, .int .i64 v.p, .int .i64 v.q, .string v.s, .int .i64 v.r]
def rowV (A : List V) : List Value := A.flatMap vCells
theorem vCells_len (v : V) : (vCells v).length = 5 := rfl
theorem rowV_len (A : List V) : (rowV A).length = A.length * 5 := by
  induction A with
  | nil => rfl
  | cons v A ih => show (vCells v ++ rowV A).length = _; rw [List.length_append, vCells_len, ih, List.length_cons]; omega
theorem rowV_at : ∀ (A : List V) (i j : Nat) (v : V), A[i]? = some v → j < 5 → (rowV A)[i * 5 + j]? = (vCells v)[j]?
  | [], i, j, v, h, _ => by simp at h
  | x :: A, 0, j, v, h, hj => by
    rw [List.getElem?_cons_zero] at h
    injection h with h
    subst h
    show (vCells x ++ rowV A)[0 * 5 + j]? = _
    rw [List.getElem?_append_left (by rw [vCells_len]; omega)]
    congr 1
    omega
  | x :: A, i + 1, j, v, h, hj => by
    rw [List.getElem?_cons_succ] at h
    show (vCells x ++ rowV A)[(i + 1) * 5 + j]? = _
    rw [List.getElem?_append_right (by rw [vCells_len]; omega), vCells_len, show (i + 1) * 5 + j - 5 = i * 5 + j by omega]
    exact rowV_at A i j v h hj
theorem rowV_append (A B : List V) : rowV (A ++ B) = rowV A ++ rowV B := by unfold rowV; rw [List.flatMap_append]
theorem rowV_one {A : List V} : ∀ u ∈ rowV A, u.oneCell' = true := by
  intro u hu
  unfold rowV at hu
  rw [List.mem_flatMap] at hu
  obtain ⟨v, _, hu⟩ := hu
  simp only [vCells, List.mem_cons, List.mem_nil_iff, or_false] at hu
  rcases hu with rfl | rfl | rfl | rfl | rfl <;> rfl
theorem rowV_drop (A : List V) (k : Nat) : rowV (A.drop k) = (rowV A).drop (k * 5) := by
  induction A generalizing k with
  | nil => simp [rowV]
  | cons v A ih =>
    cases k with
    | zero => simp
    | succ k =>
      rw [List.drop_succ_cons, ih]
      show _ = (vCells v ++ rowV A).drop ((k + 1) * 5)
      rw [List.drop_append, show (vCells v).drop ((k + 1) * 5) = [] from List.drop_eq_nil_of_le (by rw [vCells_len]; omega), vCells_len, List.nil_append, show (k + 1) * 5 - 5 = k * 5 by omega]
theorem add_mk (g o n : Nat) (s : Option Nat) : (⟨g, o, s⟩ : Addr).add n = ⟨g, o + n, if n = 0 then s else none⟩ := by
  unfold Addr.add
  split
  · rename_i h; subst h; rfl
  · rfl
theorem add_none (g o n : Nat) : (⟨g, o, none⟩ : Addr).add n = ⟨g, o + n, none⟩ := by rw [add_mk]; split <;> rfl
theorem add_two (a : Addr) (n k : Nat) : (a.add n).add k = a.add (n + k) := by
  obtain ⟨g, o, s⟩ := a
  rw [add_mk, add_mk, add_mk]
  by_cases hn : n = 0
  · subst hn; simp
  · by_cases hk : k = 0
    · subst hk; simp
    · rw [if_neg hn, if_neg hk, if_neg (by omega)]
      simp; omega
/-- The slice sv holds the values A, for whoever reads. -/
def Vals (w : World) (sv : Value) (A : List V) : Prop :=
  ∃ so cap, sv = .slice so A.length cap ∧ A.length ≤ cap ∧ (so = none → cap = 0) ∧ (A = [] ∨ ∃ g o, so = some ⟨g, o, none⟩ ∧ g < w.heap.size ∧ ∀ j u, (rowV A)[j]? = some u → w.cell? ⟨g, o + j, none⟩ = some u)
theorem Vals.below {w w' : World} {sv : Value} {A : List V} (h : Vals w sv A) (hb : Below w.heap.size w w') : Vals w' sv A := by
  obtain ⟨so, cap, h1, h2, hn, h3⟩ := h
  refine ⟨so, cap, h1, h2, hn, ?_⟩
  rcases h3 with h3 | ⟨g, o, h4, h5, h6⟩
  · exact .inl h3
  · exact .inr ⟨g, o, h4, Nat.lt_of_lt_of_le h5 hb.size, fun j u hj => keepCell hb (h6 j u hj)⟩
theorem Vals.of_row {w : World} {base : Nat} {sv : Value} {A : List V} (h : w.ownsRow base 30 5 sv A.length (rowV A)) : Vals w sv A := by
  obtain ⟨h1, h2⟩ := h
  rcases h2 with ⟨rfl, h3⟩ | ⟨g, cap, cur, rfl, hbg, hg, hn, hm, hc, ht⟩
  · have hA : A = [] := List.eq_nil_of_length_eq_zero h3
    subst hA
    exact ⟨none, 0, rfl, Nat.le_refl _, fun _ => rfl, .inl rfl⟩
  · refine ⟨_, cap, rfl, hn, (fun h => by cases h), .inr ⟨g, 0, rfl, (Array.getElem?_eq_some_iff.1 hg).1, fun j u hj => ?_⟩⟩
    rw [cell_of_heap hg, Nat.zero_add]
    rw [← ht, List.getElem?_take] at hj
    split at hj
    · rw [← Array.getElem?_toList]; exact hj
    · cases hj
theorem Vals.at_ {w : World} {g o n cap : Nat} {A : List V} (h : Vals w (.slice (some ⟨g, o, none⟩) n cap) A) {i : Nat} {v : V} (hi : A[i]? = some v) :
    g < w.heap.size ∧ w.cell? ⟨g, o + i * 5, none⟩ = some (.int .i64 v.k) ∧ w.cell? ⟨g, o + i * 5 + 1, none⟩ = some (.int .i64 v.p) ∧ w.cell? ⟨g, o + i * 5 + 2, none⟩ = some (.int .i64 v.q) ∧ w.cell? ⟨g, o + i * 5 + 3, none⟩ = some (.string v.s) ∧ w.cell? ⟨g, o + i * 5 + 4, none⟩ = some (.int .i64 v.r) := by
  obtain ⟨so, c, h1, h2, hn, h3⟩ := h
  injection h1 with h1 h4 h5
  rcases h3 with rfl | ⟨g2, o2, h6, h7, h8⟩
  · simp at hi
  · rw [h6] at h1
    injection h1 with h1
    injection h1 with h1 h9 h10
    subst h1 h9
    have hx : ∀ j u, j < 5 → (vCells v)[j]? = some u → w.cell? ⟨g, o + i * 5 + j, none⟩ = some u := fun j u hj hu => by
      rw [Nat.add_assoc]
      exact h8 _ _ ((rowV_at A i j v hi hj).trans hu)
    exact ⟨h7, hx 0 _ (by omega) rfl, hx 1 _ (by omega) rfl, hx 2 _ (by omega) rfl, hx 3 _ (by omega) rfl, hx 4 _ (by omega) rfl⟩
theorem Vals.drop {w : World} {g o n cap : Nat} {A : List V} (h : Vals w (.slice (some ⟨g, o, none⟩) n cap) A) (k : Nat) (hk : k ≤ n) : Vals w (.slice (some ⟨g, o + k * 5, none⟩) (n - k) (cap - k)) (A.drop k) := by
  obtain ⟨so, c, h1, h2, hn, h3⟩ := h
  injection h1 with h1 h4 h5
  subst h4 h5
  refine ⟨_, _, by rw [List.length_drop], by rw [List.length_drop]; omega, (fun h => by cases h), ?_⟩
  rcases h3 with rfl | ⟨g2, o2, h6, h7, h8⟩
  · exact .inl List.drop_nil
  · rw [h6] at h1
    injection h1 with h1
    injection h1 with h1 h9 h10
    subst h1 h9
    refine .inr ⟨g, o + k * 5, rfl, h7, fun j u hj => ?_⟩
    rw [rowV_drop, List.getElem?_drop] at hj
    rw [Nat.add_assoc]
    exact h8 _ _ hj
theorem prj5a {c0 c1 c2 c3 c4 p : Prop} (h : c0 ∧ c1 ∧ c2 ∧ c3 ∧ c4 ∧ Hid p) : p := h.2.2.2.2.2.out
theorem mkeep {F : Nat → Prop} {w w' : World} (hm : Mods F w w') {b : Nat} {o : Obj} (h : w.heap[b]? = some o) (hF : ¬ F b) : w'.heap[b]? = some o := (hm.block b (Array.getElem?_eq_some_iff.1 h).1 hF).trans h
theorem mods_next {F : Nat → Prop} {a b c : World} (h : Mods F a b) (k : Below b.heap.size b c) : Mods F a c := Mods.trans h (Mods.of_below k)
theorem cells5 {w : World} {b : Nat} {c0 c1 c2 c3 c4 : Value} {t : TypeId} {fz : Nat × Nat} (h : w.heap[b]? = some (.cells #[c0, c1, c2, c3, c4] t fz)) :
    w.cell? ⟨b, 0, none⟩ = some c0 ∧ w.cell? ⟨b, 1, none⟩ = some c1 ∧ w.cell? ⟨b, 2, none⟩ = some c2 ∧ w.cell? ⟨b, 3, none⟩ = some c3 ∧ w.cell? ⟨b, 4, none⟩ = some c4 := by
  refine ⟨?_, ?_, ?_, ?_, ?_⟩ <;> (rw [cell_of_heap h]; rfl)
theorem froz5 {w : World} {b : Nat} {cs : Array Value} {t : TypeId} (h : w.heap[b]? = some (.cells cs t (0, 0))) :
    w.frozen? ⟨b, 0, none⟩ = false ∧ w.frozen? ⟨b, 1, none⟩ = false ∧ w.frozen? ⟨b, 2, none⟩ = false ∧ w.frozen? ⟨b, 3, none⟩ = false ∧ w.frozen? ⟨b, 4, none⟩ = false := by
  refine ⟨?_, ?_, ?_, ?_, ?_⟩ <;> exact frozen_of_heap h _
theorem below1 (w : World) (o : Obj) : Below w.heap.size w (w.alloc o) := (Below.refl _ _).alloc (Nat.le_refl _) o
theorem heap1 (w : World) (o : Obj) : (w.alloc o).heap[w.heap.size]? = some o := heap_new w o
theorem heap1_old {w : World} {b : Nat} {x : Obj} (h : w.heap[b]? = some x) (o : Obj) : (w.alloc o).heap[b]? = some x := hkeep ((Below.refl _ _).alloc (Nat.le_refl _) o) h
theorem heap_newD (w : World) (o : Obj) : (w.drew.alloc o).heap[w.heap.size]? = some o := heap_new w.drew o
theorem info25p : (Tryz.prog.info? 30).map (fun i => (i.zero, i.size, i.bytes)) = some (some (.agg #[.int .i64 0, .int .i64 0, .int .i64 0, .string ⟨#[]⟩, .int .i64 0]), 5, 48) := by kernel_rfl
theorem ne_of_types {w : World} {a b : Nat} {ca cb : Array Value} {ta tb : TypeId} {fa fb : Nat × Nat} (ha : w.heap[a]? = some (.cells ca ta fa)) (hb : w.heap[b]? = some (.cells cb tb fb)) (hne : ta ≠ tb) : a ≠ b := by
  rintro rfl
  rw [ha] at hb
  injection hb with hb
  injection hb with _ h2
  exact hne h2
theorem ne_map {w : World} {a b : Nat} {ca : Array Value} {ta : TypeId} {fa : Nat × Nat} {es : Array MapEntry} {c : Nat} (ha : w.heap[a]? = some (.cells ca ta fa)) (hb : w.heap[b]? = some (.map es c)) : a ≠ b := by
  rintro rfl
  rw [ha] at hb
  cases hb
theorem MapAt.obj {P : Program} {k : TypeId} {w : World} {b : Nat} {E : List (Value × Value)} (h : MapAt P k w b E) : ∃ es c, w.heap[b]? = some (.map es c) := by
  obtain ⟨es, c, hb, _⟩ := h
  exact ⟨es, c, hb⟩
/-- A block of cells that is no map's and no slots'. -/
theorem not_omF {w : World} {m g : Nat} {sv : Value} {L : List Sl} (h : OMap w m g sv L) {b : Nat} {cs : Array Value} {t : TypeId} {fz : Nat × Nat} (hb : w.heap[b]? = some (.cells cs t fz)) (h1 : t ≠ 144) (h2 : t ≠ 146) : ¬ OmF m g sv b := by
  rintro (e | e | e)
  · exact ne_of_types hb h.hm h1 e
  · obtain ⟨E, f, hE, _⟩ := h.map
    obtain ⟨es, c, hg⟩ := hE.obj
    exact ne_map hb hg e
  · obtain ⟨c2, hc⟩ := row_block h.row e
    exact ne_of_types hb hc h2 rfl
theorem not_omF_map {w : World} {m g : Nat} {sv : Value} {L : List Sl} (h : OMap w m g sv L) {b : Nat} {es : Array MapEntry} {c : Nat} (hb : w.heap[b]? = some (.map es c)) (h1 : g ≠ b) : ¬ OmF m g sv b := by
  rintro (e | e | e)
  · exact ne_map h.hm hb e.symm
  · exact h1 e.symm
  · obtain ⟨c2, hc⟩ := row_block h.row e
    exact ne_map hc hb rfl
/-- The slice av holds the values A, in a block of its own with room for its capacity at least. -/
def ListW (w : World) (av : Value) (A : List V) : Prop :=
  (av = .slice none 0 0 ∧ A = []) ∨ ∃ g cap cur, av = .slice (some ⟨g, 0, none⟩) A.length cap ∧ w.heap[g]? = some (.cells cur 30 (0, 0)) ∧ A.length ≤ cap ∧ cap ≤ maxLen ∧ cap * 5 ≤ cur.size ∧ cur.toList.take (A.length * 5) = rowV A
theorem listW_nil (w : World) : ListW w (.slice none 0 0) [] := .inl ⟨rfl, rfl⟩
theorem listW_row {w : World} {base : Nat} {av : Value} {A : List V} (h : w.ownsRow base 30 5 av A.length (rowV A)) : ListW w av A := by
  rcases h.2 with ⟨h1, h2⟩ | ⟨g, cap, cur, h1, _, h2, h3, h4, h5, h6⟩
  · exact .inl ⟨h1, List.eq_nil_of_length_eq_zero h2⟩
  · exact .inr ⟨g, cap, cur, h1, h2, h3, h4, Nat.le_of_eq h5.symm, h6⟩
theorem ListW.kept {w w' : World} {av : Value} {A : List V} (h : ListW w av A) (hk : ∀ g, av.ownBlock = some g → w'.heap[g]? = w.heap[g]?) : ListW w' av A := by
  rcases h with h | ⟨g, cap, cur, h1, h2, h3⟩
  · exact .inl h
  · exact .inr ⟨g, cap, cur, h1, (hk g (by rw [h1]; rfl)).trans h2, h3⟩
theorem listW_lt {w : World} {av : Value} {A : List V} (h : ListW w av A) {g : Nat} (hg : av.ownBlock = some g) : g < w.heap.size := by
  rcases h with ⟨h1, _⟩ | ⟨g2, cap, cur, h1, h2, _⟩
  · rw [h1] at hg; cases hg
  · rw [h1] at hg
    injection hg with hg
    subst hg
    exact (Array.getElem?_eq_some_iff.1 h2).1
theorem listW_below {w w' : World} {av : Value} {A : List V} (h : ListW w av A) (hb : Below w.heap.size w w') : ListW w' av A := ListW.kept h (fun _ hg => hb.block _ (listW_lt h hg))
theorem listW_shape {w : World} {av : Value} {A : List V} (h : ListW w av A) : ∃ so cap, av = .slice so A.length cap ∧ A.length ≤ cap := by
  rcases h with ⟨h1, rfl⟩ | ⟨g, cap, cur, h1, _, h3, _⟩
  · exact ⟨_, _, h1, Nat.le_refl _⟩
  · exact ⟨_, _, h1, h3⟩
theorem listW_some {w : World} {av : Value} {A : List V} (h : ListW w av A) (hA : A ≠ []) : ∃ g cap, av = .slice (some ⟨g, 0, none⟩) A.length cap ∧ g < w.heap.size ∧ A.length ≤ cap := by
  rcases h with ⟨_, h2⟩ | ⟨g, cap, cur, h1, h2, h3, _⟩
  · exact absurd h2 hA
  · exact ⟨g, cap, h1, (Array.getElem?_eq_some_iff.1 h2).1, h3⟩
theorem listW_cell {w : World} {g n cap : Nat} {A : List V} (h : ListW w (.slice (some ⟨g, 0, none⟩) n cap) A) {i j : Nat} {v : V} {u : Value} (hv : A[i]? = some v) (hu : (vCells v)[j]? = some u) (hj : j < 5) : w.cell? ⟨g, i * 5 + j, none⟩ = some u := by
  rcases h with ⟨h1, _⟩ | ⟨g2, c2, cur, h1, h2, h3, _, _, h6⟩
  · cases h1
  · injection h1 with h1 _ _
    injection h1 with h1
    injection h1 with h1 _ _
    subst h1
    have hi : i < A.length := (List.getElem?_eq_some_iff.1 hv).1
    rw [cell_of_heap h2, ← Array.getElem?_toList]
    have := rowV_at A i j v hv hj
    rw [← h6, List.getElem?_take, if_pos (by omega)] at this
    exact this.trans hu
theorem listW_five {w : World} {g n cap : Nat} {A : List V} (h : ListW w (.slice (some ⟨g, 0, none⟩) n cap) A) {i : Nat} {v : V} (hv : A[i]? = some v) :
    w.cell? ⟨g, i * 5, none⟩ = some (.int .i64 v.k) ∧ w.cell? ⟨g, i * 5 + 1, none⟩ = some (.int .i64 v.p) ∧ w.cell? ⟨g, i * 5 + 2, none⟩ = some (.int .i64 v.q) ∧ w.cell? ⟨g, i * 5 + 3, none⟩ = some (.string v.s) ∧ w.cell? ⟨g, i * 5 + 4, none⟩ = some (.int .i64 v.r) :=
  ⟨listW_cell h hv (j := 0) rfl (by decide), listW_cell h hv (j := 1) rfl (by decide), listW_cell h hv (j := 2) rfl (by decide), listW_cell h hv (j := 3) rfl (by decide), listW_cell h hv (j := 4) rfl (by decide)⟩
/-- append of one value. -/
theorem append_one {w : World} {v : Value} {A : List V} (h : ListW w v A) (hl : A.length ≤ 1000000) (ad : Addr) (c : Nat) (x : V) (hx : ∀ j u, (vCells x)[j]? = some u → w.cell? (ad.add j) = some u) (ty : TypeId) :
    ∃ v' w', (Builtin.append_ #[26, 26] ty #[v, .slice (some ad) 1 c]).run Tryz.prog w = .ok v' w' ∧ ListW w' v' (A ++ [x]) ∧ w.grownBy w' v.ownBlock ∧ (v'.ownBlock = v.ownBlock ∨ v'.ownBlock = some w.heap.size) := by
  obtain ⟨i5, hi5, hi5a, hi5b, hi5c⟩ := info_parts info25p
  have hx1 : ∀ u ∈ vCells x, u.oneCell' = true := fun u hu => rowV_one (A := [x]) u (by simpa [rowV] using hu)
  have hax : (A ++ [x]).length = A.length + 1 := by rw [List.length_append]; rfl
  have hrx : rowV (A ++ [x]) = rowV A ++ vCells x := by rw [rowV_append]; simp [rowV]
  rcases h with ⟨rfl, rfl⟩ | ⟨g, cap, cur, rfl, h2, h3, h4, h5, h6⟩
  · obtain ⟨v', w', hr, h7, h8, _, h9⟩ := run_append_own_at (P := Tryz.prog) w w.heap.size 26 ty 30 i5 _ 5 48 Tryz.underlying26 hi5 hi5a hi5b hi5c rfl (by decide) (.slice none 0 0) 0 [] (World.ownsRow_nil w _ _ _) ad 1 c (vCells x) rfl hx hx1 (by unfold maxLen; omega) (by omega) (Nat.le_refl _)
    refine ⟨v', w', hr, ?_, h8, h9⟩
    have e : ([] : List Value) ++ vCells x = rowV [x] := by simp [rowV]
    rw [e] at h7
    exact listW_row (A := [x]) h7
  · by_cases hroom : A.length + 1 ≤ cap
    · have hr := run_append_room (P := Tryz.prog) w 26 ty 30 i5 Tryz.underlying26 hi5 g A.length cap cur h2 ad 1 c (vCells x) (by rw [hi5b]; rfl) hx hx1 hroom (by rw [hi5b, vCells_len]; omega)
      refine ⟨_, _, hr, .inr ⟨g, cap, _, by rw [hax], setRow_heap w g cur _ _ _ h2, by omega, h4, ?_, ?_⟩, ⟨rfl, rfl, rfl, by simp, fun k _ hk => setRow_other w g k _ (fun e => hk (by simp [Value.ownBlock, e]))⟩, .inl rfl⟩
      · simp only [List.size_toArray, List.length_append, List.length_take, List.length_drop, Array.length_toList, hi5b, vCells_len]
        omega
      · rw [hi5b, h6, hrx, hax]
        show ((rowV A ++ vCells x) ++ _).take _ = _
        rw [List.take_append_of_le_length (by rw [List.length_append, rowV_len, vCells_len]; omega), List.take_of_length_le (by rw [List.length_append, rowV_len, vCells_len]; omega)]
    · have holds : ∀ j u, (rowV A)[j]? = some u → w.cell? ((⟨g, 0, none⟩ : Addr).add j) = some u := fun j u hj => by
        rw [add_none, Nat.zero_add, cell_of_heap h2, ← Array.getElem?_toList]
        rw [← h6, List.getElem?_take] at hj
        split at hj
        · exact hj
        · cases hj
      have hr := run_append_grow (P := Tryz.prog) w 26 ty 30 i5 _ Tryz.underlying26 hi5 hi5a ⟨g, 0, none⟩ A.length cap (rowV A) (by rw [hi5b]; exact rowV_len A) holds ad 1 c (vCells x) (by rw [hi5b]; rfl) hx (by omega) (by omega) (growslice_fits (by omega) (by rw [hi5c]; omega))
      have hge := grownCap_ge w (A.length + 1) cap 30
      have hle := grownCap_le_maxLen w (A.length + 1) cap 30 (by unfold maxLen; omega)
      refine ⟨_, _, hr, .inr ⟨w.heap.size, _, _, by rw [hax], Go.heap_alloc_new w.drew _, by omega, hle, ?_, ?_⟩, ⟨rfl, rfl, rfl, by simp, fun k hk _ => Below.heap_alloc w.drew _ k hk⟩, .inr rfl⟩
      · have hz : ∀ n, (Builtin.zeroCells (Value.cells (.agg #[.int .i64 0, .int .i64 0, .int .i64 0, .string ⟨#[]⟩, .int .i64 0])) n).size = n * 5 := fun n => size_zeroCells _ n
        simp only [Array.size_append, List.size_toArray, rowV_len, vCells_len, hz]
        omega
      · rw [hrx, hax]
        simp only [Array.toList_append, List.append_assoc]
        rw [← List.append_assoc, List.take_append_of_le_length (by rw [List.length_append, rowV_len, vCells_len]; omega), List.take_of_length_le (by rw [List.length_append, rowV_len, vCells_len]; omega)]
/-- A table in memory: its list A (in av), its map L. -/
structure TabW (w : World) (t m g : Nat) (sv : Value) (L : List Sl) (av : Value) (A : List V) : Prop where
  ht : w.heap[t]? = some (.cells #[av, .pointer (some ⟨m, 0, none⟩)] 126)
  lw : ListW w av A
  wfA : ∀ v ∈ A, WfV v ∧ validV v = true
  om : OMap w m g sv L
def inA (A : List V) (k : V) : Bool := intB k && decide (1 ≤ k.p ∧ k.p ≤ A.length)
def tgetM (A : List V) (L : List Sl) (k : V) : V := if inA A k then A.getD (k.p.toNat - 1) V.nil else getM L k
/-- Blocks of different types are different. -/
theorem obj_ne {w : World} {b c : Nat} {o1 o2 : Obj} (h1 : w.heap[b]? = some o1) (h2 : w.heap[c]? = some o2) (hne : o1 ≠ o2) : b ≠ c := fun e => by
  subst e
  rw [h1] at h2
  injection h2 with h2
  exact hne h2
theorem cells_ne {a b : Array Value} {t u : TypeId} {f f2 : Nat × Nat} (h : t ≠ u) : Obj.cells a t f ≠ Obj.cells b u f2 := fun e => by injection e with _ e; exact h e
theorem listW_block {w : World} {av : Value} {A : List V} (h : ListW w av A) {g : Nat} (hg : av.ownBlock = some g) : ∃ cur, w.heap[g]? = some (.cells cur 30 (0, 0)) := by
  rcases h with ⟨h1, _⟩ | ⟨g2, cap, cur, h1, h2, _⟩
  · rw [h1] at hg; cases hg
  · rw [h1] at hg
    injection hg with hg
    subst hg
    exact ⟨cur, h2⟩
/-- The map of a table stays where blocks of other types change. -/
theorem om_keepT {w w' : World} {m g : Nat} {sv : Value} {L : List Sl} (h : OMap w m g sv L) (hk : ∀ b, b < w.heap.size → (∀ cs, w.heap[b]? = some (.cells cs 144 (0, 0)) → w'.heap[b]? = w.heap[b]?) ∧ (∀ es c, w.heap[b]? = some (.map es c) → w'.heap[b]? = w.heap[b]?) ∧ (∀ cs, w.heap[b]? = some (.cells cs 146 (0, 0)) → w'.heap[b]? = w.heap[b]?)) : OMap w' m g sv L := by
  refine OMap.keep h ?_ ?_ ?_
  · exact (hk m (Array.getElem?_eq_some_iff.1 h.hm).1).1 _ h.hm
  · obtain ⟨E, f, ⟨es, c, hE, _⟩, _⟩ := h.map
    exact (hk g (Array.getElem?_eq_some_iff.1 hE).1).2.1 _ _ hE
  · intro b hb
    obtain ⟨cs, hc⟩ := row_block h.row hb
    exact (hk b (Array.getElem?_eq_some_iff.1 hc).1).2.2 _ hc
/-- What a write to a table's list changes. -/
def TbF (t : Nat) (av : Value) (b : Nat) : Prop := b = t ∨ av.ownBlock = some b
theorem om_keepF {w w' : World} {m g t : Nat} {sv av : Value} {L : List Sl} {A : List V} {cs : Array Value} (h : OMap w m g sv L) (ht : w.heap[t]? = some (.cells cs 126 (0, 0))) (hl : ListW w av A) (hm : Mods (TbF t av) w w') : OMap w' m g sv L := by
  refine om_keepT h (fun b hb => ⟨fun c hc => ?_, fun es c hc => ?_, fun c hc => ?_⟩)
  all_goals
    refine hm.block b hb (fun hF => ?_)
    rcases hF with rfl | hF
    · rw [ht] at hc
      first | (injection hc with hc; injection hc with _ hc; exact absurd hc (by decide)) | (injection hc with hc; cases hc)
    · obtain ⟨cur, hcur⟩ := listW_block hl hF
      rw [hcur] at hc
      first | (injection hc with hc; injection hc with _ hc; exact absurd hc (by decide)) | (injection hc with hc; cases hc)
theorem tabW_below {w w' : World} {t m g : Nat} {sv av : Value} {L : List Sl} {A : List V} (h : TabW w t m g sv L av A) (hb : Below w.heap.size w w') : TabW w' t m g sv L av A :=
  ⟨hkeep hb h.ht, listW_below h.lw hb, h.wfA, om_keep_below h.om hb⟩
def TSetPost (w : World) (t m g : Nat) (sv : Value) (L : List Sl) (av : Value) (A : List V) (e : Ending) (w' : World) : Prop :=
  e = .returned (.int .i64 0) ∧ ∃ av', TabW w' t m g sv L av' A ∧ (∀ b, av'.ownBlock = some b → av.ownBlock = some b ∨ w.heap.size ≤ b) ∧ Mods (TbF t av) w w'
theorem cell_one (w : World) (x : V) : ∀ j u, (vCells x)[j]? = some u → (w.alloc (.cells #[.int .i64 x.k, .int .i64 x.p, .int .i64 x.q, .string x.s, .int .i64 x.r] 30)).cell? ((⟨w.heap.size, 0, none⟩ : Addr).add j) = some u := fun j u hj => by
  rw [add_none, Nat.zero_add, cell_of_heap (heap_new w _)]
  rw [← hj]
  exact List.getElem?_toArray
/-- The table behind an append to its list. -/
theorem tabW_grow {w w' : World} {t m g : Nat} {sv av v' : Value} {L : List Sl} {A : List V} {x : V} (hT : TabW w t m g sv L av A) (hx : WfV x ∧ validV x = true) (h2 : ListW w' v' (A ++ [x])) (h3 : w.grownBy w' av.ownBlock) :
    TabW (w'.setCell ⟨t, 0, none⟩ v') t m g sv L v' (A ++ [x]) ∧ Mods (TbF t av) w (w'.setCell ⟨t, 0, none⟩ v') ∧ w'.heap[t]? = some (.cells #[av, .pointer (some ⟨m, 0, none⟩)] 126) := by
  have hm0 : Mods (TbF t av) w w' := ⟨h3.os, h3.tape, h3.output, h3.size, fun k hk hF => h3.block k hk (fun e => hF (.inr e.symm))⟩
  have hm : Mods (TbF t av) w (w'.setCell ⟨t, 0, none⟩ v') := mods_setCell hm0 (.inl (.inl rfl)) _
  have htl : t < w.heap.size := (Array.getElem?_eq_some_iff.1 hT.ht).1
  have ht' : w'.heap[t]? = some (.cells #[av, .pointer (some ⟨m, 0, none⟩)] 126) := (h3.block t htl (fun e => by
    obtain ⟨cur, hc⟩ := listW_block hT.lw e.symm
    exact obj_ne hc hT.ht (cells_ne (by decide)) rfl)).trans hT.ht
  refine ⟨⟨heap_setCell_same ht' 0 v', ListW.kept h2 (fun b hb => Below.heap_setCell _ _ _ _ ?_), fun y hy => ?_, om_keepF hT.om hT.ht hT.lw hm⟩, hm, ht'⟩
  · obtain ⟨cur, hc⟩ := listW_block h2 hb
    exact obj_ne hc ht' (cells_ne (by decide))
  · rcases List.mem_append.1 hy with h | h
    · exact hT.wfA y h
    · rw [List.mem_singleton.1 h]; exact hx
theorem sub_of {av v' : Value} {n base : Nat} (h4 : v'.ownBlock = av.ownBlock ∨ v'.ownBlock = some n) (hn : base ≤ n) : ∀ b, v'.ownBlock = some b → av.ownBlock = some b ∨ base ≤ b := by
  intro b hb
  rcases h4 with h4 | h4
  · exact .inl (h4 ▸ hb)
  · rw [h4] at hb
    injection hb with hb
    exact .inr (by omega)
theorem prj2a {c0 c1 p : Prop} (h : c0 ∧ c1 ∧ Hid p) : p := h.2.2.out
theorem cells2 {w : World} {b : Nat} {c0 c1 : Value} {t : TypeId} {fz : Nat × Nat} (h : w.heap[b]? = some (.cells #[c0, c1] t fz)) : w.cell? ⟨b, 0, none⟩ = some c0 ∧ w.cell? ⟨b, 1, none⟩ = some c1 := by
  refine ⟨?_, ?_⟩ <;> (rw [cell_of_heap h]; rfl)
theorem wf_num {n : Int} (h1 : -2147483647 ≤ n) (h2 : n ≤ 2147483647) : WfV ⟨2, n, 1, ⟨#[]⟩, 0⟩ := by
  have a : i64 2 ∧ i64 1 ∧ i64 0 := ⟨⟨by decide, by decide⟩, ⟨by decide, by decide⟩, ⟨by decide, by decide⟩⟩
  have b : i64 n := ⟨by omega, by omega⟩
  exact ⟨a.1, b, a.2.1, by show (⟨#[]⟩ : ByteArray).size ≤ maxLen; unfold maxLen; decide, a.2.2⟩
theorem eqv_num (n : Int) : eqV ⟨2, n, 1, ⟨#[]⟩, 0⟩ V.nil = false := by
  unfold eqV V.nil
  simp
theorem w64_in {n : Int} (h1 : 0 ≤ n) (h2 : n ≤ 4294967296) : IntKind.i64.wrap n = n := by
  simp [IntKind.wrap, IntKind.bits, IntKind.signed]
  omega
abbrev oZ : Obj := .cells #[.int .i64 0, .int .i64 0, .int .i64 0, .string ⟨#[]⟩, .int .i64 0] 30
theorem heap2_aD (w : World) (o p : Obj) : ((w.drew.alloc o).alloc p).heap[w.heap.size]? = some o := heap2_a w.drew o p
theorem heap2_bD (w : World) (o p : Obj) : ((w.drew.alloc o).alloc p).heap[w.heap.size + 1]? = some p := heap2_b w.drew o p
theorem box5 {w : World} {b : Nat} (h : w.heap[b]? = some oZ) : b < w.heap.size ∧ w.cell? ⟨b, 0, none⟩ = some (.int .i64 0) ∧ w.cell? ⟨b, 1, none⟩ = some (.int .i64 0) ∧ w.cell? ⟨b, 2, none⟩ = some (.int .i64 0) ∧ w.cell? ⟨b, 3, none⟩ = some (.string ⟨#[]⟩) ∧ w.cell? ⟨b, 4, none⟩ = some (.int .i64 0) ∧ w.frozen? ⟨b, 0, none⟩ = false ∧ w.frozen? ⟨b, 1, none⟩ = false ∧ w.frozen? ⟨b, 2, none⟩ = false ∧ w.frozen? ⟨b, 3, none⟩ = false ∧ w.frozen? ⟨b, 4, none⟩ = false := by
  obtain ⟨a0, a1, a2, a3, a4⟩ := cells5 h
  obtain ⟨f0, f1, f2, f3, f4⟩ := froz5 h
  exact ⟨(Array.getElem?_eq_some_iff.1 h).1, a0, a1, a2, a3, a4, f0, f1, f2, f3, f4⟩
theorem own_ne {av v' : Value} {n b : Nat} (h4 : v'.ownBlock = av.ownBlock ∨ v'.ownBlock = some n) (h1 : ∀ g, av.ownBlock = some g → g < b) (h2 : b < n) : v'.ownBlock ≠ some b := fun h => by
  rcases h4 with h4 | h4
  · have := h1 b (h4 ▸ h); omega
  · rw [h4] at h
    injection h with h
    omega
theorem mods_new {F : Nat → Prop} {w v W : World} {b : Nat} (h : Mods F w v) (hb : w.heap.size ≤ b) (k : Mods (fun x => x = b) v W) : Mods F w W :=
  ⟨k.os.trans h.os, k.tape.trans h.tape, k.output.trans h.output, Nat.le_trans h.size k.size, fun i hi hF => (k.block i (Nat.lt_of_lt_of_le hi h.size) (fun e => by subst e; omega)).trans (h.block i hi hF)⟩
theorem tabW_mods {w w' : World} {t m g b : Nat} {sv av : Value} {L : List Sl} {A : List V} {cs : Array Value} (hT : TabW w t m g sv L av A) (hb : w.heap[b]? = some (.cells cs 30 (0, 0))) (hne : av.ownBlock ≠ some b) (hm : Mods (fun x => x = b) w w') : TabW w' t m g sv L av A := by
  refine ⟨mkeep hm hT.ht (obj_ne hT.ht hb (cells_ne (by decide))), ListW.kept hT.lw (fun x hx => hm.block x (listW_lt hT.lw hx) (fun e => hne (e ▸ hx))), hT.wfA, om_keepT hT.om (fun x hx => ⟨fun c hc => ?_, fun es c hc => ?_, fun c hc => ?_⟩)⟩
  · exact hm.block x hx (obj_ne hc hb (cells_ne (by decide)))
  · exact hm.block x hx (obj_ne hc hb (fun e => by cases e))
  · exact hm.block x hx (obj_ne hc hb (cells_ne (by decide)))
def TAddPost (w : World) (t m g : Nat) (sv : Value) (L : List Sl) (av : Value) (A : List V) (e : Ending) (w' : World) : Prop :=
  e = .returned (.tuple #[]) ∧ ∃ av', TabW w' t m g sv L av' A ∧ (∀ b, av'.ownBlock = some b → av.ownBlock = some b ∨ w.heap.size ≤ b) ∧ Mods (TbF t av) w w'
def AddR (w : World) (t m g : Nat) (sv : Value) (L : List Sl) (av : Value) (A : List V) (x : V) (gg : Nat) (wr : World) : Prop :=
  (gg = 1 ∧ wr.heap[w.heap.size]? = some (oV x.k x.p x.q x.s x.r) ∧ Below w.heap.size w wr) ∨
  (gg = 0 ∧ wr.heap[w.heap.size]? = some (oV 0 0 0 ⟨#[]⟩ 0) ∧ ∃ av', TabW wr t m g sv L av' (A ++ [x]) ∧ (∀ b, av'.ownBlock = some b → av.ownBlock = some b ∨ w.heap.size ≤ b) ∧ Mods (TbF t av) w wr)
def TwF (t m g : Nat) (sv av : Value) (b : Nat) : Prop := b = t ∨ OmF m g sv b ∨ av.ownBlock = some b
def TOwn (w : World) (m g : Nat) (sv av : Value) (m' g' : Nat) (sv' av' : Value) : Prop :=
  (m' = m ∨ w.heap.size ≤ m') ∧ (g' = g ∨ w.heap.size ≤ g') ∧ (∀ b, sv'.ownBlock = some b → sv.ownBlock = some b ∨ w.heap.size ≤ b) ∧ ∀ b, av'.ownBlock = some b → av.ownBlock = some b ∨ w.heap.size ≤ b
/-- What a change of a table does. -/
def TWPost (w : World) (t m g : Nat) (sv av : Value) (L' : List Sl) (A' : List V) (e : Ending) (w' : World) : Prop :=
  e = .returned (.int .i64 0) ∧ ∃ m' g' sv' av', TabW w' t m' g' sv' L' av' A' ∧ TOwn w m g sv av m' g' sv' av' ∧ Mods (TwF t m g sv av) w w'
theorem TSetPost.tw {w : World} {t m g : Nat} {sv : Value} {L : List Sl} {av : Value} {A : List V} {e : Ending} {w' : World} (h : TSetPost w t m g sv L av A e w') : TWPost w t m g sv av L A e w' := by
  obtain ⟨h1, av', h2, h3, h4⟩ := h
  exact ⟨h1, m, g, sv, av', h2, ⟨.inl rfl, .inl rfl, fun _ h => .inl h, h3⟩, h4.mono (fun b _ hb => hb.elim .inl (fun h => .inr (.inr h)))⟩
theorem intB_iff {v : V} : intB v = true ↔ v.k = 2 ∧ v.q = 1 ∧ validV v = true := by
  unfold intB
  simp [Bool.and_eq_true, and_assoc]
theorem tabW_of {w : World} {t m g : Nat} {sv : Value} {L : List Sl} (h : TabAt w t m g sv L) : TabW w t m g sv L (.slice none 0 0) [] :=
  ⟨h.ht, listW_nil w, fun v hv => (by cases hv), h.om⟩
structure LO where
  kind : Int
  mt : V
  L : List Sl
abbrev LH := List LO
/-- An object of the program's heap: where it lies, and what it is. -/
structure PO where
  kind : Int
  tag : Int
  name : ByteArray
  mt : V
  vals : Value
  o : Nat
  t : Nat
  m : Nat
  g : Nat
  sv : Value
  L : List Sl
  av : Value
  A : List V
def PO.lo (x : PO) : LO := ⟨x.kind, x.mt, if x.kind = 4 then x.L else []⟩
def PO.tabv (x : PO) : Value := if x.kind = 4 then .pointer (some ⟨x.t, 0, none⟩) else .pointer none
abbrev PO.cells (x : PO) : Array Value := #[.int .i64 x.kind, .int .i64 x.tag, .string x.name, x.tabv, .int .i64 x.mt.k, .int .i64 x.mt.p, .int .i64 x.mt.q, .string x.mt.s, .int .i64 x.mt.r, x.vals]
structure PObj (w : World) (x : PO) : Prop where
  ho : w.heap[x.o]? = some (.cells x.cells 94)
  kd : x.kind = 4 ∨ x.kind = 5 ∨ x.kind = 8
  wm : WfV x.mt
  fm : x.kind = 5 → x.mt = V.nil ∧ x.vals = .slice none 0 0
  tb : x.kind = 4 → TabW w x.t x.m x.g x.sv x.L x.av x.A
def PSep (x y : PO) : Prop := x.o ≠ y.o ∧ (x.kind = 4 → y.kind = 4 → x.m ≠ y.m ∧ x.g ≠ y.g ∧ (∀ b, x.sv.ownBlock = some b → y.sv.ownBlock ≠ some b) ∧ x.t ≠ y.t ∧ ∀ b, x.av.ownBlock = some b → y.av.ownBlock ≠ some b)
def objE (H : List PO) : List (Value × Value) := H.mapIdx fun i x => (.int .i64 ((i + 1 : Nat) : Int), .pointer (some ⟨x.o, 0, none⟩))
structure HpAt (w : World) (h bo bt : Nat) (H : List PO) : Prop where
  hh : w.heap[h]? = some (.cells #[.map (some bo), .int .i64 (H.length : Nat), .map (some bt)] 63)
  objs : MapAt Tryz.prog 3 w bo (objE H)
  touched : ∃ E, MapAt Tryz.prog 3 w bt E
  one : ∀ x ∈ H, PObj w x
  sep : H.Pairwise PSep
  ot : bo ≠ bt
  gs : ∀ x ∈ H, x.kind = 4 → x.g ≠ bo ∧ x.g ≠ bt
def lh (H : List PO) : LH := H.map PO.lo
def Small (n : Nat) (H : List PO) : Prop := ∀ x ∈ H, x.L.length ≤ n ∧ x.A.length ≤ n
def findP (H : List PO) (v : V) : Option PO :=
  if 1 ≤ v.r then (match H[v.r.toNat - 1]? with | some o => if o.kind = v.k then some o else none | none => none) else none
theorem find_at {H : List PO} {v : V} {x : PO} (h : findP H v = some x) : ∃ i, H[i]? = some x ∧ x.kind = v.k ∧ v.r = ((i + 1 : Nat) : Int) ∧ x ∈ H := by
  unfold findP at h
  split at h
  · rename_i h1
    cases ho : H[v.r.toNat - 1]? with
    | none => rw [ho] at h; cases h
    | some o =>
      rw [ho] at h
      simp only at h
      split at h
      · rename_i hk
        injection h with h
        subst h
        exact ⟨_, ho, hk, by omega, List.mem_of_getElem? ho⟩
      · cases h
  · cases h
theorem objE_len (H : List PO) : (objE H).length = H.length := by unfold objE; rw [List.length_mapIdx]
theorem objE_get (H : List PO) (i : Nat) : (objE H)[i]? = (H[i]?).map fun x => (.int .i64 ((i + 1 : Nat) : Int), .pointer (some ⟨x.o, 0, none⟩)) := by
  unfold objE
  rw [List.getElem?_mapIdx]
theorem objE_mem {H : List PO} {p : Value × Value} : p ∈ objE H ↔ ∃ i x, H[i]? = some x ∧ p = (.int .i64 ((i + 1 : Nat) : Int), .pointer (some ⟨x.o, 0, none⟩)) := by
  constructor
  · intro hp
    obtain ⟨i, hi⟩ := List.getElem?_of_mem hp
    rw [objE_get] at hi
    cases hx : H[i]? with
    | none => rw [hx] at hi; cases hi
    | some x => rw [hx] at hi; injection hi with hi; exact ⟨i, x, hx, hi.symm⟩
  · rintro ⟨i, x, hx, rfl⟩
    refine List.mem_of_getElem? (i := i) ?_
    rw [objE_get, hx]; rfl
/-- The object that a reference names. -/
def objAt (H : List PO) (r : Int) : Option PO := if 1 ≤ r then H[r.toNat - 1]? else none
def ptrO : Option PO → Value
  | some x => .pointer (some ⟨x.o, 0, none⟩)
  | none => .pointer none
theorem zero94 (w : World) : (zeroValue 91).run Tryz.prog w = .ok (.pointer none) w := Tryz.zeroValue91 w
set_option maxRecDepth 100000 in
theorem obj_look {w : World} {bo : Nat} {H : List PO} (hE : MapAt Tryz.prog 3 w bo (objE H)) {r : Int} (hr : i64 r) (W : World) (hW : W.heap[bo]? = w.heap[bo]?) :
    (Instr.lookup 60 (.map (some bo)) (.int .i64 r) false).run Tryz.prog W = .ok (ptrO (objAt H r)) W := by
  obtain ⟨l, hl⟩ := keyI hr
  rcases (hE.keep hW).look keyedI (e := 91) (t := 60) (by kernel_rfl) (zero94 W) hl with ⟨h1, h2⟩ | ⟨v, h1, h2⟩
  · have : objAt H r = none := by
      unfold objAt
      split
      · rename_i h
        cases ho : H[r.toNat - 1]? with
        | none => rfl
        | some x =>
          refine absurd ?_ (h1 _ (objE_mem.2 ⟨_, x, ho, rfl⟩))
          show Value.int .i64 _ = Value.int .i64 _
          congr 1
          omega
      · rfl
    rw [this]
    exact h2 false
  · obtain ⟨i, x, hx, he⟩ := objE_mem.1 h1
    simp only [Prod.mk.injEq, Value.int.injEq, true_and] at he
    obtain ⟨rfl, rfl⟩ := he
    have : objAt H ((i + 1 : Nat) : Int) = some x := by
      unfold objAt
      rw [if_pos (by omega), show ((i + 1 : Nat) : Int).toNat - 1 = i by omega, hx]
    rw [this]
    exact h2 false
def PtrPost (w : World) (v : Value) (e : Ending) (w' : World) : Prop := e = .returned v ∧ Below w.heap.size w w'
theorem HpAt.below {w w' : World} {h bo bt : Nat} {H : List PO} (hH : HpAt w h bo bt H) (hb : Below w.heap.size w w') : HpAt w' h bo bt H := by
  obtain ⟨a, b, ⟨E, c⟩, d, e, f, g⟩ := hH
  exact ⟨hkeep hb a, b.keep (hb.block _ b.lt), ⟨E, c.keep (hb.block _ c.lt)⟩, fun x hx => ⟨hkeep hb (d x hx).ho, (d x hx).kd, (d x hx).wm, (d x hx).fm, fun hk => tabW_below ((d x hx).tb hk) hb⟩, e, f, g⟩
theorem findP_none {H : List PO} {v : V} (h : objAt H v.r = none) : findP H v = none := by
  unfold findP
  unfold objAt at h
  split
  · rename_i h1; rw [if_pos h1] at h; rw [h]
  · rfl
theorem findP_some {H : List PO} {v : V} {x : PO} (h : objAt H v.r = some x) : findP H v = if x.kind = v.k then some x else none := by
  unfold findP
  unfold objAt at h
  split
  · rename_i h1; rw [if_pos h1] at h; rw [h]
  · rename_i h1; rw [if_neg h1] at h; cases h
theorem objAt_mem {H : List PO} {r : Int} {x : PO} (h : objAt H r = some x) : x ∈ H := by
  unfold objAt at h
  split at h
  · exact List.mem_of_getElem? h
  · cases h
def tabO : Option PO → Value
  | some x => x.tabv
  | none => .pointer none
/-- What Get of a heap gives at any valid key. -/
def getP (H : List PO) (v k : V) : VR := match findP H v with | some x => if x.kind = 4 then .ok (tgetM x.A x.L k) else .error 8 | none => .error 8
/-- What Len of a heap gives. -/
def lenP (H : List PO) (v : V) : Value := match findP H v with | some x => if x.kind = 4 then .tuple #[.int .i64 (x.A.length : Nat), .int .i64 0] else .tuple #[.int .i64 0, .int .i64 8] | none => .tuple #[.int .i64 0, .int .i64 8]
theorem valid_num {x : Int} (h1 : -2147483647 ≤ x) (h2 : x ≤ 2147483647) : validV ⟨2, x, 1, ⟨#[]⟩, 0⟩ = true := by
  have h : validN (x, 1) = true := validN_iff.2 ⟨by simp, by simp, h1, h2, by simp⟩
  unfold validV
  have e : (⟨#[]⟩ : ByteArray) = ByteArray.empty := rfl
  simp [V.num, h, noStr, e]
theorem get_absent {L : List Sl} {k : V} (h : ∀ y ∈ L, y.k ≠ k) : getM L k = V.nil := by
  unfold getM
  rw [List.find?_eq_none.2 (fun y hy hh => h y hy (eqV_iff.1 (by unfold Sl.hit at hh; exact (Bool.and_eq_true_iff.1 hh).2)))]
theorem tget_in {A : List V} {L : List Sl} {x : Nat} {v : V} (hx : x < A.length) (hl : A.length ≤ 100000) (hv : A[x]? = some v) : tgetM A L ⟨2, (x : Int) + 1, 1, ⟨#[]⟩, 0⟩ = v := by
  unfold tgetM inA
  have h1 : intB ⟨2, (x : Int) + 1, 1, ⟨#[]⟩, 0⟩ = true := intB_iff.2 ⟨rfl, rfl, valid_num (by omega) (by omega)⟩
  rw [h1, Bool.true_and, if_pos (decide_eq_true (show (1 : Int) ≤ (x : Int) + 1 ∧ (x : Int) + 1 ≤ A.length by omega))]
  show A.getD (((x : Int) + 1).toNat - 1) V.nil = v
  rw [show ((x : Int) + 1).toNat - 1 = x by omega, List.getD_eq_getElem?_getD, hv]
  rfl
def ArgsAt (w : World) (base : Nat) (av : Value) (l : List V) : Prop :=
  (l = [] ∧ av = .slice none 0 0) ∨ ∃ (g : Nat) (a b : V), l = [a, b] ∧ av = .slice (some ⟨g, 0, none⟩) 2 2 ∧ base ≤ g ∧ w.heap[g]? = some (.cells #[.int .i64 a.k, .int .i64 a.p, .int .i64 a.q, .string a.s, .int .i64 a.r, .int .i64 b.k, .int .i64 b.p, .int .i64 b.q, .string b.s, .int .i64 b.r] 30)
theorem ArgsAt.below {w w' : World} {base : Nat} {av : Value} {l : List V} (h : ArgsAt w base av l) (hb : Below w.heap.size w w') : ArgsAt w' base av l := by
  rcases h with h | ⟨g, a, b, h1, h2, h3, h4⟩
  · exact .inl h
  · exact .inr ⟨g, a, b, h1, h2, h3, hkeep hb h4⟩
theorem ArgsAt.base {w : World} {base base' : Nat} {av : Value} {l : List V} (h : ArgsAt w base av l) (hb : base' ≤ base) : ArgsAt w base' av l := by
  rcases h with h | ⟨g, a, b, h1, h2, h3, h4⟩
  · exact .inl h
  · exact .inr ⟨g, a, b, h1, h2, Nat.le_trans hb h3, h4⟩
end Go.Proofs.YtpbcmlnjiocmoaaGreatDoorR
namespace Go.Proofs.YtpbcmlnjiocmoaaGreatDoorR
open Go.RowKit Go.Proofs.Lexi Go.ChangeMaps Go.MapKept
open Go.Maps (Keyed)
variable {P : Program}
/-- Block r is an iterator over the map in block b; D: the entries that it has not handed out. -/
def RangeAt (w : World) (b r : Nat) (E D : List (Value × Value)) : Prop :=
  ∃ es clock seen, w.heap[b]? = some (.map es clock) ∧ w.heap[r]? = some (.mapIter (some b) clock seen clock) ∧ es.toList.map (fun e => (e.key, e.val)) = E ∧ Born es clock ∧ (leftOf es seen).toList.map (fun e => (e.key, e.val)) = D
theorem RangeAt.keep {w w' : World} {b r : Nat} {E D : List (Value × Value)} (h : RangeAt w b r E D) (hb : w'.heap[b]? = w.heap[b]?) (hr : w'.heap[r]? = w.heap[r]?) : RangeAt w' b r E D := by
  obtain ⟨es, c, seen, h1, h2, h3⟩ := h
  exact ⟨es, c, seen, hb.trans h1, hr.trans h2, h3⟩
theorem RangeAt.lt {w : World} {b r : Nat} {E D : List (Value × Value)} (h : RangeAt w b r E D) : b < w.heap.size ∧ r < w.heap.size := by
  obtain ⟨es, c, seen, h1, h2, h3⟩ := h
  exact ⟨(Array.getElem?_eq_some_iff.1 h1).1, (Array.getElem?_eq_some_iff.1 h2).1⟩
theorem filter_one {e : MapEntry} : ∀ {l : List MapEntry}, (l.map (·.born)).Nodup → e ∈ l → ∃ A B, l = A ++ e :: B ∧ l.filter (fun x => !(x.born == e.born)) = A ++ B := by
  intro l hn he
  obtain ⟨A, B, rfl⟩ := List.append_of_mem he
  refine ⟨A, B, rfl, ?_⟩
  rw [List.map_append, List.map_cons, List.nodup_append] at hn
  obtain ⟨h1, h2, h3⟩ := hn
  rw [List.nodup_cons] at h2
  rw [List.filter_append, List.filter_cons, beq_self_eq_true]
  have ha : A.filter (fun x => !(x.born == e.born)) = A := List.filter_eq_self.2 fun x hx => by
    have := h3 x.born (List.mem_map.2 ⟨x, hx, rfl⟩) e.born (by simp)
    simpa using this
  have hb : B.filter (fun x => !(x.born == e.born)) = B := List.filter_eq_self.2 fun x hx => by
    have : x.born ≠ e.born := fun hc => h2.1 (hc ▸ List.mem_map.2 ⟨x, hx, rfl⟩)
    simpa using this
  rw [ha, hb]
  rfl
section
variable {k e t : TypeId} {w : World} {b r : Nat} {E D : List (Value × Value)}
theorem RangeAt.next (h : RangeAt w b r E D) (hne : b ≠ r) (ty : TypeId) :
    (D = [] ∧ (Instr.next (.pointer (some ⟨r, 0, none⟩)) false ty).run P w = .ok (.tuple #[.bool false]) w) ∨
    ∃ key v w' A B, (key, v) ∈ E ∧ D = A ++ (key, v) :: B ∧ (Instr.next (.pointer (some ⟨r, 0, none⟩)) false ty).run P w = .ok (.tuple #[.bool true, key, v]) w' ∧ RangeAt w' b r E (A ++ B) ∧ Mods (· = r) w w' ∧ w'.heap.size = w.heap.size ∧
      (Instr.entry (.pointer (some ⟨r, 0, none⟩))).run P w' = .ok (.tuple #[key, v]) w' := by
  obtain ⟨es, c, seen, hb, hr, hE, hn, hD⟩ := h
  have hold : ∀ x ∈ es.toList, x.born < c := fun x hx => hn.2 _ (List.mem_map.2 ⟨x, hx, rfl⟩)
  rcases run_next_at (P := P) w ty r b c c seen es c hr hb hold (Nat.le_refl _) with ⟨h0, hrun⟩ | ⟨x, hx, w1, hal, hrun⟩
  · refine .inl ⟨?_, hrun⟩
    rw [← hD, Array.eq_empty_of_size_eq_zero h0]
    rfl
  · have hxe : x ∈ es.toList := by
      unfold leftOf at hx
      simp at hx ⊢
      exact hx.1
    have hl : (leftOf es seen).toList = es.toList.filter (fun y => !seen.contains y.born) := by
      unfold leftOf
      exact Array.toList_filter
    have hnl : ((leftOf es seen).toList.map (·.born)).Nodup := by
      rw [hl]
      exact hn.1.sublist (List.filter_sublist.map _)
    obtain ⟨A, B, h1, h2⟩ := filter_one hnl hx
    have hl2 : (leftOf es (seen.push x.born)).toList = A ++ B := by
      rw [← h2, hl, List.filter_filter]
      have : (leftOf es (seen.push x.born)).toList = es.toList.filter (fun y => !(seen.push x.born).contains y.born) := by
        unfold leftOf
        exact Array.toList_filter
      rw [this]
      apply List.filter_congr
      intro y _
      rw [Array.contains_push]
      cases (y.born == x.born) <;> cases seen.contains y.born <;> rfl
    have hr1 : w1.heap[r]? = some (.mapIter (some b) c seen c) := by rcases hal with rfl | rfl <;> exact hr
    have hb1 : w1.heap[b]? = some (.map es c) := by rcases hal with rfl | rfl <;> exact hb
    have hset := heap_set (o' := .mapIter (some b) c (seen.push x.born) c) hr1
    have hb' : (setBlock w1 r (.mapIter (some b) c (seen.push x.born) c)).heap[b]? = some (.map es c) := (hset.2 b hne).trans hb1
    refine .inr ⟨x.key, x.val, _, A.map (fun e => (e.key, e.val)), B.map (fun e => (e.key, e.val)), ?_, ?_, hrun, ⟨es, c, seen.push x.born, hb', hset.1, hE, hn, ?_⟩, ?_, ?_, run_entry_at _ r b c seen es c x hset.1 hb' hxe hn.1⟩
    · rw [← hE]; exact List.mem_map.2 ⟨x, hxe, rfl⟩
    · rw [← hD, h1, List.map_append, List.map_cons]
    · rw [hl2, List.map_append]
    · rcases hal with rfl | rfl <;> exact ⟨rfl, rfl, rfl, by simp [setBlock], fun i _ hi => hset.2 i hi⟩
    · rcases hal with rfl | rfl <;> simp [setBlock]
end
end Go.Proofs.YtpbcmlnjiocmoaaGreatDoorR
namespace Go.Proofs.YtpbcmlnjiocmoaaGreatDoorR
open Go.RowKit Go.Proofs.Lexi
theorem infoB : (Tryz.prog.info? 74).map (·.size) = some 2 := by kernel_rfl
theorem infoByte : (Tryz.prog.info? 5).map (fun i => (i.zero, i.size, i.bytes)) = some (some (.int .u8 0), 1, 1) := by kernel_rfl
theorem liesB : liesAt Tryz.prog Tryz.prog.depth 74 (2 / Tryz.prog.cellsOf 74) 0 74 1 = true := by kernel_rfl
/-- Blocks that hold neither a Builder nor bytes are as they were. -/
def Keeps (w w' : World) : Prop := ∀ (k : Nat) (cs : Array Value) (t : TypeId) (fz : Nat × Nat), w.heap[k]? = some (Obj.cells cs t fz) → t ≠ 74 → t ≠ 5 → w'.heap[k]? = some (Obj.cells cs t fz)
theorem Keeps.setB {w w' : World} (h : Keeps w w') {b : Nat} {cs : Array Value} {fz : Nat × Nat} (hb : w'.heap[b]? = some (.cells cs 74 fz)) (o : Nat) (v : Value) : Keeps w (w'.setCell ⟨b, o, none⟩ v) := fun k cs' t fz' hk h75 h5 => by
  have h1 := h k cs' t fz' hk h75 h5
  by_cases hkb : k = b
  · subst hkb
    rw [hb] at h1
    injection h1 with h1
    injection h1 with _ h1
    exact absurd h1.symm h75
  · rw [Below.heap_setCell _ _ _ _ hkb]; exact h1
/-- What a write to a Builder leaves. -/
def WrPost (B b : Nat) (bs : List Value) (w : World) (r : Value) (e : Ending) (w' : World) : Prop := e = .returned r ∧ Lib.IsBuilder 74 5 B b bs w' ∧ Below B w w'
def WrPostK (B b : Nat) (bs : List Value) (w : World) (r : Value) (e : Ending) (w' : World) : Prop := WrPost B b bs w r e w' ∧ Keeps w w'
end Go.Proofs.YtpbcmlnjiocmoaaGreatDoorR
namespace Go.Proofs.YtpbcmlnjiocmoaaGreatDoorR
open Go.ChangeShapes Go.WideShapes Go.ChangeAt Go.WideMaps Go.WideElems Go.RowKit
/-- A specification: six cells. -/
def spCells (x : V × Int) : List Value := vCells x.1 ++ [.int .i64 x.2]
/-- The slice at so holds the specifications l. -/
def SpecsAt (w : World) (so : Option Addr) (l : List (V × Int)) : Prop := l = [] ∨ ∃ g o, so = some ⟨g, o, none⟩ ∧ ∀ (i : Nat) x, l[i]? = some x → ∀ (j : Nat) u, (spCells x)[j]? = some u → w.cell? ⟨g, o + i * 6 + j, none⟩ = some u
theorem shapeSpec : ∃ fs, Tryz.prog.underlying 55 = some (.struct fs) ∧ fs.toList.map (fun f => (f.type, f.offset)) = [(30, 0), (3, 5)] := under_struct (by kernel_rfl)
theorem cellsSpec : Tryz.prog.cellsOf 55 = 6 := by kernel_rfl
theorem underSpecs : Tryz.prog.underlying 51 = some (.slice 55) := by kernel_rfl
theorem list_six {α : Type} {l : List α} (h : l.length = 6) : ∃ a b c d e f, l = [a, b, c, d, e, f] := by
  match l, h with
  | [a, b, c, d, e, f], _ => exact ⟨a, b, c, d, e, f, rfl⟩
theorem open_spec {H : Type} {enc : TypeId × Value → H} {w : World} {base : Nat} {sp : Nat → Bool} {held : Bool} {fuel : Nat} {cs : List Value} {x : DataW H × List MemPlace} (h : DataW.trod enc Tryz.prog w base sp held fuel 55 cs = some x) :
    ∃ y : V × Int, cs = spCells y ∧ WfV y.1 := by
  obtain ⟨hl, n, hf⟩ := trod_field shapeSpec h
  rw [cellsSpec] at hl
  obtain ⟨a, b, c, d, e, f, rfl⟩ := list_six hl
  obtain ⟨y0, h0⟩ := hf 0 30 0 rfl
  obtain ⟨y1, h1⟩ := hf 1 3 5 rfl
  rw [cells25] at h0
  rw [cells3] at h1
  obtain ⟨v, hv, hw⟩ := open_cells h0
  obtain ⟨k, hk, _, _⟩ := DataW.trod_int Tryz.underlying3 h1
  simp at hv hk
  obtain ⟨rfl, rfl, rfl, rfl, rfl⟩ := hv
  subst hk
  exact ⟨(v, k), rfl, hw⟩
set_option maxRecDepth 100000 in
theorem open_specs {H : Type} {enc : TypeId × Value → H} {w : World} {b0 : Nat} {sp : Nat → Bool} {v : Value} {d : DataW H} {ps : List MemPlace} (hval : Value.okWide Tryz.prog w .any b0 51 v) (h : DataW.Trod enc Tryz.prog w 0 sp true 51 v d ps) :
    ∃ (l : List (V × Int)) (so : Option Addr) (cap : Nat), v = .slice so l.length cap ∧ l.length ≤ cap ∧ (∀ y ∈ l, WfV y.1) ∧ SpecsAt w so l := by
  obtain ⟨a0, l0, c0, rfl⟩ := okWide_slice underSpecs hval
  obtain ⟨fuel, h⟩ := h
  rcases DataW.trod_slice underSpecs h with ⟨e, _⟩ | ⟨ad, len, cap, elems, rest, m, _, e, _, _, hlc, _, hel, hin, _⟩
  · simp [Value.cells] at e
    obtain ⟨rfl, rfl, rfl⟩ := e
    exact ⟨[], none, 0, rfl, Nat.le_refl _, (fun x hx => by cases hx), .inl rfl⟩
  · simp [Value.cells] at e
    obtain ⟨rfl, rfl, rfl⟩ := e
    have hall : ∀ i : Fin l0, ∃ x : V × Int, WfV x.1 ∧ ∀ j u, (spCells x)[j]? = some u → w.cell? (ad.add (i.1 * 6 + j)) = some u := by
      intro ⟨i, hi⟩
      have h0 := hin i hi
      rw [List.getElem?_eq_getElem (by omega), Option.bind_eq_some_iff, cellsSpec] at h0
      obtain ⟨cs, hc, ht⟩ := h0
      obtain ⟨x, rfl, hwf⟩ := open_spec ht
      obtain ⟨_, _, hcell⟩ := World.cells?_some hc
      refine ⟨x, hwf, fun j u hj => ?_⟩
      have hj6 : j < 6 := (List.getElem?_eq_some_iff.1 hj).1
      rw [← add_two, hcell j (by simpa [spCells, vCells] using hj6), ← hj]
    obtain ⟨f, hf⟩ := Classical.axiomOfChoice hall
    have hlen : (List.ofFn f).length = l0 := List.length_ofFn
    refine ⟨List.ofFn f, some ad, c0, by rw [hlen], by rw [hlen]; exact hlc, (fun x hx => by obtain ⟨i, rfl⟩ := List.mem_ofFn.1 hx; exact (hf i).1), ?_⟩
    rcases Nat.eq_zero_or_pos l0 with hz | hz
    · exact .inl (List.eq_nil_of_length_eq_zero (by rw [hlen]; exact hz))
    · have e0 := (hf ⟨0, hz⟩).2 0 _ rfl
      obtain ⟨g, o, spot⟩ := ad
      have hspot : spot = none := by simpa [Addr.add] using World.cell?_spot e0
      subst hspot
      refine .inr ⟨g, o, rfl, fun i x hx j u hj => ?_⟩
      have hlt : i < l0 := by rw [← hlen]; exact (List.getElem?_eq_some_iff.1 hx).1
      have hxe : x = f ⟨i, hlt⟩ := by
        rw [List.getElem?_ofFn, dif_pos hlt] at hx
        exact (Option.some.inj hx).symm
      subst hxe
      have := (hf ⟨i, hlt⟩).2 j u hj
      rw [add_none, ← Nat.add_assoc] at this
      exact this
end Go.Proofs.YtpbcmlnjiocmoaaGreatDoorR
