import Derived.Test.YteflmfdjnigjcaaGreatDoorBa
import Derived.Test.YteflmfdjnigjcaaGreatDoorOq
set_option linter.unusedVariables false
set_option linter.unusedSimpArgs false
set_option maxRecDepth 100000
set_option maxHeartbeats 2000000
namespace Go.Proofs.YteflmfdjnigjcaaGreatDoor
open Go.RowKit Go.Proofs.Lexi
/-- Strings, booleans that are handed in. -/
def Strs (w : World) (so : Option Addr) (l : List ByteArray) : Prop := l = [] ∨ ∃ g o, so = some ⟨g, o, none⟩ ∧ ∀ (i : Nat) s, l[i]? = some s → w.cell? ⟨g, o + i, none⟩ = some (.string s)
def Bools (w : World) (so : Option Addr) (l : List Bool) : Prop := l = [] ∨ ∃ g o, so = some ⟨g, o, none⟩ ∧ ∀ (i : Nat) b, l[i]? = some b → w.cell? ⟨g, o + i, none⟩ = some (.bool b)
theorem Strs.below {w w' : World} {so : Option Addr} {l : List ByteArray} (h : Strs w so l) (hb : Below w.heap.size w w') : Strs w' so l := by
  rcases h with h | ⟨g, o, h1, h2⟩
  · exact .inl h
  · exact .inr ⟨g, o, h1, fun i s hs => keepCell hb (h2 i s hs)⟩
theorem Bools.below {w w' : World} {so : Option Addr} {l : List Bool} (h : Bools w so l) (hb : Below w.heap.size w w') : Bools w' so l := by
  rcases h with h | ⟨g, o, h1, h2⟩
  · exact .inl h
  · exact .inr ⟨g, o, h1, fun i s hs => keepCell hb (h2 i s hs)⟩
/-- A row of values that the heap's calls leave. -/
def HeldRow (w : World) (O : Nat → Prop) (base : Nat) (sv : Value) (A : List V) : Prop := w.ownsRow base 30 5 sv A.length (rowV A) ∧ ∀ b, sv.ownBlock = some b → ¬ O b
theorem HeldRow.below {w w' : World} {O : Nat → Prop} {base : Nat} {sv : Value} {A : List V} (h : HeldRow w O base sv A) (hb : Below w.heap.size w w') : HeldRow w' O base sv A := ⟨ownsRow_ext (below_ext hb (Nat.le_refl _)) h.1, h.2⟩
theorem HeldRow.qs {bs base : Nat} {O O' : Nat → Prop} {w w' : World} {sv : Value} {A : List V} (h : HeldRow w O base sv A) (q : QS bs O w O' w') : HeldRow w' O' base sv A := by
  have hk : ∀ b, sv.ownBlock = some b → w'.heap[b]? = w.heap[b]? ∧ ¬ O' b := fun b hb => by
    obtain ⟨cs, hc⟩ := row_block h.1 hb
    have := q.keep hc (npb (by decide)) (h.2 b hb)
    exact ⟨this.1.trans hc.symm, this.2⟩
  exact ⟨ownsRow_keep h.1 (fun b hb => (hk b hb).1), fun b hb => (hk b hb).2⟩
theorem PHp.grown {base n : Nat} {w w' : World} {h : Nat} {M : LH} {AA : List (List V)} {O : Nat → Prop} (hP : PHp base n w h M AA O) {r : Option Nat} (hg : w.grownBy w' r) (hr : ∀ b, r = some b → ¬ O b ∧ ((∃ cs, w.heap[b]? = some (.cells cs 30 (0, 0))) ∨ w.heap.size ≤ b)) : PHp base n w' h M AA O := by
  obtain ⟨⟨bo, bt, H, h1, h2, h2a, h3, h4, h5⟩, h6⟩ := hP
  refine ⟨⟨bo, bt, H, h1.keepF (fun k hk => hg.block k (hp_lt h1 hk) (fun e => ?_)), h2, h2a, h3, h4, h5⟩, fun k hk => Nat.lt_of_lt_of_le (h6 k hk) hg.size⟩
  obtain ⟨e1, e2⟩ := hr k e.symm
  rcases e2 with ⟨cs, e2⟩ | e2
  · rcases hp_pb h1 hk with ⟨o, h7, h8⟩ | ⟨y, hy, hy4, h7, _⟩
    · rw [e2] at h7
      injection h7 with h7
      subst h7
      exact npb (by decide) h8
    · exact e1 (h5 y hy hy4 k h7)
  · have := hp_lt h1 hk
    omega
theorem Held.grown {w w' : World} {O : Nat → Prop} {b : Nat} {o : Obj} (h : Held w O b o) {r : Option Nat} (hg : w.grownBy w' r) (hr : r ≠ some b) : Held w' O b o := ⟨(hg.block b (Array.getElem?_eq_some_iff.1 h.1).1 (fun e => hr e.symm)).trans h.1, h.2⟩
theorem cells5_at (w : World) (x0 x1 x2 x3 x4 : Value) (t : TypeId) (B : Nat) (hB : B = w.heap.size) : ∀ j u, [x0, x1, x2, x3, x4][j]? = some u → (w.alloc (.cells #[x0, x1, x2, x3, x4] t)).cell? ((⟨B, 0, none⟩ : Addr).add j) = some u := by
  subst hB
  intro j u hj
  rw [add_none, Nat.zero_add, cell_of_heap (heap_new w _), ← Array.getElem?_toList]
  exact hj
theorem Strs.at_ {w : World} {g o : Nat} {l : List ByteArray} (h : Strs w (some ⟨g, o, none⟩) l) {i : Nat} {s : ByteArray} (hs : l[i]? = some s) : w.cell? ⟨g, o + i, none⟩ = some (.string s) := by
  rcases h with h | ⟨g2, o2, h1, h2⟩
  · rw [h] at hs; cases hs
  · injection h1 with h1
    injection h1 with h1 h3
    subst h1 h3
    exact h2 i s hs
theorem want_size (l : List ByteArray) (i : Nat) (hi : i ≤ 20) (h : ∀ k, k < i → (sAt l k).size ≤ 4096) : (wantB l i).size ≤ 100000 := by
  have h1 := join_len ((l.take i).map (·.data.toList)) [9] 4096 (fun x hx => by
    rw [List.mem_map] at hx
    obtain ⟨y, hy, rfl⟩ := hx
    obtain ⟨k, hk⟩ := List.getElem?_of_mem hy
    rw [List.getElem?_take] at hk
    split at hk
    · rename_i hki
      have := h k hki
      unfold sAt at this
      rw [List.getD_eq_getElem?_getD, hk] at this
      rw [size_data]
      exact this
    · cases hk)
  have h2 : (wantB l i).size = (Lib.join ((l.take i).map (·.data.toList)) [9]).length := by unfold wantB; simp [ByteArray.size]
  rw [List.length_map, List.length_take] at h1
  have h3 : min i l.length * (4096 + [(9 : UInt8)].length) ≤ 20 * 4097 := Nat.mul_le_mul (by omega) (Nat.le_refl _)
  omega
theorem isT_ways {w W : World} {sb : Option Addr} {cs : List Bool} (hB : Bools w sb cs) (hb : Below w.heap.size w W) (i : Nat) : ∃ b, isT cs i = b ∧ ((¬ i < cs.length ∧ decide ((i : Int) < (cs.length : Int)) = false ∧ b = false) ∨ (i < cs.length ∧ decide ((i : Int) < (cs.length : Int)) = true ∧ ∃ gb ob, sb = some ⟨gb, ob, none⟩ ∧ W.cell? ⟨gb, ob + i, none⟩ = some (.bool b) ∧ gb < W.heap.size)) := by
  refine ⟨_, rfl, ?_⟩
  unfold isT
  rw [List.getD_eq_getElem?_getD]
  by_cases h : i < cs.length
  · obtain ⟨b, hbv⟩ : ∃ b, cs[i]? = some b := ⟨_, List.getElem?_eq_getElem h⟩
    rcases hB.below hb with e | ⟨g, o, h1, h2⟩
    · rw [e] at h; simp at h
    · rw [hbv]
      exact .inr ⟨h, decide_eq_true (by omega), g, o, h1, h2 i b hbv, World.block_lt_of_cell? _ _ (h2 i b hbv)⟩
  · rw [List.getElem?_eq_none_iff.2 (by omega)]
    exact .inl ⟨h, decide_eq_false (by omega), rfl⟩
theorem PHp.modsV {base n : Nat} {w w' : World} {h : Nat} {M : LH} {AA : List (List V)} {O : Nat → Prop} (hP : PHp base n w h M AA O) {b : Nat} {cs : Array Value} (hb : w.heap[b]? = some (.cells cs 30)) (hO : ¬ O b) (hm : Mods (fun k => k = b) w w') : PHp base n w' h M AA O := by
  obtain ⟨⟨bo, bt, H, h1, h2, h2a, h3, h4, h5⟩, h6⟩ := hP
  refine ⟨⟨bo, bt, H, h1.keepF (fun k hk => hm.block k (hp_lt h1 hk) (fun e => ?_)), h2, h2a, h3, h4, h5⟩, fun k hk => Nat.lt_of_lt_of_le (h6 k hk) hm.size⟩
  subst e
  rcases hp_pb h1 hk with ⟨o, h7, h8⟩ | ⟨y, hy, hy4, h7, _⟩
  · rw [hb] at h7
    injection h7 with h7
    subst h7
    exact npb (by decide) h8
  · exact hO (h5 y hy hy4 k h7)
theorem nT_le (cs : List Bool) : ∀ i, nT cs i ≤ i
  | 0 => Nat.le_refl _
  | i + 1 => by
    have := nT_le cs i
    show nT cs i + (if isT cs i then 1 else 0) ≤ i + 1
    split <;> omega
theorem wf_tab {r : Int} (h : i64 r) : WfV ⟨4, 0, 0, ⟨#[]⟩, r⟩ := ⟨(⟨by decide, by decide⟩ : i64 4), (⟨by decide, by decide⟩ : i64 0), (⟨by decide, by decide⟩ : i64 0), Nat.zero_le _, h⟩
abbrev oAcV (kind fk fp fq : Int) (fs : ByteArray) (fr : Int) (av : Value) (s : ByteArray) (level next : Int) (kv : Value) : Obj := .cells #[.int .i64 kind, .int .i64 0, .int .i64 fk, .int .i64 fp, .int .i64 fq, .string fs, .int .i64 fr, av, .string s, .int .i64 level, .int .i64 next, kv] 39
/-- Where the second loop of the law is. -/
def P2R (base rb : Nat) (h K : Nat) (l : List ByteArray) (cs : List Bool) (b8 b15 g2 cap2 : Nat) (i : Nat) (w wr : World) : Prop :=
  Below base w wr ∧ ∃ j kind fk fp fq fs fr A s level next Kp so cap sk ck O', NX cs l.length i j ∧ ActI K l cs j kind ⟨fk, fp, fq, fs, fr⟩ A s next Kp ∧ Held wr O' b15 (oAcV kind fk fp fq fs fr (.slice so A.length cap) s level next (.slice sk Kp.length ck)) ∧ wr.ownsRow 0 30 5 (.slice so A.length cap) A.length (rowV A) ∧ wr.ownsRow 0 30 5 (.slice sk Kp.length ck) Kp.length (rowV Kp) ∧
    (j = l.length ∨ PHp base (1 + l.length) wr h (tM K ++ [⟨4, V.nil, []⟩]) (List.replicate (K + 1) [] ++ [mixL l cs l.length j]) O') ∧ (∀ b, (Value.slice sk Kp.length ck).ownBlock = some b → ¬ O' b) ∧ (∀ b, O' b → b < wr.heap.size) ∧ Held wr O' b8 (oV 6 0 0 ⟨#[102]⟩ 0) ∧ HeldRow wr O' rb (.slice (some ⟨g2, 0, none⟩) l.length cap2) (argL l cs l.length)
theorem heap12_at {w : World} {b : Nat} {x0 x1 x2 x3 x4 x5 x6 x7 x8 x9 x10 x11 : Value} {t : TypeId} {fz : Nat × Nat} (h : w.heap[b]? = some (.cells #[x0, x1, x2, x3, x4, x5, x6, x7, x8, x9, x10, x11] t fz)) (c0 c1 c2 c3 c4 c5 c6 c7 c8 c9 c10 c11 : Value) :
    ((((((((((((w.setCell ⟨b, 0, none⟩ c0).setCell ⟨b, 1, none⟩ c1).setCell ⟨b, 2, none⟩ c2).setCell ⟨b, 3, none⟩ c3).setCell ⟨b, 4, none⟩ c4).setCell ⟨b, 5, none⟩ c5).setCell ⟨b, 6, none⟩ c6).setCell ⟨b, 7, none⟩ c7).setCell ⟨b, 8, none⟩ c8).setCell ⟨b, 9, none⟩ c9).setCell ⟨b, 10, none⟩ c10).setCell ⟨b, 11, none⟩ c11).heap[b]? = some (.cells #[c0, c1, c2, c3, c4, c5, c6, c7, c8, c9, c10, c11] t fz) := by
  have h0 := h
  have h1 : (w.setCell ⟨b, 0, none⟩ c0).heap[b]? = some (.cells #[c0, x1, x2, x3, x4, x5, x6, x7, x8, x9, x10, x11] t fz) := heap_setCell_same h0 0 c0
  have h2 : ((w.setCell ⟨b, 0, none⟩ c0).setCell ⟨b, 1, none⟩ c1).heap[b]? = some (.cells #[c0, c1, x2, x3, x4, x5, x6, x7, x8, x9, x10, x11] t fz) := heap_setCell_same h1 1 c1
  have h3 : (((w.setCell ⟨b, 0, none⟩ c0).setCell ⟨b, 1, none⟩ c1).setCell ⟨b, 2, none⟩ c2).heap[b]? = some (.cells #[c0, c1, c2, x3, x4, x5, x6, x7, x8, x9, x10, x11] t fz) := heap_setCell_same h2 2 c2
  have h4 : ((((w.setCell ⟨b, 0, none⟩ c0).setCell ⟨b, 1, none⟩ c1).setCell ⟨b, 2, none⟩ c2).setCell ⟨b, 3, none⟩ c3).heap[b]? = some (.cells #[c0, c1, c2, c3, x4, x5, x6, x7, x8, x9, x10, x11] t fz) := heap_setCell_same h3 3 c3
  have h5 : (((((w.setCell ⟨b, 0, none⟩ c0).setCell ⟨b, 1, none⟩ c1).setCell ⟨b, 2, none⟩ c2).setCell ⟨b, 3, none⟩ c3).setCell ⟨b, 4, none⟩ c4).heap[b]? = some (.cells #[c0, c1, c2, c3, c4, x5, x6, x7, x8, x9, x10, x11] t fz) := heap_setCell_same h4 4 c4
  have h6 : ((((((w.setCell ⟨b, 0, none⟩ c0).setCell ⟨b, 1, none⟩ c1).setCell ⟨b, 2, none⟩ c2).setCell ⟨b, 3, none⟩ c3).setCell ⟨b, 4, none⟩ c4).setCell ⟨b, 5, none⟩ c5).heap[b]? = some (.cells #[c0, c1, c2, c3, c4, c5, x6, x7, x8, x9, x10, x11] t fz) := heap_setCell_same h5 5 c5
  have h7 : (((((((w.setCell ⟨b, 0, none⟩ c0).setCell ⟨b, 1, none⟩ c1).setCell ⟨b, 2, none⟩ c2).setCell ⟨b, 3, none⟩ c3).setCell ⟨b, 4, none⟩ c4).setCell ⟨b, 5, none⟩ c5).setCell ⟨b, 6, none⟩ c6).heap[b]? = some (.cells #[c0, c1, c2, c3, c4, c5, c6, x7, x8, x9, x10, x11] t fz) := heap_setCell_same h6 6 c6
  have h8 : ((((((((w.setCell ⟨b, 0, none⟩ c0).setCell ⟨b, 1, none⟩ c1).setCell ⟨b, 2, none⟩ c2).setCell ⟨b, 3, none⟩ c3).setCell ⟨b, 4, none⟩ c4).setCell ⟨b, 5, none⟩ c5).setCell ⟨b, 6, none⟩ c6).setCell ⟨b, 7, none⟩ c7).heap[b]? = some (.cells #[c0, c1, c2, c3, c4, c5, c6, c7, x8, x9, x10, x11] t fz) := heap_setCell_same h7 7 c7
  have h9 : (((((((((w.setCell ⟨b, 0, none⟩ c0).setCell ⟨b, 1, none⟩ c1).setCell ⟨b, 2, none⟩ c2).setCell ⟨b, 3, none⟩ c3).setCell ⟨b, 4, none⟩ c4).setCell ⟨b, 5, none⟩ c5).setCell ⟨b, 6, none⟩ c6).setCell ⟨b, 7, none⟩ c7).setCell ⟨b, 8, none⟩ c8).heap[b]? = some (.cells #[c0, c1, c2, c3, c4, c5, c6, c7, c8, x9, x10, x11] t fz) := heap_setCell_same h8 8 c8
  have h10 : ((((((((((w.setCell ⟨b, 0, none⟩ c0).setCell ⟨b, 1, none⟩ c1).setCell ⟨b, 2, none⟩ c2).setCell ⟨b, 3, none⟩ c3).setCell ⟨b, 4, none⟩ c4).setCell ⟨b, 5, none⟩ c5).setCell ⟨b, 6, none⟩ c6).setCell ⟨b, 7, none⟩ c7).setCell ⟨b, 8, none⟩ c8).setCell ⟨b, 9, none⟩ c9).heap[b]? = some (.cells #[c0, c1, c2, c3, c4, c5, c6, c7, c8, c9, x10, x11] t fz) := heap_setCell_same h9 9 c9
  have h11 : (((((((((((w.setCell ⟨b, 0, none⟩ c0).setCell ⟨b, 1, none⟩ c1).setCell ⟨b, 2, none⟩ c2).setCell ⟨b, 3, none⟩ c3).setCell ⟨b, 4, none⟩ c4).setCell ⟨b, 5, none⟩ c5).setCell ⟨b, 6, none⟩ c6).setCell ⟨b, 7, none⟩ c7).setCell ⟨b, 8, none⟩ c8).setCell ⟨b, 9, none⟩ c9).setCell ⟨b, 10, none⟩ c10).heap[b]? = some (.cells #[c0, c1, c2, c3, c4, c5, c6, c7, c8, c9, c10, x11] t fz) := heap_setCell_same h10 10 c10
  have h12 : ((((((((((((w.setCell ⟨b, 0, none⟩ c0).setCell ⟨b, 1, none⟩ c1).setCell ⟨b, 2, none⟩ c2).setCell ⟨b, 3, none⟩ c3).setCell ⟨b, 4, none⟩ c4).setCell ⟨b, 5, none⟩ c5).setCell ⟨b, 6, none⟩ c6).setCell ⟨b, 7, none⟩ c7).setCell ⟨b, 8, none⟩ c8).setCell ⟨b, 9, none⟩ c9).setCell ⟨b, 10, none⟩ c10).setCell ⟨b, 11, none⟩ c11).heap[b]? = some (.cells #[c0, c1, c2, c3, c4, c5, c6, c7, c8, c9, c10, c11] t fz) := heap_setCell_same h11 11 c11
  exact h12
theorem heap_newA (w : World) (o : Obj) : ((w.alloc o).drew).heap[w.heap.size]? = some o := heap_new w o
theorem p2r_end {base rb h K : Nat} {l : List ByteArray} {cs : List Bool} {b8 b15 g2 cap2 i j : Nat} {w W : World} {kind fk fp fq : Int} {fs : ByteArray} {fr : Int} {A : List V} {s : ByteArray} {level next : Int} {Kp : List V} {so sk : Option Addr} {cap ck B : Nat} {O' : Nat → Prop}
    (hbw : Below base w W) (hnx : NX cs l.length i j) (hact : ActI K l cs j kind ⟨fk, fp, fq, fs, fr⟩ A s next Kp) {x0 x1 x2 x3 x4 x5 x6 x7 x8 x9 x10 x11 : Value} (h15 : Held W O' b15 (.cells #[x0, x1, x2, x3, x4, x5, x6, x7, x8, x9, x10, x11] 39)) (hrA : W.ownsRow B 30 5 (.slice so A.length cap) A.length (rowV A)) (hrK : W.ownsRow B 30 5 (.slice sk Kp.length ck) Kp.length (rowV Kp)) (hB : b15 < B)
    (hhp : j = l.length ∨ PHp base (1 + l.length) W h (tM K ++ [⟨4, V.nil, []⟩]) (List.replicate (K + 1) [] ++ [mixL l cs l.length j]) O') (hno : ∀ b, (Value.slice sk Kp.length ck).ownBlock = some b → ¬ O' b) (hlt : ∀ b, O' b → b < W.heap.size) (h8 : Held W O' b8 (oV 6 0 0 ⟨#[102]⟩ 0)) (hrow : HeldRow W O' rb (.slice (some ⟨g2, 0, none⟩) l.length cap2) (argL l cs l.length)) (hb : base ≤ b15) :
    P2R base rb h K l cs b8 b15 g2 cap2 i w ((((((((((((W.setCell ⟨b15, 0, none⟩ (.int .i64 kind)).setCell ⟨b15, 1, none⟩ (.int .i64 0)).setCell ⟨b15, 2, none⟩ (.int .i64 fk)).setCell ⟨b15, 3, none⟩ (.int .i64 fp)).setCell ⟨b15, 4, none⟩ (.int .i64 fq)).setCell ⟨b15, 5, none⟩ (.string fs)).setCell ⟨b15, 6, none⟩ (.int .i64 fr)).setCell ⟨b15, 7, none⟩ (.slice so A.length cap)).setCell ⟨b15, 8, none⟩ (.string s)).setCell ⟨b15, 9, none⟩ (.int .i64 level)).setCell ⟨b15, 10, none⟩ (.int .i64 next)).setCell ⟨b15, 11, none⟩ (.slice sk Kp.length ck)) := by
  have hM : Mods (fun k => k = b15) W ((((((((((((W.setCell ⟨b15, 0, none⟩ (.int .i64 kind)).setCell ⟨b15, 1, none⟩ (.int .i64 0)).setCell ⟨b15, 2, none⟩ (.int .i64 fk)).setCell ⟨b15, 3, none⟩ (.int .i64 fp)).setCell ⟨b15, 4, none⟩ (.int .i64 fq)).setCell ⟨b15, 5, none⟩ (.string fs)).setCell ⟨b15, 6, none⟩ (.int .i64 fr)).setCell ⟨b15, 7, none⟩ (.slice so A.length cap)).setCell ⟨b15, 8, none⟩ (.string s)).setCell ⟨b15, 9, none⟩ (.int .i64 level)).setCell ⟨b15, 10, none⟩ (.int .i64 next)).setCell ⟨b15, 11, none⟩ (.slice sk Kp.length ck)) := mods_twelve (F := fun k => k = b15) (Mods.refl _ _) (.inl rfl) 0 1 2 3 4 5 6 7 8 9 10 11 _ _ _ _ _ _ _ _ _ _ _ _
  obtain ⟨cv, hcv⟩ := row_block hrow.1 (b := g2) rfl
  have hg2 : g2 ≠ b15 := ne_of_types hcv h15.1 (by decide)
  have h8b : b8 ≠ b15 := ne_of_types h8.1 h15.1 (by decide)
  refine ⟨below_twelve hbw hb _ _ _ _ _ _ _ _ _ _ _ _, j, kind, fk, fp, fq, fs, fr, A, s, level, next, Kp, so, cap, sk, ck, O', hnx, hact, ⟨heap12_at h15.1 _ _ _ _ _ _ _ _ _ _ _ _, h15.2⟩, ownsRow_base (row_twelve hrA (row_away hrA hB) _ _ _ _ _ _ _ _ _ _ _ _) (Nat.zero_le _), ownsRow_base (row_twelve hrK (row_away hrK hB) _ _ _ _ _ _ _ _ _ _ _ _) (Nat.zero_le _), hhp.imp id (fun hp => hp.mods h15.1 hM), hno, fun b hb => Nat.lt_of_lt_of_le (hlt b hb) hM.size, ⟨mkeep hM h8.1 h8b, h8.2⟩, ⟨ownsRow_keep hrow.1 (fun b hb => hM.block b (ownBlock_lt hrow.1 hb).2 (fun e => by
    injection hb with hb
    exact hg2 (hb.trans e))), hrow.2⟩⟩
abbrev st12 (W : World) (b : Nat) (kind fk fp fq : Int) (fs : ByteArray) (fr : Int) (so : Option Addr) (A : List V) (cap : Nat) (s : ByteArray) (level next : Int) (sk : Option Addr) (Kp : List V) (ck : Nat) : World := ((((((((((((W.setCell ⟨b, 0, none⟩ (.int .i64 kind)).setCell ⟨b, 1, none⟩ (.int .i64 0)).setCell ⟨b, 2, none⟩ (.int .i64 fk)).setCell ⟨b, 3, none⟩ (.int .i64 fp)).setCell ⟨b, 4, none⟩ (.int .i64 fq)).setCell ⟨b, 5, none⟩ (.string fs)).setCell ⟨b, 6, none⟩ (.int .i64 fr)).setCell ⟨b, 7, none⟩ (.slice so A.length cap)).setCell ⟨b, 8, none⟩ (.string s)).setCell ⟨b, 9, none⟩ (.int .i64 level)).setCell ⟨b, 10, none⟩ (.int .i64 next)).setCell ⟨b, 11, none⟩ (.slice sk Kp.length ck))
theorem nT_mono (cs : List Bool) (a : Nat) : ∀ d, nT cs a ≤ nT cs (a + d)
  | 0 => Nat.le_refl _
  | d + 1 => Nat.le_trans (nT_mono cs a d) (Nat.le_add_right _ _)
theorem nT_lt (cs : List Bool) (n k : Nat) (hk : k < n) (hb : isT cs k = true) : nT cs k < nT cs n := by
  have h1 := nT_mono cs (k + 1) (n - (k + 1))
  rw [show k + 1 + (n - (k + 1)) = n by omega] at h1
  have h2 : nT cs (k + 1) = nT cs k + 1 := by
    show nT cs k + (if isT cs k then 1 else 0) = _
    rw [hb]; rfl
  omega
theorem below_qs {O O' : Nat → Prop} {w a b : World} (h : Below w.heap.size w a) (q : QS w.heap.size O a O' b) : Below w.heap.size w b := h.trans (q.below h.size)
/-- Where the first loop of the law is. -/
def P1R (base rb : Nat) (h : Nat) (l : List ByteArray) (cs : List Bool) (b6 b8 : Nat) (i : Nat) (sv : Value) (w wr : World) : Prop :=
  Below base w wr ∧ rb ≤ wr.heap.size ∧ ∃ O', PHp base 1 wr h (tM (nT cs i)) (List.replicate (nT cs i + 1) []) O' ∧ Held wr O' b6 (oV 4 0 0 ⟨#[]⟩ 1) ∧ Held wr O' b8 (oV 6 0 0 ⟨#[102]⟩ 0) ∧ HeldRow wr O' rb sv (argL l cs i)
set_option maxRecDepth 100000 in
set_option maxHeartbeats 2000000 in
theorem pomDrop_c (w : World) (m g rb cap : Nat) (L : List Sl) (E : List (Value × Value)) (f : V → Option Nat) (hm : w.heap[m]? = some (.cells #[.slice (some ⟨rb, 0, none⟩) L.length cap, .map (some g), .int .i64 (liveN L : Nat)] 143))
    (hrow : w.ownsRow 0 146 11 (.slice (some ⟨rb, 0, none⟩) L.length cap) L.length (rowSl L)) (hL : L.length ≤ 1000) (hE : MapAt Tryz.prog 30 w g E) (hG : Graph E f) (hI : Idx L f) (hwf : ∀ s ∈ L, WfV s.k ∧ WfV s.v) :
    Calls Tryz.prog 115 #[.pointer (some ⟨m, 0, none⟩)] w (DropPost w m g L f) := by
  have hml : m < w.heap.size := (Array.getElem?_eq_some_iff.1 hm).1
  have hg : g < w.heap.size := hE.lt
  have hmg : m ≠ g := fun e => by
    obtain ⟨es, c, he, _⟩ := id hE
    rw [← e, hm] at he
    cases he
  have hrg : rb ≠ g := by
    obtain ⟨es0, c0, hgm, _⟩ := id hE
    exact row_ne hrow hgm rb rfl
  have hrl : rb < w.heap.size := (ownBlock_lt hrow rfl).2
  have HM := Lib.hid hm
  have HROW := Lib.hid hrow
  have HI := Lib.hid hI
  have HWF := Lib.hid hwf
  have HS0 := Lib.hid (show DropRel w g L f L.length (.slice none 0 0) (.int .i64 0) w from ⟨0, 0, none, rfl, by rw [List.take_zero]; rfl, rfl, Nat.zero_le _, by rw [List.take_zero]; exact World.ownsRow_nil _ _ _ _, ⟨E, hE, by rw [mid_zero]; exact hG⟩, Mods.refl _ _⟩)
  have m0 : w.cell? ⟨m, 0, none⟩ = some (.slice (some ⟨rb, 0, none⟩) L.length cap) := by rw [cell_of_heap hm]; rfl
  have m1 : w.cell? ⟨m, 1, none⟩ = some (.map (some g)) := by rw [cell_of_heap hm]; rfl
  have m2 : w.cell? ⟨m, 2, none⟩ = some (.int .i64 (liveN L : Nat)) := by rw [cell_of_heap hm]; rfl
  clear hrow hI hwf hE hG hm
  go_enter Tryz.func115, Tryz.ntmps115
  go_wp2
  go_loopg [2, 10] L.length (fun gg vl vi wr => DropRel w g L f gg vl vi wr)
  case atStart => exact HS0.out
  case round =>
    clear HS0 m0 m1 m2
    obtain ⟨i, cap2, so2, rfl, rfl, rfl, hi, hown, ⟨E2, hE2, hG2⟩, hmods⟩ := hrel
    have HMr := Lib.hid (mods_keep hmods HM.out hmg)
    have hrowr := ownsRow_keep (w3 := wr) HROW.out (fun b hb => by injection hb with hb; subst hb; exact hmods.block _ hrl hrg)
    have hsz := hmods.size
    have hmr : m < wr.heap.size := Nat.lt_of_lt_of_le hml hsz
    have hrr : rb < wr.heap.size := Nat.lt_of_lt_of_le hrl hsz
    have HOWN := Lib.hid hown
    have HMD := Lib.hid hmods
    have hdl := drop_len (L.take i)
    rw [List.length_take] at hdl
    clear hown hmods
    have m0 : wr.cell? ⟨m, 0, none⟩ = some (.slice (some ⟨rb, 0, none⟩) L.length cap) := by rw [cell_of_heap HMr.out]; rfl
    have m1 : wr.cell? ⟨m, 1, none⟩ = some (.map (some g)) := by rw [cell_of_heap HMr.out]; rfl
    have m2 : wr.cell? ⟨m, 2, none⟩ = some (.int .i64 (liveN L : Nat)) := by rw [cell_of_heap HMr.out]; rfl
    have fm0 : wr.frozen? ⟨m, 0, none⟩ = false := frozen_of_heap HMr.out _
    have fm1 : wr.frozen? ⟨m, 1, none⟩ = false := frozen_of_heap HMr.out _
    have fm2 : wr.frozen? ⟨m, 2, none⟩ = false := frozen_of_heap HMr.out _
    by_cases hlt : i < L.length
    · obtain ⟨sl, hsl⟩ : ∃ sl, L[i]? = some sl := ⟨_, List.getElem?_eq_getElem hlt⟩
      have rc0 : wr.cell? ⟨rb, i * 11, none⟩ = some (.int .i64 sl.k.k) := (hrowr.cellAt (i * 11 + 0) (by omega)).trans (rowSl_at L i 0 sl hsl (by decide))
      have rc1 : wr.cell? ⟨rb, i * 11 + 1, none⟩ = some (.int .i64 sl.k.p) := (hrowr.cellAt (i * 11 + 1) (by omega)).trans (rowSl_at L i 1 sl hsl (by decide))
      have rc2 : wr.cell? ⟨rb, i * 11 + 2, none⟩ = some (.int .i64 sl.k.q) := (hrowr.cellAt (i * 11 + 2) (by omega)).trans (rowSl_at L i 2 sl hsl (by decide))
      have rc3 : wr.cell? ⟨rb, i * 11 + 3, none⟩ = some (.string sl.k.s) := (hrowr.cellAt (i * 11 + 3) (by omega)).trans (rowSl_at L i 3 sl hsl (by decide))
      have rc4 : wr.cell? ⟨rb, i * 11 + 4, none⟩ = some (.int .i64 sl.k.r) := (hrowr.cellAt (i * 11 + 4) (by omega)).trans (rowSl_at L i 4 sl hsl (by decide))
      have rc5 : wr.cell? ⟨rb, i * 11 + 5, none⟩ = some (.int .i64 sl.v.k) := (hrowr.cellAt (i * 11 + 5) (by omega)).trans (rowSl_at L i 5 sl hsl (by decide))
      have rc6 : wr.cell? ⟨rb, i * 11 + 6, none⟩ = some (.int .i64 sl.v.p) := (hrowr.cellAt (i * 11 + 6) (by omega)).trans (rowSl_at L i 6 sl hsl (by decide))
      have rc7 : wr.cell? ⟨rb, i * 11 + 7, none⟩ = some (.int .i64 sl.v.q) := (hrowr.cellAt (i * 11 + 7) (by omega)).trans (rowSl_at L i 7 sl hsl (by decide))
      have rc8 : wr.cell? ⟨rb, i * 11 + 8, none⟩ = some (.string sl.v.s) := (hrowr.cellAt (i * 11 + 8) (by omega)).trans (rowSl_at L i 8 sl hsl (by decide))
      have rc9 : wr.cell? ⟨rb, i * 11 + 9, none⟩ = some (.int .i64 sl.v.r) := (hrowr.cellAt (i * 11 + 9) (by omega)).trans (rowSl_at L i 9 sl hsl (by decide))
      have rc10 : wr.cell? ⟨rb, i * 11 + 10, none⟩ = some (.bool sl.g) := (hrowr.cellAt (i * 11 + 10) (by omega)).trans (rowSl_at L i 10 sl hsl (by decide))
      have hkw := (HWF.out sl (List.mem_of_getElem? hsl)).1
      cases hgf : sl.g with
      | true =>
        rw [hgf] at rc10
        obtain ⟨x, hx⟩ : ∃ x : Nat, x = (midF L f i sl.k).getD 0 := ⟨_, rfl⟩
        have hlk := look_plain hE2 hG2 hkw
        rw [← hx] at hlk
        have HLK := Lib.hid hlk
        have HDL := Lib.hid (del_at hE2 hG2 hkw)
        have HEG := Lib.hid (show ∃ E, MapAt Tryz.prog 30 wr g E ∧ Graph E (midF L f i) from ⟨E2, hE2, hG2⟩)
        have HSL := Lib.hid hsl
        have HX := Lib.hid hx
        clear hlk hE2 hG2 hx hrowr hkw hsl
        by_cases hxi : x = i
        · have tx : (((x : Nat) : Int) == (i : Nat)) = true := by rw [hxi]; simp
          have HN := Lib.hid (gone_yes HI.out HSL.out hgf (by rw [← HX.out]; exact hxi))
          have HDR := Lib.hid (drop_gone HSL.out hgf)
          clear hgf hxi
          go_wp2
          refine wp_region_lex mixed (by kernel_rfl) ?_
          go_wp2_with (at_lookup; refine wpList_look_map _ rfl _ _ _ _ rfl _ _ _ rfl rfl (HLK.out _ (Below.heap_alloc wr _ g (by omega))) ?_)
          refine ⟨by kernel_rfl, ?_⟩
          go_wp2
          refine wp_region_lex mixed (by kernel_rfl) ?_
          go_wp2_with (at_delete; refine wpList_drop_map _ rfl _ _ _ _ rfl _ _ rfl rfl _ (HDL.out _ _ (Below.heap_alloc wr _ g (by omega))) ?_; intro w3 hw3)
          refine ⟨by kernel_rfl, ?_⟩
          go_wp2
          obtain ⟨hput, hmods, hsz3⟩ := hw3
          simp at hsz3
          go_roundg (L.length - (i + 1))
          case measure => omega
          case rel =>
            have hb : Below wr.heap.size wr (wr.alloc (.cells #[.int .i64 sl.k.k, .int .i64 sl.k.p, .int .i64 sl.k.q, .string sl.k.s, .int .i64 sl.k.r, .int .i64 sl.v.k, .int .i64 sl.v.p, .int .i64 sl.v.q, .string sl.v.s, .int .i64 sl.v.r, .bool true] 146)).drew.drew := ((Below.refl _ _).alloc (Nat.le_refl _) _).drew.drew
            refine ⟨i + 1, cap2, so2, rfl, by rw [HDR.out], rfl, by omega, row_drop (ownsRow_keep (w3 := w3) HOWN.out (fun b hb2 => ?_)) HDR.out, by rw [HN.out]; exact hput, ?_⟩
            · have h1 := ownBlock_lt HOWN.out hb2
              exact (hmods.block b (by simp; omega) (by omega)).trans (hb.block b h1.2)
            · exact (HMD.out.trans (Mods.of_below hb)).trans hmods
        · have tx : (((x : Nat) : Int) == (i : Nat)) = false := by rw [beq_eq_false_iff_ne]; omega
          have HN := Lib.hid (gone_no HI.out HSL.out hgf (by rw [← HX.out]; exact hxi))
          have HDR := Lib.hid (drop_gone HSL.out hgf)
          clear hgf hxi
          go_wp2
          refine wp_region_lex mixed (by kernel_rfl) ?_
          go_wp2_with (at_lookup; refine wpList_look_map _ rfl _ _ _ _ rfl _ _ _ rfl rfl (HLK.out _ (Below.heap_alloc wr _ g (by omega))) ?_)
          refine ⟨by kernel_rfl, ?_⟩
          go_wp2
          go_roundg (L.length - (i + 1))
          case measure => omega
          case rel =>
            have hb : Below wr.heap.size wr (wr.alloc (.cells #[.int .i64 sl.k.k, .int .i64 sl.k.p, .int .i64 sl.k.q, .string sl.k.s, .int .i64 sl.k.r, .int .i64 sl.v.k, .int .i64 sl.v.p, .int .i64 sl.v.q, .string sl.v.s, .int .i64 sl.v.r, .bool true] 146)).drew := ((Below.refl _ _).alloc (Nat.le_refl _) _).drew
            obtain ⟨E3, h3, h4⟩ := HEG.out
            refine ⟨i + 1, cap2, so2, rfl, by rw [HDR.out], rfl, by omega, row_drop (ownsRow_ext (below_ext hb (Nat.le_refl _)) HOWN.out) HDR.out, ⟨E3, h3.keep (hb.block g (by omega)), by rw [HN.out]; exact h4⟩, HMD.out.trans (Mods.of_below hb)⟩
      | false =>
        rw [hgf] at rc10
        have HN := Lib.hid (mid_live HI.out hsl hgf)
        have HST := Lib.hid (put_at hE2 hG2 hkw)
        have HDR := Lib.hid (drop_live hsl hgf)
        clear hE2 hG2 hrowr hkw
        go_wp2
        refine wp_region_lex mixed (by kernel_rfl) ?_
        go_wp2_with (at_mapUpdate; refine wpList_store_map _ rfl _ _ _ _ rfl _ _ _ rfl rfl rfl _ (HST.out (dropM (L.take i)).length _ (Below.heap_alloc wr _ g (by omega))) ?_; intro w3 hw3)
        refine ⟨by kernel_rfl, ?_⟩
        obtain ⟨hput, hmods, hsz3⟩ := hw3
        have hsz3' : wr.heap.size + 1 ≤ w3.heap.size := by
          rw [hsz3]
          simp
        have HBX := Lib.hid (mods_keep hmods (show (wr.alloc (.cells #[.int .i64 sl.k.k, .int .i64 sl.k.p, .int .i64 sl.k.q, .string sl.k.s, .int .i64 sl.k.r, .int .i64 sl.v.k, .int .i64 sl.v.p, .int .i64 sl.v.q, .string sl.v.s, .int .i64 sl.v.r, .bool false] 146)).drew.heap[wr.heap.size]? = _ from heap_new wr (.cells #[.int .i64 sl.k.k, .int .i64 sl.k.p, .int .i64 sl.k.q, .string sl.k.s, .int .i64 sl.k.r, .int .i64 sl.v.k, .int .i64 sl.v.p, .int .i64 sl.v.q, .string sl.v.s, .int .i64 sl.v.r, .bool false] 146)) (by omega))
        have HM3 := Lib.hid (mods_keep hmods (show (wr.alloc (.cells #[.int .i64 sl.k.k, .int .i64 sl.k.p, .int .i64 sl.k.q, .string sl.k.s, .int .i64 sl.k.r, .int .i64 sl.v.k, .int .i64 sl.v.p, .int .i64 sl.v.q, .string sl.v.s, .int .i64 sl.v.r, .bool false] 146)).drew.heap[m]? = _ from (Below.heap_alloc wr _ m hmr).trans HMr.out) hmg)
        have hb : Below wr.heap.size wr (wr.alloc (.cells #[.int .i64 sl.k.k, .int .i64 sl.k.p, .int .i64 sl.k.q, .string sl.k.s, .int .i64 sl.k.r, .int .i64 sl.v.k, .int .i64 sl.v.p, .int .i64 sl.v.q, .string sl.v.s, .int .i64 sl.v.r, .bool false] 146)).drew := ((Below.refl _ _).alloc (Nat.le_refl _) _).drew
        have HO3 := Lib.hid (ownsRow_keep (w3 := w3) HOWN.out (fun b hb2 => (hmods.block b (by have := (ownBlock_lt HOWN.out hb2).2; simp; omega) (by have := (ownBlock_lt HOWN.out hb2).1; omega)).trans (hb.block b (ownBlock_lt HOWN.out hb2).2)))
        have HMD3 := Lib.hid ((HMD.out.trans (Mods.of_below hb)).trans hmods)
        have HPUT := Lib.hid hput
        have hmr3 : m < w3.heap.size := by omega
        clear hput hmods hsz3 hb m0 m1 m2 fm0 fm1 fm2 rc0 rc1 rc2 rc3 rc4 rc5 rc6 rc7 rc8 rc9 rc10
        have b0 : w3.cell? ⟨wr.heap.size, 0, none⟩ = some (.int .i64 sl.k.k) := by rw [cell_of_heap HBX.out]; rfl
        have b1 : w3.cell? ⟨wr.heap.size, 1, none⟩ = some (.int .i64 sl.k.p) := by rw [cell_of_heap HBX.out]; rfl
        have b2 : w3.cell? ⟨wr.heap.size, 2, none⟩ = some (.int .i64 sl.k.q) := by rw [cell_of_heap HBX.out]; rfl
        have b3 : w3.cell? ⟨wr.heap.size, 3, none⟩ = some (.string sl.k.s) := by rw [cell_of_heap HBX.out]; rfl
        have b4 : w3.cell? ⟨wr.heap.size, 4, none⟩ = some (.int .i64 sl.k.r) := by rw [cell_of_heap HBX.out]; rfl
        have b5 : w3.cell? ⟨wr.heap.size, 5, none⟩ = some (.int .i64 sl.v.k) := by rw [cell_of_heap HBX.out]; rfl
        have b6 : w3.cell? ⟨wr.heap.size, 6, none⟩ = some (.int .i64 sl.v.p) := by rw [cell_of_heap HBX.out]; rfl
        have b7 : w3.cell? ⟨wr.heap.size, 7, none⟩ = some (.int .i64 sl.v.q) := by rw [cell_of_heap HBX.out]; rfl
        have b8 : w3.cell? ⟨wr.heap.size, 8, none⟩ = some (.string sl.v.s) := by rw [cell_of_heap HBX.out]; rfl
        have b9 : w3.cell? ⟨wr.heap.size, 9, none⟩ = some (.int .i64 sl.v.r) := by rw [cell_of_heap HBX.out]; rfl
        have b10 : w3.cell? ⟨wr.heap.size, 10, none⟩ = some (.bool false) := by rw [cell_of_heap HBX.out]; rfl
        have m0 : w3.cell? ⟨m, 0, none⟩ = some (.slice (some ⟨rb, 0, none⟩) L.length cap) := by rw [cell_of_heap HM3.out]; rfl
        have m1 : w3.cell? ⟨m, 1, none⟩ = some (.map (some g)) := by rw [cell_of_heap HM3.out]; rfl
        have m2 : w3.cell? ⟨m, 2, none⟩ = some (.int .i64 (liveN L : Nat)) := by rw [cell_of_heap HM3.out]; rfl
        have fm0 : w3.frozen? ⟨m, 0, none⟩ = false := frozen_of_heap HM3.out _
        have fm1 : w3.frozen? ⟨m, 1, none⟩ = false := frozen_of_heap HM3.out _
        have fm2 : w3.frozen? ⟨m, 2, none⟩ = false := frozen_of_heap HM3.out _
        obtain ⟨i6, hi6, hi6a, hi6b, hi6c⟩ := info_parts info161p
        go_wp2_with (at_builtin; refine wpList_append_own_at _ rfl (.tmp 40) (.tmp 42) 141 rfl w.heap.size 146 i6 _ 11 104 Tryz.underlying141 hi6 hi6a hi6b hi6c rfl (by decide) (.slice so2 (dropM (L.take i)).length cap2) (dropM (L.take i)).length (rowSl (dropM (L.take i))) rfl ?A _ 1 1 [.int .i64 sl.k.k, .int .i64 sl.k.p, .int .i64 sl.k.q, .string sl.k.s, .int .i64 sl.k.r, .int .i64 sl.v.k, .int .i64 sl.v.p, .int .i64 sl.v.q, .string sl.v.s, .int .i64 sl.v.r, .bool false] rfl rfl ?B ?C ?D ?E ?F ?G)
        case A => exact ownsRow_ext (below_ext ((Below.refl _ _).alloc (Nat.le_refl _) _) (Nat.le_refl _)) HO3.out
        case B => exact cells_eleven _ _ _ _ _ _ _ _ _ _ _ _ _ _ rfl
        case C =>
          intro u hu
          simp only [List.mem_cons, List.not_mem_nil, or_false] at hu
          rcases hu with rfl | rfl | rfl | rfl | rfl | rfl | rfl | rfl | rfl | rfl | rfl <;> simp [Value.oneCell']
        case D => unfold maxLen; omega
        case E => omega
        case F => first | omega | (simp; omega)
        case G =>
          intro v' w4 hown hgrow _ hat
          obtain ⟨rb', cap', rfl⟩ := slice_shape hown (by omega)
          have hsz4 := hgrow.size
          simp at hsz4
          have HOWN4 := Lib.hid hown
          have HGR := Lib.hid hgrow
          clear hown hgrow hat b0 b1 b2 b3 b4 b5 b6 b7 b8 b9 b10
          go_wp2
          go_roundg (L.length - (i + 1))
          case measure => omega
          case rel =>
            have hlen : (dropM (L.take (i + 1))).length = (dropM (L.take i)).length + 1 := by rw [HDR.out, List.length_append]; rfl
            have hrow4 : rowSl (dropM (L.take (i + 1))) = rowSl (dropM (L.take i)) ++ [.int .i64 sl.k.k, .int .i64 sl.k.p, .int .i64 sl.k.q, .string sl.k.s, .int .i64 sl.k.r, .int .i64 sl.v.k, .int .i64 sl.v.p, .int .i64 sl.v.q, .string sl.v.s, .int .i64 sl.v.r, .bool false] := by
              rw [HDR.out, rowSl_push]
              unfold slCells
              rw [hgf]
            have hne : ∀ b, b < w.heap.size → some b ≠ (Value.slice so2 (dropM (L.take i)).length cap2).ownBlock := fun b hb e => by
              have := (ownBlock_lt HO3.out e.symm).1
              omega
            have h4 : ∀ b, b < w.heap.size → w4.heap[b]? = w3.heap[b]? := fun b hb => (HGR.out.block b (by simp; omega) (hne b hb)).trans (Below.heap_alloc w3 _ b (by omega))
            obtain ⟨E3, h5, h6⟩ := HPUT.out
            refine ⟨i + 1, cap', some ⟨rb', 0, none⟩, rfl, by rw [hlen], rfl, by omega, by rw [hlen, hrow4]; exact HOWN4.out, ⟨E3, h5.keep (h4 g hg), by rw [HN.out]; exact h6⟩, ?_⟩
            exact ⟨HGR.out.os.trans HMD3.out.os, HGR.out.tape.trans HMD3.out.tape, HGR.out.output.trans HMD3.out.output, by omega, fun b hb hF => (h4 b hb).trans (HMD3.out.block b hb hF)⟩
    · obtain rfl : i = L.length := by omega
      have HEG := Lib.hid (show ∃ E, MapAt Tryz.prog 30 wr g E ∧ Graph E (midF L f L.length) from ⟨E2, hE2, hG2⟩)
      clear hE2 hG2 hrowr
      go_wp2
      refine bodyPost_ret (by simp [results, Tryz.results115, go_sem]; first | done | rfl) rfl ?_
      have hown := HOWN.out
      rw [List.take_length] at hown
      obtain ⟨E3, h3, h4⟩ := HEG.out
      refine ⟨rfl, so2, cap2, heap_setCell_same HMr.out 0 _, ownsRow_keep hown (fun b hb => Below.heap_setCell _ _ _ _ (show b ≠ m by have := (ownBlock_lt hown hb).1; omega)), ⟨E3, h3.keep (Below.heap_setCell _ _ _ _ (show g ≠ m by omega)), h4⟩, mods_setCell (HMD.out.mono (fun k _ e => .inr e)) (.inl (.inl rfl)) _⟩
end Go.Proofs.YteflmfdjnigjcaaGreatDoor
