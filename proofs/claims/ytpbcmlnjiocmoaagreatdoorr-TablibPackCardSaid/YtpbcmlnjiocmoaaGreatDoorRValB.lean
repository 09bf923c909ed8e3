import Derived.Test.YtpbcmlnjiocmoaaGreatDoorRCdA
import Derived.Test.YtpbcmlnjiocmoaaGreatDoorRRgf
set_option linter.unusedVariables false
set_option linter.unusedSimpArgs false
set_option maxRecDepth 100000
set_option maxHeartbeats 2000000
namespace Go.Proofs.YtpbcmlnjiocmoaaGreatDoorR
open Go.RowKit Go.Proofs.Lexi
set_option maxRecDepth 100000 in
set_option maxHeartbeats 2000000 in
theorem pOfString_c (w : World) (s : ByteArray) : Calls Tryz.prog 52 #[.string s] w (ValPost w (strV s)) := by
  go_enter Tryz.func52, Tryz.ntmps52
  go_wp2
  refine bodyPost_ret (by simp [results, Tryz.results52, go_sem]; first | done | rfl) rfl ?_
  exact val_done rfl (below_num0 _ _)
set_option maxRecDepth 100000 in
set_option maxHeartbeats 2000000 in
theorem pOfInt_c (w : World) (n : Int) : Calls Tryz.prog 54 #[.int .i64 n] w (ValPost w (intV n)) := by
  have hw : n < -2147483647 ∨ (¬ n < -2147483647 ∧ 2147483647 < n) ∨ (¬ n < -2147483647 ∧ ¬ 2147483647 < n) := by omega
  rcases hw with h | ⟨h, h2⟩ | ⟨h, h2⟩
  · have HR := Lib.hid (show intV n = V.nil from by unfold intV; rw [if_neg]; rw [inTop_iff]; omega)
    go_enter Tryz.func54, Tryz.ntmps54
    go_wp2
    refine bodyPost_ret (by simp [results, Tryz.results54, go_sem]; first | done | rfl) rfl ?_
    exact val_done HR.out (below_num0 _ _)
  · have HR := Lib.hid (show intV n = V.nil from by unfold intV; rw [if_neg]; rw [inTop_iff]; omega)
    go_enter Tryz.func54, Tryz.ntmps54
    go_wp2
    refine bodyPost_ret (by simp [results, Tryz.results54, go_sem]; first | done | rfl) rfl ?_
    exact val_done HR.out (below_num0 _ _)
  · have HR := Lib.hid (show intV n = ⟨2, n, 1, ⟨#[]⟩, 0⟩ from by unfold intV; rw [if_pos]; rw [inTop_iff]; omega)
    go_enter Tryz.func54, Tryz.ntmps54
    go_wp2
    refine bodyPost_ret (by simp [results, Tryz.results54, go_sem]; first | done | rfl) rfl ?_
    exact val_done HR.out (below_num0 _ _)
end Go.Proofs.YtpbcmlnjiocmoaaGreatDoorR
namespace Go.Proofs.YtpbcmlnjiocmoaaGreatDoorR
open Go.RowKit Go.Proofs.Lexi Go.ChangeMaps Go.MapKept
open Go.Maps (Keyed)
variable {P : Program}
theorem wpList_look_map (w : World) {ops : Array Oper} {rest : List Oper} {o : Oper} {a : Act} {Q : Exit → Act → World → Prop}
    (hg : o.guard = none) (m x : Operand) (t : TypeId) (c : Bool) (hop : o.op = Op.lookup t m x c) (M K v : Value) (hm : a.eval m = M) (hx : a.eval x = K)
    (hrun : (Instr.lookup t M K c).run P w = .ok v w) (hK : wpList P ops Q rest (a.put o.dst v) w) : wpList P ops Q (o :: rest) a w := by
  refine wpList_plain hg fun K' hK' => ?_
  unfold Oper.wp
  simp [execOp, hop, hm, hx, hrun, Result.andThen]
  exact hK' _ _ hK
theorem wpList_store_map (w : World) {ops : Array Oper} {rest : List Oper} {o : Oper} {a : Act} {Q : Exit → Act → World → Prop}
    (hg : o.guard = none) (m x v : Operand) (t : TypeId) (hop : o.op = Op.mapUpdate t m x v) (M K V' : Value) (hm : a.eval m = M) (hx : a.eval x = K) (hv : a.eval v = V') (R : World → Prop)
    (hrun : ∃ w', (Instr.mapUpdate t M K V').run P w = .ok () w' ∧ R w') (hK : ∀ w', R w' → wpList P ops Q rest (a.put o.dst undef) w') : wpList P ops Q (o :: rest) a w := by
  refine wpList_plain hg fun K' hK' => ?_
  obtain ⟨w', hrun, r⟩ := hrun
  unfold Oper.wp
  simp [execOp, hop, hm, hx, hv, hrun, Result.andThen]
  exact hK' _ _ (hK w' r)
theorem wpList_drop_map (w : World) {ops : Array Oper} {rest : List Oper} {o : Oper} {a : Act} {Q : Exit → Act → World → Prop}
    (hg : o.guard = none) (m x : Operand) (t k : TypeId) (hop : o.op = Op.call { callee := Callee.builtin Builtin.delete, args := #[m, x], argTypes := #[t, k] }) (M K : Value) (hm : a.eval m = M) (hx : a.eval x = K) (R : World → Prop)
    (hrun : ∃ w', (Builtin.delete_ #[t, k] o.type #[M, K]).run P w = .ok (.tuple #[]) w' ∧ R w') (hK : ∀ w', R w' → wpList P ops Q rest (a.put o.dst (.tuple #[])) w') : wpList P ops Q (o :: rest) a w := by
  refine wpList_plain hg fun K' hK' => ?_
  obtain ⟨w', hrun, r⟩ := hrun
  unfold Oper.wp
  simp [execOp, hop, resolve, invoke, builtin, hm, hx, hrun, Result.andThen]
  exact hK' _ _ (hK w' r)
end Go.Proofs.YtpbcmlnjiocmoaaGreatDoorR
namespace Go.Proofs.YtpbcmlnjiocmoaaGreatDoorR
open Go.RowKit Go.Proofs.Lexi
set_option maxRecDepth 100000 in
set_option maxHeartbeats 2000000 in
theorem pomGet_c (w : World) (m g : Nat) (sv : Value) (L : List Sl) (hO : OMap w m g sv L) (hL : L.length ≤ 1000) (k p q : Int) (s : ByteArray) (r : Int) (hk : WfV ⟨k, p, q, s, r⟩) :
    Calls Tryz.prog 78 #[.pointer (some ⟨m, 0, none⟩), .agg #[.int .i64 k, .int .i64 p, .int .i64 q, .string s, .int .i64 r]] w (ValPost w (getM L ⟨k, p, q, s, r⟩)) := by
  obtain ⟨hm, hrow, _, E, f, hE, hG, hI⟩ := hO
  have hlt : m < w.heap.size := (Array.getElem?_eq_some_iff.1 hm).1
  have hgl := hE.lt
  have HM := Lib.hid (heap2_old hm (oV k p q s r) (oV 0 0 0 ⟨#[]⟩ 0))
  have m1 : ((w.alloc (.cells #[.int .i64 k, .int .i64 p, .int .i64 q, .string s, .int .i64 r] 30)).alloc (.cells #[.int .i64 0, .int .i64 0, .int .i64 0, .string ⟨#[]⟩, .int .i64 0] 30)).cell? ⟨m, 1, none⟩ = some (.map (some g)) := by rw [cell_of_heap HM.out]; rfl
  have W0k : ∀ W, Below w.heap.size w W → W.heap[g]? = w.heap[g]? := fun W h => h.block g hgl
  have hways : (f ⟨k, p, q, s, r⟩ = none ∧ ∀ W, W.heap[g]? = w.heap[g]? → (Instr.lookup 142 (.map (some g)) (.agg #[.int .i64 k, .int .i64 p, .int .i64 q, .string s, .int .i64 r]) true).run Tryz.prog W = .ok (.tuple #[.int .i64 0, .bool false]) W) ∨
      ∃ n : Nat, f ⟨k, p, q, s, r⟩ = some n ∧ ∀ W, W.heap[g]? = w.heap[g]? → (Instr.lookup 142 (.map (some g)) (.agg #[.int .i64 k, .int .i64 p, .int .i64 q, .string s, .int .i64 r]) true).run Tryz.prog W = .ok (.tuple #[.int .i64 (n : Int), .bool true]) W := by
    rcases look_at hE hG hk w rfl with ⟨h1, _⟩ | ⟨n, h1, _⟩
    · refine .inl ⟨h1, fun W hW => ?_⟩
      rcases look_at hE hG hk W hW with ⟨_, h2⟩ | ⟨n, h2, _⟩
      · exact h2
      · rw [h1] at h2; cases h2
    · refine .inr ⟨n, h1, fun W hW => ?_⟩
      rcases look_at hE hG hk W hW with ⟨h2, _⟩ | ⟨n2, h2, h3⟩
      · rw [h1] at h2; cases h2
      · rw [h1] at h2; injection h2 with h2; subst h2; exact h3
  have WK := Lib.hid W0k
  clear W0k
  have key : ∀ W : World, W.heap = ((w.alloc (.cells #[.int .i64 k, .int .i64 p, .int .i64 q, .string s, .int .i64 r] 30)).alloc (.cells #[.int .i64 0, .int .i64 0, .int .i64 0, .string ⟨#[]⟩, .int .i64 0] 30)).heap → W.heap[g]? = w.heap[g]? := fun W h => by rw [h]; exact (below2w w _ _).block g hgl
  have KEY := Lib.hid key
  clear key
  rcases hways with ⟨hf, hlk⟩ | ⟨n, hf, hlk⟩
  · have HR := Lib.hid (hI.get_miss hf)
    have HLK := Lib.hid hlk
    clear hf hlk hI hG hE hrow
    go_enter Tryz.func78, Tryz.ntmps78
    go_wp2
    refine wp_region_lex mixed (by kernel_rfl) ?_
    go_wp2_with (at_lookup; refine wpList_look_map _ rfl _ _ _ _ rfl _ _ _ rfl rfl (HLK.out _ (KEY.out _ rfl)) ?_)
    refine ⟨by kernel_rfl, ?_⟩
    go_wp2
    refine bodyPost_ret (by simp [results, Tryz.results78, go_sem]; first | done | rfl) rfl ?_
    exact val_done HR.out (by first | exact (below2w _ _ _).drew | exact below2w _ _ _ | exact bdn (below2w _ _ _) _)
  · obtain ⟨sl, hsl, hsk⟩ := hI.key _ _ hf
    have hnl : n < L.length := (List.getElem?_eq_some_iff.1 hsl).1
    have HR := Lib.hid (hI.get_at hf hsl)
    have hrow2 := ownsRow_ext (below_ext (below2w w (oV k p q s r) (oV 0 0 0 ⟨#[]⟩ 0)) (Nat.le_refl _)) hrow
    obtain ⟨rb, cap, rfl⟩ := slice_shape hrow (by omega)
    have cellf : ∀ j u, j < 11 → (slCells sl)[j]? = some u → ((w.alloc (.cells #[.int .i64 k, .int .i64 p, .int .i64 q, .string s, .int .i64 r] 30)).alloc (.cells #[.int .i64 0, .int .i64 0, .int .i64 0, .string ⟨#[]⟩, .int .i64 0] 30)).cell? ⟨rb, n * 11 + j, none⟩ = some u := fun j u hj hu =>
      (hrow2.cellAt (n * 11 + j) (by omega)).trans ((rowSl_at L n j sl hsl hj).trans hu)
    have v0 := cellf 5 _ (by decide) rfl
    have v1 := cellf 6 _ (by decide) rfl
    have v2 := cellf 7 _ (by decide) rfl
    have v3 := cellf 8 _ (by decide) rfl
    have v4 := cellf 9 _ (by decide) rfl
    have m0 : ((w.alloc (.cells #[.int .i64 k, .int .i64 p, .int .i64 q, .string s, .int .i64 r] 30)).alloc (.cells #[.int .i64 0, .int .i64 0, .int .i64 0, .string ⟨#[]⟩, .int .i64 0] 30)).cell? ⟨m, 0, none⟩ = some (.slice (some ⟨rb, 0, none⟩) L.length cap) := by rw [cell_of_heap HM.out]; rfl
    have HLK := Lib.hid hlk
    clear hf hlk hI hG hE hrow hsl hsk cellf hrow2
    go_enter Tryz.func78, Tryz.ntmps78
    go_wp2
    refine wp_region_lex mixed (by kernel_rfl) ?_
    go_wp2_with (at_lookup; refine wpList_look_map _ rfl _ _ _ _ rfl _ _ _ rfl rfl (HLK.out _ (KEY.out _ rfl)) ?_)
    refine ⟨by kernel_rfl, ?_⟩
    go_wp2
    refine bodyPost_ret (by simp [results, Tryz.results78, go_sem]; first | done | rfl) rfl ?_
    exact val_done HR.out (by first | exact (below2w _ _ _).drew | exact below2w _ _ _ | exact below_five (below2w _ _ _).drew (by simp <;> omega) _ _ _ _ _ | exact below_five (below2w _ _ _) (by simp <;> omega) _ _ _ _ _)
set_option maxRecDepth 100000 in
set_option maxHeartbeats 2000000 in
theorem pomSet_remove (w : World) (m g rb cap n : Nat) (L : List Sl) (hm : w.heap[m]? = some (.cells #[.slice (some ⟨rb, 0, none⟩) L.length cap, .map (some g), .int .i64 (liveN L : Nat)] 144))
    (hrow : w.ownsRow 0 146 11 (.slice (some ⟨rb, 0, none⟩) L.length cap) L.length (rowSl L)) (hL : L.length ≤ 1000) (hg : g < w.heap.size) (k1 p1 q1 : Int) (s1 : ByteArray) (r1 : Int) (k2 p2 q2 : Int) (s2 : ByteArray) (r2 : Int) (sl : Sl) (hsl : L[n]? = some sl)
    (hlk : ∀ W, W.heap[g]? = w.heap[g]? → (Instr.lookup 142 (.map (some g)) (.agg #[.int .i64 k1, .int .i64 p1, .int .i64 q1, .string s1, .int .i64 r1]) true).run Tryz.prog W = .ok (.tuple #[.int .i64 (n : Int), .bool true]) W)
    (hvk : ∀ W, Calls Tryz.prog 43 #[.agg #[.int .i64 k1, .int .i64 p1, .int .i64 q1, .string s1, .int .i64 r1]] W (BoolPost W true)) (hvv : ∀ W, Calls Tryz.prog 43 #[.agg #[.int .i64 k2, .int .i64 p2, .int .i64 q2, .string s2, .int .i64 r2]] W (BoolPost W true)) (hk0 : (k1 == 0) = false) (hv0 : (k2 == 0) = true) (hgf : sl.g = false) (hl1 : 1 ≤ liveN L) :
    Calls Tryz.prog 83 #[.pointer (some ⟨m, 0, none⟩), .agg #[.int .i64 k1, .int .i64 p1, .int .i64 q1, .string s1, .int .i64 r1], .agg #[.int .i64 k2, .int .i64 p2, .int .i64 q2, .string s2, .int .i64 r2]] w (fun e w' => e = .returned (.int .i64 0) ∧ ∃ w2, Below w.heap.size w w2 ∧ w' = (setCells w2 rb (n * 11) (slCells ⟨⟨k1, p1, q1, s1, r1⟩, V.nil, true⟩)).setCell ⟨m, 2, none⟩ (.int .i64 ((liveN L : Nat) - 1 : Int))) := by
  have hl2 := liveN_le L
  have hnl : n < L.length := (List.getElem?_eq_some_iff.1 hsl).1
  have hml : m < w.heap.size := (Array.getElem?_eq_some_iff.1 hm).1
  have hrl : rb < w.heap.size := (ownBlock_lt hrow rfl).2
  have HVK := Lib.hid hvk
  have HVV := Lib.hid hvv
  have HLK := Lib.hid hlk
  clear hvk hvv hlk
  go_enter Tryz.func83, Tryz.ntmps83
  go_wp2_with fail
  refine (HVK.out _).mono ?_
  rintro e w1 ⟨rfl, hb⟩
  have HKB := Lib.hid (hkeep hb (heap2_a _ _ _))
  have HVB := Lib.hid (hkeep hb (heap2_b _ _ _))
  have HW1 := Lib.hid (below_next (below2w _ _ _) hb)
  have hz1 := hb.size
  simp at hz1
  clear hb
  have b0 : w1.cell? ⟨w.heap.size + 1, 0, none⟩ = some (.int .i64 k2) := by rw [cell_of_heap HVB.out]; rfl
  have b1 : w1.cell? ⟨w.heap.size + 1, 1, none⟩ = some (.int .i64 p2) := by rw [cell_of_heap HVB.out]; rfl
  have b2 : w1.cell? ⟨w.heap.size + 1, 2, none⟩ = some (.int .i64 q2) := by rw [cell_of_heap HVB.out]; rfl
  have b3 : w1.cell? ⟨w.heap.size + 1, 3, none⟩ = some (.string s2) := by rw [cell_of_heap HVB.out]; rfl
  have b4 : w1.cell? ⟨w.heap.size + 1, 4, none⟩ = some (.int .i64 r2) := by rw [cell_of_heap HVB.out]; rfl
  go_wp2_with fail
  refine (HVV.out _).mono ?_
  rintro e w2 ⟨rfl, hb⟩
  have HKB2 := Lib.hid (hkeep hb HKB.out)
  have HVB2 := Lib.hid (hkeep hb HVB.out)
  have HW2 := Lib.hid (below_next HW1.out hb)
  have hz2 := hb.size
  have HMM := Lib.hid (hkeep HW2.out hm)
  have HROW := Lib.hid (ownsRow_ext (below_ext HW2.out (Nat.le_refl _)) hrow)
  have HGG := Lib.hid (bw HW2.out hg)
  have hgone : w2.cell? ⟨rb, n * 11 + 10, none⟩ = some (.bool sl.g) := (HROW.out.cellAt (n * 11 + 10) (by omega)).trans (rowSl_at L n 10 sl hsl (by decide))
  clear hb b0 b1 b2 b3 b4 HKB HVB
  have a0 : w2.cell? ⟨w.heap.size, 0, none⟩ = some (.int .i64 k1) := by rw [cell_of_heap HKB2.out]; rfl
  have a1 : w2.cell? ⟨w.heap.size, 1, none⟩ = some (.int .i64 p1) := by rw [cell_of_heap HKB2.out]; rfl
  have a2 : w2.cell? ⟨w.heap.size, 2, none⟩ = some (.int .i64 q1) := by rw [cell_of_heap HKB2.out]; rfl
  have a3 : w2.cell? ⟨w.heap.size, 3, none⟩ = some (.string s1) := by rw [cell_of_heap HKB2.out]; rfl
  have a4 : w2.cell? ⟨w.heap.size, 4, none⟩ = some (.int .i64 r1) := by rw [cell_of_heap HKB2.out]; rfl
  have b0 : w2.cell? ⟨w.heap.size + 1, 0, none⟩ = some (.int .i64 k2) := by rw [cell_of_heap HVB2.out]; rfl
  have b1 : w2.cell? ⟨w.heap.size + 1, 1, none⟩ = some (.int .i64 p2) := by rw [cell_of_heap HVB2.out]; rfl
  have b2 : w2.cell? ⟨w.heap.size + 1, 2, none⟩ = some (.int .i64 q2) := by rw [cell_of_heap HVB2.out]; rfl
  have b3 : w2.cell? ⟨w.heap.size + 1, 3, none⟩ = some (.string s2) := by rw [cell_of_heap HVB2.out]; rfl
  have b4 : w2.cell? ⟨w.heap.size + 1, 4, none⟩ = some (.int .i64 r2) := by rw [cell_of_heap HVB2.out]; rfl
  have m0 : w2.cell? ⟨m, 0, none⟩ = some (.slice (some ⟨rb, 0, none⟩) L.length cap) := by rw [cell_of_heap HMM.out]; rfl
  have m1 : w2.cell? ⟨m, 1, none⟩ = some (.map (some g)) := by rw [cell_of_heap HMM.out]; rfl
  have m2 : w2.cell? ⟨m, 2, none⟩ = some (.int .i64 (liveN L : Nat)) := by rw [cell_of_heap HMM.out]; rfl
  have fm0 : w2.frozen? ⟨m, 0, none⟩ = false := frozen_of_heap HMM.out _
  have fm1 : w2.frozen? ⟨m, 1, none⟩ = false := frozen_of_heap HMM.out _
  have fm2 : w2.frozen? ⟨m, 2, none⟩ = false := frozen_of_heap HMM.out _
  rw [hgf] at hgone
  go_wp2
  refine wp_region_lex mixed (by kernel_rfl) ?_
  go_wp2_with (at_lookup; refine wpList_look_map _ rfl _ _ _ _ rfl _ _ _ rfl rfl (HLK.out _ HGG.out) ?_)
  refine ⟨by kernel_rfl, ?_⟩
  go_wp2
  have HTH := Lib.hid (fun W (hW : W.heap = w2.heap) => there_row (ownsRow_keep (w3 := W) HROW.out (fun g _ => by rw [hW])) (n * 11) 11 (by omega))
  have m2x : ∀ W : World, W.heap = w2.heap → ∀ vs, (W.setCells rb (n * 11) vs).cell? ⟨m, 2, none⟩ = some (.int .i64 (liveN L : Nat)) := fun W hW vs => by
    rw [kit_setCells, World.cell?_of_block (setCells_other (fun e => mrb HMM.out HROW.out e) vs W (n * 11)), World.cell?_of_block (w := w2) (by rw [hW])]; exact m2
  have f2x : ∀ W : World, W.heap = w2.heap → ∀ vs, (W.setCells rb (n * 11) vs).frozen? ⟨m, 2, none⟩ = false := fun W hW vs => by
    rw [kit_setCells, World.frozen?_of_block (setCells_other (fun e => mrb HMM.out HROW.out e) vs W (n * 11)), World.frozen?_of_block (w := w2) (by rw [hW])]; exact fm2
  have m20 := m2x w2 rfl
  have m21 := m2x w2.drew rfl
  have m22 := m2x w2.drew.drew rfl
  have f20 := f2x w2 rfl
  have f21 := f2x w2.drew rfl
  have f22 := f2x w2.drew.drew rfl
  clear m2x f2x
  refine wp_region_lex mixed (by kernel_rfl) ?_
  go_wp2_with (refine wpList_store_mid rfl 146 _ _ rfl rb (n * 11) _ rfl rfl (HTH.out _ rfl) info161 (by simp [Value.oneCell']) ?_)
  refine ⟨by kernel_rfl, ?_⟩
  go_wp2
  go_ret
  exact ⟨rfl, w2.drew.drew, HW2.out.drew.drew, congrArg (fun W => World.setCell W ⟨m, 2, none⟩ (.int .i64 ((liveN L : Nat) - 1 : Int))) (kit_setCells (slCells ⟨⟨k1, p1, q1, s1, r1⟩, V.nil, true⟩) w2.drew.drew (n * 11))⟩
set_option maxRecDepth 100000 in
set_option maxHeartbeats 2000000 in
theorem pomSet_write (w : World) (m g rb cap n : Nat) (L : List Sl) (hm : w.heap[m]? = some (.cells #[.slice (some ⟨rb, 0, none⟩) L.length cap, .map (some g), .int .i64 (liveN L : Nat)] 144))
    (hrow : w.ownsRow 0 146 11 (.slice (some ⟨rb, 0, none⟩) L.length cap) L.length (rowSl L)) (hL : L.length ≤ 1000) (hg : g < w.heap.size) (k1 p1 q1 : Int) (s1 : ByteArray) (r1 : Int) (k2 p2 q2 : Int) (s2 : ByteArray) (r2 : Int) (sl : Sl) (hsl : L[n]? = some sl)
    (hlk : ∀ W, W.heap[g]? = w.heap[g]? → (Instr.lookup 142 (.map (some g)) (.agg #[.int .i64 k1, .int .i64 p1, .int .i64 q1, .string s1, .int .i64 r1]) true).run Tryz.prog W = .ok (.tuple #[.int .i64 (n : Int), .bool true]) W)
    (hvk : ∀ W, Calls Tryz.prog 43 #[.agg #[.int .i64 k1, .int .i64 p1, .int .i64 q1, .string s1, .int .i64 r1]] W (BoolPost W true)) (hvv : ∀ W, Calls Tryz.prog 43 #[.agg #[.int .i64 k2, .int .i64 p2, .int .i64 q2, .string s2, .int .i64 r2]] W (BoolPost W true)) (hk0 : (k1 == 0) = false) (hv0 : (k2 == 0) = false) (hgf : sl.g = false) :
    Calls Tryz.prog 83 #[.pointer (some ⟨m, 0, none⟩), .agg #[.int .i64 k1, .int .i64 p1, .int .i64 q1, .string s1, .int .i64 r1], .agg #[.int .i64 k2, .int .i64 p2, .int .i64 q2, .string s2, .int .i64 r2]] w (fun e w' => e = .returned (.int .i64 0) ∧ ∃ w2, Below w.heap.size w w2 ∧ w' = setCells w2 rb (n * 11 + 5) (valCells ⟨k2, p2, q2, s2, r2⟩)) := by
  have hl2 := liveN_le L
  have hnl : n < L.length := (List.getElem?_eq_some_iff.1 hsl).1
  have hml : m < w.heap.size := (Array.getElem?_eq_some_iff.1 hm).1
  have hrl : rb < w.heap.size := (ownBlock_lt hrow rfl).2
  have HVK := Lib.hid hvk
  have HVV := Lib.hid hvv
  have HLK := Lib.hid hlk
  clear hvk hvv hlk
  go_enter Tryz.func83, Tryz.ntmps83
  go_wp2_with fail
  refine (HVK.out _).mono ?_
  rintro e w1 ⟨rfl, hb⟩
  have HKB := Lib.hid (hkeep hb (heap2_a _ _ _))
  have HVB := Lib.hid (hkeep hb (heap2_b _ _ _))
  have HW1 := Lib.hid (below_next (below2w _ _ _) hb)
  have hz1 := hb.size
  simp at hz1
  clear hb
  have b0 : w1.cell? ⟨w.heap.size + 1, 0, none⟩ = some (.int .i64 k2) := by rw [cell_of_heap HVB.out]; rfl
  have b1 : w1.cell? ⟨w.heap.size + 1, 1, none⟩ = some (.int .i64 p2) := by rw [cell_of_heap HVB.out]; rfl
  have b2 : w1.cell? ⟨w.heap.size + 1, 2, none⟩ = some (.int .i64 q2) := by rw [cell_of_heap HVB.out]; rfl
  have b3 : w1.cell? ⟨w.heap.size + 1, 3, none⟩ = some (.string s2) := by rw [cell_of_heap HVB.out]; rfl
  have b4 : w1.cell? ⟨w.heap.size + 1, 4, none⟩ = some (.int .i64 r2) := by rw [cell_of_heap HVB.out]; rfl
  go_wp2_with fail
  refine (HVV.out _).mono ?_
  rintro e w2 ⟨rfl, hb⟩
  have HKB2 := Lib.hid (hkeep hb HKB.out)
  have HVB2 := Lib.hid (hkeep hb HVB.out)
  have HW2 := Lib.hid (below_next HW1.out hb)
  have hz2 := hb.size
  have HMM := Lib.hid (hkeep HW2.out hm)
  have HROW := Lib.hid (ownsRow_ext (below_ext HW2.out (Nat.le_refl _)) hrow)
  have HGG := Lib.hid (bw HW2.out hg)
  have hgone : w2.cell? ⟨rb, n * 11 + 10, none⟩ = some (.bool sl.g) := (HROW.out.cellAt (n * 11 + 10) (by omega)).trans (rowSl_at L n 10 sl hsl (by decide))
  clear hb b0 b1 b2 b3 b4 HKB HVB
  have a0 : w2.cell? ⟨w.heap.size, 0, none⟩ = some (.int .i64 k1) := by rw [cell_of_heap HKB2.out]; rfl
  have a1 : w2.cell? ⟨w.heap.size, 1, none⟩ = some (.int .i64 p1) := by rw [cell_of_heap HKB2.out]; rfl
  have a2 : w2.cell? ⟨w.heap.size, 2, none⟩ = some (.int .i64 q1) := by rw [cell_of_heap HKB2.out]; rfl
  have a3 : w2.cell? ⟨w.heap.size, 3, none⟩ = some (.string s1) := by rw [cell_of_heap HKB2.out]; rfl
  have a4 : w2.cell? ⟨w.heap.size, 4, none⟩ = some (.int .i64 r1) := by rw [cell_of_heap HKB2.out]; rfl
  have b0 : w2.cell? ⟨w.heap.size + 1, 0, none⟩ = some (.int .i64 k2) := by rw [cell_of_heap HVB2.out]; rfl
  have b1 : w2.cell? ⟨w.heap.size + 1, 1, none⟩ = some (.int .i64 p2) := by rw [cell_of_heap HVB2.out]; rfl
  have b2 : w2.cell? ⟨w.heap.size + 1, 2, none⟩ = some (.int .i64 q2) := by rw [cell_of_heap HVB2.out]; rfl
  have b3 : w2.cell? ⟨w.heap.size + 1, 3, none⟩ = some (.string s2) := by rw [cell_of_heap HVB2.out]; rfl
  have b4 : w2.cell? ⟨w.heap.size + 1, 4, none⟩ = some (.int .i64 r2) := by rw [cell_of_heap HVB2.out]; rfl
  have m0 : w2.cell? ⟨m, 0, none⟩ = some (.slice (some ⟨rb, 0, none⟩) L.length cap) := by rw [cell_of_heap HMM.out]; rfl
  have m1 : w2.cell? ⟨m, 1, none⟩ = some (.map (some g)) := by rw [cell_of_heap HMM.out]; rfl
  have m2 : w2.cell? ⟨m, 2, none⟩ = some (.int .i64 (liveN L : Nat)) := by rw [cell_of_heap HMM.out]; rfl
  have fm0 : w2.frozen? ⟨m, 0, none⟩ = false := frozen_of_heap HMM.out _
  have fm1 : w2.frozen? ⟨m, 1, none⟩ = false := frozen_of_heap HMM.out _
  have fm2 : w2.frozen? ⟨m, 2, none⟩ = false := frozen_of_heap HMM.out _
  rw [hgf] at hgone
  go_wp2
  refine wp_region_lex mixed (by kernel_rfl) ?_
  go_wp2_with (at_lookup; refine wpList_look_map _ rfl _ _ _ _ rfl _ _ _ rfl rfl (HLK.out _ HGG.out) ?_)
  refine ⟨by kernel_rfl, ?_⟩
  go_wp2
  have HTH := Lib.hid (fun W (hW : W.heap = w2.heap) => there_row (ownsRow_keep (w3 := W) HROW.out (fun g _ => by rw [hW])) (n * 11 + 5) 5 (by omega))
  refine wp_region_lex mixed (by kernel_rfl) ?_
  go_wp2_with (refine wpList_store_mid rfl 30 _ _ rfl rb (n * 11 + 5) _ rfl rfl (HTH.out _ rfl) info25 (by simp [Value.oneCell']) ?_)
  refine ⟨by kernel_rfl, ?_⟩
  go_wp2
  go_ret
  exact ⟨rfl, w2.drew.drew, HW2.out.drew.drew, kit_setCells (valCells ⟨k2, p2, q2, s2, r2⟩) w2.drew.drew (n * 11 + 5)⟩
set_option maxRecDepth 100000 in
set_option maxHeartbeats 2000000 in
theorem pomSet_gone (w : World) (m g rb cap n : Nat) (L : List Sl) (hm : w.heap[m]? = some (.cells #[.slice (some ⟨rb, 0, none⟩) L.length cap, .map (some g), .int .i64 (liveN L : Nat)] 144))
    (hrow : w.ownsRow 0 146 11 (.slice (some ⟨rb, 0, none⟩) L.length cap) L.length (rowSl L)) (hL : L.length ≤ 1000) (hg : g < w.heap.size) (k1 p1 q1 : Int) (s1 : ByteArray) (r1 : Int) (k2 p2 q2 : Int) (s2 : ByteArray) (r2 : Int) (sl : Sl) (hsl : L[n]? = some sl)
    (hlk : ∀ W, W.heap[g]? = w.heap[g]? → (Instr.lookup 142 (.map (some g)) (.agg #[.int .i64 k1, .int .i64 p1, .int .i64 q1, .string s1, .int .i64 r1]) true).run Tryz.prog W = .ok (.tuple #[.int .i64 (n : Int), .bool true]) W)
    (hvk : ∀ W, Calls Tryz.prog 43 #[.agg #[.int .i64 k1, .int .i64 p1, .int .i64 q1, .string s1, .int .i64 r1]] W (BoolPost W true)) (hvv : ∀ W, Calls Tryz.prog 43 #[.agg #[.int .i64 k2, .int .i64 p2, .int .i64 q2, .string s2, .int .i64 r2]] W (BoolPost W true)) (hk0 : (k1 == 0) = false) (hv0 : (k2 == 0) = true) (hgf : sl.g = true) :
    Calls Tryz.prog 83 #[.pointer (some ⟨m, 0, none⟩), .agg #[.int .i64 k1, .int .i64 p1, .int .i64 q1, .string s1, .int .i64 r1], .agg #[.int .i64 k2, .int .i64 p2, .int .i64 q2, .string s2, .int .i64 r2]] w (fun e w' => e = .returned (.int .i64 0) ∧ Below w.heap.size w w') := by
  have hl2 := liveN_le L
  have hnl : n < L.length := (List.getElem?_eq_some_iff.1 hsl).1
  have hml : m < w.heap.size := (Array.getElem?_eq_some_iff.1 hm).1
  have hrl : rb < w.heap.size := (ownBlock_lt hrow rfl).2
  have HVK := Lib.hid hvk
  have HVV := Lib.hid hvv
  have HLK := Lib.hid hlk
  clear hvk hvv hlk
  go_enter Tryz.func83, Tryz.ntmps83
  go_wp2_with fail
  refine (HVK.out _).mono ?_
  rintro e w1 ⟨rfl, hb⟩
  have HKB := Lib.hid (hkeep hb (heap2_a _ _ _))
  have HVB := Lib.hid (hkeep hb (heap2_b _ _ _))
  have HW1 := Lib.hid (below_next (below2w _ _ _) hb)
  have hz1 := hb.size
  simp at hz1
  clear hb
  have b0 : w1.cell? ⟨w.heap.size + 1, 0, none⟩ = some (.int .i64 k2) := by rw [cell_of_heap HVB.out]; rfl
  have b1 : w1.cell? ⟨w.heap.size + 1, 1, none⟩ = some (.int .i64 p2) := by rw [cell_of_heap HVB.out]; rfl
  have b2 : w1.cell? ⟨w.heap.size + 1, 2, none⟩ = some (.int .i64 q2) := by rw [cell_of_heap HVB.out]; rfl
  have b3 : w1.cell? ⟨w.heap.size + 1, 3, none⟩ = some (.string s2) := by rw [cell_of_heap HVB.out]; rfl
  have b4 : w1.cell? ⟨w.heap.size + 1, 4, none⟩ = some (.int .i64 r2) := by rw [cell_of_heap HVB.out]; rfl
  go_wp2_with fail
  refine (HVV.out _).mono ?_
  rintro e w2 ⟨rfl, hb⟩
  have HKB2 := Lib.hid (hkeep hb HKB.out)
  have HVB2 := Lib.hid (hkeep hb HVB.out)
  have HW2 := Lib.hid (below_next HW1.out hb)
  have hz2 := hb.size
  have HMM := Lib.hid (hkeep HW2.out hm)
  have HROW := Lib.hid (ownsRow_ext (below_ext HW2.out (Nat.le_refl _)) hrow)
  have HGG := Lib.hid (bw HW2.out hg)
  have hgone : w2.cell? ⟨rb, n * 11 + 10, none⟩ = some (.bool sl.g) := (HROW.out.cellAt (n * 11 + 10) (by omega)).trans (rowSl_at L n 10 sl hsl (by decide))
  clear hb b0 b1 b2 b3 b4 HKB HVB
  have a0 : w2.cell? ⟨w.heap.size, 0, none⟩ = some (.int .i64 k1) := by rw [cell_of_heap HKB2.out]; rfl
  have a1 : w2.cell? ⟨w.heap.size, 1, none⟩ = some (.int .i64 p1) := by rw [cell_of_heap HKB2.out]; rfl
  have a2 : w2.cell? ⟨w.heap.size, 2, none⟩ = some (.int .i64 q1) := by rw [cell_of_heap HKB2.out]; rfl
  have a3 : w2.cell? ⟨w.heap.size, 3, none⟩ = some (.string s1) := by rw [cell_of_heap HKB2.out]; rfl
  have a4 : w2.cell? ⟨w.heap.size, 4, none⟩ = some (.int .i64 r1) := by rw [cell_of_heap HKB2.out]; rfl
  have b0 : w2.cell? ⟨w.heap.size + 1, 0, none⟩ = some (.int .i64 k2) := by rw [cell_of_heap HVB2.out]; rfl
  have b1 : w2.cell? ⟨w.heap.size + 1, 1, none⟩ = some (.int .i64 p2) := by rw [cell_of_heap HVB2.out]; rfl
  have b2 : w2.cell? ⟨w.heap.size + 1, 2, none⟩ = some (.int .i64 q2) := by rw [cell_of_heap HVB2.out]; rfl
  have b3 : w2.cell? ⟨w.heap.size + 1, 3, none⟩ = some (.string s2) := by rw [cell_of_heap HVB2.out]; rfl
  have b4 : w2.cell? ⟨w.heap.size + 1, 4, none⟩ = some (.int .i64 r2) := by rw [cell_of_heap HVB2.out]; rfl
  have m0 : w2.cell? ⟨m, 0, none⟩ = some (.slice (some ⟨rb, 0, none⟩) L.length cap) := by rw [cell_of_heap HMM.out]; rfl
  have m1 : w2.cell? ⟨m, 1, none⟩ = some (.map (some g)) := by rw [cell_of_heap HMM.out]; rfl
  have m2 : w2.cell? ⟨m, 2, none⟩ = some (.int .i64 (liveN L : Nat)) := by rw [cell_of_heap HMM.out]; rfl
  have fm0 : w2.frozen? ⟨m, 0, none⟩ = false := frozen_of_heap HMM.out _
  have fm1 : w2.frozen? ⟨m, 1, none⟩ = false := frozen_of_heap HMM.out _
  have fm2 : w2.frozen? ⟨m, 2, none⟩ = false := frozen_of_heap HMM.out _
  rw [hgf] at hgone
  go_wp2
  refine wp_region_lex mixed (by kernel_rfl) ?_
  go_wp2_with (at_lookup; refine wpList_look_map _ rfl _ _ _ _ rfl _ _ _ rfl rfl (HLK.out _ HGG.out) ?_)
  refine ⟨by kernel_rfl, ?_⟩
  go_wp2
  go_ret
  exact ⟨rfl, HW2.out.drew⟩
set_option maxRecDepth 100000 in
set_option maxHeartbeats 2000000 in
theorem pomSet_push (w : World) (m g cap : Nat) (so : Option Addr) (L : List Sl) (E : List (Value × Value)) (f : V → Option Nat) (hm : w.heap[m]? = some (.cells #[.slice so L.length cap, .map (some g), .int .i64 (liveN L : Nat)] 144))
    (hrow : w.ownsRow 0 146 11 (.slice so L.length cap) L.length (rowSl L)) (hL : L.length ≤ 1000) (hE : MapAt Tryz.prog 30 w g E) (hG : Graph E f) (hroom : ¬ liveN L + 8 < L.length - liveN L) (k1 p1 q1 : Int) (s1 : ByteArray) (r1 : Int) (k2 p2 q2 : Int) (s2 : ByteArray) (r2 : Int) (hkw : WfV ⟨k1, p1, q1, s1, r1⟩)
    (hvk : ∀ W, Calls Tryz.prog 43 #[.agg #[.int .i64 k1, .int .i64 p1, .int .i64 q1, .string s1, .int .i64 r1]] W (BoolPost W true)) (hvv : ∀ W, Calls Tryz.prog 43 #[.agg #[.int .i64 k2, .int .i64 p2, .int .i64 q2, .string s2, .int .i64 r2]] W (BoolPost W true)) (hk0 : (k1 == 0) = false) (hI : Idx L f) (hno : NoLive L f ⟨k1, p1, q1, s1, r1⟩) (hwf : ∀ s ∈ L, WfV s.k ∧ WfV s.v) (hvw : WfV ⟨k2, p2, q2, s2, r2⟩) (hv0 : (k2 == 0) = false)
    (hlk : ∀ W, W.heap[g]? = w.heap[g]? → (Instr.lookup 142 (.map (some g)) (.agg #[.int .i64 k1, .int .i64 p1, .int .i64 q1, .string s1, .int .i64 r1]) true).run Tryz.prog W = .ok (.tuple #[.int .i64 0, .bool false]) W) :
    Calls Tryz.prog 83 #[.pointer (some ⟨m, 0, none⟩), .agg #[.int .i64 k1, .int .i64 p1, .int .i64 q1, .string s1, .int .i64 r1], .agg #[.int .i64 k2, .int .i64 p2, .int .i64 q2, .string s2, .int .i64 r2]] w (OmPost w m g (.slice so L.length cap) (L ++ [⟨⟨k1, p1, q1, s1, r1⟩, ⟨k2, p2, q2, s2, r2⟩, false⟩])) := by
  have HII := Lib.hid hI
  have HNO := Lib.hid hno
  have HWF := Lib.hid hwf
  have HKW := Lib.hid hkw
  have HVW := Lib.hid hvw
  clear hI hno hwf hvw
  have hl2 := liveN_le L
  have hml : m < w.heap.size := (Array.getElem?_eq_some_iff.1 hm).1
  have hg : g < w.heap.size := hE.lt
  have hmg : m ≠ g := fun e => by
    obtain ⟨es, c, he, _⟩ := id hE
    rw [← e, hm] at he
    cases he
  obtain ⟨es0, c0, hgm, _⟩ := id hE
  have hrg := row_ne hrow hgm
  have HGM := Lib.hid hgm
  have HRG := Lib.hid hrg
  have HST := Lib.hid (put_at hE hG hkw)
  clear hgm hrg
  have HVK := Lib.hid hvk
  have HVV := Lib.hid hvv
  have HLK := Lib.hid hlk
  clear hvk hvv hlk hE hG
  go_enter Tryz.func83, Tryz.ntmps83
  go_wp2_with fail
  refine (HVK.out _).mono ?_
  rintro e w1 ⟨rfl, hb⟩
  have HKB := Lib.hid (hkeep hb (heap2_a _ _ _))
  have HVB := Lib.hid (hkeep hb (heap2_b _ _ _))
  have HW1 := Lib.hid (below_next (below2w _ _ _) hb)
  have hz1 := hb.size
  simp at hz1
  clear hb
  have b0 : w1.cell? ⟨w.heap.size + 1, 0, none⟩ = some (.int .i64 k2) := by rw [cell_of_heap HVB.out]; rfl
  have b1 : w1.cell? ⟨w.heap.size + 1, 1, none⟩ = some (.int .i64 p2) := by rw [cell_of_heap HVB.out]; rfl
  have b2 : w1.cell? ⟨w.heap.size + 1, 2, none⟩ = some (.int .i64 q2) := by rw [cell_of_heap HVB.out]; rfl
  have b3 : w1.cell? ⟨w.heap.size + 1, 3, none⟩ = some (.string s2) := by rw [cell_of_heap HVB.out]; rfl
  have b4 : w1.cell? ⟨w.heap.size + 1, 4, none⟩ = some (.int .i64 r2) := by rw [cell_of_heap HVB.out]; rfl
  go_wp2_with fail
  refine (HVV.out _).mono ?_
  rintro e w2 ⟨rfl, hb⟩
  have HKB2 := Lib.hid (hkeep hb HKB.out)
  have HVB2 := Lib.hid (hkeep hb HVB.out)
  have HW2 := Lib.hid (below_next HW1.out hb)
  have hz2 := hb.size
  have HMM := Lib.hid (hkeep HW2.out hm)
  have HROW := Lib.hid (ownsRow_ext (below_ext HW2.out (Nat.le_refl _)) hrow)
  have HGG := Lib.hid (bw HW2.out hg)
  clear hb b0 b1 b2 b3 b4 HKB HVB
  have a0 : w2.cell? ⟨w.heap.size, 0, none⟩ = some (.int .i64 k1) := by rw [cell_of_heap HKB2.out]; rfl
  have a1 : w2.cell? ⟨w.heap.size, 1, none⟩ = some (.int .i64 p1) := by rw [cell_of_heap HKB2.out]; rfl
  have a2 : w2.cell? ⟨w.heap.size, 2, none⟩ = some (.int .i64 q1) := by rw [cell_of_heap HKB2.out]; rfl
  have a3 : w2.cell? ⟨w.heap.size, 3, none⟩ = some (.string s1) := by rw [cell_of_heap HKB2.out]; rfl
  have a4 : w2.cell? ⟨w.heap.size, 4, none⟩ = some (.int .i64 r1) := by rw [cell_of_heap HKB2.out]; rfl
  have b0 : w2.cell? ⟨w.heap.size + 1, 0, none⟩ = some (.int .i64 k2) := by rw [cell_of_heap HVB2.out]; rfl
  have b1 : w2.cell? ⟨w.heap.size + 1, 1, none⟩ = some (.int .i64 p2) := by rw [cell_of_heap HVB2.out]; rfl
  have b2 : w2.cell? ⟨w.heap.size + 1, 2, none⟩ = some (.int .i64 q2) := by rw [cell_of_heap HVB2.out]; rfl
  have b3 : w2.cell? ⟨w.heap.size + 1, 3, none⟩ = some (.string s2) := by rw [cell_of_heap HVB2.out]; rfl
  have b4 : w2.cell? ⟨w.heap.size + 1, 4, none⟩ = some (.int .i64 r2) := by rw [cell_of_heap HVB2.out]; rfl
  have m0 : w2.cell? ⟨m, 0, none⟩ = some (.slice so L.length cap) := by rw [cell_of_heap HMM.out]; rfl
  have m1 : w2.cell? ⟨m, 1, none⟩ = some (.map (some g)) := by rw [cell_of_heap HMM.out]; rfl
  have m2 : w2.cell? ⟨m, 2, none⟩ = some (.int .i64 (liveN L : Nat)) := by rw [cell_of_heap HMM.out]; rfl
  have fm0 : w2.frozen? ⟨m, 0, none⟩ = false := frozen_of_heap HMM.out _
  have fm1 : w2.frozen? ⟨m, 1, none⟩ = false := frozen_of_heap HMM.out _
  have fm2 : w2.frozen? ⟨m, 2, none⟩ = false := frozen_of_heap HMM.out _
  go_wp2
  refine wp_region_lex mixed (by kernel_rfl) ?_
  go_wp2_with (at_lookup; refine wpList_look_map _ rfl _ _ _ _ rfl _ _ _ rfl rfl (HLK.out _ HGG.out) ?_)
  refine ⟨by kernel_rfl, ?_⟩
  go_wp2
  refine wp_region_lex mixed (by kernel_rfl) ?_
  go_wp2
  refine ⟨by kernel_rfl, ?_⟩
  go_wp2
  refine wp_region_lex mixed (by kernel_rfl) ?_
  go_wp2_with (at_mapUpdate; refine wpList_store_map _ rfl _ _ _ _ rfl _ _ _ rfl rfl rfl _ (HST.out L.length _ HGG.out) ?_; intro w3 hw3)
  refine ⟨by kernel_rfl, ?_⟩
  go_wp2
  obtain ⟨hput, hmods, hsz3⟩ := hw3
  have HPUT := Lib.hid hput
  have HK3 := Lib.hid (mods_keep hmods (show w2.drew.drew.drew.heap[w.heap.size]? = _ from HKB2.out) (by omega))
  have HV3 := Lib.hid (mods_keep hmods (show w2.drew.drew.drew.heap[w.heap.size + 1]? = _ from HVB2.out) (by omega))
  have HM3 := Lib.hid (mods_keep hmods (show w2.drew.drew.drew.heap[m]? = _ from HMM.out) hmg)
  have HR3 := Lib.hid (ownsRow_keep (w3 := w3) HROW.out (fun b hb => hmods.block b (ownBlock_lt HROW.out hb).2 (HRG.out b hb)))
  have HMD := Lib.hid hmods
  have hsz3' : w2.heap.size ≤ w3.heap.size := Nat.le_of_eq (Eq.symm hsz3)
  clear hput hmods hsz3 a0 a1 a2 a3 a4 b0 b1 b2 b3 b4 m0 m1 m2 fm0 fm1 fm2
  have a0 : w3.cell? ⟨w.heap.size, 0, none⟩ = some (.int .i64 k1) := by rw [cell_of_heap HK3.out]; rfl
  have a1 : w3.cell? ⟨w.heap.size, 1, none⟩ = some (.int .i64 p1) := by rw [cell_of_heap HK3.out]; rfl
  have a2 : w3.cell? ⟨w.heap.size, 2, none⟩ = some (.int .i64 q1) := by rw [cell_of_heap HK3.out]; rfl
  have a3 : w3.cell? ⟨w.heap.size, 3, none⟩ = some (.string s1) := by rw [cell_of_heap HK3.out]; rfl
  have a4 : w3.cell? ⟨w.heap.size, 4, none⟩ = some (.int .i64 r1) := by rw [cell_of_heap HK3.out]; rfl
  have b0 : w3.cell? ⟨w.heap.size + 1, 0, none⟩ = some (.int .i64 k2) := by rw [cell_of_heap HV3.out]; rfl
  have b1 : w3.cell? ⟨w.heap.size + 1, 1, none⟩ = some (.int .i64 p2) := by rw [cell_of_heap HV3.out]; rfl
  have b2 : w3.cell? ⟨w.heap.size + 1, 2, none⟩ = some (.int .i64 q2) := by rw [cell_of_heap HV3.out]; rfl
  have b3 : w3.cell? ⟨w.heap.size + 1, 3, none⟩ = some (.string s2) := by rw [cell_of_heap HV3.out]; rfl
  have b4 : w3.cell? ⟨w.heap.size + 1, 4, none⟩ = some (.int .i64 r2) := by rw [cell_of_heap HV3.out]; rfl
  have m0 : w3.cell? ⟨m, 0, none⟩ = some (.slice so L.length cap) := by rw [cell_of_heap HM3.out]; rfl
  have m1 : w3.cell? ⟨m, 1, none⟩ = some (.map (some g)) := by rw [cell_of_heap HM3.out]; rfl
  have m2 : w3.cell? ⟨m, 2, none⟩ = some (.int .i64 (liveN L : Nat)) := by rw [cell_of_heap HM3.out]; rfl
  have fm0 : w3.frozen? ⟨m, 0, none⟩ = false := frozen_of_heap HM3.out _
  have fm1 : w3.frozen? ⟨m, 1, none⟩ = false := frozen_of_heap HM3.out _
  have fm2 : w3.frozen? ⟨m, 2, none⟩ = false := frozen_of_heap HM3.out _
  obtain ⟨i6, hi6, hi6a, hi6b, hi6c⟩ := info_parts info161p
  refine wp_region_lex mixed (by kernel_rfl) ?_
  go_wp2_with (at_builtin; refine wpList_append_own_at _ rfl (.tmp 79) (.tmp 83) 141 rfl 0 146 i6 _ 11 104 Tryz.underlying141 hi6 hi6a hi6b hi6c rfl (by decide) (.slice so L.length cap) L.length (rowSl L) rfl ?A _ 1 1 [.int .i64 k1, .int .i64 p1, .int .i64 q1, .string s1, .int .i64 r1, .int .i64 k2, .int .i64 p2, .int .i64 q2, .string s2, .int .i64 r2, .bool false] rfl rfl ?B ?C ?D ?E ?F ?G)
  case A => exact ownsRow_ext (below_ext ((Below.refl _ _).alloc (Nat.le_refl _) _).drew (Nat.le_refl _)) HR3.out
  case B => exact cells_eleven_d _ _ _ _ _ _ _ _ _ _ _ _ _ _ rfl
  case C =>
    intro u hu
    simp only [List.mem_cons, List.not_mem_nil, or_false] at hu
    rcases hu with rfl | rfl | rfl | rfl | rfl | rfl | rfl | rfl | rfl | rfl | rfl <;> simp [Value.oneCell']
  case D => unfold maxLen; omega
  case E => omega
  case F => exact Nat.zero_le _
  case G =>
    intro v' w4 hown hgrow _ hat
    obtain ⟨rb', cap', rfl⟩ := slice_shape hown (by omega)
    have hrm := row_ne_m HR3.out HM3.out
    have HM4 := Lib.hid (show w4.heap[m]? = _ from (hgrow.block m (by simp; omega) (fun e => hrm m e.symm rfl)).trans ((Below.heap_alloc w3 _ m (by omega)).trans HM3.out))
    have HG4 := Lib.hid (show w4.heap[g]? = w3.heap[g]? from (hgrow.block g (by simp; omega) (fun e => HRG.out g e.symm rfl)).trans (Below.heap_alloc w3 _ g (by omega)))
    have HOWN := Lib.hid hown
    have HAT := Lib.hid hat
    have HGR := Lib.hid hgrow
    clear hown hat hgrow hrm a0 a1 a2 a3 a4 b0 b1 b2 b3 b4 m0 m1 m2 fm0 fm1 fm2
    have m0 : w4.cell? ⟨m, 0, none⟩ = some (.slice so L.length cap) := by rw [cell_of_heap HM4.out]; rfl
    have m1 : w4.cell? ⟨m, 1, none⟩ = some (.map (some g)) := by rw [cell_of_heap HM4.out]; rfl
    have m2 : w4.cell? ⟨m, 2, none⟩ = some (.int .i64 (liveN L : Nat)) := by rw [cell_of_heap HM4.out]; rfl
    have fm0 : w4.frozen? ⟨m, 0, none⟩ = false := frozen_of_heap HM4.out _
    have fm1 : w4.frozen? ⟨m, 1, none⟩ = false := frozen_of_heap HM4.out _
    have fm2 : w4.frozen? ⟨m, 2, none⟩ = false := frozen_of_heap HM4.out _
    go_wp2
    refine ⟨by kernel_rfl, ?_⟩
    go_wp2
    go_ret
    refine ⟨rfl, .slice (some ⟨rb', 0, none⟩) (L.length + 1) cap', ?_, ?_, ?_⟩
    · exact push_omap HM4.out HOWN.out HPUT.out HG4.out hmg HII.out HNO.out HWF.out HKW.out HVW.out
    · exact push_mods (Mods.of_below HW2.out.drew.drew.drew) HMD.out ((Below.refl _ _).alloc (Nat.le_refl _) _).drew HGR.out (.inl rfl) (.inr (.inl rfl)) (fun b hb => .inl (.inr (.inr hb)))
    · intro b hb
      rcases HAT.out with h | h
      · exact .inl (h.symm.trans hb)
      · rw [h] at hb
        injection hb with hb
        subst hb
        exact .inr (by first | omega | (simp; omega))
set_option maxRecDepth 100000 in
set_option maxHeartbeats 2000000 in
theorem pomDrop_c (w : World) (m g rb cap : Nat) (L : List Sl) (E : List (Value × Value)) (f : V → Option Nat) (hm : w.heap[m]? = some (.cells #[.slice (some ⟨rb, 0, none⟩) L.length cap, .map (some g), .int .i64 (liveN L : Nat)] 144))
    (hrow : w.ownsRow 0 146 11 (.slice (some ⟨rb, 0, none⟩) L.length cap) L.length (rowSl L)) (hL : L.length ≤ 1000) (hE : MapAt Tryz.prog 30 w g E) (hG : Graph E f) (hI : Idx L f) (hwf : ∀ s ∈ L, WfV s.k ∧ WfV s.v) :
    Calls Tryz.prog 101 #[.pointer (some ⟨m, 0, none⟩)] w (DropPost w m g L f) := by
  have hml : m < w.heap.size := (Array.getElem?_eq_some_iff.1 hm).1
  have hg : g < w.heap.size := hE.lt
  have hmg : m ≠ g := fun e => by
    obtain ⟨es, c, he, _⟩ := id hE
    rw [← e, hm] at he
    cases he
  have hrg : rb ≠ g := by
    obtain ⟨es0, c0, hgm, _⟩ := id hE
    exact row_ne hrow hgm rb rfl
  have hrl : rb < w.heap.size := (ownBlock_lt hrow rfl).2
  have HM := Lib.hid hm
  have HROW := Lib.hid hrow
  have HI := Lib.hid hI
  have HWF := Lib.hid hwf
  have HS0 := Lib.hid (show DropRel w g L f L.length (.slice none 0 0) (.int .i64 0) w from ⟨0, 0, none, rfl, by rw [List.take_zero]; rfl, rfl, Nat.zero_le _, by rw [List.take_zero]; exact World.ownsRow_nil _ _ _ _, ⟨E, hE, by rw [mid_zero]; exact hG⟩, Mods.refl _ _⟩)
  have m0 : w.cell? ⟨m, 0, none⟩ = some (.slice (some ⟨rb, 0, none⟩) L.length cap) := by rw [cell_of_heap hm]; rfl
  have m1 : w.cell? ⟨m, 1, none⟩ = some (.map (some g)) := by rw [cell_of_heap hm]; rfl
  have m2 : w.cell? ⟨m, 2, none⟩ = some (.int .i64 (liveN L : Nat)) := by rw [cell_of_heap hm]; rfl
  clear hrow hI hwf hE hG hm
  go_enter Tryz.func101, Tryz.ntmps101
  go_wp2
  go_loopg [2, 10] L.length (fun gg vl vi wr => DropRel w g L f gg vl vi wr)
  case atStart => exact HS0.out
  case round =>
    clear HS0 m0 m1 m2
    obtain ⟨i, cap2, so2, rfl, rfl, rfl, hi, hown, ⟨E2, hE2, hG2⟩, hmods⟩ := hrel
    have HMr := Lib.hid (mods_keep hmods HM.out hmg)
    have hrowr := ownsRow_keep (w3 := wr) HROW.out (fun b hb => by injection hb with hb; subst hb; exact hmods.block _ hrl hrg)
    have hsz := hmods.size
    have hmr : m < wr.heap.size := Nat.lt_of_lt_of_le hml hsz
    have hrr : rb < wr.heap.size := Nat.lt_of_lt_of_le hrl hsz
    have HOWN := Lib.hid hown
    have HMD := Lib.hid hmods
    have hdl := drop_len (L.take i)
    rw [List.length_take] at hdl
    clear hown hmods
    have m0 : wr.cell? ⟨m, 0, none⟩ = some (.slice (some ⟨rb, 0, none⟩) L.length cap) := by rw [cell_of_heap HMr.out]; rfl
    have m1 : wr.cell? ⟨m, 1, none⟩ = some (.map (some g)) := by rw [cell_of_heap HMr.out]; rfl
    have m2 : wr.cell? ⟨m, 2, none⟩ = some (.int .i64 (liveN L : Nat)) := by rw [cell_of_heap HMr.out]; rfl
    have fm0 : wr.frozen? ⟨m, 0, none⟩ = false := frozen_of_heap HMr.out _
    have fm1 : wr.frozen? ⟨m, 1, none⟩ = false := frozen_of_heap HMr.out _
    have fm2 : wr.frozen? ⟨m, 2, none⟩ = false := frozen_of_heap HMr.out _
    by_cases hlt : i < L.length
    · obtain ⟨sl, hsl⟩ : ∃ sl, L[i]? = some sl := ⟨_, List.getElem?_eq_getElem hlt⟩
      have rc0 : wr.cell? ⟨rb, i * 11, none⟩ = some (.int .i64 sl.k.k) := (hrowr.cellAt (i * 11 + 0) (by omega)).trans (rowSl_at L i 0 sl hsl (by decide))
      have rc1 : wr.cell? ⟨rb, i * 11 + 1, none⟩ = some (.int .i64 sl.k.p) := (hrowr.cellAt (i * 11 + 1) (by omega)).trans (rowSl_at L i 1 sl hsl (by decide))
      have rc2 : wr.cell? ⟨rb, i * 11 + 2, none⟩ = some (.int .i64 sl.k.q) := (hrowr.cellAt (i * 11 + 2) (by omega)).trans (rowSl_at L i 2 sl hsl (by decide))
      have rc3 : wr.cell? ⟨rb, i * 11 + 3, none⟩ = some (.string sl.k.s) := (hrowr.cellAt (i * 11 + 3) (by omega)).trans (rowSl_at L i 3 sl hsl (by decide))
      have rc4 : wr.cell? ⟨rb, i * 11 + 4, none⟩ = some (.int .i64 sl.k.r) := (hrowr.cellAt (i * 11 + 4) (by omega)).trans (rowSl_at L i 4 sl hsl (by decide))
      have rc5 : wr.cell? ⟨rb, i * 11 + 5, none⟩ = some (.int .i64 sl.v.k) := (hrowr.cellAt (i * 11 + 5) (by omega)).trans (rowSl_at L i 5 sl hsl (by decide))
      have rc6 : wr.cell? ⟨rb, i * 11 + 6, none⟩ = some (.int .i64 sl.v.p) := (hrowr.cellAt (i * 11 + 6) (by omega)).trans (rowSl_at L i 6 sl hsl (by decide))
      have rc7 : wr.cell? ⟨rb, i * 11 + 7, none⟩ = some (.int .i64 sl.v.q) := (hrowr.cellAt (i * 11 + 7) (by omega)).trans (rowSl_at L i 7 sl hsl (by decide))
      have rc8 : wr.cell? ⟨rb, i * 11 + 8, none⟩ = some (.string sl.v.s) := (hrowr.cellAt (i * 11 + 8) (by omega)).trans (rowSl_at L i 8 sl hsl (by decide))
      have rc9 : wr.cell? ⟨rb, i * 11 + 9, none⟩ = some (.int .i64 sl.v.r) := (hrowr.cellAt (i * 11 + 9) (by omega)).trans (rowSl_at L i 9 sl hsl (by decide))
      have rc10 : wr.cell? ⟨rb, i * 11 + 10, none⟩ = some (.bool sl.g) := (hrowr.cellAt (i * 11 + 10) (by omega)).trans (rowSl_at L i 10 sl hsl (by decide))
      have hkw := (HWF.out sl (List.mem_of_getElem? hsl)).1
      cases hgf : sl.g with
      | true =>
        rw [hgf] at rc10
        obtain ⟨x, hx⟩ : ∃ x : Nat, x = (midF L f i sl.k).getD 0 := ⟨_, rfl⟩
        have hlk := look_plain hE2 hG2 hkw
        rw [← hx] at hlk
        have HLK := Lib.hid hlk
        have HDL := Lib.hid (del_at hE2 hG2 hkw)
        have HEG := Lib.hid (show ∃ E, MapAt Tryz.prog 30 wr g E ∧ Graph E (midF L f i) from ⟨E2, hE2, hG2⟩)
        have HSL := Lib.hid hsl
        have HX := Lib.hid hx
        clear hlk hE2 hG2 hx hrowr hkw hsl
        by_cases hxi : x = i
        · have tx : (((x : Nat) : Int) == (i : Nat)) = true := by rw [hxi]; simp
          have HN := Lib.hid (gone_yes HI.out HSL.out hgf (by rw [← HX.out]; exact hxi))
          have HDR := Lib.hid (drop_gone HSL.out hgf)
          clear hgf hxi
          go_wp2
          refine wp_region_lex mixed (by kernel_rfl) ?_
          go_wp2_with (at_lookup; refine wpList_look_map _ rfl _ _ _ _ rfl _ _ _ rfl rfl (HLK.out _ (Below.heap_alloc wr _ g (by omega))) ?_)
          refine ⟨by kernel_rfl, ?_⟩
          go_wp2
          refine wp_region_lex mixed (by kernel_rfl) ?_
          go_wp2_with (at_delete; refine wpList_drop_map _ rfl _ _ _ _ rfl _ _ rfl rfl _ (HDL.out _ _ (Below.heap_alloc wr _ g (by omega))) ?_; intro w3 hw3)
          refine ⟨by kernel_rfl, ?_⟩
          go_wp2
          obtain ⟨hput, hmods, hsz3⟩ := hw3
          simp at hsz3
          go_roundg (L.length - (i + 1))
          case measure => omega
          case rel =>
            have hb : Below wr.heap.size wr (wr.alloc (.cells #[.int .i64 sl.k.k, .int .i64 sl.k.p, .int .i64 sl.k.q, .string sl.k.s, .int .i64 sl.k.r, .int .i64 sl.v.k, .int .i64 sl.v.p, .int .i64 sl.v.q, .string sl.v.s, .int .i64 sl.v.r, .bool true] 146)).drew.drew := ((Below.refl _ _).alloc (Nat.le_refl _) _).drew.drew
            refine ⟨i + 1, cap2, so2, rfl, by rw [HDR.out], rfl, by omega, row_drop (ownsRow_keep (w3 := w3) HOWN.out (fun b hb2 => ?_)) HDR.out, by rw [HN.out]; exact hput, ?_⟩
            · have h1 := ownBlock_lt HOWN.out hb2
              exact (hmods.block b (by simp; omega) (by omega)).trans (hb.block b h1.2)
            · exact (HMD.out.trans (Mods.of_below hb)).trans hmods
        · have tx : (((x : Nat) : Int) == (i : Nat)) = false := by rw [beq_eq_false_iff_ne]; omega
          have HN := Lib.hid (gone_no HI.out HSL.out hgf (by rw [← HX.out]; exact hxi))
          have HDR := Lib.hid (drop_gone HSL.out hgf)
          clear hgf hxi
          go_wp2
          refine wp_region_lex mixed (by kernel_rfl) ?_
          go_wp2_with (at_lookup; refine wpList_look_map _ rfl _ _ _ _ rfl _ _ _ rfl rfl (HLK.out _ (Below.heap_alloc wr _ g (by omega))) ?_)
          refine ⟨by kernel_rfl, ?_⟩
          go_wp2
          go_roundg (L.length - (i + 1))
          case measure => omega
          case rel =>
            have hb : Below wr.heap.size wr (wr.alloc (.cells #[.int .i64 sl.k.k, .int .i64 sl.k.p, .int .i64 sl.k.q, .string sl.k.s, .int .i64 sl.k.r, .int .i64 sl.v.k, .int .i64 sl.v.p, .int .i64 sl.v.q, .string sl.v.s, .int .i64 sl.v.r, .bool true] 146)).drew := ((Below.refl _ _).alloc (Nat.le_refl _) _).drew
            obtain ⟨E3, h3, h4⟩ := HEG.out
            refine ⟨i + 1, cap2, so2, rfl, by rw [HDR.out], rfl, by omega, row_drop (ownsRow_ext (below_ext hb (Nat.le_refl _)) HOWN.out) HDR.out, ⟨E3, h3.keep (hb.block g (by omega)), by rw [HN.out]; exact h4⟩, HMD.out.trans (Mods.of_below hb)⟩
      | false =>
        rw [hgf] at rc10
        have HN := Lib.hid (mid_live HI.out hsl hgf)
        have HST := Lib.hid (put_at hE2 hG2 hkw)
        have HDR := Lib.hid (drop_live hsl hgf)
        clear hE2 hG2 hrowr hkw
        go_wp2
        refine wp_region_lex mixed (by kernel_rfl) ?_
        go_wp2_with (at_mapUpdate; refine wpList_store_map _ rfl _ _ _ _ rfl _ _ _ rfl rfl rfl _ (HST.out (dropM (L.take i)).length _ (Below.heap_alloc wr _ g (by omega))) ?_; intro w3 hw3)
        refine ⟨by kernel_rfl, ?_⟩
        obtain ⟨hput, hmods, hsz3⟩ := hw3
        have hsz3' : wr.heap.size + 1 ≤ w3.heap.size := by
          rw [hsz3]
          simp
        have HBX := Lib.hid (mods_keep hmods (show (wr.alloc (.cells #[.int .i64 sl.k.k, .int .i64 sl.k.p, .int .i64 sl.k.q, .string sl.k.s, .int .i64 sl.k.r, .int .i64 sl.v.k, .int .i64 sl.v.p, .int .i64 sl.v.q, .string sl.v.s, .int .i64 sl.v.r, .bool false] 146)).drew.heap[wr.heap.size]? = _ from heap_new wr (.cells #[.int .i64 sl.k.k, .int .i64 sl.k.p, .int .i64 sl.k.q, .string sl.k.s, .int .i64 sl.k.r, .int .i64 sl.v.k, .int .i64 sl.v.p, .int .i64 sl.v.q, .string sl.v.s, .int .i64 sl.v.r, .bool false] 146)) (by omega))
        have HM3 := Lib.hid (mods_keep hmods (show (wr.alloc (.cells #[.int .i64 sl.k.k, .int .i64 sl.k.p, .int .i64 sl.k.q, .string sl.k.s, .int .i64 sl.k.r, .int .i64 sl.v.k, .int .i64 sl.v.p, .int .i64 sl.v.q, .string sl.v.s, .int .i64 sl.v.r, .bool false] 146)).drew.heap[m]? = _ from (Below.heap_alloc wr _ m hmr).trans HMr.out) hmg)
        have hb : Below wr.heap.size wr (wr.alloc (.cells #[.int .i64 sl.k.k, .int .i64 sl.k.p, .int .i64 sl.k.q, .string sl.k.s, .int .i64 sl.k.r, .int .i64 sl.v.k, .int .i64 sl.v.p, .int .i64 sl.v.q, .string sl.v.s, .int .i64 sl.v.r, .bool false] 146)).drew := ((Below.refl _ _).alloc (Nat.le_refl _) _).drew
        have HO3 := Lib.hid (ownsRow_keep (w3 := w3) HOWN.out (fun b hb2 => (hmods.block b (by have := (ownBlock_lt HOWN.out hb2).2; simp; omega) (by have := (ownBlock_lt HOWN.out hb2).1; omega)).trans (hb.block b (ownBlock_lt HOWN.out hb2).2)))
        have HMD3 := Lib.hid ((HMD.out.trans (Mods.of_below hb)).trans hmods)
        have HPUT := Lib.hid hput
        have hmr3 : m < w3.heap.size := by omega
        clear hput hmods hsz3 hb m0 m1 m2 fm0 fm1 fm2 rc0 rc1 rc2 rc3 rc4 rc5 rc6 rc7 rc8 rc9 rc10
        have b0 : w3.cell? ⟨wr.heap.size, 0, none⟩ = some (.int .i64 sl.k.k) := by rw [cell_of_heap HBX.out]; rfl
        have b1 : w3.cell? ⟨wr.heap.size, 1, none⟩ = some (.int .i64 sl.k.p) := by rw [cell_of_heap HBX.out]; rfl
        have b2 : w3.cell? ⟨wr.heap.size, 2, none⟩ = some (.int .i64 sl.k.q) := by rw [cell_of_heap HBX.out]; rfl
        have b3 : w3.cell? ⟨wr.heap.size, 3, none⟩ = some (.string sl.k.s) := by rw [cell_of_heap HBX.out]; rfl
        have b4 : w3.cell? ⟨wr.heap.size, 4, none⟩ = some (.int .i64 sl.k.r) := by rw [cell_of_heap HBX.out]; rfl
        have b5 : w3.cell? ⟨wr.heap.size, 5, none⟩ = some (.int .i64 sl.v.k) := by rw [cell_of_heap HBX.out]; rfl
        have b6 : w3.cell? ⟨wr.heap.size, 6, none⟩ = some (.int .i64 sl.v.p) := by rw [cell_of_heap HBX.out]; rfl
        have b7 : w3.cell? ⟨wr.heap.size, 7, none⟩ = some (.int .i64 sl.v.q) := by rw [cell_of_heap HBX.out]; rfl
        have b8 : w3.cell? ⟨wr.heap.size, 8, none⟩ = some (.string sl.v.s) := by rw [cell_of_heap HBX.out]; rfl
        have b9 : w3.cell? ⟨wr.heap.size, 9, none⟩ = some (.int .i64 sl.v.r) := by rw [cell_of_heap HBX.out]; rfl
        have b10 : w3.cell? ⟨wr.heap.size, 10, none⟩ = some (.bool false) := by rw [cell_of_heap HBX.out]; rfl
        have m0 : w3.cell? ⟨m, 0, none⟩ = some (.slice (some ⟨rb, 0, none⟩) L.length cap) := by rw [cell_of_heap HM3.out]; rfl
        have m1 : w3.cell? ⟨m, 1, none⟩ = some (.map (some g)) := by rw [cell_of_heap HM3.out]; rfl
        have m2 : w3.cell? ⟨m, 2, none⟩ = some (.int .i64 (liveN L : Nat)) := by rw [cell_of_heap HM3.out]; rfl
        have fm0 : w3.frozen? ⟨m, 0, none⟩ = false := frozen_of_heap HM3.out _
        have fm1 : w3.frozen? ⟨m, 1, none⟩ = false := frozen_of_heap HM3.out _
        have fm2 : w3.frozen? ⟨m, 2, none⟩ = false := frozen_of_heap HM3.out _
        obtain ⟨i6, hi6, hi6a, hi6b, hi6c⟩ := info_parts info161p
        go_wp2_with (at_builtin; refine wpList_append_own_at _ rfl (.tmp 40) (.tmp 42) 141 rfl w.heap.size 146 i6 _ 11 104 Tryz.underlying141 hi6 hi6a hi6b hi6c rfl (by decide) (.slice so2 (dropM (L.take i)).length cap2) (dropM (L.take i)).length (rowSl (dropM (L.take i))) rfl ?A _ 1 1 [.int .i64 sl.k.k, .int .i64 sl.k.p, .int .i64 sl.k.q, .string sl.k.s, .int .i64 sl.k.r, .int .i64 sl.v.k, .int .i64 sl.v.p, .int .i64 sl.v.q, .string sl.v.s, .int .i64 sl.v.r, .bool false] rfl rfl ?B ?C ?D ?E ?F ?G)
        case A => exact ownsRow_ext (below_ext ((Below.refl _ _).alloc (Nat.le_refl _) _) (Nat.le_refl _)) HO3.out
        case B => exact cells_eleven _ _ _ _ _ _ _ _ _ _ _ _ _ _ rfl
        case C =>
          intro u hu
          simp only [List.mem_cons, List.not_mem_nil, or_false] at hu
          rcases hu with rfl | rfl | rfl | rfl | rfl | rfl | rfl | rfl | rfl | rfl | rfl <;> simp [Value.oneCell']
        case D => unfold maxLen; omega
        case E => omega
        case F => first | omega | (simp; omega)
        case G =>
          intro v' w4 hown hgrow _ hat
          obtain ⟨rb', cap', rfl⟩ := slice_shape hown (by omega)
          have hsz4 := hgrow.size
          simp at hsz4
          have HOWN4 := Lib.hid hown
          have HGR := Lib.hid hgrow
          clear hown hgrow hat b0 b1 b2 b3 b4 b5 b6 b7 b8 b9 b10
          go_wp2
          go_roundg (L.length - (i + 1))
          case measure => omega
          case rel =>
            have hlen : (dropM (L.take (i + 1))).length = (dropM (L.take i)).length + 1 := by rw [HDR.out, List.length_append]; rfl
            have hrow4 : rowSl (dropM (L.take (i + 1))) = rowSl (dropM (L.take i)) ++ [.int .i64 sl.k.k, .int .i64 sl.k.p, .int .i64 sl.k.q, .string sl.k.s, .int .i64 sl.k.r, .int .i64 sl.v.k, .int .i64 sl.v.p, .int .i64 sl.v.q, .string sl.v.s, .int .i64 sl.v.r, .bool false] := by
              rw [HDR.out, rowSl_push]
              unfold slCells
              rw [hgf]
            have hne : ∀ b, b < w.heap.size → some b ≠ (Value.slice so2 (dropM (L.take i)).length cap2).ownBlock := fun b hb e => by
              have := (ownBlock_lt HO3.out e.symm).1
              omega
            have h4 : ∀ b, b < w.heap.size → w4.heap[b]? = w3.heap[b]? := fun b hb => (HGR.out.block b (by simp; omega) (hne b hb)).trans (Below.heap_alloc w3 _ b (by omega))
            obtain ⟨E3, h5, h6⟩ := HPUT.out
            refine ⟨i + 1, cap', some ⟨rb', 0, none⟩, rfl, by rw [hlen], rfl, by omega, by rw [hlen, hrow4]; exact HOWN4.out, ⟨E3, h5.keep (h4 g hg), by rw [HN.out]; exact h6⟩, ?_⟩
            exact ⟨HGR.out.os.trans HMD3.out.os, HGR.out.tape.trans HMD3.out.tape, HGR.out.output.trans HMD3.out.output, by omega, fun b hb hF => (h4 b hb).trans (HMD3.out.block b hb hF)⟩
    · obtain rfl : i = L.length := by omega
      have HEG := Lib.hid (show ∃ E, MapAt Tryz.prog 30 wr g E ∧ Graph E (midF L f L.length) from ⟨E2, hE2, hG2⟩)
      clear hE2 hG2 hrowr
      go_wp2
      refine bodyPost_ret (by simp [results, Tryz.results101, go_sem]; first | done | rfl) rfl ?_
      have hown := HOWN.out
      rw [List.take_length] at hown
      obtain ⟨E3, h3, h4⟩ := HEG.out
      refine ⟨rfl, so2, cap2, heap_setCell_same HMr.out 0 _, ownsRow_keep hown (fun b hb => Below.heap_setCell _ _ _ _ (show b ≠ m by have := (ownBlock_lt hown hb).1; omega)), ⟨E3, h3.keep (Below.heap_setCell _ _ _ _ (show g ≠ m by omega)), h4⟩, mods_setCell (HMD.out.mono (fun k _ e => .inr e)) (.inl (.inl rfl)) _⟩
set_option maxRecDepth 100000 in
theorem neq_run (W : World) (k p q : Int) (s : ByteArray) (r : Int) (k2 p2 q2 : Int) (s2 : ByteArray) (r2 : Int) :
    (binOp .neq 30 (.agg #[.int .i64 k, .int .i64 p, .int .i64 q, .string s, .int .i64 r]) (.agg #[.int .i64 k2, .int .i64 p2, .int .i64 q2, .string s2, .int .i64 r2])).run Tryz.prog W = .ok (.bool (!eqV ⟨k, p, q, s, r⟩ ⟨k2, p2, q2, s2, r2⟩)) W := by
  by_cases h1 : k = k2 <;> by_cases h2 : p = p2 <;> by_cases h3 : q = q2 <;> by_cases h4 : s = s2 <;> by_cases h5 : r = r2 <;> simp [go_sem, eqV, h1, h2, h3, h4, h5]
  have h6 : ¬ s.toList = s2.toList := fun e => h4 (ByteArray.ext (Array.toList_inj.1 (by rw [← ByteArray.toList_eq, ← ByteArray.toList_eq]; exact e)))
  have h7 : (bytesOf s == bytesOf s2) = false := beq_eq_false_iff_ne.2 (fun e => h4 (bytesOf_inj e))
  first
  | (rw [if_neg h6]; simp [h7]; done)
  | (simp [h6, h7]; done)
  | (have h8 : ¬ bytesOf s = bytesOf s2 := fun e => h4 (bytesOf_inj e); simp [h6, h8])
theorem pOfInt_top (w : World) (n : Int) (h1 : -2147483647 ≤ n) (h2 : n ≤ 2147483647) : Calls Tryz.prog 54 #[.int .i64 n] w (fun e w' => e = .returned (.agg #[.int .i64 2, .int .i64 n, .int .i64 1, .string ⟨#[]⟩, .int .i64 0]) ∧ Below w.heap.size w w') := by
  have := pOfInt_c w n
  unfold intV at this
  rw [if_pos (inTop_iff.2 ⟨h1, h2⟩)] at this
  exact this
theorem neqs_run (W : World) (v : V) : (binOp .neq 30 (.agg #[.int .i64 v.k, .int .i64 v.p, .int .i64 v.q, .string v.s, .int .i64 v.r]) (.agg #[.int .i64 v.k, .int .i64 v.p, .int .i64 v.q, .string v.s, .int .i64 v.r])).run Tryz.prog W = .ok (.bool false) W := by
  have := neq_run W v.k v.p v.q v.s v.r v.k v.p v.q v.s v.r
  rw [this]
  simp [eqV]
end Go.Proofs.YtpbcmlnjiocmoaaGreatDoorR
