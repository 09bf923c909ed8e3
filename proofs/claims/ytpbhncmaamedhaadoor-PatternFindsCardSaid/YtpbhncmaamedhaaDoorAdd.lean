import Derived.Test.YtpbhncmaamedhaaDoorRd
namespace Go.Proofs.YtpbhncmaamedhaaDoor
open Go.RowKit Go.Proofs.Lexi
theorem Tryd.info106 : (Tryd.prog.info? 106).map (fun i => (i.zero, i.size, i.bytes)) = some (some (.agg #[.int .i64 0, .int .i64 0, .int .u8 0, .int .u8 0, .nilFunc, .int .u8 0]), 6, 40) := by kernel_rfl

def RPost (w0 : World) (rb : Nat) (p : ByteArray) (at_ : Nat) (anc fin : Bool) (s : St) (w' : World) : Prop := ∃ vo ve vi vs, RSt w0 rb w' p at_ anc fin s vo ve vi vs
def AddPost (w0 : World) (rb : Nat) (p : ByteArray) (at_ : Nat) (anc fin : Bool) (s : St) (e : Ending) (w' : World) : Prop := e = .returned (.tuple #[]) ∧ RPost w0 rb p at_ anc fin s w'
theorem cells_six (w : World) (x0 x1 x2 x3 x4 x5 : Value) (t : TypeId) (B : Nat) (hB : B = w.heap.size) : ∀ j u, [x0, x1, x2, x3, x4, x5][j]? = some u → (w.alloc (.cells #[x0, x1, x2, x3, x4, x5] t)).cell? ((⟨B, 0, none⟩ : Addr).add j) = some u := by
  intro j u hj
  subst hB
  have e : (⟨w.heap.size, 0, none⟩ : Addr).add j = ⟨w.heap.size, j, none⟩ := by unfold Addr.add; split <;> simp_all
  rw [e, cell_of_heap (heap_new _ _)]
  simpa using hj

set_option maxRecDepth 100000 in
set_option maxHeartbeats 1000000 in
theorem add_c {w0 w : World} {rb : Nat} {p : ByteArray} {at_ : Nat} {anc fin : Bool} {s : St} {vo ve vi : Value} {vs : List Value} (h : RSt w0 rb w p at_ anc fin s vo ve vi vs) (it : Item) (v : Value)
    (hit : ItemOK w w0.heap.size (Mut rb vo ve vi) it v) (hv : v = .nilFunc ∨ ∃ f caps, v = .func (.func f) #[] caps) (n : Int) (m : Nat) (hn : n = m) (ha : at_ + m ≤ 20000) (hl : s.items.length ≤ 20000) :
    Calls Tryd.prog 60 #[.pointer (some ⟨rb, 0, none⟩), .agg #[.int .i64 it.kind, .int .i64 it.n, .int .u8 it.x, .int .u8 it.y, v, .int .u8 it.how], .int .i64 n] w (AddPost w0 rb p (at_ + m) anc fin { s with items := s.items ++ [it] }) := by
  subst hn
  obtain ⟨i0, hi, hz0, hz1, hz2⟩ := info_parts Tryd.info106
  have H := Lib.hid h
  have HIT := Lib.hid hit
  have h1 : w.cell? ⟨rb, 1, none⟩ = some (.int .i64 at_) := by rw [cell_of_heap h.hr]; rfl
  have h4 : w.cell? ⟨rb, 4, none⟩ = some vi := by rw [cell_of_heap h.hr]; rfl
  have hrb := h.rb1
  have hsz := h.below.size
  clear h hit
  rcases hv with rfl | ⟨f, caps, rfl⟩
  all_goals
    go_enter Tryd.func60, Tryd.ntmps60
    go_wp2
    refine wp_region_lex mixed (by kernel_rfl) ?_
    go_wp2_with (at_builtin; refine wpList_append_own_at _ rfl (.tmp 11) (.tmp 13) 47 rfl w0.heap.size 106 i0 _ 6 40 Tryd.underlying47 hi hz0 hz1 hz2 rfl (by decide) vi s.items.length (rowOf s.items vs) rfl ?_ ⟨_, 0, none⟩ 1 1 [_, _, _, _, _, _] rfl rfl (cells_six _ _ _ _ _ _ _ _ _ (by simp)) ?_ ?_ ?_ ?_ ?_)
    · exact ownsRow_ext (below_ext (below2 _ _ _) (Nat.le_refl _)) H.out.oi
    · intro u hu
      simp only [List.mem_cons, List.not_mem_nil, or_false] at hu
      rcases hu with rfl | rfl | rfl | rfl | rfl | rfl <;> rfl
    · unfold maxLen; omega
    · omega
    · simp; omega
    · intro v' w2 hown hgrow _ hat
      obtain ⟨g', cap', rfl⟩ := slice_shape hown (by omega)
      have hr2 := Pushed.rbk (below2 _ _ _) hgrow H.out.hr H.out.d3
      have c1 : w2.cell? ⟨rb, 1, none⟩ = some (.int .i64 at_) := by rw [cell_of_heap hr2]; rfl
      have c4 : w2.cell? ⟨rb, 4, none⟩ = some vi := by rw [cell_of_heap hr2]; rfl
      have f1 : w2.frozen? ⟨rb, 1, none⟩ = false := by simp [World.frozen?, hr2]
      have f4 : w2.frozen? ⟨rb, 4, none⟩ = false := by simp [World.frozen?, hr2]
      have HP := Lib.hid (H.out.pushItem (below2 _ _ _) HIT.out hown hgrow (by simpa using hat))
      clear hown hgrow hat hr2
      go_wp2
      refine ⟨by kernel_rfl, ?_⟩
      go_wp2
      go_end0
      exact ⟨rfl, _, _, _, _, HP.out.setr (k := 1) (at' := at_ + m) (by rfl)⟩
end Go.Proofs.YtpbhncmaamedhaaDoor
