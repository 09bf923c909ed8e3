import Derived.Test.YtpbcmlnjiocmoaaGreatDoorRTa
import Derived.Test.YtpbcmlnjiocmoaaGreatDoorRLexBv2
import Derived.Maps.RangeWalk
import Derived.Shelf.Strings.BuilderK
set_option linter.unusedVariables false
set_option linter.unusedSimpArgs false
set_option maxRecDepth 100000
set_option maxHeartbeats 2000000
namespace Go.Proofs.YtpbcmlnjiocmoaaGreatDoorR
open Go.RowKit Go.Proofs.Lexi Go.ChangeMaps Go.MapKept
open Go.Maps (Keyed)
variable {P : Program}
/-- Block r is an iterator over the map in block b; D: the entries that it has not handed out. -/
def RangeAt (w : World) (b r : Nat) (E D : List (Value × Value)) : Prop :=
  ∃ es clock seen, w.heap[b]? = some (.map es clock) ∧ w.heap[r]? = some (.mapIter (some b) clock seen clock) ∧ es.toList.map (fun e => (e.key, e.val)) = E ∧ Born es clock ∧ (leftOf es seen).toList.map (fun e => (e.key, e.val)) = D
theorem RangeAt.keep {w w' : World} {b r : Nat} {E D : List (Value × Value)} (h : RangeAt w b r E D) (hb : w'.heap[b]? = w.heap[b]?) (hr : w'.heap[r]? = w.heap[r]?) : RangeAt w' b r E D := by
  obtain ⟨es, c, seen, h1, h2, h3⟩ := h
  exact ⟨es, c, seen, hb.trans h1, hr.trans h2, h3⟩
theorem RangeAt.lt {w : World} {b r : Nat} {E D : List (Value × Value)} (h : RangeAt w b r E D) : b < w.heap.size ∧ r < w.heap.size := by
  obtain ⟨es, c, seen, h1, h2, h3⟩ := h
  exact ⟨(Array.getElem?_eq_some_iff.1 h1).1, (Array.getElem?_eq_some_iff.1 h2).1⟩
theorem filter_one {e : MapEntry} : ∀ {l : List MapEntry}, (l.map (·.born)).Nodup → e ∈ l → ∃ A B, l = A ++ e :: B ∧ l.filter (fun x => !(x.born == e.born)) = A ++ B := by
  intro l hn he
  obtain ⟨A, B, rfl⟩ := List.append_of_mem he
  refine ⟨A, B, rfl, ?_⟩
  rw [List.map_append, List.map_cons, List.nodup_append] at hn
  obtain ⟨h1, h2, h3⟩ := hn
  rw [List.nodup_cons] at h2
  rw [List.filter_append, List.filter_cons, beq_self_eq_true]
  have ha : A.filter (fun x => !(x.born == e.born)) = A := List.filter_eq_self.2 fun x hx => by
    have := h3 x.born (List.mem_map.2 ⟨x, hx, rfl⟩) e.born (by simp)
    simpa using this
  have hb : B.filter (fun x => !(x.born == e.born)) = B := List.filter_eq_self.2 fun x hx => by
    have : x.born ≠ e.born := fun hc => h2.1 (hc ▸ List.mem_map.2 ⟨x, hx, rfl⟩)
    simpa using this
  rw [ha, hb]
  rfl
section
variable {k e t : TypeId} {w : World} {b r : Nat} {E D : List (Value × Value)}
theorem RangeAt.next (h : RangeAt w b r E D) (hne : b ≠ r) (ty : TypeId) :
    (D = [] ∧ (Instr.next (.pointer (some ⟨r, 0, none⟩)) false ty).run P w = .ok (.tuple #[.bool false]) w) ∨
    ∃ key v w' A B, (key, v) ∈ E ∧ D = A ++ (key, v) :: B ∧ (Instr.next (.pointer (some ⟨r, 0, none⟩)) false ty).run P w = .ok (.tuple #[.bool true, key, v]) w' ∧ RangeAt w' b r E (A ++ B) ∧ Mods (· = r) w w' ∧ w'.heap.size = w.heap.size ∧
      (Instr.entry (.pointer (some ⟨r, 0, none⟩))).run P w' = .ok (.tuple #[key, v]) w' := by
  obtain ⟨es, c, seen, hb, hr, hE, hn, hD⟩ := h
  have hold : ∀ x ∈ es.toList, x.born < c := fun x hx => hn.2 _ (List.mem_map.2 ⟨x, hx, rfl⟩)
  rcases run_next_at (P := P) w ty r b c c seen es c hr hb hold (Nat.le_refl _) with ⟨h0, hrun⟩ | ⟨x, hx, w1, hal, hrun⟩
  · refine .inl ⟨?_, hrun⟩
    rw [← hD, Array.eq_empty_of_size_eq_zero h0]
    rfl
  · have hxe : x ∈ es.toList := by
      unfold leftOf at hx
      simp at hx ⊢
      exact hx.1
    have hl : (leftOf es seen).toList = es.toList.filter (fun y => !seen.contains y.born) := by
      unfold leftOf
      exact Array.toList_filter
    have hnl : ((leftOf es seen).toList.map (·.born)).Nodup := by
      rw [hl]
      exact hn.1.sublist (List.filter_sublist.map _)
    obtain ⟨A, B, h1, h2⟩ := filter_one hnl hx
    have hl2 : (leftOf es (seen.push x.born)).toList = A ++ B := by
      rw [← h2, hl, List.filter_filter]
      have : (leftOf es (seen.push x.born)).toList = es.toList.filter (fun y => !(seen.push x.born).contains y.born) := by
        unfold leftOf
        exact Array.toList_filter
      rw [this]
      apply List.filter_congr
      intro y _
      rw [Array.contains_push]
      cases (y.born == x.born) <;> cases seen.contains y.born <;> rfl
    have hr1 : w1.heap[r]? = some (.mapIter (some b) c seen c) := by rcases hal with rfl | rfl <;> exact hr
    have hb1 : w1.heap[b]? = some (.map es c) := by rcases hal with rfl | rfl <;> exact hb
    have hset := heap_set (o' := .mapIter (some b) c (seen.push x.born) c) hr1
    have hb' : (setBlock w1 r (.mapIter (some b) c (seen.push x.born) c)).heap[b]? = some (.map es c) := (hset.2 b hne).trans hb1
    refine .inr ⟨x.key, x.val, _, A.map (fun e => (e.key, e.val)), B.map (fun e => (e.key, e.val)), ?_, ?_, hrun, ⟨es, c, seen.push x.born, hb', hset.1, hE, hn, ?_⟩, ?_, ?_, run_entry_at _ r b c seen es c x hset.1 hb' hxe hn.1⟩
    · rw [← hE]; exact List.mem_map.2 ⟨x, hxe, rfl⟩
    · rw [← hD, h1, List.map_append, List.map_cons]
    · rw [hl2, List.map_append]
    · rcases hal with rfl | rfl <;> exact ⟨rfl, rfl, rfl, by simp [setBlock], fun i _ hi => hset.2 i hi⟩
    · rcases hal with rfl | rfl <;> simp [setBlock]
end
end Go.Proofs.YtpbcmlnjiocmoaaGreatDoorR
namespace Go.Proofs.YtpbcmlnjiocmoaaGreatDoorR
open Go.RowKit Go.Proofs.Lexi
theorem prjK6 {c0 c1 c2 c3 c4 c5 p : Prop} (h : c0 ∧ c1 ∧ c2 ∧ c3 ∧ c4 ∧ c5 ∧ Hid p) : p := (h.2.2.2.2.2.2).out
/-- Where the law's fields are gathered. -/
def FldR (w : World) (ti : Nat) (b1 : Nat) (A : List V) (i : Nat) (sv : Value) (wr : World) : Prop :=
  wr.ownsRow (w.heap.size + 1) 30 5 sv i (rowV (A.take i)) ∧ Below w.heap.size w wr ∧ wr.heap[b1]? = some (oV 4 0 0 ⟨#[]⟩ ((ti : Int) + 1))
theorem prjF5 {c0 c1 c2 c3 c4 p : Prop} (h : c0 ∧ c1 ∧ c2 ∧ c3 ∧ c4 ∧ Hid p) : p := (h.2.2.2.2.2).out
theorem ins_len (A : List V) (x : Nat) (v : V) (hx : x ≤ A.length) : (insM A x v).length = A.length + 1 := by
  unfold insM
  simp only [List.length_append, List.length_cons, List.length_take, List.length_drop]
  omega
theorem ins_end (A : List V) (v : V) : insM A A.length v = A ++ [v] := by
  unfold insM
  rw [List.take_length, List.drop_length]
end Go.Proofs.YtpbcmlnjiocmoaaGreatDoorR
namespace Go.Proofs.YtpbcmlnjiocmoaaGreatDoorR
open Go.ChangeShapes Go.WideShapes Go.ChangeAt Go.WideMaps Go.WideElems Go.RowKit
set_option maxRecDepth 100000 in
theorem open_ones {α : Type} {H : Type} {enc : TypeId × Value → H} {w : World} {b0 : Nat} {sp : Nat → Bool} {v : Value} {d : DataW H} {ps : List MemPlace} (tl e : TypeId) (mk : α → Value) (under : Tryz.prog.underlying tl = some (.slice e)) (hc1 : Tryz.prog.cellsOf e = 1)
    (hone : ∀ {base : Nat} {sp : Nat → Bool} {held : Bool} {fuel : Nat} {cs : List Value} {x : DataW H × List MemPlace}, DataW.trod enc Tryz.prog w base sp held fuel e cs = some x → ∃ a, cs = [mk a]) (hval : Value.okWide Tryz.prog w .any b0 tl v) (h : DataW.Trod enc Tryz.prog w 0 sp true tl v d ps) :
    ∃ (l : List α) (so : Option Addr) (cap : Nat), v = .slice so l.length cap ∧ l.length ≤ cap ∧ (l = [] ∨ ∃ g o, so = some ⟨g, o, none⟩ ∧ ∀ (i : Nat) a, l[i]? = some a → w.cell? ⟨g, o + i, none⟩ = some (mk a)) := by
  obtain ⟨a0, l0, c0, rfl⟩ := okWide_slice under hval
  obtain ⟨fuel, h⟩ := h
  rcases DataW.trod_slice under h with ⟨e1, _⟩ | ⟨ad, len, cap, elems, rest, m, _, e1, _, _, hlc, _, hel, hin, _⟩
  · simp [Value.cells] at e1
    obtain ⟨rfl, rfl, rfl⟩ := e1
    exact ⟨[], none, 0, rfl, Nat.le_refl _, .inl rfl⟩
  · simp [Value.cells] at e1
    obtain ⟨rfl, rfl, rfl⟩ := e1
    have hall : ∀ i : Fin l0, ∃ x : α, w.cell? (ad.add i.1) = some (mk x) := by
      intro ⟨i, hi⟩
      have h0 := hin i hi
      rw [List.getElem?_eq_getElem (by omega), Option.bind_eq_some_iff, hc1] at h0
      obtain ⟨cs, hc, ht⟩ := h0
      obtain ⟨x, rfl⟩ := hone ht
      obtain ⟨_, _, hcell⟩ := World.cells?_some hc
      refine ⟨x, ?_⟩
      have := hcell 0 (by simp)
      rw [Nat.mul_one, add_two, Nat.add_zero] at this
      simpa using this
    obtain ⟨f, hf⟩ := Classical.axiomOfChoice hall
    have hlen : (List.ofFn f).length = l0 := List.length_ofFn
    refine ⟨List.ofFn f, some ad, c0, by rw [hlen], by rw [hlen]; exact hlc, ?_⟩
    rcases Nat.eq_zero_or_pos l0 with hz | hz
    · exact .inl (List.eq_nil_of_length_eq_zero (by rw [hlen]; exact hz))
    · have e0 := hf ⟨0, hz⟩
      obtain ⟨g, o, spot⟩ := ad
      have hspot : spot = none := by simpa [Addr.add] using World.cell?_spot e0
      subst hspot
      refine .inr ⟨g, o, rfl, fun i a hi => ?_⟩
      have hlt : i < l0 := by rw [← hlen]; exact (List.getElem?_eq_some_iff.1 hi).1
      rw [List.getElem?_ofFn, dif_pos hlt] at hi
      injection hi with hi
      subst hi
      have := hf ⟨i, hlt⟩
      rw [add_none] at this
      exact this
end Go.Proofs.YtpbcmlnjiocmoaaGreatDoorR
namespace Go.Proofs.YtpbcmlnjiocmoaaGreatDoorR
open Go.ChangeShapes Go.WideShapes Go.ChangeAt Go.WideMaps Go.WideElems Go.RowKit
theorem u8_wf {n : Int} (h : (Lit.int .u8 n).wf = true) : 0 ≤ n ∧ n ≤ 255 := by
  have h2 : (decide ((0 : Int) ≤ n) && decide (n ≤ (255 : Int))) = true := h
  simpa using h2
set_option maxRecDepth 100000 in
theorem open_octs {H : Type} {enc : TypeId × Value → H} {w : World} {b0 : Nat} {sp : Nat → Bool} {v : Value} {d : DataW H} {ps : List MemPlace} (hval : Value.okWide Tryz.prog w .any b0 39 v) (h : DataW.Trod enc Tryz.prog w 0 sp true 39 v d ps) :
    ∃ (l : List Nat) (so : Option Addr) (cap : Nat), v = .slice so l.length cap ∧ l.length ≤ cap ∧ (∀ y ∈ l, y ≤ 255) ∧ (l = [] ∨ ∃ g o, so = some ⟨g, o, none⟩ ∧ ∀ (i : Nat) a, l[i]? = some a → w.cell? ⟨g, o + i, none⟩ = some (.int .u8 (a : Int))) := by
  obtain ⟨l, so, cap, rfl, hc, h⟩ := open_ones 39 5 (fun a : Fin 256 => .int .u8 (a.val : Int)) Tryz.underlying39 (by kernel_rfl) (fun h => by
    obtain ⟨z, hz, _, wz⟩ := DataW.trod_int Tryz.underlying5 h
    have hb := u8_wf wz
    refine ⟨⟨z.toNat, by omega⟩, ?_⟩
    rw [hz]
    show [Value.int .u8 z] = [Value.int .u8 (z.toNat : Int)]
    rw [show (z.toNat : Int) = z by omega]) hval h
  refine ⟨l.map Fin.val, so, cap, by rw [List.length_map], by rwa [List.length_map], fun y hy => ?_, ?_⟩
  · obtain ⟨a, _, rfl⟩ := List.mem_map.1 hy
    have := a.isLt
    omega
  · rcases h with rfl | ⟨g, o, hs, hx⟩
    · exact .inl rfl
    · refine .inr ⟨g, o, hs, fun i a ha => ?_⟩
      rw [List.getElem?_map] at ha
      cases hl : l[i]? with
      | none => rw [hl] at ha; cases ha
      | some b =>
        rw [hl] at ha
        injection ha with ha
        subst ha
        exact hx i b hl
end Go.Proofs.YtpbcmlnjiocmoaaGreatDoorR
namespace Go.Proofs.YtpbcmlnjiocmoaaGreatDoorR
open Go.RowKit Go.Proofs.Lexi
set_option maxRecDepth 100000 in
set_option maxHeartbeats 2000000 in
theorem pomGet_c (w : World) (m g : Nat) (sv : Value) (L : List Sl) (hO : OMap w m g sv L) (hL : L.length ≤ 1000) (k p q : Int) (s : ByteArray) (r : Int) (hk : WfV ⟨k, p, q, s, r⟩) :
    Calls Tryz.prog 78 #[.pointer (some ⟨m, 0, none⟩), .agg #[.int .i64 k, .int .i64 p, .int .i64 q, .string s, .int .i64 r]] w (ValPost w (getM L ⟨k, p, q, s, r⟩)) := by
  obtain ⟨hm, hrow, _, E, f, hE, hG, hI⟩ := hO
  have hlt : m < w.heap.size := (Array.getElem?_eq_some_iff.1 hm).1
  have hgl := hE.lt
  have HM := Lib.hid (heap2_old hm (oV k p q s r) (oV 0 0 0 ⟨#[]⟩ 0))
  have m1 : ((w.alloc (.cells #[.int .i64 k, .int .i64 p, .int .i64 q, .string s, .int .i64 r] 30)).alloc (.cells #[.int .i64 0, .int .i64 0, .int .i64 0, .string ⟨#[]⟩, .int .i64 0] 30)).cell? ⟨m, 1, none⟩ = some (.map (some g)) := by rw [cell_of_heap HM.out]; rfl
  have W0k : ∀ W, Below w.heap.size w W → W.heap[g]? = w.heap[g]? := fun W h => h.block g hgl
  have hways : (f ⟨k, p, q, s, r⟩ = none ∧ ∀ W, W.heap[g]? = w.heap[g]? → (Instr.lookup 142 (.map (some g)) (.agg #[.int .i64 k, .int .i64 p, .int .i64 q, .string s, .int .i64 r]) true).run Tryz.prog W = .ok (.tuple #[.int .i64 0, .bool false]) W) ∨
      ∃ n : Nat, f ⟨k, p, q, s, r⟩ = some n ∧ ∀ W, W.heap[g]? = w.heap[g]? → (Instr.lookup 142 (.map (some g)) (.agg #[.int .i64 k, .int .i64 p, .int .i64 q, .string s, .int .i64 r]) true).run Tryz.prog W = .ok (.tuple #[.int .i64 (n : Int), .bool true]) W := by
    rcases look_at hE hG hk w rfl with ⟨h1, _⟩ | ⟨n, h1, _⟩
    · refine .inl ⟨h1, fun W hW => ?_⟩
      rcases look_at hE hG hk W hW with ⟨_, h2⟩ | ⟨n, h2, _⟩
      · exact h2
      · rw [h1] at h2; cases h2
    · refine .inr ⟨n, h1, fun W hW => ?_⟩
      rcases look_at hE hG hk W hW with ⟨h2, _⟩ | ⟨n2, h2, h3⟩
      · rw [h1] at h2; cases h2
      · rw [h1] at h2; injection h2 with h2; subst h2; exact h3
  have WK := Lib.hid W0k
  clear W0k
  have key : ∀ W : World, W.heap = ((w.alloc (.cells #[.int .i64 k, .int .i64 p, .int .i64 q, .string s, .int .i64 r] 30)).alloc (.cells #[.int .i64 0, .int .i64 0, .int .i64 0, .string ⟨#[]⟩, .int .i64 0] 30)).heap → W.heap[g]? = w.heap[g]? := fun W h => by rw [h]; exact (below2w w _ _).block g hgl
  have KEY := Lib.hid key
  clear key
  rcases hways with ⟨hf, hlk⟩ | ⟨n, hf, hlk⟩
  · have HR := Lib.hid (hI.get_miss hf)
    have HLK := Lib.hid hlk
    clear hf hlk hI hG hE hrow
    go_enter Tryz.func78, Tryz.ntmps78
    go_wp2
    refine wp_region_lex mixed (by kernel_rfl) ?_
    go_wp2_with (at_lookup; refine wpList_look_map _ rfl _ _ _ _ rfl _ _ _ rfl rfl (HLK.out _ (KEY.out _ rfl)) ?_)
    refine ⟨by kernel_rfl, ?_⟩
    go_wp2
    refine bodyPost_ret (by simp [results, Tryz.results78, go_sem]; first | done | rfl) rfl ?_
    exact val_done HR.out (by first | exact (below2w _ _ _).drew | exact below2w _ _ _ | exact bdn (below2w _ _ _) _)
  · obtain ⟨sl, hsl, hsk⟩ := hI.key _ _ hf
    have hnl : n < L.length := (List.getElem?_eq_some_iff.1 hsl).1
    have HR := Lib.hid (hI.get_at hf hsl)
    have hrow2 := ownsRow_ext (below_ext (below2w w (oV k p q s r) (oV 0 0 0 ⟨#[]⟩ 0)) (Nat.le_refl _)) hrow
    obtain ⟨rb, cap, rfl⟩ := slice_shape hrow (by omega)
    have cellf : ∀ j u, j < 11 → (slCells sl)[j]? = some u → ((w.alloc (.cells #[.int .i64 k, .int .i64 p, .int .i64 q, .string s, .int .i64 r] 30)).alloc (.cells #[.int .i64 0, .int .i64 0, .int .i64 0, .string ⟨#[]⟩, .int .i64 0] 30)).cell? ⟨rb, n * 11 + j, none⟩ = some u := fun j u hj hu =>
      (hrow2.cellAt (n * 11 + j) (by omega)).trans ((rowSl_at L n j sl hsl hj).trans hu)
    have v0 := cellf 5 _ (by decide) rfl
    have v1 := cellf 6 _ (by decide) rfl
    have v2 := cellf 7 _ (by decide) rfl
    have v3 := cellf 8 _ (by decide) rfl
    have v4 := cellf 9 _ (by decide) rfl
    have m0 : ((w.alloc (.cells #[.int .i64 k, .int .i64 p, .int .i64 q, .string s, .int .i64 r] 30)).alloc (.cells #[.int .i64 0, .int .i64 0, .int .i64 0, .string ⟨#[]⟩, .int .i64 0] 30)).cell? ⟨m, 0, none⟩ = some (.slice (some ⟨rb, 0, none⟩) L.length cap) := by rw [cell_of_heap HM.out]; rfl
    have HLK := Lib.hid hlk
    clear hf hlk hI hG hE hrow hsl hsk cellf hrow2
    go_enter Tryz.func78, Tryz.ntmps78
    go_wp2
    refine wp_region_lex mixed (by kernel_rfl) ?_
    go_wp2_with (at_lookup; refine wpList_look_map _ rfl _ _ _ _ rfl _ _ _ rfl rfl (HLK.out _ (KEY.out _ rfl)) ?_)
    refine ⟨by kernel_rfl, ?_⟩
    go_wp2
    refine bodyPost_ret (by simp [results, Tryz.results78, go_sem]; first | done | rfl) rfl ?_
    exact val_done HR.out (by first | exact (below2w _ _ _).drew | exact below2w _ _ _ | exact below_five (below2w _ _ _).drew (by simp <;> omega) _ _ _ _ _ | exact below_five (below2w _ _ _) (by simp <;> omega) _ _ _ _ _)
set_option maxRecDepth 100000 in
set_option maxHeartbeats 2000000 in
theorem pomNew_c (w : World) : Calls Tryz.prog 79 #[] w (fun e w' => e = .returned (.pointer (some ⟨w.heap.size + 1, 0, none⟩)) ∧ OMap w' (w.heap.size + 1) w.heap.size (.slice none 0 0) [] ∧ Below w.heap.size w w') := by
  have hmm := @run_makeMap Tryz.prog
  go_enter Tryz.func79, Tryz.ntmps79
  go_wp2
  go_ret
  refine ⟨by first | rfl | simp, ⟨?_, World.ownsRow_nil _ _ _ _, fun s h => (by cases h), [], fun _ => none, (mapAt_new 30 w).keep (Below.heap_alloc _ _ _ (by simp)), fun p => ⟨fun h => (by cases h), fun ⟨v, n, _, h⟩ => (by cases h)⟩, idx_nil⟩, below2w _ _ _⟩
  exact heap2_b _ _ _
set_option maxRecDepth 100000 in
set_option maxHeartbeats 2000000 in
theorem ptabNew_c (w : World) : Calls Tryz.prog 42 #[] w (fun e w' => e = .returned (.pointer (some ⟨w'.heap.size - 1, 0, none⟩)) ∧ (∃ m g, TabAt w' (w'.heap.size - 1) m g (.slice none 0 0) [] ∧ w.heap.size ≤ m ∧ w.heap.size ≤ g ∧ w.heap.size ≤ w'.heap.size - 1) ∧ Below w.heap.size w w') := by
  go_enter Tryz.func42, Tryz.ntmps42
  go_wp2_with fail
  refine (pomNew_c _).mono ?_
  rintro e w1 ⟨rfl, hO, hb⟩
  have HO := Lib.hid hO
  have HB := Lib.hid hb
  have hz := hb.size
  clear hO hb
  go_wp2
  go_ret
  have hb2 : Below w1.heap.size w1 (w1.alloc (.cells #[.slice none 0 0, .pointer (some ⟨w.heap.size + 1, 0, none⟩)] 126)) := (Below.refl _ _).alloc (Nat.le_refl _) _
  refine ⟨by simp, ⟨_, _, ⟨?_, om_keep_below HO.out hb2⟩, by omega, by omega, by simp; omega⟩, below_next HB.out hb2⟩
  have := heap_new w1 (.cells #[.slice none 0 0, .pointer (some ⟨w.heap.size + 1, 0, none⟩)] 126)
  simpa using this
set_option maxRecDepth 100000 in
set_option maxHeartbeats 2000000 in
theorem tint_c (w : World) (k p q : Int) (s : ByteArray) (r : Int) : Calls Tryz.prog 77 #[.agg #[.int .i64 k, .int .i64 p, .int .i64 q, .string s, .int .i64 r]] w (IntBool w p (intB ⟨k, p, q, s, r⟩)) := by
  have HV := Lib.hid (fun W => pvalidV_c W k p q s r)
  obtain ⟨T, hT⟩ : ∃ T, T = validV ⟨k, p, q, s, r⟩ := ⟨_, rfl⟩
  rw [← hT] at HV
  have hI : intB ⟨k, p, q, s, r⟩ = ((k == 2) && ((q == 1) && T)) := by unfold intB; rw [hT]
  obtain ⟨R, hR⟩ : ∃ R, R = intB ⟨k, p, q, s, r⟩ := ⟨_, rfl⟩
  rw [← hR]
  rw [← hR] at hI
  have HI := Lib.hid (hI)
  clear hT hI hR
  by_cases hk : k = 2
  · have ek : (k == 2) = true := beq_iff_eq.2 hk
    by_cases hq : q = 1
    · have eq : (q == 1) = true := beq_iff_eq.2 hq
      clear hk hq
      go_enter Tryz.func77, Tryz.ntmps77
      go_wp2
      obtain ⟨B, hB⟩ : ∃ B, B = w.alloc (oV k p q s r) := ⟨_, rfl⟩
      rw [← hB]
      have HW0 := Lib.hid (show Below w.heap.size w B by rw [hB]; exact below1 _ _)
      have Hf0 := Lib.hid (show B.heap[w.heap.size]? = some (oV k p q s r) by rw [hB]; exact heap1 _ _)
      clear hB
      have SO := Lib.hid (fun (W : World) (hb : Below B.heap.size B W) => (show W.cell? ⟨w.heap.size, 0, none⟩ = some (.int .i64 k) ∧ W.cell? ⟨w.heap.size, 1, none⟩ = some (.int .i64 p) ∧ W.cell? ⟨w.heap.size, 2, none⟩ = some (.int .i64 q) ∧ W.cell? ⟨w.heap.size, 3, none⟩ = some (.string s) ∧ W.cell? ⟨w.heap.size, 4, none⟩ = some (.int .i64 r) ∧ Hid (Below B.heap.size B W) from ⟨(cells5 (hkeep hb Hf0.out)).1, (cells5 (hkeep hb Hf0.out)).2.1, (cells5 (hkeep hb Hf0.out)).2.2.1, (cells5 (hkeep hb Hf0.out)).2.2.2.1, (cells5 (hkeep hb Hf0.out)).2.2.2.2, Lib.hid hb⟩))
      have hbR : Below B.heap.size B B := Below.refl _ _
      have hbD : Below B.heap.size B B.drew := (Below.refl _ _).drew
      go_region_held3 (fun w' => w'.cell? ⟨w.heap.size, 0, none⟩ = some (.int .i64 k) ∧ w'.cell? ⟨w.heap.size, 1, none⟩ = some (.int .i64 p) ∧ w'.cell? ⟨w.heap.size, 2, none⟩ = some (.int .i64 q) ∧ w'.cell? ⟨w.heap.size, 3, none⟩ = some (.string s) ∧ w'.cell? ⟨w.heap.size, 4, none⟩ = some (.int .i64 r) ∧ Hid (Below B.heap.size B w'))
        (with_reducible exact SO.out _ (by assumption))
        (first | (go_at_call 43; (with_reducible refine (HV.out _).mono ?_); rintro e w1 ⟨rfl, hb⟩; have hb1 := below_next (prj5a (by assumption)) hb; clear hb))
      go_wp2
      go_ret2
      exact ⟨by rw [HI.out]; simp [ek, eq], below_next HW0.out hb1⟩
    · have eq : (q == 1) = false := beq_eq_false_iff_ne.2 hq
      clear hk hq
      go_enter Tryz.func77, Tryz.ntmps77
      go_wp2
      go_quiet (fail)
      go_wp2
      go_ret2
      exact ⟨by rw [HI.out]; simp [ek, eq], bdn (below1 _ _) _⟩
  · have ek : (k == 2) = false := beq_eq_false_iff_ne.2 hk
    clear hk
    go_enter Tryz.func77, Tryz.ntmps77
    go_wp2
    go_quiet (fail)
    go_wp2
    go_ret2
    exact ⟨by rw [HI.out]; simp [ek], bdn (below1 _ _) _⟩
set_option maxRecDepth 100000 in
set_option maxHeartbeats 2000000 in
theorem twGet_in (w : World) (t m g : Nat) (sv : Value) (L : List Sl) (av : Value) (A : List V) (hT : TabW w t m g sv L av A) (hl : A.length ≤ 100000) (i : Nat) (v : V) (hi : A[i]? = some v) (x : Int) (hx : x = (i : Int) + 1) (s : ByteArray) (r : Int) (hk : validV ⟨2, x, 1, s, r⟩ = true) :
    Calls Tryz.prog 40 #[.pointer (some ⟨t, 0, none⟩), .agg #[.int .i64 2, .int .i64 x, .int .i64 1, .string s, .int .i64 r]] w (ValPost w v) := by
  subst hx
  obtain ⟨ht, hrow, _, _⟩ := hT
  have hlt : i < A.length := (List.getElem?_eq_some_iff.1 hi).1
  obtain ⟨ga, cap, rfl, hga, hcap⟩ := listW_some hrow (fun h => by rw [h] at hlt; simp at hlt)
  have HV := Lib.hid (fun W => (show Calls Tryz.prog 43 #[.agg #[.int .i64 2, .int .i64 ((i : Int) + 1), .int .i64 1, .string s, .int .i64 r]] W (BoolPost W true) from by have h := pvalidV_c W 2 ((i : Int) + 1) 1 s r; rw [hk] at h; exact h))
  have HI := Lib.hid (fun W => (show Calls Tryz.prog 77 #[.agg #[.int .i64 2, .int .i64 ((i : Int) + 1), .int .i64 1, .string s, .int .i64 r]] W (IntBool W ((i : Int) + 1) true) from by have h := tint_c W 2 ((i : Int) + 1) 1 s r; rw [show intB ⟨2, (i : Int) + 1, 1, s, r⟩ = true from by unfold intB; rw [hk]; rfl] at h; exact h))
  have HT := Lib.hid (ht)
  have HR := Lib.hid (hrow)
  have HIV := Lib.hid (hi)
  have htl : t < w.heap.size := (Array.getElem?_eq_some_iff.1 ht).1
  have d1 : decide (((i : Int) + 1) ≥ 1) = true := decide_eq_true (by omega)
  have d2 : decide (((i : Int) + 1) ≤ (A.length : Int)) = true := decide_eq_true (by omega)
  have d3 : (i : Int) < (A.length : Int) := by omega
  clear ht hrow hi hk
  go_enter Tryz.func40, Tryz.ntmps40
  go_wp2_with fail
  refine (HV.out _).mono ?_
  rintro e w1 ⟨rfl, hb⟩
  have Ha1 := Lib.hid (hkeep hb (heap2_a w (oV 2 ((i : Int) + 1) 1 s r) (oV 0 0 0 ⟨#[]⟩ 0)))
  have Hb1 := Lib.hid (hkeep hb (heap2_b w (oV 2 ((i : Int) + 1) 1 s r) (oV 0 0 0 ⟨#[]⟩ 0)))
  have HW1 := Lib.hid (below_next (below2w _ _ _) hb)
  clear hb
  obtain ⟨a0, a1, a2, a3, a4⟩ := cells5 Ha1.out
  obtain ⟨fa0, fa1, fa2, fa3, fa4⟩ := froz5 Ha1.out
  go_wp2_with fail
  refine (HI.out _).mono ?_
  rintro e w2 ⟨rfl, hb⟩
  have Hb2 := Lib.hid (hkeep hb Hb1.out)
  have HW2 := Lib.hid (below_next HW1.out hb)
  clear hb a0 a1 a2 a3 a4 fa0 fa1 fa2 fa3 fa4
  have t0 : w2.cell? ⟨t, 0, none⟩ = some (.slice (some ⟨ga, 0, none⟩) A.length cap) := by rw [cell_of_heap (hkeep HW2.out HT.out)]; rfl
  obtain ⟨c0, c1, c2, c3, c4⟩ := listW_five (listW_below HR.out HW2.out) HIV.out
  have hz2 := HW2.out.size
  have hya : w.heap.size + 1 < w2.heap.size := (Array.getElem?_eq_some_iff.1 Hb2.out).1
  obtain ⟨b0, b1, b2, b3, b4⟩ := cells5 Hb2.out
  obtain ⟨fb0, fb1, fb2, fb3, fb4⟩ := froz5 Hb2.out
  go_wp2
  refine bodyPost_ret (by simp [results, Tryz.results40, go_sem, hya, b0, b1, b2, b3, b4]; first | done | rfl) rfl ?_
  exact val_done rfl (below_five HW2.out (by omega) _ _ _ _ _)
set_option maxRecDepth 100000 in
set_option maxHeartbeats 2000000 in
theorem twGet_out (w : World) (t m g : Nat) (sv : Value) (L : List Sl) (av : Value) (A : List V) (hT : TabW w t m g sv L av A) (hl : A.length ≤ 100000) (hL : L.length ≤ 1000) (k p q : Int) (s : ByteArray) (r : Int) (hk : validV ⟨k, p, q, s, r⟩ = true) (hw : WfV ⟨k, p, q, s, r⟩) (ho : intB ⟨k, p, q, s, r⟩ = false ∨ intB ⟨k, p, q, s, r⟩ = true ∧ (p < 1 ∨ (A.length : Int) < p)) :
    Calls Tryz.prog 40 #[.pointer (some ⟨t, 0, none⟩), .agg #[.int .i64 k, .int .i64 p, .int .i64 q, .string s, .int .i64 r]] w (ValPost w (getM L ⟨k, p, q, s, r⟩)) := by
  obtain ⟨ht, hrow, _, hO⟩ := hT
  obtain ⟨so, cap, rfl, hcap⟩ := listW_shape hrow
  have HV := Lib.hid (fun W => (show Calls Tryz.prog 43 #[.agg #[.int .i64 k, .int .i64 p, .int .i64 q, .string s, .int .i64 r]] W (BoolPost W true) from by have h := pvalidV_c W k p q s r; rw [hk] at h; exact h))
  have HI := Lib.hid (fun W => tint_c W k p q s r)
  have HT := Lib.hid (ht)
  have HO := Lib.hid (hO)
  have htl : t < w.heap.size := (Array.getElem?_eq_some_iff.1 ht).1
  obtain ⟨R, hR⟩ : ∃ R, R = getM L ⟨k, p, q, s, r⟩ := ⟨_, rfl⟩
  rw [← hR]
  have hget : ∀ W, OMap W m g sv L → Calls Tryz.prog 78 #[.pointer (some ⟨m, 0, none⟩), .agg #[.int .i64 k, .int .i64 p, .int .i64 q, .string s, .int .i64 r]] W (ValPost W R) := fun W h => by rw [hR]; exact pomGet_c W m g sv L h hL k p q s r hw
  have HG := Lib.hid (hget)
  obtain ⟨b, hb⟩ : ∃ b, b = intB ⟨k, p, q, s, r⟩ := ⟨_, rfl⟩
  rw [← hb] at HI ho
  have ways : (b = false ∧ True ∧ True) ∨ (b = true ∧ decide (p ≥ 1) = false ∧ True) ∨ (b = true ∧ decide (p ≥ 1) = true ∧ decide (p ≤ (A.length : Int)) = false) := by
    rcases ho with ho | ⟨ho, h1⟩
    · exact .inl ⟨ho, trivial, trivial⟩
    · by_cases h2 : p < 1
      · exact .inr (.inl ⟨ho, decide_eq_false (by omega), trivial⟩)
      · exact .inr (.inr ⟨ho, decide_eq_true (by omega), decide_eq_false (by omega)⟩)
  clear ht hrow hO hR hget hk hb ho
  rcases ways with ⟨rfl, d1, d2⟩ | ⟨rfl, d1, d2⟩ | ⟨rfl, d1, d2⟩
  all_goals
    go_enter Tryz.func40, Tryz.ntmps40
    go_wp2_with fail
    refine (HV.out _).mono ?_
    rintro e w1 ⟨rfl, hb⟩
    have Ha1 := Lib.hid (hkeep hb (heap2_a w (oV k p q s r) (oV 0 0 0 ⟨#[]⟩ 0)))
    have Hb1 := Lib.hid (hkeep hb (heap2_b w (oV k p q s r) (oV 0 0 0 ⟨#[]⟩ 0)))
    have HW1 := Lib.hid (below_next (below2w _ _ _) hb)
    clear hb
    obtain ⟨a0, a1, a2, a3, a4⟩ := cells5 Ha1.out
    obtain ⟨fa0, fa1, fa2, fa3, fa4⟩ := froz5 Ha1.out
    go_wp2_with fail
    refine (HI.out _).mono ?_
    rintro e w2 ⟨rfl, hb⟩
    have Ha2 := Lib.hid (hkeep hb Ha1.out)
    have Hb2 := Lib.hid (hkeep hb Hb1.out)
    have HW2 := Lib.hid (below_next HW1.out hb)
    clear hb a0 a1 a2 a3 a4 fa0 fa1 fa2 fa3 fa4
    have t0 : w2.cell? ⟨t, 0, none⟩ = some (.slice so A.length cap) := by rw [cell_of_heap (hkeep HW2.out HT.out)]; rfl
    have t1 : w2.cell? ⟨t, 1, none⟩ = some (.pointer (some ⟨m, 0, none⟩)) := by rw [cell_of_heap (hkeep HW2.out HT.out)]; rfl
    have hz2 := HW2.out.size
    have hyt : t < w2.heap.size := by omega
    have hya : w.heap.size < w2.heap.size := (Array.getElem?_eq_some_iff.1 Ha2.out).1
    have hyb : w.heap.size + 1 < w2.heap.size := (Array.getElem?_eq_some_iff.1 Hb2.out).1
    obtain ⟨a0, a1, a2, a3, a4⟩ := cells5 Ha2.out
    obtain ⟨fa0, fa1, fa2, fa3, fa4⟩ := froz5 Ha2.out
    obtain ⟨b0, b1, b2, b3, b4⟩ := cells5 Hb2.out
    obtain ⟨fb0, fb1, fb2, fb3, fb4⟩ := froz5 Hb2.out
    go_wp2
    refine wp_region_lex mixed (by kernel_rfl) ?_
    go_wp2_with fail
    refine (HG.out _ (om_keep_below HO.out HW2.out.drew)).mono ?_
    rintro e w3 ⟨rfl, hb⟩
    have Hb3 := Lib.hid (hkeep hb Hb2.out)
    have HW3 := Lib.hid (below_next HW2.out.drew hb)
    clear hb hya hyb hyt t0 t1 a0 a1 a2 a3 a4 fa0 fa1 fa2 fa3 fa4 b0 b1 b2 b3 b4 fb0 fb1 fb2 fb3 fb4
    have hyb : w.heap.size + 1 < w3.heap.size := (Array.getElem?_eq_some_iff.1 Hb3.out).1
    obtain ⟨b0, b1, b2, b3, b4⟩ := cells5 Hb3.out
    obtain ⟨fb0, fb1, fb2, fb3, fb4⟩ := froz5 Hb3.out
    go_wp2
    refine ⟨by kernel_rfl, ?_⟩
    go_wp2
    refine bodyPost_ret (by simp [results, Tryz.results40, go_sem, hyb, b0, b1, b2, b3, b4]; first | done | rfl) rfl ?_
    exact val_done rfl (below_five HW3.out (by omega) _ _ _ _ _)
/-- Get at any valid key. -/
theorem twGet_c (w : World) (t m g : Nat) (sv : Value) (L : List Sl) (av : Value) (A : List V) (hT : TabW w t m g sv L av A) (hl : A.length ≤ 100000) (hL : L.length ≤ 1000) (k p q : Int) (s : ByteArray) (r : Int) (hk : validV ⟨k, p, q, s, r⟩ = true) (hw : WfV ⟨k, p, q, s, r⟩) :
    Calls Tryz.prog 40 #[.pointer (some ⟨t, 0, none⟩), .agg #[.int .i64 k, .int .i64 p, .int .i64 q, .string s, .int .i64 r]] w (ValPost w (tgetM A L ⟨k, p, q, s, r⟩)) := by
  unfold tgetM inA
  by_cases hi : intB ⟨k, p, q, s, r⟩ = true
  · rw [hi, Bool.true_and]
    by_cases hp : 1 ≤ p ∧ p ≤ A.length
    · rw [if_pos (decide_eq_true hp)]
      obtain ⟨h2, h1, _⟩ := intB_iff.1 hi
      have h2 : k = 2 := h2
      have h1 : q = 1 := h1
      subst h2 h1
      obtain ⟨i, hi2⟩ : ∃ i : Nat, p = (i : Int) + 1 := ⟨(p - 1).toNat, by omega⟩
      have hlt : i < A.length := by omega
      rw [show A.getD (p.toNat - 1) V.nil = A[i] from by rw [show p.toNat - 1 = i by omega, List.getD_eq_getElem?_getD, List.getElem?_eq_getElem hlt]; rfl]
      exact twGet_in w t m g sv L av A hT hl i _ (List.getElem?_eq_getElem hlt) p hi2 s r hk
    · rw [if_neg (fun h => hp (of_decide_eq_true h))]
      exact twGet_out w t m g sv L av A hT hl hL k p q s r hk hw (.inr ⟨hi, by omega⟩)
  · have hi : intB ⟨k, p, q, s, r⟩ = false := by simpa using hi
    rw [hi, Bool.false_and, if_neg (by simp)]
    exact twGet_out w t m g sv L av A hT hl hL k p q s r hk hw (.inl hi)
set_option maxRecDepth 100000 in
set_option maxHeartbeats 2000000 in
theorem twLen_c (w : World) (t m : Nat) (so : Option Addr) (n cap : Nat) (ht : w.heap[t]? = some (.cells #[.slice so n cap, .pointer (some ⟨m, 0, none⟩)] 126)) : Calls Tryz.prog 38 #[.pointer (some ⟨t, 0, none⟩)] w (fun e w' => e = .returned (.int .i64 (n : Nat)) ∧ w' = w) := by
  have t0 : w.cell? ⟨t, 0, none⟩ = some (.slice so n cap) := by rw [cell_of_heap ht]; rfl
  have harr : Calls Tryz.prog 74 #[.pointer (some ⟨t, 0, none⟩)] w (fun e w' => e = .returned (.int .i64 (n : Nat)) ∧ w' = w) := by
    clear ht
    go_enter Tryz.func74, Tryz.ntmps74
    go_wp2
    go_ret
    exact ⟨rfl, rfl⟩
  have HA := Lib.hid harr
  clear harr ht t0
  go_enter Tryz.func38, Tryz.ntmps38
  go_wp2_with fail
  refine HA.out.mono ?_
  rintro e w1 ⟨rfl, rfl⟩
  go_wp2
  go_ret
  exact ⟨rfl, rfl⟩
set_option maxRecDepth 100000 in
set_option maxHeartbeats 2000000 in
theorem phfind_none (w : World) (h bo bt : Nat) (H : List PO) (hH : HpAt w h bo bt H) (k1 p1 q1 : Int) (s1 : ByteArray) (r1 : Int) (hr : i64 r1) (ho : objAt H r1 = none) :
    Calls Tryz.prog 73 #[.pointer (some ⟨h, 0, none⟩), .agg #[.int .i64 k1, .int .i64 p1, .int .i64 q1, .string s1, .int .i64 r1]] w (PtrPost w (.pointer none)) := by
  have hlt : h < w.heap.size := (Array.getElem?_eq_some_iff.1 hH.hh).1
  have hbo : bo < w.heap.size := hH.objs.lt
  have hlk := fun W (hW : W.heap[bo]? = w.heap[bo]?) => obj_look hH.objs hr W hW
  rw [ho] at hlk
  have HLK := Lib.hid hlk
  have HH := Lib.hid hH.hh
  have h0 : (w.alloc (oV k1 p1 q1 s1 r1)).cell? ⟨h, 0, none⟩ = some (.map (some bo)) := by rw [cell_of_heap (heap1_old HH.out _)]; rfl
  have h1 : (w.alloc (oV k1 p1 q1 s1 r1)).cell? ⟨h, 1, none⟩ = some (.int .i64 (H.length : Nat)) := by rw [cell_of_heap (heap1_old HH.out _)]; rfl
  have h2 : (w.alloc (oV k1 p1 q1 s1 r1)).cell? ⟨h, 2, none⟩ = some (.map (some bt)) := by rw [cell_of_heap (heap1_old HH.out _)]; rfl
  clear hH hlk ho hr
  go_enter Tryz.func73, Tryz.ntmps73
  go_wp2
  refine wp_region_lex mixed (by kernel_rfl) ?_
  go_wp2_with (at_lookup; refine wpList_look_map _ rfl _ _ _ _ rfl _ _ _ rfl rfl (HLK.out _ (Below.heap_alloc w _ bo (by omega))) ?_)
  refine ⟨by kernel_rfl, ?_⟩
  dsimp only [ptrO]
  go_wp2
  go_quiet (fail)
  go_wp2
  go_ret
  exact ⟨rfl, bdn (below1 _ _).drew _⟩
set_option maxRecDepth 100000 in
set_option maxHeartbeats 2000000 in
theorem phfind_hit (w : World) (h bo bt : Nat) (H : List PO) (hH : HpAt w h bo bt H) (k1 p1 q1 : Int) (s1 : ByteArray) (r1 : Int) (hr : i64 r1) (x : PO) (ho : objAt H r1 = some x) (hk : x.kind = k1) :
    Calls Tryz.prog 73 #[.pointer (some ⟨h, 0, none⟩), .agg #[.int .i64 k1, .int .i64 p1, .int .i64 q1, .string s1, .int .i64 r1]] w (PtrPost w (.pointer (some ⟨x.o, 0, none⟩))) := by
  have hlt : h < w.heap.size := (Array.getElem?_eq_some_iff.1 hH.hh).1
  have hbo : bo < w.heap.size := hH.objs.lt
  have hlk := fun W (hW : W.heap[bo]? = w.heap[bo]?) => obj_look hH.objs hr W hW
  rw [ho] at hlk
  have HLK := Lib.hid hlk
  have HH := Lib.hid hH.hh
  have hx := hH.one x (objAt_mem ho)
  have hxl : x.o < w.heap.size := (Array.getElem?_eq_some_iff.1 hx.ho).1
  have x0 : (w.alloc (oV k1 p1 q1 s1 r1)).cell? ⟨x.o, 0, none⟩ = some (.int .i64 x.kind) := by rw [cell_of_heap (heap1_old hx.ho _)]; rfl
  rw [hk] at x0
  clear hx
  have h0 : (w.alloc (oV k1 p1 q1 s1 r1)).cell? ⟨h, 0, none⟩ = some (.map (some bo)) := by rw [cell_of_heap (heap1_old HH.out _)]; rfl
  have h1 : (w.alloc (oV k1 p1 q1 s1 r1)).cell? ⟨h, 1, none⟩ = some (.int .i64 (H.length : Nat)) := by rw [cell_of_heap (heap1_old HH.out _)]; rfl
  have h2 : (w.alloc (oV k1 p1 q1 s1 r1)).cell? ⟨h, 2, none⟩ = some (.map (some bt)) := by rw [cell_of_heap (heap1_old HH.out _)]; rfl
  clear hH hlk ho hr hk
  go_enter Tryz.func73, Tryz.ntmps73
  go_wp2
  refine wp_region_lex mixed (by kernel_rfl) ?_
  go_wp2_with (at_lookup; refine wpList_look_map _ rfl _ _ _ _ rfl _ _ _ rfl rfl (HLK.out _ (Below.heap_alloc w _ bo (by omega))) ?_)
  refine ⟨by kernel_rfl, ?_⟩
  dsimp only [ptrO]
  go_wp2
  go_quiet (fail)
  go_wp2
  go_ret
  exact ⟨rfl, bdn (below1 _ _).drew _⟩
set_option maxRecDepth 100000 in
set_option maxHeartbeats 2000000 in
theorem phfind_miss (w : World) (h bo bt : Nat) (H : List PO) (hH : HpAt w h bo bt H) (k1 p1 q1 : Int) (s1 : ByteArray) (r1 : Int) (hr : i64 r1) (x : PO) (ho : objAt H r1 = some x) (hk : x.kind ≠ k1) :
    Calls Tryz.prog 73 #[.pointer (some ⟨h, 0, none⟩), .agg #[.int .i64 k1, .int .i64 p1, .int .i64 q1, .string s1, .int .i64 r1]] w (PtrPost w (.pointer none)) := by
  have hlt : h < w.heap.size := (Array.getElem?_eq_some_iff.1 hH.hh).1
  have hbo : bo < w.heap.size := hH.objs.lt
  have hlk := fun W (hW : W.heap[bo]? = w.heap[bo]?) => obj_look hH.objs hr W hW
  rw [ho] at hlk
  have HLK := Lib.hid hlk
  have HH := Lib.hid hH.hh
  have hx := hH.one x (objAt_mem ho)
  have hxl : x.o < w.heap.size := (Array.getElem?_eq_some_iff.1 hx.ho).1
  have x0 : (w.alloc (oV k1 p1 q1 s1 r1)).cell? ⟨x.o, 0, none⟩ = some (.int .i64 x.kind) := by rw [cell_of_heap (heap1_old hx.ho _)]; rfl
  have tk : (x.kind != k1) = true := by rw [bne_iff_ne]; exact hk
  clear hx
  have h0 : (w.alloc (oV k1 p1 q1 s1 r1)).cell? ⟨h, 0, none⟩ = some (.map (some bo)) := by rw [cell_of_heap (heap1_old HH.out _)]; rfl
  have h1 : (w.alloc (oV k1 p1 q1 s1 r1)).cell? ⟨h, 1, none⟩ = some (.int .i64 (H.length : Nat)) := by rw [cell_of_heap (heap1_old HH.out _)]; rfl
  have h2 : (w.alloc (oV k1 p1 q1 s1 r1)).cell? ⟨h, 2, none⟩ = some (.map (some bt)) := by rw [cell_of_heap (heap1_old HH.out _)]; rfl
  clear hH hlk ho hr hk
  go_enter Tryz.func73, Tryz.ntmps73
  go_wp2
  refine wp_region_lex mixed (by kernel_rfl) ?_
  go_wp2_with (at_lookup; refine wpList_look_map _ rfl _ _ _ _ rfl _ _ _ rfl rfl (HLK.out _ (Below.heap_alloc w _ bo (by omega))) ?_)
  refine ⟨by kernel_rfl, ?_⟩
  dsimp only [ptrO]
  go_wp2
  go_quiet (fail)
  go_wp2
  go_ret
  exact ⟨rfl, bdn (below1 _ _).drew _⟩
theorem phfind_c (w : World) (h bo bt : Nat) (H : List PO) (hH : HpAt w h bo bt H) (k1 p1 q1 : Int) (s1 : ByteArray) (r1 : Int) (hr : i64 r1) : Calls Tryz.prog 73 #[.pointer (some ⟨h, 0, none⟩), .agg #[.int .i64 k1, .int .i64 p1, .int .i64 q1, .string s1, .int .i64 r1]] w (PtrPost w (ptrO (findP H ⟨k1, p1, q1, s1, r1⟩))) := by
  cases ho : objAt H r1 with
  | none => rw [findP_none ho]; exact phfind_none w h bo bt H hH k1 p1 q1 s1 r1 hr ho
  | some x =>
    rw [findP_some ho]
    by_cases hk : x.kind = k1
    · rw [if_pos hk]; exact phfind_hit w h bo bt H hH k1 p1 q1 s1 r1 hr x ho hk
    · rw [if_neg hk]; exact phfind_miss w h bo bt H hH k1 p1 q1 s1 r1 hr x ho hk
set_option maxRecDepth 100000 in
set_option maxHeartbeats 2000000 in
theorem ptab_c (w : World) (h bo bt : Nat) (H : List PO) (hH : HpAt w h bo bt H) (k1 p1 q1 : Int) (s1 : ByteArray) (r1 : Int) (hr : i64 r1) : Calls Tryz.prog 36 #[.pointer (some ⟨h, 0, none⟩), .agg #[.int .i64 k1, .int .i64 p1, .int .i64 q1, .string s1, .int .i64 r1]] w (PtrPost w (tabO (findP H ⟨k1, p1, q1, s1, r1⟩))) := by
  have hfi := fun W (hb : Below w.heap.size w W) => phfind_c W h bo bt H (hH.below hb) k1 p1 q1 s1 r1 hr
  cases hf : findP H ⟨k1, p1, q1, s1, r1⟩ with
  | none =>
    rw [hf] at hfi
    have HFI := Lib.hid hfi
    clear hfi hH hf
    go_enter Tryz.func36, Tryz.ntmps36
    go_wp2_with fail
    refine (HFI.out _ (below1 _ _)).mono ?_
    rintro e w1 ⟨rfl, hb⟩
    have HW1 := Lib.hid (below_next (below1 _ _) hb)
    clear hb
    dsimp only [ptrO]
    go_wp2
    go_ret
    exact ⟨rfl, HW1.out⟩
  | some x =>
    rw [hf] at hfi
    obtain ⟨i, hi, hk, hri, hxm⟩ := find_at hf
    have hx := (hH.one x hxm).ho
    have HX := Lib.hid hx
    have HFI := Lib.hid hfi
    clear hfi hH hf hi hk hri hxm hx
    go_enter Tryz.func36, Tryz.ntmps36
    go_wp2_with fail
    refine (HFI.out _ (below1 _ _)).mono ?_
    rintro e w1 ⟨rfl, hb⟩
    have HW1 := Lib.hid (below_next (below1 _ _) hb)
    have x3 : w1.cell? ⟨x.o, 3, none⟩ = some x.tabv := by rw [cell_of_heap (hkeep HW1.out HX.out)]; rfl
    clear hb
    dsimp only [ptrO]
    go_wp2
    go_ret
    exact ⟨rfl, HW1.out⟩
theorem pmissing_c (w : World) (h : Nat) : Calls Tryz.prog 37 #[.pointer (some ⟨h, 0, none⟩)] w (fun e w' => e = .returned (.int .i64 8) ∧ w' = w) := by
  go_enter Tryz.func37, Tryz.ntmps37
  go_wp2
  go_ret
  exact ⟨rfl, rfl⟩
set_option maxRecDepth 100000 in
set_option maxHeartbeats 2000000 in
theorem pGetK_none (w : World) (h : Nat) (k1 p1 q1 : Int) (s1 : ByteArray) (r1 : Int) (kk pp qq : Int) (ss : ByteArray) (rr : Int) (T : ∀ W, Below w.heap.size w W → Calls Tryz.prog 36 #[.pointer (some ⟨h, 0, none⟩), .agg #[.int .i64 k1, .int .i64 p1, .int .i64 q1, .string s1, .int .i64 r1]] W (PtrPost W (.pointer none))) :
    Calls Tryz.prog 21 #[.pointer (some ⟨h, 0, none⟩), .agg #[.int .i64 k1, .int .i64 p1, .int .i64 q1, .string s1, .int .i64 r1], .agg #[.int .i64 kk, .int .i64 pp, .int .i64 qq, .string ss, .int .i64 rr]] w (VrPost w (.error 8)) := by
  have HT := Lib.hid T
  clear T
  go_enter Tryz.func21, Tryz.ntmps21
  go_wp2_with fail
  refine (HT.out _ ((below2w _ _ _).alloc (by simp; omega) _)).mono ?_
  rintro e w1 ⟨rfl, hb⟩
  have Hc1 := Lib.hid (hkeep hb (heap3_c _ _ _ _))
  have HW1 := Lib.hid (below_next (((below2w _ _ _).alloc (by simp; omega) _)) hb)
  have hz1 := hb.size
  try simp at hz1
  clear hb
  have hyc : w.heap.size + 1 + 1 < w1.heap.size := (Array.getElem?_eq_some_iff.1 Hc1.out).1
  have c0 : w1.cell? ⟨w.heap.size + 1 + 1, 0, none⟩ = some (.int .i64 0) := by rw [cell_of_heap Hc1.out]; rfl
  have fc0 : w1.frozen? ⟨w.heap.size + 1 + 1, 0, none⟩ = false := frozen_of_heap Hc1.out _
  have c1 : w1.cell? ⟨w.heap.size + 1 + 1, 1, none⟩ = some (.int .i64 0) := by rw [cell_of_heap Hc1.out]; rfl
  have fc1 : w1.frozen? ⟨w.heap.size + 1 + 1, 1, none⟩ = false := frozen_of_heap Hc1.out _
  have c2 : w1.cell? ⟨w.heap.size + 1 + 1, 2, none⟩ = some (.int .i64 0) := by rw [cell_of_heap Hc1.out]; rfl
  have fc2 : w1.frozen? ⟨w.heap.size + 1 + 1, 2, none⟩ = false := frozen_of_heap Hc1.out _
  have c3 : w1.cell? ⟨w.heap.size + 1 + 1, 3, none⟩ = some (.string ⟨#[]⟩) := by rw [cell_of_heap Hc1.out]; rfl
  have fc3 : w1.frozen? ⟨w.heap.size + 1 + 1, 3, none⟩ = false := frozen_of_heap Hc1.out _
  have c4 : w1.cell? ⟨w.heap.size + 1 + 1, 4, none⟩ = some (.int .i64 0) := by rw [cell_of_heap Hc1.out]; rfl
  have fc4 : w1.frozen? ⟨w.heap.size + 1 + 1, 4, none⟩ = false := frozen_of_heap Hc1.out _
  go_wp2_with fail
  refine (pmissing_c _ _).mono ?_
  rintro e w2 ⟨rfl, rfl⟩
  go_wp2
  refine bodyPost_ret (by simp [results, Tryz.results21, go_sem, hyc, c0, c1, c2, c3, c4]; first | done | rfl) rfl ?_
  exact vr_err (c := 8) rfl (below_five HW1.out (by omega) _ _ _ _ _)
set_option maxRecDepth 100000 in
set_option maxHeartbeats 2000000 in
theorem pGetK_some (w : World) (h t : Nat) (k1 p1 q1 : Int) (s1 : ByteArray) (r1 : Int) (kk pp qq : Int) (ss : ByteArray) (rr : Int) (R : V) (T : ∀ W, Below w.heap.size w W → Calls Tryz.prog 36 #[.pointer (some ⟨h, 0, none⟩), .agg #[.int .i64 k1, .int .i64 p1, .int .i64 q1, .string s1, .int .i64 r1]] W (PtrPost W (.pointer (some ⟨t, 0, none⟩))))
    (G : ∀ W, Below w.heap.size w W → Calls Tryz.prog 40 #[.pointer (some ⟨t, 0, none⟩), .agg #[.int .i64 kk, .int .i64 pp, .int .i64 qq, .string ss, .int .i64 rr]] W (ValPost W R)) :
    Calls Tryz.prog 21 #[.pointer (some ⟨h, 0, none⟩), .agg #[.int .i64 k1, .int .i64 p1, .int .i64 q1, .string s1, .int .i64 r1], .agg #[.int .i64 kk, .int .i64 pp, .int .i64 qq, .string ss, .int .i64 rr]] w (VrPost w (.ok R)) := by
  have HT := Lib.hid T
  have HG := Lib.hid G
  clear T G
  go_enter Tryz.func21, Tryz.ntmps21
  go_wp2_with fail
  refine (HT.out _ ((below2w _ _ _).alloc (by simp; omega) _)).mono ?_
  rintro e w1 ⟨rfl, hb⟩
  have Hb1 := Lib.hid (hkeep hb (heap3_b _ _ _ _))
  have Hc1 := Lib.hid (hkeep hb (heap3_c _ _ _ _))
  have HW1 := Lib.hid (below_next (((below2w _ _ _).alloc (by simp; omega) _)) hb)
  have hz1 := hb.size
  try simp at hz1
  clear hb
  have hyb : w.heap.size + 1 < w1.heap.size := (Array.getElem?_eq_some_iff.1 Hb1.out).1
  have b0 : w1.cell? ⟨w.heap.size + 1, 0, none⟩ = some (.int .i64 kk) := by rw [cell_of_heap Hb1.out]; rfl
  have b1 : w1.cell? ⟨w.heap.size + 1, 1, none⟩ = some (.int .i64 pp) := by rw [cell_of_heap Hb1.out]; rfl
  have b2 : w1.cell? ⟨w.heap.size + 1, 2, none⟩ = some (.int .i64 qq) := by rw [cell_of_heap Hb1.out]; rfl
  have b3 : w1.cell? ⟨w.heap.size + 1, 3, none⟩ = some (.string ss) := by rw [cell_of_heap Hb1.out]; rfl
  have b4 : w1.cell? ⟨w.heap.size + 1, 4, none⟩ = some (.int .i64 rr) := by rw [cell_of_heap Hb1.out]; rfl
  go_wp2_with fail
  refine (HG.out _ HW1.out).mono ?_
  rintro e w2 ⟨rfl, hb⟩
  have Hb2 := Lib.hid (hkeep hb (Hb1.out))
  have Hc2 := Lib.hid (hkeep hb (Hc1.out))
  have HW2 := Lib.hid (below_next (HW1.out) hb)
  have hz2 := hb.size
  try simp at hz2
  clear hb
  clear hyb b0 b1 b2 b3 b4
  have hyc : w.heap.size + 1 + 1 < w2.heap.size := (Array.getElem?_eq_some_iff.1 Hc2.out).1
  have c0 : w2.cell? ⟨w.heap.size + 1 + 1, 0, none⟩ = some (.int .i64 0) := by rw [cell_of_heap Hc2.out]; rfl
  have fc0 : w2.frozen? ⟨w.heap.size + 1 + 1, 0, none⟩ = false := frozen_of_heap Hc2.out _
  have c1 : w2.cell? ⟨w.heap.size + 1 + 1, 1, none⟩ = some (.int .i64 0) := by rw [cell_of_heap Hc2.out]; rfl
  have fc1 : w2.frozen? ⟨w.heap.size + 1 + 1, 1, none⟩ = false := frozen_of_heap Hc2.out _
  have c2 : w2.cell? ⟨w.heap.size + 1 + 1, 2, none⟩ = some (.int .i64 0) := by rw [cell_of_heap Hc2.out]; rfl
  have fc2 : w2.frozen? ⟨w.heap.size + 1 + 1, 2, none⟩ = false := frozen_of_heap Hc2.out _
  have c3 : w2.cell? ⟨w.heap.size + 1 + 1, 3, none⟩ = some (.string ⟨#[]⟩) := by rw [cell_of_heap Hc2.out]; rfl
  have fc3 : w2.frozen? ⟨w.heap.size + 1 + 1, 3, none⟩ = false := frozen_of_heap Hc2.out _
  have c4 : w2.cell? ⟨w.heap.size + 1 + 1, 4, none⟩ = some (.int .i64 0) := by rw [cell_of_heap Hc2.out]; rfl
  have fc4 : w2.frozen? ⟨w.heap.size + 1 + 1, 4, none⟩ = false := frozen_of_heap Hc2.out _
  go_wp2
  refine bodyPost_ret (by simp [results, Tryz.results21, go_sem, hyc, c0, c1, c2, c3, c4]; first | done | rfl) rfl ?_
  exact vr_ok (v := R) rfl rfl (below_five HW2.out (by omega) _ _ _ _ _)
theorem pGetK_c (w : World) (h bo bt : Nat) (H : List PO) (hH : HpAt w h bo bt H) (hS : Small 1000 H) (k1 p1 q1 : Int) (s1 : ByteArray) (r1 : Int) (hr : i64 r1) (kk pp qq : Int) (ss : ByteArray) (rr : Int) (hk : validV ⟨kk, pp, qq, ss, rr⟩ = true) (hkw : WfV ⟨kk, pp, qq, ss, rr⟩) : Calls Tryz.prog 21 #[.pointer (some ⟨h, 0, none⟩), .agg #[.int .i64 k1, .int .i64 p1, .int .i64 q1, .string s1, .int .i64 r1], .agg #[.int .i64 kk, .int .i64 pp, .int .i64 qq, .string ss, .int .i64 rr]] w (VrPost w (getP H ⟨k1, p1, q1, s1, r1⟩ ⟨kk, pp, qq, ss, rr⟩)) := by
  have htab := fun W (hb : Below w.heap.size w W) => ptab_c W h bo bt H (hH.below hb) k1 p1 q1 s1 r1 hr
  unfold getP
  cases hf : findP H ⟨k1, p1, q1, s1, r1⟩ with
  | none => rw [hf] at htab; exact pGetK_none w h k1 p1 q1 s1 r1 kk pp qq ss rr htab
  | some x =>
    rw [hf] at htab
    obtain ⟨i, hi, hk4, hri, hxm⟩ := find_at hf
    have htab : ∀ W, Below w.heap.size w W → Calls Tryz.prog 36 #[.pointer (some ⟨h, 0, none⟩), .agg #[.int .i64 k1, .int .i64 p1, .int .i64 q1, .string s1, .int .i64 r1]] W (PtrPost W x.tabv) := htab
    show Calls _ _ _ _ (VrPost w (if x.kind = 4 then .ok (tgetM x.A x.L ⟨kk, pp, qq, ss, rr⟩) else .error 8))
    unfold PO.tabv at htab
    by_cases h4 : x.kind = 4
    · rw [if_pos h4]
      rw [if_pos h4] at htab
      exact pGetK_some w h x.t k1 p1 q1 s1 r1 kk pp qq ss rr _ htab (fun W hb => twGet_c W x.t x.m x.g x.sv x.L x.av x.A (tabW_below ((hH.one x hxm).tb h4) hb) (by have := (hS x hxm).2; omega) (hS x hxm).1 kk pp qq ss rr hk hkw)
    · rw [if_neg h4]
      rw [if_neg h4] at htab
      exact pGetK_none w h k1 p1 q1 s1 r1 kk pp qq ss rr htab
set_option maxRecDepth 100000 in
set_option maxHeartbeats 2000000 in
theorem pLen_none (w : World) (h : Nat) (k1 p1 q1 : Int) (s1 : ByteArray) (r1 : Int) (T : ∀ W, Below w.heap.size w W → Calls Tryz.prog 36 #[.pointer (some ⟨h, 0, none⟩), .agg #[.int .i64 k1, .int .i64 p1, .int .i64 q1, .string s1, .int .i64 r1]] W (PtrPost W (.pointer none))) :
    Calls Tryz.prog 16 #[.pointer (some ⟨h, 0, none⟩), .agg #[.int .i64 k1, .int .i64 p1, .int .i64 q1, .string s1, .int .i64 r1]] w (PtrPost w (.tuple #[.int .i64 0, .int .i64 8])) := by
  have HT := Lib.hid T
  clear T
  go_enter Tryz.func16, Tryz.ntmps16
  go_wp2_with fail
  refine (HT.out _ (below1 _ _)).mono ?_
  rintro e w1 ⟨rfl, hb⟩
  have HW1 := Lib.hid (below_next (below1 _ _) hb)
  clear hb
  go_wp2_with fail
  refine (pmissing_c _ _).mono ?_
  rintro e w2 ⟨rfl, rfl⟩
  go_wp2
  refine bodyPost_ret (by simp [results, Tryz.results16, go_sem]; first | done | rfl) rfl ?_
  exact ⟨rfl, HW1.out⟩
set_option maxRecDepth 100000 in
set_option maxHeartbeats 2000000 in
theorem pLen_some (w : World) (h t m : Nat) (so : Option Addr) (n cap : Nat) (k1 p1 q1 : Int) (s1 : ByteArray) (r1 : Int) (ht : w.heap[t]? = some (.cells #[.slice so n cap, .pointer (some ⟨m, 0, none⟩)] 126)) (T : ∀ W, Below w.heap.size w W → Calls Tryz.prog 36 #[.pointer (some ⟨h, 0, none⟩), .agg #[.int .i64 k1, .int .i64 p1, .int .i64 q1, .string s1, .int .i64 r1]] W (PtrPost W (.pointer (some ⟨t, 0, none⟩)))) :
    Calls Tryz.prog 16 #[.pointer (some ⟨h, 0, none⟩), .agg #[.int .i64 k1, .int .i64 p1, .int .i64 q1, .string s1, .int .i64 r1]] w (PtrPost w (.tuple #[.int .i64 (n : Nat), .int .i64 0])) := by
  have HT := Lib.hid T
  have HX := Lib.hid ht
  clear T ht
  go_enter Tryz.func16, Tryz.ntmps16
  go_wp2_with fail
  refine (HT.out _ (below1 _ _)).mono ?_
  rintro e w1 ⟨rfl, hb⟩
  have HW1 := Lib.hid (below_next (below1 _ _) hb)
  clear hb
  go_wp2_with fail
  refine (twLen_c _ t m so n cap (hkeep HW1.out HX.out)).mono ?_
  rintro e w2 ⟨rfl, rfl⟩
  go_wp2
  refine bodyPost_ret (by simp [results, Tryz.results16, go_sem]; first | done | rfl) rfl ?_
  exact ⟨rfl, HW1.out⟩
theorem pLenK_c (w : World) (h bo bt : Nat) (H : List PO) (hH : HpAt w h bo bt H) (k1 p1 q1 : Int) (s1 : ByteArray) (r1 : Int) (hr : i64 r1) : Calls Tryz.prog 16 #[.pointer (some ⟨h, 0, none⟩), .agg #[.int .i64 k1, .int .i64 p1, .int .i64 q1, .string s1, .int .i64 r1]] w (PtrPost w (lenP H ⟨k1, p1, q1, s1, r1⟩)) := by
  have htab := fun W (hb : Below w.heap.size w W) => ptab_c W h bo bt H (hH.below hb) k1 p1 q1 s1 r1 hr
  unfold lenP
  cases hf : findP H ⟨k1, p1, q1, s1, r1⟩ with
  | none => rw [hf] at htab; exact pLen_none w h k1 p1 q1 s1 r1 htab
  | some x =>
    rw [hf] at htab
    obtain ⟨i, hi, hk, hri, hxm⟩ := find_at hf
    have htab : ∀ W, Below w.heap.size w W → Calls Tryz.prog 36 #[.pointer (some ⟨h, 0, none⟩), .agg #[.int .i64 k1, .int .i64 p1, .int .i64 q1, .string s1, .int .i64 r1]] W (PtrPost W x.tabv) := htab
    show Calls _ _ _ _ (PtrPost w (if x.kind = 4 then _ else _))
    unfold PO.tabv at htab
    by_cases h4 : x.kind = 4
    · rw [if_pos h4] at htab
      rw [if_pos h4]
      obtain ⟨so, cap, hav, _⟩ := listW_shape ((hH.one x hxm).tb h4).lw
      exact pLen_some w h x.t x.m so x.A.length cap k1 p1 q1 s1 r1 (by rw [← hav]; exact ((hH.one x hxm).tb h4).ht) htab
    · rw [if_neg h4] at htab
      rw [if_neg h4]
      exact pLen_none w h k1 p1 q1 s1 r1 htab
end Go.Proofs.YtpbcmlnjiocmoaaGreatDoorR
