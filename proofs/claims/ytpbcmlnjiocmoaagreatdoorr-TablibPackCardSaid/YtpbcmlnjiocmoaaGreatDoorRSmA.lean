import Derived.Test.YtpbcmlnjiocmoaaGreatDoorRHpW
set_option linter.unusedVariables false
set_option linter.unusedSimpArgs false
set_option maxRecDepth 100000
set_option maxHeartbeats 2000000
namespace Go.Proofs.YtpbcmlnjiocmoaaGreatDoorR
open Go.RowKit Go.Proofs.Lexi
set_option maxRecDepth 100000 in
theorem eq_run (W : World) (k p q : Int) (s : ByteArray) (r : Int) (k2 p2 q2 : Int) (s2 : ByteArray) (r2 : Int) :
    (binOp .eql 30 (.agg #[.int .i64 k, .int .i64 p, .int .i64 q, .string s, .int .i64 r]) (.agg #[.int .i64 k2, .int .i64 p2, .int .i64 q2, .string s2, .int .i64 r2])).run Tryz.prog W = .ok (.bool (eqV ⟨k, p, q, s, r⟩ ⟨k2, p2, q2, s2, r2⟩)) W := by
  by_cases h1 : k = k2 <;> by_cases h2 : p = p2 <;> by_cases h3 : q = q2 <;> by_cases h4 : s = s2 <;> by_cases h5 : r = r2 <;> simp [go_sem, eqV, h1, h2, h3, h4, h5]
  have h6 : ¬ s.toList = s2.toList := fun e => h4 (ByteArray.ext (Array.toList_inj.1 (by rw [← ByteArray.toList_eq, ← ByteArray.toList_eq]; exact e)))
  have h7 : (bytesOf s == bytesOf s2) = false := beq_eq_false_iff_ne.2 (fun e => h4 (bytesOf_inj e))
  rw [if_neg h6, h7]
theorem eqs_run (W : World) (s : ByteArray) : (binOp .eql 30 (.agg #[.int .i64 3, .int .i64 0, .int .i64 0, .string s, .int .i64 0]) (.agg #[.int .i64 3, .int .i64 0, .int .i64 0, .string s, .int .i64 0])).run Tryz.prog W = .ok (.bool true) W := by
  have := eq_run W 3 0 0 s 0 3 0 0 s 0
  rw [this]
  simp [eqV]
set_option maxRecDepth 100000 in
set_option maxHeartbeats 2000000 in
theorem wpList_append_vals {w : World} {ops : Array Oper} {rest : List Oper} {o : Oper} {a : Act} {Q : Exit → Act → World → Prop} (hgd : o.guard = none) (s x : Operand)
    (ho : o.op = .call { callee := .builtin .append, args := #[s, x], argTypes := #[26, 26] }) (base : Nat) (v : Value) (n : Nat) (xs : List Value) (hs : a.eval s = v) (hown : w.ownsRow base 30 5 v n xs)
    (sv : Value) (A : List V) (hx : a.eval x = sv) (hA : Vals w sv A) (hl : n + A.length ≤ 1000000) (hbase : base ≤ w.heap.size)
    (h : ∀ so cap w', w'.ownsRow base 30 5 (.slice so (n + A.length) cap) (n + A.length) (xs ++ rowV A) → w.grownBy w' v.ownBlock → wpList Tryz.prog ops Q rest (a.put o.dst (.slice so (n + A.length) cap)) w') :
    wpList Tryz.prog ops Q (o :: rest) a w := by
  obtain ⟨i5, hi5, hi5a, hi5b, hi5c⟩ := info_parts info25p
  obtain ⟨so, cap, rfl, hcap, hnone, hc⟩ := hA
  rcases so with _ | ad
  · have hnil : A = [] := by
      rcases hc with hc | ⟨g, o, h, _⟩
      · exact hc
      · cases h
    subst hnil
    obtain rfl := hnone rfl
    refine wpList_append_own_none hgd s x 26 ho base 30 i5 5 Tryz.underlying26 hi5 v n xs hs hown hx ?_
    obtain ⟨so2, cap2, rfl⟩ := row_shape hown
    refine h so2 cap2 w ?_ (grown_refl _ _)
    rw [show rowV [] = [] from rfl, List.append_nil]
    exact hown
  · have hcell : ∀ j u, (rowV A)[j]? = some u → w.cell? (ad.add j) = some u := by
      intro j u hj
      rcases hc with rfl | ⟨g, o, h, _, hq⟩
      · simp [rowV] at hj
      · injection h with h
        subst h
        rw [add_none]
        exact hq j u hj
    refine wpList_append_own_at _ hgd s x 26 ho base 30 i5 _ 5 48 Tryz.underlying26 hi5 hi5a hi5b hi5c rfl (by decide) v n xs hs hown ad A.length cap (rowV A) hx (rowV_len A) hcell (fun u hu => rowV_one u hu) (by unfold maxLen; omega) (by omega) hbase ?_
    intro v' w' hown' hgrow _ _
    obtain ⟨so', cap', rfl⟩ := row_shape hown'
    exact h so' cap' w' hown' hgrow
set_option maxRecDepth 100000 in
set_option maxHeartbeats 2000000 in
theorem pArg_out (w : World) (so : Option Addr) (n cap : Nat) (j : Int) (hj : (n : Int) ≤ j) : Calls Tryz.prog 65 #[.slice so n cap, .int .i64 j] w (fun e w' => e = .returned (.agg #[.int .i64 0, .int .i64 0, .int .i64 0, .string ⟨#[]⟩, .int .i64 0]) ∧ Below w.heap.size w w') := by
  have d0 : decide (j < 0) = false := decide_eq_false (by omega)
  have d1 : decide (j ≥ (n : Int)) = true := decide_eq_true (by omega)
  have d2 : decide ((n : Int) ≤ j) = true := decide_eq_true (by omega)
  go_enter Tryz.func65, Tryz.ntmps65
  go_wp2
  refine bodyPost_ret (by simp [results, Tryz.results65, go_sem]; first | done | rfl) rfl ?_
  exact ⟨rfl, below1 _ _⟩
set_option maxHeartbeats 1000000 in
set_option maxRecDepth 100000 in
theorem copy_used (b : Nat) (w : World) (h0 : w.cell? ⟨b, 0, none⟩ = some (.pointer (some ⟨b, 0, none⟩))) :
    Calls Tryz.prog 71 #[.pointer (some ⟨b, 0, none⟩)] w fun e w' => e = .returned (.tuple #[]) ∧ w' = w := by
  obtain ⟨j, hj, _⟩ := Option.map_eq_some_iff.1 infoB
  go_enter Tryz.func71, Tryz.ntmps71
  go_wp2
  rw [Lib.run_neq_ptr_same w _ Tryz.underlying72 hj]
  go_wp2
  go_end0
  exact ⟨rfl, rfl⟩
set_option maxHeartbeats 1000000 in
set_option maxRecDepth 100000 in
theorem copy_fresh (b : Nat) (w : World) (h0 : w.cell? ⟨b, 0, none⟩ = some (.pointer none)) (hsh : w.shape? b = some (74, 2)) (hfz : w.frozen? ⟨b, 0, none⟩ = false) :
    Calls Tryz.prog 71 #[.pointer (some ⟨b, 0, none⟩)] w fun e w' => e = .returned (.tuple #[]) ∧ w' = w.setCell ⟨b, 0, none⟩ (.pointer (some ⟨b, 0, none⟩)) := by
  obtain ⟨j, hj, hjs⟩ := Option.map_eq_some_iff.1 infoB
  go_enter Tryz.func71, Tryz.ntmps71
  go_wp2
  rw [Lib.run_to_unsafe w ⟨b, 0, none⟩ Tryz.underlying72 Tryz.underlying138 hj (by rw [hjs]; decide) hsh (Nat.zero_lt_succ 1)]
  simp only [Result.andThen]
  rw [Oper.upon_value]
  go_wp2
  rw [run_callFunc_extern Tryz.func96 (by kernel_rfl) (by kernel_rfl) (by kernel_rfl) (e := Extern.AbiNoEscape.same) (by kernel_rfl)]
  rw [Lib.run_noEscape]
  simp only [Result.andThen]
  rw [Oper.upon_value]
  go_wp2
  rw [Lib.run_from_unsafe w ⟨b, 0, none⟩ Tryz.underlying138 Tryz.underlying72 hj hsh liesB]
  simp only [Result.andThen]
  rw [Oper.upon_value]
  go_wp2
  go_end0
  exact ⟨rfl, rfl⟩
theorem copyCheck_k (B b : Nat) (bs : List Value) (w : World) (h : Lib.IsBuilder 74 5 B b bs w) :
    Calls Tryz.prog 71 #[.pointer (some ⟨b, 0, none⟩)] w fun e w' => e = .returned (.tuple #[]) ∧ (Lib.BuilderAt 74 5 B b (.pointer (some ⟨b, 0, none⟩)) bs w' ∧ Below B w w' ∧ Keeps w w') := by
  rcases h with h | h
  · refine (copy_fresh b w h.cell0 h.shape h.frozen0).mono ?_
    rintro e w' ⟨rfl, rfl⟩
    obtain ⟨_, v, hb, _⟩ := id h
    exact ⟨rfl, h.used _, (Below.refl B w).setCell (p := ⟨b, 0, none⟩) h.1 _, Keeps.setB (fun _ _ _ _ h _ _ => h) hb _ _⟩
  · refine (copy_used b w h.cell0).mono ?_
    rintro e w' ⟨rfl, rfl⟩
    exact ⟨rfl, h, Below.refl B _, fun _ _ _ _ h _ _ => h⟩
set_option maxHeartbeats 2000000 in
set_option maxRecDepth 100000 in
theorem writeString_k (B b : Nat) (bs : List Value) (s : ByteArray) (w : World) (h : Lib.IsBuilder 74 5 B b bs w) (hlen : bs.length + s.size ≤ 140737488355328) (hBw : B ≤ w.heap.size) :
    Calls Tryz.prog 34 #[.pointer (some ⟨b, 0, none⟩), .string s] w (WrPostK B b (bs ++ Lib.strCells s) w (.tuple #[.int .i64 s.size, .nilIface])) := by
  obtain ⟨i0, hi, hz0, hz1, hz2⟩ := info_parts infoByte
  go_enter Tryz.func34, Tryz.ntmps34
  go_wp2_with (go_at_call 71; refine (copyCheck_k B b bs _ h).mono ?_)
  rintro e w1 ⟨rfl, h1, hb1, hk1⟩
  obtain ⟨hB, v, hbk, hown, hne⟩ := h1
  have c0 : w1.cell? ⟨b, 0, none⟩ = some (.pointer (some ⟨b, 0, none⟩)) := by rw [Lib.cell_of_heap hbk]; rfl
  have c1 : w1.cell? ⟨b, 1, none⟩ = some v := by rw [Lib.cell_of_heap hbk]; rfl
  go_wp2_with (at_builtin; refine Lib.wpList_append_own_string _ rfl _ _ 39 9 rfl B 5 i0 Tryz.underlying39 Tryz.underlying9 hi hz0 hz1 hz2 _ _ _ rfl hown s rfl ?c3 ?c4 ?c5 ?_)
  case c3 => unfold maxLen; omega
  case c4 => omega
  case c5 => have := hb1.size; omega
  intro v' w2 hown' hgrow _
  have hlt : b < w1.heap.size := by
    rcases Nat.lt_or_ge b w1.heap.size with h' | h'
    · exact h'
    · simp [Array.getElem?_eq_none h'] at hbk
  have hb2 : w2.heap[b]? = some (.cells #[.pointer (some ⟨b, 0, none⟩), v] 74 (0, 0)) := by
    rw [hgrow.block b hlt (fun e => hne e.symm)]
    exact hbk
  have d0 : w2.cell? ⟨b, 0, none⟩ = some (.pointer (some ⟨b, 0, none⟩)) := by rw [Lib.cell_of_heap hb2]; rfl
  have d1 : w2.cell? ⟨b, 1, none⟩ = some v := by rw [Lib.cell_of_heap hb2]; rfl
  have f1 : w2.frozen? ⟨b, 1, none⟩ = false := Lib.frozen_of_heap hb2 1
  obtain ⟨ao, n', cap, rfl⟩ : ∃ ao n' cap, v' = .slice ao n' cap := by
    rcases hown'.2 with ⟨hv, _⟩ | ⟨g, cap, cur, hv, _⟩
    · exact ⟨_, _, _, hv⟩
    · exact ⟨_, _, _, hv⟩
  have hkn : Keeps w w2 := fun k cs t fz hk h75 h5 => by
    have h1 := hk1 k cs t fz hk h75 h5
    rw [hgrow.block k (Array.getElem?_eq_some_iff.1 h1).1 (fun e => ?_)]
    · exact h1
    · rcases hown.2 with ⟨hv, _⟩ | ⟨g, cap', cur, hv, _, hh, _⟩
      · rw [hv] at e; cases e
      · rw [hv] at e; injection e with e
        rw [show k = g from e, hh] at h1
        injection h1 with h1
        injection h1 with _ h1
        exact h5 h1.symm
  have HKN := Lib.hid hkn
  clear hkn
  go_wp2
  go_ret2
  refine ⟨⟨rfl, .inr ?_, ?_⟩, HKN.out.setB hb2 _ _⟩
  · exact Lib.BuilderAt.put (T := 74) (e := 5) hB hb2 (bs' := bs ++ Lib.strCells s) (by simpa [Lib.strCells_length] using hown') (by decide)
  · exact (hb1.grown hgrow (by have := hb1.size; omega) (fun k hk => (hown.lt k hk).1)).setCell (p := ⟨b, 1, none⟩) hB _
theorem writeString_c (B b : Nat) (bs : List Value) (s : ByteArray) (w : World) (h : Lib.IsBuilder 74 5 B b bs w) (hlen : bs.length + s.size ≤ 140737488355328) (hBw : B ≤ w.heap.size) :
    Calls Tryz.prog 34 #[.pointer (some ⟨b, 0, none⟩), .string s] w (WrPost B b (bs ++ Lib.strCells s) w (.tuple #[.int .i64 s.size, .nilIface])) := (writeString_k B b bs s w h hlen hBw).mono fun _ _ h => h.1
end Go.Proofs.YtpbcmlnjiocmoaaGreatDoorR
