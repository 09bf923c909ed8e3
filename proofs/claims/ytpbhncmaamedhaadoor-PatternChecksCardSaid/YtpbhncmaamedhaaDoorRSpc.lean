import Derived.Test.YtpbhncmaamedhaaDoorRBeg
namespace Go.Proofs.YtpbhncmaamedhaaDoor
open Go.RowKit Go.Proofs.Lexi

/-! The reference's special (50): an item other than a single. -/
def specialM (c : Nat) (r : List Nat) (s : St) : Option (Except Nat (St × Nat)) :=
  if c = 40 ∨ c = 41 then some (bracketM c r s)
  else if c = 37 then
    match r with
    | [] => none
    | d :: _ => if d = 98 ∨ d = 102 ∨ (49 ≤ d ∧ d ≤ 57) then percentM r s else none
  else none
theorem special_step (c : Nat) (r : List Nat) (s : St) : match specialM c r s with | some R => stepM c r s = R | none => stepM c r s = singleM c r s := by
  unfold specialM stepM
  by_cases h1 : c = 40 ∨ c = 41
  · rw [if_pos h1, if_pos h1]
  · rw [if_neg h1, if_neg h1]
    by_cases h2 : c = 37
    · rw [if_pos h2, if_pos h2]
      subst h2
      match r with
      | [] => rfl
      | d :: r1 =>
        simp only []
        by_cases h3 : d = 98 ∨ d = 102 ∨ (49 ≤ d ∧ d ≤ 57)
        · rw [if_pos h3]
          cases hq : percentM (d :: r1) s with
          | some R => rfl
          | none =>
            exfalso
            unfold percentM at hq
            simp only [] at hq
            split at hq
            · split at hq <;> cases hq
            · split at hq
              · split at hq
                · split at hq
                  · split at hq <;> cases hq
                  · cases hq
                · cases hq
              · split at hq
                · split at hq <;> cases hq
                · rename_i h5 h6 h7
                  rcases h3 with h3 | h3 | h3
                  · exact h5 h3
                  · exact h6 h3
                  · exact h7 (by simp [isDigit]; omega)
        · rw [if_neg h3]
          simp only [not_or] at h3
          simp only [percentM, if_neg h3.1, if_neg h3.2.1]
          by_cases h4 : isDigit d = true
          · have h48 : d = 48 := by have : 48 ≤ d ∧ d ≤ 57 := by simpa [isDigit] using h4
                                    omega
            rw [if_pos h4, if_pos (.inl h48)]
            subst h48
            unfold singleM baseM
            simp [pairS_digit 48 rfl]
          · rw [if_neg h4]
    · rw [if_neg h2, if_neg h2]
def SpPost (w0 : World) (ob : Nat) (anc fin : Bool) (s : St) (R : Option (Except Nat (St × Nat))) (e : Ending) (w' : World) : Prop :=
  match R with
  | none => e = .returned (.tuple #[.int .i64 0, .int .i64 0]) ∧ PPost w0 ob anc fin s w'
  | some (.error c) => (∃ n : Int, e = .returned (.tuple #[.int .i64 n, .int .i64 c])) ∧ Below w0.heap.size w0 w'
  | some (.ok (s', m)) => e = .returned (.tuple #[.int .i64 m, .int .i64 0]) ∧ PPost w0 ob anc fin s' w'
section
variable {w0 w' : World} {ob : Nat} {anc fin : Bool} {s s' : St} {R : Option (Except Nat (St × Nat))}
theorem sp_none (hR : R = none) (h : PPost w0 ob anc fin s w') : SpPost w0 ob anc fin s R (.returned (.tuple #[.int .i64 0, .int .i64 0])) w' := by subst hR; exact ⟨rfl, h⟩
theorem sp_err {c : Nat} {n d : Int} (hR : R = some (.error c)) (hd : d = c) (h : Below w0.heap.size w0 w') : SpPost w0 ob anc fin s R (.returned (.tuple #[.int .i64 n, .int .i64 d])) w' := by subst hR hd; exact ⟨⟨_, rfl⟩, h⟩
theorem sp_ok {m : Nat} {n : Int} (hR : R = some (.ok (s', m))) (hn : n = m) (h : PPost w0 ob anc fin s' w') : SpPost w0 ob anc fin s R (.returned (.tuple #[.int .i64 n, .int .i64 0])) w' := by subst hR hn; exact ⟨rfl, h⟩
end
theorem pinv_items {s : St} {ps : List Bool} (h : RInv s ps) (l : List Item) : RInv { s with items := l } ps := ⟨h.len, h.pos⟩
theorem pinv_shut {s : St} {ps : List Bool} {l : List Nat} {x : Nat} (h : RInv s ps) (ho : s.opened = l ++ [x]) (it : List Item) : RInv { s with items := it, opened := l, ended := s.ended.set x true } ps := by
  refine ⟨h.len, fun n hn => ?_⟩
  obtain ⟨h1, h2⟩ := h.pos n hn
  rw [ho] at h2
  simp only [List.mem_append, List.mem_singleton, not_or] at h2
  refine ⟨?_, h2.1⟩
  show (s.ended.set x true).getD n false = false
  rw [List.getD_eq_getElem?_getD, List.getElem?_set_ne (fun e => h2.2 e.symm), ← List.getD_eq_getElem?_getD]
  exact h1
set_option maxRecDepth 100000 in
set_option maxHeartbeats 4000000 in
theorem special_open {w0 w : World} {ob : Nat} {anc fin : Bool} {s : St} {ps : List Bool} {vi vo vc vp : Value} {vs : List Value} (h : PSt w0 ob w anc fin s ps vi vo vc vp vs) (hv : RInv s ps) (hw : Wf s) (p : ByteArray) (k : Nat) (hk : k < p.size) (hp : p.size ≤ 5000) (hi : s.items.length ≤ k) (hc : p[k].toNat = 40) :
    Calls Tryd.prog 50 #[.pointer (some ⟨ob, 0, none⟩), .string p, .int .i64 k] w (SpPost w0 ob anc fin s (specialM p[k].toNat ((bytesOf p).drop (k + 1)) s)) := by
  have hR : specialM p[k].toNat ((bytesOf p).drop (k + 1)) s = some (bracketM p[k].toNat ((bytesOf p).drop (k + 1)) s) := by unfold specialM; rw [if_pos (.inl hc)]
  rw [hR]
  have h41 : ¬ p[k].toNat = 41 := by omega
  have t40 : ((p[k].toNat : Int) == 40) = true := by rw [hc]; rfl
  have hpl : (((bytesOf p).drop (k + 1)).head? = some 41 ∧ ∃ h : k + 1 < p.size, ((p[k + 1].toNat : Int) == 41) = true) ∨ (¬ ((bytesOf p).drop (k + 1)).head? = some 41 ∧ ((∃ h : k + 1 < p.size, ((p[k + 1].toNat : Int) == 41) = false) ∨ p.size ≤ k + 1)) := by
    by_cases h1 : k + 1 < p.size
    · rw [bytesOf_drop p (k + 1) h1]
      by_cases h2 : p[k + 1].toNat = 41
      · exact .inl ⟨by rw [h2]; rfl, h1, by rw [h2]; rfl⟩
      · exact .inr ⟨by simp; omega, .inl ⟨h1, by rw [beq_eq_false_iff_ne]; omega⟩⟩
    · exact .inr ⟨by rw [bytesOf_end p (k + 1) (by omega)]; simp, .inr (by omega)⟩
  have c16 := hw.c16
  by_cases hl : 16 ≤ s.caps
  · have hE : bracketM p[k].toNat ((bytesOf p).drop (k + 1)) s = .error 3 := by simp [bracketM, h41, hl]
    rw [hE]
    have HB := Lib.hid (fun (q : Int) => begins_lim h (by omega) q)
    clear hE hR hc h hv hw h41
    rcases hpl with ⟨_, h1, t1⟩ | ⟨_, ⟨h1, t1⟩ | h1⟩
    all_goals
      go_enter Tryd.func50, Tryd.ntmps50
      go_wp2_with fail
      refine (HB.out _).mono ?_
      rintro e w' ⟨rfl, hb⟩
      have HBB := Lib.hid hb
      clear hb
      go_wp2
      go_ret2
      exact sp_err rfl rfl HBB.out
  · rcases hpl with ⟨hh, h1, t1⟩ | ⟨hh, hh2⟩
    · have hE : bracketM p[k].toNat ((bytesOf p).drop (k + 1)) s = .ok (placeS s, 2) := by simp only [bracketM, h41, hl, hh, if_true, if_false]; rfl
      rw [hE]
      have HB := Lib.hid (begins_place h hv hw (by omega) (by omega))
      clear hE hR hc h hv hw h41 hh
      go_enter Tryd.func50, Tryd.ntmps50
      go_wp2_with fail
      refine HB.out.mono ?_
      rintro e w' ⟨rfl, hb⟩
      have HBB := Lib.hid hb
      clear hb
      go_wp2
      go_ret2
      exact sp_ok rfl rfl HBB.out
    · have hE : bracketM p[k].toNat ((bytesOf p).drop (k + 1)) s = .ok (openS s, 1) := by simp only [bracketM, h41, hl, hh, if_true, if_false]; rfl
      rw [hE]
      have HB := Lib.hid (begins_open h hv hw (by omega) (by omega))
      clear hE hR hc h hv hw h41 hh
      rcases hh2 with ⟨h1, t1⟩ | h1
      all_goals
        go_enter Tryd.func50, Tryd.ntmps50
        go_wp2_with fail
        refine HB.out.mono ?_
        rintro e w' ⟨rfl, hb⟩
        have HBB := Lib.hid hb
        clear hb
        go_wp2
        go_ret2
        exact sp_ok rfl rfl HBB.out
set_option maxRecDepth 100000 in
set_option maxHeartbeats 4000000 in
theorem special_shut {w0 w : World} {ob : Nat} {anc fin : Bool} {s : St} {ps : List Bool} {vi vo vc vp : Value} {vs : List Value} (h : PSt w0 ob w anc fin s ps vi vo vc vp vs) (hv : RInv s ps) (hw : Wf s) (p : ByteArray) (k : Nat) (hk : k < p.size) (hp : p.size ≤ 5000) (hi : s.items.length ≤ k) (hc : p[k].toNat = 41) :
    Calls Tryd.prog 50 #[.pointer (some ⟨ob, 0, none⟩), .string p, .int .i64 k] w (SpPost w0 ob anc fin s (specialM p[k].toNat ((bytesOf p).drop (k + 1)) s)) := by
  have hR : specialM p[k].toNat ((bytesOf p).drop (k + 1)) s = some (bracketM p[k].toNat ((bytesOf p).drop (k + 1)) s) := by unfold specialM; rw [if_pos (.inr hc)]
  rw [hR]
  clear hR
  have t40 : ((p[k].toNat : Int) == 40) = false := by rw [beq_eq_false_iff_ne]; omega
  have t41 : ((p[k].toNat : Int) == 41) = true := by rw [hc]; rfl
  obtain ⟨i14, hi14, hi14a, hi14b, hi14c⟩ := info_parts Tryd.info114
  have h0 : w.cell? ⟨ob, 0, none⟩ = some vi := by rw [cell_of_heap h.hr]; rfl
  have h4 : w.cell? ⟨ob, 4, none⟩ = some vo := by rw [cell_of_heap h.hr]; rfl
  have h5 : w.cell? ⟨ob, 5, none⟩ = some vc := by rw [cell_of_heap h.hr]; rfl
  have f4 := h.frozen 4
  have ol := hw.ol
  have c16 := hw.c16
  have hlt := h.lt
  rcases List.eq_nil_or_concat s.opened with ho | ⟨l, x, ho⟩
  · have E := Lib.hid (show bracketM p[k].toNat ((bytesOf p).drop (k + 1)) s = .error 4 by simp [bracketM, hc, ho])
    have hnil : ∃ ao cap, vo = .slice ao 0 cap := by
      rcases h.oo.2 with ⟨e, _⟩ | ⟨g, cap, cur, e, _⟩
      · exact ⟨_, _, e⟩
      · exact ⟨_, _, by rw [e, ho]; rfl⟩
    obtain ⟨ao, cap, rfl⟩ := hnil
    have HB := Lib.hid h.below
    clear h hc ho hw hv
    go_enter Tryd.func50, Tryd.ntmps50
    go_wp2
    go_ret2
    rw [E.out]
    exact sp_err rfl rfl HB.out
  · rw [List.concat_eq_append] at ho
    have hx : x < s.caps := hw.op x (by rw [ho]; simp)
    have hx' : x < s.ended.length := by rw [hw.el]; exact hx
    have E := Lib.hid (show bracketM p[k].toNat ((bytesOf p).drop (k + 1)) s = .ok ({ s with items := s.items ++ [mkItem 2 x], opened := l, ended := s.ended.set x true }, 1) by simp [bracketM, hc, ho])
    obtain ⟨g, cap, rfl⟩ := slice_shape h.oo (by rw [ho]; simp)
    obtain ⟨ge, ce, rfl⟩ := slice_shape h.oc (by omega)
    have HL := Lib.hid (show s.opened.length = l.length + 1 by rw [ho]; simp)
    have k1 : w.cell? ⟨g, l.length, none⟩ = some (.int .i64 x) := by rw [h.oo.cellAt l.length (by rw [ho]; simp), ho]; simp [intV]
    obtain ⟨b, k2⟩ : ∃ b, w.cell? ⟨ge, x, none⟩ = some (.bool b) := by rw [h.oc.cellAt x (by omega)]; simp [hx']
    have k3 := h.oc.frozenAt x
    have d1 : ge ≠ ob := fun e => h.five.oc ob rfl (by rw [e]; rfl)
    have d2 : g ≠ ob := fun e => h.five.ob ob rfl (by rw [e]; rfl)
    have hcap : l.length ≤ cap := by
      rcases h.oo.2 with ⟨e, _⟩ | ⟨_, _, _, e, _, _, h, _⟩
      · cases e
      · injection e with _ _ e3; subst e3; have := HL.out; (try simp only at h); omega
    have hl : l.length ≤ 16 := by have := HL.out; omega
    have hee : s.ended.length ≤ 16 := by rw [hw.el]; exact c16
    rw [HL.out] at h4
    have HP := Lib.hid (show PSt w0 ob w anc fin s ps vi (.slice (some ⟨g, 0, none⟩) (l.length + 1) cap) (.slice (some ⟨ge, 0, none⟩) s.ended.length ce) vp vs from by rw [← HL.out]; exact h)
    have HQ := Lib.hid ((PSt.pop ho rfl HP.out).setClosed x)
    have HV := Lib.hid (pinv_shut hv ho (s.items ++ [mkItem 2 x]))
    clear h hc ho hw ol hv
    go_enter Tryd.func50, Tryd.ntmps50
    go_wp2
    refine wp_region_lex mixed (by kernel_rfl) ?_
    go_wp2
    refine ⟨by kernel_rfl, ?_⟩
    go_wp2
    refine wp_region_lex mixed (by kernel_rfl) ?_
    go_wp2
    refine ⟨by kernel_rfl, ?_⟩
    go_wp2_with (at_builtin; refine wpList_append_own_at _ rfl (.tmp 80) (.tmp 83) 64 rfl w0.heap.size 114 i14 _ 6 48 Tryd.underlying64 hi14 hi14a hi14b hi14c rfl (by decide) vi s.items.length (rowR s.items vs) rfl ?_ ⟨_, 0, none⟩ 1 1 [_, _, _, _, _, _] rfl rfl (cells_sixR _ _ _ _ _ _ _ _ _ (by simp)) ?_ ?_ ?_ ?_ ?_)
    · exact ownsRow_ext (below_ext (((Below.refl _ _).alloc (Nat.le_refl _) _).drew).drew (Nat.le_refl _)) HQ.out.oi
    · intro u hu
      simp only [List.mem_cons, List.not_mem_nil, or_false] at hu
      rcases hu with rfl | rfl | rfl | rfl | rfl | rfl <;> rfl
    · unfold maxLen; omega
    · omega
    · first | (have := HQ.out.below.size; simp at this ⊢; omega) | (have := HQ.out.below.size; simp; omega)
    · intro v1 w1 hown hgrow _ hat
      obtain ⟨g1, cap1, rfl⟩ := slice_shape hown (by omega)
      have hr1 := hr_push (((Below.refl _ _).alloc (Nat.le_refl _) _).drew).drew hgrow HQ.out.hr HQ.out.five.oa
      have c10 : w1.cell? ⟨ob, 0, none⟩ = some vi := by rw [cell_of_heap hr1]; rfl
      have f10 : w1.frozen? ⟨ob, 0, none⟩ = false := by simp [World.frozen?, hr1]
      have H1 := Lib.hid (HQ.out.pushItem (((Below.refl _ _).alloc (Nat.le_refl _) _).drew).drew (itemR_plain _ _ _ 2 x 0 0 rfl) hown hgrow (by simpa using hat))
      clear hown hgrow hat hr1
      go_wp2
      go_ret2
      rw [E.out]
      exact sp_ok rfl rfl ⟨_, _, _, _, _, _, H1.out, HV.out⟩
set_option maxRecDepth 100000 in
set_option maxHeartbeats 4000000 in
theorem special_other {w0 w : World} {ob : Nat} {anc fin : Bool} {s : St} {ps : List Bool} {vi vo vc vp : Value} {vs : List Value} (h : PSt w0 ob w anc fin s ps vi vo vc vp vs) (hv : RInv s ps) (hw : Wf s) (p : ByteArray) (k : Nat) (hk : k < p.size) (hp : p.size ≤ 5000) (hi : s.items.length ≤ k) (h1 : ¬ p[k].toNat = 40) (h2 : ¬ p[k].toNat = 41) (hc : ¬ p[k].toNat = 37) :
    Calls Tryd.prog 50 #[.pointer (some ⟨ob, 0, none⟩), .string p, .int .i64 k] w (SpPost w0 ob anc fin s (specialM p[k].toNat ((bytesOf p).drop (k + 1)) s)) := by
  have hR : specialM p[k].toNat ((bytesOf p).drop (k + 1)) s = none := by unfold specialM; rw [if_neg (by omega), if_neg hc]
  rw [hR]
  have t40 : ((p[k].toNat : Int) == 40) = false := by rw [beq_eq_false_iff_ne]; omega
  have t41 : ((p[k].toNat : Int) == 41) = false := by rw [beq_eq_false_iff_ne]; omega
  have t37 : ((p[k].toNat : Int) != 37) = true := by rw [bne_iff_ne]; omega
  have HH := Lib.hid (show PPost w0 ob anc fin s w from ⟨_, _, _, _, _, _, h, hv⟩)
  clear hR h hv hw h1 h2 hc
  go_enter Tryd.func50, Tryd.ntmps50
  go_wp2
  go_ret2
  exact sp_none rfl HH.out
set_option maxRecDepth 100000 in
set_option maxHeartbeats 4000000 in
theorem special_last {w0 w : World} {ob : Nat} {anc fin : Bool} {s : St} {ps : List Bool} {vi vo vc vp : Value} {vs : List Value} (h : PSt w0 ob w anc fin s ps vi vo vc vp vs) (hv : RInv s ps) (hw : Wf s) (p : ByteArray) (k : Nat) (hk : k < p.size) (hp : p.size ≤ 5000) (hi : s.items.length ≤ k) (hc : p[k].toNat = 37) (hn : ¬ k + 1 < p.size) :
    Calls Tryd.prog 50 #[.pointer (some ⟨ob, 0, none⟩), .string p, .int .i64 k] w (SpPost w0 ob anc fin s (specialM p[k].toNat ((bytesOf p).drop (k + 1)) s)) := by
  have hR : specialM p[k].toNat ((bytesOf p).drop (k + 1)) s = none := by rw [bytesOf_end p (k + 1) (by omega)]; unfold specialM; rw [if_neg (by omega), if_pos hc]
  rw [hR]
  have t40 : ((p[k].toNat : Int) == 40) = false := by rw [beq_eq_false_iff_ne]; omega
  have t41 : ((p[k].toNat : Int) == 41) = false := by rw [beq_eq_false_iff_ne]; omega
  have t37 : ((p[k].toNat : Int) != 37) = false := by rw [hc]; rfl
  have HH := Lib.hid (show PPost w0 ob anc fin s w from ⟨_, _, _, _, _, _, h, hv⟩)
  clear hR h hv hw hc
  go_enter Tryd.func50, Tryd.ntmps50
  go_wp2
  go_ret2
  exact sp_none rfl HH.out
set_option maxRecDepth 100000 in
set_option maxHeartbeats 4000000 in
theorem special_none {w0 w : World} {ob : Nat} {anc fin : Bool} {s : St} {ps : List Bool} {vi vo vc vp : Value} {vs : List Value} (h : PSt w0 ob w anc fin s ps vi vo vc vp vs) (hv : RInv s ps) (hw : Wf s) (p : ByteArray) (k : Nat) (hk : k < p.size) (hp : p.size ≤ 5000) (hi : s.items.length ≤ k) (hc : p[k].toNat = 37) (hn : k + 1 < p.size) (h1 : ¬ p[k + 1].toNat = 98) (h2 : ¬ p[k + 1].toNat = 102) (h3 : ¬ (49 ≤ p[k + 1].toNat ∧ p[k + 1].toNat ≤ 57)) :
    Calls Tryd.prog 50 #[.pointer (some ⟨ob, 0, none⟩), .string p, .int .i64 k] w (SpPost w0 ob anc fin s (specialM p[k].toNat ((bytesOf p).drop (k + 1)) s)) := by
  have hR : specialM p[k].toNat ((bytesOf p).drop (k + 1)) s = none := by rw [bytesOf_drop p (k + 1) hn]; unfold specialM; rw [if_neg (by omega), if_pos hc]; simp only []; rw [if_neg (by omega)]
  rw [hR]
  have t40 : ((p[k].toNat : Int) == 40) = false := by rw [beq_eq_false_iff_ne]; omega
  have t41 : ((p[k].toNat : Int) == 41) = false := by rw [beq_eq_false_iff_ne]; omega
  have t37 : ((p[k].toNat : Int) != 37) = false := by rw [hc]; rfl
  have t98 : ((p[k + 1].toNat : Int) == 98) = false := by rw [beq_eq_false_iff_ne]; omega
  have t102 : ((p[k + 1].toNat : Int) == 102) = false := by rw [beq_eq_false_iff_ne]; omega
  have HH := Lib.hid (show PPost w0 ob anc fin s w from ⟨_, _, _, _, _, _, h, hv⟩)
  have hb := UInt8.toNat_lt p[k + 1]
  have h4 : p[k + 1].toNat < 49 ∨ (49 ≤ p[k + 1].toNat ∧ 57 < p[k + 1].toNat) := by omega
  clear hR h hv hw hc h1 h2 h3
  rcases h4 with h4 | ⟨h4, h5⟩
  all_goals
    go_enter Tryd.func50, Tryd.ntmps50
    go_wp2
    go_ret2
    exact sp_none rfl HH.out
set_option maxRecDepth 100000 in
set_option maxHeartbeats 4000000 in
theorem special_bal {w0 w : World} {ob : Nat} {anc fin : Bool} {s : St} {ps : List Bool} {vi vo vc vp : Value} {vs : List Value} (h : PSt w0 ob w anc fin s ps vi vo vc vp vs) (hv : RInv s ps) (hw : Wf s) (p : ByteArray) (k : Nat) (hk : k < p.size) (hp : p.size ≤ 5000) (hi : s.items.length ≤ k) (hc : p[k].toNat = 37) (hn : k + 1 < p.size) (hd : p[k + 1].toNat = 98) :
    Calls Tryd.prog 50 #[.pointer (some ⟨ob, 0, none⟩), .string p, .int .i64 k] w (SpPost w0 ob anc fin s (specialM p[k].toNat ((bytesOf p).drop (k + 1)) s)) := by
  have hR : specialM p[k].toNat ((bytesOf p).drop (k + 1)) s = percentM ((bytesOf p).drop (k + 1)) s := by rw [bytesOf_drop p (k + 1) hn]; unfold specialM; rw [if_neg (by omega), if_pos hc]; simp only []; rw [if_pos (.inl hd)]
  rw [hR]
  have t40 : ((p[k].toNat : Int) == 40) = false := by rw [beq_eq_false_iff_ne]; omega
  have t41 : ((p[k].toNat : Int) == 41) = false := by rw [beq_eq_false_iff_ne]; omega
  have t37 : ((p[k].toNat : Int) != 37) = false := by rw [hc]; rfl
  have t98 : ((p[k + 1].toNat : Int) == 98) = true := by rw [hd]; rfl
  obtain ⟨i14, hi14, hi14a, hi14b, hi14c⟩ := info_parts Tryd.info114
  have h0 : w.cell? ⟨ob, 0, none⟩ = some vi := by rw [cell_of_heap h.hr]; rfl
  have hlt := h.lt
  by_cases h3 : k + 3 < p.size
  · have E := Lib.hid (show percentM ((bytesOf p).drop (k + 1)) s = some (.ok ({ s with items := s.items ++ [⟨4, 0, p[k + 2].toNat, p[k + 3].toNat, noSet, 0⟩] }, 4)) by rw [bytesOf_drop p (k + 1) hn, bytesOf_drop p (k + 1 + 1) (by omega), bytesOf_drop p (k + 1 + 1 + 1) h3]; simp only [percentM, hd, if_true])
    have H := Lib.hid h
    have HV := Lib.hid hv
    clear hR h hv hw hc hd
    go_enter Tryd.func50, Tryd.ntmps50
    go_wp2
    refine wp_region_lex mixed (by kernel_rfl) ?_
    go_wp2_with (at_builtin; refine wpList_append_own_at _ rfl (.tmp 114) (.tmp 124) 64 rfl w0.heap.size 114 i14 _ 6 48 Tryd.underlying64 hi14 hi14a hi14b hi14c rfl (by decide) vi s.items.length (rowR s.items vs) rfl ?_ ⟨_, 0, none⟩ 1 1 [_, _, _, _, _, _] rfl rfl (cells_sixR _ _ _ _ _ _ _ _ _ (by simp)) ?_ ?_ ?_ ?_ ?_)
    · exact ownsRow_ext (below_ext ((Below.refl _ _).alloc (Nat.le_refl _) _).drew (Nat.le_refl _)) H.out.oi
    · intro u hu
      simp only [List.mem_cons, List.not_mem_nil, or_false] at hu
      rcases hu with rfl | rfl | rfl | rfl | rfl | rfl <;> rfl
    · unfold maxLen; omega
    · omega
    · first | (have := H.out.below.size; simp at this ⊢; omega) | (have := H.out.below.size; simp; omega)
    · intro v1 w1 hown hgrow _ hat
      obtain ⟨g1, cap1, rfl⟩ := slice_shape hown (by omega)
      have hr1 := hr_push ((Below.refl _ _).alloc (Nat.le_refl _) _).drew hgrow H.out.hr H.out.five.oa
      have c10 : w1.cell? ⟨ob, 0, none⟩ = some vi := by rw [cell_of_heap hr1]; rfl
      have f10 : w1.frozen? ⟨ob, 0, none⟩ = false := by simp [World.frozen?, hr1]
      have H1 := Lib.hid (H.out.pushItem ((Below.refl _ _).alloc (Nat.le_refl _) _).drew (itemR_plain _ _ _ 4 0 _ _ rfl) hown hgrow (by simpa using hat))
      clear hown hgrow hat hr1
      go_wp2
      refine ⟨by kernel_rfl, ?_⟩
      go_wp2
      go_ret2
      rw [E.out]
      exact sp_ok rfl rfl ⟨_, _, _, _, _, _, H1.out, pinv_items HV.out _⟩
  · have E := Lib.hid (show percentM ((bytesOf p).drop (k + 1)) s = some (.error 4) by
      rw [bytesOf_drop p (k + 1) hn]
      simp only [percentM, hd, if_true]
      by_cases h2 : k + 2 < p.size
      · rw [bytesOf_drop p (k + 1 + 1) h2, bytesOf_end p (k + 1 + 1 + 1) (by omega)]
      · rw [bytesOf_end p (k + 1 + 1) (by omega)])
    have HB := Lib.hid h.below
    clear hR h hv hw hc hd
    go_enter Tryd.func50, Tryd.ntmps50
    go_wp2
    go_ret2
    rw [E.out]
    exact sp_err rfl rfl HB.out
set_option maxRecDepth 100000 in
set_option maxHeartbeats 4000000 in
theorem special_front {w0 w : World} {ob : Nat} {anc fin : Bool} {s : St} {ps : List Bool} {vi vo vc vp : Value} {vs : List Value} (h : PSt w0 ob w anc fin s ps vi vo vc vp vs) (hv : RInv s ps) (hw : Wf s) (p : ByteArray) (k : Nat) (hk : k < p.size) (hp : p.size ≤ 5000) (hi : s.items.length ≤ k) (hc : p[k].toNat = 37) (hn : k + 1 < p.size) (hd : p[k + 1].toNat = 102) :
    Calls Tryd.prog 50 #[.pointer (some ⟨ob, 0, none⟩), .string p, .int .i64 k] w (SpPost w0 ob anc fin s (specialM p[k].toNat ((bytesOf p).drop (k + 1)) s)) := by
  have hR : specialM p[k].toNat ((bytesOf p).drop (k + 1)) s = percentM ((bytesOf p).drop (k + 1)) s := by rw [bytesOf_drop p (k + 1) hn]; unfold specialM; rw [if_neg (by omega), if_pos hc]; simp only []; rw [if_pos (.inr (.inl hd))]
  rw [hR]
  have t40 : ((p[k].toNat : Int) == 40) = false := by rw [beq_eq_false_iff_ne]; omega
  have t41 : ((p[k].toNat : Int) == 41) = false := by rw [beq_eq_false_iff_ne]; omega
  have t37 : ((p[k].toNat : Int) != 37) = false := by rw [hc]; rfl
  have t98 : ((p[k + 1].toNat : Int) == 98) = false := by rw [hd]; rfl
  have t102 : ((p[k + 1].toNat : Int) == 102) = true := by rw [hd]; rfl
  obtain ⟨i14, hi14, hi14a, hi14b, hi14c⟩ := info_parts Tryd.info114
  have h0 : w.cell? ⟨ob, 0, none⟩ = some vi := by rw [cell_of_heap h.hr]; rfl
  have hlt := h.lt
  by_cases h3 : ∃ h2 : k + 2 < p.size, p[k + 2].toNat = 91
  · obtain ⟨h2, h91⟩ := h3
    have t91 : ((p[k + 2].toNat : Int) != 91) = false := by rw [h91]; rfl
    have hpm : percentM ((bytesOf p).drop (k + 1)) s = match setM ((bytesOf p).drop (k + 3)) with | none => some (.error 4) | some q => some (.ok ({ s with items := s.items ++ [⟨5, 0, 0, 0, q.1, 0⟩] }, ((bytesOf p).drop (k + 1)).length + 1 - q.2.length)) := by
      conv => lhs; rw [bytesOf_drop p (k + 1) hn, bytesOf_drop p (k + 1 + 1) h2]
      conv => rhs; rw [bytesOf_drop p (k + 1) hn, bytesOf_drop p (k + 1 + 1) h2]
      simp only [percentM, hd, h91, if_true]
      rw [if_neg (by decide)]
      rfl
    obtain ⟨R, hRR⟩ : ∃ R, R = percentM ((bytesOf p).drop (k + 1)) s := ⟨_, rfl⟩
    rw [← hRR]
    have HR := Lib.hid (hRR.trans hpm)
    have H := Lib.hid h
    have HV := Lib.hid hv
    have RS := Lib.hid (readSet_c p ((k : Int) + 2) (k + 2) (by omega) h2 hp w)
    clear hR h hv hw hc hd h91 hpm hRR
    go_enter Tryd.func50, Tryd.ntmps50
    go_wp2_with fail
    refine RS.out.mono ?_
    rintro e w2 ⟨hb, hq⟩
    have hl := @setM_len p k
    cases hs : setM ((bytesOf p).drop (k + 3)) with
    | none =>
      have hs' : setM ((bytesOf p).drop (k + 2 + 1)) = none := hs
      rw [hs'] at hq
      obtain rfl := hq
      have HB := Lib.hid (H.out.below.trans (hb.mono H.out.below.size))
      have HE := Lib.hid (show R = some (.error 4) by rw [HR.out, hs])
      clear hb hs hs' hl
      go_wp2
      go_ret2
      exact sp_err HE.out rfl HB.out
    | some q =>
      obtain ⟨S, rest⟩ := q
      have hs' : setM ((bytesOf p).drop (k + 2 + 1)) = some (S, rest) := hs
      rw [hs'] at hq
      obtain ⟨rfl, hset⟩ := hq
      have hlen := hl hs h2
      simp only at hlen
      have H2 := Lib.hid (H.out.grow hb)
      have HM := Lib.hid (show ((p.size - rest.length : Nat) : Int) - (k : Int) = ((((bytesOf p).drop (k + 1)).length + 1 - rest.length : Nat) : Int) by rw [List.length_drop, bytesOf_length]; omega)
      have HIT := Lib.hid (show ItemR w2 w0.heap.size (MutR ob vi vo vc vp) ⟨5, 0, 0, 0, S, 0⟩ (.slice (some ⟨w.heap.size, 0, none⟩) 256 256) from by
        unfold ItemR
        rw [if_pos (show Item.sets _ = true from rfl)]
        refine ⟨_, rfl, H.out.below.size, fun hm => ?_, hset⟩
        rcases hm with e | e | e | e | e
        · have := H.out.lt; omega
        · have := (ownBlock_lt H.out.oi e).2; omega
        · have := (ownBlock_lt H.out.oo e).2; omega
        · have := (ownBlock_lt H.out.oc e).2; omega
        · have := (ownBlock_lt H.out.op e).2; omega)
      have hc2 : w2.cell? ⟨ob, 0, none⟩ = some vi := by rw [cell_of_heap H2.out.hr]; rfl
      have hlt2 := H2.out.lt
      obtain ⟨N, hN⟩ : ∃ N : Nat, N = p.size - rest.length := ⟨_, rfl⟩
      have hN1 : N ≤ p.size := by omega
      have hN2 : k + 3 ≤ N := by omega
      rw [← hN] at HM ⊢
      have HE := Lib.hid (show R = some (.ok ({ s with items := s.items ++ [⟨5, 0, 0, 0, S, 0⟩] }, ((bytesOf p).drop (k + 1)).length + 1 - rest.length)) by rw [HR.out, hs])
      clear hb hset hs hs' hl hlen hN
      go_wp2_with (at_builtin; refine wpList_append_own_at _ rfl (.tmp 157) (.tmp 160) 64 rfl w0.heap.size 114 i14 _ 6 48 Tryd.underlying64 hi14 hi14a hi14b hi14c rfl (by decide) vi s.items.length (rowR s.items vs) rfl ?_ ⟨_, 0, none⟩ 1 1 [_, _, _, _, _, _] rfl rfl (cells_sixR _ _ _ _ _ _ _ _ _ (by simp)) ?_ ?_ ?_ ?_ ?_)
      · exact ownsRow_ext (below_ext ((Below.refl _ _).alloc (Nat.le_refl _) _) (Nat.le_refl _)) H2.out.oi
      · intro u hu
        simp only [List.mem_cons, List.not_mem_nil, or_false] at hu
        rcases hu with rfl | rfl | rfl | rfl | rfl | rfl <;> rfl
      · unfold maxLen; omega
      · omega
      · first | (have := H2.out.below.size; simp at this ⊢; omega) | (have := H2.out.below.size; simp; omega)
      · intro v1 w1 hown hgrow _ hat
        obtain ⟨g1, cap1, rfl⟩ := slice_shape hown (by omega)
        have hr1 := hr_push ((Below.refl _ _).alloc (Nat.le_refl _) _) hgrow H2.out.hr H2.out.five.oa
        have c10 : w1.cell? ⟨ob, 0, none⟩ = some vi := by rw [cell_of_heap hr1]; rfl
        have f10 : w1.frozen? ⟨ob, 0, none⟩ = false := by simp [World.frozen?, hr1]
        have H1 := Lib.hid (H2.out.pushItem ((Below.refl _ _).alloc (Nat.le_refl _) _) HIT.out hown hgrow (by simpa using hat))
        clear hown hgrow hat hr1
        go_wp2
        go_ret2
        exact sp_ok HE.out HM.out ⟨_, _, _, _, _, _, H1.out, pinv_items HV.out _⟩
  · have E := Lib.hid (show percentM ((bytesOf p).drop (k + 1)) s = some (.error 4) by
      rw [bytesOf_drop p (k + 1) hn]
      by_cases h2 : k + 2 < p.size
      · rw [bytesOf_drop p (k + 1 + 1) h2]
        simp only [percentM, hd, if_true]
        rw [if_neg (by decide), if_neg (fun e => h3 ⟨h2, e⟩)]
      · rw [bytesOf_end p (k + 1 + 1) (by omega)]
        simp only [percentM, hd, if_true]
        rw [if_neg (by decide)])
    have hways : p.size ≤ k + 2 ∨ (∃ h2 : k + 2 < p.size, ((p[k + 2].toNat : Int) != 91) = true) := by
      by_cases h2 : k + 2 < p.size
      · exact .inr ⟨h2, by rw [bne_iff_ne]; intro e; exact h3 ⟨h2, by omega⟩⟩
      · exact .inl (by omega)
    have HB := Lib.hid h.below
    clear hR h hv hw hc hd h3
    rcases hways with h2 | ⟨h2, t91⟩
    all_goals
      go_enter Tryd.func50, Tryd.ntmps50
      go_wp2
      go_ret2
      rw [E.out]
      exact sp_err rfl rfl HB.out
set_option maxRecDepth 100000 in
set_option maxHeartbeats 4000000 in
theorem special_back {w0 w : World} {ob : Nat} {anc fin : Bool} {s : St} {ps : List Bool} {vi vo vc vp : Value} {vs : List Value} (h : PSt w0 ob w anc fin s ps vi vo vc vp vs) (hv : RInv s ps) (hw : Wf s) (p : ByteArray) (k : Nat) (hk : k < p.size) (hp : p.size ≤ 5000) (hi : s.items.length ≤ k) (hc : p[k].toNat = 37) (hn : k + 1 < p.size) (hd1 : 49 ≤ p[k + 1].toNat) (hd2 : p[k + 1].toNat ≤ 57) :
    Calls Tryd.prog 50 #[.pointer (some ⟨ob, 0, none⟩), .string p, .int .i64 k] w (SpPost w0 ob anc fin s (specialM p[k].toNat ((bytesOf p).drop (k + 1)) s)) := by
  have hR : specialM p[k].toNat ((bytesOf p).drop (k + 1)) s = percentM ((bytesOf p).drop (k + 1)) s := by rw [bytesOf_drop p (k + 1) hn]; unfold specialM; rw [if_neg (by omega), if_pos hc]; simp only []; rw [if_pos (.inr (.inr ⟨hd1, hd2⟩))]
  rw [hR]
  have t40 : ((p[k].toNat : Int) == 40) = false := by rw [beq_eq_false_iff_ne]; omega
  have t41 : ((p[k].toNat : Int) == 41) = false := by rw [beq_eq_false_iff_ne]; omega
  have t37 : ((p[k].toNat : Int) != 37) = false := by rw [hc]; rfl
  have t98 : ((p[k + 1].toNat : Int) == 98) = false := by rw [beq_eq_false_iff_ne]; omega
  have t102 : ((p[k + 1].toNat : Int) == 102) = false := by rw [beq_eq_false_iff_ne]; omega
  obtain ⟨i14, hi14, hi14a, hi14b, hi14c⟩ := info_parts Tryd.info114
  have h0 : w.cell? ⟨ob, 0, none⟩ = some vi := by rw [cell_of_heap h.hr]; rfl
  have h3 : w.cell? ⟨ob, 3, none⟩ = some (.int .i64 s.caps) := by rw [cell_of_heap h.hr]; rfl
  have h5 : w.cell? ⟨ob, 5, none⟩ = some vc := by rw [cell_of_heap h.hr]; rfl
  have h6 : w.cell? ⟨ob, 6, none⟩ = some vp := by rw [cell_of_heap h.hr]; rfl
  have hlt := h.lt
  have c16 := hw.c16
  have hpm : percentM ((bytesOf p).drop (k + 1)) s = if s.ended.getD (p[k + 1].toNat - 49) false = false then some (.error 4) else some (.ok ({ s with items := s.items ++ [mkItem 6 (p[k + 1].toNat - 49)] }, 2)) := by
    rw [bytesOf_drop p (k + 1) hn]
    simp only [percentM]
    rw [if_neg (by omega), if_neg (by omega), if_pos (by simp [isDigit]; omega)]
    by_cases e : s.ended.getD (p[k + 1].toNat - 49) false = false
    · rw [if_pos (.inr e), if_pos e]
    · rw [if_neg (by rintro (h | h); omega; exact e h), if_neg e]
  rw [hpm]
  obtain ⟨d, hd⟩ : ∃ d, p[k + 1].toNat = d + 49 := ⟨p[k + 1].toNat - 49, by omega⟩
  rw [show p[k + 1].toNat - 49 = d by omega]
  have hel := hw.el
  have hpl := hv.len
  by_cases hin : d < s.caps
  · obtain ⟨ge, ce, rfl⟩ := slice_shape h.oc (by omega)
    obtain ⟨gp, cp, rfl⟩ := slice_shape h.op (by omega)
    have k1 : w.cell? ⟨ge, d, none⟩ = some (.bool (s.ended.getD d false)) := by rw [h.oc.cellAt d (by omega)]; simp [List.getD_eq_getElem?_getD, show d < s.ended.length by omega]
    have k2 : w.cell? ⟨gp, d, none⟩ = some (.bool (ps.getD d false)) := by rw [h.op.cellAt d (by omega)]; simp [List.getD_eq_getElem?_getD, show d < ps.length by omega]
    have hel2 : s.caps ≤ s.ended.length := by omega
    have hel3 : s.ended.length ≤ 16 := by omega
    have hpl2 : s.caps ≤ ps.length := by omega
    have hpl3 : ps.length ≤ 16 := by omega
    have hb := UInt8.toNat_lt p[k + 1]
    have hdd : ((p[k + 1].toNat : Int) - 49) = (d : Int) := by omega
    have HDD := Lib.hid hdd
    have hdl : d ≤ 8 := by omega
    obtain ⟨x, hx⟩ : ∃ x : Nat, x = p[k + 1].toNat := ⟨_, rfl⟩
    cases he : s.ended.getD d false with
    | false =>
      rw [he] at k1
      rw [if_pos rfl]
      have HB := Lib.hid h.below
      clear hR h hv hw hc hpm he hel hpl hdd hx
      have hle : ¬ (s.caps : Int) ≤ (p[k + 1].toNat : Int) - 49 := by omega
      have k1' : w.cell? ⟨ge, p[k + 1].toNat - 49, none⟩ = some (.bool false) := by rw [hd]; exact k1
      clear hd k1
      go_enter Tryd.func50, Tryd.ntmps50
      go_wp2
      go_ret2
      exact sp_err rfl rfl HB.out
    | true =>
      rw [he] at k1
      rw [if_neg (by decide)]
      have hps : ps.getD d false = false := by
        cases hq : ps.getD d false with
        | false => rfl
        | true => rw [(hv.pos d hq).1] at he; cases he
      rw [hps] at k2
      have H := Lib.hid h
      have HV := Lib.hid hv
      clear hR h hv hw hc hpm he hel hpl hdd hx hps
      have hle : ¬ (s.caps : Int) ≤ (p[k + 1].toNat : Int) - 49 := by omega
      have k1' : w.cell? ⟨ge, p[k + 1].toNat - 49, none⟩ = some (.bool true) := by rw [hd]; exact k1
      have k2' : w.cell? ⟨gp, p[k + 1].toNat - 49, none⟩ = some (.bool false) := by rw [hd]; exact k2
      have HD := Lib.hid hd
      clear hd k1 k2
      go_enter Tryd.func50, Tryd.ntmps50
      go_wp2_with (at_builtin; refine wpList_append_own_at _ rfl (.tmp 206) (.tmp 209) 64 rfl w0.heap.size 114 i14 _ 6 48 Tryd.underlying64 hi14 hi14a hi14b hi14c rfl (by decide) vi s.items.length (rowR s.items vs) rfl ?_ ⟨_, 0, none⟩ 1 1 [_, _, _, _, _, _] rfl rfl (cells_sixR _ _ _ _ _ _ _ _ _ (by simp)) ?_ ?_ ?_ ?_ ?_)
      · exact ownsRow_ext (below_ext ((Below.refl _ _).alloc (Nat.le_refl _) _) (Nat.le_refl _)) H.out.oi
      · intro u hu
        simp only [List.mem_cons, List.not_mem_nil, or_false] at hu
        rcases hu with rfl | rfl | rfl | rfl | rfl | rfl <;> rfl
      · unfold maxLen; omega
      · omega
      · first | (have := H.out.below.size; simp at this ⊢; omega) | (have := H.out.below.size; simp; omega)
      · intro v1 w1 hown hgrow _ hat
        obtain ⟨g1, cap1, rfl⟩ := slice_shape hown (by omega)
        have hr1 := hr_push ((Below.refl _ _).alloc (Nat.le_refl _) _) hgrow H.out.hr H.out.five.oa
        have c10 : w1.cell? ⟨ob, 0, none⟩ = some vi := by rw [cell_of_heap hr1]; rfl
        have f10 : w1.frozen? ⟨ob, 0, none⟩ = false := by simp [World.frozen?, hr1]
        rw [HDD.out] at hown
        have H1 := Lib.hid (H.out.pushItem ((Below.refl _ _).alloc (Nat.le_refl _) _) (itemR_plain _ _ _ 6 d 0 0 rfl) hown hgrow (by simpa using hat))
        clear hown hgrow hat hr1
        go_wp2
        go_ret2
        exact sp_ok rfl rfl ⟨_, _, _, _, _, _, H1.out, pinv_items HV.out _⟩
  · have he : s.ended.getD d false = false := by rw [List.getD_eq_getElem?_getD, List.getElem?_eq_none (by omega)]; rfl
    rw [if_pos he]
    have HB := Lib.hid h.below
    have hle : (s.caps : Int) ≤ (p[k + 1].toNat : Int) - 49 := by omega
    have hb := UInt8.toNat_lt p[k + 1]
    clear hR h hv hw hc hpm he hel hpl hd
    go_enter Tryd.func50, Tryd.ntmps50
    go_wp2
    go_ret2
    exact sp_err rfl rfl HB.out
theorem special_c {w0 w : World} {ob : Nat} {anc fin : Bool} {s : St} {ps : List Bool} {vi vo vc vp : Value} {vs : List Value} (h : PSt w0 ob w anc fin s ps vi vo vc vp vs) (hv : RInv s ps) (hw : Wf s) (p : ByteArray) (k : Nat) (hk : k < p.size) (hp : p.size ≤ 5000) (hi : s.items.length ≤ k) : Calls Tryd.prog 50 #[.pointer (some ⟨ob, 0, none⟩), .string p, .int .i64 k] w (SpPost w0 ob anc fin s (specialM p[k].toNat ((bytesOf p).drop (k + 1)) s)) := by
  by_cases h1 : p[k].toNat = 40
  · exact special_open h hv hw p k hk hp hi h1
  · by_cases h2 : p[k].toNat = 41
    · exact special_shut h hv hw p k hk hp hi h2
    · by_cases h3 : p[k].toNat = 37
      · by_cases h4 : k + 1 < p.size
        · by_cases h5 : p[k + 1].toNat = 98
          · exact special_bal h hv hw p k hk hp hi h3 h4 h5
          · by_cases h6 : p[k + 1].toNat = 102
            · exact special_front h hv hw p k hk hp hi h3 h4 h6
            · by_cases h7 : 49 ≤ p[k + 1].toNat ∧ p[k + 1].toNat ≤ 57
              · exact special_back h hv hw p k hk hp hi h3 h4 h7.1 h7.2
              · exact special_none h hv hw p k hk hp hi h3 h4 h5 h6 h7
        · exact special_last h hv hw p k hk hp hi h3 h4
      · exact special_other h hv hw p k hk hp hi h1 h2 h3
end Go.Proofs.YtpbhncmaamedhaaDoor
