import Derived.Test.YtpbhncmaamedhaaDoorBracket
namespace Go.Proofs.YtpbhncmaamedhaaDoor
open Go.RowKit Go.Proofs.Lexi

/-- What follows a set is shorter. -/
theorem setGo_len : ∀ (n : Nat) (f : Bool) (r : List Nat) (acc : List (Nat → Bool)) (q : List (Nat → Bool) × List Nat), r.length ≤ n → setGo f r acc = some q → q.2.length + 1 ≤ r.length
  | _, f, [], acc, q, _, h => by simp [setGo] at h
  | 0, f, c :: r, acc, q, hn, h => by simp at hn
  | n + 1, f, c :: r, acc, q, hn, h => by
    rw [setGo_cons] at h
    simp only [List.length_cons] at hn ⊢
    split at h
    · injection h with h; subst h; simp
    · split at h
      · split at h
        · cases h
        · rename_i d r2
          split at h
          · cases h
          · have := setGo_len n _ _ _ _ (by simp at hn; omega) h; simp; omega
      · split at h
        · rename_i d y r3
          split at h
          · have := setGo_len n _ _ _ _ (by simp at hn; omega) h; simp; omega
          · have := setGo_len n _ _ _ _ (Nat.le_of_succ_le_succ hn) h; simp only [List.length_cons] at this ⊢; omega
        · have := setGo_len n _ _ _ _ (Nat.le_of_succ_le_succ hn) h; simp only [List.length_cons, List.length_nil] at this ⊢; omega
        · simp [setGo] at h
theorem setM_len' {r : List Nat} {q : (Nat → Bool) × List Nat} (h : setM r = some q) : q.2.length + 1 ≤ r.length := by
  unfold setM at h
  split at h
  · cases h
  · split at h
    · obtain ⟨q', h1, rfl⟩ := Option.map_eq_some_iff.1 h
      have := setGo_len _ _ _ _ _ (Nat.le_refl _) h1; simp; omega
    · obtain ⟨q', h1, rfl⟩ := Option.map_eq_some_iff.1 h
      have := setGo_len _ _ _ _ _ (Nat.le_refl _) h1; simpa using this
theorem setM_len {p : ByteArray} {k : Nat} {q : (Nat → Bool) × List Nat} (h : setM ((bytesOf p).drop (k + 3)) = some q) (hk : k + 2 < p.size) : q.2.length + k + 3 ≤ p.size := by
  have := setM_len' h
  rw [List.length_drop, bytesOf_length] at this
  omega
theorem set_i (p : ByteArray) (a : Int) (k : Nat) (ha : a = k) (hk : k < p.size) (hp : p.size ≤ 5000) (w : World) : Calls Tryd.prog 61 #[.string p, .int .i64 a] w (SetPost w p k) := by
  subst ha; exact set_c p k hk hp w
theorem itemOK_set {w : World} {A : Nat} {M : Nat → Prop} {it : Item} {v : Value} (lo hi : Nat) (hs : it.sets = true) (h1 : A ≤ lo) (h2 : hi ≤ w.heap.size) (h3 : ∀ b, lo ≤ b → b < hi → ¬ M b) (h4 : IsSet w lo hi v it.one) : ItemOK w A M it v := by
  unfold ItemOK
  rw [if_pos hs]
  exact ⟨lo, hi, h1, h2, h3, h4⟩
theorem digit_i (a : Int) (c : Nat) (ha : a = c) (w : World) : Calls Tryd.prog 43 #[.int .u8 a] w fun e w' => e = .returned (.bool (isDigit c)) ∧ w = w' := by
  subst ha; exact digit_c c w

def percentM (r : List Nat) (s : St) : Option (Except Nat (St × Nat)) :=
  match r with
  | [] => some (.error 4)
  | d :: r1 =>
    if d = 98 then
      match r1 with
      | x :: y :: _ => some (.ok ({ s with items := s.items ++ [⟨4, 0, x, y, noSet, 0⟩] }, 4))
      | _ => some (.error 4)
    else if d = 102 then
      match r1 with
      | b :: r2 => if b = 91 then
          match setM r2 with
          | none => some (.error 4)
          | some q => some (.ok ({ s with items := s.items ++ [⟨5, 0, 0, 0, q.1, 0⟩] }, r.length + 1 - q.2.length))
        else some (.error 4)
      | [] => some (.error 4)
    else if isDigit d then
      if d = 48 ∨ s.ended.getD (d - 49) false = false then some (.error 4)
      else some (.ok ({ s with items := s.items ++ [mkItem 6 (d - 49)] }, 2))
    else none

def PctPost (w0 : World) (rb : Nat) (p : ByteArray) (at_ : Nat) (anc fin : Bool) (s : St) (R : Option (Except Nat (St × Nat))) (e : Ending) (w' : World) : Prop :=
  match R with
  | none => e = .returned (.tuple #[.bool false, .int .i64 0]) ∧ RPost w0 rb p at_ anc fin s w'
  | some (.error c) => e = .returned (.tuple #[.bool true, .int .i64 c]) ∧ Below w0.heap.size w0 w'
  | some (.ok (s', m)) => e = .returned (.tuple #[.bool true, .int .i64 0]) ∧ RPost w0 rb p (at_ + m) anc fin s' w'
theorem pct_err {w0 : World} {rb : Nat} {p : ByteArray} {at_ : Nat} {anc fin : Bool} {s : St} {R : Option (Except Nat (St × Nat))} {w' : World} {c : Nat} (hR : R = some (.error c)) (hb : Below w0.heap.size w0 w') : PctPost w0 rb p at_ anc fin s R (.returned (.tuple #[.bool true, .int .i64 c])) w' := by
  subst hR; exact ⟨rfl, hb⟩
theorem pct_ok {w0 : World} {rb : Nat} {p : ByteArray} {at_ : Nat} {anc fin : Bool} {s s' : St} {R : Option (Except Nat (St × Nat))} {w' : World} {m : Nat} (hR : R = some (.ok (s', m))) (hb : RPost w0 rb p (at_ + m) anc fin s' w') : PctPost w0 rb p at_ anc fin s R (.returned (.tuple #[.bool true, .int .i64 0])) w' := by
  subst hR; exact ⟨rfl, hb⟩
theorem pct_no {w0 : World} {rb : Nat} {p : ByteArray} {at_ : Nat} {anc fin : Bool} {s : St} {R : Option (Except Nat (St × Nat))} {w' : World} (hR : R = none) (hb : RPost w0 rb p at_ anc fin s w') : PctPost w0 rb p at_ anc fin s R (.returned (.tuple #[.bool false, .int .i64 0])) w' := by
  subst hR; exact ⟨rfl, hb⟩

set_option maxRecDepth 100000 in
set_option maxHeartbeats 2000000 in
theorem pct_0 {w0 w : World} {rb : Nat} {p : ByteArray} {at_ : Nat} {anc fin : Bool} {s : St} {vo ve vi : Value} {vs : List Value} (h : RSt w0 rb w p at_ anc fin s vo ve vi vs) (hw : Wf s) (hat : at_ < p.size) (_hp : p.size ≤ 5000) (_hi : s.items.length ≤ at_) (hn : ¬ at_ + 1 < p.size) :
    Calls Tryd.prog 48 #[.pointer (some ⟨rb, 0, none⟩)] w (PctPost w0 rb p at_ anc fin s (percentM ((bytesOf p).drop (at_ + 1)) s)) := by
  have h0 : w.cell? ⟨rb, 0, none⟩ = some (.string p) := by rw [cell_of_heap h.hr]; rfl
  have h1 : w.cell? ⟨rb, 1, none⟩ = some (.int .i64 at_) := by rw [cell_of_heap h.hr]; rfl
  have h3 : w.cell? ⟨rb, 3, none⟩ = some ve := by rw [cell_of_heap h.hr]; rfl
  have hrb := h.rb1
  have H := Lib.hid h
  have HW := Lib.hid hw
  clear h hw
  have ER := Lib.hid (show percentM ((bytesOf p).drop (at_ + 1)) s = some (.error 4) by rw [bytesOf_end p (at_ + 1) (by omega)]; rfl)
  go_enter Tryd.func48, Tryd.ntmps48
  go_wp2
  refine wp_region_lex mixed (by kernel_rfl) ?_
  go_wp2
  refine ⟨by kernel_rfl, ?_⟩
  go_wp2
  go_ret2
  exact pct_err ER.out H.out.drew.below
set_option maxRecDepth 100000 in
set_option maxHeartbeats 2000000 in
theorem pct_b {w0 w : World} {rb : Nat} {p : ByteArray} {at_ : Nat} {anc fin : Bool} {s : St} {vo ve vi : Value} {vs : List Value} (h : RSt w0 rb w p at_ anc fin s vo ve vi vs) (hw : Wf s) (_hat : at_ < p.size) (hp : p.size ≤ 5000) (hi : s.items.length ≤ at_) (hn : at_ + 1 < p.size) (hd : p[at_ + 1].toNat = 98) :
    Calls Tryd.prog 48 #[.pointer (some ⟨rb, 0, none⟩)] w (PctPost w0 rb p at_ anc fin s (percentM ((bytesOf p).drop (at_ + 1)) s)) := by
  have h0 : w.cell? ⟨rb, 0, none⟩ = some (.string p) := by rw [cell_of_heap h.hr]; rfl
  have h1 : w.cell? ⟨rb, 1, none⟩ = some (.int .i64 at_) := by rw [cell_of_heap h.hr]; rfl
  have h3 : w.cell? ⟨rb, 3, none⟩ = some ve := by rw [cell_of_heap h.hr]; rfl
  have hrb := h.rb1
  have H := Lib.hid h
  have HW := Lib.hid hw
  clear h hw
  have hbd := bytesOf_drop p (at_ + 1) hn
  rw [hd] at hbd
  have t98 : ((p[at_ + 1].toNat : Int) == 98) = true := by rw [hd]; rfl
  clear hd
  by_cases h4 : at_ + 3 < p.size
  · have ER := Lib.hid (show percentM ((bytesOf p).drop (at_ + 1)) s = some (.ok ({ s with items := s.items ++ [⟨4, 0, p[at_ + 2].toNat, p[at_ + 3].toNat, noSet, 0⟩] }, 4)) by rw [hbd, bytesOf_drop p (at_ + 1 + 1) (by omega), bytesOf_drop p (at_ + 1 + 1 + 1) h4]; rfl)
    clear hbd
    go_enter Tryd.func48, Tryd.ntmps48
    go_wp2
    refine wp_region_lex mixed (by kernel_rfl) ?_
    go_wp2
    refine ⟨by kernel_rfl, ?_⟩
    go_wp2
    refine wp_region_lex mixed (by kernel_rfl) ?_
    go_wp2
    refine ⟨by kernel_rfl, ?_⟩
    go_wp2
    refine wp_region_lex mixed (by kernel_rfl) ?_
    go_wp2_with fail
    refine (add_c H.out.drew.drew.drew ⟨4, 0, p[at_ + 2].toNat, p[at_ + 3].toNat, noSet, 0⟩ .nilFunc (itemOK_plain _ _ _ _ _ _ _ rfl) (.inl rfl) 4 4 rfl (by omega) (by omega)).mono ?_
    rintro e w1 ⟨rfl, HR⟩
    have HR := Lib.hid HR
    go_wp2
    refine ⟨by kernel_rfl, ?_⟩
    go_wp2
    go_ret2
    exact pct_ok ER.out HR.out
  · have ER := Lib.hid (show percentM ((bytesOf p).drop (at_ + 1)) s = some (.error 4) by
      rw [hbd]
      by_cases h2 : at_ + 2 < p.size
      · rw [bytesOf_drop p (at_ + 1 + 1) h2, bytesOf_end p (at_ + 1 + 1 + 1) (by omega)]; rfl
      · rw [bytesOf_end p (at_ + 1 + 1) (by omega)]; rfl)
    clear hbd
    go_enter Tryd.func48, Tryd.ntmps48
    go_wp2
    refine wp_region_lex mixed (by kernel_rfl) ?_
    go_wp2
    refine ⟨by kernel_rfl, ?_⟩
    go_wp2
    refine wp_region_lex mixed (by kernel_rfl) ?_
    go_wp2
    refine ⟨by kernel_rfl, ?_⟩
    go_wp2
    go_ret2
    exact pct_err ER.out H.out.drew.drew.below
set_option maxRecDepth 100000 in
set_option maxHeartbeats 2000000 in
theorem pct_f {w0 w : World} {rb : Nat} {p : ByteArray} {at_ : Nat} {anc fin : Bool} {s : St} {vo ve vi : Value} {vs : List Value} (h : RSt w0 rb w p at_ anc fin s vo ve vi vs) (hw : Wf s) (_hat : at_ < p.size) (hp : p.size ≤ 5000) (hi : s.items.length ≤ at_) (hn : at_ + 1 < p.size) (hd : p[at_ + 1].toNat = 102) :
    Calls Tryd.prog 48 #[.pointer (some ⟨rb, 0, none⟩)] w (PctPost w0 rb p at_ anc fin s (percentM ((bytesOf p).drop (at_ + 1)) s)) := by
  have h0 : w.cell? ⟨rb, 0, none⟩ = some (.string p) := by rw [cell_of_heap h.hr]; rfl
  have h1 : w.cell? ⟨rb, 1, none⟩ = some (.int .i64 at_) := by rw [cell_of_heap h.hr]; rfl
  have h3 : w.cell? ⟨rb, 3, none⟩ = some ve := by rw [cell_of_heap h.hr]; rfl
  have hrb := h.rb1
  have H := Lib.hid h
  have HW := Lib.hid hw
  clear h hw
  have hbd := bytesOf_drop p (at_ + 1) hn
  rw [hd] at hbd
  have t98 : ((p[at_ + 1].toNat : Int) == 98) = false := by rw [hd]; rfl
  have t102 : ((p[at_ + 1].toNat : Int) == 102) = true := by rw [hd]; rfl
  clear hd
  by_cases h2 : at_ + 2 < p.size
  · have hg3 : decide ((p.size : Int) - (at_ : Int) < 3) = false := by simp; omega
    by_cases h91 : p[at_ + 2].toNat = 91
    · have hlen : ((bytesOf p).drop (at_ + 1)).length + 1 = p.size - at_ := by rw [List.length_drop, bytesOf_length]; omega
      have t91 : ((p[at_ + 2].toNat : Int) != 91) = false := by rw [h91]; rfl
      have hpm : percentM ((bytesOf p).drop (at_ + 1)) s = match setM ((bytesOf p).drop (at_ + 3)) with | none => some (.error 4) | some q => some (.ok ({ s with items := s.items ++ [⟨5, 0, 0, 0, q.1, 0⟩] }, p.size - at_ - q.2.length)) := by
        rw [← hlen, hbd, bytesOf_drop p (at_ + 1 + 1) h2, h91]; rfl
      have HPM := Lib.hid hpm
      clear hpm hlen hbd h91
      go_enter Tryd.func48, Tryd.ntmps48
      go_wp2
      refine wp_region_lex mixed (by kernel_rfl) ?_
      go_wp2
      refine ⟨by kernel_rfl, ?_⟩
      go_wp2
      refine wp_region_lex mixed (by kernel_rfl) ?_
      go_wp2
      refine ⟨by kernel_rfl, ?_⟩
      go_wp2
      refine wp_region_lex mixed (by kernel_rfl) ?_
      go_wp2
      refine ⟨by kernel_rfl, ?_⟩
      go_wp2
      refine wp_region_lex mixed (by kernel_rfl) ?_
      go_wp2_with fail
      refine (set_i p _ (at_ + 2) (by omega) h2 hp _).mono ?_
      rintro e w1 ⟨hbel, hm⟩
      have hRg := (H.out.drew.drew.drew.drew).grow hbel
      cases hset : setM ((bytesOf p).drop (at_ + 3)) with
      | none =>
        rw [hset] at hm
        obtain rfl := hm
        have ER := Lib.hid (HPM.out.trans (by rw [hset]))
        have HB := Lib.hid hRg.below
        clear hset hRg hbel
        go_wp2
        refine ⟨by kernel_rfl, ?_⟩
        go_wp2
        go_ret2
        exact pct_err ER.out HB.out
      | some q =>
        rw [hset] at hm
        obtain ⟨v, rfl, hv⟩ := hm
        have ER := Lib.hid (HPM.out.trans (by rw [hset]))
        obtain ⟨f, caps, rfl, _, _⟩ := hv w1 (fun _ _ _ => rfl)
        have hs0 := H.out.below.size
        have hs1 := hbel.size
        have hgw : w.heap.size ≤ w1.heap.size := hs1
        have HR1 := Lib.hid hRg
        have hit : ItemOK w1 w0.heap.size (Mut rb vo ve vi) ⟨5, 0, 0, 0, q.1, 0⟩ (.func (.func f) #[] caps) := by
          refine itemOK_set w.heap.size w1.heap.size rfl hs0 (Nat.le_refl _) (fun b hb hb' hm => ?_) hv
          rcases hm with e | e | e | e
          · omega
          · have := (ownBlock_lt H.out.oo e).2; omega
          · have := (ownBlock_lt H.out.oe e).2; omega
          · have := (ownBlock_lt H.out.oi e).2; omega
        have HIT := Lib.hid hit
        have g1 : w1.cell? ⟨rb, 1, none⟩ = some (.int .i64 at_) := by rw [cell_of_heap hRg.hr]; rfl
        have hle : q.2.length + at_ + 3 ≤ p.size := setM_len hset h2
        clear hset hRg hbel hv hit
        go_wp2
        refine ⟨by kernel_rfl, ?_⟩
        go_wp2_with fail
        refine (add_c HR1.out ⟨5, 0, 0, 0, q.1, 0⟩ (.func (.func f) #[] caps) HIT.out (.inr ⟨_, _, rfl⟩) _ (p.size - at_ - q.2.length) (by omega) (by omega) (by omega)).mono ?_
        rintro e w2 ⟨rfl, HR⟩
        have HR := Lib.hid HR
        go_wp2
        go_ret2
        exact pct_ok ER.out HR.out
    · have t91 : ((p[at_ + 2].toNat : Int) != 91) = true := by rw [bne_iff_ne]; omega
      have ER := Lib.hid (show percentM ((bytesOf p).drop (at_ + 1)) s = some (.error 4) by rw [hbd, bytesOf_drop p (at_ + 1 + 1) h2]; simp [percentM, h91])
      clear hbd h91
      go_enter Tryd.func48, Tryd.ntmps48
      go_wp2
      refine wp_region_lex mixed (by kernel_rfl) ?_
      go_wp2
      refine ⟨by kernel_rfl, ?_⟩
      go_wp2
      refine wp_region_lex mixed (by kernel_rfl) ?_
      go_wp2
      refine ⟨by kernel_rfl, ?_⟩
      go_wp2
      refine wp_region_lex mixed (by kernel_rfl) ?_
      go_wp2
      refine ⟨by kernel_rfl, ?_⟩
      go_wp2
      go_ret2
      exact pct_err ER.out H.out.drew.drew.drew.below
  · have hg3 : decide ((p.size : Int) - (at_ : Int) < 3) = true := by simp; omega
    have ER := Lib.hid (show percentM ((bytesOf p).drop (at_ + 1)) s = some (.error 4) by rw [hbd, bytesOf_end p (at_ + 1 + 1) (by omega)]; rfl)
    clear hbd
    go_enter Tryd.func48, Tryd.ntmps48
    go_wp2
    refine wp_region_lex mixed (by kernel_rfl) ?_
    go_wp2
    refine ⟨by kernel_rfl, ?_⟩
    go_wp2
    refine wp_region_lex mixed (by kernel_rfl) ?_
    go_wp2
    refine ⟨by kernel_rfl, ?_⟩
    go_wp2
    refine wp_region_lex mixed (by kernel_rfl) ?_
    go_wp2
    refine ⟨by kernel_rfl, ?_⟩
    go_wp2
    go_ret2
    exact pct_err ER.out H.out.drew.drew.drew.below
set_option maxRecDepth 100000 in
set_option maxHeartbeats 2000000 in
theorem pct_d {w0 w : World} {rb : Nat} {p : ByteArray} {at_ : Nat} {anc fin : Bool} {s : St} {vo ve vi : Value} {vs : List Value} (h : RSt w0 rb w p at_ anc fin s vo ve vi vs) (hw : Wf s) (_hat : at_ < p.size) (hp : p.size ≤ 5000) (hi : s.items.length ≤ at_) (hn : at_ + 1 < p.size) (h98 : ¬ p[at_ + 1].toNat = 98) (h102 : ¬ p[at_ + 1].toNat = 102) :
    Calls Tryd.prog 48 #[.pointer (some ⟨rb, 0, none⟩)] w (PctPost w0 rb p at_ anc fin s (percentM ((bytesOf p).drop (at_ + 1)) s)) := by
  have h0 : w.cell? ⟨rb, 0, none⟩ = some (.string p) := by rw [cell_of_heap h.hr]; rfl
  have h1 : w.cell? ⟨rb, 1, none⟩ = some (.int .i64 at_) := by rw [cell_of_heap h.hr]; rfl
  have h3 : w.cell? ⟨rb, 3, none⟩ = some ve := by rw [cell_of_heap h.hr]; rfl
  have hrb := h.rb1
  have H := Lib.hid h
  have HW := Lib.hid hw
  clear h hw
  have hbd := bytesOf_drop p (at_ + 1) hn
  have t98 : ((p[at_ + 1].toNat : Int) == 98) = false := by rw [beq_eq_false_iff_ne]; omega
  have t102 : ((p[at_ + 1].toNat : Int) == 102) = false := by rw [beq_eq_false_iff_ne]; omega
  cases hdg : isDigit p[at_ + 1].toNat with
  | false =>
    have ER := Lib.hid (show percentM ((bytesOf p).drop (at_ + 1)) s = none by rw [hbd]; simp [percentM, h98, h102, hdg])
    have HDG := Lib.hid hdg
    clear hbd hdg h98 h102
    go_enter Tryd.func48, Tryd.ntmps48
    go_wp2
    refine wp_region_lex mixed (by kernel_rfl) ?_
    go_wp2
    refine ⟨by kernel_rfl, ?_⟩
    go_wp2
    refine wp_region_lex mixed (by kernel_rfl) ?_
    go_wp2
    refine ⟨by kernel_rfl, ?_⟩
    go_wp2_with (go_at_call 43; refine (digit_c _ _).mono ?_; rintro e w' ⟨rfl, rfl⟩; rw [HDG.out])
    go_ret2
    exact pct_no ER.out ⟨_, _, _, _, H.out.drew.drew⟩
  | true =>
    have HDG := Lib.hid hdg
    have l1 : 48 ≤ p[at_ + 1].toNat := by revert hdg; simp [isDigit]; omega
    have l2 : p[at_ + 1].toNat ≤ 57 := by revert hdg; simp [isDigit]
    have hpm : percentM ((bytesOf p).drop (at_ + 1)) s = if p[at_ + 1].toNat = 48 ∨ s.ended.getD (p[at_ + 1].toNat - 49) false = false then some (.error 4) else some (.ok ({ s with items := s.items ++ [mkItem 6 (p[at_ + 1].toNat - 49)] }, 2)) := by
      rw [hbd]; simp [percentM, h98, h102, hdg]
    have HPM := Lib.hid hpm
    clear hbd hdg h98 h102 hpm
    by_cases h48 : p[at_ + 1].toNat = 48
    · have t48 : ((p[at_ + 1].toNat : Int) == 48) = true := by rw [h48]; rfl
      have ER := Lib.hid (HPM.out.trans (if_pos (.inl h48)))
      clear h48
      go_enter Tryd.func48, Tryd.ntmps48
      go_wp2
      refine wp_region_lex mixed (by kernel_rfl) ?_
      go_wp2
      refine ⟨by kernel_rfl, ?_⟩
      go_wp2
      refine wp_region_lex mixed (by kernel_rfl) ?_
      go_wp2
      refine ⟨by kernel_rfl, ?_⟩
      go_wp2_with (go_at_call 43; refine (digit_c _ _).mono ?_; rintro e w' ⟨rfl, rfl⟩; rw [HDG.out])
      go_ret2
      exact pct_err ER.out H.out.drew.drew.below
    · have t48 : ((p[at_ + 1].toNat : Int) == 48) = false := by rw [beq_eq_false_iff_ne]; omega
      obtain ⟨k, hk⟩ : ∃ k : Nat, p[at_ + 1].toNat = k + 49 := ⟨p[at_ + 1].toNat - 49, by omega⟩
      have hkk : p[at_ + 1].toNat - 49 = k := by omega
      have hk9 : k ≤ 8 := by omega
      have l3 : 49 ≤ p[at_ + 1].toNat := by omega
      have HK := Lib.hid (show ((p[at_ + 1].toNat : Int) - 49) = (k : Int) by omega)
      rw [hkk] at HPM
      have hel : s.ended.length ≤ 16 := by rw [HW.out.el]; exact HW.out.c16
      have HDK := Lib.hid (show isDigit (k + 49) = true by rw [← hk]; exact HDG.out)
      have t48k : (((k : Int) + 49) == 48) = false := by rw [beq_eq_false_iff_ne]; omega
      clear hkk
      by_cases hlt : k < s.ended.length
      · obtain ⟨ge, ce, rfl⟩ := slice_shape H.out.oe (by omega)
        have k2 : w.cell? ⟨ge, k, none⟩ = some (.bool (s.ended.getD k false)) := by
          rw [H.out.oe.cellAt k (by omega)]; simp [List.getD_eq_getElem?_getD, hlt]
        cases hb : s.ended.getD k false with
        | false =>
          rw [hb] at k2
          have ER := Lib.hid (HPM.out.trans (if_pos (.inr hb)))
          clear hb h48 HPM HK t48
          go_enter Tryd.func48, Tryd.ntmps48
          go_wp2
          refine wp_region_lex mixed (by kernel_rfl) ?_
          go_wp2
          refine ⟨by kernel_rfl, ?_⟩
          go_wp2
          refine wp_region_lex mixed (by kernel_rfl) ?_
          go_wp2
          refine ⟨by kernel_rfl, ?_⟩
          go_wp2_with (go_at_call 43; refine (digit_i _ (k + 49) (by omega) _).mono ?_; rintro e w' ⟨rfl, rfl⟩; rw [HDK.out])
          go_ret2
          exact pct_err ER.out H.out.drew.drew.below
        | true =>
          rw [hb] at k2
          have ER := Lib.hid (HPM.out.trans (if_neg (by rintro (e | e); exact h48 e; rw [hb] at e; cases e)))
          clear hb h48 HPM HK t48
          go_enter Tryd.func48, Tryd.ntmps48
          go_wp2
          refine wp_region_lex mixed (by kernel_rfl) ?_
          go_wp2
          refine ⟨by kernel_rfl, ?_⟩
          go_wp2
          refine wp_region_lex mixed (by kernel_rfl) ?_
          go_wp2
          refine ⟨by kernel_rfl, ?_⟩
          go_wp2_with (first | (go_at_call 43; refine (digit_i _ (k + 49) (by omega) _).mono ?_; rintro e w' ⟨rfl, rfl⟩; rw [HDK.out]))
          refine (add_c H.out.drew.drew (mkItem 6 k) .nilFunc (itemOK_plain _ _ _ _ _ _ _ rfl) (.inl rfl) 2 2 rfl (by omega) (by omega)).mono ?_
          rintro e w1 ⟨rfl, HR⟩
          have HR := Lib.hid HR
          go_wp2
          go_ret2
          exact pct_ok ER.out HR.out
      · have ER := Lib.hid (HPM.out.trans (if_pos (.inr (by rw [List.getD_eq_getElem?_getD, List.getElem?_eq_none (by omega)]; rfl))))
        obtain ⟨ao, ce, rfl⟩ : ∃ ao ce, ve = .slice ao s.ended.length ce := by
          rcases H.out.oe.2 with ⟨e, h⟩ | ⟨g, cap, cur, e, _⟩
          · exact ⟨none, 0, by rw [e, h]⟩
          · exact ⟨_, _, e⟩
        clear h48 HPM HK t48
        go_enter Tryd.func48, Tryd.ntmps48
        go_wp2
        refine wp_region_lex mixed (by kernel_rfl) ?_
        go_wp2
        refine ⟨by kernel_rfl, ?_⟩
        go_wp2
        refine wp_region_lex mixed (by kernel_rfl) ?_
        go_wp2
        refine ⟨by kernel_rfl, ?_⟩
        go_wp2_with (go_at_call 43; refine (digit_i _ (k + 49) (by omega) _).mono ?_; rintro e w' ⟨rfl, rfl⟩; rw [HDK.out])
        go_ret2
        exact pct_err ER.out H.out.drew.drew.below
theorem percent_c {w0 w : World} {rb : Nat} {p : ByteArray} {at_ : Nat} {anc fin : Bool} {s : St} {vo ve vi : Value} {vs : List Value} (h : RSt w0 rb w p at_ anc fin s vo ve vi vs) (hw : Wf s) (hat : at_ < p.size) (hp : p.size ≤ 5000) (hi : s.items.length ≤ at_) :
    Calls Tryd.prog 48 #[.pointer (some ⟨rb, 0, none⟩)] w (PctPost w0 rb p at_ anc fin s (percentM ((bytesOf p).drop (at_ + 1)) s)) := by
  by_cases hn : at_ + 1 < p.size
  · by_cases h1 : p[at_ + 1].toNat = 98
    · exact pct_b h hw hat hp hi hn h1
    · by_cases h2 : p[at_ + 1].toNat = 102
      · exact pct_f h hw hat hp hi hn h2
      · exact pct_d h hw hat hp hi hn h1 h2
  · exact pct_0 h hw hat hp hi hn
end Go.Proofs.YtpbhncmaamedhaaDoor
