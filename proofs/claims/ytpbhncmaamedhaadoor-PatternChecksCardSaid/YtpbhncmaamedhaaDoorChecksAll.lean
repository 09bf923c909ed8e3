/- What is proved: PatternChecks returns true for every string p, in any memory, and leaves its arguments as they were; conditions: none of its own (the card's own laid tables). -/
import Derived.Test.YtpbhncmaamedhaaDoorRSng
import Derived.Test.YtpbhncmaamedhaaDoorParse
import Derived.Test.YtpbhncmaamedhaaDoorAwB
import Derived.Test.YtpbhncmaamedhaaDoorCardA
import Derived.Test.YtpbhncmaamedhaaDoorCards
import Derived.Test.YtpbhncmaamedhaaDoorTie
import Derived.SevenTiedAt
import Derived.ChangeMaps5
namespace Go.Proofs.YtpbhncmaamedhaaDoor
open Go.RowKit Go.Proofs.Lexi

/-! The reference's read (28). -/
def ReadEnd (w : World) (ob : Nat) (anc : Bool) (R : Except Nat (St × Bool)) (e : Ending) (w' : World) : Prop :=
  match R with
  | .error c => e = .returned (.tuple #[.pointer none, .int .i64 c]) ∧ Below w.heap.size w w'
  | .ok (s, fin) => if s.opened = [] then e = .returned (.tuple #[.pointer (some ⟨ob, 0, none⟩), .int .i64 0]) ∧ PPost w ob anc fin s w'
      else e = .returned (.tuple #[.pointer none, .int .i64 4]) ∧ Below w.heap.size w w'
theorem ReadEnd.err {w w' : World} {ob : Nat} {anc : Bool} {R : Except Nat (St × Bool)} {c : Nat} {d : Int} (hR : R = .error c) (hd : d = c) (hb : Below w.heap.size w w') : ReadEnd w ob anc R (.returned (.tuple #[.pointer none, .int .i64 d])) w' := by
  subst hR hd; exact ⟨rfl, hb⟩
theorem ReadEnd.ok {w w' : World} {ob : Nat} {anc fin : Bool} {R : Except Nat (St × Bool)} {s : St} (hR : R = .ok (s, fin)) (ho : s.opened = []) (hb : PPost w ob anc fin s w') : ReadEnd w ob anc R (.returned (.tuple #[.pointer (some ⟨ob, 0, none⟩), .int .i64 0])) w' := by
  subst hR; simp only [ReadEnd, ho, if_true]; exact ⟨trivial, hb⟩
theorem ReadEnd.left {w w' : World} {ob : Nat} {anc fin : Bool} {R : Except Nat (St × Bool)} {s : St} (hR : R = .ok (s, fin)) (ho : ¬ s.opened = []) (hb : Below w.heap.size w w') : ReadEnd w ob anc R (.returned (.tuple #[.pointer none, .int .i64 4])) w' := by
  subst hR; simp only [ReadEnd, ho, if_false]; exact ⟨trivial, hb⟩
def ReadRel (w0 : World) (ob : Nat) (p : ByteArray) (anc : Bool) (R : Except Nat (St × Bool)) (g : Nat) (v : Value) (wr : World) : Prop :=
  ∃ k s, g = p.size - k ∧ v = .int .i64 (k : Nat) ∧ k ≤ p.size ∧ PPost w0 ob anc false s wr ∧ Wf s ∧ s.items.length ≤ k ∧ parseGo ((bytesOf p).drop k).length ((bytesOf p).drop k) s = R
theorem ReadRel.next {w0 : World} {ob : Nat} {p : ByteArray} {anc : Bool} {R : Except Nat (St × Bool)} {k m : Nat} {s s' : St} {wr : World} {n : Int} (hat : k < p.size) (hw : Wf s) (hi : s.items.length ≤ k) (hd : ¬ (p[k].toNat = 36 ∧ (bytesOf p).drop (k + 1) = []))
    (hR : parseGo ((bytesOf p).drop k).length ((bytesOf p).drop k) s = R) (hs : stepM p[k].toNat ((bytesOf p).drop (k + 1)) s = .ok (s', m)) (hr : PPost w0 ob anc false s' wr) (hn : n = ((k + m : Nat) : Int)) :
    ReadRel w0 ob p anc R (p.size - (k + m)) (.int .i64 n) wr ∧ p.size - (k + m) < p.size - k := by
  have h := step_ok hs
  have m1 := h.m1
  have m2 := h.m2
  rw [List.length_drop, bytesOf_length] at m2
  refine ⟨⟨k + m, s', rfl, by rw [hn], by omega, hr, h.wf hw, by rw [h.il]; omega, ?_⟩, by omega⟩
  rw [bytesOf_drop p k hat, parseGo_next hd hs] at hR
  have e : (p[k].toNat :: (bytesOf p).drop (k + 1)).drop m = (bytesOf p).drop (k + m) := by rw [← bytesOf_drop p k hat, List.drop_drop]
  rw [e] at hR
  exact hR
theorem step_bounds {p : ByteArray} {k m : Nat} {s s' : St} (hat : k < p.size) (hs : stepM p[k].toNat ((bytesOf p).drop (k + 1)) s = .ok (s', m)) : 1 ≤ m ∧ k + m ≤ p.size := by
  have h := step_ok hs
  have m1 := h.m1
  have m2 := h.m2
  rw [List.length_drop, bytesOf_length] at m2
  omega
theorem step_e {c : Nat} {r : List Nat} {s : St} {e : Nat} (h : stepM c r s = .error e) : e = 3 ∨ e = 4 := by
  unfold stepM at h
  split at h
  · exact bracket_e h
  · split at h
    · split at h
      · rename_i R hR; subst h; exact .inr (percent_e hR)
      · exact .inr (single_e h)
    · exact .inr (single_e h)
theorem opened_slice {w : World} {base : Nat} {v : Value} {l : List Nat} (ho : w.ownsRow base 3 1 v l.length (l.map intV)) : (∃ ao cap, v = .slice ao 0 cap ∧ l = []) ∨ (∃ ao m cap, v = .slice ao (m + 1) cap ∧ ¬ l = [] ∧ m + 1 = l.length) := by
  cases l with
  | nil =>
    rcases ho.2 with ⟨e, _⟩ | ⟨g, cap, cur, e, _⟩
    · exact .inl ⟨_, _, e, rfl⟩
    · exact .inl ⟨_, _, e, rfl⟩
  | cons a l =>
    rcases ho.2 with ⟨e, h⟩ | ⟨g, cap, cur, e, _⟩
    · simp at h
    · exact .inr ⟨_, l.length, _, e, by simp, by simp⟩
theorem rd_start (w : World) (anc : Bool) : PSt w w.heap.size (w.alloc (.cells #[.slice none 0 0, .bool anc, .bool false, .int .i64 0, .slice none 0 0, .slice none 0 0, .slice none 0 0] 68)) anc false St.zero [] (.slice none 0 0) (.slice none 0 0) (.slice none 0 0) (.slice none 0 0) [] := by
  refine ⟨(Below.refl _ _).alloc (Nat.le_refl _) _, heap_new _ _, Nat.le_refl _, World.ownsRow_nil _ _ _ _, World.ownsRow_nil _ _ _ _, World.ownsRow_nil _ _ _ _, World.ownsRow_nil _ _ _ _, rfl, fun j hj => (by cases hj), ?_⟩
  constructor
  all_goals (intro g h h'; first | (cases h'; done) | (cases h; done))
theorem rd_zero : RInv St.zero [] := ⟨rfl, fun n hn => (by simp at hn)⟩
theorem rd_wf : Wf St.zero := ⟨rfl, by decide, fun n hn => (by cases hn), by decide⟩
set_option maxRecDepth 100000 in
set_option maxHeartbeats 4000000 in
theorem read_go (p : ByteArray) (hp : p.size ≤ 5000) (w : World) (anc : Bool) (at0 : Nat) (hst : (p.size = 0 ∧ anc = false ∧ at0 = 0) ∨ (∃ h : 0 < p.size, ¬ p[0].toNat = 94 ∧ anc = false ∧ at0 = 0) ∨ (∃ h : 0 < p.size, p[0].toNat = 94 ∧ anc = true ∧ at0 = 1)) :
    Calls Tryd.prog 28 #[.string p] w (ReadEnd w w.heap.size anc (parseGo ((bytesOf p).drop at0).length ((bytesOf p).drop at0) St.zero)) := by
  have hat0 : at0 ≤ p.size := by rcases hst with ⟨_, _, h⟩ | ⟨_, _, _, h⟩ | ⟨_, _, _, h⟩ <;> omega
  have hs0 := rd_start w false
  have hs1 := rd_start w true
  have hstart : ∀ R W, parseGo ((bytesOf p).drop at0).length ((bytesOf p).drop at0) St.zero = R → PSt w w.heap.size W anc false St.zero [] (.slice none 0 0) (.slice none 0 0) (.slice none 0 0) (.slice none 0 0) [] → ReadRel w w.heap.size p anc R (p.size - at0) (.int .i64 (at0 : Nat)) W :=
    fun R W hR h => ⟨at0, St.zero, rfl, rfl, hat0, ⟨_, _, _, _, _, _, h, rd_zero⟩, rd_wf, by simp [St.zero], hR⟩
  generalize HR : parseGo ((bytesOf p).drop at0).length ((bytesOf p).drop at0) St.zero = R at hstart ⊢
  have HS := Lib.hid (fun W => hstart R W rfl)
  have H0 := Lib.hid hs0
  have H1 := Lib.hid hs1
  clear hstart HR hs0 hs1
  rcases hst with ⟨h0, hanc, hat⟩ | ⟨hl, h94, hanc, hat⟩ | ⟨hl, h94, hanc, hat⟩
  focus
    have e1 : (!p.toList.isEmpty) = false := by rw [toList_nil h0]; rfl
    have HA := Lib.hid hanc
    have HT := Lib.hid hat
    have HX := Lib.hid (HS.out _ (by rw [hanc]; exact H0.out))
    clear hanc hat
    clear h0
    go_enter Tryd.func28, Tryd.ntmps28
    go_wp2
    clear e1
  rotate_left
  focus
    have t94 : ((p[0].toNat : Int) == 94) = false := by rw [beq_eq_false_iff_ne]; omega
    have e1 : (!p.toList.isEmpty) = true := by simpa using toList_ne hl
    have HA := Lib.hid hanc
    have HT := Lib.hid hat
    have HX := Lib.hid (HS.out _ (by rw [hanc]; exact H0.out))
    clear hanc hat
    clear h94
    go_enter Tryd.func28, Tryd.ntmps28
    go_wp2
    clear e1 t94
  rotate_left
  focus
    have t94 : ((p[0].toNat : Int) == 94) = true := by rw [h94]; rfl
    have e1 : (!p.toList.isEmpty) = true := by simpa using toList_ne hl
    have HA := Lib.hid hanc
    have HT := Lib.hid hat
    have HX := Lib.hid (HS.out _ (by rw [hanc]; exact H1.out))
    clear hanc hat
    clear h94
    go_enter Tryd.func28, Tryd.ntmps28
    go_wp2
    clear e1 t94
  rotate_left
  all_goals
    go_loopg [5] (p.size - at0) (fun g v wr => ReadRel w w.heap.size p anc R g v wr)
    case atStart =>
      have h := HX.out
      rw [HT.out] at h
      rw [HT.out]
      exact h
    case round =>
      clear HS HX H0 H1
      obtain ⟨k, s, rfl, rfl, hle, ⟨ps, vi, vo, vc, vp, vs, hR, hv⟩, hwf, hi, hgo⟩ := hrel
      have ol := hwf.ol
      have c16 := hwf.c16
      have h4 : wr.cell? ⟨w.heap.size, 4, none⟩ = some vo := by rw [cell_of_heap hR.hr]; rfl
      have HRR := Lib.hid hR
      have HV := Lib.hid hv
      have HWF := Lib.hid hwf
      have HGO := Lib.hid hgo
      have HO := opened_slice hR.oo
      clear hwf hgo hv hR
      by_cases hlt : k < p.size
      · by_cases hd : p[k].toNat = 36 ∧ k + 1 = p.size
        · have t36 : ((p[k].toNat : Int) == 36) = true := by rw [hd.1]; rfl
          have tl : ((k : Int) == (p.size : Int) - 1) = true := by rw [beq_iff_eq]; omega
          have c2 : wr.cell? ⟨w.heap.size, 2, none⟩ = some (.bool false) := by rw [cell_of_heap HRR.out.hr]; rfl
          have f2 := HRR.out.frozen 2
          have HP := Lib.hid (HRR.out.setr (k := 2) (u := .bool true) (anc' := anc) (fin' := true) (caps' := s.caps) rfl)
          have HE := Lib.hid (show R = .ok (s, true) from by
            rw [← HGO.out, bytesOf_drop p k hlt, bytesOf_end p (k + 1) (by omega), hd.1]
            simp [parseGo])
          clear hd HGO
          rcases HO with ⟨ao, cap, rfl, ho⟩ | ⟨ao, m, cap, rfl, ho, hm⟩
          · have HOO := Lib.hid ho
            clear ho
            go_wp2
            go_ret2
            exact ReadEnd.ok HE.out HOO.out ⟨_, _, _, _, _, _, HP.out, HV.out⟩
          · have HOO := Lib.hid ho
            clear ho
            go_wp2
            go_ret2
            exact ReadEnd.left HE.out HOO.out HP.out.below
        · have HD := Lib.hid (show ¬ (p[k].toNat = 36 ∧ (bytesOf p).drop (k + 1) = []) from fun h => hd ⟨h.1, by
            have := congrArg List.length h.2
            rw [List.length_drop, bytesOf_length] at this
            simp at this; omega⟩)
          have tt : ((p[k].toNat : Int) == 36) = false ∨ (((p[k].toNat : Int) == 36) = true ∧ ((k : Int) == (p.size : Int) - 1) = false) := by
            by_cases h36 : p[k].toNat = 36
            · right; exact ⟨by rw [h36]; rfl, by rw [beq_eq_false_iff_ne]; have : ¬ k + 1 = p.size := fun h => hd ⟨h36, h⟩; omega⟩
            · left; rw [beq_eq_false_iff_ne]; omega
          clear hd HO
          rcases tt with t36 | ⟨t36, tl⟩
          all_goals
            go_wp2_with fail
            refine (special_c HRR.out HV.out HWF.out p k hlt hp hi).mono ?_
            intro e w1 hpost
            have hst := special_step p[k].toNat ((bytesOf p).drop (k + 1)) s
            cases hsm : specialM p[k].toNat ((bytesOf p).drop (k + 1)) s with
            | none =>
              rw [hsm] at hpost hst
              obtain ⟨rfl, ps1, vi1, vo1, vc1, vp1, vs1, hR1, hv1⟩ := hpost
              have HST := Lib.hid hst
              have HR1 := Lib.hid hR1
              have HV1 := Lib.hid hv1
              clear hst hsm hR1 hv1 HRR HV
              go_wp2_with fail
              refine (readSingle_c HR1.out HV1.out p k hlt hp hi).mono ?_
              intro e w2 hpost
              cases hsg : singleM p[k].toNat ((bytesOf p).drop (k + 1)) s with
              | error c =>
                rw [hsg] at hpost
                obtain ⟨rfl, hb⟩ := hpost
                have HB := Lib.hid hb
                have HC := Lib.hid (single_e hsg)
                have ER := Lib.hid (ParseRel.bad (p := p) hlt HD.out HGO.out (by rw [HST.out]; exact hsg))
                clear hb hsg HST
                go_wp2
                go_ret2
                exact ReadEnd.err ER.out (by rw [HC.out]; rfl) HB.out
              | ok q =>
                obtain ⟨s', m⟩ := q
                rw [hsg] at hpost
                obtain ⟨rfl, hb⟩ := hpost
                obtain ⟨m1, m2⟩ := step_bounds hlt (by rw [HST.out]; exact hsg)
                obtain ⟨N1, N2⟩ := ReadRel.next (p := p) hlt HWF.out hi HD.out HGO.out (by rw [HST.out]; exact hsg) hb rfl
                have HN := Lib.hid N1
                clear hb hsg HST N1
                go_wp2
                go_roundg (p.size - (k + m))
                case measure => exact N2
                case rel => exact HN.out
            | some Q =>
              rw [hsm] at hpost hst
              cases Q with
              | error c =>
                obtain ⟨⟨n, rfl⟩, hb⟩ := hpost
                have HB := Lib.hid hb
                have ER := Lib.hid (ParseRel.bad (p := p) hlt HD.out HGO.out hst)
                rcases step_e hst with rfl | rfl
                all_goals
                  clear hb hst hsm
                  go_wp2
                  go_ret2
                  exact ReadEnd.err ER.out rfl HB.out
              | ok q =>
                obtain ⟨s', m⟩ := q
                obtain ⟨rfl, hb⟩ := hpost
                obtain ⟨m1, m2⟩ := step_bounds hlt hst
                obtain ⟨N1, N2⟩ := ReadRel.next (p := p) hlt HWF.out hi HD.out HGO.out hst hb rfl
                have HN := Lib.hid N1
                clear hb hst hsm N1
                go_wp2
                go_roundg (p.size - (k + m))
                case measure => exact N2
                case rel => exact HN.out
      · have hk : k = p.size := by omega
        have HE := Lib.hid (show R = .ok (s, false) from by
          rw [← HGO.out, bytesOf_end p k (by omega)]
          simp [parseGo])
        clear HGO
        rcases HO with ⟨ao, cap, rfl, ho⟩ | ⟨ao, m, cap, rfl, ho, hm⟩
        · have HOO := Lib.hid ho
          clear ho
          go_wp2
          go_ret2
          exact ReadEnd.ok HE.out HOO.out ⟨_, _, _, _, _, _, HRR.out, HV.out⟩
        · have HOO := Lib.hid ho
          clear ho
          go_wp2
          go_ret2
          exact ReadEnd.left HE.out HOO.out HRR.out.below
/-- What read returns. -/
def ReadPost (w : World) (R : Except Nat (St × Bool × Bool)) (e : Ending) (w' : World) : Prop :=
  match R with
  | .error c => e = .returned (.tuple #[.pointer none, .int .i64 c]) ∧ Below w.heap.size w w'
  | .ok (s, anc, fin) => e = .returned (.tuple #[.pointer (some ⟨w.heap.size, 0, none⟩), .int .i64 0]) ∧ PPost w w.heap.size anc fin s w'
theorem readPost_of {w : World} {p : ByteArray} {e : Ending} {w' : World} {anc : Bool} {at0 : Nat} (h : ReadEnd w w.heap.size anc (parseGo ((bytesOf p).drop at0).length ((bytesOf p).drop at0) St.zero) e w')
    (ha : ((bytesOf p).head? == some 94) = anc) (hr : (if ((bytesOf p).head? == some 94) = true then (bytesOf p).tail else bytesOf p) = (bytesOf p).drop at0) : ReadPost w (parseM (bytesOf p)) e w' := by
  unfold parseM
  simp only [hr]
  unfold ReadEnd at h
  cases hg : parseGo ((bytesOf p).drop at0).length ((bytesOf p).drop at0) St.zero with
  | error c => rw [hg] at h; exact h
  | ok q =>
    obtain ⟨s, fin⟩ := q
    rw [hg] at h
    simp only [] at h ⊢
    by_cases ho : s.opened = []
    · simp only [ho, if_true] at h ⊢
      rw [ha]
      exact h
    · simp only [ho, if_false] at h ⊢
      exact h
theorem read_c (p : ByteArray) (hp : p.size ≤ 5000) (w : World) : Calls Tryd.prog 28 #[.string p] w (ReadPost w (parseM (bytesOf p))) := by
  by_cases h0 : p.size = 0
  · have e : bytesOf p = [] := List.eq_nil_of_length_eq_zero (by rw [bytesOf_length]; exact h0)
    exact (read_go p hp w false 0 (.inl ⟨h0, rfl, rfl⟩)).mono fun e w' h => readPost_of h (by simp [*]) (by simp [*])
  · have hl : 0 < p.size := by omega
    have e := bytesOf_drop p 0 hl
    rw [List.drop_zero] at e
    by_cases h94 : p[0].toNat = 94
    · exact (read_go p hp w true 1 (.inr (.inr ⟨hl, h94, rfl, rfl⟩))).mono fun _ w' h => readPost_of h (by rw [e, h94]; rfl) (by rw [e, h94]; simp)
    · exact (read_go p hp w false 0 (.inr (.inl ⟨hl, h94, rfl, rfl⟩))).mono fun _ w' h => readPost_of h (by rw [e]; simp [h94]) (by rw [e]; simp [h94])
end Go.Proofs.YtpbhncmaamedhaaDoor

namespace Go.Proofs.YtpbhncmaamedhaaDoor
open Go.RowKit Go.Proofs.Lexi

/-! The reference's Check (14), and PatternChecks (3). -/
set_option maxRecDepth 100000 in
set_option maxHeartbeats 1000000 in
theorem rCheck_c (p : ByteArray) (w : World) (hp : p.size ≤ 5000) : Calls Tryd.prog 14 #[.string p] w fun e w' => e = .returned (.int .i64 (CheckE (bytesOf p) : Int)) ∧ Below w.heap.size w w' := by
  have HR := Lib.hid (read_c p hp w)
  unfold CheckE
  cases hq : parseM (bytesOf p) with
  | error c =>
    rw [hq] at HR
    clear hq
    go_enter Tryd.func14, Tryd.ntmps14
    go_wp2_with fail
    refine HR.out.mono ?_
    rintro e w1 ⟨rfl, hb⟩
    have HB := Lib.hid hb
    clear hb
    go_wp2
    go_ret
    exact ⟨rfl, HB.out⟩
  | ok q =>
    obtain ⟨s, anc, fin⟩ := q
    rw [hq] at HR
    clear hq
    go_enter Tryd.func14, Tryd.ntmps14
    go_wp2_with fail
    refine HR.out.mono ?_
    rintro e w1 ⟨rfl, ps, vi, vo, vc, vp, vs, hb, _⟩
    have HB := Lib.hid hb.below
    clear hb
    go_wp2
    go_ret
    exact ⟨rfl, HB.out⟩
set_option maxRecDepth 100000 in
set_option maxHeartbeats 1000000 in
theorem checks_law (p : ByteArray) (w : World) (ht : Tab w) : Calls Tryd.prog 3 #[.string p] w (ExT w) := by
  have HT := Lib.hid ht
  have AW := Lib.hid (fun W (h : Below w.heap.size w W) => awake_c W (ht.mono h (Nat.le_refl _)))
  clear ht
  by_cases hp : p.size ≤ 600
  · have L := Lib.hid (large_c ⟨#[]⟩ p w)
    have e : largeM ⟨#[]⟩ p = false := by unfold largeM; rw [decide_eq_false (by decide), decide_eq_false (by omega)]; rfl
    rw [e] at L
    clear e
    go_enter Tryd.func3, Tryd.ntmps3
    go_wp2_with fail
    refine L.out.mono ?_
    rintro e w1 ⟨rfl, rfl⟩
    go_wp2_with fail
    refine (Check_c p w (by omega)).mono ?_
    rintro e w1 ⟨rfl, hb1⟩
    have HB1 := Lib.hid hb1
    clear hb1
    go_wp2_with fail
    refine (rCheck_c p w1 (by omega)).mono ?_
    rintro e w2 ⟨rfl, hb2⟩
    have HB2 := Lib.hid (HB1.out.trans (hb2.mono HB1.out.size))
    clear hb2
    go_wp2_with fail
    refine (AW.out _ HB2.out).mono ?_
    rintro e w3 ⟨rfl, hb3⟩
    have HB3 := Lib.hid (HB2.out.trans (hb3.mono HB2.out.size))
    clear hb3
    go_wp2
    go_ret
    exact ⟨rfl, HB3.out⟩
  · have L := Lib.hid (large_c ⟨#[]⟩ p w)
    have e : largeM ⟨#[]⟩ p = true := by unfold largeM; rw [decide_eq_false (by decide), decide_eq_true (by omega)]; rfl
    rw [e] at L
    clear e
    go_enter Tryd.func3, Tryd.ntmps3
    go_wp2_with fail
    refine L.out.mono ?_
    rintro e w1 ⟨rfl, rfl⟩
    go_wp2_with fail
    refine (AW.out _ (Below.refl _ _)).mono ?_
    rintro e w3 ⟨rfl, hb3⟩
    have HB3 := Lib.hid hb3
    clear hb3
    go_wp2
    go_ret
    exact ⟨rfl, HB3.out⟩
end Go.Proofs.YtpbhncmaamedhaaDoor

namespace Go.Proofs.YtpbhncmaamedhaaDoor
open Go.ChangeShapes Go.WideShapes Go.ChangeAt Go.WideMaps Go.WideElems Go.RowKit Go.ChangeMaps

set_option maxRecDepth 100000 in
theorem checks_lifted (os : Os) (started : os.Started) (H : Type) (enc : TypeId × Value → H) :
    ReturnsInHanded {} Tryd.checked os 3 .any (fun w args => (Rows.patternChecksSpec.pre enc Tryd.prog Tryd.f3 [] false w args ∧ laidMetH Tryd.prog laidL w) ∧ sizedMet enc Tryd.prog Tryd.f3 (OpenSpec.ofChange Rows.patternChecksSpec) false w args)
      (Rows.patternChecksSpec.post enc Tryd.prog Tryd.f3 false true false false) := by
  refine returnsInHanded_of_change_and (C := Tryd.checked) (X := fun w _ => laidMetH Tryd.prog laidL w) (fun _ _ _ hh h => h.of_heap hh) Tryd.own started (by kernel_rfl) Tryd.func3
    (ChangeSpec.witness_shaped (enc := enc) (C := Tryd.checked) (os := os) (X := fun w _ => laidMetH Tryd.prog laidL w) false (World.doorLaid Tryd.prog 400 os) #[.string ⟨#[]⟩] 8 rfl (World.shaped_of_RefB (by kernel_rfl) (by kernel_rfl)) (by kernel_rfl) (by kernel_rfl) (by kernel_rfl) (door_met os _)) ?_
  intro W base args ds gs before hval0 hW _ _ hL _
  have hval : ∀ (j : Nat) t v, Tryd.f3.params[j]? = some t → args[j]? = some v → Value.okWide Tryd.prog W .any base t v := hval0
  have hW' := hW
  obtain ⟨p, q, hA0, hV, rfl, hfz, hnd⟩ := hW
  have hA : DataW.TrodAll enc Tryd.prog W 0 (fun _ => true) true Tryd.f3.params.toList args.toList ds p := hA0
  rw [Tryd.params3] at hA hval
  obtain ⟨v0, d0, rfl, rfl, h0⟩ := trodAll_one hA
  obtain ⟨rfl, rfl⟩ := trodVars_none hV
  obtain ⟨s0, rfl, rfl, rfl, z0⟩ := open_string Tryd.underlying9 (hval 0 9 v0 rfl rfl) h0
  have ht := tab_of_laid hL
  clear hA0 hval0
  simp only [List.append_nil] at hW'
  refine (checks_law s0 W ht).mono fun e W' ⟨he, hw⟩ => ?_
  subst he
  refine ⟨_, rfl, ?_⟩
  exact post_of_below (pa := []) (pv := []) hW' (fun _ _ _ => trodAll_mk1 (shut_bool Tryd.underlying4 _)) (fun sp _ => trodAll_mk1 (shut_string Tryd.underlying9 z0)) (fun _ _ => rfl) rfl hw (ok_one (by kernel_rfl) rfl (okWide_bool_mk Tryd.underlying4 _))
theorem checks_row : Rows.PatternChecksSaid :=
  OpenClaim.holds_of_wide 3 Tryd.f3 rfl rfl rfl rfl rfl rfl rfl ⟨rfl, rfl, rfl, rfl, rfl⟩ rfl rfl rfl rfl rfl (by kernel_rfl) Tryd.func3 (by kernel_rfl)
    (of_decide_eq_true (by kernel_rfl)) (by unfold Func.isWrapper; first | (rw [if_pos (by decide +kernel)]; kernel_rfl) | (rw [if_neg (by decide +kernel)]; exact ⟨rfl, rfl⟩))
    (fun os started H enc _ => checks_lifted os started H enc)
theorem checks_holds : Rows.PatternChecksCardSaid :=
  Claim7.holds_tied_plain_at .later [] [.data, .data, .data] true (true, "ce5b4aa2b685b730abb4eac6a722299a5631a24b289441cbc27f6825bb6d57fc") false
    checks_row (fun _ h => by cases h) (by kernel_rfl) (fun _ h => by cases h) patternChecks_row_tie rfl ⟨rfl, rfl⟩ (by kernel_rfl) rfl
    (fun f fn hf hfn => by
      obtain rfl : f = 3 := Option.some.inj ((show Tryd.prog.funcNamed "scripting/scriptinglaw04.PatternChecks" = some 3 by kernel_rfl).symm.trans hf) |>.symm
      obtain rfl : fn = Tryd.f3 := (Option.some.inj (Tryd.func3.symm.trans hfn)).symm
      exact ⟨by kernel_rfl, fun j t ht => by
        rw [Tryd.params3] at ht
        have hm : t ∈ [9] := by simpa using Array.mem_of_getElem? ht
        have hall : ([9].all fun u => !Tryd.prog.wantsStandIn u) = true := by kernel_rfl
        exact (show Tryd.prog.wantsStandIn t = false by simpa using List.all_eq_true.1 hall t hm)⟩)
    (by kernel_rfl)
#print axioms checks_holds
end Go.Proofs.YtpbhncmaamedhaaDoor
