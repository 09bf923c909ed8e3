import Derived.Test.YtpbhncmaamedhaaDoorPaM
import Derived.Deep.LoopGhost
namespace Go.Proofs.YtpbhncmaamedhaaDoor
open Go.RowKit Go.Proofs.Lexi

def zeroParsed : Value := .agg #[.slice none 0 0, .int .i64 0, .bool false, .bool false]
def resCell : Obj := .cells #[.slice none 0 0, .int .i64 0, .bool false, .bool false] 49
def ParseEnd (w : World) (anc : Bool) (R : Except Nat (St × Bool)) (e : Ending) (w' : World) : Prop :=
  Below w.heap.size w w' ∧ match R with
    | .error c => e = .returned (.tuple #[.agg #[.slice none 0 0, .int .i64 0, .bool false, .bool false], .int .i64 c])
    | .ok (s, fin) => if s.opened = [] then ∃ vi vs, e = .returned (.tuple #[.agg #[vi, .int .i64 s.caps, .bool anc, .bool fin], .int .i64 0]) ∧ vs.length = s.items.length ∧
        w'.ownsRow w.heap.size 106 6 vi s.items.length (rowOf s.items vs) ∧ ItemsOK w' w.heap.size (fun _ => False) s.items vs
      else e = .returned (.tuple #[.agg #[.slice none 0 0, .int .i64 0, .bool false, .bool false], .int .i64 4])

def ParseRel (w0 : World) (rb : Nat) (p : ByteArray) (anc : Bool) (R : Except Nat (St × Bool)) (g : Nat) (wr : World) : Prop :=
  ∃ at_ fin s, g = p.size - at_ ∧ at_ ≤ p.size ∧ RPost w0 rb p at_ anc fin s wr ∧ Wf s ∧ s.items.length ≤ at_ ∧
    ((fin = false ∧ parseGo ((bytesOf p).drop at_).length ((bytesOf p).drop at_) s = R) ∨ (at_ = p.size ∧ R = .ok (s, fin)))
theorem rstart (w0 : World) (rb : Nat) (hrb : rb = w0.heap.size) (p : ByteArray) (at_ : Nat) (anc : Bool) : RSt w0 rb (w0.alloc (.cells #[.string p, .int .i64 at_, .slice none 0 0, .slice none 0 0, .slice none 0 0, .int .i64 0, .bool anc, .bool false] 89)) p at_ anc false St.zero (.slice none 0 0) (.slice none 0 0) (.slice none 0 0) [] := by
  subst hrb
  refine ⟨(Below.refl _ _).alloc (Nat.le_refl _) _, heap_new _ _, Nat.le_refl _, by simp, World.ownsRow_nil _ _ _ _, World.ownsRow_nil _ _ _ _, World.ownsRow_nil _ _ _ _, rfl, fun j hj => (by cases hj), ?_, ?_, ?_, ?_, ?_, ?_⟩
  all_goals first | (intro h; cases h; done) | (intro g h; cases h)

theorem toList_nil {p : ByteArray} (h : p.size = 0) : p.toList = [] := by
  rw [ByteArray.toList_eq]
  exact List.eq_nil_of_length_eq_zero h
theorem toList_ne {p : ByteArray} (h : 0 < p.size) : ¬ p.toList = [] := by
  rw [ByteArray.toList_eq]
  intro e
  have : p.data.toList.length = 0 := by rw [e]; rfl
  have h2 : p.size = p.data.toList.length := rfl
  omega
theorem ParseEnd.err {w w' : World} {anc : Bool} {R : Except Nat (St × Bool)} {c : Nat} (hR : R = .error c) (hb : Below w.heap.size w w') : ParseEnd w anc R (.returned (.tuple #[.agg #[.slice none 0 0, .int .i64 0, .bool false, .bool false], .int .i64 c])) w' := by
  subst hR; exact ⟨hb, rfl⟩
theorem ParseRel.next {w0 : World} {rb : Nat} {p : ByteArray} {anc fin : Bool} {R : Except Nat (St × Bool)} {at_ m : Nat} {s s' : St} {wr : World} (hat : at_ < p.size) (hw : Wf s) (hi : s.items.length ≤ at_) (hd : ¬ (p[at_].toNat = 36 ∧ (bytesOf p).drop (at_ + 1) = []))
    (hR : parseGo ((bytesOf p).drop at_).length ((bytesOf p).drop at_) s = R) (hs : stepM p[at_].toNat ((bytesOf p).drop (at_ + 1)) s = .ok (s', m)) (hf : fin = false) (hr : RPost w0 rb p (at_ + m) anc fin s' wr) :
    ParseRel w0 rb p anc R (p.size - (at_ + m)) wr ∧ p.size - (at_ + m) < p.size - at_ := by
  have h := step_ok hs
  have m1 := h.m1
  have m2 := h.m2
  rw [List.length_drop, bytesOf_length] at m2
  refine ⟨⟨at_ + m, fin, s', rfl, by omega, hr, h.wf hw, by rw [h.il]; omega, .inl ⟨hf, ?_⟩⟩, by omega⟩
  rw [bytesOf_drop p at_ hat, parseGo_next hd hs] at hR
  have e : (p[at_].toNat :: (bytesOf p).drop (at_ + 1)).drop m = (bytesOf p).drop (at_ + m) := by rw [← bytesOf_drop p at_ hat, List.drop_drop]
  rw [e] at hR
  exact hR
theorem ParseRel.bad {p : ByteArray} {R : Except Nat (St × Bool)} {at_ c : Nat} {s : St} (hat : at_ < p.size) (hd : ¬ (p[at_].toNat = 36 ∧ (bytesOf p).drop (at_ + 1) = []))
    (hR : parseGo ((bytesOf p).drop at_).length ((bytesOf p).drop at_) s = R) (hs : stepM p[at_].toNat ((bytesOf p).drop (at_ + 1)) s = .error c) : R = .error c := by
  rw [bytesOf_drop p at_ hat, parseGo_err hd hs] at hR
  exact hR.symm
theorem itemsOK_all {w : World} {A A' : Nat} {M : Nat → Prop} {l : List Item} {vs : List Value} (h : ItemsOK w A M l vs) (hA : A' ≤ A) : ItemsOK w A' (fun _ => False) l vs := fun j hj => by
  have := h j hj
  unfold ItemOK at this ⊢
  split
  · rename_i hi
    rw [if_pos hi] at this
    obtain ⟨lo, hi, h1, h2, _, h4⟩ := this
    exact ⟨lo, hi, by omega, h2, fun _ _ _ h => h, h4⟩
  · rename_i hi; rw [if_neg hi] at this; exact this
theorem ownsRow_base {w : World} {base base' : Nat} {e : TypeId} {size : Nat} {v : Value} {n : Nat} {xs : List Value} (h : w.ownsRow base e size v n xs) (hb : base' ≤ base) : w.ownsRow base' e size v n xs := by
  obtain ⟨h1, h2⟩ := h
  refine ⟨h1, ?_⟩
  rcases h2 with h2 | ⟨g, cap, cur, hv, hg, r⟩
  · exact .inl h2
  · exact .inr ⟨g, cap, cur, hv, by omega, r⟩
theorem ParseEnd.ok {w0 w w' : World} (hw : Below w.heap.size w w0) {rb : Nat} {p : ByteArray} {at_ : Nat} {anc fin : Bool} {R : Except Nat (St × Bool)} {s : St} {vo ve vi : Value} {vs : List Value} (hR : R = .ok (s, fin)) (ho : s.opened = []) (h : RSt w0 rb w' p at_ anc fin s vo ve vi vs) {w2 : World} (hb : Below (w.heap.size) w' w2) (hk : ∀ b, w0.heap.size ≤ b → w2.heap[b]? = w'.heap[b]?) (hs : w2.heap.size = w'.heap.size) :
    ParseEnd w anc R (.returned (.tuple #[.agg #[vi, .int .i64 s.caps, .bool anc, .bool fin], .int .i64 0])) w2 := by
  subst hR
  have hsz := hw.size
  refine ⟨(hw.trans (h.below.mono hsz)).trans hb, ?_⟩
  simp only [ho, if_true]
  refine ⟨vi, vs, rfl, h.il, ?_, ?_⟩
  · have oi := ownsRow_keep (w3 := w2) h.oi (fun g e => hk g (ownBlock_lt h.oi e).1)
    exact ownsRow_base oi hsz
  · exact itemsOK_all (h.its.step (by omega) (fun b hb _ _ => hk b hb) (fun b hb => .inl hb)) hsz
theorem ParseEnd.left {w w' : World} {anc fin : Bool} {R : Except Nat (St × Bool)} {s : St} (hR : R = .ok (s, fin)) (ho : ¬ s.opened = []) (hb : Below w.heap.size w w') : ParseEnd w anc R (.returned (.tuple #[.agg #[.slice none 0 0, .int .i64 0, .bool false, .bool false], .int .i64 4])) w' := by
  subst hR
  refine ⟨hb, ?_⟩
  simp only [ho, if_false]

set_option maxRecDepth 100000 in
set_option maxHeartbeats 4000000 in
theorem parse_go (p : ByteArray) (hp : p.size ≤ 5000) (w : World) (anc : Bool) (at0 : Nat) (hst : (p.size = 0 ∧ anc = false ∧ at0 = 0) ∨ (∃ h : 0 < p.size, ¬ p[0].toNat = 94 ∧ anc = false ∧ at0 = 0) ∨ (∃ h : 0 < p.size, p[0].toNat = 94 ∧ anc = true ∧ at0 = 1)) :
    Calls Tryd.prog 27 #[.string p] w (ParseEnd w anc (parseGo ((bytesOf p).drop at0).length ((bytesOf p).drop at0) St.zero)) := by
  have hat0 : at0 ≤ p.size := by rcases hst with ⟨_, _, h⟩ | ⟨_, _, _, h⟩ | ⟨_, _, _, h⟩ <;> omega
  have hrs := rstart (w.alloc (.cells #[.slice none 0 0, .int .i64 0, .bool false, .bool false] 49)) (w.heap.size + 1) (by simp) p at0 anc
  have hw0 : Below w.heap.size w (w.alloc (.cells #[.slice none 0 0, .int .i64 0, .bool false, .bool false] 49)) := (Below.refl _ _).alloc (Nat.le_refl _) _
  have hres : (w.alloc (.cells #[.slice none 0 0, .int .i64 0, .bool false, .bool false] 49)).heap[w.heap.size]? = some (.cells #[.slice none 0 0, .int .i64 0, .bool false, .bool false] 49) := heap_new _ _
  have hsz0 : (w.alloc (.cells #[.slice none 0 0, .int .i64 0, .bool false, .bool false] 49)).heap.size = w.heap.size + 1 := by simp
  have hstart : ∀ R, parseGo ((bytesOf p).drop at0).length ((bytesOf p).drop at0) St.zero = R → ParseRel (w.alloc (.cells #[.slice none 0 0, .int .i64 0, .bool false, .bool false] 49)) (w.heap.size + 1) p anc R (p.size - at0) ((w.alloc (.cells #[.slice none 0 0, .int .i64 0, .bool false, .bool false] 49)).alloc (.cells #[.string p, .int .i64 at0, .slice none 0 0, .slice none 0 0, .slice none 0 0, .int .i64 0, .bool anc, .bool false] 89)) :=
    fun R hR => ⟨at0, false, St.zero, rfl, hat0, ⟨_, _, _, _, hrs⟩, ⟨rfl, by decide, fun n hn => (by cases hn), by decide⟩, by simp [St.zero], .inl ⟨rfl, hR⟩⟩
  generalize HR : parseGo ((bytesOf p).drop at0).length ((bytesOf p).drop at0) St.zero = R at hstart ⊢
  have HS := Lib.hid (hstart R rfl)
  obtain ⟨w0, hw0e⟩ : ∃ w0, w0 = w.alloc (.cells #[.slice none 0 0, .int .i64 0, .bool false, .bool false] 49) := ⟨_, rfl⟩
  rw [← hw0e] at hw0 hres hsz0 HS
  have HW0 := Lib.hid hw0
  have HRES := Lib.hid hres
  have HSZ := Lib.hid hsz0
  have HE := Lib.hid hw0e
  clear hstart HR hrs hw0 hres hsz0 hw0e
  rcases hst with ⟨h0, hanc, hat⟩ | ⟨hl, h94, hanc, hat⟩ | ⟨hl, h94, hanc, hat⟩
  focus
    have e1 : (!p.toList.isEmpty) = false := by rw [toList_nil h0]; rfl
    have HA := Lib.hid hanc
    have HT := Lib.hid hat
    clear hanc hat
    clear h0
    go_enter Tryd.func27, Tryd.ntmps27
    go_wp2
    rw [← HE.out]
    clear e1
  rotate_left
  focus
    have t94 : ((p[0].toNat : Int) == 94) = false := by rw [beq_eq_false_iff_ne]; omega
    have e1 : (!p.toList.isEmpty) = true := by simpa using toList_ne hl
    have HA := Lib.hid hanc
    have HT := Lib.hid hat
    clear hanc hat
    clear h94
    go_enter Tryd.func27, Tryd.ntmps27
    go_wp2
    rw [← HE.out]
    clear e1 t94
  rotate_left
  focus
    have t94 : ((p[0].toNat : Int) == 94) = true := by rw [h94]; rfl
    have e1 : (!p.toList.isEmpty) = true := by simpa using toList_ne hl
    have HA := Lib.hid hanc
    have HT := Lib.hid hat
    clear hanc hat
    clear h94
    go_enter Tryd.func27, Tryd.ntmps27
    go_wp2
    rw [← HE.out]
    clear e1 t94
  rotate_left
  all_goals
    go_loopg [5] (p.size - at0) (fun g _ wr => ParseRel w0 (w.heap.size + 1) p anc R g wr)
    case atStart =>
      have h := HS.out
      rw [HE.out, HA.out, HT.out] at h
      rw [HE.out, HA.out, HT.out]
      exact h
    case round =>
      clear HS
      obtain ⟨at_, fin, s, rfl, hle, ⟨vo, ve, vi, vs, hR⟩, hwf, hi, hcase⟩ := hrel
      have hrb := hR.rb1
      have r1 : wr.cell? ⟨w.heap.size + 1, 1, none⟩ = some (.int .i64 at_) := by rw [cell_of_heap hR.hr]; rfl
      have HRR := Lib.hid hR
      have HWF := Lib.hid hwf
      clear hwf
      by_cases hlt : at_ < p.size
      · obtain ⟨rfl, hgo⟩ : fin = false ∧ parseGo ((bytesOf p).drop at_).length ((bytesOf p).drop at_) s = R := hcase.elim id (fun h => by omega)
        have HGO := Lib.hid hgo
        clear hgo hcase hR
        by_cases hb : p[at_].toNat = 40 ∨ p[at_].toNat = 41
        · have HD := Lib.hid (show ¬ (p[at_].toNat = 36 ∧ (bytesOf p).drop (at_ + 1) = []) from fun h => by omega)
          have HSM := Lib.hid (show stepM p[at_].toNat ((bytesOf p).drop (at_ + 1)) s = bracketM p[at_].toNat ((bytesOf p).drop (at_ + 1)) s from by simp only [stepM, hb, if_true])
          obtain ⟨b40, hb40⟩ : ∃ b, ((p[at_].toNat : Int) == 40) = b := ⟨_, rfl⟩
          obtain ⟨b41, hb41⟩ : ∃ b, ((p[at_].toNat : Int) == 41) = b := ⟨_, rfl⟩
          have hbb : (b40 = true) ∨ (b40 = false ∧ b41 = true) := by
            rcases hb with h | h
            · left; rw [← hb40, h]; rfl
            · right; rw [← hb40, ← hb41, h]; exact ⟨rfl, rfl⟩
          clear hb
          rcases hbb with rfl | ⟨rfl, rfl⟩
          all_goals
            go_wp2_with fail
            refine (bracket_c HRR.out HWF.out hlt hp hi).mono ?_
            intro e w1 hpost
            cases hbm : bracketM p[at_].toNat ((bytesOf p).drop (at_ + 1)) s with
            | error c =>
              rw [hbm] at hpost
              obtain ⟨rfl, hbel⟩ := hpost
              have ER := Lib.hid (ParseRel.bad (p := p) hlt HD.out HGO.out (by rw [HSM.out]; exact hbm))
              have hz : w1.heap[w.heap.size]? = some (.cells #[.slice none 0 0, .int .i64 0, .bool false, .bool false] 49) := (hbel.block w.heap.size (by rw [HSZ.out]; omega)).trans HRES.out
              have q0 : w1.cell? ⟨w.heap.size, 0, none⟩ = some (.slice none 0 0) := by rw [cell_of_heap hz]; rfl
              have q1 : w1.cell? ⟨w.heap.size, 1, none⟩ = some (.int .i64 0) := by rw [cell_of_heap hz]; rfl
              have q2 : w1.cell? ⟨w.heap.size, 2, none⟩ = some (.bool false) := by rw [cell_of_heap hz]; rfl
              have q3 : w1.cell? ⟨w.heap.size, 3, none⟩ = some (.bool false) := by rw [cell_of_heap hz]; rfl
              have z0 : w1.frozen? ⟨w.heap.size, 0, none⟩ = false := by simp [World.frozen?, hz]
              have z1 : w1.frozen? ⟨w.heap.size, 1, none⟩ = false := by simp [World.frozen?, hz]
              have z2 : w1.frozen? ⟨w.heap.size, 2, none⟩ = false := by simp [World.frozen?, hz]
              have z3 : w1.frozen? ⟨w.heap.size, 3, none⟩ = false := by simp [World.frozen?, hz]
              have HBE := Lib.hid (HW0.out.trans (hbel.mono HW0.out.size))
              clear hz hbel
              rcases bracket_e hbm with rfl | rfl
              · clear hbm
                go_wp2
                refine bodyPost_ret (v := .tuple #[.agg #[.slice none 0 0, .int .i64 0, .bool false, .bool false], .int .i64 3]) (by simp [results, Tryd.results27, go_sem, q0, q1, q2, q3]) rfl ?_
                exact ParseEnd.err (c := 3) ER.out ((((HBE.out.setCell (p := ⟨w.heap.size, 0, none⟩) (by simp) _).setCell (p := ⟨w.heap.size, 1, none⟩) (by simp) _).setCell (p := ⟨w.heap.size, 2, none⟩) (by simp) _).setCell (p := ⟨w.heap.size, 3, none⟩) (by simp) _)
              · clear hbm
                go_wp2
                refine bodyPost_ret (v := .tuple #[.agg #[.slice none 0 0, .int .i64 0, .bool false, .bool false], .int .i64 4]) (by simp [results, Tryd.results27, go_sem, q0, q1, q2, q3]) rfl ?_
                exact ParseEnd.err (c := 4) ER.out ((((HBE.out.setCell (p := ⟨w.heap.size, 0, none⟩) (by simp) _).setCell (p := ⟨w.heap.size, 1, none⟩) (by simp) _).setCell (p := ⟨w.heap.size, 2, none⟩) (by simp) _).setCell (p := ⟨w.heap.size, 3, none⟩) (by simp) _)
            | ok q =>
              obtain ⟨s', m⟩ := q
              rw [hbm] at hpost
              obtain ⟨rfl, hpost⟩ := hpost
              obtain ⟨N1, N2⟩ := ParseRel.next (p := p) hlt HWF.out hi HD.out HGO.out (by rw [HSM.out]; exact hbm) rfl hpost
              have HN := Lib.hid N1
              clear hbm hpost N1
              go_wp2
              go_roundg (p.size - (at_ + m))
              case measure => exact N2
              case rel => exact HN.out
        · have t40 : ((p[at_].toNat : Int) == 40) = false := by rw [beq_eq_false_iff_ne]; omega
          have t41 : ((p[at_].toNat : Int) == 41) = false := by rw [beq_eq_false_iff_ne]; omega
          by_cases hpc : p[at_].toNat = 37
          · have t37 : ((p[at_].toNat : Int) == 37) = true := by rw [hpc]; rfl
            have HD := Lib.hid (show ¬ (p[at_].toNat = 36 ∧ (bytesOf p).drop (at_ + 1) = []) from fun h => by omega)
            have HST := Lib.hid (show stepM p[at_].toNat ((bytesOf p).drop (at_ + 1)) s = match percentM ((bytesOf p).drop (at_ + 1)) s with | some R => R | none => singleM p[at_].toNat ((bytesOf p).drop (at_ + 1)) s from by unfold stepM; rw [if_neg hb, if_pos hpc]; cases percentM ((bytesOf p).drop (at_ + 1)) s <;> rfl)
            clear hb hpc
            go_wp2_with fail
            refine (percent_c HRR.out HWF.out hlt hp hi).mono ?_
            intro e w1 hpost
            cases hpm : percentM ((bytesOf p).drop (at_ + 1)) s with
            | none =>
              rw [hpm] at hpost
              obtain ⟨rfl, vo', ve', vi', vs', hR1⟩ := hpost
              have HSM := Lib.hid (HST.out.trans (by rw [hpm]))
              have hlt2 : at_ + 1 < p.size := by
                apply Classical.byContradiction
                intro hn
                rw [bytesOf_end p (at_ + 1) (by omega)] at hpm
                cases hpm
              have HR1 := Lib.hid hR1
              clear hpm hR1
              go_wp2_with fail
              refine (single_c HR1.out hlt hp hi (fun _ => hlt2)).mono ?_
              intro e w1 hpost
              cases hbm : singleM p[at_].toNat ((bytesOf p).drop (at_ + 1)) s with
              | error c =>
                rw [hbm] at hpost
                obtain ⟨rfl, hbel⟩ := hpost
                have ER := Lib.hid (ParseRel.bad (p := p) hlt HD.out HGO.out (by rw [HSM.out]; exact hbm))
                have hz : w1.heap[w.heap.size]? = some (.cells #[.slice none 0 0, .int .i64 0, .bool false, .bool false] 49) := (hbel.block w.heap.size (by rw [HSZ.out]; omega)).trans HRES.out
                have q0 : w1.cell? ⟨w.heap.size, 0, none⟩ = some (.slice none 0 0) := by rw [cell_of_heap hz]; rfl
                have q1 : w1.cell? ⟨w.heap.size, 1, none⟩ = some (.int .i64 0) := by rw [cell_of_heap hz]; rfl
                have q2 : w1.cell? ⟨w.heap.size, 2, none⟩ = some (.bool false) := by rw [cell_of_heap hz]; rfl
                have q3 : w1.cell? ⟨w.heap.size, 3, none⟩ = some (.bool false) := by rw [cell_of_heap hz]; rfl
                have z0 : w1.frozen? ⟨w.heap.size, 0, none⟩ = false := by simp [World.frozen?, hz]
                have z1 : w1.frozen? ⟨w.heap.size, 1, none⟩ = false := by simp [World.frozen?, hz]
                have z2 : w1.frozen? ⟨w.heap.size, 2, none⟩ = false := by simp [World.frozen?, hz]
                have z3 : w1.frozen? ⟨w.heap.size, 3, none⟩ = false := by simp [World.frozen?, hz]
                have HBE := Lib.hid (HW0.out.trans (hbel.mono HW0.out.size))
                clear hz hbel
                obtain rfl := single_e hbm
                clear hbm
                go_wp2
                refine bodyPost_ret (v := .tuple #[.agg #[.slice none 0 0, .int .i64 0, .bool false, .bool false], .int .i64 4]) (by simp [results, Tryd.results27, go_sem, q0, q1, q2, q3]) rfl ?_
                exact ParseEnd.err (c := 4) ER.out ((((HBE.out.setCell (p := ⟨w.heap.size, 0, none⟩) (by simp) _).setCell (p := ⟨w.heap.size, 1, none⟩) (by simp) _).setCell (p := ⟨w.heap.size, 2, none⟩) (by simp) _).setCell (p := ⟨w.heap.size, 3, none⟩) (by simp) _)
              | ok q =>
                obtain ⟨s', m⟩ := q
                rw [hbm] at hpost
                obtain ⟨rfl, hpost⟩ := hpost
                obtain ⟨N1, N2⟩ := ParseRel.next (p := p) hlt HWF.out hi HD.out HGO.out (by rw [HSM.out]; exact hbm) rfl hpost
                have HN := Lib.hid N1
                clear hbm hpost N1
                go_wp2
                go_roundg (p.size - (at_ + m))
                case measure => exact N2
                case rel => exact HN.out
            | some RR =>
              rw [hpm] at hpost
              have HSM := Lib.hid (HST.out.trans (by rw [hpm]))
              cases RR with
              | error c =>
                obtain ⟨rfl, hbel⟩ := hpost
                have ER := Lib.hid (ParseRel.bad (p := p) hlt HD.out HGO.out HSM.out)
                have hz : w1.heap[w.heap.size]? = some (.cells #[.slice none 0 0, .int .i64 0, .bool false, .bool false] 49) := (hbel.block w.heap.size (by rw [HSZ.out]; omega)).trans HRES.out
                have q0 : w1.cell? ⟨w.heap.size, 0, none⟩ = some (.slice none 0 0) := by rw [cell_of_heap hz]; rfl
                have q1 : w1.cell? ⟨w.heap.size, 1, none⟩ = some (.int .i64 0) := by rw [cell_of_heap hz]; rfl
                have q2 : w1.cell? ⟨w.heap.size, 2, none⟩ = some (.bool false) := by rw [cell_of_heap hz]; rfl
                have q3 : w1.cell? ⟨w.heap.size, 3, none⟩ = some (.bool false) := by rw [cell_of_heap hz]; rfl
                have z0 : w1.frozen? ⟨w.heap.size, 0, none⟩ = false := by simp [World.frozen?, hz]
                have z1 : w1.frozen? ⟨w.heap.size, 1, none⟩ = false := by simp [World.frozen?, hz]
                have z2 : w1.frozen? ⟨w.heap.size, 2, none⟩ = false := by simp [World.frozen?, hz]
                have z3 : w1.frozen? ⟨w.heap.size, 3, none⟩ = false := by simp [World.frozen?, hz]
                have HBE := Lib.hid (HW0.out.trans (hbel.mono HW0.out.size))
                clear hz hbel
                obtain rfl := percent_e hpm
                clear hpm
                go_wp2
                refine bodyPost_ret (v := .tuple #[.agg #[.slice none 0 0, .int .i64 0, .bool false, .bool false], .int .i64 4]) (by simp [results, Tryd.results27, go_sem, q0, q1, q2, q3]) rfl ?_
                exact ParseEnd.err (c := 4) ER.out ((((HBE.out.setCell (p := ⟨w.heap.size, 0, none⟩) (by simp) _).setCell (p := ⟨w.heap.size, 1, none⟩) (by simp) _).setCell (p := ⟨w.heap.size, 2, none⟩) (by simp) _).setCell (p := ⟨w.heap.size, 3, none⟩) (by simp) _)
              | ok q =>
                obtain ⟨s', m⟩ := q
                obtain ⟨rfl, hpost⟩ := hpost
                obtain ⟨N1, N2⟩ := ParseRel.next (p := p) hlt HWF.out hi HD.out HGO.out HSM.out rfl hpost
                have HN := Lib.hid N1
                clear hpm hpost N1
                go_wp2
                go_roundg (p.size - (at_ + m))
                case measure => exact N2
                case rel => exact HN.out
          · have t37 : ((p[at_].toNat : Int) == 37) = false := by rw [beq_eq_false_iff_ne]; omega
            have HSM := Lib.hid (show stepM p[at_].toNat ((bytesOf p).drop (at_ + 1)) s = singleM p[at_].toNat ((bytesOf p).drop (at_ + 1)) s from by simp only [stepM, hb, if_false, hpc])
            have HPC := Lib.hid hpc
            by_cases hdol : p[at_].toNat = 36 ∧ at_ + 1 = p.size
            · obtain ⟨h36, hend⟩ := hdol
              have hRok : R = .ok (s, true) := by
                have := HGO.out
                rw [bytesOf_drop p at_ hlt, bytesOf_end p (at_ + 1) (by omega), h36] at this
                exact this.symm
              have t36 : ((p[at_].toNat : Int) == 36) = true := by rw [h36]; rfl
              have tend : ((at_ : Int) == (p.size : Int) - 1) = true := by rw [beq_iff_eq]; omega
              have r7 : wr.cell? ⟨w.heap.size + 1, 7, none⟩ = some (.bool false) := by rw [cell_of_heap HRR.out.hr]; rfl
              have f7 := HRR.out.frozen 7
              have f1 := HRR.out.frozen 1
              have HX := Lib.hid ((HRR.out.setr (k := 7) (u := .bool true) (at' := at_) (anc' := anc) (fin' := true) (caps' := s.caps) (by rfl)).setr (k := 1) (u := .int .i64 ((at_ : Int) + 1)) (at' := at_ + 1) (anc' := anc) (fin' := true) (caps' := s.caps) (by rfl))
              have HN := Lib.hid hRok
              clear hRok h36 hb hpc
              go_wp2
              go_roundg (p.size - (at_ + 1))
              case measure => omega
              case rel => exact ⟨at_ + 1, true, s, rfl, by omega, ⟨_, _, _, _, HX.out⟩, HWF.out, by omega, .inr ⟨hend, HN.out⟩⟩
            · have HD := Lib.hid (show ¬ (p[at_].toNat = 36 ∧ (bytesOf p).drop (at_ + 1) = []) from fun h => hdol ⟨h.1, by
                have := congrArg List.length h.2
                rw [List.length_drop, bytesOf_length] at this
                simp at this; omega⟩)
              have hdd : ((p[at_].toNat : Int) == 36) = false ∨ (((p[at_].toNat : Int) == 36) = true ∧ ((at_ : Int) == (p.size : Int) - 1) = false) := by
                by_cases h : p[at_].toNat = 36
                · exact .inr ⟨by rw [h]; rfl, by rw [beq_eq_false_iff_ne]; omega⟩
                · exact .inl (by rw [beq_eq_false_iff_ne]; omega)
              clear hb hpc hdol
              rcases hdd with t36 | ⟨t36, tend⟩
              all_goals
                go_wp2_with fail
                refine (single_c HRR.out hlt hp hi (fun h => absurd h HPC.out)).mono ?_
                intro e w1 hpost
                cases hbm : singleM p[at_].toNat ((bytesOf p).drop (at_ + 1)) s with
                | error c =>
                  rw [hbm] at hpost
                  obtain ⟨rfl, hbel⟩ := hpost
                  have ER := Lib.hid (ParseRel.bad (p := p) hlt HD.out HGO.out (by rw [HSM.out]; exact hbm))
                  have hz : w1.heap[w.heap.size]? = some (.cells #[.slice none 0 0, .int .i64 0, .bool false, .bool false] 49) := (hbel.block w.heap.size (by rw [HSZ.out]; omega)).trans HRES.out
                  have q0 : w1.cell? ⟨w.heap.size, 0, none⟩ = some (.slice none 0 0) := by rw [cell_of_heap hz]; rfl
                  have q1 : w1.cell? ⟨w.heap.size, 1, none⟩ = some (.int .i64 0) := by rw [cell_of_heap hz]; rfl
                  have q2 : w1.cell? ⟨w.heap.size, 2, none⟩ = some (.bool false) := by rw [cell_of_heap hz]; rfl
                  have q3 : w1.cell? ⟨w.heap.size, 3, none⟩ = some (.bool false) := by rw [cell_of_heap hz]; rfl
                  have z0 : w1.frozen? ⟨w.heap.size, 0, none⟩ = false := by simp [World.frozen?, hz]
                  have z1 : w1.frozen? ⟨w.heap.size, 1, none⟩ = false := by simp [World.frozen?, hz]
                  have z2 : w1.frozen? ⟨w.heap.size, 2, none⟩ = false := by simp [World.frozen?, hz]
                  have z3 : w1.frozen? ⟨w.heap.size, 3, none⟩ = false := by simp [World.frozen?, hz]
                  have HBE := Lib.hid (HW0.out.trans (hbel.mono HW0.out.size))
                  clear hz hbel
                  obtain rfl := single_e hbm
                  clear hbm
                  go_wp2
                  refine bodyPost_ret (v := .tuple #[.agg #[.slice none 0 0, .int .i64 0, .bool false, .bool false], .int .i64 4]) (by simp [results, Tryd.results27, go_sem, q0, q1, q2, q3]) rfl ?_
                  exact ParseEnd.err (c := 4) ER.out ((((HBE.out.setCell (p := ⟨w.heap.size, 0, none⟩) (by simp) _).setCell (p := ⟨w.heap.size, 1, none⟩) (by simp) _).setCell (p := ⟨w.heap.size, 2, none⟩) (by simp) _).setCell (p := ⟨w.heap.size, 3, none⟩) (by simp) _)
                | ok q =>
                  obtain ⟨s', m⟩ := q
                  rw [hbm] at hpost
                  obtain ⟨rfl, hpost⟩ := hpost
                  obtain ⟨N1, N2⟩ := ParseRel.next (p := p) hlt HWF.out hi HD.out HGO.out (by rw [HSM.out]; exact hbm) rfl hpost
                  have HN := Lib.hid N1
                  clear hbm hpost N1
                  go_wp2
                  go_roundg (p.size - (at_ + m))
                  case measure => exact N2
                  case rel => exact HN.out
      · have hRok : R = .ok (s, fin) := by
          rcases hcase with ⟨rfl, h⟩ | ⟨_, h⟩
          · rw [bytesOf_end p at_ (by omega)] at h; exact h.symm
          · exact h
        have hz : wr.heap[w.heap.size]? = some (.cells #[.slice none 0 0, .int .i64 0, .bool false, .bool false] 49) := (hR.below.block w.heap.size (by rw [HSZ.out]; omega)).trans HRES.out
        have q0 : wr.cell? ⟨w.heap.size, 0, none⟩ = some (.slice none 0 0) := by rw [cell_of_heap hz]; rfl
        have q1 : wr.cell? ⟨w.heap.size, 1, none⟩ = some (.int .i64 0) := by rw [cell_of_heap hz]; rfl
        have q2 : wr.cell? ⟨w.heap.size, 2, none⟩ = some (.bool false) := by rw [cell_of_heap hz]; rfl
        have q3 : wr.cell? ⟨w.heap.size, 3, none⟩ = some (.bool false) := by rw [cell_of_heap hz]; rfl
        have z0 : wr.frozen? ⟨w.heap.size, 0, none⟩ = false := by simp [World.frozen?, hz]
        have z1 : wr.frozen? ⟨w.heap.size, 1, none⟩ = false := by simp [World.frozen?, hz]
        have z2 : wr.frozen? ⟨w.heap.size, 2, none⟩ = false := by simp [World.frozen?, hz]
        have z3 : wr.frozen? ⟨w.heap.size, 3, none⟩ = false := by simp [World.frozen?, hz]
        have HBE := Lib.hid (HW0.out.trans (hR.below.mono HW0.out.size))
        have r2 : wr.cell? ⟨w.heap.size + 1, 2, none⟩ = some vo := by rw [cell_of_heap hR.hr]; rfl
        have r4 : wr.cell? ⟨w.heap.size + 1, 4, none⟩ = some vi := by rw [cell_of_heap hR.hr]; rfl
        have r5 : wr.cell? ⟨w.heap.size + 1, 5, none⟩ = some (.int .i64 s.caps) := by rw [cell_of_heap hR.hr]; rfl
        have r6 : wr.cell? ⟨w.heap.size + 1, 6, none⟩ = some (.bool anc) := by rw [cell_of_heap hR.hr]; rfl
        have r7 : wr.cell? ⟨w.heap.size + 1, 7, none⟩ = some (.bool fin) := by rw [cell_of_heap hR.hr]; rfl
        have HN := Lib.hid hRok
        have hlen := HWF.out.ol
        have hc16 := HWF.out.c16
        by_cases ho : s.opened = []
        · obtain ⟨ao, cap, rfl⟩ : ∃ ao cap, vo = .slice ao 0 cap := by
            rcases hR.oo.2 with ⟨e, _⟩ | ⟨g, cap, cur, e, _⟩
            · exact ⟨_, _, e⟩
            · exact ⟨_, _, by rw [e, ho]; rfl⟩
          obtain ⟨ai, li, ci, rfl⟩ : ∃ ai li ci, vi = .slice ai li ci := by
            rcases hR.oi.2 with ⟨e, _⟩ | ⟨g, cap, cur, e, _⟩
            · exact ⟨_, _, _, e⟩
            · exact ⟨_, _, _, e⟩
          have HO := Lib.hid ho
          clear hRok hz hcase hR ho
          go_wp2
          refine bodyPost_ret (v := .tuple #[.agg #[.slice ai li ci, .int .i64 s.caps, .bool anc, .bool fin], .int .i64 0]) (by simp [results, Tryd.results27, go_sem, q0, q1, q2, q3]) rfl ?_
          refine ParseEnd.ok HW0.out HN.out HO.out HRR.out ?_ (fun b hb => ?_) (by simp)
          · exact ((((Below.refl _ _).setCell (p := ⟨w.heap.size, 0, none⟩) (by simp) _).setCell (p := ⟨w.heap.size, 1, none⟩) (by simp) _).setCell (p := ⟨w.heap.size, 2, none⟩) (by simp) _).setCell (p := ⟨w.heap.size, 3, none⟩) (by simp) _
          · have hne : b ≠ w.heap.size := by have := HSZ.out; omega
            rw [Below.heap_setCell _ _ _ _ hne, Below.heap_setCell _ _ _ _ hne, Below.heap_setCell _ _ _ _ hne, Below.heap_setCell _ _ _ _ hne]
        · obtain ⟨g, cap, rfl⟩ := slice_shape hR.oo (List.length_pos_iff.2 ho)
          have hpos := List.length_pos_iff.2 ho
          have HO := Lib.hid ho
          clear hRok hz hcase hR ho
          go_wp2
          refine bodyPost_ret (v := .tuple #[.agg #[.slice none 0 0, .int .i64 0, .bool false, .bool false], .int .i64 4]) (by simp [results, Tryd.results27, go_sem, q0, q1, q2, q3]) rfl ?_
          exact ParseEnd.left HN.out HO.out ((((HBE.out.setCell (p := ⟨w.heap.size, 0, none⟩) (by simp) _).setCell (p := ⟨w.heap.size, 1, none⟩) (by simp) _).setCell (p := ⟨w.heap.size, 2, none⟩) (by simp) _).setCell (p := ⟨w.heap.size, 3, none⟩) (by simp) _)

/-- What (27) 'parse' does. -/
def ParsePost (w : World) (p : ByteArray) (e : Ending) (w' : World) : Prop :=
  Below w.heap.size w w' ∧ match parseM (bytesOf p) with
    | .error c => e = .returned (.tuple #[.agg #[.slice none 0 0, .int .i64 0, .bool false, .bool false], .int .i64 c])
    | .ok (s, anc, fin) => ∃ vi vs, e = .returned (.tuple #[.agg #[vi, .int .i64 s.caps, .bool anc, .bool fin], .int .i64 0]) ∧ vs.length = s.items.length ∧
        w'.ownsRow w.heap.size 106 6 vi s.items.length (rowOf s.items vs) ∧ ItemsOK w' w.heap.size (fun _ => False) s.items vs
theorem parsePost_of {w : World} {p : ByteArray} {e : Ending} {w' : World} {anc : Bool} {at0 : Nat} (h : ParseEnd w anc (parseGo ((bytesOf p).drop at0).length ((bytesOf p).drop at0) St.zero) e w')
    (ha : ((bytesOf p).head? == some 94) = anc) (hr : (if ((bytesOf p).head? == some 94) = true then (bytesOf p).tail else bytesOf p) = (bytesOf p).drop at0) : ParsePost w p e w' := by
  refine ⟨h.1, ?_⟩
  have h2 := h.2
  unfold parseM
  simp only [hr]
  cases hg : parseGo ((bytesOf p).drop at0).length ((bytesOf p).drop at0) St.zero with
  | error c => rw [hg] at h2; exact h2
  | ok q =>
    obtain ⟨s, fin⟩ := q
    rw [hg] at h2
    simp only [] at h2 ⊢
    by_cases ho : s.opened = []
    · simp only [ho, if_true] at h2 ⊢
      rw [ha]
      exact h2
    · simp only [ho, if_false] at h2 ⊢
      exact h2
theorem parse_c (p : ByteArray) (hp : p.size ≤ 5000) (w : World) : Calls Tryd.prog 27 #[.string p] w (ParsePost w p) := by
  by_cases h0 : p.size = 0
  · have e : bytesOf p = [] := List.eq_nil_of_length_eq_zero (by rw [bytesOf_length]; exact h0)
    exact (parse_go p hp w false 0 (.inl ⟨h0, rfl, rfl⟩)).mono fun e w' h => parsePost_of h (by simp [*]) (by simp [*])
  · have hl : 0 < p.size := by omega
    have e := bytesOf_drop p 0 hl
    rw [List.drop_zero] at e
    by_cases h94 : p[0].toNat = 94
    · exact (parse_go p hp w true 1 (.inr (.inr ⟨hl, h94, rfl, rfl⟩))).mono fun _ w' h => parsePost_of h (by rw [e, h94]; rfl) (by rw [e, h94]; simp)
    · exact (parse_go p hp w false 0 (.inr (.inl ⟨hl, h94, rfl, rfl⟩))).mono fun _ w' h => parsePost_of h (by rw [e]; simp [h94]) (by rw [e]; simp [h94])
end Go.Proofs.YtpbhncmaamedhaaDoor
