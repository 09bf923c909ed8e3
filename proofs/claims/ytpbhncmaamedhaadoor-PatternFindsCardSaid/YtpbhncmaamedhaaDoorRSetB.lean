import Derived.Test.YtpbhncmaamedhaaDoorRP1
namespace Go.Proofs.YtpbhncmaamedhaaDoor
open Go.RowKit Go.Proofs.Lexi

/-! The reference's readSet (67). -/
theorem Tryd.info4b : (Tryd.prog.info? 4).map (fun i => (i.zero, i.size, i.bytes)) = some (some (.bool false), 1, 1) := by kernel_rfl
def noMark : Nat → Bool := fun _ => false
theorem make_marks (w : World) : (Instr.makeSlice 66 (.int .i64 256) (.int .i64 256)).run Tryd.prog w = .ok (.slice (some ⟨w.heap.size, 0, none⟩) 256 256) (w.alloc (.cells (setC noMark) 4)) := by
  obtain ⟨i0, hi, hz0, hz1, hz2⟩ := info_parts Tryd.info4b
  have := run_make (P := Tryd.prog) w 66 4 i0 _ Tryd.underlying66 hi hz0 .i64 .i64 256 256 (by omega) (by omega) (by rw [hz2]; omega) (by omega)
  rw [this]
  simp only [hz1]
  rw [show madeCells (Value.bool false).cells (Int.toNat 256 * 1) = setC noMark from by kernel_rfl]
  rfl
def anyOf (acc : List (Nat → Bool)) : Nat → Bool := fun c => acc.any fun S => S c
def SetRelR (p : ByteArray) (w : World) (k0 : Nat) (R : Option (List (Nat → Bool) × List Nat)) (gg : Nat) (vi vf : Value) (wr : World) : Prop :=
  ∃ (k : Nat) (acc : List (Nat → Bool)) (f : Bool), gg = p.size - k ∧ vi = .int .i64 (k : Int) ∧ vf = .bool f ∧ f = decide (k = k0) ∧ k0 ≤ k ∧ k ≤ p.size ∧ Below w.heap.size w wr ∧ RSet wr w.heap.size (anyOf acc) ∧ setGo f ((bytesOf p).drop k) acc = R
def SetEndR (w : World) (n : Nat) (nt : Bool) (R : Option (List (Nat → Bool) × List Nat)) (e : Ending) (w' : World) : Prop :=
  Below w.heap.size w w' ∧ match R with
    | none => e = .returned (.tuple #[.slice none 0 0, .int .i64 0, .bool false])
    | some (Ss, rest) => e = .returned (.tuple #[.slice (some ⟨w.heap.size, 0, none⟩) 256 256, .int .i64 ((n - rest.length : Nat) : Int), .bool true]) ∧ RSet w' w.heap.size (setRes Ss nt)
theorem SetEndR.no {w w' : World} {n : Nat} {nt : Bool} {R : Option (List (Nat → Bool) × List Nat)} (h : Below w.heap.size w w') (hR : R = none) : SetEndR w n nt R (.returned (.tuple #[.slice none 0 0, .int .i64 0, .bool false])) w' := by
  subst hR; exact ⟨h, rfl⟩
theorem SetEndR.yes {w w' : World} {p : ByteArray} {k : Nat} {nt : Bool} {R : Option (List (Nat → Bool) × List Nat)} {acc : List (Nat → Bool)} (h : Below w.heap.size w w') (hk : k < p.size)
    (hs : RSet w' w.heap.size (setRes acc nt)) (hR : R = some (acc, (bytesOf p).drop (k + 1))) : SetEndR w p.size nt R (.returned (.tuple #[.slice (some ⟨w.heap.size, 0, none⟩) 256 256, .int .i64 ((k : Int) + 1), .bool true])) w' := by
  subst hR
  refine ⟨h, ?_, hs⟩
  have : p.size - ((bytesOf p).drop (k + 1)).length = k + 1 := by rw [List.length_drop, bytesOf_length]; omega
  rw [this]; rfl
theorem SetRelR.start {p : ByteArray} {w : World} {k0 : Nat} (hk : k0 ≤ p.size) : SetRelR p w k0 (setGo true ((bytesOf p).drop k0) []) (p.size - k0) (.int .i64 (k0 : Int)) (.bool true) (w.alloc (.cells (setC noMark) 4)) :=
  ⟨k0, [], true, rfl, rfl, rfl, by simp, Nat.le_refl _, hk, (Below.refl _ _).alloc (Nat.le_refl _) _, heap_new _ _, rfl⟩
theorem SetRelR.next {p : ByteArray} {w wr : World} {k0 k j : Nat} {R : Option (List (Nat → Bool) × List Nat)} {acc : List (Nat → Bool)} (hk0 : k0 ≤ k) (hkj : k < j) (hj : j ≤ p.size) (hb : Below w.heap.size w wr) {S T : Nat → Bool}
    (hs : RSet wr w.heap.size T) (hT : ∀ c, c < 256 → T c = (anyOf acc c || S c)) (hR : setGo false ((bytesOf p).drop j) (acc ++ [S]) = R) : SetRelR p w k0 R (p.size - j) (.int .i64 (j : Int)) (.bool false) wr :=
  ⟨j, acc ++ [S], false, rfl, rfl, rfl, by simp; omega, by omega, hj, hb, hs.congr fun c hc => by rw [hT c hc]; simp [anyOf], hR⟩
/-- The loop over a range's bytes. -/
def RangeRel (wo : World) (b x y : Nat) (S : Nat → Bool) (gg : Nat) (v : Value) (wr : World) : Prop :=
  ∃ c : Nat, gg = 256 - c ∧ v = .int .i64 (c : Int) ∧ x ≤ c ∧ (c ≤ x ∨ c ≤ y + 1) ∧ wo.grownBy wr (some b) ∧ RSet wr b (fun j => S j || (decide (x ≤ j) && decide (j < c)))
theorem RangeRel.put {wo wr : World} {b x y : Nat} {S : Nat → Bool} {c : Nat} (hc : c ≤ y) (hx : x ≤ c) (hg : wo.grownBy wr (some b)) (hs : RSet wr b (fun j => S j || (decide (x ≤ j) && decide (j < c)))) :
    RangeRel wo b x y S (256 - (c + 1)) (.int .i64 ((c : Int) + 1)) (wr.setCell ⟨b, c, none⟩ (.bool true)) := by
  refine ⟨c + 1, rfl, rfl, by omega, by omega, grown_trans hg (grown_set _ _ _ _), (hs.set c true).congr fun j hj => ?_⟩
  unfold setAt
  by_cases e : j = c
  · subst e; simp [hx]
  · simp only [if_neg e]
    congr 2
    rw [Bool.eq_iff_iff]; simp; omega
theorem RangeRel.start {wo : World} {b x y : Nat} {S : Nat → Bool} (h : RSet wo b S) : RangeRel wo b x y S (256 - x) (.int .i64 (x : Int)) wo :=
  ⟨x, rfl, rfl, Nat.le_refl _, .inl (Nat.le_refl _), World.grownBy.refl _ _, h.congr fun j _ => by
    have : (decide (x ≤ j) && decide (j < x)) = false := by simp
    rw [this, Bool.or_false]⟩
/-- The loop that turns the marks. -/
def TurnRel (wo : World) (b : Nat) (nt : Bool) (S : Nat → Bool) (gg : Nat) (v : Value) (wr : World) : Prop :=
  ∃ c : Nat, gg = 256 - c ∧ v = .int .i64 (c : Int) ∧ c ≤ 256 ∧ wo.grownBy wr (some b) ∧ RSet wr b (fun j => if j < c then S j != nt else S j)
theorem TurnRel.put {wo wr : World} {b : Nat} {nt : Bool} {S : Nat → Bool} {c : Nat} (hc : c < 256) (hg : wo.grownBy wr (some b)) (hs : RSet wr b (fun j => if j < c then S j != nt else S j)) {u : Bool} (hu : u = (S c != nt)) :
    TurnRel wo b nt S (256 - (c + 1)) (.int .i64 ((c : Int) + 1)) (wr.setCell ⟨b, c, none⟩ (.bool u)) := by
  refine ⟨c + 1, rfl, rfl, by omega, grown_trans hg (grown_set _ _ _ _), (hs.set c u).congr fun j hj => ?_⟩
  unfold setAt
  by_cases e : j = c
  · subst e; simp [hu]
  · simp only [if_neg e]
    by_cases h : j < c
    · rw [if_pos h, if_pos (by omega)]
    · rw [if_neg h, if_neg (by omega)]
theorem TurnRel.start {wo : World} {b : Nat} {nt : Bool} {S : Nat → Bool} (h : RSet wo b S) : TurnRel wo b nt S 256 (.int .i64 0) wo :=
  ⟨0, rfl, rfl, Nat.zero_le _, World.grownBy.refl _ _, h.congr fun j _ => by simp⟩
theorem turn_res {w : World} {b : Nat} {nt : Bool} {acc : List (Nat → Bool)} {c : Nat} (hc : ¬ c < 256) (h : RSet w b (fun j => if j < c then anyOf acc j != nt else anyOf acc j)) : RSet w b (setRes acc nt) :=
  h.congr fun j hj => by
    rw [if_pos (by omega)]
    unfold setRes anyOf
    cases (acc.any fun S => S j) <;> cases nt <;> rfl
theorem below_row {w wo wr : World} {b : Nat} (h : Below w.heap.size w wo) (hb : w.heap.size ≤ b) (hg : wo.grownBy wr (some b)) : Below w.heap.size w wr :=
  ⟨hg.os.trans h.os, hg.tape.trans h.tape, hg.output.trans h.output, Nat.le_trans h.size hg.size, fun k hk => (hg.block k (by have := h.size; omega) (fun e => by injection e with e; omega)).trans (h.block k hk)⟩
set_option maxRecDepth 100000 in
set_option maxHeartbeats 8000000 in
theorem rset_loop (p : ByteArray) (at_ : Nat) (hat : at_ < p.size) (hp : p.size ≤ 5000) (w : World) (nt : Bool) (k0 : Nat) (hk0 : k0 ≤ p.size)
   (hst : (at_ + 1 < p.size ∧ (∃ h : at_ + 1 < p.size, p[at_ + 1].toNat = 94) ∧ nt = true ∧ k0 = at_ + 2) ∨ (at_ + 1 < p.size ∧ (∃ h : at_ + 1 < p.size, ¬ p[at_ + 1].toNat = 94) ∧ nt = false ∧ k0 = at_ + 1) ∨ (p.size ≤ at_ + 1 ∧ nt = false ∧ k0 = at_ + 1)) :
    Calls Tryd.prog 67 #[.string p, .int .i64 at_] w (SetEndR w p.size nt (setGo true ((bytesOf p).drop k0) [])) := by
  have hmk := make_marks
  have hstart := Lib.hid (SetRelR.start (p := p) (w := w) hk0)
  generalize HR : setGo true ((bytesOf p).drop k0) [] = R at *
  clear HR
  rcases hst with ⟨h1, ⟨_, h94⟩, hnt, hk⟩ | ⟨h1, ⟨_, h94⟩, hnt, hk⟩ | ⟨h1, hnt, hk⟩
  focus
    have h94' : (((p[at_ + 1]).toNat : Int) == 94) = true := by rw [h94]; rfl
    have HKK := Lib.hid (show ((k0 : Nat) : Int) = (at_ : Int) + 1 + 1 from by omega)
    have hq : k0 ≤ at_ + 2 := by omega
    have hq2 : at_ + 2 ≤ k0 := by omega
    clear h94 hk
    have HNT := Lib.hid hnt
    clear hnt
    go_enter Tryd.func67, Tryd.ntmps67
    go_wp2_with (simp only [hmk])
    clear h94'
  rotate_left
  focus
    have h94' : (((p[at_ + 1]).toNat : Int) == 94) = false := by rw [beq_eq_false_iff_ne]; omega
    have HKK := Lib.hid (show ((k0 : Nat) : Int) = (at_ : Int) + 1 from by omega)
    have hq : k0 ≤ at_ + 1 := by omega
    have hq2 : at_ + 1 ≤ k0 := by omega
    clear h94 hk
    have HNT := Lib.hid hnt
    clear hnt
    go_enter Tryd.func67, Tryd.ntmps67
    go_wp2_with (simp only [hmk])
    clear h94'
  rotate_left
  focus
    have HKK := Lib.hid (show ((k0 : Nat) : Int) = (at_ : Int) + 1 from by omega)
    have hq2 : at_ + 1 ≤ k0 := by omega
    clear hk
    have HNT := Lib.hid hnt
    clear hnt
    go_enter Tryd.func67, Tryd.ntmps67
    go_wp2_with (simp only [hmk])
    go_loopg [8, 10] (p.size - k0) (fun gg vi vf wr => SetRelR p w k0 R gg vi vf wr)
    case atStart => have h := hstart.out; rw [HKK.out] at h; exact h
    case round =>
      clear hstart
      obtain ⟨k, acc, f, rfl, rfl, rfl, hf, hk1, hk2, hb, hs, hR⟩ := hrel
      have hE := Lib.hid (SetEndR.no (R := R) (nt := nt) (n := p.size) hb (by rw [← hR, bytesOf_end p k (by omega)]; rfl))
      clear hb hR hs hf
      go_wp2
      go_ret3
      exact hE.out
  all_goals
    clear h1
    go_loopg [8, 10] (p.size - k0) (fun gg vi vf wr => SetRelR p w k0 R gg vi vf wr)
    case atStart => have h := hstart.out; rw [HKK.out] at h; exact h
    case round =>
      clear hstart HKK hmk
      obtain ⟨k, acc, f, rfl, rfl, rfl, hf, hk1, hk2, hb, hs, hR⟩ := hrel
      have HB := Lib.hid hb
      have HS := Lib.hid hs
      have HRR := Lib.hid hR
      have HF := Lib.hid hf
      clear hb hs hR hf
      by_cases hlt : k < p.size
      · have hb1 := UInt8.toNat_lt p[k]
        by_cases c93 : p[k].toNat = 93 ∧ f = false
        · obtain ⟨c93, rfl⟩ := c93
          have HR2 := Lib.hid (show R = some (acc, (bytesOf p).drop (k + 1)) by rw [← HRR.out, bytesOf_drop p k hlt, c93]; exact setGo_end _ _)
          have h93 : ((p[k].toNat : Int) == 93) = true := by rw [c93]; rfl
          clear c93 hb1
          obtain ⟨wo, rfl⟩ : ∃ wo : World, wo = wr := ⟨_, rfl⟩
          go_wp2
          go_loopg [11] 256 (fun gg v wr => TurnRel wo w.heap.size nt (anyOf acc) gg v wr)
          case atStart => exact TurnRel.start HS.out
          case round =>
            obtain ⟨c, rfl, rfl, hc, hg, hs⟩ := hrel
            have HG := Lib.hid hg
            have HS2 := Lib.hid hs
            by_cases hc2 : c < 256
            · have ccell := hs.cell hc2
              simp only [Nat.lt_irrefl, if_false] at ccell
              have cfz := hs.fz c
              clear hs hg
              have HN := Lib.hid (fun (u : Bool) (hu : u = (anyOf acc c != nt)) => TurnRel.put hc2 HG.out HS2.out hu)
              obtain ⟨v, hv⟩ : ∃ v, anyOf acc c = v := ⟨_, rfl⟩
              rw [hv] at ccell
              have HV := Lib.hid hv
              clear hv
              cases v
              all_goals
                go_wp2
                go_roundg (256 - (c + 1))
                case measure => omega
                case rel => exact HN.out _ (by rw [HV.out, HNT.out]; rfl)
            · have hge : ¬ ((c : Int) < 256) := by omega
              have HE := Lib.hid (SetEndR.yes (below_row HB.out (Nat.le_refl _) hg) hlt (turn_res hc2 hs) HR2.out)
              clear hs hg
              go_wp2
              go_ret3
              exact HE.out
        · by_cases c37 : p[k].toNat = 37
          · have h93 : ((p[k].toNat : Int) == 93) = false := by rw [beq_eq_false_iff_ne]; omega
            have h37 : ((p[k].toNat : Int) == 37) = true := by rw [c37]; rfl
            have HC := Lib.hid c37
            clear c37 c93
            by_cases hk3 : k + 1 < p.size
            · go_wp2_with fail
              refine (rpair_c w.heap.size _ (UInt8.toNat_lt _) (anyOf acc) _ HS.out).mono ?_
              rintro e w1 ⟨rfl, hg, hset⟩
              have hgo := HRR.out
              rw [bytesOf_drop p k hlt, HC.out, bytesOf_drop p (k + 1) hk3, setGo_pct] at hgo
              cases hps : pairS (p[k + 1].toNat) with
              | none =>
                rw [hps] at hgo
                have hE := Lib.hid (SetEndR.no (R := R) (nt := nt) (n := p.size) (below_row HB.out (Nat.le_refl _) hg) hgo.symm)
                clear hgo hset hps hg
                go_wp2
                go_ret3
                exact hE.out
              | some S =>
                rw [hps] at hgo
                have HN := Lib.hid (SetRelR.next (p := p) (R := R) hk1 (j := k + 2) (by omega) (by omega) (below_row HB.out (Nat.le_refl _) hg) (hset S hps) (fun _ _ => rfl) hgo)
                clear hgo hset hps hg
                go_wp2
                go_roundg (p.size - (k + 2))
                case measure => omega
                case rel => exact HN.out
            · have hE := Lib.hid (SetEndR.no (R := R) (nt := nt) (n := p.size) HB.out (by rw [← HRR.out, bytesOf_drop p k hlt, HC.out, bytesOf_end p (k + 1) (by omega)]; exact setGo_pct0 _ _))
              go_wp2
              go_ret3
              exact hE.out
          · have h37 : ((p[k].toNat : Int) == 37) = false := by rw [beq_eq_false_iff_ne]; omega
            have HNE := Lib.hid (show ¬ (p[k].toNat = 93 ∧ f = false) from c93)
            have HN37 := Lib.hid c37
            have hb : ((p[k].toNat : Int) == 93) = false ∨ (((p[k].toNat : Int) == 93) = true ∧ f = true) := by
              by_cases h : p[k].toNat = 93
              · refine .inr ⟨by rw [h]; rfl, ?_⟩
                cases f with
                | true => rfl
                | false => exact absurd ⟨h, rfl⟩ c93
              · exact .inl (by rw [beq_eq_false_iff_ne]; omega)
            have hgo := HRR.out
            rw [bytesOf_drop p k hlt] at hgo
            by_cases hr : ∃ (h : k + 2 < p.size), p[k + 1].toNat = 45 ∧ ¬ p[k + 2].toNat = 93
            · obtain ⟨hk4, h45, hn93⟩ := hr
              rw [bytesOf_drop p (k + 1) (by omega), bytesOf_drop p (k + 1 + 1) hk4, h45, setGo_range _ _ _ _ _ HNE.out HN37.out hn93] at hgo
              have t45 : ((p[k + 1].toNat : Int) == 45) = true := by rw [h45]; rfl
              have t93 : ((p[k + 2].toNat : Int) != 93) = true := by rw [bne_iff_ne]; omega
              have hb2 := UInt8.toNat_lt p[k + 2]
              have HGO := Lib.hid hgo
              clear h45 hn93 hgo c93 c37
              obtain ⟨wo, rfl⟩ : ∃ wo : World, wo = wr := ⟨_, rfl⟩
              have HIN : Hid (∀ (c : Nat) (wr : World), ¬ c ≤ p[k + 2].toNat → (c ≤ p[k].toNat ∨ c ≤ p[k + 2].toNat + 1) → wo.grownBy wr (some w.heap.size) → RSet wr w.heap.size (fun j => anyOf acc j || (decide (p[k].toNat ≤ j) && decide (j < c))) → SetRelR p w k0 R (p.size - (k + 3)) (.int .i64 ((k + 3 : Nat) : Int)) (.bool false) wr) := fun c wr h1 h2 hg hs =>
                SetRelR.next (S := rangeS p[k].toNat p[k + 2].toNat) hk1 (by omega) (by omega) (below_row HB.out (Nat.le_refl _) hg) hs (fun j _ => by
                  unfold rangeS
                  congr 1
                  rw [Bool.eq_iff_iff]; simp; omega) HGO.out
              rcases hb with tb | ⟨tb, rfl⟩
              all_goals
                go_wp2
                go_loopg [12] (256 - p[k].toNat) (fun gg v wr => RangeRel wo w.heap.size p[k].toNat p[k + 2].toNat (anyOf acc) gg v wr)
                case atStart => exact RangeRel.start HS.out
                case round =>
                  obtain ⟨c, rfl, rfl, hx, hy, hg, hs⟩ := hrel
                  by_cases hc2 : c ≤ p[k + 2].toNat
                  · have hc3 : c < 256 := by omega
                    have ccell := hs.cell hc3
                    have cfz := hs.fz c
                    have HN := Lib.hid (RangeRel.put hc2 hx hg hs)
                    clear hs hg
                    go_wp2
                    go_roundg (256 - (c + 1))
                    case measure => omega
                    case rel => exact HN.out
                  · have HN := Lib.hid (HIN.out c wr hc2 hy hg hs)
                    clear hs hg
                    go_wp2
                    go_roundg (p.size - (k + 3))
                    case measure => omega
                    case rel => exact HN.out
            · have hgo2 : setGo false ((bytesOf p).drop (k + 1)) (acc ++ [eqS p[k].toNat]) = R := by
                rw [setGo_one _ _ _ _ HNE.out HN37.out] at hgo
                · exact hgo
                · intro y r' e
                  by_cases h1 : k + 1 < p.size
                  · rw [bytesOf_drop p (k + 1) h1] at e
                    injection e with e1 e2
                    by_cases h2 : k + 2 < p.size
                    · rw [bytesOf_drop p (k + 1 + 1) h2] at e2
                      injection e2 with e2 _
                      rw [← e2]
                      by_cases h3 : p[k + 2].toNat = 93
                      · exact h3
                      · exact absurd ⟨h2, e1, h3⟩ hr
                    · rw [bytesOf_end p (k + 1 + 1) (by omega)] at e2; cases e2
                  · rw [bytesOf_end p (k + 1) (by omega)] at e; cases e
              have hways : (¬ k + 2 < p.size) ∨ (∃ h : k + 2 < p.size, ((p[k + 1].toNat : Int) == 45) = false) ∨ (∃ h : k + 2 < p.size, ((p[k + 1].toNat : Int) == 45) = true ∧ ((p[k + 2].toNat : Int) != 93) = false) := by
                by_cases h1 : k + 2 < p.size
                · by_cases h2 : p[k + 1].toNat = 45
                  · refine .inr (.inr ⟨h1, by rw [h2]; rfl, ?_⟩)
                    by_cases h3 : p[k + 2].toNat = 93
                    · rw [h3]; rfl
                    · exact absurd ⟨h1, h2, h3⟩ hr
                  · exact .inr (.inl ⟨h1, by rw [beq_eq_false_iff_ne]; omega⟩)
                · exact .inl h1
              have ccell := HS.out.cell hb1
              have cfz := HS.out.fz p[k].toNat
              have HN := Lib.hid (SetRelR.next (p := p) (R := R) hk1 (j := k + 1) (by omega) (by omega) (below_row HB.out (Nat.le_refl _) (grown_set _ _ _ _)) (HS.out.set p[k].toNat true) (S := eqS p[k].toNat) (fun j _ => by
                unfold setAt eqS
                by_cases e : j = p[k].toNat
                · rw [if_pos e]; simp [e]
                · rw [if_neg e]; simp [e]) hgo2)
              clear hgo2 hgo hr c93 c37
              rcases hb with tb | ⟨tb, rfl⟩ <;> rcases hways with hk4 | ⟨hk4, h45⟩ | ⟨hk4, h45, h93⟩
              all_goals
                go_wp2
                go_roundg (p.size - (k + 1))
                case measure => omega
                case rel => exact HN.out
      · have hE := Lib.hid (SetEndR.no (R := R) (nt := nt) (n := p.size) HB.out (by rw [← HRR.out, bytesOf_end p k (by omega)]; rfl))
        have hge : ¬ ((k : Int) < (p.size : Int)) := by omega
        go_wp2
        go_ret3
        exact hE.out
/-- What (67) readSet does. -/
def SetPostR (w : World) (p : ByteArray) (R : Option ((Nat → Bool) × List Nat)) (e : Ending) (w' : World) : Prop :=
  Below w.heap.size w w' ∧ match R with
    | none => e = .returned (.tuple #[.slice none 0 0, .int .i64 0, .bool false])
    | some (S, rest) => e = .returned (.tuple #[.slice (some ⟨w.heap.size, 0, none⟩) 256 256, .int .i64 ((p.size - rest.length : Nat) : Int), .bool true]) ∧ RSet w' w.heap.size S
theorem setPostR_of {w : World} {p : ByteArray} {at_ : Nat} {e : Ending} {w' : World} {nt : Bool} {R : Option (List (Nat → Bool) × List Nat)} (h : SetEndR w p.size nt R e w')
    (hR : setM ((bytesOf p).drop (at_ + 1)) = R.map (fun q => (setRes q.1 nt, q.2))) : SetPostR w p (setM ((bytesOf p).drop (at_ + 1))) e w' := by
  refine ⟨h.1, ?_⟩
  rw [hR]
  cases R with
  | none => exact h.2
  | some q => obtain ⟨Ss, rest⟩ := q; exact h.2
theorem readSet_c (p : ByteArray) (a : Int) (at_ : Nat) (ha : a = at_) (hat : at_ < p.size) (hp : p.size ≤ 5000) (w : World) : Calls Tryd.prog 67 #[.string p, .int .i64 a] w (SetPostR w p (setM ((bytesOf p).drop (at_ + 1)))) := by
  subst ha
  by_cases h1 : at_ + 1 < p.size
  · by_cases h2 : p[at_ + 1].toNat = 94
    · refine (rset_loop p at_ hat hp w true (at_ + 2) (by omega) (.inl ⟨h1, ⟨h1, h2⟩, rfl, rfl⟩)).mono fun e w' h => setPostR_of h ?_
      rw [bytesOf_drop p (at_ + 1) h1, h2]; rfl
    · refine (rset_loop p at_ hat hp w false (at_ + 1) (by omega) (.inr (.inl ⟨h1, ⟨h1, h2⟩, rfl, rfl⟩))).mono fun e w' h => setPostR_of h ?_
      rw [bytesOf_drop p (at_ + 1) h1]
      simp only [setM, if_neg h2]
  · refine (rset_loop p at_ hat hp w false (at_ + 1) (by omega) (.inr (.inr ⟨by omega, rfl, rfl⟩))).mono fun e w' h => setPostR_of h ?_
    rw [bytesOf_end p (at_ + 1) (by omega)]; rfl
end Go.Proofs.YtpbhncmaamedhaaDoor
