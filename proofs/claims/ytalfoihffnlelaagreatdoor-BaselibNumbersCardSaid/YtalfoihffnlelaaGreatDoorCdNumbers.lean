/- What is proved: BaselibNumbers returns true for every number and every base, in any memory, and leaves its arguments as they were; conditions: none of its own (the card's own laid tables). -/
import Derived.Test.YtalfoihffnlelaaGreatDoorCdNumbersK
import Derived.Test.YtalfoihffnlelaaGreatDoorNl
import Derived.Test.YtalfoihffnlelaaGreatDoorCards
import Derived.Test.YtalfoihffnlelaaGreatDoorTie
set_option linter.unusedVariables false
set_option linter.unusedSimpArgs false
set_option maxRecDepth 100000
namespace Go.Proofs.YtalfoihffnlelaaGreatDoor
open Go.ChangeShapes Go.WideShapes Go.ChangeAt Go.WideMaps Go.WideElems Go.RowKit Go.ChangeMaps
set_option maxRecDepth 100000 in
theorem open_num {H : Type} {enc : TypeId × Value → H} {w : World} {b0 : Nat} {sp : Nat → Bool} {v : Value} {d : DataW H} {ps : List MemPlace} (hval : Value.okWide Tryz.prog w .any b0 28 v) (h : DataW.Trod enc Tryz.prog w 0 sp true 28 v d ps) :
    ∃ p q : Int, v = .agg #[.int .i64 p, .int .i64 q] := by
  obtain ⟨fs, hfs, _⟩ := shape23
  obtain ⟨cs, rfl, _, _⟩ : ∃ cs, v = .agg cs ∧ cs.size = Tryz.prog.cellsOf 28 ∧ Row.okWide Tryz.prog w .any b0 28 cs := by
    unfold Value.okWide at hval
    rw [hfs] at hval
    exact hval
  obtain ⟨fuel, h⟩ := h
  obtain ⟨hl, m, hg⟩ := trod_field shape23 h
  rw [cells23] at hl
  obtain ⟨a, b, hab⟩ := list_two hl
  obtain ⟨z0, g0⟩ := hg 0 3 0 rfl
  obtain ⟨z1, g1⟩ := hg 1 3 1 rfl
  rw [cells3, hab] at g0 g1
  obtain ⟨p, hp, _, wp⟩ := DataW.trod_int Tryz.underlying3 g0
  obtain ⟨q, hq, _, wq⟩ := DataW.trod_int Tryz.underlying3 g1
  simp at hp hq
  refine ⟨p, q, ?_⟩
  have : cs = #[a, b] := by
    apply Array.toList_inj.1
    exact hab
  rw [this, hp, hq]
theorem u8_of_wf {n : Int} (h : (Lit.int .u8 n).wf = true) : 0 ≤ n ∧ n ≤ 255 := by
  have h2 : (decide ((0 : Int) ≤ n) && decide (n ≤ (255 : Int))) = true := h
  simpa using h2
set_option maxRecDepth 100000 in
theorem numbers_lifted (os : Os) (started : os.Started) (H : Type) (enc : TypeId × Value → H) :
    ReturnsInHanded {} Tryz.checked os 4 .any (fun w args => (Rows.baselibNumbersSpec.pre enc Tryz.prog Tryz.f4 [] false w args ∧ laidMetH Tryz.prog laidS w) ∧ sizedMet enc Tryz.prog Tryz.f4 (OpenSpec.ofChange Rows.baselibNumbersSpec) false w args)
      (Rows.baselibNumbersSpec.post enc Tryz.prog Tryz.f4 false true false false) := by
  refine liftN os started H enc (by kernel_rfl) Tryz.func4
    (ChangeSpec.witness_shaped (enc := enc) (C := Tryz.checked) (os := os) (X := fun w _ => laidMetH Tryz.prog laidS w) false (World.laidAll Tryz.prog os laidS) #[.agg #[.int .i64 0, .int .i64 0], .int .u8 0] 8 (World.laidAll_os _ _ _) (World.shaped_of_ZipB (by kernel_rfl) (by kernel_rfl)) (by kernel_rfl) (by kernel_rfl) (by kernel_rfl) (door_metS os _)) ?_
  intro W base args ds gs before hG hval0 hW
  have hval : ∀ (j : Nat) t v, Tryz.f4.params[j]? = some t → args[j]? = some v → Value.okWide Tryz.prog W .any base t v := hval0
  have hW' := hW
  obtain ⟨p, q, hA0, hV, rfl, hfz, hnd⟩ := hW
  have hA : DataW.TrodAll enc Tryz.prog W 0 (fun _ => true) true Tryz.f4.params.toList args.toList ds p := hA0
  rw [Tryz.params4] at hA hval
  obtain ⟨v0, v1, d0, d1, p0, p1, rfl, rfl, rfl, h0, h1⟩ := trodAll_two hA
  obtain ⟨rfl, rfl⟩ := trodVars_none hV
  obtain ⟨p, q, rfl⟩ := open_num (hval 0 28 v0 rfl rfl) h0
  obtain ⟨o, rfl, rfl, rfl, z1⟩ := open_int Tryz.underlying5 (hval 1 5 v1 rfl rfl) h1
  obtain ⟨k, rfl⟩ : ∃ k : Nat, o = (k : Int) := ⟨o.toNat, by have := u8_of_wf z1; omega⟩
  clear hA0 hval0
  simp only [List.append_nil, List.nil_append] at hW'
  have hlt : ∀ x ∈ (p0 : List MemPlace), x.block < W.heap.size := fun x hx => hW'.lt x (by simpa using hx)
  refine (numbers24_law W hG.1.2 hG.1.1 hG.2 p q k (by have := u8_of_wf z1; omega)).mono fun e W' ⟨he, hw⟩ => ?_
  subst he
  refine ⟨_, rfl, ?_⟩
  exact post_of_below (pa := p0) (pv := []) hW' (fun _ _ _ => trodAll_mk1 (shut_bool Tryz.underlying4 _)) (fun sp hsp => by
    have h := trodAll_mk2 (Trod_stays Tryz.laidOut (by kernel_rfl) (of_decide_eq_true (by kernel_rfl)) h0 (fun x hx => hw.same (hlt x (by simp [hx]))) (fun x hx => hsp x (by simp [hx]))) (shut_int Tryz.underlying5 z1)
    rw [List.append_nil] at h
    exact h) (fun _ _ => rfl) (by simp) hw (ok_one (by kernel_rfl) rfl (okWide_bool_mk Tryz.underlying4 _))
theorem numbers_row : Rows.BaselibNumbersSaid :=
  OpenClaim.holds_of_wide 4 Tryz.f4 rfl rfl rfl rfl rfl rfl rfl ⟨rfl, rfl, rfl, rfl, rfl⟩ rfl rfl rfl rfl rfl numbers_named Tryz.func4 numbers_closed
    numbers_inst (by unfold Func.isWrapper; first | (rw [if_pos (by decide +kernel)]; kernel_rfl) | (rw [if_neg (by decide +kernel)]; exact ⟨rfl, rfl⟩))
    (fun os started H enc _ => numbers_lifted os started H enc)
theorem numbers_holds : Rows.BaselibNumbersCardSaid :=
  Claim7.holds_tied_plain_at .later [] [.data, .data, .data, .data, .listed, .data, .pinned] true (true, "be0bd6b1fb40ac6190c51e1aaf66f6460eb6a5a116909f559d0f98918fb46b60") false
    numbers_row (fun _ h => by cases h) (by kernel_rfl) (fun _ h => by cases h) baselibNumbers_row_tie rfl ⟨rfl, rfl⟩ (by kernel_rfl) rfl
    (fun f fn hf hfn => by
      obtain rfl : f = 4 := Option.some.inj ((show Tryz.prog.funcNamed "scripting/scriptinglaw24.BaselibNumbers" = some 4 by kernel_rfl).symm.trans hf) |>.symm
      obtain rfl : fn = Tryz.f4 := (Option.some.inj (Tryz.func4.symm.trans hfn)).symm
      exact ⟨by kernel_rfl, fun j t ht => by
        rw [Tryz.params4] at ht
        have hm : t ∈ [28, 5] := by simpa using Array.mem_of_getElem? ht
        have hall : ([28, 5].all fun u => !Tryz.prog.wantsStandIn u) = true := by kernel_rfl
        exact (show Tryz.prog.wantsStandIn t = false by simpa using List.all_eq_true.1 hall t hm)⟩)
    (by kernel_rfl)
end Go.Proofs.YtalfoihffnlelaaGreatDoor
