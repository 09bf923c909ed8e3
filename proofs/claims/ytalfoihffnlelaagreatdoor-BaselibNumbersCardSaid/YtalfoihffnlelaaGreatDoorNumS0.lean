import Derived.Test.YtalfoihffnlelaaGreatDoorNumF
set_option linter.unusedVariables false
set_option linter.unusedSimpArgs false
set_option maxRecDepth 100000
set_option maxHeartbeats 8000000
namespace Go.Proofs.YtalfoihffnlelaaGreatDoor
open Go.RowKit Go.Proofs.Lexi
set_option maxRecDepth 100000 in
set_option maxHeartbeats 8000000 in
theorem pparse_errT (w : World) (s t u : ByteArray) (M R : RR) (m : Int) (hus : u.size ≤ 2000000000) (hm : w.cell? ⟨0, 0, none⟩ = some (.int .i64 m))
    (htrim : PTrimTo s t) (hpre : PreTo t u true) (htw : ∀ W : World, W.cell? ⟨0, 0, none⟩ = some (.int .i64 m) → TailWays u M W) (hg : Good M) (hE : ((((nE M : Nat) : Int) != 0) = true)) (hc : ∃ c, M = .error c) (hR : R = minusN M) :
    Calls Tryz.prog 121 #[.string s] w (NumPost w R) := by
  have h00 : 0 < w.heap.size := World.block_lt_of_cell? _ _ hm
  have HB := Lib.hid (((Below.refl w.heap.size w).alloc (Nat.le_refl _) (o2 0 0)))
  have HTRIM := Lib.hid htrim
  have HR2 := Lib.hid hR
  have HM := Lib.hid hm
  have HPRE := Lib.hid hpre
  have HTW := Lib.hid htw
  have HC := Lib.hid hc
  have hgb := good_bounds hg
  obtain ⟨g1, g2, g3⟩ := hgb
  clear hR hm htrim hpre htw hc hg
  go_enter Tryz.func121, Tryz.ntmps121
  go_wp2_with fail
  refine (HTRIM.out _).mono ?_
  rintro e w1 ⟨rfl, hb⟩
  have hz1 := hb.size
  simp at hz1
  obtain ⟨hc1, hf1⟩ := bcell hb
  have q0 : w1.cell? ⟨w.heap.size, 0, none⟩ = some (.int .i64 0) := (hc1 _ _ (by simp)).trans (by simp [go_sem])
  have q1 : w1.cell? ⟨w.heap.size, 1, none⟩ = some (.int .i64 0) := (hc1 _ _ (by simp)).trans (by simp [go_sem])
  have p0 : w1.frozen? ⟨w.heap.size, 0, none⟩ = false := (hf1 _ _ (by simp)).trans (by simp [go_sem])
  have p1 : w1.frozen? ⟨w.heap.size, 1, none⟩ = false := (hf1 _ _ (by simp)).trans (by simp [go_sem])
  have m0 : w1.cell? ⟨0, 0, none⟩ = some (.int .i64 m) := (hc1 _ _ (by simp)).trans ((cell_alloc_old h00).trans HM.out)
  have HB1 := Lib.hid (below_next HB.out hb)
  obtain ⟨F, hfind, hF⟩ := HTW.out w1 m0
  have HFIND := Lib.hid hfind
  clear HTRIM hb hc1 hf1 hfind HTW
  go_wp2_with fail
  refine (HPRE.out _).mono ?_
  rintro e w1 ⟨rfl, rfl⟩
  rcases hF with ⟨rfl, hcall⟩ | ⟨hx, p, e, f, rfl, he, hcall⟩ | ⟨hx, p, e, f, rfl, he, hcall⟩
  · have HCALL := Lib.hid hcall
    clear hcall
    go_wp2_with fail
    refine (HFIND.out _).mono ?_
    rintro e w2 ⟨rfl, hb⟩
    have hz2 := hb.size
    obtain ⟨hc2, hf2⟩ := bcell hb
    have HB2 := Lib.hid (below_next HB1.out hb)
    have r0 : w2.cell? ⟨w.heap.size, 0, none⟩ = some (.int .i64 0) := (hc2 _ _ (by omega)).trans q0
    have r1 : w2.cell? ⟨w.heap.size, 1, none⟩ = some (.int .i64 0) := (hc2 _ _ (by omega)).trans q1
    have s0 : w2.frozen? ⟨w.heap.size, 0, none⟩ = false := (hf2 _ _ (by omega)).trans p0
    have s1 : w2.frozen? ⟨w.heap.size, 1, none⟩ = false := (hf2 _ _ (by omega)).trans p1
    have M0 := Lib.hid (hc2 0 0 (by omega))
    clear HFIND hb hc2 hf2 q0 q1 p0 p1 m0
    go_wp2_with fail
    refine (HCALL.out _ ((cell_alloc_old (by simp)).trans ((cell_alloc_old (by omega)).trans M0.out))).mono ?_
    rintro e w3 ⟨rfl, hb⟩
    have hz3 := hb.size
    simp at hz3
    obtain ⟨hc3, hf3⟩ := bcell hb
    have c0 : w3.cell? ⟨w.heap.size, 0, none⟩ = some (.int .i64 0) := (hc3 _ _ (by simp; omega)).trans ((cell_alloc_old (by simp; omega)).trans ((cell_alloc_old (by omega)).trans r0))
    have c1 : w3.cell? ⟨w.heap.size, 1, none⟩ = some (.int .i64 0) := (hc3 _ _ (by simp; omega)).trans ((cell_alloc_old (by simp; omega)).trans ((cell_alloc_old (by omega)).trans r1))
    have f0 : w3.frozen? ⟨w.heap.size, 0, none⟩ = false := (hf3 _ _ (by simp; omega)).trans ((frozen_alloc_old (by simp; omega)).trans ((frozen_alloc_old (by omega)).trans s0))
    have f1 : w3.frozen? ⟨w.heap.size, 1, none⟩ = false := (hf3 _ _ (by simp; omega)).trans ((frozen_alloc_old (by simp; omega)).trans ((frozen_alloc_old (by omega)).trans s1))
    have d0 : w3.cell? ⟨w2.heap.size + 1, 0, none⟩ = some (.int .i64 0) := (hc3 _ _ (by simp)).trans (by simp [go_sem])
    have d1 : w3.cell? ⟨w2.heap.size + 1, 1, none⟩ = some (.int .i64 0) := (hc3 _ _ (by simp)).trans (by simp [go_sem])
    have k0 : w3.frozen? ⟨w2.heap.size + 1, 0, none⟩ = false := (hf3 _ _ (by simp)).trans (by simp [go_sem])
    have k1 : w3.frozen? ⟨w2.heap.size + 1, 1, none⟩ = false := (hf3 _ _ (by simp)).trans (by simp [go_sem])
    have HB3 := Lib.hid (below_next HB2.out (below_next (below2w _ _ _) hb))
    have hb8 : w.heap.size ≤ w2.heap.size + 1 := by omega
    clear hb hc3 hf3 r0 r1 s0 s1
    go_wp2
    refine bodyPost_ret (by simp [results, Tryz.results121, go_sem, c0, c1]; first | done | rfl) rfl ?_
    obtain ⟨a, ha⟩ := HC.out
    have hR2 := HR2.out
    rw [ha] at hR2
    exact num_errE hR2 ha (below_two (below_two HB3.out hb8 _ _) (Nat.le_refl _) _ _)
  · have HCALL := Lib.hid hcall
    clear hcall
    go_wp2_with fail
    refine (HFIND.out _).mono ?_
    rintro e w2 ⟨rfl, hb⟩
    have hz2 := hb.size
    obtain ⟨hc2, hf2⟩ := bcell hb
    have HB2 := Lib.hid (below_next HB1.out hb)
    have r0 : w2.cell? ⟨w.heap.size, 0, none⟩ = some (.int .i64 0) := (hc2 _ _ (by omega)).trans q0
    have r1 : w2.cell? ⟨w.heap.size, 1, none⟩ = some (.int .i64 0) := (hc2 _ _ (by omega)).trans q1
    have s0 : w2.frozen? ⟨w.heap.size, 0, none⟩ = false := (hf2 _ _ (by omega)).trans p0
    have s1 : w2.frozen? ⟨w.heap.size, 1, none⟩ = false := (hf2 _ _ (by omega)).trans p1
    have M0 := Lib.hid (hc2 0 0 (by omega))
    clear HFIND hb hc2 hf2 q0 q1 p0 p1 m0
    go_wp2_with fail
    refine (HCALL.out _ ((cell_alloc_old (by simp)).trans ((cell_alloc_old (by omega)).trans M0.out))).mono ?_
    rintro e w3 ⟨rfl, hb⟩
    have hz3 := hb.size
    simp at hz3
    obtain ⟨hc3, hf3⟩ := bcell hb
    have c0 : w3.cell? ⟨w.heap.size, 0, none⟩ = some (.int .i64 0) := (hc3 _ _ (by simp; omega)).trans ((cell_alloc_old (by simp; omega)).trans ((cell_alloc_old (by omega)).trans r0))
    have c1 : w3.cell? ⟨w.heap.size, 1, none⟩ = some (.int .i64 0) := (hc3 _ _ (by simp; omega)).trans ((cell_alloc_old (by simp; omega)).trans ((cell_alloc_old (by omega)).trans r1))
    have f0 : w3.frozen? ⟨w.heap.size, 0, none⟩ = false := (hf3 _ _ (by simp; omega)).trans ((frozen_alloc_old (by simp; omega)).trans ((frozen_alloc_old (by omega)).trans s0))
    have f1 : w3.frozen? ⟨w.heap.size, 1, none⟩ = false := (hf3 _ _ (by simp; omega)).trans ((frozen_alloc_old (by simp; omega)).trans ((frozen_alloc_old (by omega)).trans s1))
    have d0 : w3.cell? ⟨w2.heap.size + 1, 0, none⟩ = some (.int .i64 0) := (hc3 _ _ (by simp)).trans (by simp [go_sem])
    have d1 : w3.cell? ⟨w2.heap.size + 1, 1, none⟩ = some (.int .i64 0) := (hc3 _ _ (by simp)).trans (by simp [go_sem])
    have k0 : w3.frozen? ⟨w2.heap.size + 1, 0, none⟩ = false := (hf3 _ _ (by simp)).trans (by simp [go_sem])
    have k1 : w3.frozen? ⟨w2.heap.size + 1, 1, none⟩ = false := (hf3 _ _ (by simp)).trans (by simp [go_sem])
    have HB3 := Lib.hid (below_next HB2.out (below_next (below2w _ _ _) hb))
    have hb8 : w.heap.size ≤ w2.heap.size + 1 := by omega
    clear hb hc3 hf3 r0 r1 s0 s1
    go_wp2
    refine bodyPost_ret (by simp [results, Tryz.results121, go_sem, c0, c1]; first | done | rfl) rfl ?_
    obtain ⟨a, ha⟩ := HC.out
    have hR2 := HR2.out
    rw [ha] at hR2
    exact num_errE hR2 ha (below_two (below_two HB3.out hb8 _ _) (Nat.le_refl _) _ _)
  · have HCALL := Lib.hid hcall
    clear hcall
    go_wp2_with fail
    refine (HFIND.out _).mono ?_
    rintro e w2 ⟨rfl, hb⟩
    have hz2 := hb.size
    obtain ⟨hc2, hf2⟩ := bcell hb
    have HB2 := Lib.hid (below_next HB1.out hb)
    have r0 : w2.cell? ⟨w.heap.size, 0, none⟩ = some (.int .i64 0) := (hc2 _ _ (by omega)).trans q0
    have r1 : w2.cell? ⟨w.heap.size, 1, none⟩ = some (.int .i64 0) := (hc2 _ _ (by omega)).trans q1
    have s0 : w2.frozen? ⟨w.heap.size, 0, none⟩ = false := (hf2 _ _ (by omega)).trans p0
    have s1 : w2.frozen? ⟨w.heap.size, 1, none⟩ = false := (hf2 _ _ (by omega)).trans p1
    have M0 := Lib.hid (hc2 0 0 (by omega))
    clear HFIND hb hc2 hf2 q0 q1 p0 p1 m0
    go_wp2_with fail
    refine (HCALL.out _).mono ?_
    rintro e w3 ⟨rfl, hb⟩
    have hz3 := hb.size
    simp at hz3
    obtain ⟨hc3, hf3⟩ := bcell hb
    have c0 : w3.cell? ⟨w.heap.size, 0, none⟩ = some (.int .i64 0) := (hc3 _ _ (by simp; omega)).trans ((cell_alloc_old (by simp; omega)).trans ((cell_alloc_old (by omega)).trans r0))
    have c1 : w3.cell? ⟨w.heap.size, 1, none⟩ = some (.int .i64 0) := (hc3 _ _ (by simp; omega)).trans ((cell_alloc_old (by simp; omega)).trans ((cell_alloc_old (by omega)).trans r1))
    have f0 : w3.frozen? ⟨w.heap.size, 0, none⟩ = false := (hf3 _ _ (by simp; omega)).trans ((frozen_alloc_old (by simp; omega)).trans ((frozen_alloc_old (by omega)).trans s0))
    have f1 : w3.frozen? ⟨w.heap.size, 1, none⟩ = false := (hf3 _ _ (by simp; omega)).trans ((frozen_alloc_old (by simp; omega)).trans ((frozen_alloc_old (by omega)).trans s1))
    have d0 : w3.cell? ⟨w2.heap.size + 1, 0, none⟩ = some (.int .i64 0) := (hc3 _ _ (by simp)).trans (by simp [go_sem])
    have d1 : w3.cell? ⟨w2.heap.size + 1, 1, none⟩ = some (.int .i64 0) := (hc3 _ _ (by simp)).trans (by simp [go_sem])
    have k0 : w3.frozen? ⟨w2.heap.size + 1, 0, none⟩ = false := (hf3 _ _ (by simp)).trans (by simp [go_sem])
    have k1 : w3.frozen? ⟨w2.heap.size + 1, 1, none⟩ = false := (hf3 _ _ (by simp)).trans (by simp [go_sem])
    have HB3 := Lib.hid (below_next HB2.out (below_next (below2w _ _ _) hb))
    have hb8 : w.heap.size ≤ w2.heap.size + 1 := by omega
    clear hb hc3 hf3 r0 r1 s0 s1
    go_wp2
    refine bodyPost_ret (by simp [results, Tryz.results121, go_sem, c0, c1]; first | done | rfl) rfl ?_
    obtain ⟨a, ha⟩ := HC.out
    have hR2 := HR2.out
    rw [ha] at hR2
    exact num_errE hR2 ha (below_two (below_two HB3.out hb8 _ _) (Nat.le_refl _) _ _)
set_option maxRecDepth 100000 in
set_option maxHeartbeats 8000000 in
theorem pparse_errF (w : World) (s t u : ByteArray) (M R : RR) (m : Int) (hus : u.size ≤ 2000000000) (hm : w.cell? ⟨0, 0, none⟩ = some (.int .i64 m))
    (htrim : PTrimTo s t) (hpre : PreTo t u false) (htw : ∀ W : World, W.cell? ⟨0, 0, none⟩ = some (.int .i64 m) → TailWays u M W) (hg : Good M) (hE : ((((nE M : Nat) : Int) != 0) = true)) (hc : ∃ c, M = .error c) (hR : R = M) :
    Calls Tryz.prog 121 #[.string s] w (NumPost w R) := by
  have h00 : 0 < w.heap.size := World.block_lt_of_cell? _ _ hm
  have HB := Lib.hid (((Below.refl w.heap.size w).alloc (Nat.le_refl _) (o2 0 0)))
  have HTRIM := Lib.hid htrim
  have HR2 := Lib.hid hR
  have HM := Lib.hid hm
  have HPRE := Lib.hid hpre
  have HTW := Lib.hid htw
  have HC := Lib.hid hc
  have hgb := good_bounds hg
  obtain ⟨g1, g2, g3⟩ := hgb
  clear hR hm htrim hpre htw hc hg
  go_enter Tryz.func121, Tryz.ntmps121
  go_wp2_with fail
  refine (HTRIM.out _).mono ?_
  rintro e w1 ⟨rfl, hb⟩
  have hz1 := hb.size
  simp at hz1
  obtain ⟨hc1, hf1⟩ := bcell hb
  have q0 : w1.cell? ⟨w.heap.size, 0, none⟩ = some (.int .i64 0) := (hc1 _ _ (by simp)).trans (by simp [go_sem])
  have q1 : w1.cell? ⟨w.heap.size, 1, none⟩ = some (.int .i64 0) := (hc1 _ _ (by simp)).trans (by simp [go_sem])
  have p0 : w1.frozen? ⟨w.heap.size, 0, none⟩ = false := (hf1 _ _ (by simp)).trans (by simp [go_sem])
  have p1 : w1.frozen? ⟨w.heap.size, 1, none⟩ = false := (hf1 _ _ (by simp)).trans (by simp [go_sem])
  have m0 : w1.cell? ⟨0, 0, none⟩ = some (.int .i64 m) := (hc1 _ _ (by simp)).trans ((cell_alloc_old h00).trans HM.out)
  have HB1 := Lib.hid (below_next HB.out hb)
  obtain ⟨F, hfind, hF⟩ := HTW.out w1 m0
  have HFIND := Lib.hid hfind
  clear HTRIM hb hc1 hf1 hfind HTW
  go_wp2_with fail
  refine (HPRE.out _).mono ?_
  rintro e w1 ⟨rfl, rfl⟩
  rcases hF with ⟨rfl, hcall⟩ | ⟨hx, p, e, f, rfl, he, hcall⟩ | ⟨hx, p, e, f, rfl, he, hcall⟩
  · have HCALL := Lib.hid hcall
    clear hcall
    go_wp2_with fail
    refine (HFIND.out _).mono ?_
    rintro e w2 ⟨rfl, hb⟩
    have hz2 := hb.size
    obtain ⟨hc2, hf2⟩ := bcell hb
    have HB2 := Lib.hid (below_next HB1.out hb)
    have r0 : w2.cell? ⟨w.heap.size, 0, none⟩ = some (.int .i64 0) := (hc2 _ _ (by omega)).trans q0
    have r1 : w2.cell? ⟨w.heap.size, 1, none⟩ = some (.int .i64 0) := (hc2 _ _ (by omega)).trans q1
    have s0 : w2.frozen? ⟨w.heap.size, 0, none⟩ = false := (hf2 _ _ (by omega)).trans p0
    have s1 : w2.frozen? ⟨w.heap.size, 1, none⟩ = false := (hf2 _ _ (by omega)).trans p1
    have M0 := Lib.hid (hc2 0 0 (by omega))
    clear HFIND hb hc2 hf2 q0 q1 p0 p1 m0
    go_wp2_with fail
    refine (HCALL.out _ ((cell_alloc_old (by simp)).trans ((cell_alloc_old (by omega)).trans M0.out))).mono ?_
    rintro e w3 ⟨rfl, hb⟩
    have hz3 := hb.size
    simp at hz3
    obtain ⟨hc3, hf3⟩ := bcell hb
    have c0 : w3.cell? ⟨w.heap.size, 0, none⟩ = some (.int .i64 0) := (hc3 _ _ (by simp; omega)).trans ((cell_alloc_old (by simp; omega)).trans ((cell_alloc_old (by omega)).trans r0))
    have c1 : w3.cell? ⟨w.heap.size, 1, none⟩ = some (.int .i64 0) := (hc3 _ _ (by simp; omega)).trans ((cell_alloc_old (by simp; omega)).trans ((cell_alloc_old (by omega)).trans r1))
    have f0 : w3.frozen? ⟨w.heap.size, 0, none⟩ = false := (hf3 _ _ (by simp; omega)).trans ((frozen_alloc_old (by simp; omega)).trans ((frozen_alloc_old (by omega)).trans s0))
    have f1 : w3.frozen? ⟨w.heap.size, 1, none⟩ = false := (hf3 _ _ (by simp; omega)).trans ((frozen_alloc_old (by simp; omega)).trans ((frozen_alloc_old (by omega)).trans s1))
    have d0 : w3.cell? ⟨w2.heap.size + 1, 0, none⟩ = some (.int .i64 0) := (hc3 _ _ (by simp)).trans (by simp [go_sem])
    have d1 : w3.cell? ⟨w2.heap.size + 1, 1, none⟩ = some (.int .i64 0) := (hc3 _ _ (by simp)).trans (by simp [go_sem])
    have k0 : w3.frozen? ⟨w2.heap.size + 1, 0, none⟩ = false := (hf3 _ _ (by simp)).trans (by simp [go_sem])
    have k1 : w3.frozen? ⟨w2.heap.size + 1, 1, none⟩ = false := (hf3 _ _ (by simp)).trans (by simp [go_sem])
    have HB3 := Lib.hid (below_next HB2.out (below_next (below2w _ _ _) hb))
    have hb8 : w.heap.size ≤ w2.heap.size + 1 := by omega
    clear hb hc3 hf3 r0 r1 s0 s1
    go_wp2
    refine bodyPost_ret (by simp [results, Tryz.results121, go_sem, c0, c1]; first | done | rfl) rfl ?_
    obtain ⟨a, ha⟩ := HC.out
    have hR2 := HR2.out
    rw [ha] at hR2
    exact num_errE hR2 ha (below_two (below_two HB3.out hb8 _ _) (Nat.le_refl _) _ _)
  · have HCALL := Lib.hid hcall
    clear hcall
    go_wp2_with fail
    refine (HFIND.out _).mono ?_
    rintro e w2 ⟨rfl, hb⟩
    have hz2 := hb.size
    obtain ⟨hc2, hf2⟩ := bcell hb
    have HB2 := Lib.hid (below_next HB1.out hb)
    have r0 : w2.cell? ⟨w.heap.size, 0, none⟩ = some (.int .i64 0) := (hc2 _ _ (by omega)).trans q0
    have r1 : w2.cell? ⟨w.heap.size, 1, none⟩ = some (.int .i64 0) := (hc2 _ _ (by omega)).trans q1
    have s0 : w2.frozen? ⟨w.heap.size, 0, none⟩ = false := (hf2 _ _ (by omega)).trans p0
    have s1 : w2.frozen? ⟨w.heap.size, 1, none⟩ = false := (hf2 _ _ (by omega)).trans p1
    have M0 := Lib.hid (hc2 0 0 (by omega))
    clear HFIND hb hc2 hf2 q0 q1 p0 p1 m0
    go_wp2_with fail
    refine (HCALL.out _ ((cell_alloc_old (by simp)).trans ((cell_alloc_old (by omega)).trans M0.out))).mono ?_
    rintro e w3 ⟨rfl, hb⟩
    have hz3 := hb.size
    simp at hz3
    obtain ⟨hc3, hf3⟩ := bcell hb
    have c0 : w3.cell? ⟨w.heap.size, 0, none⟩ = some (.int .i64 0) := (hc3 _ _ (by simp; omega)).trans ((cell_alloc_old (by simp; omega)).trans ((cell_alloc_old (by omega)).trans r0))
    have c1 : w3.cell? ⟨w.heap.size, 1, none⟩ = some (.int .i64 0) := (hc3 _ _ (by simp; omega)).trans ((cell_alloc_old (by simp; omega)).trans ((cell_alloc_old (by omega)).trans r1))
    have f0 : w3.frozen? ⟨w.heap.size, 0, none⟩ = false := (hf3 _ _ (by simp; omega)).trans ((frozen_alloc_old (by simp; omega)).trans ((frozen_alloc_old (by omega)).trans s0))
    have f1 : w3.frozen? ⟨w.heap.size, 1, none⟩ = false := (hf3 _ _ (by simp; omega)).trans ((frozen_alloc_old (by simp; omega)).trans ((frozen_alloc_old (by omega)).trans s1))
    have d0 : w3.cell? ⟨w2.heap.size + 1, 0, none⟩ = some (.int .i64 0) := (hc3 _ _ (by simp)).trans (by simp [go_sem])
    have d1 : w3.cell? ⟨w2.heap.size + 1, 1, none⟩ = some (.int .i64 0) := (hc3 _ _ (by simp)).trans (by simp [go_sem])
    have k0 : w3.frozen? ⟨w2.heap.size + 1, 0, none⟩ = false := (hf3 _ _ (by simp)).trans (by simp [go_sem])
    have k1 : w3.frozen? ⟨w2.heap.size + 1, 1, none⟩ = false := (hf3 _ _ (by simp)).trans (by simp [go_sem])
    have HB3 := Lib.hid (below_next HB2.out (below_next (below2w _ _ _) hb))
    have hb8 : w.heap.size ≤ w2.heap.size + 1 := by omega
    clear hb hc3 hf3 r0 r1 s0 s1
    go_wp2
    refine bodyPost_ret (by simp [results, Tryz.results121, go_sem, c0, c1]; first | done | rfl) rfl ?_
    obtain ⟨a, ha⟩ := HC.out
    have hR2 := HR2.out
    rw [ha] at hR2
    exact num_errE hR2 ha (below_two (below_two HB3.out hb8 _ _) (Nat.le_refl _) _ _)
  · have HCALL := Lib.hid hcall
    clear hcall
    go_wp2_with fail
    refine (HFIND.out _).mono ?_
    rintro e w2 ⟨rfl, hb⟩
    have hz2 := hb.size
    obtain ⟨hc2, hf2⟩ := bcell hb
    have HB2 := Lib.hid (below_next HB1.out hb)
    have r0 : w2.cell? ⟨w.heap.size, 0, none⟩ = some (.int .i64 0) := (hc2 _ _ (by omega)).trans q0
    have r1 : w2.cell? ⟨w.heap.size, 1, none⟩ = some (.int .i64 0) := (hc2 _ _ (by omega)).trans q1
    have s0 : w2.frozen? ⟨w.heap.size, 0, none⟩ = false := (hf2 _ _ (by omega)).trans p0
    have s1 : w2.frozen? ⟨w.heap.size, 1, none⟩ = false := (hf2 _ _ (by omega)).trans p1
    have M0 := Lib.hid (hc2 0 0 (by omega))
    clear HFIND hb hc2 hf2 q0 q1 p0 p1 m0
    go_wp2_with fail
    refine (HCALL.out _).mono ?_
    rintro e w3 ⟨rfl, hb⟩
    have hz3 := hb.size
    simp at hz3
    obtain ⟨hc3, hf3⟩ := bcell hb
    have c0 : w3.cell? ⟨w.heap.size, 0, none⟩ = some (.int .i64 0) := (hc3 _ _ (by simp; omega)).trans ((cell_alloc_old (by simp; omega)).trans ((cell_alloc_old (by omega)).trans r0))
    have c1 : w3.cell? ⟨w.heap.size, 1, none⟩ = some (.int .i64 0) := (hc3 _ _ (by simp; omega)).trans ((cell_alloc_old (by simp; omega)).trans ((cell_alloc_old (by omega)).trans r1))
    have f0 : w3.frozen? ⟨w.heap.size, 0, none⟩ = false := (hf3 _ _ (by simp; omega)).trans ((frozen_alloc_old (by simp; omega)).trans ((frozen_alloc_old (by omega)).trans s0))
    have f1 : w3.frozen? ⟨w.heap.size, 1, none⟩ = false := (hf3 _ _ (by simp; omega)).trans ((frozen_alloc_old (by simp; omega)).trans ((frozen_alloc_old (by omega)).trans s1))
    have d0 : w3.cell? ⟨w2.heap.size + 1, 0, none⟩ = some (.int .i64 0) := (hc3 _ _ (by simp)).trans (by simp [go_sem])
    have d1 : w3.cell? ⟨w2.heap.size + 1, 1, none⟩ = some (.int .i64 0) := (hc3 _ _ (by simp)).trans (by simp [go_sem])
    have k0 : w3.frozen? ⟨w2.heap.size + 1, 0, none⟩ = false := (hf3 _ _ (by simp)).trans (by simp [go_sem])
    have k1 : w3.frozen? ⟨w2.heap.size + 1, 1, none⟩ = false := (hf3 _ _ (by simp)).trans (by simp [go_sem])
    have HB3 := Lib.hid (below_next HB2.out (below_next (below2w _ _ _) hb))
    have hb8 : w.heap.size ≤ w2.heap.size + 1 := by omega
    clear hb hc3 hf3 r0 r1 s0 s1
    go_wp2
    refine bodyPost_ret (by simp [results, Tryz.results121, go_sem, c0, c1]; first | done | rfl) rfl ?_
    obtain ⟨a, ha⟩ := HC.out
    have hR2 := HR2.out
    rw [ha] at hR2
    exact num_errE hR2 ha (below_two (below_two HB3.out hb8 _ _) (Nat.le_refl _) _ _)
theorem field0_run (W : World) (a b c d e : Value) : (Instr.field 30 (.agg #[a, b, c, d, e]) 0).run Tryz.prog W = .ok a W := by
  simp [Instr.field, go_sem, Tryz.underlying30, Tryz.isAgg3, part, underlying, asAgg]
end Go.Proofs.YtalfoihffnlelaaGreatDoor
