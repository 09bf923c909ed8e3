import Derived.Test.YtalfoihffnlelaaGreatDoorNumF
set_option linter.unusedVariables false
set_option linter.unusedSimpArgs false
set_option maxRecDepth 100000
set_option maxHeartbeats 8000000
namespace Go.Proofs.YtalfoihffnlelaaGreatDoor
open Go.RowKit Go.Proofs.Lexi
set_option maxRecDepth 100000 in
set_option maxHeartbeats 8000000 in
theorem pparse_plain (w : World) (s t u : ByteArray) (M R : RR) (m : Int) (hus : u.size ≤ 2000000000) (hm : w.cell? ⟨0, 0, none⟩ = some (.int .i64 m))
    (htrim : PTrimTo s t) (hpre : PreTo t u false) (htw : ∀ W : World, W.cell? ⟨0, 0, none⟩ = some (.int .i64 m) → TailWays u M W) (hg : Good M) (hE : ((((nE M : Nat) : Int) != 0) = false)) (hc : ∃ a, M = .ok a) (hR : R = M) :
    Calls Tryz.prog 121 #[.string s] w (NumPost w R) := by
  have h00 : 0 < w.heap.size := World.block_lt_of_cell? _ _ hm
  have HB := Lib.hid (((Below.refl w.heap.size w).alloc (Nat.le_refl _) (o2 0 0)))
  have HTRIM := Lib.hid htrim
  have HR2 := Lib.hid hR
  have HM := Lib.hid hm
  have HPRE := Lib.hid hpre
  have HTW := Lib.hid htw
  have HC := Lib.hid hc
  have hgb := good_bounds hg
  obtain ⟨g1, g2, g3⟩ := hgb
  clear hR hm htrim hpre htw hc hg
  go_enter Tryz.func121, Tryz.ntmps121
  go_wp2_with fail
  refine (HTRIM.out _).mono ?_
  rintro e w1 ⟨rfl, hb⟩
  have hz1 := hb.size
  simp at hz1
  obtain ⟨hc1, hf1⟩ := bcell hb
  have q0 : w1.cell? ⟨w.heap.size, 0, none⟩ = some (.int .i64 0) := (hc1 _ _ (by simp)).trans (by simp [go_sem])
  have q1 : w1.cell? ⟨w.heap.size, 1, none⟩ = some (.int .i64 0) := (hc1 _ _ (by simp)).trans (by simp [go_sem])
  have p0 : w1.frozen? ⟨w.heap.size, 0, none⟩ = false := (hf1 _ _ (by simp)).trans (by simp [go_sem])
  have p1 : w1.frozen? ⟨w.heap.size, 1, none⟩ = false := (hf1 _ _ (by simp)).trans (by simp [go_sem])
  have m0 : w1.cell? ⟨0, 0, none⟩ = some (.int .i64 m) := (hc1 _ _ (by simp)).trans ((cell_alloc_old h00).trans HM.out)
  have HB1 := Lib.hid (below_next HB.out hb)
  obtain ⟨F, hfind, hF⟩ := HTW.out w1 m0
  have HFIND := Lib.hid hfind
  clear HTRIM hb hc1 hf1 hfind HTW
  go_wp2_with fail
  refine (HPRE.out _).mono ?_
  rintro e w1 ⟨rfl, rfl⟩
  rcases hF with ⟨rfl, hcall⟩ | ⟨hx, p, e, f, rfl, he, hcall⟩ | ⟨hx, p, e, f, rfl, he, hcall⟩
  · have HCALL := Lib.hid hcall
    clear hcall
    go_wp2_with fail
    refine (HFIND.out _).mono ?_
    rintro e w2 ⟨rfl, hb⟩
    have hz2 := hb.size
    obtain ⟨hc2, hf2⟩ := bcell hb
    have HB2 := Lib.hid (below_next HB1.out hb)
    have r0 : w2.cell? ⟨w.heap.size, 0, none⟩ = some (.int .i64 0) := (hc2 _ _ (by omega)).trans q0
    have r1 : w2.cell? ⟨w.heap.size, 1, none⟩ = some (.int .i64 0) := (hc2 _ _ (by omega)).trans q1
    have s0 : w2.frozen? ⟨w.heap.size, 0, none⟩ = false := (hf2 _ _ (by omega)).trans p0
    have s1 : w2.frozen? ⟨w.heap.size, 1, none⟩ = false := (hf2 _ _ (by omega)).trans p1
    have M0 := Lib.hid (hc2 0 0 (by omega))
    clear HFIND hb hc2 hf2 q0 q1 p0 p1 m0
    go_wp2_with fail
    refine (HCALL.out _ ((cell_alloc_old (by simp)).trans ((cell_alloc_old (by omega)).trans M0.out))).mono ?_
    rintro e w3 ⟨rfl, hb⟩
    have hz3 := hb.size
    simp at hz3
    obtain ⟨hc3, hf3⟩ := bcell hb
    have c0 : w3.cell? ⟨w.heap.size, 0, none⟩ = some (.int .i64 0) := (hc3 _ _ (by simp; omega)).trans ((cell_alloc_old (by simp; omega)).trans ((cell_alloc_old (by omega)).trans r0))
    have c1 : w3.cell? ⟨w.heap.size, 1, none⟩ = some (.int .i64 0) := (hc3 _ _ (by simp; omega)).trans ((cell_alloc_old (by simp; omega)).trans ((cell_alloc_old (by omega)).trans r1))
    have f0 : w3.frozen? ⟨w.heap.size, 0, none⟩ = false := (hf3 _ _ (by simp; omega)).trans ((frozen_alloc_old (by simp; omega)).trans ((frozen_alloc_old (by omega)).trans s0))
    have f1 : w3.frozen? ⟨w.heap.size, 1, none⟩ = false := (hf3 _ _ (by simp; omega)).trans ((frozen_alloc_old (by simp; omega)).trans ((frozen_alloc_old (by omega)).trans s1))
    have d0 : w3.cell? ⟨w2.heap.size + 1, 0, none⟩ = some (.int .i64 0) := (hc3 _ _ (by simp)).trans (by simp [go_sem])
    have d1 : w3.cell? ⟨w2.heap.size + 1, 1, none⟩ = some (.int .i64 0) := (hc3 _ _ (by simp)).trans (by simp [go_sem])
    have k0 : w3.frozen? ⟨w2.heap.size + 1, 0, none⟩ = false := (hf3 _ _ (by simp)).trans (by simp [go_sem])
    have k1 : w3.frozen? ⟨w2.heap.size + 1, 1, none⟩ = false := (hf3 _ _ (by simp)).trans (by simp [go_sem])
    have HB3 := Lib.hid (below_next HB2.out (below_next (below2w _ _ _) hb))
    have hb8 : w.heap.size ≤ w2.heap.size + 1 := by omega
    clear hb hc3 hf3 r0 r1 s0 s1
    go_wp2
    refine bodyPost_ret (by simp [results, Tryz.results121, go_sem, c0, c1]; first | done | rfl) rfl ?_
    obtain ⟨a, ha⟩ := HC.out
    have hR2 := HR2.out
    rw [ha] at hR2
    rw [ha]; exact num_ok hR2 (below_two (below_two HB3.out hb8 _ _) (Nat.le_refl _) _ _)
  · have HCALL := Lib.hid hcall
    clear hcall
    go_wp2_with fail
    refine (HFIND.out _).mono ?_
    rintro e w2 ⟨rfl, hb⟩
    have hz2 := hb.size
    obtain ⟨hc2, hf2⟩ := bcell hb
    have HB2 := Lib.hid (below_next HB1.out hb)
    have r0 : w2.cell? ⟨w.heap.size, 0, none⟩ = some (.int .i64 0) := (hc2 _ _ (by omega)).trans q0
    have r1 : w2.cell? ⟨w.heap.size, 1, none⟩ = some (.int .i64 0) := (hc2 _ _ (by omega)).trans q1
    have s0 : w2.frozen? ⟨w.heap.size, 0, none⟩ = false := (hf2 _ _ (by omega)).trans p0
    have s1 : w2.frozen? ⟨w.heap.size, 1, none⟩ = false := (hf2 _ _ (by omega)).trans p1
    have M0 := Lib.hid (hc2 0 0 (by omega))
    clear HFIND hb hc2 hf2 q0 q1 p0 p1 m0
    go_wp2_with fail
    refine (HCALL.out _ ((cell_alloc_old (by simp)).trans ((cell_alloc_old (by omega)).trans M0.out))).mono ?_
    rintro e w3 ⟨rfl, hb⟩
    have hz3 := hb.size
    simp at hz3
    obtain ⟨hc3, hf3⟩ := bcell hb
    have c0 : w3.cell? ⟨w.heap.size, 0, none⟩ = some (.int .i64 0) := (hc3 _ _ (by simp; omega)).trans ((cell_alloc_old (by simp; omega)).trans ((cell_alloc_old (by omega)).trans r0))
    have c1 : w3.cell? ⟨w.heap.size, 1, none⟩ = some (.int .i64 0) := (hc3 _ _ (by simp; omega)).trans ((cell_alloc_old (by simp; omega)).trans ((cell_alloc_old (by omega)).trans r1))
    have f0 : w3.frozen? ⟨w.heap.size, 0, none⟩ = false := (hf3 _ _ (by simp; omega)).trans ((frozen_alloc_old (by simp; omega)).trans ((frozen_alloc_old (by omega)).trans s0))
    have f1 : w3.frozen? ⟨w.heap.size, 1, none⟩ = false := (hf3 _ _ (by simp; omega)).trans ((frozen_alloc_old (by simp; omega)).trans ((frozen_alloc_old (by omega)).trans s1))
    have d0 : w3.cell? ⟨w2.heap.size + 1, 0, none⟩ = some (.int .i64 0) := (hc3 _ _ (by simp)).trans (by simp [go_sem])
    have d1 : w3.cell? ⟨w2.heap.size + 1, 1, none⟩ = some (.int .i64 0) := (hc3 _ _ (by simp)).trans (by simp [go_sem])
    have k0 : w3.frozen? ⟨w2.heap.size + 1, 0, none⟩ = false := (hf3 _ _ (by simp)).trans (by simp [go_sem])
    have k1 : w3.frozen? ⟨w2.heap.size + 1, 1, none⟩ = false := (hf3 _ _ (by simp)).trans (by simp [go_sem])
    have HB3 := Lib.hid (below_next HB2.out (below_next (below2w _ _ _) hb))
    have hb8 : w.heap.size ≤ w2.heap.size + 1 := by omega
    clear hb hc3 hf3 r0 r1 s0 s1
    go_wp2
    refine bodyPost_ret (by simp [results, Tryz.results121, go_sem, c0, c1]; first | done | rfl) rfl ?_
    obtain ⟨a, ha⟩ := HC.out
    have hR2 := HR2.out
    rw [ha] at hR2
    rw [ha]; exact num_ok hR2 (below_two (below_two HB3.out hb8 _ _) (Nat.le_refl _) _ _)
  · have HCALL := Lib.hid hcall
    clear hcall
    go_wp2_with fail
    refine (HFIND.out _).mono ?_
    rintro e w2 ⟨rfl, hb⟩
    have hz2 := hb.size
    obtain ⟨hc2, hf2⟩ := bcell hb
    have HB2 := Lib.hid (below_next HB1.out hb)
    have r0 : w2.cell? ⟨w.heap.size, 0, none⟩ = some (.int .i64 0) := (hc2 _ _ (by omega)).trans q0
    have r1 : w2.cell? ⟨w.heap.size, 1, none⟩ = some (.int .i64 0) := (hc2 _ _ (by omega)).trans q1
    have s0 : w2.frozen? ⟨w.heap.size, 0, none⟩ = false := (hf2 _ _ (by omega)).trans p0
    have s1 : w2.frozen? ⟨w.heap.size, 1, none⟩ = false := (hf2 _ _ (by omega)).trans p1
    have M0 := Lib.hid (hc2 0 0 (by omega))
    clear HFIND hb hc2 hf2 q0 q1 p0 p1 m0
    go_wp2_with fail
    refine (HCALL.out _).mono ?_
    rintro e w3 ⟨rfl, hb⟩
    have hz3 := hb.size
    simp at hz3
    obtain ⟨hc3, hf3⟩ := bcell hb
    have c0 : w3.cell? ⟨w.heap.size, 0, none⟩ = some (.int .i64 0) := (hc3 _ _ (by simp; omega)).trans ((cell_alloc_old (by simp; omega)).trans ((cell_alloc_old (by omega)).trans r0))
    have c1 : w3.cell? ⟨w.heap.size, 1, none⟩ = some (.int .i64 0) := (hc3 _ _ (by simp; omega)).trans ((cell_alloc_old (by simp; omega)).trans ((cell_alloc_old (by omega)).trans r1))
    have f0 : w3.frozen? ⟨w.heap.size, 0, none⟩ = false := (hf3 _ _ (by simp; omega)).trans ((frozen_alloc_old (by simp; omega)).trans ((frozen_alloc_old (by omega)).trans s0))
    have f1 : w3.frozen? ⟨w.heap.size, 1, none⟩ = false := (hf3 _ _ (by simp; omega)).trans ((frozen_alloc_old (by simp; omega)).trans ((frozen_alloc_old (by omega)).trans s1))
    have d0 : w3.cell? ⟨w2.heap.size + 1, 0, none⟩ = some (.int .i64 0) := (hc3 _ _ (by simp)).trans (by simp [go_sem])
    have d1 : w3.cell? ⟨w2.heap.size + 1, 1, none⟩ = some (.int .i64 0) := (hc3 _ _ (by simp)).trans (by simp [go_sem])
    have k0 : w3.frozen? ⟨w2.heap.size + 1, 0, none⟩ = false := (hf3 _ _ (by simp)).trans (by simp [go_sem])
    have k1 : w3.frozen? ⟨w2.heap.size + 1, 1, none⟩ = false := (hf3 _ _ (by simp)).trans (by simp [go_sem])
    have HB3 := Lib.hid (below_next HB2.out (below_next (below2w _ _ _) hb))
    have hb8 : w.heap.size ≤ w2.heap.size + 1 := by omega
    clear hb hc3 hf3 r0 r1 s0 s1
    go_wp2
    refine bodyPost_ret (by simp [results, Tryz.results121, go_sem, c0, c1]; first | done | rfl) rfl ?_
    obtain ⟨a, ha⟩ := HC.out
    have hR2 := HR2.out
    rw [ha] at hR2
    rw [ha]; exact num_ok hR2 (below_two (below_two HB3.out hb8 _ _) (Nat.le_refl _) _ _)
set_option maxRecDepth 100000 in
set_option maxHeartbeats 2000000 in
theorem digits_c (w : World) (s : ByteArray) (hs : s.size ≤ 2000000000) (base : Nat) (hb1 : 2 ≤ base) (hb : base ≤ 36) :
    Calls Tryz.prog 109 #[.string s, .int .i64 base] w (DgPost w (dgOut s (dgM base (bytesOf s) 0))) := by
  obtain ⟨R, hR⟩ : ∃ R, dgM base ((bytesOf s).drop 0) 0 = R := ⟨_, rfl⟩
  rw [show dgM base (bytesOf s) 0 = R from hR]
  have HR0 := Lib.hid hR
  clear hR
  obtain ⟨P, hP⟩ : ∃ P, P = dgOut s R := ⟨_, rfl⟩
  rw [← hP]
  have HP := Lib.hid hP
  clear hP
  go_enter Tryz.func109, Tryz.ntmps109
  go_wp2
  go_loopg [6, 12] s.size (fun gg vn v wr => ∃ i n : Nat, gg = s.size - i ∧ vn = .int .i64 (n : Int) ∧ v = .int .i64 (i : Int) ∧ w = wr ∧ i ≤ s.size ∧ n ≤ 2147483648 ∧ Hid (dgM base ((bytesOf s).drop i) n = R))
  case atStart => exact ⟨0, 0, rfl, rfl, rfl, rfl, Nat.zero_le _, by decide, HR0⟩
  case round =>
    obtain ⟨i, n, rfl, rfl, rfl, rfl, hi, hn, HI⟩ := hrel
    by_cases hlt : i < s.size
    · have hst := dg_step hlt HI.out
      have hu := u8_le s[i]
      have hp0 := mul_small hn hb
      have HN9 := Lib.hid hn
      clear hn
      have hcl : (48 ≤ s[i].toNat ∧ s[i].toNat ≤ 57) ∨ (97 ≤ s[i].toNat ∧ s[i].toNat ≤ 122) ∨ (65 ≤ s[i].toNat ∧ s[i].toNat ≤ 90) ∨ (s[i].toNat < 48 ∨ (57 < s[i].toNat ∧ (s[i].toNat < 65 ∨ (90 < s[i].toNat ∧ (s[i].toNat < 97 ∨ 122 < s[i].toNat))))) := by omega
      rcases hcl with ⟨a, b⟩ | ⟨a, b⟩ | ⟨a, b⟩ | hcl
      · have hv : dgV s[i].toNat = s[i].toNat - 48 := by unfold dgV; rw [if_pos ⟨a, b⟩]
        rw [hv] at hst
        clear hv
        by_cases hc : base ≤ s[i].toNat - 48
        · have HN := Lib.hid (hst.1 hc)
          have hc2 : (base : Int) ≤ (s[i].toNat : Int) - 48 := by omega
          clear hst hc hp0
          go_wp2
          go_ret2
          exact dg_done (by rw [HP.out, HN.out]; rfl) rfl
        · have HN := Lib.hid (hst.2 hc)
          have hc2 : (s[i].toNat : Int) - 48 < (base : Int) := by omega
          obtain ⟨m, hm⟩ : ∃ m, m = min (n * base + (s[i].toNat - 48)) 2147483648 := ⟨_, rfl⟩
          have HM := Lib.hid hm
          clear hst hc hm
          obtain ⟨hp1, hp2⟩ := hp0
          go_wp2
          all_goals
            go_roundg (s.size - (i + 1))
            case measure => omega
            case rel =>
              refine ⟨i + 1, m, rfl, ?_, by push_cast; rfl, rfl, by omega, by have := HM.out; omega, by rw [HM.out]; exact HN⟩
              congr 1
              have hm := HM.out
              have e : ((n * base : Nat) : Int) = (n : Int) * (base : Int) := Int.natCast_mul _ _
              omega
      · have hv : dgV s[i].toNat = s[i].toNat - 87 := by unfold dgV; rw [if_neg (by omega), if_pos ⟨a, b⟩]
        rw [hv] at hst
        clear hv
        by_cases hc : base ≤ s[i].toNat - 87
        · have HN := Lib.hid (hst.1 hc)
          have hc2 : (base : Int) ≤ (s[i].toNat : Int) - 97 + 10 := by omega
          clear hst hc hp0
          go_wp2
          go_ret2
          exact dg_done (by rw [HP.out, HN.out]; rfl) rfl
        · have HN := Lib.hid (hst.2 hc)
          have hc2 : (s[i].toNat : Int) - 97 + 10 < (base : Int) := by omega
          obtain ⟨m, hm⟩ : ∃ m, m = min (n * base + (s[i].toNat - 87)) 2147483648 := ⟨_, rfl⟩
          have HM := Lib.hid hm
          clear hst hc hm
          obtain ⟨hp1, hp2⟩ := hp0
          go_wp2
          all_goals
            go_roundg (s.size - (i + 1))
            case measure => omega
            case rel =>
              refine ⟨i + 1, m, rfl, ?_, by push_cast; rfl, rfl, by omega, by have := HM.out; omega, by rw [HM.out]; exact HN⟩
              congr 1
              have hm := HM.out
              have e : ((n * base : Nat) : Int) = (n : Int) * (base : Int) := Int.natCast_mul _ _
              omega
      · have hv : dgV s[i].toNat = s[i].toNat - 55 := by unfold dgV; rw [if_neg (by omega), if_neg (by omega), if_pos ⟨a, b⟩]
        rw [hv] at hst
        clear hv
        by_cases hc : base ≤ s[i].toNat - 55
        · have HN := Lib.hid (hst.1 hc)
          have hc2 : (base : Int) ≤ (s[i].toNat : Int) - 65 + 10 := by omega
          clear hst hc hp0
          go_wp2
          go_ret2
          exact dg_done (by rw [HP.out, HN.out]; rfl) rfl
        · have HN := Lib.hid (hst.2 hc)
          have hc2 : (s[i].toNat : Int) - 65 + 10 < (base : Int) := by omega
          obtain ⟨m, hm⟩ : ∃ m, m = min (n * base + (s[i].toNat - 55)) 2147483648 := ⟨_, rfl⟩
          have HM := Lib.hid hm
          clear hst hc hm
          obtain ⟨hp1, hp2⟩ := hp0
          go_wp2
          all_goals
            go_roundg (s.size - (i + 1))
            case measure => omega
            case rel =>
              refine ⟨i + 1, m, rfl, ?_, by push_cast; rfl, rfl, by omega, by have := HM.out; omega, by rw [HM.out]; exact HN⟩
              congr 1
              have hm := HM.out
              have e : ((n * base : Nat) : Int) = (n : Int) * (base : Int) := Int.natCast_mul _ _
              omega
      · have hv : dgV s[i].toNat = 99 := by unfold dgV; rw [if_neg (by omega), if_neg (by omega), if_neg (by omega)]
        have HN := Lib.hid (hst.1 (by omega))
        clear hst hp0 hv
        have hc2 : (base : Int) ≤ 99 := by omega
        rcases hcl with h | ⟨h, h2 | ⟨h2, h3 | h3⟩⟩
        all_goals
          go_wp2
          go_ret2
          exact dg_done (by rw [HP.out, HN.out]; rfl) rfl
    · have HN := Lib.hid (dg_stop (by omega) HI.out)
      by_cases hz : s.size = 0
      · have hl := toList_nil hz
        have hq : (!s.toList.isEmpty) = false := by rw [hl]; rfl
        go_wp2
        go_ret2
        exact dg_done (by rw [HP.out, HN.out]; simp [dgOut, hz]) rfl
      · have hl := toList_ne (Nat.pos_of_ne_zero hz)
        have hq : (!s.toList.isEmpty) = true := by simpa using hl
        by_cases hm : n ≤ 2147483647
        · have hm2 : (n : Int) ≤ 2147483647 := by omega
          have hm3 : decide ((n : Int) ≤ 2147483647) = true := decide_eq_true hm2
          go_wp2
          go_ret2
          exact dg_done (by rw [HP.out, HN.out]; simp [dgOut, hz, hm]) rfl
        · have hm2 : ¬ (n : Int) ≤ 2147483647 := by omega
          have hm3 : decide ((n : Int) ≤ 2147483647) = false := decide_eq_false hm2
          go_wp2
          go_ret2
          exact dg_done (by rw [HP.out, HN.out]; simp [dgOut, hz, hm]) rfl
set_option maxRecDepth 100000 in
set_option maxHeartbeats 2000000 in
theorem pMeta_none (w : World) (hv : Value) (k1 p1 q1 : Int) (s1 : ByteArray) (r1 : Int) (T : ∀ W, Below w.heap.size w W → Calls Tryz.prog 124 #[hv, .agg #[.int .i64 k1, .int .i64 p1, .int .i64 q1, .string s1, .int .i64 r1]] W (PtrPost W (.pointer none))) :
    Calls Tryz.prog 89 #[hv, .agg #[.int .i64 k1, .int .i64 p1, .int .i64 q1, .string s1, .int .i64 r1]] w (ValPost w V.nil) := by
  have HT := Lib.hid T
  clear T
  go_enter Tryz.func89, Tryz.ntmps89
  go_wp2_with fail
  refine (HT.out _ (below2w _ _ _)).mono ?_
  rintro e w1 ⟨rfl, hb⟩
  have Hb1 := Lib.hid (hkeep hb (heap2_b _ _ _))
  have HW1 := Lib.hid (below_next (below2w _ _ _) hb)
  have hz1 := hb.size
  try simp at hz1
  clear hb
  have hyb : w.heap.size + 1 < w1.heap.size := (Array.getElem?_eq_some_iff.1 Hb1.out).1
  have b0 : w1.cell? ⟨w.heap.size + 1, 0, none⟩ = some (.int .i64 0) := by rw [cell_of_heap Hb1.out]; rfl
  have fb0 : w1.frozen? ⟨w.heap.size + 1, 0, none⟩ = false := frozen_of_heap Hb1.out _
  have b1 : w1.cell? ⟨w.heap.size + 1, 1, none⟩ = some (.int .i64 0) := by rw [cell_of_heap Hb1.out]; rfl
  have fb1 : w1.frozen? ⟨w.heap.size + 1, 1, none⟩ = false := frozen_of_heap Hb1.out _
  have b2 : w1.cell? ⟨w.heap.size + 1, 2, none⟩ = some (.int .i64 0) := by rw [cell_of_heap Hb1.out]; rfl
  have fb2 : w1.frozen? ⟨w.heap.size + 1, 2, none⟩ = false := frozen_of_heap Hb1.out _
  have b3 : w1.cell? ⟨w.heap.size + 1, 3, none⟩ = some (.string ⟨#[]⟩) := by rw [cell_of_heap Hb1.out]; rfl
  have fb3 : w1.frozen? ⟨w.heap.size + 1, 3, none⟩ = false := frozen_of_heap Hb1.out _
  have b4 : w1.cell? ⟨w.heap.size + 1, 4, none⟩ = some (.int .i64 0) := by rw [cell_of_heap Hb1.out]; rfl
  have fb4 : w1.frozen? ⟨w.heap.size + 1, 4, none⟩ = false := frozen_of_heap Hb1.out _
  go_wp2
  refine bodyPost_ret (by simp [results, Tryz.results89, go_sem, hyb, b0, b1, b2, b3, b4]; first | done | rfl) rfl ?_
  exact val_done rfl (below_five HW1.out (by omega) _ _ _ _ _)
set_option maxRecDepth 100000 in
set_option maxHeartbeats 2000000 in
theorem pHand_nil (w : World) (hv : Value) (k1 p1 q1 : Int) (s1 : ByteArray) (r1 : Int) (s : ByteArray) (mk mp mq : Int) (ms : ByteArray) (mr : Int) (h0 : mk = 0) (T : ∀ W, Below w.heap.size w W → Calls Tryz.prog 89 #[hv, .agg #[.int .i64 k1, .int .i64 p1, .int .i64 q1, .string s1, .int .i64 r1]] W (ValPost W ⟨mk, mp, mq, ms, mr⟩)) :
    Calls Tryz.prog 99 #[hv, .agg #[.int .i64 k1, .int .i64 p1, .int .i64 q1, .string s1, .int .i64 r1], .string s] w (ValPost w V.nil) := by
  have HT := Lib.hid T
  have h0' : (mk == 0) = true := beq_iff_eq.2 h0
  clear T h0
  go_enter Tryz.func99, Tryz.ntmps99
  go_wp2_with fail
  refine (HT.out _ (below2w _ _ _)).mono ?_
  rintro e w1 ⟨rfl, hb⟩
  have Hb1 := Lib.hid (hkeep hb (heap2_b _ _ _))
  have HW1 := Lib.hid (below_next (below2w _ _ _) hb)
  have hz1 := hb.size
  try simp at hz1
  clear hb
  have hyb : w.heap.size + 1 < w1.heap.size := (Array.getElem?_eq_some_iff.1 Hb1.out).1
  have b0 : w1.cell? ⟨w.heap.size + 1, 0, none⟩ = some (.int .i64 0) := by rw [cell_of_heap Hb1.out]; rfl
  have fb0 : w1.frozen? ⟨w.heap.size + 1, 0, none⟩ = false := frozen_of_heap Hb1.out _
  have b1 : w1.cell? ⟨w.heap.size + 1, 1, none⟩ = some (.int .i64 0) := by rw [cell_of_heap Hb1.out]; rfl
  have fb1 : w1.frozen? ⟨w.heap.size + 1, 1, none⟩ = false := frozen_of_heap Hb1.out _
  have b2 : w1.cell? ⟨w.heap.size + 1, 2, none⟩ = some (.int .i64 0) := by rw [cell_of_heap Hb1.out]; rfl
  have fb2 : w1.frozen? ⟨w.heap.size + 1, 2, none⟩ = false := frozen_of_heap Hb1.out _
  have b3 : w1.cell? ⟨w.heap.size + 1, 3, none⟩ = some (.string ⟨#[]⟩) := by rw [cell_of_heap Hb1.out]; rfl
  have fb3 : w1.frozen? ⟨w.heap.size + 1, 3, none⟩ = false := frozen_of_heap Hb1.out _
  have b4 : w1.cell? ⟨w.heap.size + 1, 4, none⟩ = some (.int .i64 0) := by rw [cell_of_heap Hb1.out]; rfl
  have fb4 : w1.frozen? ⟨w.heap.size + 1, 4, none⟩ = false := frozen_of_heap Hb1.out _
  go_wp2
  refine bodyPost_ret (by simp [results, Tryz.results99, go_sem, hyb, b0, b1, b2, b3, b4]; first | done | rfl) rfl ?_
  exact val_done rfl ((below_five HW1.out (by omega) _ _ _ _ _).alloc (by simp; omega) _)
end Go.Proofs.YtalfoihffnlelaaGreatDoor
