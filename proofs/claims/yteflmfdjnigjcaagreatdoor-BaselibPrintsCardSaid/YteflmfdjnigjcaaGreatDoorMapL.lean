import Derived.Test.YteflmfdjnigjcaaGreatDoorLexB
import Derived.Deep.MidRow
import Derived.Deep.DeepCutAuto
import Derived.Laws.AppendOwnNone
set_option linter.unusedVariables false
set_option linter.unusedSimpArgs false
set_option maxRecDepth 100000
set_option maxHeartbeats 2000000
namespace Go.Proofs.YteflmfdjnigjcaaGreatDoor
open Go.RowKit Go.Proofs.Lexi Go.ChangeMaps Go.MapKept
open Go.Maps (Keyed)
variable {P : Program}
theorem wpList_look_map (w : World) {ops : Array Oper} {rest : List Oper} {o : Oper} {a : Act} {Q : Exit → Act → World → Prop}
    (hg : o.guard = none) (m x : Operand) (t : TypeId) (c : Bool) (hop : o.op = Op.lookup t m x c) (M K v : Value) (hm : a.eval m = M) (hx : a.eval x = K)
    (hrun : (Instr.lookup t M K c).run P w = .ok v w) (hK : wpList P ops Q rest (a.put o.dst v) w) : wpList P ops Q (o :: rest) a w := by
  refine wpList_plain hg fun K' hK' => ?_
  unfold Oper.wp
  simp [execOp, hop, hm, hx, hrun, Result.andThen]
  exact hK' _ _ hK
theorem wpList_store_map (w : World) {ops : Array Oper} {rest : List Oper} {o : Oper} {a : Act} {Q : Exit → Act → World → Prop}
    (hg : o.guard = none) (m x v : Operand) (t : TypeId) (hop : o.op = Op.mapUpdate t m x v) (M K V' : Value) (hm : a.eval m = M) (hx : a.eval x = K) (hv : a.eval v = V') (R : World → Prop)
    (hrun : ∃ w', (Instr.mapUpdate t M K V').run P w = .ok () w' ∧ R w') (hK : ∀ w', R w' → wpList P ops Q rest (a.put o.dst undef) w') : wpList P ops Q (o :: rest) a w := by
  refine wpList_plain hg fun K' hK' => ?_
  obtain ⟨w', hrun, r⟩ := hrun
  unfold Oper.wp
  simp [execOp, hop, hm, hx, hv, hrun, Result.andThen]
  exact hK' _ _ (hK w' r)
theorem wpList_drop_map (w : World) {ops : Array Oper} {rest : List Oper} {o : Oper} {a : Act} {Q : Exit → Act → World → Prop}
    (hg : o.guard = none) (m x : Operand) (t k : TypeId) (hop : o.op = Op.call { callee := Callee.builtin Builtin.delete, args := #[m, x], argTypes := #[t, k] }) (M K : Value) (hm : a.eval m = M) (hx : a.eval x = K) (R : World → Prop)
    (hrun : ∃ w', (Builtin.delete_ #[t, k] o.type #[M, K]).run P w = .ok (.tuple #[]) w' ∧ R w') (hK : ∀ w', R w' → wpList P ops Q rest (a.put o.dst (.tuple #[])) w') : wpList P ops Q (o :: rest) a w := by
  refine wpList_plain hg fun K' hK' => ?_
  obtain ⟨w', hrun, r⟩ := hrun
  unfold Oper.wp
  simp [execOp, hop, resolve, invoke, builtin, hm, hx, hrun, Result.andThen]
  exact hK' _ _ (hK w' r)
end Go.Proofs.YteflmfdjnigjcaaGreatDoor
namespace Go.Proofs.YteflmfdjnigjcaaGreatDoor
open Go.RowKit Go.Proofs.Lexi
set_option maxRecDepth 100000 in
set_option maxHeartbeats 2000000 in
theorem digits_c (w : World) (s : ByteArray) (hs : s.size ≤ 2000000000) (base : Nat) (hb1 : 2 ≤ base) (hb : base ≤ 36) :
    Calls Tryz.prog 132 #[.string s, .int .i64 base] w (DgPost w (dgOut s (dgM base (bytesOf s) 0))) := by
  obtain ⟨R, hR⟩ : ∃ R, dgM base ((bytesOf s).drop 0) 0 = R := ⟨_, rfl⟩
  rw [show dgM base (bytesOf s) 0 = R from hR]
  have HR0 := Lib.hid hR
  clear hR
  obtain ⟨P, hP⟩ : ∃ P, P = dgOut s R := ⟨_, rfl⟩
  rw [← hP]
  have HP := Lib.hid hP
  clear hP
  go_enter Tryz.func132, Tryz.ntmps132
  go_wp2
  go_loopg [6, 12] s.size (fun gg vn v wr => ∃ i n : Nat, gg = s.size - i ∧ vn = .int .i64 (n : Int) ∧ v = .int .i64 (i : Int) ∧ w = wr ∧ i ≤ s.size ∧ n ≤ 2147483648 ∧ Hid (dgM base ((bytesOf s).drop i) n = R))
  case atStart => exact ⟨0, 0, rfl, rfl, rfl, rfl, Nat.zero_le _, by decide, HR0⟩
  case round =>
    obtain ⟨i, n, rfl, rfl, rfl, rfl, hi, hn, HI⟩ := hrel
    by_cases hlt : i < s.size
    · have hst := dg_step hlt HI.out
      have hu := u8_le s[i]
      have hp0 := mul_small hn hb
      have HN9 := Lib.hid hn
      clear hn
      have hcl : (48 ≤ s[i].toNat ∧ s[i].toNat ≤ 57) ∨ (97 ≤ s[i].toNat ∧ s[i].toNat ≤ 122) ∨ (65 ≤ s[i].toNat ∧ s[i].toNat ≤ 90) ∨ (s[i].toNat < 48 ∨ (57 < s[i].toNat ∧ (s[i].toNat < 65 ∨ (90 < s[i].toNat ∧ (s[i].toNat < 97 ∨ 122 < s[i].toNat))))) := by omega
      rcases hcl with ⟨a, b⟩ | ⟨a, b⟩ | ⟨a, b⟩ | hcl
      · have hv : dgV s[i].toNat = s[i].toNat - 48 := by unfold dgV; rw [if_pos ⟨a, b⟩]
        rw [hv] at hst
        clear hv
        by_cases hc : base ≤ s[i].toNat - 48
        · have HN := Lib.hid (hst.1 hc)
          have hc2 : (base : Int) ≤ (s[i].toNat : Int) - 48 := by omega
          clear hst hc hp0
          go_wp2
          go_ret2
          exact dg_done (by rw [HP.out, HN.out]; rfl) rfl
        · have HN := Lib.hid (hst.2 hc)
          have hc2 : (s[i].toNat : Int) - 48 < (base : Int) := by omega
          obtain ⟨m, hm⟩ : ∃ m, m = min (n * base + (s[i].toNat - 48)) 2147483648 := ⟨_, rfl⟩
          have HM := Lib.hid hm
          clear hst hc hm
          obtain ⟨hp1, hp2⟩ := hp0
          go_wp2
          all_goals
            go_roundg (s.size - (i + 1))
            case measure => omega
            case rel =>
              refine ⟨i + 1, m, rfl, ?_, by push_cast; rfl, rfl, by omega, by have := HM.out; omega, by rw [HM.out]; exact HN⟩
              congr 1
              have hm := HM.out
              have e : ((n * base : Nat) : Int) = (n : Int) * (base : Int) := Int.natCast_mul _ _
              omega
      · have hv : dgV s[i].toNat = s[i].toNat - 87 := by unfold dgV; rw [if_neg (by omega), if_pos ⟨a, b⟩]
        rw [hv] at hst
        clear hv
        by_cases hc : base ≤ s[i].toNat - 87
        · have HN := Lib.hid (hst.1 hc)
          have hc2 : (base : Int) ≤ (s[i].toNat : Int) - 97 + 10 := by omega
          clear hst hc hp0
          go_wp2
          go_ret2
          exact dg_done (by rw [HP.out, HN.out]; rfl) rfl
        · have HN := Lib.hid (hst.2 hc)
          have hc2 : (s[i].toNat : Int) - 97 + 10 < (base : Int) := by omega
          obtain ⟨m, hm⟩ : ∃ m, m = min (n * base + (s[i].toNat - 87)) 2147483648 := ⟨_, rfl⟩
          have HM := Lib.hid hm
          clear hst hc hm
          obtain ⟨hp1, hp2⟩ := hp0
          go_wp2
          all_goals
            go_roundg (s.size - (i + 1))
            case measure => omega
            case rel =>
              refine ⟨i + 1, m, rfl, ?_, by push_cast; rfl, rfl, by omega, by have := HM.out; omega, by rw [HM.out]; exact HN⟩
              congr 1
              have hm := HM.out
              have e : ((n * base : Nat) : Int) = (n : Int) * (base : Int) := Int.natCast_mul _ _
              omega
      · have hv : dgV s[i].toNat = s[i].toNat - 55 := by unfold dgV; rw [if_neg (by omega), if_neg (by omega), if_pos ⟨a, b⟩]
        rw [hv] at hst
        clear hv
        by_cases hc : base ≤ s[i].toNat - 55
        · have HN := Lib.hid (hst.1 hc)
          have hc2 : (base : Int) ≤ (s[i].toNat : Int) - 65 + 10 := by omega
          clear hst hc hp0
          go_wp2
          go_ret2
          exact dg_done (by rw [HP.out, HN.out]; rfl) rfl
        · have HN := Lib.hid (hst.2 hc)
          have hc2 : (s[i].toNat : Int) - 65 + 10 < (base : Int) := by omega
          obtain ⟨m, hm⟩ : ∃ m, m = min (n * base + (s[i].toNat - 55)) 2147483648 := ⟨_, rfl⟩
          have HM := Lib.hid hm
          clear hst hc hm
          obtain ⟨hp1, hp2⟩ := hp0
          go_wp2
          all_goals
            go_roundg (s.size - (i + 1))
            case measure => omega
            case rel =>
              refine ⟨i + 1, m, rfl, ?_, by push_cast; rfl, rfl, by omega, by have := HM.out; omega, by rw [HM.out]; exact HN⟩
              congr 1
              have hm := HM.out
              have e : ((n * base : Nat) : Int) = (n : Int) * (base : Int) := Int.natCast_mul _ _
              omega
      · have hv : dgV s[i].toNat = 99 := by unfold dgV; rw [if_neg (by omega), if_neg (by omega), if_neg (by omega)]
        have HN := Lib.hid (hst.1 (by omega))
        clear hst hp0 hv
        have hc2 : (base : Int) ≤ 99 := by omega
        rcases hcl with h | ⟨h, h2 | ⟨h2, h3 | h3⟩⟩
        all_goals
          go_wp2
          go_ret2
          exact dg_done (by rw [HP.out, HN.out]; rfl) rfl
    · have HN := Lib.hid (dg_stop (by omega) HI.out)
      by_cases hz : s.size = 0
      · have hl := toList_nil hz
        have hq : (!s.toList.isEmpty) = false := by rw [hl]; rfl
        go_wp2
        go_ret2
        exact dg_done (by rw [HP.out, HN.out]; simp [dgOut, hz]) rfl
      · have hl := toList_ne (Nat.pos_of_ne_zero hz)
        have hq : (!s.toList.isEmpty) = true := by simpa using hl
        by_cases hm : n ≤ 2147483647
        · have hm2 : (n : Int) ≤ 2147483647 := by omega
          have hm3 : decide ((n : Int) ≤ 2147483647) = true := decide_eq_true hm2
          go_wp2
          go_ret2
          exact dg_done (by rw [HP.out, HN.out]; simp [dgOut, hz, hm]) rfl
        · have hm2 : ¬ (n : Int) ≤ 2147483647 := by omega
          have hm3 : decide ((n : Int) ≤ 2147483647) = false := decide_eq_false hm2
          go_wp2
          go_ret2
          exact dg_done (by rw [HP.out, HN.out]; simp [dgOut, hz, hm]) rfl
set_option maxRecDepth 100000 in
theorem eq_run (W : World) (k p q : Int) (s : ByteArray) (r : Int) (k2 p2 q2 : Int) (s2 : ByteArray) (r2 : Int) :
    (binOp .eql 30 (.agg #[.int .i64 k, .int .i64 p, .int .i64 q, .string s, .int .i64 r]) (.agg #[.int .i64 k2, .int .i64 p2, .int .i64 q2, .string s2, .int .i64 r2])).run Tryz.prog W = .ok (.bool (eqV ⟨k, p, q, s, r⟩ ⟨k2, p2, q2, s2, r2⟩)) W := by
  by_cases h1 : k = k2 <;> by_cases h2 : p = p2 <;> by_cases h3 : q = q2 <;> by_cases h4 : s = s2 <;> by_cases h5 : r = r2 <;> simp [go_sem, eqV, h1, h2, h3, h4, h5]
  have h6 : ¬ s.toList = s2.toList := fun e => h4 (ByteArray.ext (Array.toList_inj.1 (by rw [← ByteArray.toList_eq, ← ByteArray.toList_eq]; exact e)))
  have h7 : (bytesOf s == bytesOf s2) = false := beq_eq_false_iff_ne.2 (fun e => h4 (bytesOf_inj e))
  rw [if_neg h6, h7]
theorem field0_run (W : World) (a b c d e : Value) : (Instr.field 30 (.agg #[a, b, c, d, e]) 0).run Tryz.prog W = .ok a W := by
  simp [Instr.field, go_sem, Tryz.underlying30, Tryz.isAgg3, part, underlying, asAgg]
end Go.Proofs.YteflmfdjnigjcaaGreatDoor
