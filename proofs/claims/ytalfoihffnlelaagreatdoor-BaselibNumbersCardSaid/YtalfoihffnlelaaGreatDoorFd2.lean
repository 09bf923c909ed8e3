import Derived.Test.YtalfoihffnlelaaGreatDoorBn
set_option linter.unusedVariables false
set_option linter.unusedSimpArgs false
set_option maxRecDepth 100000
set_option maxHeartbeats 2000000
namespace Go.Proofs.YtalfoihffnlelaaGreatDoor
open Go.RowKit Go.Proofs.Lexi
set_option maxRecDepth 100000 in
set_option maxHeartbeats 2000000 in
theorem tz64_2 (w : World) (h : Bruijn w) : Calls Tryz.prog 149 #[.int .u64 2] w (fun e w' => e = .returned (.int .i64 1) ∧ w = w') := by
  have c := bruijn_at h (i := 1) (v := 1) rfl
  obtain ⟨y, hy⟩ : ∃ y : Int, y = 18446744073709551614 := ⟨_, rfl⟩
  obtain ⟨z, hz⟩ : ∃ z : Int, z = 571740426102707730 := ⟨_, rfl⟩
  have e1 : IntKind.u64.wrap (-2) = y := by rw [hy]; decide
  have e2 : bits .and .u64 2 y = 2 := by rw [hy]; decide
  have e3 : IntKind.u64.wrap (2 * 285870213051353865) = z := by rw [hz]; decide
  have e4 : z / 288230376151711744 = 1 := by rw [hz]; decide
  clear h hy hz
  go_enter Tryz.func149, Tryz.ntmps149
  go_wp2
  go_ret
  exact ⟨rfl, rfl⟩
set_option maxRecDepth 100000 in
set_option maxHeartbeats 2000000 in
theorem tz64_4 (w : World) (h : Bruijn w) : Calls Tryz.prog 149 #[.int .u64 4] w (fun e w' => e = .returned (.int .i64 2) ∧ w = w') := by
  have c := bruijn_at h (i := 3) (v := 2) rfl
  obtain ⟨y, hy⟩ : ∃ y : Int, y = 18446744073709551612 := ⟨_, rfl⟩
  obtain ⟨z, hz⟩ : ∃ z : Int, z = 1143480852205415460 := ⟨_, rfl⟩
  have e1 : IntKind.u64.wrap (-4) = y := by rw [hy]; decide
  have e2 : bits .and .u64 4 y = 4 := by rw [hy]; decide
  have e3 : IntKind.u64.wrap (4 * 285870213051353865) = z := by rw [hz]; decide
  have e4 : z / 288230376151711744 = 3 := by rw [hz]; decide
  clear h hy hz
  go_enter Tryz.func149, Tryz.ntmps149
  go_wp2
  go_ret
  exact ⟨rfl, rfl⟩
set_option maxRecDepth 100000 in
set_option maxHeartbeats 2000000 in
theorem tz64_8 (w : World) (h : Bruijn w) : Calls Tryz.prog 149 #[.int .u64 8] w (fun e w' => e = .returned (.int .i64 3) ∧ w = w') := by
  have c := bruijn_at h (i := 7) (v := 3) rfl
  obtain ⟨y, hy⟩ : ∃ y : Int, y = 18446744073709551608 := ⟨_, rfl⟩
  obtain ⟨z, hz⟩ : ∃ z : Int, z = 2286961704410830920 := ⟨_, rfl⟩
  have e1 : IntKind.u64.wrap (-8) = y := by rw [hy]; decide
  have e2 : bits .and .u64 8 y = 8 := by rw [hy]; decide
  have e3 : IntKind.u64.wrap (8 * 285870213051353865) = z := by rw [hz]; decide
  have e4 : z / 288230376151711744 = 7 := by rw [hz]; decide
  clear h hy hz
  go_enter Tryz.func149, Tryz.ntmps149
  go_wp2
  go_ret
  exact ⟨rfl, rfl⟩
set_option maxRecDepth 100000 in
set_option maxHeartbeats 2000000 in
theorem tz64_16 (w : World) (h : Bruijn w) : Calls Tryz.prog 149 #[.int .u64 16] w (fun e w' => e = .returned (.int .i64 4) ∧ w = w') := by
  have c := bruijn_at h (i := 15) (v := 4) rfl
  obtain ⟨y, hy⟩ : ∃ y : Int, y = 18446744073709551600 := ⟨_, rfl⟩
  obtain ⟨z, hz⟩ : ∃ z : Int, z = 4573923408821661840 := ⟨_, rfl⟩
  have e1 : IntKind.u64.wrap (-16) = y := by rw [hy]; decide
  have e2 : bits .and .u64 16 y = 16 := by rw [hy]; decide
  have e3 : IntKind.u64.wrap (16 * 285870213051353865) = z := by rw [hz]; decide
  have e4 : z / 288230376151711744 = 15 := by rw [hz]; decide
  clear h hy hz
  go_enter Tryz.func149, Tryz.ntmps149
  go_wp2
  go_ret
  exact ⟨rfl, rfl⟩
set_option maxRecDepth 100000 in
set_option maxHeartbeats 2000000 in
theorem tz64_32 (w : World) (h : Bruijn w) : Calls Tryz.prog 149 #[.int .u64 32] w (fun e w' => e = .returned (.int .i64 5) ∧ w = w') := by
  have c := bruijn_at h (i := 31) (v := 5) rfl
  obtain ⟨y, hy⟩ : ∃ y : Int, y = 18446744073709551584 := ⟨_, rfl⟩
  obtain ⟨z, hz⟩ : ∃ z : Int, z = 9147846817643323680 := ⟨_, rfl⟩
  have e1 : IntKind.u64.wrap (-32) = y := by rw [hy]; decide
  have e2 : bits .and .u64 32 y = 32 := by rw [hy]; decide
  have e3 : IntKind.u64.wrap (32 * 285870213051353865) = z := by rw [hz]; decide
  have e4 : z / 288230376151711744 = 31 := by rw [hz]; decide
  clear h hy hz
  go_enter Tryz.func149, Tryz.ntmps149
  go_wp2
  go_ret
  exact ⟨rfl, rfl⟩
set_option maxRecDepth 100000 in
set_option maxHeartbeats 2000000 in
theorem tz_c (w : World) (h : Bruijn w) (b s : Nat) (hbs : P2 b s) : Calls Tryz.prog 118 #[.int .u64 b] w (fun e w' => e = .returned (.int .i64 s) ∧ Below w.heap.size w w') := by
  rcases hbs with ⟨rfl, rfl⟩ | ⟨rfl, rfl⟩ | ⟨rfl, rfl⟩ | ⟨rfl, rfl⟩ | ⟨rfl, rfl⟩
  · have HT := Lib.hid (tz64_2 w h)
    clear h
    go_enter Tryz.func118, Tryz.ntmps118
    go_wp2_with fail
    refine (HT.out).mono ?_
    rintro e w1 ⟨rfl, rfl⟩
    go_wp2
    go_ret
    exact ⟨rfl, Below.refl _ _⟩
  · have HT := Lib.hid (tz64_4 w h)
    clear h
    go_enter Tryz.func118, Tryz.ntmps118
    go_wp2_with fail
    refine (HT.out).mono ?_
    rintro e w1 ⟨rfl, rfl⟩
    go_wp2
    go_ret
    exact ⟨rfl, Below.refl _ _⟩
  · have HT := Lib.hid (tz64_8 w h)
    clear h
    go_enter Tryz.func118, Tryz.ntmps118
    go_wp2_with fail
    refine (HT.out).mono ?_
    rintro e w1 ⟨rfl, rfl⟩
    go_wp2
    go_ret
    exact ⟨rfl, Below.refl _ _⟩
  · have HT := Lib.hid (tz64_16 w h)
    clear h
    go_enter Tryz.func118, Tryz.ntmps118
    go_wp2_with fail
    refine (HT.out).mono ?_
    rintro e w1 ⟨rfl, rfl⟩
    go_wp2
    go_ret
    exact ⟨rfl, Below.refl _ _⟩
  · have HT := Lib.hid (tz64_32 w h)
    clear h
    go_enter Tryz.func118, Tryz.ntmps118
    go_wp2_with fail
    refine (HT.out).mono ?_
    rintro e w1 ⟨rfl, rfl⟩
    go_wp2
    go_ret
    exact ⟨rfl, Below.refl _ _⟩
end Go.Proofs.YtalfoihffnlelaaGreatDoor
