import Derived.Test.YtalfoihffnlelaaGreatDoorRows
import Derived.Test.YtalfoihffnlelaaGreatDoorChecked
import Derived.JoinedOf
import Derived.KernelRfl
set_option linter.unusedVariables false
set_option linter.unusedSimpArgs false
set_option maxRecDepth 100000
namespace Go.Proofs.YtalfoihffnlelaaGreatDoor
set_option maxRecDepth 100000 in
theorem selects_named : Tryz.prog.funcNamed Rows.baselibSelectsRow.func = some 3 := by kernel_rfl
set_option maxRecDepth 100000 in
theorem selects_closed : joinedFacts Tryz.prog 3 Tryz.f3 Rows.baselibSelectsSpec Rows.baselibSelectsRow = true := by kernel_rfl
set_option maxRecDepth 100000 in
theorem selects_inst : Tryz.f3.isInstance Tryz.prog Rows.baselibSelectsRow.origin Rows.baselibSelectsRow.targs := of_decide_eq_true (by kernel_rfl)
end Go.Proofs.YtalfoihffnlelaaGreatDoor
