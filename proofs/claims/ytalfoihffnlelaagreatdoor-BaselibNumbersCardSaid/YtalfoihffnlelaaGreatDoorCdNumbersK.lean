import Derived.Test.YtalfoihffnlelaaGreatDoorRows
import Derived.Test.YtalfoihffnlelaaGreatDoorChecked
import Derived.JoinedOf
import Derived.KernelRfl
set_option linter.unusedVariables false
set_option linter.unusedSimpArgs false
set_option maxRecDepth 100000
namespace Go.Proofs.YtalfoihffnlelaaGreatDoor
set_option maxRecDepth 100000 in
theorem numbers_named : Tryz.prog.funcNamed Rows.baselibNumbersRow.func = some 4 := by kernel_rfl
set_option maxRecDepth 100000 in
theorem numbers_closed : joinedFacts Tryz.prog 4 Tryz.f4 Rows.baselibNumbersSpec Rows.baselibNumbersRow = true := by kernel_rfl
set_option maxRecDepth 100000 in
theorem numbers_inst : Tryz.f4.isInstance Tryz.prog Rows.baselibNumbersRow.origin Rows.baselibNumbersRow.targs := of_decide_eq_true (by kernel_rfl)
end Go.Proofs.YtalfoihffnlelaaGreatDoor
