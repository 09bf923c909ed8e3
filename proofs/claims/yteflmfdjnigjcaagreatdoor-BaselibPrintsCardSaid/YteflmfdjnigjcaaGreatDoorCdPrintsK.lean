import Derived.Test.YteflmfdjnigjcaaGreatDoorRows
import Derived.Test.YteflmfdjnigjcaaGreatDoorChecked
import Derived.JoinedOf
import Derived.KernelRfl
set_option linter.unusedVariables false
set_option linter.unusedSimpArgs false
set_option maxRecDepth 100000
namespace Go.Proofs.YteflmfdjnigjcaaGreatDoor
set_option maxRecDepth 100000 in
theorem prints_named : Tryz.prog.funcNamed Rows.baselibPrintsRow.func = some 3 := by kernel_rfl
set_option maxRecDepth 100000 in
theorem prints_closed : joinedFacts Tryz.prog 3 Tryz.f3 Rows.baselibPrintsSpec Rows.baselibPrintsRow = true := by kernel_rfl
set_option maxRecDepth 100000 in
theorem prints_inst : Tryz.f3.isInstance Tryz.prog Rows.baselibPrintsRow.origin Rows.baselibPrintsRow.targs := of_decide_eq_true (by kernel_rfl)
end Go.Proofs.YteflmfdjnigjcaaGreatDoor
