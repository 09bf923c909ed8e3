import Derived.Test.YtpbcmlnjiocmoaaGreatDoorRRows
import Derived.Test.YtpbcmlnjiocmoaaGreatDoorRChecked
import Derived.JoinedOf
import Derived.KernelRfl
set_option linter.unusedVariables false
set_option linter.unusedSimpArgs false
set_option maxRecDepth 100000
namespace Go.Proofs.YtpbcmlnjiocmoaaGreatDoorR
set_option maxRecDepth 100000 in
theorem insert_named : Tryz.prog.funcNamed Rows.tablibInsertRow.func = some 4 := by kernel_rfl
set_option maxRecDepth 100000 in
theorem insert_closed : joinedFacts Tryz.prog 4 Tryz.f4 Rows.tablibInsertSpec Rows.tablibInsertRow = true := by kernel_rfl
set_option maxRecDepth 100000 in
theorem insert_inst : Tryz.f4.isInstance Tryz.prog Rows.tablibInsertRow.origin Rows.tablibInsertRow.targs := of_decide_eq_true (by kernel_rfl)
end Go.Proofs.YtpbcmlnjiocmoaaGreatDoorR
