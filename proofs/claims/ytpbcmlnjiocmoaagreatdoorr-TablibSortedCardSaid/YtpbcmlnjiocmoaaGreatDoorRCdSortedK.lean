import Derived.Test.YtpbcmlnjiocmoaaGreatDoorRRows
import Derived.Test.YtpbcmlnjiocmoaaGreatDoorRChecked
import Derived.JoinedOf
import Derived.KernelRfl
set_option linter.unusedVariables false
set_option linter.unusedSimpArgs false
set_option maxRecDepth 100000
namespace Go.Proofs.YtpbcmlnjiocmoaaGreatDoorR
set_option maxRecDepth 100000 in
theorem sorted_named : Tryz.prog.funcNamed Rows.tablibSortedRow.func = some 5 := by kernel_rfl
set_option maxRecDepth 100000 in
theorem sorted_closed : joinedFacts Tryz.prog 5 Tryz.f5 Rows.tablibSortedSpec Rows.tablibSortedRow = true := by kernel_rfl
set_option maxRecDepth 100000 in
theorem sorted_inst : Tryz.f5.isInstance Tryz.prog Rows.tablibSortedRow.origin Rows.tablibSortedRow.targs := of_decide_eq_true (by kernel_rfl)
end Go.Proofs.YtpbcmlnjiocmoaaGreatDoorR
