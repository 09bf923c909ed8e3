import Derived.Test.YtpbcmlnjiocmoaaGreatDoorRRows
import Derived.Test.YtpbcmlnjiocmoaaGreatDoorRChecked
import Derived.JoinedOf
import Derived.KernelRfl
set_option linter.unusedVariables false
set_option linter.unusedSimpArgs false
set_option maxRecDepth 100000
namespace Go.Proofs.YtpbcmlnjiocmoaaGreatDoorR
set_option maxRecDepth 100000 in
theorem concat_named : Tryz.prog.funcNamed Rows.tablibConcatRow.func = some 3 := by kernel_rfl
set_option maxRecDepth 100000 in
theorem concat_closed : joinedFacts Tryz.prog 3 Tryz.f3 Rows.tablibConcatSpec Rows.tablibConcatRow = true := by kernel_rfl
set_option maxRecDepth 100000 in
theorem concat_inst : Tryz.f3.isInstance Tryz.prog Rows.tablibConcatRow.origin Rows.tablibConcatRow.targs := of_decide_eq_true (by kernel_rfl)
end Go.Proofs.YtpbcmlnjiocmoaaGreatDoorR
