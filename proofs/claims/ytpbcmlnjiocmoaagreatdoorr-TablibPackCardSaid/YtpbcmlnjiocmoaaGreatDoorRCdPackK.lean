import Derived.Test.YtpbcmlnjiocmoaaGreatDoorRRows
import Derived.Test.YtpbcmlnjiocmoaaGreatDoorRChecked
import Derived.JoinedOf
import Derived.KernelRfl
set_option linter.unusedVariables false
set_option linter.unusedSimpArgs false
set_option maxRecDepth 100000
namespace Go.Proofs.YtpbcmlnjiocmoaaGreatDoorR
set_option maxRecDepth 100000 in
theorem pack_named : Tryz.prog.funcNamed Rows.tablibPackRow.func = some 6 := by kernel_rfl
set_option maxRecDepth 100000 in
theorem pack_closed : joinedFacts Tryz.prog 6 Tryz.f6 Rows.tablibPackSpec Rows.tablibPackRow = true := by kernel_rfl
set_option maxRecDepth 100000 in
theorem pack_inst : Tryz.f6.isInstance Tryz.prog Rows.tablibPackRow.origin Rows.tablibPackRow.targs := of_decide_eq_true (by kernel_rfl)
end Go.Proofs.YtpbcmlnjiocmoaaGreatDoorR
