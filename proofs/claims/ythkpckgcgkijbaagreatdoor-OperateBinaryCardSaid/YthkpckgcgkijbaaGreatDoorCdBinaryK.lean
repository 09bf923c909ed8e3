import Derived.Test.YthkpckgcgkijbaaGreatDoorRows
import Derived.Test.YthkpckgcgkijbaaGreatDoorChecked
import Derived.JoinedOf
import Derived.KernelRfl
set_option linter.unusedVariables false
set_option linter.unusedSimpArgs false
set_option maxRecDepth 100000
namespace Go.Proofs.YthkpckgcgkijbaaGreatDoor
open Go.Proofs.Tryz
theorem Rr:prog.funcNamed Rows.operateBinaryRow.func=some 5:=by kernel_rfl
theorem Ro:joinedFacts prog 5 f5 Rows.operateBinarySpec Rows.operateBinaryRow=true:=by kernel_rfl
theorem Ru:f5.isInstance prog Rows.operateBinaryRow.origin Rows.operateBinaryRow.targs:=of_decide_eq_true (by kernel_rfl)
end Go.Proofs.YthkpckgcgkijbaaGreatDoor
