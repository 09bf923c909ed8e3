import Derived.Test.YthkpckgcgkijbaaGreatDoorRows
import Derived.Test.YthkpckgcgkijbaaGreatDoorChecked
import Derived.JoinedOf
import Derived.KernelRfl
set_option linter.unusedVariables false
set_option linter.unusedSimpArgs false
set_option maxRecDepth 100000
namespace Go.Proofs.YthkpckgcgkijbaaGreatDoor
open Go.Proofs.Tryz
theorem Rs:prog.funcNamed Rows.operateUnaryRow.func=some 6:=by kernel_rfl
theorem Rp:joinedFacts prog 6 f6 Rows.operateUnarySpec Rows.operateUnaryRow=true:=by kernel_rfl
theorem Rv:f6.isInstance prog Rows.operateUnaryRow.origin Rows.operateUnaryRow.targs:=of_decide_eq_true (by kernel_rfl)
end Go.Proofs.YthkpckgcgkijbaaGreatDoor
