import Derived.Test.YthkpckgcgkijbaaGreatDoorRows
import Derived.Test.YthkpckgcgkijbaaGreatDoorChecked
import Derived.JoinedOf
import Derived.KernelRfl
set_option linter.unusedVariables false
set_option linter.unusedSimpArgs false
set_option maxRecDepth 100000
namespace Go.Proofs.YthkpckgcgkijbaaGreatDoor
open Go.Proofs.Tryz
theorem Rt:prog.funcNamed Rows.operateHeapsRow.func=some 10:=by kernel_rfl
theorem Rq:joinedFacts prog 10 f10 Rows.operateHeapsSpec Rows.operateHeapsRow=true:=by kernel_rfl
theorem Rw:f10.isInstance prog Rows.operateHeapsRow.origin Rows.operateHeapsRow.targs:=of_decide_eq_true (by kernel_rfl)
end Go.Proofs.YthkpckgcgkijbaaGreatDoor
