import Derived.Test.YthkpckgcgkijbaaGreatDoorValB
set_option linter.unusedVariables false
set_option linter.unusedSimpArgs false
namespace Go.Proofs.YthkpckgcgkijbaaGreatDoor
open Go.RowKit Go.Proofs.Lexi
theorem prj24r {c0 c1 c2 c3 c4 c5 c6 c7 c8 c9 c10 c11 c12 c13 c14 c15 c16 c17 c18 c19 c20 c21 c22 c23 p:Prop} (h:c0∧c1∧c2∧c3∧c4∧c5∧c6∧c7∧c8∧c9∧c10∧c11∧c12∧c13∧c14∧c15∧c16∧c17∧c18∧c19∧c20∧c21∧c22∧c23∧Hid p):p:=h.2.2.2.2.2.2.2.2.2.2.2.2.2.2.2.2.2.2.2.2.2.2.2.2.out
end Go.Proofs.YthkpckgcgkijbaaGreatDoor
namespace Go.Proofs.YthkpckgcgkijbaaGreatDoor
def WorldOk (T D F:Int) (n:Nat):Prop:=0≤T∧T≤20∧0≤D∧D≤20∧0≤F∧F≤20∧n≤60
instance {T D F:Int} {n:Nat}:Decidable (WorldOk T D F n):=by unfold WorldOk;infer_instance
end Go.Proofs.YthkpckgcgkijbaaGreatDoor
