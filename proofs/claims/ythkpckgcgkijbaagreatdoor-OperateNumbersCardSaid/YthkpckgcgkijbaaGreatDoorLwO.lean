import Derived.Test.YthkpckgcgkijbaaGreatDoorBase
import Derived.Maps.OwnSet
import Derived.DeepKeys3
import Derived.Laws.BitsLemmas
import Derived.Laws.Bits64
import Derived.Deep.MidRow
set_option linter.unusedVariables false
set_option linter.unusedSimpArgs false
namespace Go.Proofs.YthkpckgcgkijbaaGreatDoor
open Go.RowKit Go.Proofs.Lexi
theorem str_nil {s:ByteArray} (h:s.toList=[]):s.size=0:=by
 rcases Nat.eq_zero_or_pos s.size with h1|h1
 ·exact h1
 ·exact absurd h (toList_ne h1)
theorem kind_form {k:Int} (h:k=2∨k=3):((k !=2)=false)∨((k !=2)=true∧(k !=3)=false):=by
 rcases h with rfl|rfl
 ·exact .inl (by decide)
 ·exact .inr ⟨by decide,by decide⟩
end Go.Proofs.YthkpckgcgkijbaaGreatDoor
