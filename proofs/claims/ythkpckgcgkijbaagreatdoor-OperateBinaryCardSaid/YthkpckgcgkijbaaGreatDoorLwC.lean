import Derived.Test.YthkpckgcgkijbaaGreatDoorOmD
set_option linter.unusedVariables false
set_option linter.unusedSimpArgs false
set_option maxRecDepth 100000
set_option maxHeartbeats 2000000
namespace Go.Proofs.YthkpckgcgkijbaaGreatDoor
open Go.RowKit Go.Proofs.Lexi Go.Proofs.Tryz
variable (w:World) (s:ByteArray) (n:Int)
theorem Ch:Calls prog 56 #[n] w (ValPost w ⟨2,n,1,⟨#[]⟩,0⟩):=by
 go_enter func56,ntmps56;go_wp2;refine zr (by simp[results,results56,go_sem]<;>rfl) ?_;exact Qo rfl (Qf _ _)
theorem Sw:Calls prog 55 #[s] w (ValPost w ⟨3,0,0,s,0⟩):=by
 go_enter func55,ntmps55;go_wp2;refine zr (by simp[results,results55,go_sem]<;>rfl) ?_;exact Qo rfl (Qf _ _)
end Go.Proofs.YthkpckgcgkijbaaGreatDoor
