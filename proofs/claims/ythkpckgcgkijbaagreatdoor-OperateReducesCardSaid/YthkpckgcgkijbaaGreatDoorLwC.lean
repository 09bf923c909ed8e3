import Derived.Test.YthkpckgcgkijbaaGreatDoorTabA
set_option linter.unusedVariables false
set_option linter.unusedSimpArgs false
set_option maxRecDepth 100000
set_option maxHeartbeats 2000000
namespace Go.Proofs.YthkpckgcgkijbaaGreatDoor
open Go.RowKit Go.Proofs.Lexi
theorem num_c (w:World) (n:Int):Calls Tryz.prog 56 #[.int .i64 n] w (ValPost w ⟨2,n,1,⟨#[]⟩,0⟩):=by
 go_enter Tryz.func56,Tryz.ntmps56
 go_wp2
 refine bodyPost_ret (by simp[results,Tryz.results56,go_sem];first|done|rfl) rfl ?_
 exact zAo rfl (zAm _ _)
theorem str_c (w:World) (s:ByteArray):Calls Tryz.prog 55 #[.string s] w (ValPost w ⟨3,0,0,s,0⟩):=by
 go_enter Tryz.func55,Tryz.ntmps55
 go_wp2
 refine bodyPost_ret (by simp[results,Tryz.results55,go_sem];first|done|rfl) rfl ?_
 exact zAo rfl (zAm _ _)
end Go.Proofs.YthkpckgcgkijbaaGreatDoor
