import Derived.Test.YthkpckgcgkijbaaGreatDoorOmD
set_option linter.unusedVariables false
set_option linter.unusedSimpArgs false
set_option maxRecDepth 100000
set_option maxHeartbeats 2000000
namespace Go.Proofs.YthkpckgcgkijbaaGreatDoor
open Go.Proofs.Tryz
theorem CL {o:Int} (ho:20<=o) (a b c:V):Ze o a b=Ze o a c:=by
 unfold Ze JQ;have h1:∀x:V,(¬(1<=o/\o<=23)\/Qt a=false\/(o<=19/\Qt x=false))=(¬(1<=o/\o<=23)\/Qt a=false):=fun x=>propext ⟨fun h=>by
  rcases h with h|h|⟨h,_⟩
  ·exact .inl h
  ·exact .inr h
  ·omega,fun h=>by
  rcases h with h|h
  ·exact .inl h
  ·exact .inr (.inl h)⟩
 have e8:¬o=8:=by omega
 have e14:¬o=14:=by omega
 have e15:¬o=15:=by omega
 have e16:¬(16<=o/\o<=19):=by omega
 simp only[h1,if_neg e8,if_neg e14,if_neg e15,if_neg e16,if_pos ho]
end Go.Proofs.YthkpckgcgkijbaaGreatDoor
namespace Go.Proofs.YthkpckgcgkijbaaGreatDoor
open Go.RowKit Go.Proofs.Lexi Go.Proofs.Tryz
theorem OU (w:World) (t m:Nat) (ht:w.heap[t]? =some (.cells #[.slice none 0 0,m] 151)):Calls prog 191 #[t] w (fun e w'=>e= .returned (.int .i64 0)/\w'=w):=by
 have t0:w.cell? t=some (.slice none 0 0):=by rw[QA ht];rfl
 clear ht;go_enter func191,ntmps191;go_wp2
 go_ret
 exact⟨rfl,rfl⟩
end Go.Proofs.YthkpckgcgkijbaaGreatDoor
