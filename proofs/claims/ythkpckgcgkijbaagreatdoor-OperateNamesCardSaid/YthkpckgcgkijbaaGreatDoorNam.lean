import Derived.Test.YthkpckgcgkijbaaGreatDoorTabA
set_option linter.unusedVariables false
set_option linter.unusedSimpArgs false
set_option maxRecDepth 100000
set_option maxHeartbeats 2000000
namespace Go.Proofs.YthkpckgcgkijbaaGreatDoor
open Go.RowKit Go.Proofs.Lexi
theorem sName_in (w:World) (a:Int) (m:Nat) (ha:a=(m:Int)+1) (h2:m≤22):Calls Tryz.prog 15 #[.int .i64 a] w (StrPost w (symL.getD (m+1) ⟨#[]⟩)):=by
 obtain⟨X,hX⟩:∃X,X=symL.getD (m+1) ⟨#[]⟩:=⟨_,rfl⟩
 have hc:(w.alloc (.cells #[.string ⟨#[43]⟩,.string ⟨#[45]⟩,.string ⟨#[42]⟩,.string ⟨#[47]⟩,.string ⟨#[47,47]⟩,.string ⟨#[37]⟩,.string ⟨#[94]⟩,.string ⟨#[46,46]⟩,.string ⟨#[38]⟩,.string ⟨#[124]⟩,.string ⟨#[126]⟩,.string ⟨#[60,60]⟩,.string ⟨#[62,62]⟩,.string ⟨#[61,61]⟩,.string ⟨#[126,61]⟩,.string ⟨#[60]⟩,.string ⟨#[60,61]⟩,.string ⟨#[62]⟩,.string ⟨#[62,61]⟩,.string ⟨#[45]⟩,.string ⟨#[110,111,116]⟩,.string ⟨#[35]⟩,.string ⟨#[126]⟩] 9)).cell? ⟨w.heap.size,m,none⟩=some (.string X):=by
  rw[zAA (heap1 w _),hX]
  have:m=0∨m=1∨m=2∨m=3∨m=4∨m=5∨m=6∨m=7∨m=8∨m=9∨m=10∨m=11∨m=12∨m=13∨m=14∨m=15∨m=16∨m=17∨m=18∨m=19∨m=20∨m=21∨m=22:=by omega
  rcases this with rfl|rfl|rfl|rfl|rfl|rfl|rfl|rfl|rfl|rfl|rfl|rfl|rfl|rfl|rfl|rfl|rfl|rfl|rfl|rfl|rfl|rfl|rfl
  all_goals rfl
 rw[←hX]
 have hi0:(0:Int)≤(m:Int):=by omega
 have hi:(m:Int)<23:=by omega
 have t1:decide (a<1)=false:=by rw[decide_eq_false_iff_not];omega
 have t2:decide (23<a)=false:=by rw[decide_eq_false_iff_not];omega
 clear hX
 subst ha
 go_enter Tryz.func15,Tryz.ntmps15
 go_wp2
 go_ret
 exact⟨rfl,by first|exact zAm _ _|exact(zAm _ _).drew⟩
theorem sName_out (w:World) (o:Int) (h:¬(1≤o∧o≤23)):Calls Tryz.prog 15 #[.int .i64 o] w (StrPost w ⟨#[]⟩):=by
 have hw:o<1∨(¬o<1∧23<o):=by omega
 clear h
 rcases hw with h|⟨h,h2⟩
 all_goals
  go_enter Tryz.func15,Tryz.ntmps15
  go_wp2
  go_ret
  exact⟨rfl,by first|exact zAm _ _|exact Below.refl _ _⟩
theorem sName_c (w:World) (o:Int):Calls Tryz.prog 15 #[.int .i64 o] w (StrPost w (nameM o)):=by
 by_cases h:1≤o∧o≤23
 ·obtain⟨n,rfl⟩:∃n:Nat,o=(n:Int):=⟨o.toNat,by omega⟩
  rw[name_in (by omega)]
  exact(by obtain⟨m,rfl⟩:∃m,n=m+1:=⟨n-1,by omega⟩;exact sName_in w _ m (by omega) (by omega))
 ·rw[name_out h]
  exact sName_out w o h
theorem sEvent_in (w:World) (a:Int) (m:Nat) (ha:a=(m:Int)+1) (h2:m≤22):Calls Tryz.prog 17 #[.int .i64 a] w (StrPost w (evL.getD (m+1) ⟨#[]⟩)):=by
 obtain⟨X,hX⟩:∃X,X=evL.getD (m+1) ⟨#[]⟩:=⟨_,rfl⟩
 have hc:(w.alloc (.cells #[.string ⟨#[95,95,97,100,100]⟩,.string ⟨#[95,95,115,117,98]⟩,.string ⟨#[95,95,109,117,108]⟩,.string ⟨#[95,95,100,105,118]⟩,.string ⟨#[95,95,105,100,105,118]⟩,.string ⟨#[95,95,109,111,100]⟩,.string ⟨#[95,95,112,111,119]⟩,.string ⟨#[95,95,99,111,110,99,97,116]⟩,.string ⟨#[95,95,98,97,110,100]⟩,.string ⟨#[95,95,98,111,114]⟩,.string ⟨#[95,95,98,120,111,114]⟩,.string ⟨#[95,95,115,104,108]⟩,.string ⟨#[95,95,115,104,114]⟩,.string ⟨#[95,95,101,113]⟩,.string ⟨#[95,95,101,113]⟩,.string ⟨#[95,95,108,116]⟩,.string ⟨#[95,95,108,101]⟩,.string ⟨#[95,95,108,116]⟩,.string ⟨#[95,95,108,101]⟩,.string ⟨#[95,95,117,110,109]⟩,.string ⟨#[]⟩,.string ⟨#[95,95,108,101,110]⟩,.string ⟨#[95,95,98,110,111,116]⟩] 9)).cell? ⟨w.heap.size,m,none⟩=some (.string X):=by
  rw[zAA (heap1 w _),hX]
  have:m=0∨m=1∨m=2∨m=3∨m=4∨m=5∨m=6∨m=7∨m=8∨m=9∨m=10∨m=11∨m=12∨m=13∨m=14∨m=15∨m=16∨m=17∨m=18∨m=19∨m=20∨m=21∨m=22:=by omega
  rcases this with rfl|rfl|rfl|rfl|rfl|rfl|rfl|rfl|rfl|rfl|rfl|rfl|rfl|rfl|rfl|rfl|rfl|rfl|rfl|rfl|rfl|rfl|rfl
  all_goals rfl
 rw[←hX]
 have hi0:(0:Int)≤(m:Int):=by omega
 have hi:(m:Int)<23:=by omega
 have t1:decide (a<1)=false:=by rw[decide_eq_false_iff_not];omega
 have t2:decide (23<a)=false:=by rw[decide_eq_false_iff_not];omega
 clear hX
 subst ha
 go_enter Tryz.func17,Tryz.ntmps17
 go_wp2
 go_ret
 exact⟨rfl,by first|exact zAm _ _|exact(zAm _ _).drew⟩
theorem sEvent_out (w:World) (o:Int) (h:¬(1≤o∧o≤23)):Calls Tryz.prog 17 #[.int .i64 o] w (StrPost w ⟨#[]⟩):=by
 have hw:o<1∨(¬o<1∧23<o):=by omega
 clear h
 rcases hw with h|⟨h,h2⟩
 all_goals
  go_enter Tryz.func17,Tryz.ntmps17
  go_wp2
  go_ret
  exact⟨rfl,by first|exact zAm _ _|exact Below.refl _ _⟩
theorem sEvent_c (w:World) (o:Int):Calls Tryz.prog 17 #[.int .i64 o] w (StrPost w (zBK o)):=by
 by_cases h:1≤o∧o≤23
 ·obtain⟨n,rfl⟩:∃n:Nat,o=(n:Int):=⟨o.toNat,by omega⟩
  rw[event_in (by omega)]
  exact(by obtain⟨m,rfl⟩:∃m,n=m+1:=⟨n-1,by omega⟩;exact sEvent_in w _ m (by omega) (by omega))
 ·rw[event_out h]
  exact sEvent_out w o h
end Go.Proofs.YthkpckgcgkijbaaGreatDoor
