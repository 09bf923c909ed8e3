import Derived.Test.YthkpckgcgkijbaaGreatDoorSHpT
import Derived.Test.YthkpckgcgkijbaaGreatDoorLwC
import Derived.Test.YthkpckgcgkijbaaGreatDoorOpD
import Derived.Test.YthkpckgcgkijbaaGreatDoorLwD
set_option linter.unusedVariables false
set_option linter.unusedSimpArgs false
set_option maxRecDepth 100000
set_option maxHeartbeats 20000000
namespace Go.Proofs.YthkpckgcgkijbaaGreatDoor
open Go.RowKit Go.Proofs.Lexi
theorem build_ok (w:World) (T Dt F:Nat) (hT:T≤20) (hD:Dt≤20) (hF:F≤20) (fs:List Fd) (hn:fs.length≤60) (wf:∀f∈fs,FdWf f) (so:Option Addr) (cap:Nat)
  (hfa:0<fs.length→∃g o,so=some ⟨g,o,none⟩∧g<w.heap.size∧∀k f,fs[k]? =some f→∀j c,f.cells[j]? =some c→w.cell? ⟨g,o+k*9+j,none⟩=some c):
  Calls Tryz.prog 18 #[.agg #[.int .i64 ((T:Nat):Int),.int .i64 ((Dt:Nat):Int),.int .i64 ((F:Nat):Int),.slice so fs.length cap]] w (fun e w'=>∃hp hs,e= .returned (.tuple #[.pointer (some ⟨hp,0,none⟩),.pointer (some ⟨hs,0,none⟩),.bool true])∧PHp (w.heap.size+1) fs.length w' hp (buildM T Dt F fs)∧RHp (w.heap.size+1) fs.length w' hs (buildM T Dt F fs)∧Below w.heap.size w w'):=by
 have HFA:=Lib.hid hfa
 have HWF:=Lib.hid wf
 clear hfa wf
 go_enter Tryz.func18,Tryz.ntmps18
 go_wp2_with fail
 obtain⟨W0,hW0⟩:∃W0,W0=w.alloc (.cells #[.int .i64 ((T:Nat):Int),.int .i64 ((Dt:Nat):Int),.int .i64 ((F:Nat):Int),.slice so fs.length cap] 35):=⟨_,rfl⟩
 rw[←hW0]
 have HZW0:=Lib.hid (show W0.heap.size=w.heap.size+1 by rw[hW0];simp)
 have HW0:=Lib.hid (show W0.heap[w.heap.size]? =some (.cells #[.int .i64 ((T:Nat):Int),.int .i64 ((Dt:Nat):Int),.int .i64 ((F:Nat):Int),.slice so fs.length cap] 35) by rw[hW0];exact heap1 _ _)
 have HBW:=Lib.hid (show Below w.heap.size w W0 by rw[hW0];exact zAm _ _)
 clear hW0
 refine(pNew_c _).mono ?_
 rintro e w1 ⟨hp,rfl,hP,hb⟩
 rw[HZW0.out] at hP hb
 have HP1:=Lib.hid hP
 have HB1:=Lib.hid hb
 clear hP hb
 go_wp2_with fail
 refine(sNew_c _).mono ?_
 rintro e w2 ⟨hs,rfl,hR,hb⟩
 have HP:=Lib.hid (HP1.out.below hb)
 have HR:=Lib.hid (hR.base (show w.heap.size+1≤w1.heap.size by have h1:=HB1.out.size;have h2:=HZW0.out;omega))
 have HB:=Lib.hid (HB1.out.trans (hb.mono (show w.heap.size+1≤w1.heap.size by have h1:=HB1.out.size;have h2:=HZW0.out;omega)))
 clear hR hb HP1 HB1
 go_wp2
 have HS1:=Lib.hid (show GRel w2 (w.heap.size+1) hp hs ([]:LH) (⟨4,V.nil,[]⟩:LO) T T (.int .i64 0) w2 from⟨0,rfl,rfl,Nat.zero_le _,by simpa using HP.out,by simpa using HR.out,Below.refl _ _⟩)
 have HZ1:=Lib.hid (Below.size HB.out)
 clear HP HR
 go_loopg [7] T (fun gg iv wx=>GRel w2 (w.heap.size+1) hp hs ([]:LH) (⟨4,V.nil,[]⟩:LO) T gg iv wx)
 case atStart=>exact HS1.out
 obtain⟨j,rfl,rfl,hj,hP,hR,hb⟩:=hrel
 have HP:=Lib.hid hP
 have HR:=Lib.hid hR
 have HBk:=Lib.hid hb
 have HB:=Lib.hid (Below.trans HB.out hb)
 have hsz:w.heap.size+1≤wr.heap.size:=by have h1:=HB.out.size;have h2:=HZW0.out;omega
 have HX:=Lib.hid (show wr.heap[w.heap.size]? =some (.cells #[.int .i64 ((T:Nat):Int),.int .i64 ((Dt:Nat):Int),.int .i64 ((F:Nat):Int),.slice so fs.length cap] 35) from(HB.out.block _ (by omega)).trans HW0.out)
 clear hP hR hb HS1
 have hxl:w.heap.size<wr.heap.size:=by omega
 have x0:wr.cell? ⟨w.heap.size,0,none⟩=some (.int .i64 ((T:Nat):Int)):=by rw[zAA HX.out];rfl
 have x1:wr.cell? ⟨w.heap.size,1,none⟩=some (.int .i64 ((Dt:Nat):Int)):=by rw[zAA HX.out];rfl
 have x2:wr.cell? ⟨w.heap.size,2,none⟩=some (.int .i64 ((F:Nat):Int)):=by rw[zAA HX.out];rfl
 have x3:wr.cell? ⟨w.heap.size,3,none⟩=some (.slice so fs.length cap):=by rw[zAA HX.out];rfl
 by_cases hlt:j<T
 ·go_wp2_with fail
  refine(pNT HP.out hsz (by simp;omega)).mono ?_
  rintro e w4 ⟨⟨v4,rfl⟩,hP4,hM4⟩
  have HP4:=Lib.hid hP4
  have HR4:=Lib.hid (HR.out.keep hM4 sb_pb)
  have HB4:=Lib.hid (HBk.out.trans (BM.below hM4 hsz))
  have hz4:w.heap.size+1≤w4.heap.size:=Nat.le_trans hsz hM4.size
  clear hP4 hM4 x0 x1 x2 x3
  go_wp2_with fail
  refine(sNT HR4.out hz4 (by simp;omega)).mono ?_
  rintro e w5 ⟨⟨v5,rfl⟩,hR5,hM5⟩
  have HP5:=Lib.hid (HP4.out.keep hM5 pb_sb)
  have HR5:=Lib.hid hR5
  have HB5:=Lib.hid (HB4.out.trans (BM.below hM5 hz4))
  clear hR5 hM5
  go_wp2
  go_roundg (T-(j+1))
  case measure=>omega
  case rel=>exact⟨j+1,rfl,rfl,by omega,by rw[←rep_succ];exact HP5.out,by rw[←rep_succ];exact HR5.out,HB5.out⟩
 obtain rfl:T=j:=by omega
 clear hlt
 go_wp2
 have HS2:=Lib.hid (show GRel wr (w.heap.size+1) hp hs ([]++List.replicate T (⟨4,V.nil,[]⟩:LO)) (⟨8,V.nil,[]⟩:LO) Dt Dt (.int .i64 0) wr from⟨0,rfl,rfl,Nat.zero_le _,by simpa using HP.out,by simpa using HR.out,Below.refl _ _⟩)
 have HZ2:=Lib.hid (Below.size HB.out)
 clear HP HR
 go_loopg [8] Dt (fun gg iv wx=>GRel wr (w.heap.size+1) hp hs ([]++List.replicate T (⟨4,V.nil,[]⟩:LO)) (⟨8,V.nil,[]⟩:LO) Dt gg iv wx)
 case atStart=>exact HS2.out
 obtain⟨j,rfl,rfl,hj,hP,hR,hb⟩:=hrel
 have HP:=Lib.hid hP
 have HR:=Lib.hid hR
 have HBk:=Lib.hid hb
 have HB:=Lib.hid (Below.trans HB.out hb)
 have hsz:w.heap.size+1≤wr.heap.size:=by have h1:=HB.out.size;have h2:=HZW0.out;omega
 have HX:=Lib.hid (show wr.heap[w.heap.size]? =some (.cells #[.int .i64 ((T:Nat):Int),.int .i64 ((Dt:Nat):Int),.int .i64 ((F:Nat):Int),.slice so fs.length cap] 35) from(HB.out.block _ (by omega)).trans HW0.out)
 clear hP hR hb HS2
 have hxl:w.heap.size<wr.heap.size:=by omega
 have x0:wr.cell? ⟨w.heap.size,0,none⟩=some (.int .i64 ((T:Nat):Int)):=by rw[zAA HX.out];rfl
 have x1:wr.cell? ⟨w.heap.size,1,none⟩=some (.int .i64 ((Dt:Nat):Int)):=by rw[zAA HX.out];rfl
 have x2:wr.cell? ⟨w.heap.size,2,none⟩=some (.int .i64 ((F:Nat):Int)):=by rw[zAA HX.out];rfl
 have x3:wr.cell? ⟨w.heap.size,3,none⟩=some (.slice so fs.length cap):=by rw[zAA HX.out];rfl
 by_cases hlt:j<Dt
 ·go_wp2_with fail
  refine(pND HP.out hsz (by simp;omega)).mono ?_
  rintro e w4 ⟨⟨v4,rfl⟩,hP4,hM4⟩
  have HP4:=Lib.hid hP4
  have HR4:=Lib.hid (HR.out.keep hM4 sb_pb)
  have HB4:=Lib.hid (HBk.out.trans (BM.below hM4 hsz))
  have hz4:w.heap.size+1≤w4.heap.size:=Nat.le_trans hsz hM4.size
  clear hP4 hM4 x0 x1 x2 x3
  go_wp2_with fail
  refine(sND HR4.out hz4 (by simp;omega)).mono ?_
  rintro e w5 ⟨⟨v5,rfl⟩,hR5,hM5⟩
  have HP5:=Lib.hid (HP4.out.keep hM5 pb_sb)
  have HR5:=Lib.hid hR5
  have HB5:=Lib.hid (HB4.out.trans (BM.below hM5 hz4))
  clear hR5 hM5
  go_wp2
  go_roundg (Dt-(j+1))
  case measure=>omega
  case rel=>exact⟨j+1,rfl,rfl,by omega,by rw[←rep_succ];exact HP5.out,by rw[←rep_succ];exact HR5.out,HB5.out⟩
 obtain rfl:Dt=j:=by omega
 clear hlt
 go_wp2
 have HS3:=Lib.hid (show GRel wr (w.heap.size+1) hp hs (([]++List.replicate T (⟨4,V.nil,[]⟩:LO))++List.replicate Dt (⟨8,V.nil,[]⟩:LO)) (⟨5,V.nil,[]⟩:LO) F F (.int .i64 0) wr from⟨0,rfl,rfl,Nat.zero_le _,by simpa using HP.out,by simpa using HR.out,Below.refl _ _⟩)
 have HZ3:=Lib.hid (Below.size HB.out)
 clear HP HR
 go_loopg [9] F (fun gg iv wx=>GRel wr (w.heap.size+1) hp hs (([]++List.replicate T (⟨4,V.nil,[]⟩:LO))++List.replicate Dt (⟨8,V.nil,[]⟩:LO)) (⟨5,V.nil,[]⟩:LO) F gg iv wx)
 case atStart=>exact HS3.out
 obtain⟨j,rfl,rfl,hj,hP,hR,hb⟩:=hrel
 have HP:=Lib.hid hP
 have HR:=Lib.hid hR
 have HBk:=Lib.hid hb
 have HB:=Lib.hid (Below.trans HB.out hb)
 have hsz:w.heap.size+1≤wr.heap.size:=by have h1:=HB.out.size;have h2:=HZW0.out;omega
 have HX:=Lib.hid (show wr.heap[w.heap.size]? =some (.cells #[.int .i64 ((T:Nat):Int),.int .i64 ((Dt:Nat):Int),.int .i64 ((F:Nat):Int),.slice so fs.length cap] 35) from(HB.out.block _ (by omega)).trans HW0.out)
 clear hP hR hb HS3
 have hxl:w.heap.size<wr.heap.size:=by omega
 have x0:wr.cell? ⟨w.heap.size,0,none⟩=some (.int .i64 ((T:Nat):Int)):=by rw[zAA HX.out];rfl
 have x1:wr.cell? ⟨w.heap.size,1,none⟩=some (.int .i64 ((Dt:Nat):Int)):=by rw[zAA HX.out];rfl
 have x2:wr.cell? ⟨w.heap.size,2,none⟩=some (.int .i64 ((F:Nat):Int)):=by rw[zAA HX.out];rfl
 have x3:wr.cell? ⟨w.heap.size,3,none⟩=some (.slice so fs.length cap):=by rw[zAA HX.out];rfl
 by_cases hlt:j<F
 ·go_wp2_with fail
  refine(pNF HP.out hsz (by simp;omega) _).mono ?_
  rintro e w4 ⟨⟨v4,rfl⟩,hP4,hM4⟩
  have HP4:=Lib.hid hP4
  have HR4:=Lib.hid (HR.out.keep hM4 sb_pb)
  have HB4:=Lib.hid (HBk.out.trans (BM.below hM4 hsz))
  have hz4:w.heap.size+1≤w4.heap.size:=Nat.le_trans hsz hM4.size
  clear hP4 hM4 x0 x1 x2 x3
  go_wp2_with fail
  refine(sNF HR4.out hz4 (by simp;omega) _).mono ?_
  rintro e w5 ⟨⟨v5,rfl⟩,hR5,hM5⟩
  have HP5:=Lib.hid (HP4.out.keep hM5 pb_sb)
  have HR5:=Lib.hid hR5
  have HB5:=Lib.hid (HB4.out.trans (BM.below hM5 hz4))
  clear hR5 hM5
  go_wp2
  go_roundg (F-(j+1))
  case measure=>omega
  case rel=>exact⟨j+1,rfl,rfl,by omega,by rw[←rep_succ];exact HP5.out,by rw[←rep_succ];exact HR5.out,HB5.out⟩
 obtain rfl:F=j:=by omega
 clear hlt
 go_wp2
 have HS4:=Lib.hid (show FRel wr (w.heap.size+1) hp hs (T:Nat) (Dt:Nat) (startM T Dt F) fs fs.length (.int .i64 0) wr from⟨0,rfl,rfl,Nat.zero_le _,HP.out,HR.out,Below.refl _ _⟩)
 clear HP HR
 go_loopg [10] fs.length (fun gg iv wx=>FRel wr (w.heap.size+1) hp hs (T:Nat) (Dt:Nat) (startM T Dt F) fs gg iv wx)
 case atStart=>exact HS4.out
 obtain⟨j,rfl,rfl,hj,hP,hR,hb⟩:=hrel
 have HP:=Lib.hid hP
 have HR:=Lib.hid hR
 have HBk:=Lib.hid hb
 have HB:=Lib.hid (Below.trans HB.out hb)
 have hsz:w.heap.size+1≤wr.heap.size:=by have h1:=HB.out.size;have h2:=HZW0.out;omega
 have HX:=Lib.hid (show wr.heap[w.heap.size]? =some (.cells #[.int .i64 ((T:Nat):Int),.int .i64 ((Dt:Nat):Int),.int .i64 ((F:Nat):Int),.slice so fs.length cap] 35) from(HB.out.block _ (by omega)).trans HW0.out)
 have HBZ:=Lib.hid (HBW.out.trans (HB.out.mono (show w.heap.size≤w.heap.size+1 by omega)))
 have HLN:=Lib.hid (show((fs.take j).foldl (fieldM T Dt) (startM T Dt F)).length≤1000 by rw[fold_len,start_len];omega)
 clear hP hR hb HS4
 have hxl:w.heap.size<wr.heap.size:=by omega
 by_cases hlt:j<fs.length
 rotate_left
 ·obtain rfl:fs.length=j:=by omega
  have x0:wr.cell? ⟨w.heap.size,0,none⟩=some (.int .i64 ((T:Nat):Int)):=by rw[zAA HX.out];rfl
  have x1:wr.cell? ⟨w.heap.size,1,none⟩=some (.int .i64 ((Dt:Nat):Int)):=by rw[zAA HX.out];rfl
  have x2:wr.cell? ⟨w.heap.size,2,none⟩=some (.int .i64 ((F:Nat):Int)):=by rw[zAA HX.out];rfl
  have x3:wr.cell? ⟨w.heap.size,3,none⟩=some (.slice so fs.length cap):=by rw[zAA HX.out];rfl
  go_wp2
  refine bodyPost_ret (by simp[results,Tryz.results18,go_sem];first|done|rfl) rfl ?_
  refine⟨hp,hs,rfl,?_,?_,HBZ.out⟩
  ·have h:=HP.out
   rw[List.take_length] at h
   exact h
  ·have h:=HR.out
   rw[List.take_length] at h
   exact h
 obtain⟨f,hf⟩:∃f,fs[j]? =some f:=⟨_,List.getElem?_eq_getElem hlt⟩
 obtain⟨g,o,rfl,hg,hcell⟩:=HFA.out (by omega)
 have HFW:=Lib.hid (HWF.out f (List.mem_of_getElem? hf))
 have HF:=Lib.hid hf
 have x0:wr.cell? ⟨w.heap.size,0,none⟩=some (.int .i64 ((T:Nat):Int)):=by rw[zAA HX.out];rfl
 have x1:wr.cell? ⟨w.heap.size,1,none⟩=some (.int .i64 ((Dt:Nat):Int)):=by rw[zAA HX.out];rfl
 have x2:wr.cell? ⟨w.heap.size,2,none⟩=some (.int .i64 ((F:Nat):Int)):=by rw[zAA HX.out];rfl
 have x3:wr.cell? ⟨w.heap.size,3,none⟩=some (.slice (some ⟨g,o,none⟩) fs.length cap):=by rw[zAA HX.out];rfl
 have f0:wr.cell? ⟨g,o+j*9,none⟩=some (.int .i64 f.kind):=(HBZ.out.cell (p:=⟨g,o+j*9,none⟩) hg).trans (hcell j f hf 0 _ rfl)
 have f1:wr.cell? ⟨g,o+j*9+1,none⟩=some (.int .i64 f.t):=(HBZ.out.cell (p:=⟨g,o+j*9+1,none⟩) hg).trans (hcell j f hf 1 _ rfl)
 have f2:wr.cell? ⟨g,o+j*9+2,none⟩=some (.int .i64 f.m):=(HBZ.out.cell (p:=⟨g,o+j*9+2,none⟩) hg).trans (hcell j f hf 2 _ rfl)
 have f3:wr.cell? ⟨g,o+j*9+3,none⟩=some (.string f.name):=(HBZ.out.cell (p:=⟨g,o+j*9+3,none⟩) hg).trans (hcell j f hf 3 _ rfl)
 have f4:wr.cell? ⟨g,o+j*9+4,none⟩=some (.int .i64 f.val.k):=(HBZ.out.cell (p:=⟨g,o+j*9+4,none⟩) hg).trans (hcell j f hf 4 _ rfl)
 have f5:wr.cell? ⟨g,o+j*9+5,none⟩=some (.int .i64 f.val.p):=(HBZ.out.cell (p:=⟨g,o+j*9+5,none⟩) hg).trans (hcell j f hf 5 _ rfl)
 have f6:wr.cell? ⟨g,o+j*9+6,none⟩=some (.int .i64 f.val.q):=(HBZ.out.cell (p:=⟨g,o+j*9+6,none⟩) hg).trans (hcell j f hf 6 _ rfl)
 have f7:wr.cell? ⟨g,o+j*9+7,none⟩=some (.string f.val.s):=(HBZ.out.cell (p:=⟨g,o+j*9+7,none⟩) hg).trans (hcell j f hf 7 _ rfl)
 have f8:wr.cell? ⟨g,o+j*9+8,none⟩=some (.int .i64 f.val.r):=(HBZ.out.cell (p:=⟨g,o+j*9+8,none⟩) hg).trans (hcell j f hf 8 _ rfl)
 clear hf hcell
 by_cases hk:f.kind=1
 ·have hk1:(f.kind==1)=true:=beq_iff_eq.2 hk
  go_wp2
  obtain⟨B,hB⟩:∃B,B=wr.alloc (.cells #[.int .i64 1,.int .i64 f.t,.int .i64 f.m,.string f.name,.int .i64 f.val.k,.int .i64 f.val.p,.int .i64 f.val.q,.string f.val.s,.int .i64 f.val.r] 66):=⟨_,rfl⟩
  rw[←hB]
  have HBw1:=Lib.hid (show B.heap[w.heap.size]? =some (.cells #[.int .i64 ((T:Nat):Int),.int .i64 ((Dt:Nat):Int),.int .i64 ((F:Nat):Int),.slice (some ⟨g,o,none⟩) fs.length cap] 35) by rw[hB];exact zAI HX.out _)
  have HBf1:=Lib.hid (show B.heap[wr.heap.size]? =some (.cells #[.int .i64 1,.int .i64 f.t,.int .i64 f.m,.string f.name,.int .i64 f.val.k,.int .i64 f.val.p,.int .i64 f.val.q,.string f.val.s,.int .i64 f.val.r] 66) by rw[hB];exact heap1 _ _)
  have HPB:=Lib.hid (show PHp (w.heap.size+1) j B hp ((fs.take j).foldl (fieldM T Dt) (startM T Dt F)) by rw[hB];exact HP.out.below (zAm _ _))
  have HRB:=Lib.hid (show RHp (w.heap.size+1) j B hs ((fs.take j).foldl (fieldM T Dt) (startM T Dt F)) by rw[hB];exact HR.out.below (zAm _ _))
  have HBB:=Lib.hid (show Below (w.heap.size+1) wr B by rw[hB];exact(zAm _ _).mono hsz)
  have hzB:w.heap.size+1≤B.heap.size:=Nat.le_trans hsz HBB.out.size
  clear hB x0 x1 x2 x3 f0 f1 f2 f3 f4 f5 f6 f7 f8
  have SO:=Lib.hid (fun(W:World) (hw:W.heap[w.heap.size]? =some (.cells #[.int .i64 ((T:Nat):Int),.int .i64 ((Dt:Nat):Int),.int .i64 ((F:Nat):Int),.slice (some ⟨g,o,none⟩) fs.length cap] 35)) (hfb:W.heap[wr.heap.size]? =some (.cells #[.int .i64 1,.int .i64 f.t,.int .i64 f.m,.string f.name,.int .i64 f.val.k,.int .i64 f.val.p,.int .i64 f.val.q,.string f.val.s,.int .i64 f.val.r] 66))=>(show W.cell? ⟨w.heap.size,0,none⟩=some (.int .i64 ((T:Nat):Int))∧W.cell? ⟨w.heap.size,1,none⟩=some (.int .i64 ((Dt:Nat):Int))∧W.cell? ⟨w.heap.size,2,none⟩=some (.int .i64 ((F:Nat):Int))∧W.cell? ⟨w.heap.size,3,none⟩=some (.slice (some ⟨g,o,none⟩) fs.length cap)∧W.cell? ⟨wr.heap.size,0,none⟩=some (.int .i64 1)∧W.cell? ⟨wr.heap.size,1,none⟩=some (.int .i64 f.t)∧W.cell? ⟨wr.heap.size,2,none⟩=some (.int .i64 f.m)∧W.cell? ⟨wr.heap.size,3,none⟩=some (.string f.name)∧W.cell? ⟨wr.heap.size,4,none⟩=some (.int .i64 f.val.k)∧W.cell? ⟨wr.heap.size,5,none⟩=some (.int .i64 f.val.p)∧W.cell? ⟨wr.heap.size,6,none⟩=some (.int .i64 f.val.q)∧W.cell? ⟨wr.heap.size,7,none⟩=some (.string f.val.s)∧W.cell? ⟨wr.heap.size,8,none⟩=some (.int .i64 f.val.r) from⟨by rw[zAA hw];rfl,by rw[zAA hw];rfl,by rw[zAA hw];rfl,by rw[zAA hw];rfl,by rw[zAA hfb];rfl,by rw[zAA hfb];rfl,by rw[zAA hfb];rfl,by rw[zAA hfb];rfl,by rw[zAA hfb];rfl,by rw[zAA hfb];rfl,by rw[zAA hfb];rfl,by rw[zAA hfb];rfl,by rw[zAA hfb];rfl⟩))
  have HOB:=Lib.hid (fun W (i:Int)=>object_c W (T:Nat) (Dt:Nat) (F:Nat) (.slice (some ⟨g,o,none⟩) fs.length cap) i (by omega) (by omega) (by omega) (by omega))
  have HSM:=Lib.hid (fun W (hb:Below B.heap.size B W)=>(pSetMeta_c (HPB.out.below hb) (Nat.le_trans hzB hb.size) (objM (T:Nat) (Dt:Nat) f.t).k (objM (T:Nat) (Dt:Nat) f.t).p (objM (T:Nat) (Dt:Nat) f.t).q (objM (T:Nat) (Dt:Nat) f.t).s (objM (T:Nat) (Dt:Nat) f.t).r (objM (T:Nat) (Dt:Nat) f.m).k (objM (T:Nat) (Dt:Nat) f.m).p (objM (T:Nat) (Dt:Nat) f.m).q (objM (T:Nat) (Dt:Nat) f.m).s (objM (T:Nat) (Dt:Nat) f.m).r HFW.out.t (obj_wf HFW.out.m):Calls Tryz.prog 67 #[.pointer (some ⟨hp,0,none⟩),(objM (T:Nat) (Dt:Nat) f.t).v,(objM (T:Nat) (Dt:Nat) f.m).v] W _))
  have hbD:Below B.heap.size B B.drew:=(Below.refl _ _).drew
  have xwD:B.drew.heap[w.heap.size]? =some (.cells #[.int .i64 ((T:Nat):Int),.int .i64 ((Dt:Nat):Int),.int .i64 ((F:Nat):Int),.slice (some ⟨g,o,none⟩) fs.length cap] 35):=HBw1.out
  have xfD:B.drew.heap[wr.heap.size]? =some (.cells #[.int .i64 1,.int .i64 f.t,.int .i64 f.m,.string f.name,.int .i64 f.val.k,.int .i64 f.val.p,.int .i64 f.val.q,.string f.val.s,.int .i64 f.val.r] 66):=HBf1.out
  go_region_held3 (fun w'=>w'.cell? ⟨w.heap.size,0,none⟩=some (.int .i64 ((T:Nat):Int))∧w'.cell? ⟨w.heap.size,1,none⟩=some (.int .i64 ((Dt:Nat):Int))∧w'.cell? ⟨w.heap.size,2,none⟩=some (.int .i64 ((F:Nat):Int))∧w'.cell? ⟨w.heap.size,3,none⟩=some (.slice (some ⟨g,o,none⟩) fs.length cap)∧w'.cell? ⟨wr.heap.size,0,none⟩=some (.int .i64 1)∧w'.cell? ⟨wr.heap.size,1,none⟩=some (.int .i64 f.t)∧w'.cell? ⟨wr.heap.size,2,none⟩=some (.int .i64 f.m)∧w'.cell? ⟨wr.heap.size,3,none⟩=some (.string f.name)∧w'.cell? ⟨wr.heap.size,4,none⟩=some (.int .i64 f.val.k)∧w'.cell? ⟨wr.heap.size,5,none⟩=some (.int .i64 f.val.p)∧w'.cell? ⟨wr.heap.size,6,none⟩=some (.int .i64 f.val.q)∧w'.cell? ⟨wr.heap.size,7,none⟩=some (.string f.val.s)∧w'.cell? ⟨wr.heap.size,8,none⟩=some (.int .i64 f.val.r))
   (first|with_reducible exact SO.out _ (by assumption) (by assumption))
   (first|(go_at_call 68;refine(HOB.out _ _).mono ?_;rintro e v5 ⟨rfl,hb⟩;have hb5:Below B.heap.size B v5:=zAC (by assumption) hb;have xw5:=hkeep hb5 HBw1.out;have xf5:=hkeep hb5 HBf1.out;clear hb)|(go_at_call 67;refine(HSM.out _ (by assumption)).mono ?_;rintro e v16 ⟨⟨v,rfl⟩,hP6,hM6⟩;have xw6:v16.heap[w.heap.size]? =some (.cells #[.int .i64 ((T:Nat):Int),.int .i64 ((Dt:Nat):Int),.int .i64 ((F:Nat):Int),.slice (some ⟨g,o,none⟩) fs.length cap] 35):=hM6.keep (by assumption) (fun h=>by rcases h with h|h|h|h|h<;>exact absurd h (by decide));have xf6:v16.heap[wr.heap.size]? =some (.cells #[.int .i64 1,.int .i64 f.t,.int .i64 f.m,.string f.name,.int .i64 f.val.k,.int .i64 f.val.p,.int .i64 f.val.q,.string f.val.s,.int .i64 f.val.r] 66):=hM6.keep (by assumption) (fun h=>by rcases h with h|h|h|h|h<;>exact absurd h (by decide));have HB16:=Lib.hid (show Below (w.heap.size+1) B v16 from(Below.mono (by assumption) hzB).trans (BM.below hM6 (Nat.le_trans hzB (Below.size (by assumption)))));have HR16:=Lib.hid ((RHp.below HRB.out (by assumption)).keep hM6 sb_pb);have HP16:=Lib.hid hP6;have HBw2:=Lib.hid xw6;have HBf2:=Lib.hid xf6;clear hP6 hM6))
  have hz6:w.heap.size+1≤v16.heap.size:=Nat.le_trans hzB HB16.out.size
  go_wp2
  have HSN:=Lib.hid (fun W (hb:Below v16.heap.size v16 W)=>(sSetMeta_c (HR16.out.below hb) (Nat.le_trans hz6 hb.size) HLN.out (objM (T:Nat) (Dt:Nat) f.t).k (objM (T:Nat) (Dt:Nat) f.t).p (objM (T:Nat) (Dt:Nat) f.t).q (objM (T:Nat) (Dt:Nat) f.t).s (objM (T:Nat) (Dt:Nat) f.t).r (objM (T:Nat) (Dt:Nat) f.m).k (objM (T:Nat) (Dt:Nat) f.m).p (objM (T:Nat) (Dt:Nat) f.m).q (objM (T:Nat) (Dt:Nat) f.m).s (objM (T:Nat) (Dt:Nat) f.m).r (obj_wf HFW.out.m):Calls Tryz.prog 69 #[.pointer (some ⟨hs,0,none⟩),(objM (T:Nat) (Dt:Nat) f.t).v,(objM (T:Nat) (Dt:Nat) f.m).v] W _))
  have hbD:Below v16.heap.size v16 v16.drew:=(Below.refl _ _).drew
  have xwD:v16.drew.heap[w.heap.size]? =some (.cells #[.int .i64 ((T:Nat):Int),.int .i64 ((Dt:Nat):Int),.int .i64 ((F:Nat):Int),.slice (some ⟨g,o,none⟩) fs.length cap] 35):=HBw2.out
  have xfD:v16.drew.heap[wr.heap.size]? =some (.cells #[.int .i64 1,.int .i64 f.t,.int .i64 f.m,.string f.name,.int .i64 f.val.k,.int .i64 f.val.p,.int .i64 f.val.q,.string f.val.s,.int .i64 f.val.r] 66):=HBf2.out
  go_region_held3 (fun w'=>w'.cell? ⟨w.heap.size,0,none⟩=some (.int .i64 ((T:Nat):Int))∧w'.cell? ⟨w.heap.size,1,none⟩=some (.int .i64 ((Dt:Nat):Int))∧w'.cell? ⟨w.heap.size,2,none⟩=some (.int .i64 ((F:Nat):Int))∧w'.cell? ⟨w.heap.size,3,none⟩=some (.slice (some ⟨g,o,none⟩) fs.length cap)∧w'.cell? ⟨wr.heap.size,0,none⟩=some (.int .i64 1)∧w'.cell? ⟨wr.heap.size,1,none⟩=some (.int .i64 f.t)∧w'.cell? ⟨wr.heap.size,2,none⟩=some (.int .i64 f.m)∧w'.cell? ⟨wr.heap.size,3,none⟩=some (.string f.name)∧w'.cell? ⟨wr.heap.size,4,none⟩=some (.int .i64 f.val.k)∧w'.cell? ⟨wr.heap.size,5,none⟩=some (.int .i64 f.val.p)∧w'.cell? ⟨wr.heap.size,6,none⟩=some (.int .i64 f.val.q)∧w'.cell? ⟨wr.heap.size,7,none⟩=some (.string f.val.s)∧w'.cell? ⟨wr.heap.size,8,none⟩=some (.int .i64 f.val.r))
   (first|with_reducible exact SO.out _ (by assumption) (by assumption))
   (first|(go_at_call 68;refine(HOB.out _ _).mono ?_;rintro e v5 ⟨rfl,hb⟩;have hb5:Below v16.heap.size v16 v5:=zAC (by assumption) hb;have xw5:=hkeep hb5 HBw2.out;have xf5:=hkeep hb5 HBf2.out;clear hb)|(go_at_call 69;refine(HSN.out _ (by assumption)).mono ?_;rintro e v26 ⟨⟨v,rfl⟩,hR6,hM6⟩;have xw6:v26.heap[w.heap.size]? =some (.cells #[.int .i64 ((T:Nat):Int),.int .i64 ((Dt:Nat):Int),.int .i64 ((F:Nat):Int),.slice (some ⟨g,o,none⟩) fs.length cap] 35):=hM6.keep (by assumption) (fun h=>by rcases h with h|h|h|h|h|h<;>exact absurd h (by decide));have xf6:v26.heap[wr.heap.size]? =some (.cells #[.int .i64 1,.int .i64 f.t,.int .i64 f.m,.string f.name,.int .i64 f.val.k,.int .i64 f.val.p,.int .i64 f.val.q,.string f.val.s,.int .i64 f.val.r] 66):=hM6.keep (by assumption) (fun h=>by rcases h with h|h|h|h|h|h<;>exact absurd h (by decide));have HB26:=Lib.hid (show Below (w.heap.size+1) v16 v26 from(Below.mono (by assumption) hz6).trans (BM.below hM6 (Nat.le_trans hz6 (Below.size (by assumption)))));have HP26:=Lib.hid ((PHp.below HP16.out (by assumption)).keep hM6 pb_sb);have HR26:=Lib.hid hR6;clear hR6 hM6))
  go_wp2
  go_roundg (fs.length-(j+1))
  case measure=>omega
  case rel=>
   refine⟨j+1,rfl,rfl,by omega,?_,?_,HBk.out.trans (HBB.out.trans (HB16.out.trans HB26.out))⟩
   ·rw[fold_take HF.out]
    unfold fieldM
    rw[if_pos hk]
    exact HP26.out.up (Nat.le_succ _)
   ·rw[fold_take HF.out]
    unfold fieldM
    rw[if_pos hk]
    exact HR26.out.up (Nat.le_succ _)
 ·have hk1:(f.kind==1)=false:=beq_eq_false_iff_ne.2 hk
  go_wp2
  obtain⟨B,hB⟩:∃B,B=wr.alloc (.cells #[.int .i64 f.kind,.int .i64 f.t,.int .i64 f.m,.string f.name,.int .i64 f.val.k,.int .i64 f.val.p,.int .i64 f.val.q,.string f.val.s,.int .i64 f.val.r] 66):=⟨_,rfl⟩
  rw[←hB]
  have HBw1:=Lib.hid (show B.heap[w.heap.size]? =some (.cells #[.int .i64 ((T:Nat):Int),.int .i64 ((Dt:Nat):Int),.int .i64 ((F:Nat):Int),.slice (some ⟨g,o,none⟩) fs.length cap] 35) by rw[hB];exact zAI HX.out _)
  have HBf1:=Lib.hid (show B.heap[wr.heap.size]? =some (.cells #[.int .i64 f.kind,.int .i64 f.t,.int .i64 f.m,.string f.name,.int .i64 f.val.k,.int .i64 f.val.p,.int .i64 f.val.q,.string f.val.s,.int .i64 f.val.r] 66) by rw[hB];exact heap1 _ _)
  have HPB:=Lib.hid (show PHp (w.heap.size+1) j B hp ((fs.take j).foldl (fieldM T Dt) (startM T Dt F)) by rw[hB];exact HP.out.below (zAm _ _))
  have HRB:=Lib.hid (show RHp (w.heap.size+1) j B hs ((fs.take j).foldl (fieldM T Dt) (startM T Dt F)) by rw[hB];exact HR.out.below (zAm _ _))
  have HBB:=Lib.hid (show Below (w.heap.size+1) wr B by rw[hB];exact(zAm _ _).mono hsz)
  have hzB:w.heap.size+1≤B.heap.size:=Nat.le_trans hsz HBB.out.size
  clear hB x0 x1 x2 x3 f0 f1 f2 f3 f4 f5 f6 f7 f8
  have SO:=Lib.hid (fun(W:World) (hw:W.heap[w.heap.size]? =some (.cells #[.int .i64 ((T:Nat):Int),.int .i64 ((Dt:Nat):Int),.int .i64 ((F:Nat):Int),.slice (some ⟨g,o,none⟩) fs.length cap] 35)) (hfb:W.heap[wr.heap.size]? =some (.cells #[.int .i64 f.kind,.int .i64 f.t,.int .i64 f.m,.string f.name,.int .i64 f.val.k,.int .i64 f.val.p,.int .i64 f.val.q,.string f.val.s,.int .i64 f.val.r] 66))=>(show W.cell? ⟨w.heap.size,0,none⟩=some (.int .i64 ((T:Nat):Int))∧W.cell? ⟨w.heap.size,1,none⟩=some (.int .i64 ((Dt:Nat):Int))∧W.cell? ⟨w.heap.size,2,none⟩=some (.int .i64 ((F:Nat):Int))∧W.cell? ⟨w.heap.size,3,none⟩=some (.slice (some ⟨g,o,none⟩) fs.length cap)∧W.cell? ⟨wr.heap.size,0,none⟩=some (.int .i64 f.kind)∧W.cell? ⟨wr.heap.size,1,none⟩=some (.int .i64 f.t)∧W.cell? ⟨wr.heap.size,2,none⟩=some (.int .i64 f.m)∧W.cell? ⟨wr.heap.size,3,none⟩=some (.string f.name)∧W.cell? ⟨wr.heap.size,4,none⟩=some (.int .i64 f.val.k)∧W.cell? ⟨wr.heap.size,5,none⟩=some (.int .i64 f.val.p)∧W.cell? ⟨wr.heap.size,6,none⟩=some (.int .i64 f.val.q)∧W.cell? ⟨wr.heap.size,7,none⟩=some (.string f.val.s)∧W.cell? ⟨wr.heap.size,8,none⟩=some (.int .i64 f.val.r) from⟨by rw[zAA hw];rfl,by rw[zAA hw];rfl,by rw[zAA hw];rfl,by rw[zAA hw];rfl,by rw[zAA hfb];rfl,by rw[zAA hfb];rfl,by rw[zAA hfb];rfl,by rw[zAA hfb];rfl,by rw[zAA hfb];rfl,by rw[zAA hfb];rfl,by rw[zAA hfb];rfl,by rw[zAA hfb];rfl,by rw[zAA hfb];rfl⟩))
  have HOB:=Lib.hid (fun W (i:Int)=>object_c W (T:Nat) (Dt:Nat) (F:Nat) (.slice (some ⟨g,o,none⟩) fs.length cap) i (by omega) (by omega) (by omega) (by omega))
  have HSM:=Lib.hid (fun W (hb:Below B.heap.size B W)=>(pSet_c (HPB.out.below hb) (Nat.le_trans hzB hb.size) (by omega) (objM (T:Nat) (Dt:Nat) f.t).k (objM (T:Nat) (Dt:Nat) f.t).p (objM (T:Nat) (Dt:Nat) f.t).q (objM (T:Nat) (Dt:Nat) f.t).s (objM (T:Nat) (Dt:Nat) f.t).r f.name f.val.k f.val.p f.val.q f.val.s f.val.r HFW.out.t HFW.out.v:Calls Tryz.prog 70 #[.pointer (some ⟨hp,0,none⟩),(objM (T:Nat) (Dt:Nat) f.t).v,.agg #[.int .i64 3,.int .i64 0,.int .i64 0,.string f.name,.int .i64 0],f.val.v] W _))
  have hbD:Below B.heap.size B B.drew:=(Below.refl _ _).drew
  have xwD:B.drew.heap[w.heap.size]? =some (.cells #[.int .i64 ((T:Nat):Int),.int .i64 ((Dt:Nat):Int),.int .i64 ((F:Nat):Int),.slice (some ⟨g,o,none⟩) fs.length cap] 35):=HBw1.out
  have xfD:B.drew.heap[wr.heap.size]? =some (.cells #[.int .i64 f.kind,.int .i64 f.t,.int .i64 f.m,.string f.name,.int .i64 f.val.k,.int .i64 f.val.p,.int .i64 f.val.q,.string f.val.s,.int .i64 f.val.r] 66):=HBf1.out
  go_region_held3 (fun w'=>w'.cell? ⟨w.heap.size,0,none⟩=some (.int .i64 ((T:Nat):Int))∧w'.cell? ⟨w.heap.size,1,none⟩=some (.int .i64 ((Dt:Nat):Int))∧w'.cell? ⟨w.heap.size,2,none⟩=some (.int .i64 ((F:Nat):Int))∧w'.cell? ⟨w.heap.size,3,none⟩=some (.slice (some ⟨g,o,none⟩) fs.length cap)∧w'.cell? ⟨wr.heap.size,0,none⟩=some (.int .i64 f.kind)∧w'.cell? ⟨wr.heap.size,1,none⟩=some (.int .i64 f.t)∧w'.cell? ⟨wr.heap.size,2,none⟩=some (.int .i64 f.m)∧w'.cell? ⟨wr.heap.size,3,none⟩=some (.string f.name)∧w'.cell? ⟨wr.heap.size,4,none⟩=some (.int .i64 f.val.k)∧w'.cell? ⟨wr.heap.size,5,none⟩=some (.int .i64 f.val.p)∧w'.cell? ⟨wr.heap.size,6,none⟩=some (.int .i64 f.val.q)∧w'.cell? ⟨wr.heap.size,7,none⟩=some (.string f.val.s)∧w'.cell? ⟨wr.heap.size,8,none⟩=some (.int .i64 f.val.r))
   (first|with_reducible exact SO.out _ (by assumption) (by assumption))
   (first|(go_at_call 68;refine(HOB.out _ _).mono ?_;rintro e v5 ⟨rfl,hb⟩;have hb5:Below B.heap.size B v5:=zAC (by assumption) hb;have xw5:=hkeep hb5 HBw1.out;have xf5:=hkeep hb5 HBf1.out;clear hb)|(go_at_call 70;refine(HSM.out _ (by assumption)).mono ?_;rintro e v16 ⟨⟨v,rfl⟩,hP6,hM6⟩;have xw6:v16.heap[w.heap.size]? =some (.cells #[.int .i64 ((T:Nat):Int),.int .i64 ((Dt:Nat):Int),.int .i64 ((F:Nat):Int),.slice (some ⟨g,o,none⟩) fs.length cap] 35):=hM6.keep (by assumption) (fun h=>by rcases h with h|h|h|h|h<;>exact absurd h (by decide));have xf6:v16.heap[wr.heap.size]? =some (.cells #[.int .i64 f.kind,.int .i64 f.t,.int .i64 f.m,.string f.name,.int .i64 f.val.k,.int .i64 f.val.p,.int .i64 f.val.q,.string f.val.s,.int .i64 f.val.r] 66):=hM6.keep (by assumption) (fun h=>by rcases h with h|h|h|h|h<;>exact absurd h (by decide));have HB16:=Lib.hid (show Below (w.heap.size+1) B v16 from(Below.mono (by assumption) hzB).trans (BM.below hM6 (Nat.le_trans hzB (Below.size (by assumption)))));have HR16:=Lib.hid ((RHp.below HRB.out (by assumption)).keep hM6 sb_pb);have HP16:=Lib.hid hP6;have HBw2:=Lib.hid xw6;have HBf2:=Lib.hid xf6;clear hP6 hM6))
  have hz6:w.heap.size+1≤v16.heap.size:=Nat.le_trans hzB HB16.out.size
  go_wp2
  have HSN:=Lib.hid (fun W (hb:Below v16.heap.size v16 W)=>(sSet_c (HR16.out.below hb) (Nat.le_trans hz6 hb.size) HLN.out (by omega) (objM (T:Nat) (Dt:Nat) f.t).k (objM (T:Nat) (Dt:Nat) f.t).p (objM (T:Nat) (Dt:Nat) f.t).q (objM (T:Nat) (Dt:Nat) f.t).s (objM (T:Nat) (Dt:Nat) f.t).r f.name f.val.k f.val.p f.val.q f.val.s f.val.r:Calls Tryz.prog 71 #[.pointer (some ⟨hs,0,none⟩),(objM (T:Nat) (Dt:Nat) f.t).v,.agg #[.int .i64 3,.int .i64 0,.int .i64 0,.string f.name,.int .i64 0],f.val.v] W _))
  have hbD:Below v16.heap.size v16 v16.drew:=(Below.refl _ _).drew
  have xwD:v16.drew.heap[w.heap.size]? =some (.cells #[.int .i64 ((T:Nat):Int),.int .i64 ((Dt:Nat):Int),.int .i64 ((F:Nat):Int),.slice (some ⟨g,o,none⟩) fs.length cap] 35):=HBw2.out
  have xfD:v16.drew.heap[wr.heap.size]? =some (.cells #[.int .i64 f.kind,.int .i64 f.t,.int .i64 f.m,.string f.name,.int .i64 f.val.k,.int .i64 f.val.p,.int .i64 f.val.q,.string f.val.s,.int .i64 f.val.r] 66):=HBf2.out
  go_region_held3 (fun w'=>w'.cell? ⟨w.heap.size,0,none⟩=some (.int .i64 ((T:Nat):Int))∧w'.cell? ⟨w.heap.size,1,none⟩=some (.int .i64 ((Dt:Nat):Int))∧w'.cell? ⟨w.heap.size,2,none⟩=some (.int .i64 ((F:Nat):Int))∧w'.cell? ⟨w.heap.size,3,none⟩=some (.slice (some ⟨g,o,none⟩) fs.length cap)∧w'.cell? ⟨wr.heap.size,0,none⟩=some (.int .i64 f.kind)∧w'.cell? ⟨wr.heap.size,1,none⟩=some (.int .i64 f.t)∧w'.cell? ⟨wr.heap.size,2,none⟩=some (.int .i64 f.m)∧w'.cell? ⟨wr.heap.size,3,none⟩=some (.string f.name)∧w'.cell? ⟨wr.heap.size,4,none⟩=some (.int .i64 f.val.k)∧w'.cell? ⟨wr.heap.size,5,none⟩=some (.int .i64 f.val.p)∧w'.cell? ⟨wr.heap.size,6,none⟩=some (.int .i64 f.val.q)∧w'.cell? ⟨wr.heap.size,7,none⟩=some (.string f.val.s)∧w'.cell? ⟨wr.heap.size,8,none⟩=some (.int .i64 f.val.r))
   (first|with_reducible exact SO.out _ (by assumption) (by assumption))
   (first|(go_at_call 68;refine(HOB.out _ _).mono ?_;rintro e v5 ⟨rfl,hb⟩;have hb5:Below v16.heap.size v16 v5:=zAC (by assumption) hb;have xw5:=hkeep hb5 HBw2.out;have xf5:=hkeep hb5 HBf2.out;clear hb)|(go_at_call 71;refine(HSN.out _ (by assumption)).mono ?_;rintro e v26 ⟨⟨v,rfl⟩,hR6,hM6⟩;have xw6:v26.heap[w.heap.size]? =some (.cells #[.int .i64 ((T:Nat):Int),.int .i64 ((Dt:Nat):Int),.int .i64 ((F:Nat):Int),.slice (some ⟨g,o,none⟩) fs.length cap] 35):=hM6.keep (by assumption) (fun h=>by rcases h with h|h|h|h|h|h<;>exact absurd h (by decide));have xf6:v26.heap[wr.heap.size]? =some (.cells #[.int .i64 f.kind,.int .i64 f.t,.int .i64 f.m,.string f.name,.int .i64 f.val.k,.int .i64 f.val.p,.int .i64 f.val.q,.string f.val.s,.int .i64 f.val.r] 66):=hM6.keep (by assumption) (fun h=>by rcases h with h|h|h|h|h|h<;>exact absurd h (by decide));have HB26:=Lib.hid (show Below (w.heap.size+1) v16 v26 from(Below.mono (by assumption) hz6).trans (BM.below hM6 (Nat.le_trans hz6 (Below.size (by assumption)))));have HP26:=Lib.hid ((PHp.below HP16.out (by assumption)).keep hM6 pb_sb);have HR26:=Lib.hid hR6;clear hR6 hM6))
  go_wp2
  go_roundg (fs.length-(j+1))
  case measure=>omega
  case rel=>
   refine⟨j+1,rfl,rfl,by omega,?_,?_,HBk.out.trans (HBB.out.trans (HB16.out.trans HB26.out))⟩
   ·rw[fold_take HF.out]
    unfold fieldM
    rw[if_neg hk]
    exact HP26.out
   ·rw[fold_take HF.out]
    unfold fieldM
    rw[if_neg hk]
    exact HR26.out
theorem zBf (w:World) (hg:Glob w):Calls Tryz.prog 13 #[] w (BoolPost w true):=by
 have HG:=Lib.hid hg
 clear hg
 go_enter Tryz.func13,Tryz.ntmps13
 go_wp2_with fail
 obtain⟨W0,hW0⟩:∃W0,W0=w.alloc (.cells #[.int .i64 0,.int .i64 2,.int .i64 0,.string ⟨#[95,95,97,100,100]⟩,.int .i64 5,.int .i64 0,.int .i64 0,.string ⟨#[]⟩,.int .i64 3,.int .i64 1,.int .i64 1,.int .i64 2,.string ⟨#[]⟩,.int .i64 0,.int .i64 0,.int .i64 0,.string ⟨#[]⟩,.int .i64 0] 66):=⟨_,rfl⟩
 rw[←hW0]
 have HB0:=Lib.hid (show Below w.heap.size w W0 by rw[hW0];exact zAm _ _)
 have HF0:=Lib.hid (show W0.heap[w.heap.size]? =some (.cells #[.int .i64 0,.int .i64 2,.int .i64 0,.string ⟨#[95,95,97,100,100]⟩,.int .i64 5,.int .i64 0,.int .i64 0,.string ⟨#[]⟩,.int .i64 3,.int .i64 1,.int .i64 1,.int .i64 2,.string ⟨#[]⟩,.int .i64 0,.int .i64 0,.int .i64 0,.string ⟨#[]⟩,.int .i64 0] 66) by rw[hW0];exact heap1 _ _)
 clear hW0
 have BD:Calls Tryz.prog 18 #[.agg #[.int .i64 2,.int .i64 0,.int .i64 1,.slice (some ⟨w.heap.size,0,none⟩) 2 2]] W0 _:=build_ok W0 2 0 1 (by omega) (by omega) (by omega) awF (by decide) aw_wf (some ⟨w.heap.size,0,none⟩) 2 (fun _=>⟨w.heap.size,0,rfl,(hsz HF0),aw_cells HF0.out⟩)
 refine BD.mono ?_
 clear BD
 rintro e w1 ⟨hp,hs,rfl,hP,hR,hb⟩
 have HB1:=hbn HB0.out hb
 have HH:=Lib.hid (php_hand hP (by decide))
 have HG1:=Lib.hid (HG.out.stays HB1.out)
 clear hP hR hb
 have BN:=Lib.hid (fun W (hb:Below w1.heap.size w1 W)=>((aw2▸pBinaryX_c W (HG1.out.stays hb) (some ⟨hp,0,none⟩) (handH (buildM 2 0 1 awF)) (HH.out.stays hb) 1 0 0 0 ⟨#[]⟩ 0 4 0 0 ⟨#[]⟩ 1 (zBb rfl) (zBb rfl) (zBb rfl) (zBb rfl) (fun h=>by omega):Calls Tryz.prog 20 #[.pointer (some ⟨hp,0,none⟩),.int .i64 1,.agg #[.int .i64 0,.int .i64 0,.int .i64 0,.string ⟨#[]⟩,.int .i64 0],.agg #[.int .i64 4,.int .i64 0,.int .i64 0,.string ⟨#[]⟩,.int .i64 1]] W (NdPost W (zBs ⟨5,0,0,⟨#[]⟩,3⟩ [⟨0,0,0,⟨#[]⟩,0⟩,⟨4,0,0,⟨#[]⟩,1⟩] 1))).mono (fun e w' (h:NdPost W _ e w')=>(by
  obtain⟨av,he,hA,hb⟩:=h
  obtain⟨ga,rfl,hga,hgc⟩:=args_two hA
  exact⟨ga,he,hgc,hb⟩:∃ga,e= .returned (.agg #[.int .i64 2,.int .i64 0,.int .i64 0,.int .i64 0,.string ⟨#[]⟩,.int .i64 0,.int .i64 5,.int .i64 0,.int .i64 0,.string ⟨#[]⟩,.int .i64 3,.slice (some ⟨ga,0,none⟩) 2 2,.int .i64 1,.string ⟨#[]⟩])∧w'.heap[ga]? =some (.cells #[.int .i64 0,.int .i64 0,.int .i64 0,.string ⟨#[]⟩,.int .i64 0,.int .i64 4,.int .i64 0,.int .i64 0,.string ⟨#[]⟩,.int .i64 1] 25)∧Below W.heap.size W w'))))
 have BM1:=Lib.hid (fun W (hb:Below w1.heap.size w1 W)=>((aw3▸pBinaryX_c W (HG1.out.stays hb) (some ⟨hp,0,none⟩) (handH (buildM 2 0 1 awF)) (HH.out.stays hb) 18 2 1 1 ⟨#[]⟩ 0 0 0 0 ⟨#[]⟩ 0 (zBb rfl) (zBb rfl) (zBb rfl) (zBb rfl) (fun h=>by omega):Calls Tryz.prog 20 #[.pointer (some ⟨hp,0,none⟩),.int .i64 18,.agg #[.int .i64 2,.int .i64 1,.int .i64 1,.string ⟨#[]⟩,.int .i64 0],.agg #[.int .i64 0,.int .i64 0,.int .i64 0,.string ⟨#[]⟩,.int .i64 0]] W (NdPost W (ndErr ⟨#[97,116,116,101,109,112,116,32,116,111,32,99,111,109,112,97,114,101,32,110,105,108,32,119,105,116,104,32,110,117,109,98,101,114]⟩))).mono (fun e w' (h:NdPost W _ e w')=>(by
  obtain⟨av,he,hA,hb⟩:=h
  rw[args_none hA] at he
  exact⟨he,hb⟩:e= .returned (.agg #[.int .i64 3,.int .i64 0,.int .i64 0,.int .i64 0,.string ⟨#[]⟩,.int .i64 0,.int .i64 0,.int .i64 0,.int .i64 0,.string ⟨#[]⟩,.int .i64 0,.slice none 0 0,.int .i64 0,.string ⟨#[97,116,116,101,109,112,116,32,116,111,32,99,111,109,112,97,114,101,32,110,105,108,32,119,105,116,104,32,110,117,109,98,101,114]⟩])∧Below W.heap.size W w'))))
 have BU:=Lib.hid (fun W (hb:Below w1.heap.size w1 W)=>((aw4▸pUnary_c W (HG1.out.stays hb) (some ⟨hp,0,none⟩) (handH (buildM 2 0 1 awF)) (HH.out.stays hb) 20 3 0 0 ⟨#[51]⟩ 0 (zBb rfl) (zBb rfl) (fun h=>absurd h (by decide)):Calls Tryz.prog 22 #[.pointer (some ⟨hp,0,none⟩),.int .i64 20,.agg #[.int .i64 3,.int .i64 0,.int .i64 0,.string ⟨#[51]⟩,.int .i64 0]] W (NdPost W (ndVal ⟨2, -3,1,⟨#[]⟩,0⟩))).mono (fun e w' (h:NdPost W _ e w')=>(by
  obtain⟨av,he,hA,hb⟩:=h
  rw[args_none hA] at he
  exact⟨he,hb⟩:e= .returned (.agg #[.int .i64 1,.int .i64 2,.int .i64 (-3),.int .i64 1,.string ⟨#[]⟩,.int .i64 0,.int .i64 0,.int .i64 0,.int .i64 0,.string ⟨#[]⟩,.int .i64 0,.slice none 0 0,.int .i64 0,.string ⟨#[]⟩])∧Below W.heap.size W w'))))
 have PL:=Lib.hid (fun W (hb:Below w1.heap.size w1 W)=>((aw1▸pplain_c W (HG1.out.stays hb) 1 3 0 0 ⟨#[49,48]⟩ 0 2 1 1 ⟨#[]⟩ 0:Calls Tryz.prog 11 #[.int .i64 1,.agg #[.int .i64 3,.int .i64 0,.int .i64 0,.string ⟨#[49,48]⟩,.int .i64 0],.agg #[.int .i64 2,.int .i64 1,.int .i64 1,.string ⟨#[]⟩,.int .i64 0]] W (VrPost W (.ok ⟨2,11,1,⟨#[]⟩,0⟩))).mono (fun e w' (h:VrPost W _ e w')=>(h:e= .returned (.tuple #[.agg #[.int .i64 2,.int .i64 11,.int .i64 1,.string ⟨#[]⟩,.int .i64 0],.int .i64 0])∧Below W.heap.size W w'))))
 go_wp2_with fail
 refine(str_c _ _).mono ?_
 rintro e w2 ⟨rfl,hb⟩
 have Ht2:=hkh hb ((heap1 w1 (oV 4 0 0 ⟨#[]⟩ 1)))
 have HW2:=hbn ((zAm w1 (oV 4 0 0 ⟨#[]⟩ 1))) hb
 have hz2:=hb.size
 try simp at hz2
 clear hb
 go_wp2_with fail
 refine(num_c _ _).mono ?_
 rintro e w3 ⟨rfl,hb⟩
 have Ht3:=hkh hb Ht2.out
 have HW3:=hbn HW2.out hb
 have hz3:=hb.size
 try simp at hz3
 clear hb
 go_wp2_with fail
 refine(PL.out _ HW3.out).mono ?_
 rintro e w4 ⟨rfl,hb⟩
 have Ht4:=hkh hb Ht3.out
 have HW4:=hbn HW3.out hb
 have hz4:=hb.size
 try simp at hz4
 clear hb
 have hyt:w1.heap.size<w4.heap.size:=hsz Ht4
 obtain⟨t0,t1,t2,t3,t4⟩:=cells5 Ht4.out
 go_wp2_with fail
 refine(BN.out _ (HW4.out.alloc HW4.out.size (.cells #[.int .i64 2,.int .i64 11,.int .i64 1,.string ⟨#[]⟩,.int .i64 0] 25))).mono ?_
 rintro e w5 ⟨ga,rfl,hgc,hb⟩
 have Hg5:=Lib.hid hgc
 clear hgc
 have Ht5:=hkh hb ((zAI Ht4.out (.cells #[.int .i64 2,.int .i64 11,.int .i64 1,.string ⟨#[]⟩,.int .i64 0] 25)))
 have Hv5:=hkh hb ((heap1 w4 (.cells #[.int .i64 2,.int .i64 11,.int .i64 1,.string ⟨#[]⟩,.int .i64 0] 25)))
 have HW5:=hbn ((HW4.out.alloc HW4.out.size (.cells #[.int .i64 2,.int .i64 11,.int .i64 1,.string ⟨#[]⟩,.int .i64 0] 25))) hb
 have hz5:=hb.size
 try simp at hz5
 clear hb
 clear hyt t0 t1 t2 t3 t4
 go_wp2_with fail
 refine(num_c _ _).mono ?_
 rintro e w6 ⟨rfl,hb⟩
 have Ht6:=hkh hb ((zAI Ht5.out (.cells #[.int .i64 2,.int .i64 0,.int .i64 0,.int .i64 0,.string ⟨#[]⟩,.int .i64 0,.int .i64 5,.int .i64 0,.int .i64 0,.string ⟨#[]⟩,.int .i64 3,.slice (some ⟨ga,0,none⟩) 2 2,.int .i64 1,.string ⟨#[]⟩] 43)))
 have Hv6:=hkh hb ((zAI Hv5.out (.cells #[.int .i64 2,.int .i64 0,.int .i64 0,.int .i64 0,.string ⟨#[]⟩,.int .i64 0,.int .i64 5,.int .i64 0,.int .i64 0,.string ⟨#[]⟩,.int .i64 3,.slice (some ⟨ga,0,none⟩) 2 2,.int .i64 1,.string ⟨#[]⟩] 43)))
 have Hg6:=hkh hb ((zAI Hg5.out (.cells #[.int .i64 2,.int .i64 0,.int .i64 0,.int .i64 0,.string ⟨#[]⟩,.int .i64 0,.int .i64 5,.int .i64 0,.int .i64 0,.string ⟨#[]⟩,.int .i64 3,.slice (some ⟨ga,0,none⟩) 2 2,.int .i64 1,.string ⟨#[]⟩] 43)))
 have Hn6:=hkh hb ((heap1 w5 (.cells #[.int .i64 2,.int .i64 0,.int .i64 0,.int .i64 0,.string ⟨#[]⟩,.int .i64 0,.int .i64 5,.int .i64 0,.int .i64 0,.string ⟨#[]⟩,.int .i64 3,.slice (some ⟨ga,0,none⟩) 2 2,.int .i64 1,.string ⟨#[]⟩] 43)))
 have HW6:=hbn ((HW5.out.alloc HW5.out.size (.cells #[.int .i64 2,.int .i64 0,.int .i64 0,.int .i64 0,.string ⟨#[]⟩,.int .i64 0,.int .i64 5,.int .i64 0,.int .i64 0,.string ⟨#[]⟩,.int .i64 3,.slice (some ⟨ga,0,none⟩) 2 2,.int .i64 1,.string ⟨#[]⟩] 43))) hb
 have hz6:=hb.size
 try simp at hz6
 clear hb
 go_wp2_with fail
 refine(BM1.out _ HW6.out).mono ?_
 rintro e w7 ⟨rfl,hb⟩
 have Ht7:=hkh hb Ht6.out
 have Hv7:=hkh hb Hv6.out
 have Hg7:=hkh hb Hg6.out
 have Hn7:=hkh hb Hn6.out
 have HW7:=hbn HW6.out hb
 have hz7:=hb.size
 try simp at hz7
 clear hb
 go_wp2_with fail
 refine(str_c _ _).mono ?_
 rintro e w8 ⟨rfl,hb⟩
 have Ht8:=hkh hb ((zAI Ht7.out (.cells #[.int .i64 3,.int .i64 0,.int .i64 0,.int .i64 0,.string ⟨#[]⟩,.int .i64 0,.int .i64 0,.int .i64 0,.int .i64 0,.string ⟨#[]⟩,.int .i64 0,.slice none 0 0,.int .i64 0,.string ⟨#[97,116,116,101,109,112,116,32,116,111,32,99,111,109,112,97,114,101,32,110,105,108,32,119,105,116,104,32,110,117,109,98,101,114]⟩] 43)))
 have Hv8:=hkh hb ((zAI Hv7.out (.cells #[.int .i64 3,.int .i64 0,.int .i64 0,.int .i64 0,.string ⟨#[]⟩,.int .i64 0,.int .i64 0,.int .i64 0,.int .i64 0,.string ⟨#[]⟩,.int .i64 0,.slice none 0 0,.int .i64 0,.string ⟨#[97,116,116,101,109,112,116,32,116,111,32,99,111,109,112,97,114,101,32,110,105,108,32,119,105,116,104,32,110,117,109,98,101,114]⟩] 43)))
 have Hg8:=hkh hb ((zAI Hg7.out (.cells #[.int .i64 3,.int .i64 0,.int .i64 0,.int .i64 0,.string ⟨#[]⟩,.int .i64 0,.int .i64 0,.int .i64 0,.int .i64 0,.string ⟨#[]⟩,.int .i64 0,.slice none 0 0,.int .i64 0,.string ⟨#[97,116,116,101,109,112,116,32,116,111,32,99,111,109,112,97,114,101,32,110,105,108,32,119,105,116,104,32,110,117,109,98,101,114]⟩] 43)))
 have Hn8:=hkh hb ((zAI Hn7.out (.cells #[.int .i64 3,.int .i64 0,.int .i64 0,.int .i64 0,.string ⟨#[]⟩,.int .i64 0,.int .i64 0,.int .i64 0,.int .i64 0,.string ⟨#[]⟩,.int .i64 0,.slice none 0 0,.int .i64 0,.string ⟨#[97,116,116,101,109,112,116,32,116,111,32,99,111,109,112,97,114,101,32,110,105,108,32,119,105,116,104,32,110,117,109,98,101,114]⟩] 43)))
 have Hm8:=hkh hb ((heap1 w7 (.cells #[.int .i64 3,.int .i64 0,.int .i64 0,.int .i64 0,.string ⟨#[]⟩,.int .i64 0,.int .i64 0,.int .i64 0,.int .i64 0,.string ⟨#[]⟩,.int .i64 0,.slice none 0 0,.int .i64 0,.string ⟨#[97,116,116,101,109,112,116,32,116,111,32,99,111,109,112,97,114,101,32,110,105,108,32,119,105,116,104,32,110,117,109,98,101,114]⟩] 43)))
 have HW8:=hbn ((HW7.out.alloc HW7.out.size (.cells #[.int .i64 3,.int .i64 0,.int .i64 0,.int .i64 0,.string ⟨#[]⟩,.int .i64 0,.int .i64 0,.int .i64 0,.int .i64 0,.string ⟨#[]⟩,.int .i64 0,.slice none 0 0,.int .i64 0,.string ⟨#[97,116,116,101,109,112,116,32,116,111,32,99,111,109,112,97,114,101,32,110,105,108,32,119,105,116,104,32,110,117,109,98,101,114]⟩] 43))) hb
 have hz8:=hb.size
 try simp at hz8
 clear hb
 go_wp2_with fail
 refine(BU.out _ HW8.out).mono ?_
 rintro e w9 ⟨rfl,hb⟩
 have Ht9:=hkh hb Ht8.out
 have Hv9:=hkh hb Hv8.out
 have Hg9:=hkh hb Hg8.out
 have Hn9:=hkh hb Hn8.out
 have Hm9:=hkh hb Hm8.out
 have HW9:=hbn HW8.out hb
 have hz9:=hb.size
 try simp at hz9
 clear hb
 go_wp2
 obtain⟨B,hB⟩:∃B,B=w9.alloc (.cells #[.int .i64 1,.int .i64 2,.int .i64 (-3),.int .i64 1,.string ⟨#[]⟩,.int .i64 0,.int .i64 0,.int .i64 0,.int .i64 0,.string ⟨#[]⟩,.int .i64 0,.slice none 0 0,.int .i64 0,.string ⟨#[]⟩] 43):=⟨_,rfl⟩
 rw[←hB]
 have HBB:=Lib.hid (show Below w1.heap.size w1 B by rw[hB];exact(HW9.out.alloc HW9.out.size (.cells #[.int .i64 1,.int .i64 2,.int .i64 (-3),.int .i64 1,.string ⟨#[]⟩,.int .i64 0,.int .i64 0,.int .i64 0,.int .i64 0,.string ⟨#[]⟩,.int .i64 0,.slice none 0 0,.int .i64 0,.string ⟨#[]⟩] 43)))
 have HBt:=Lib.hid (show B.heap[w1.heap.size]? =some (.cells #[.int .i64 4,.int .i64 0,.int .i64 0,.string ⟨#[]⟩,.int .i64 1] 25) by rw[hB];exact(zAI Ht9.out (.cells #[.int .i64 1,.int .i64 2,.int .i64 (-3),.int .i64 1,.string ⟨#[]⟩,.int .i64 0,.int .i64 0,.int .i64 0,.int .i64 0,.string ⟨#[]⟩,.int .i64 0,.slice none 0 0,.int .i64 0,.string ⟨#[]⟩] 43)))
 have HBv:=Lib.hid (show B.heap[w4.heap.size]? =some (.cells #[.int .i64 2,.int .i64 11,.int .i64 1,.string ⟨#[]⟩,.int .i64 0] 25) by rw[hB];exact(zAI Hv9.out (.cells #[.int .i64 1,.int .i64 2,.int .i64 (-3),.int .i64 1,.string ⟨#[]⟩,.int .i64 0,.int .i64 0,.int .i64 0,.int .i64 0,.string ⟨#[]⟩,.int .i64 0,.slice none 0 0,.int .i64 0,.string ⟨#[]⟩] 43)))
 have HBg:=Lib.hid (show B.heap[ga]? =some (.cells #[.int .i64 0,.int .i64 0,.int .i64 0,.string ⟨#[]⟩,.int .i64 0,.int .i64 4,.int .i64 0,.int .i64 0,.string ⟨#[]⟩,.int .i64 1] 25) by rw[hB];exact(zAI Hg9.out (.cells #[.int .i64 1,.int .i64 2,.int .i64 (-3),.int .i64 1,.string ⟨#[]⟩,.int .i64 0,.int .i64 0,.int .i64 0,.int .i64 0,.string ⟨#[]⟩,.int .i64 0,.slice none 0 0,.int .i64 0,.string ⟨#[]⟩] 43)))
 have HBn:=Lib.hid (show B.heap[w5.heap.size]? =some (.cells #[.int .i64 2,.int .i64 0,.int .i64 0,.int .i64 0,.string ⟨#[]⟩,.int .i64 0,.int .i64 5,.int .i64 0,.int .i64 0,.string ⟨#[]⟩,.int .i64 3,.slice (some ⟨ga,0,none⟩) 2 2,.int .i64 1,.string ⟨#[]⟩] 43) by rw[hB];exact(zAI Hn9.out (.cells #[.int .i64 1,.int .i64 2,.int .i64 (-3),.int .i64 1,.string ⟨#[]⟩,.int .i64 0,.int .i64 0,.int .i64 0,.int .i64 0,.string ⟨#[]⟩,.int .i64 0,.slice none 0 0,.int .i64 0,.string ⟨#[]⟩] 43)))
 have HBm:=Lib.hid (show B.heap[w7.heap.size]? =some (.cells #[.int .i64 3,.int .i64 0,.int .i64 0,.int .i64 0,.string ⟨#[]⟩,.int .i64 0,.int .i64 0,.int .i64 0,.int .i64 0,.string ⟨#[]⟩,.int .i64 0,.slice none 0 0,.int .i64 0,.string ⟨#[97,116,116,101,109,112,116,32,116,111,32,99,111,109,112,97,114,101,32,110,105,108,32,119,105,116,104,32,110,117,109,98,101,114]⟩] 43) by rw[hB];exact(zAI Hm9.out (.cells #[.int .i64 1,.int .i64 2,.int .i64 (-3),.int .i64 1,.string ⟨#[]⟩,.int .i64 0,.int .i64 0,.int .i64 0,.int .i64 0,.string ⟨#[]⟩,.int .i64 0,.slice none 0 0,.int .i64 0,.string ⟨#[]⟩] 43)))
 have HBu:=Lib.hid (show B.heap[w9.heap.size]? =some (.cells #[.int .i64 1,.int .i64 2,.int .i64 (-3),.int .i64 1,.string ⟨#[]⟩,.int .i64 0,.int .i64 0,.int .i64 0,.int .i64 0,.string ⟨#[]⟩,.int .i64 0,.slice none 0 0,.int .i64 0,.string ⟨#[]⟩] 43) by rw[hB];exact(heap1 w9 (.cells #[.int .i64 1,.int .i64 2,.int .i64 (-3),.int .i64 1,.string ⟨#[]⟩,.int .i64 0,.int .i64 0,.int .i64 0,.int .i64 0,.string ⟨#[]⟩,.int .i64 0,.slice none 0 0,.int .i64 0,.string ⟨#[]⟩] 43)))
 clear hB
 have SOB:=Lib.hid (fun(W:World) (hb:Below B.heap.size B W)=>(show W.cell? ⟨w4.heap.size,0,none⟩=some (.int .i64 2)∧W.cell? ⟨w4.heap.size,1,none⟩=some (.int .i64 11)∧W.cell? ⟨w4.heap.size,2,none⟩=some (.int .i64 1)∧W.cell? ⟨w4.heap.size,3,none⟩=some (.string ⟨#[]⟩)∧W.cell? ⟨w4.heap.size,4,none⟩=some (.int .i64 0)∧W.cell? ⟨w7.heap.size,0,none⟩=some (.int .i64 3)∧W.cell? ⟨w7.heap.size,13,none⟩=some (.string ⟨#[97,116,116,101,109,112,116,32,116,111,32,99,111,109,112,97,114,101,32,110,105,108,32,119,105,116,104,32,110,117,109,98,101,114]⟩)∧W.cell? ⟨w9.heap.size,0,none⟩=some (.int .i64 1)∧W.cell? ⟨w9.heap.size,1,none⟩=some (.int .i64 2)∧W.cell? ⟨w9.heap.size,2,none⟩=some (.int .i64 (-3))∧W.cell? ⟨w9.heap.size,3,none⟩=some (.int .i64 1)∧W.cell? ⟨w9.heap.size,4,none⟩=some (.string ⟨#[]⟩)∧W.cell? ⟨w9.heap.size,5,none⟩=some (.int .i64 0)∧Hid (Below B.heap.size B W) from⟨by rw[zAA (hkeep hb HBv.out)];rfl,by rw[zAA (hkeep hb HBv.out)];rfl,by rw[zAA (hkeep hb HBv.out)];rfl,by rw[zAA (hkeep hb HBv.out)];rfl,by rw[zAA (hkeep hb HBv.out)];rfl,by rw[zAA (hkeep hb HBm.out)];rfl,by rw[zAA (hkeep hb HBm.out)];rfl,by rw[zAA (hkeep hb HBu.out)];rfl,by rw[zAA (hkeep hb HBu.out)];rfl,by rw[zAA (hkeep hb HBu.out)];rfl,by rw[zAA (hkeep hb HBu.out)];rfl,by rw[zAA (hkeep hb HBu.out)];rfl,by rw[zAA (hkeep hb HBu.out)];rfl,Lib.hid hb⟩))
 have hbDB:Below B.heap.size B B.drew:=(Below.refl _ _).drew
 go_region_held3 (fun w'=>w'.cell? ⟨w4.heap.size,0,none⟩=some (.int .i64 2)∧w'.cell? ⟨w4.heap.size,1,none⟩=some (.int .i64 11)∧w'.cell? ⟨w4.heap.size,2,none⟩=some (.int .i64 1)∧w'.cell? ⟨w4.heap.size,3,none⟩=some (.string ⟨#[]⟩)∧w'.cell? ⟨w4.heap.size,4,none⟩=some (.int .i64 0)∧w'.cell? ⟨w7.heap.size,0,none⟩=some (.int .i64 3)∧w'.cell? ⟨w7.heap.size,13,none⟩=some (.string ⟨#[97,116,116,101,109,112,116,32,116,111,32,99,111,109,112,97,114,101,32,110,105,108,32,119,105,116,104,32,110,117,109,98,101,114]⟩)∧w'.cell? ⟨w9.heap.size,0,none⟩=some (.int .i64 1)∧w'.cell? ⟨w9.heap.size,1,none⟩=some (.int .i64 2)∧w'.cell? ⟨w9.heap.size,2,none⟩=some (.int .i64 (-3))∧w'.cell? ⟨w9.heap.size,3,none⟩=some (.int .i64 1)∧w'.cell? ⟨w9.heap.size,4,none⟩=some (.string ⟨#[]⟩)∧w'.cell? ⟨w9.heap.size,5,none⟩=some (.int .i64 0)∧Hid (Below B.heap.size B w'))
  (first|with_reducible exact SOB.out _ (by assumption)|with_reducible exact SOB.out _ (zAC (by assumption) (zAm _ _)))
  (first|(go_at_call 56;refine(num_c _ _).mono ?_;rintro e v1 ⟨rfl,hb⟩;have hbv1:=zAC (prj13a (by assumption)) hb;clear hb))
 have HV1:=Lib.hid (show Below B.heap.size B v1 by assumption)
 have hNM:=Lib.hid (fun W=>(aw5▸pName_c W 5:Calls Tryz.prog 14 #[.int .i64 5] W (StrPost W ⟨#[47,47]⟩)))
 have hEV:=Lib.hid (fun W=>(aw6▸pEvent_c W 19:Calls Tryz.prog 16 #[.int .i64 19] W (StrPost W ⟨#[95,95,108,101]⟩)))
 have hSE:=Lib.hid (fun(X:World)=>(settle_one ⟨0,0,0,⟨#[]⟩,0⟩ ⟨2,5,1,⟨#[]⟩,0⟩▸pSettle_c (X.alloc (.cells #[.int .i64 2,.int .i64 5,.int .i64 1,.string ⟨#[]⟩,.int .i64 0] 25)) 2 0 0 0 ⟨#[]⟩ 0 5 0 0 ⟨#[]⟩ 3 (.slice (some ⟨ga,0,none⟩) 2 2) 1 ⟨#[]⟩ (some ⟨X.heap.size,0,none⟩) 1 1 ⟨2,5,1,⟨#[]⟩,0⟩ (fun h=>by omega) (fun _=>⟨X.heap.size,0,rfl,by simp,by rw[zAA (heap1 _ _)];rfl,by rw[zAA (heap1 _ _)];rfl,by rw[zAA (heap1 _ _)];rfl,by rw[zAA (heap1 _ _)];rfl,by rw[zAA (heap1 _ _)];rfl⟩):
  Calls Tryz.prog 24 #[.agg #[.int .i64 2,.int .i64 0,.int .i64 0,.int .i64 0,.string ⟨#[]⟩,.int .i64 0,.int .i64 5,.int .i64 0,.int .i64 0,.string ⟨#[]⟩,.int .i64 3,.slice (some ⟨ga,0,none⟩) 2 2,.int .i64 1,.string ⟨#[]⟩],.slice (some ⟨X.heap.size,0,none⟩) 1 1] (X.alloc (.cells #[.int .i64 2,.int .i64 5,.int .i64 1,.string ⟨#[]⟩,.int .i64 0] 25)) (ValPost (X.alloc (.cells #[.int .i64 2,.int .i64 5,.int .i64 1,.string ⟨#[]⟩,.int .i64 0] 25)) ⟨2,5,1,⟨#[]⟩,0⟩)))
 go_wp2
 obtain⟨C,hC⟩:∃C,C=v1:=⟨_,rfl⟩
 rw[←hC]
 have HBC:=Lib.hid (show Below w1.heap.size w1 C by rw[hC];exact zAC HBB.out HV1.out)
 have HCt:=Lib.hid (show C.heap[w1.heap.size]? =some (.cells #[.int .i64 4,.int .i64 0,.int .i64 0,.string ⟨#[]⟩,.int .i64 1] 25) by rw[hC];exact hkeep HV1.out HBt.out)
 have HCv:=Lib.hid (show C.heap[w4.heap.size]? =some (.cells #[.int .i64 2,.int .i64 11,.int .i64 1,.string ⟨#[]⟩,.int .i64 0] 25) by rw[hC];exact hkeep HV1.out HBv.out)
 have HCg:=Lib.hid (show C.heap[ga]? =some (.cells #[.int .i64 0,.int .i64 0,.int .i64 0,.string ⟨#[]⟩,.int .i64 0,.int .i64 4,.int .i64 0,.int .i64 0,.string ⟨#[]⟩,.int .i64 1] 25) by rw[hC];exact hkeep HV1.out HBg.out)
 have HCn:=Lib.hid (show C.heap[w5.heap.size]? =some (.cells #[.int .i64 2,.int .i64 0,.int .i64 0,.int .i64 0,.string ⟨#[]⟩,.int .i64 0,.int .i64 5,.int .i64 0,.int .i64 0,.string ⟨#[]⟩,.int .i64 3,.slice (some ⟨ga,0,none⟩) 2 2,.int .i64 1,.string ⟨#[]⟩] 43) by rw[hC];exact hkeep HV1.out HBn.out)
 have HCm:=Lib.hid (show C.heap[w7.heap.size]? =some (.cells #[.int .i64 3,.int .i64 0,.int .i64 0,.int .i64 0,.string ⟨#[]⟩,.int .i64 0,.int .i64 0,.int .i64 0,.int .i64 0,.string ⟨#[]⟩,.int .i64 0,.slice none 0 0,.int .i64 0,.string ⟨#[97,116,116,101,109,112,116,32,116,111,32,99,111,109,112,97,114,101,32,110,105,108,32,119,105,116,104,32,110,117,109,98,101,114]⟩] 43) by rw[hC];exact hkeep HV1.out HBm.out)
 have HCu:=Lib.hid (show C.heap[w9.heap.size]? =some (.cells #[.int .i64 1,.int .i64 2,.int .i64 (-3),.int .i64 1,.string ⟨#[]⟩,.int .i64 0,.int .i64 0,.int .i64 0,.int .i64 0,.string ⟨#[]⟩,.int .i64 0,.slice none 0 0,.int .i64 0,.string ⟨#[]⟩] 43) by rw[hC];exact hkeep HV1.out HBu.out)
 clear hC
 have SOC:=Lib.hid (fun(W:World) (hb:Below C.heap.size C W)=>(show W.cell? ⟨w5.heap.size,0,none⟩=some (.int .i64 2)∧W.cell? ⟨w5.heap.size,1,none⟩=some (.int .i64 0)∧W.cell? ⟨w5.heap.size,2,none⟩=some (.int .i64 0)∧W.cell? ⟨w5.heap.size,3,none⟩=some (.int .i64 0)∧W.cell? ⟨w5.heap.size,4,none⟩=some (.string ⟨#[]⟩)∧W.cell? ⟨w5.heap.size,5,none⟩=some (.int .i64 0)∧W.cell? ⟨w5.heap.size,6,none⟩=some (.int .i64 5)∧W.cell? ⟨w5.heap.size,7,none⟩=some (.int .i64 0)∧W.cell? ⟨w5.heap.size,8,none⟩=some (.int .i64 0)∧W.cell? ⟨w5.heap.size,9,none⟩=some (.string ⟨#[]⟩)∧W.cell? ⟨w5.heap.size,10,none⟩=some (.int .i64 3)∧W.cell? ⟨w5.heap.size,11,none⟩=some (.slice (some ⟨ga,0,none⟩) 2 2)∧W.cell? ⟨w5.heap.size,12,none⟩=some (.int .i64 1)∧W.cell? ⟨w5.heap.size,13,none⟩=some (.string ⟨#[]⟩)∧W.cell? ⟨w1.heap.size,0,none⟩=some (.int .i64 4)∧W.cell? ⟨w1.heap.size,1,none⟩=some (.int .i64 0)∧W.cell? ⟨w1.heap.size,2,none⟩=some (.int .i64 0)∧W.cell? ⟨w1.heap.size,3,none⟩=some (.string ⟨#[]⟩)∧W.cell? ⟨w1.heap.size,4,none⟩=some (.int .i64 1)∧W.cell? ⟨ga,0,none⟩=some (.int .i64 0)∧W.cell? ⟨ga,1,none⟩=some (.int .i64 0)∧W.cell? ⟨ga,2,none⟩=some (.int .i64 0)∧W.cell? ⟨ga,3,none⟩=some (.string ⟨#[]⟩)∧W.cell? ⟨ga,4,none⟩=some (.int .i64 0)∧W.cell? ⟨ga,5,none⟩=some (.int .i64 4)∧W.cell? ⟨ga,6,none⟩=some (.int .i64 0)∧W.cell? ⟨ga,7,none⟩=some (.int .i64 0)∧W.cell? ⟨ga,8,none⟩=some (.string ⟨#[]⟩)∧W.cell? ⟨ga,9,none⟩=some (.int .i64 1)∧Hid (Below C.heap.size C W) from⟨by rw[zAA (hkeep hb HCn.out)];rfl,by rw[zAA (hkeep hb HCn.out)];rfl,by rw[zAA (hkeep hb HCn.out)];rfl,by rw[zAA (hkeep hb HCn.out)];rfl,by rw[zAA (hkeep hb HCn.out)];rfl,by rw[zAA (hkeep hb HCn.out)];rfl,by rw[zAA (hkeep hb HCn.out)];rfl,by rw[zAA (hkeep hb HCn.out)];rfl,by rw[zAA (hkeep hb HCn.out)];rfl,by rw[zAA (hkeep hb HCn.out)];rfl,by rw[zAA (hkeep hb HCn.out)];rfl,by rw[zAA (hkeep hb HCn.out)];rfl,by rw[zAA (hkeep hb HCn.out)];rfl,by rw[zAA (hkeep hb HCn.out)];rfl,by rw[zAA (hkeep hb HCt.out)];rfl,by rw[zAA (hkeep hb HCt.out)];rfl,by rw[zAA (hkeep hb HCt.out)];rfl,by rw[zAA (hkeep hb HCt.out)];rfl,by rw[zAA (hkeep hb HCt.out)];rfl,by rw[zAA (hkeep hb HCg.out)];rfl,by rw[zAA (hkeep hb HCg.out)];rfl,by rw[zAA (hkeep hb HCg.out)];rfl,by rw[zAA (hkeep hb HCg.out)];rfl,by rw[zAA (hkeep hb HCg.out)];rfl,by rw[zAA (hkeep hb HCg.out)];rfl,by rw[zAA (hkeep hb HCg.out)];rfl,by rw[zAA (hkeep hb HCg.out)];rfl,by rw[zAA (hkeep hb HCg.out)];rfl,by rw[zAA (hkeep hb HCg.out)];rfl,Lib.hid hb⟩))
 have hbDC:Below C.heap.size C C.drew:=(Below.refl _ _).drew
 go_region_held3 (fun w'=>w'.cell? ⟨w5.heap.size,0,none⟩=some (.int .i64 2)∧w'.cell? ⟨w5.heap.size,1,none⟩=some (.int .i64 0)∧w'.cell? ⟨w5.heap.size,2,none⟩=some (.int .i64 0)∧w'.cell? ⟨w5.heap.size,3,none⟩=some (.int .i64 0)∧w'.cell? ⟨w5.heap.size,4,none⟩=some (.string ⟨#[]⟩)∧w'.cell? ⟨w5.heap.size,5,none⟩=some (.int .i64 0)∧w'.cell? ⟨w5.heap.size,6,none⟩=some (.int .i64 5)∧w'.cell? ⟨w5.heap.size,7,none⟩=some (.int .i64 0)∧w'.cell? ⟨w5.heap.size,8,none⟩=some (.int .i64 0)∧w'.cell? ⟨w5.heap.size,9,none⟩=some (.string ⟨#[]⟩)∧w'.cell? ⟨w5.heap.size,10,none⟩=some (.int .i64 3)∧w'.cell? ⟨w5.heap.size,11,none⟩=some (.slice (some ⟨ga,0,none⟩) 2 2)∧w'.cell? ⟨w5.heap.size,12,none⟩=some (.int .i64 1)∧w'.cell? ⟨w5.heap.size,13,none⟩=some (.string ⟨#[]⟩)∧w'.cell? ⟨w1.heap.size,0,none⟩=some (.int .i64 4)∧w'.cell? ⟨w1.heap.size,1,none⟩=some (.int .i64 0)∧w'.cell? ⟨w1.heap.size,2,none⟩=some (.int .i64 0)∧w'.cell? ⟨w1.heap.size,3,none⟩=some (.string ⟨#[]⟩)∧w'.cell? ⟨w1.heap.size,4,none⟩=some (.int .i64 1)∧w'.cell? ⟨ga,0,none⟩=some (.int .i64 0)∧w'.cell? ⟨ga,1,none⟩=some (.int .i64 0)∧w'.cell? ⟨ga,2,none⟩=some (.int .i64 0)∧w'.cell? ⟨ga,3,none⟩=some (.string ⟨#[]⟩)∧w'.cell? ⟨ga,4,none⟩=some (.int .i64 0)∧w'.cell? ⟨ga,5,none⟩=some (.int .i64 4)∧w'.cell? ⟨ga,6,none⟩=some (.int .i64 0)∧w'.cell? ⟨ga,7,none⟩=some (.int .i64 0)∧w'.cell? ⟨ga,8,none⟩=some (.string ⟨#[]⟩)∧w'.cell? ⟨ga,9,none⟩=some (.int .i64 1)∧Hid (Below C.heap.size C w'))
  (first|with_reducible exact SOC.out _ (by assumption)|with_reducible exact SOC.out _ (zAC (by assumption) (zAm _ _)))
  (first|(go_at_call 56;refine(num_c _ _).mono ?_;rintro e v2 ⟨rfl,hb⟩;have hbv2:=zAC (prj29a (by assumption)) hb;clear hb)|(go_at_call 24;refine(hSE.out _).mono ?_;rintro e v3 ⟨rfl,hb⟩;have hbv3:=zAC (prj29a (by assumption)) hb;clear hb)|(go_at_call 14;refine(hNM.out _).mono ?_;rintro e v4 ⟨rfl,hb⟩;have hbv4:=zAC (prj29a (by assumption)) hb;clear hb)|(go_at_call 16;refine(hEV.out _).mono ?_;rintro e v5 ⟨rfl,hb⟩;have hbv5:=zAC (prj29a (by assumption)) hb;clear hb))
 go_wp2
 go_ret
 exact⟨rfl,zAC HB1.out (zAC HBC.out (by assumption))⟩
end Go.Proofs.YthkpckgcgkijbaaGreatDoor
