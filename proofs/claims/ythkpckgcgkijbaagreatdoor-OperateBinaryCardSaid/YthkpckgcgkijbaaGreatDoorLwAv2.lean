import Derived.Test.YthkpckgcgkijbaaGreatDoorValC
import Derived.Test.YthkpckgcgkijbaaGreatDoorOmG
import Derived.Test.YthkpckgcgkijbaaGreatDoorSmE
import Derived.Test.YthkpckgcgkijbaaGreatDoorOpCw
import Derived.Test.YthkpckgcgkijbaaGreatDoorOpG
import Derived.Test.YthkpckgcgkijbaaGreatDoorOpH
set_option linter.unusedVariables false
set_option linter.unusedSimpArgs false
set_option maxRecDepth 100000
set_option maxHeartbeats 20000000
namespace Go.Proofs.YthkpckgcgkijbaaGreatDoor
open Go.RowKit Go.Proofs.Lexi Go.Proofs.Tryz
theorem Cg (w:World) (T Dt F:Int) (fv:Value) (i:Int) (hT0:0<=T) (hT:T<=20) (hD0:0<=Dt) (hD:Dt<=20) (h1:decide (i<=T+Dt)=true) (h2:decide (i<=T)=true):Calls prog 68 #[.agg #[T,Dt,F,fv],i] w (ValPost w ⟨4,0,0,⟨#[]⟩,i⟩):=by
 go_enter func68,ntmps68;go_wp2;refine zr (by simp[results,results68,go_sem]<;>rfl) ?_;exact Qo rfl (QE _ _ _)
theorem Ce (w:World) (T Dt F:Int) (fv:Value) (i:Int) (hT0:0<=T) (hT:T<=20) (hD0:0<=Dt) (hD:Dt<=20) (h1:decide (i<=T+Dt)=true) (h2:decide (i<=T)=false):Calls prog 68 #[.agg #[T,Dt,F,fv],i] w (ValPost w ⟨8,0,0,⟨#[]⟩,i⟩):=by
 go_enter func68,ntmps68;go_wp2;refine zr (by simp[results,results68,go_sem]<;>rfl) ?_;exact Qo rfl (QE _ _ _)
theorem Cf (w:World) (T Dt F:Int) (fv:Value) (i:Int) (hT0:0<=T) (hT:T<=20) (hD0:0<=Dt) (hD:Dt<=20) (h1:decide (i<=T+Dt)=false) (h2:decide (i<=T)=false):Calls prog 68 #[.agg #[T,Dt,F,fv],i] w (ValPost w ⟨5,0,0,⟨#[]⟩,i⟩):=by
 go_enter func68,ntmps68;go_wp2;refine zr (by simp[results,results68,go_sem]<;>rfl) ?_;exact Qo rfl (QE _ _ _)
theorem Pq (w:World) (T Dt F:Int) (fv:Value) (i:Int) (hT0:0<=T) (hT:T<=20) (hD0:0<=Dt) (hD:Dt<=20):Calls prog 68 #[.agg #[T,Dt,F,fv],i] w (ValPost w (KB T Dt i)):=by
 unfold KB;by_cases h2:i<=T
 ·rw[if_pos h2];exact Cg w T Dt F fv i hT0 hT hD0 hD (by rw[decide_eq_true_eq];omega) (by rw[decide_eq_true_eq];exact h2)
 ·rw[if_neg h2];by_cases h1:i<=T+Dt
  ·rw[if_pos h1];exact Ce w T Dt F fv i hT0 hT hD0 hD (by rw[decide_eq_true_eq];exact h1) (by rw[decide_eq_false_iff_not];exact h2)
  ·rw[if_neg h1];exact Cf w T Dt F fv i hT0 hT hD0 hD (by rw[decide_eq_false_iff_not];exact h1) (by rw[decide_eq_false_iff_not];exact h2)
theorem pNT {base n:Nat} {w:World} {h:Nat} {M:LH} (hP:PHp base n w h M) (hb:base<=w) (hl:M.length<=60):Calls prog 61 #[h] w (fun e w'=>(∃v,e= .returned v)/\PHp base n w' h (M++[⟨4,V.nil,[]⟩])/\BM base PB w w'):=
 Er hP hb hl (fun bo bt H hH hl2=>Tb w h bo bt H hH hl2)
theorem pNF {base n:Nat} {w:World} {h:Nat} {M:LH} (hP:PHp base n w h M) (hb:base<=w) (hl:M.length<=60) (tag:Int):Calls prog 65 #[h,tag] w (fun e w'=>(∃v,e= .returned v)/\PHp base n w' h (M++[⟨5,V.nil,[]⟩])/\BM base PB w w'):=
 Er hP hb hl (fun bo bt H hH hl2=>MG w h bo bt H hH hl2 tag)
theorem pND {base n:Nat} {w:World} {h:Nat} {M:LH} (hP:PHp base n w h M) (hb:base<=w) (hl:M.length<=60):Calls prog 63 #[h,.string ⟨#[100]⟩] w (fun e w'=>(∃v,e= .returned v)/\PHp base n w' h (M++[⟨8,V.nil,[]⟩])/\BM base PB w w'):=
 Er hP hb hl (fun bo bt H hH hl2=>MH w h bo bt H hH hl2)
theorem sNT {base n:Nat} {w:World} {h:Nat} {M:LH} (hP:RHp base n w h M) (hb:base<=w) (hl:M.length<=60):Calls prog 62 #[h] w (fun e w'=>(∃v,e= .returned v)/\RHp base n w' h (M++[⟨4,V.nil,[]⟩])/\BM base SB w w'):=
 Ep hP hb hl (fun av uv H hH hl2=>Fz w h av uv H hH hl2)
theorem sNF {base n:Nat} {w:World} {h:Nat} {M:LH} (hP:RHp base n w h M) (hb:base<=w) (hl:M.length<=60) (tag:Int):Calls prog 66 #[h,tag] w (fun e w'=>(∃v,e= .returned v)/\RHp base n w' h (M++[⟨5,V.nil,[]⟩])/\BM base SB w w'):=
 Ep hP hb hl (fun av uv H hH hl2=>NV w h av uv H hH hl2 tag)
theorem sND {base n:Nat} {w:World} {h:Nat} {M:LH} (hP:RHp base n w h M) (hb:base<=w) (hl:M.length<=60):Calls prog 64 #[h,.string ⟨#[100]⟩] w (fun e w'=>(∃v,e= .returned v)/\RHp base n w' h (M++[⟨8,V.nil,[]⟩])/\BM base SB w w'):=
 Ep hP hb hl (fun av uv H hH hl2=>NW w h av uv H hH hl2)
theorem Ey (w:World) (T Dt F:Int) (so:Option Addr) (n cap:Nat) (hno:¬WorldOk T Dt F n):Calls prog 18 #[.agg #[T,Dt,F,.slice so n cap]] w (fun e w'=>e= .returned (.tuple #[.pointer none,.pointer none,.bool false])/\Below w w w'):=by
 have ways:T<0\/(¬T<0/\20<T)\/(¬T<0/\¬20<T/\Dt<0)\/(¬T<0/\¬20<T/\¬Dt<0/\20<Dt)\/(¬T<0/\¬20<T/\¬Dt<0/\¬20<Dt/\F<0)\/(¬T<0/\¬20<T/\¬Dt<0/\¬20<Dt/\¬F<0/\20<F)\/(¬T<0/\¬20<T/\¬Dt<0/\¬20<Dt/\¬F<0/\¬20<F/\(60:Int)<(n:Nat)):=by
  unfold WorldOk at hno;omega
 clear hno;rcases ways with h1|⟨h1,h2⟩|⟨h1,h2,h3⟩|⟨h1,h2,h3,h4⟩|⟨h1,h2,h3,h4,h5⟩|⟨h1,h2,h3,h4,h5,h6⟩|⟨h1,h2,h3,h4,h5,h6,h7⟩;all_goals
  go_enter func18,ntmps18;go_wp2;refine zr (by simp[results,results18,go_sem]<;>rfl) ?_;exact⟨rfl,Qf _ _⟩
theorem Ag (w:World) (hv:Value) (k1 p1 q1:Int) (s1:ByteArray) (r1:Int) (s:ByteArray) (mk mp mq:Int) (ms:ByteArray) (mr:Int) (h0:mk=0) (T:∀W,Below w w W->Calls prog 33 #[hv,.agg #[k1,p1,q1,s1,r1]] W (ValPost W ⟨mk,mp,mq,ms,mr⟩)):
  Calls prog 127 #[hv,.agg #[k1,p1,q1,s1,r1],s] w (ValPost w V.nil):=by
 have HT:=zh T;have h0':(mk==0)=true:=beq_iff_eq.2 h0;clear T h0;go_enter func127,ntmps127;go_wp2_with fail
 refine(HT.out _ (QE _ _ _)).mono ?_;rintro e w1 ⟨rfl,hb⟩;have Hb1:=hkh hb (QY _ _ _);have HW1:=hbn (QE _ _ _) hb;have hz1:=hb.size;try simp at hz1
 clear hb;have hyb:=hsz Hb1;obtain⟨b0,b1,b2,b3,b4⟩:=zc5 Hb1;obtain⟨fb0,fb1,fb2,fb3,fb4⟩:=zf5 Hb1;go_wp2;refine zr (by simp[results,results127,go_sem,hyb,b0,b1,b2,b3,b4]<;>rfl) ?_;exact Qo rfl ((QG HW1.out (by omega) _ _ _ _ _).alloc (by simp;omega) _)
theorem Ah (w:World) (h:Nat) (k1 p1 q1:Int) (s1:ByteArray) (r1:Int) (s:ByteArray) (mk mp mq:Int) (ms:ByteArray) (mr:Int) (h0:mk≠0) (T:∀W,Below w w W->Calls prog 33 #[h,.agg #[k1,p1,q1,s1,r1]] W (ValPost W ⟨mk,mp,mq,ms,mr⟩))
  (R:VR) (G:∀W,Below w w W->Calls prog 32 #[h,.agg #[mk,mp,mq,ms,mr],.agg #[.int .i64 3,(0:Int),(0:Int),s,(0:Int)]] W (VrPost W R)):
  Calls prog 127 #[h,.agg #[k1,p1,q1,s1,r1],s] w (ValPost w (vV R)):=by
 have HT:=zh T;have HG:=zh G;have HO:=zh (fun W=>(Xc W s:Calls prog 93 #[s] W (ValPost W (KR s))));have h0':(mk==0)=false:=beq_eq_false_iff_ne.2 h0;clear T G h0;go_enter func127,ntmps127;go_wp2_with fail
 refine(HT.out _ (QE _ _ _)).mono ?_;rintro e w1 ⟨rfl,hb⟩;have Hb1:=hkh hb (QY _ _ _);have HW1:=hbn (QE _ _ _) hb;have hz1:=hb.size;try simp at hz1
 clear hb;go_wp2;have hlw:w.heap.size+1<w1.heap.size:=hsz Hb1;obtain⟨B,hB⟩:∃B,B=w1.alloc (.cells #[mk,mp,mq,ms,mr] 25):=⟨_,rfl⟩
 rw[<-hB];have HBW:=zh (show Below w w B by rw[hB];exact HW1.out.alloc (by omega) _);have HBb:=zh (show B.heap[w.heap.size+1]? =some (oV 0 0 0 ⟨#[]⟩ 0) by rw[hB];exact QI Hb1.out _);have HBm:=zh (show B.heap[w1.heap.size]? =some (oV mk mp mq ms mr) by rw[hB];exact Qy w1 _);clear hB;have SO:=zh (fun W (hb:Below B B W)=>(show W.cell? w1=some (.int .i64 mk)/\W.cell? ⟨w1,1,none⟩=some (.int .i64 mp)/\W.cell? ⟨w1,2,none⟩=some (.int .i64 mq)/\W.cell? ⟨w1,3,none⟩=some (.string ms)/\W.cell? ⟨w1,4,none⟩=some (.int .i64 mr)/\Hid (Below B B W) from⟨by rw[QA (QL hb HBm.out)];rfl,by rw[QA (QL hb HBm.out)];rfl,by rw[QA (QL hb HBm.out)];rfl,by rw[QA (QL hb HBm.out)];rfl,by rw[QA (QL hb HBm.out)];rfl,zh hb⟩));have hbD:Below B B B.drew:=(Below.refl _ _).drew
 go_region_held3 (fun w'=>w'.cell? w1=some (.int .i64 mk)/\w'.cell? ⟨w1,1,none⟩=some (.int .i64 mp)/\w'.cell? ⟨w1,2,none⟩=some (.int .i64 mq)/\w'.cell? ⟨w1,3,none⟩=some (.string ms)/\w'.cell? ⟨w1,4,none⟩=some (.int .i64 mr)/\Hid (Below B B w'))
  (first|with_reducible exact SO.out _ (by assumption)|with_reducible exact SO.out _ (QC (by assumption) (Qf _ _))|with_reducible exact SO.out _ (QG (by assumption) (by first|exact Nat.le_refl _|exact Below.size (by assumption)) _ _ _ _ _))
  (first|(go_at_call 93;refine(HO.out _).mono ?_;rintro e w2 ⟨rfl,hb⟩;have hb2:=QC (CF (by assumption)) hb;(try with_reducible have Hz:=hkh hb (Qu B (oV 0 0 0 ⟨#[]⟩ 0)));clear hb)|(go_at_call 32;refine(HG.out _ (QC HBW.out (CF (by assumption)))).mono ?_;rintro e w3 ⟨rfl,hb⟩;have hb3:=QC (CF (by assumption)) hb;(first|((with_reducible have Hz3:=hkh hb Hz.out);have z0:w3.cell? B=some (.int .i64 0):=(by rw[QA Hz3.out];rfl);have z1:w3.cell? ⟨B,1,none⟩=some (.int .i64 0):=(by rw[QA Hz3.out];rfl);have z2:w3.cell? ⟨B,2,none⟩=some (.int .i64 0):=(by rw[QA Hz3.out];rfl);have z3:w3.cell? ⟨B,3,none⟩=some (.string ⟨#[]⟩):=(by rw[QA Hz3.out];rfl);have z4:w3.cell? ⟨B,4,none⟩=some (.int .i64 0):=(by rw[QA Hz3.out];rfl);have fz0:w3.frozen? B=false:=QB Hz3.out _;have fz1:w3.frozen? ⟨B,1,none⟩=false:=QB Hz3.out _;have fz2:w3.frozen? ⟨B,2,none⟩=false:=QB Hz3.out _;have fz3:w3.frozen? ⟨B,3,none⟩=false:=QB Hz3.out _;have fz4:w3.frozen? ⟨B,4,none⟩=false:=QB Hz3.out _)|((with_reducible have Hz3:=hkh hb (Qg w2 (oV 0 0 0 ⟨#[]⟩ 0)));have z0:w3.cell? w2=some (.int .i64 0):=(by rw[QA Hz3.out];rfl);have z1:w3.cell? ⟨w2,1,none⟩=some (.int .i64 0):=(by rw[QA Hz3.out];rfl);have z2:w3.cell? ⟨w2,2,none⟩=some (.int .i64 0):=(by rw[QA Hz3.out];rfl);have z3:w3.cell? ⟨w2,3,none⟩=some (.string ⟨#[]⟩):=(by rw[QA Hz3.out];rfl);have z4:w3.cell? ⟨w2,4,none⟩=some (.int .i64 0):=(by rw[QA Hz3.out];rfl);have fz0:w3.frozen? w2=false:=QB Hz3.out _;have fz1:w3.frozen? ⟨w2,1,none⟩=false:=QB Hz3.out _;have fz2:w3.frozen? ⟨w2,2,none⟩=false:=QB Hz3.out _;have fz3:w3.frozen? ⟨w2,3,none⟩=false:=QB Hz3.out _;have fz4:w3.frozen? ⟨w2,4,none⟩=false:=QB Hz3.out _)|skip);clear hb))
 all_goals have hzB:=HBW.out.size
 all_goals have hzb:=hsz HBb
 all_goals have hzc:=hb2.size
 ·have HWb:=zh (show(w3.alloc (.cells #[.int .i64 (vV R).k,.int .i64 (vV R).p,.int .i64 (vV R).q,.string (vV R).s,.int .i64 (vV R).r] 25)).heap[w.heap.size+1]? =some (oV 0 0 0 ⟨#[]⟩ 0) from QI (QL hb3 HBb.out) _);have HWr:=zh (show(w3.alloc (.cells #[.int .i64 (vV R).k,.int .i64 (vV R).p,.int .i64 (vV R).q,.string (vV R).s,.int .i64 (vV R).r] 25)).heap[w3.heap.size]? =some (oV (vV R).k (vV R).p (vV R).q (vV R).s (vV R).r) from Qy w3 _);have HWB:=zh (show Below w w (w3.alloc (.cells #[.int .i64 (vV R).k,.int .i64 (vV R).p,.int .i64 (vV R).q,.string (vV R).s,.int .i64 (vV R).r] 25)) from(QC HBW.out hb3).alloc (QC HBW.out hb3).size _);generalize (w3.alloc (.cells #[.int .i64 (vV R).k,.int .i64 (vV R).p,.int .i64 (vV R).q,.string (vV R).s,.int .i64 (vV R).r] 25))=W at HWb HWr HWB ⊢;try clear z0 z1 z2 z3 z4 fz0 fz1 fz2 fz3 fz4
  have hyb:=hsz HWb;have hyr:=hsz HWr;obtain⟨r0,r1,r2,r3,r4⟩:=zc5 HWr.out;obtain⟨b0,b1,b2,b3,b4⟩:=zc5 HWb.out;obtain⟨fb0,fb1,fb2,fb3,fb4⟩:=zf5 HWb.out;go_wp2;refine zr (by simp[results,results127,go_sem,hyb,b0,b1,b2,b3,b4]<;>rfl) ?_;exact Qo (v:=vV R) rfl (QG HWB.out (by omega) _ _ _ _ _)
 ·have HWb:=zh (show(((((w3.setCell w2 (.int .i64 (vV R).k)).setCell ⟨w2,1,none⟩ (.int .i64 (vV R).p)).setCell ⟨w2,2,none⟩ (.int .i64 (vV R).q)).setCell ⟨w2,3,none⟩ (.string (vV R).s)).setCell ⟨w2,4,none⟩ (.int .i64 (vV R).r)).heap[w.heap.size+1]? =some (oV 0 0 0 ⟨#[]⟩ 0) from QX (QL hb3 HBb.out) (by omega) _ _ _ _ _);have HWr:=zh (show(((((w3.setCell w2 (.int .i64 (vV R).k)).setCell ⟨w2,1,none⟩ (.int .i64 (vV R).p)).setCell ⟨w2,2,none⟩ (.int .i64 (vV R).q)).setCell ⟨w2,3,none⟩ (.string (vV R).s)).setCell ⟨w2,4,none⟩ (.int .i64 (vV R).r)).heap[w2.heap.size]? =some (oV (vV R).k (vV R).p (vV R).q (vV R).s (vV R).r) from Qp Hz3.out _ _ _ _ _);have HWB:=zh (show Below w w (((((w3.setCell w2 (.int .i64 (vV R).k)).setCell ⟨w2,1,none⟩ (.int .i64 (vV R).p)).setCell ⟨w2,2,none⟩ (.int .i64 (vV R).q)).setCell ⟨w2,3,none⟩ (.string (vV R).s)).setCell ⟨w2,4,none⟩ (.int .i64 (vV R).r)) from QG (QC HBW.out hb3) (by omega) _ _ _ _ _);generalize (((((w3.setCell w2 (.int .i64 (vV R).k)).setCell ⟨w2,1,none⟩ (.int .i64 (vV R).p)).setCell ⟨w2,2,none⟩ (.int .i64 (vV R).q)).setCell ⟨w2,3,none⟩ (.string (vV R).s)).setCell ⟨w2,4,none⟩ (.int .i64 (vV R).r))=W at HWb HWr HWB ⊢;try clear z0 z1 z2 z3 z4 fz0 fz1 fz2 fz3 fz4
  have hyb:=hsz HWb;have hyr:=hsz HWr;obtain⟨r0,r1,r2,r3,r4⟩:=zc5 HWr.out;obtain⟨b0,b1,b2,b3,b4⟩:=zc5 HWb.out;obtain⟨fb0,fb1,fb2,fb3,fb4⟩:=zf5 HWb.out;go_wp2;refine zr (by simp[results,results127,go_sem,hyb,b0,b1,b2,b3,b4]<;>rfl) ?_;exact Qo (v:=vV R) rfl (QG HWB.out (by omega) _ _ _ _ _)
 ·have HWb:=zh (show(((((w3.setCell B (.int .i64 (vV R).k)).setCell ⟨B,1,none⟩ (.int .i64 (vV R).p)).setCell ⟨B,2,none⟩ (.int .i64 (vV R).q)).setCell ⟨B,3,none⟩ (.string (vV R).s)).setCell ⟨B,4,none⟩ (.int .i64 (vV R).r)).heap[w.heap.size+1]? =some (oV 0 0 0 ⟨#[]⟩ 0) from QX (QL hb3 HBb.out) (by omega) _ _ _ _ _);have HWr:=zh (show(((((w3.setCell B (.int .i64 (vV R).k)).setCell ⟨B,1,none⟩ (.int .i64 (vV R).p)).setCell ⟨B,2,none⟩ (.int .i64 (vV R).q)).setCell ⟨B,3,none⟩ (.string (vV R).s)).setCell ⟨B,4,none⟩ (.int .i64 (vV R).r)).heap[B.heap.size]? =some (oV (vV R).k (vV R).p (vV R).q (vV R).s (vV R).r) from Qp Hz3.out _ _ _ _ _);have HWB:=zh (show Below w w (((((w3.setCell B (.int .i64 (vV R).k)).setCell ⟨B,1,none⟩ (.int .i64 (vV R).p)).setCell ⟨B,2,none⟩ (.int .i64 (vV R).q)).setCell ⟨B,3,none⟩ (.string (vV R).s)).setCell ⟨B,4,none⟩ (.int .i64 (vV R).r)) from QG (QC HBW.out hb3) (by omega) _ _ _ _ _);generalize (((((w3.setCell B (.int .i64 (vV R).k)).setCell ⟨B,1,none⟩ (.int .i64 (vV R).p)).setCell ⟨B,2,none⟩ (.int .i64 (vV R).q)).setCell ⟨B,3,none⟩ (.string (vV R).s)).setCell ⟨B,4,none⟩ (.int .i64 (vV R).r))=W at HWb HWr HWB ⊢;try clear z0 z1 z2 z3 z4 fz0 fz1 fz2 fz3 fz4
  have hyb:=hsz HWb;have hyr:=hsz HWr;obtain⟨r0,r1,r2,r3,r4⟩:=zc5 HWr.out;obtain⟨b0,b1,b2,b3,b4⟩:=zc5 HWb.out;obtain⟨fb0,fb1,fb2,fb3,fb4⟩:=zf5 HWb.out;go_wp2;refine zr (by simp[results,results127,go_sem,hyb,b0,b1,b2,b3,b4]<;>rfl) ?_;exact Qo (v:=vV R) rfl (QG HWB.out (by omega) _ _ _ _ _)
theorem SX (w:World) (h bo bt:Nat) (H:List PO) (hH:HpAt w h bo bt H) (hS:Small 1000 H) (k1 p1 q1:Int) (s1:ByteArray) (r1:Int) (hr:i64 r1) (s:ByteArray) (hs:s.size<=4096):Calls prog 127 #[h,.agg #[k1,p1,q1,s1,r1],s] w (ValPost w (ZN (lh H) ⟨k1,p1,q1,s1,r1⟩ s)):=by
 have hm:=fun W (hb:Below w w W)=>AZ W h bo bt H (hH.below hb) k1 p1 q1 s1 r1 hr;obtain⟨⟨mk,mp,mq,ms,mr⟩,hM⟩:∃M,Jt (lh H) ⟨k1,p1,q1,s1,r1⟩=M:=⟨_,rfl⟩
 rw[hM] at hm;by_cases h0:mk=0
 ·rw[Cu hH (by rw[hM];exact h0)];exact Ag w _ k1 p1 q1 s1 r1 s mk mp mq ms mr h0 hm
 ·unfold ZN;have hw:=Ax hH ⟨k1,p1,q1,s1,r1⟩;rw[hM] at hw ⊢;exact Ah w h k1 p1 q1 s1 r1 s mk mp mq ms mr h0 hm _ (fun W hb=>BV W h bo bt H (hH.below hb) hS mk mp mq ms mr hw.r s hs)
theorem D8 (w:World) (h:Nat) (k1 p1 q1:Int) (s1:ByteArray) (r1:Int) (T:∀W,Below w w W->Calls prog 84 #[h,.agg #[k1,p1,q1,s1,r1]] W (PtrPost W (.pointer none))):
  Calls prog 129 #[h,.agg #[k1,p1,q1,s1,r1]] w (PtrPost w (.tuple #[.int .i64 0,.int .i64 8])):=by
 have HT:=zh T;clear T;go_enter func129,ntmps129;go_wp2_with fail
 refine(HT.out _ (Qf _ _)).mono ?_;rintro e w1 ⟨rfl,hb⟩;have HW1:=hbn (Qf _ _) hb;clear hb;go_wp2_with fail
 refine(JT _ _).mono ?_;rintro e w2 ⟨rfl,rfl⟩;go_wp2;refine zr (by simp[results,results129,go_sem]<;>rfl) ?_;exact⟨rfl,HW1.out⟩
theorem Ad (w:World) (h t m:Nat) (k1 p1 q1:Int) (s1:ByteArray) (r1:Int) (ht:w.heap[t]? =some (.cells #[.slice none 0 0,m] 136)) (T:∀W,Below w w W->Calls prog 84 #[h,.agg #[k1,p1,q1,s1,r1]] W (PtrPost W (.pointer (some t)))):
  Calls prog 129 #[h,.agg #[k1,p1,q1,s1,r1]] w (PtrPost w (.tuple #[.int .i64 0,.int .i64 0])):=by
 have HT:=zh T;have HX:=zh ht;clear T ht;go_enter func129,ntmps129;go_wp2_with fail
 refine(HT.out _ (Qf _ _)).mono ?_;rintro e w1 ⟨rfl,hb⟩;have HW1:=hbn (Qf _ _) hb;clear hb;go_wp2_with fail
 refine(O8 _ t m (QL HW1.out HX.out)).mono ?_;rintro e w2 ⟨rfl,rfl⟩;go_wp2;refine zr (by simp[results,results129,go_sem]<;>rfl) ?_;exact⟨rfl,HW1.out⟩
theorem Ue (w:World) (k1 p1 q1:Int) (s1:ByteArray) (r1:Int) (hs:s1.size<=2000000000) (m:Int) (hm:w.cell? ⟨0,0,none⟩=some (.int .i64 m)):Calls prog 182 #[.agg #[k1,p1,q1,s1,r1]] w (BoolPost w (Ko ⟨k1,p1,q1,s1,r1⟩)):=by
 obtain⟨b,hb0⟩:∃b,b=Ko ⟨k1,p1,q1,s1,r1⟩:=⟨_,rfl⟩
 rw[<-hb0];have HB:=zh ((A6 ⟨k1,p1,q1,s1,r1⟩).trans hb0.symm);clear hb0;go_enter func182,ntmps182;go_wp2_with fail
 refine(D6 _ k1 p1 q1 s1 r1 (by exact hs) m (((Qf _ _).cell (p:=⟨0,0,none⟩) (World.block_lt_of_cell? _ _ hm)).trans hm)).mono ?_;rintro e w1 ⟨rfl,hb⟩;have hE:=HB.out;go_wp2
 go_ret
 exact⟨rfl,(QC (Qf _ _) hb).alloc (by have:=hb.size;simp at this;omega) _⟩
theorem CX (w:World) (k1 p1 q1:Int) (s1:ByteArray) (r1:Int) (htab:Pow10 w):Calls prog 183 #[.agg #[k1,p1,q1,s1,r1]] w (BoolPost w (Eo ⟨k1,p1,q1,s1,r1⟩)):=by
 obtain⟨b,hb0⟩:∃b,b=Eo ⟨k1,p1,q1,s1,r1⟩:=⟨_,rfl⟩
 rw[<-hb0];have HB:=zh ((A4 ⟨k1,p1,q1,s1,r1⟩).trans hb0.symm);clear hb0;go_enter func183,ntmps183;go_wp2_with fail
 refine(AS _ k1 p1 q1 s1 r1 (htab.stays (Qf _ _))).mono ?_;rintro e w1 ⟨rfl,hb⟩;have hE:=HB.out;go_wp2
 go_ret
 exact⟨rfl,QC (Qf _ _) hb⟩
theorem MU (w:World) (s:ByteArray) (hs:s.size<=100) (k1 p1 q1:Int) (s1:ByteArray) (r1:Int) (hk:i64 k1):Calls prog 131 #[s,.agg #[k1,p1,q1,s1,r1]] w (StrPost w (⟨#[97,116,116,101,109,112,116,32,116,111,32]⟩++s++⟨#[32,97,32]⟩++Zg k1++sValue)):=by
 have hts:=Qw k1;go_enter func131,ntmps131;go_wp2_with fail
 refine(Kb _ k1 p1 q1 s1 r1 hk).mono ?_;rintro e w1 ⟨rfl,hb⟩;go_wp2
 go_ret
 exact⟨rfl,QC (Qf _ _) hb⟩
theorem Td (w:World) (hp:Value) (k1 p1 q1:Int) (s1:ByteArray) (r1:Int) (hk:(k1==3)=true):Calls prog 79 #[hp,.agg #[k1,p1,q1,s1,r1]] w (NdPost w (Zz (Xl (s1.size:Int)))):=by
 go_enter func79,ntmps79;go_wp2_with fail
 refine(Y6 _ _).mono ?_;rintro e w1 ⟨rfl,hb⟩;have Ha1:=hkh hb (Qm _ _ _);have Hu1:=hkh hb (QY _ _ _);have HW1:=hbn (QE _ _ _) hb;have hz1:=hb.size;try simp at hz1
 clear hb;have hyu:=hsz Hu1;obtain⟨u0,u1,u2,u3,u4,u5,u6,u7,u8,u9,u10,u11,u12,u13⟩:=zc14 Hu1;obtain⟨fu0,fu1,fu2,fu3,fu4,fu5,fu6,fu7,fu8,fu9,fu10,fu11,fu12,fu13⟩:=zf14 Hu1;go_wp2_with fail
 refine(BT _ _ _ _ _ _).mono ?_;rintro e w2 ⟨av,rfl,hA,hb⟩;obtain⟨ao,an,ac,rfl⟩:=hA.shape;have HA:=zh hA;clear hA;have Ha2:=hkh hb Ha1;have Hu2:=hkh hb Hu1;have HW2:=hbn HW1 hb;have hz2:=hb.size;try simp at hz2
 clear hb;clear hyu u0 fu0 u1 fu1 u2 fu2 u3 fu3 u4 fu4 u5 fu5 u6 fu6 u7 fu7 u8 fu8 u9 fu9 u10 fu10 u11 fu11 u12 fu12 u13 fu13;have hyu:=hsz Hu2;obtain⟨u0,u1,u2,u3,u4,u5,u6,u7,u8,u9,u10,u11,u12,u13⟩:=zc14 Hu2;obtain⟨fu0,fu1,fu2,fu3,fu4,fu5,fu6,fu7,fu8,fu9,fu10,fu11,fu12,fu13⟩:=zf14 Hu2;go_wp2;refine zr (by simp[results,results79,go_sem,hyu,u0,u1,u2,u3,u4,u5,u6,u7,u8,u9,u10,u11,u12,u13]<;>rfl) ?_;exact Qx (r:=w.heap.size+1) HW2.out HA.out (by omega) (by omega) (by omega) (QP (F:=fun b=>b=w.heap.size+1) (Mods.refl _ _) (.inl rfl) _ _ _ _ _ _ _ _ _ _ _ _ _ _)
theorem D7 (w:World) (hp:Value) (k1 p1 q1:Int) (s1:ByteArray) (r1:Int) (mk mp mq:Int) (ms:ByteArray) (mr:Int) (hk:(k1==3)=false) (hm:(mk !=0)=true) (HH:∀W,Below w w W->Calls prog 127 #[hp,.agg #[k1,p1,q1,s1,r1],.string ⟨#[95,95,108,101,110]⟩] W (ValPost W ⟨mk,mp,mq,ms,mr⟩)):Calls prog 79 #[hp,.agg #[k1,p1,q1,s1,r1]] w (NdPost w (Zr ⟨mk,mp,mq,ms,mr⟩ [⟨k1,p1,q1,s1,r1⟩,⟨k1,p1,q1,s1,r1⟩] 1)):=by
 have HHH:=zh HH;clear HH;go_enter func79,ntmps79;go_wp2_with fail
 refine(HHH.out _ (QE _ _ _)).mono ?_;rintro e w1 ⟨rfl,hb⟩;have Ha1:=hkh hb (Qm _ _ _);have Hu1:=hkh hb (QY _ _ _);have HW1:=hbn (QE _ _ _) hb;have hz1:=hb.size;try simp at hz1
 clear hb;have hya:=hsz Ha1;obtain⟨a0,a1,a2,a3,a4⟩:=zc5 Ha1;have hyu:=hsz Hu1;obtain⟨u0,u1,u2,u3,u4,u5,u6,u7,u8,u9,u10,u11,u12,u13⟩:=zc14 Hu1;obtain⟨fu0,fu1,fu2,fu3,fu4,fu5,fu6,fu7,fu8,fu9,fu10,fu11,fu12,fu13⟩:=zf14 Hu1;go_wp2_with fail
 refine(N3 _ w1.heap.size (w1.heap.size+1) (by omega) mk mp mq ms mr 1 ⟨k1,p1,q1,s1,r1⟩ ⟨k1,p1,q1,s1,r1⟩ (QY _ _ _)).mono ?_;rintro e w2 ⟨av,rfl,hA,hb⟩;obtain⟨ao,an,ac,rfl⟩:=hA.shape;have HA:=zh hA;have Hu2:=hkh hb (Qs Hu1.out _ _);have HW2:=hbn ((HW1.out.alloc HW1.out.size _).alloc (by have:=HW1.out.size;simp;omega) _) hb;have hz2:=hb.size;try simp at hz2
 clear hA hb;clear hya a0 a1 a2 a3 a4 hyu u0 fu0 u1 fu1 u2 fu2 u3 fu3 u4 fu4 u5 fu5 u6 fu6 u7 fu7 u8 fu8 u9 fu9 u10 fu10 u11 fu11 u12 fu12 u13 fu13;have hyu:=hsz Hu2;obtain⟨u0,u1,u2,u3,u4,u5,u6,u7,u8,u9,u10,u11,u12,u13⟩:=zc14 Hu2;obtain⟨fu0,fu1,fu2,fu3,fu4,fu5,fu6,fu7,fu8,fu9,fu10,fu11,fu12,fu13⟩:=zf14 Hu2;go_wp2;refine zr (by simp[results,results79,go_sem,hyu,u0,u1,u2,u3,u4,u5,u6,u7,u8,u9,u10,u11,u12,u13]<;>rfl) ?_;exact Qx (r:=w.heap.size+1) HW2.out HA.out (by omega) (by omega) (by omega) (QP (F:=fun b=>b=w.heap.size+1) (Mods.refl _ _) (.inl rfl) _ _ _ _ _ _ _ _ _ _ _ _ _ _)
theorem Tc (w:World) (hp:Value) (k1 p1 q1:Int) (s1:ByteArray) (r1:Int) (mk mp mq:Int) (ms:ByteArray) (mr:Int) (hk:(k1==3)=false) (hk4:(k1==4)=true) (hm:(mk !=0)=false) (HH:∀W,Below w w W->Calls prog 127 #[hp,.agg #[k1,p1,q1,s1,r1],.string ⟨#[95,95,108,101,110]⟩] W (ValPost W ⟨mk,mp,mq,ms,mr⟩)) (c:Nat) (HL:∀W,Below w w W->Calls prog 129 #[hp,.agg #[k1,p1,q1,s1,r1]] W (PtrPost W (.tuple #[.int .i64 0,.int .i64 (c:Nat)]))):Calls prog 79 #[hp,.agg #[k1,p1,q1,s1,r1]] w (NdPost w (Zz (Xl 0))):=by
 have HHH:=zh HH;have HHL:=zh HL;clear HH HL;go_enter func79,ntmps79;go_wp2_with fail
 refine(HHH.out _ (QE _ _ _)).mono ?_;rintro e w1 ⟨rfl,hb⟩;have Ha1:=hkh hb (Qm _ _ _);have Hu1:=hkh hb (QY _ _ _);have HW1:=hbn (QE _ _ _) hb;have hz1:=hb.size;try simp at hz1
 clear hb;have hya:=hsz Ha1;obtain⟨a0,a1,a2,a3,a4⟩:=zc5 Ha1;have hyu:=hsz Hu1;obtain⟨u0,u1,u2,u3,u4,u5,u6,u7,u8,u9,u10,u11,u12,u13⟩:=zc14 Hu1;obtain⟨fu0,fu1,fu2,fu3,fu4,fu5,fu6,fu7,fu8,fu9,fu10,fu11,fu12,fu13⟩:=zf14 Hu1;go_wp2_with fail
 refine(HHL.out _ (HW1.out.alloc HW1.out.size (oV mk mp mq ms mr))).mono ?_;rintro e w2 ⟨rfl,hb⟩;have Hu2:=hkh hb (QI Hu1.out _);have HW2:=hbn (HW1.out.alloc HW1.out.size (oV mk mp mq ms mr)) hb;have hz2:=hb.size;try simp at hz2
 clear hb;clear hya a0 a1 a2 a3 a4 hyu u0 fu0 u1 fu1 u2 fu2 u3 fu3 u4 fu4 u5 fu5 u6 fu6 u7 fu7 u8 fu8 u9 fu9 u10 fu10 u11 fu11 u12 fu12 u13 fu13;go_wp2_with fail
 refine(Y6 _ _).mono ?_;rintro e w3 ⟨rfl,hb⟩;have Hu3:=hkh hb Hu2;have HW3:=hbn HW2 hb;have hz3:=hb.size;try simp at hz3
 clear hb;go_wp2_with fail
 refine(BT _ _ _ _ _ _).mono ?_;rintro e w4 ⟨av,rfl,hA,hb⟩;obtain⟨ao,an,ac,rfl⟩:=hA.shape;have HA:=zh hA;clear hA;have Hu4:=hkh hb Hu3;have HW4:=hbn HW3 hb;have hz4:=hb.size;try simp at hz4
 clear hb;have hyu:=hsz Hu4;obtain⟨u0,u1,u2,u3,u4,u5,u6,u7,u8,u9,u10,u11,u12,u13⟩:=zc14 Hu4;obtain⟨fu0,fu1,fu2,fu3,fu4,fu5,fu6,fu7,fu8,fu9,fu10,fu11,fu12,fu13⟩:=zf14 Hu4;go_wp2;refine zr (by simp[results,results79,go_sem,hyu,u0,u1,u2,u3,u4,u5,u6,u7,u8,u9,u10,u11,u12,u13]<;>rfl) ?_;exact Qx (r:=w.heap.size+1) HW4.out HA.out (by omega) (by omega) (by omega) (QP (F:=fun b=>b=w.heap.size+1) (Mods.refl _ _) (.inl rfl) _ _ _ _ _ _ _ _ _ _ _ _ _ _)
theorem Te (w:World) (hp:Value) (k1 p1 q1:Int) (s1:ByteArray) (r1:Int) (mk mp mq:Int) (ms:ByteArray) (mr:Int) (hk:(k1==3)=false) (hk4:(k1==4)=false) (hki:i64 k1) (hm:(mk !=0)=false) (HH:∀W,Below w w W->Calls prog 127 #[hp,.agg #[k1,p1,q1,s1,r1],.string ⟨#[95,95,108,101,110]⟩] W (ValPost W ⟨mk,mp,mq,ms,mr⟩)):Calls prog 79 #[hp,.agg #[k1,p1,q1,s1,r1]] w (NdPost w (ZZ (sLenOf++Zg k1++sValue))):=by
 have HHH:=zh HH;have Hhki:=zh hki;clear HH hki;go_enter func79,ntmps79;go_wp2_with fail
 refine(HHH.out _ (QE _ _ _)).mono ?_;rintro e w1 ⟨rfl,hb⟩;have Ha1:=hkh hb (Qm _ _ _);have Hu1:=hkh hb (QY _ _ _);have HW1:=hbn (QE _ _ _) hb;have hz1:=hb.size;try simp at hz1
 clear hb;have hya:=hsz Ha1;obtain⟨a0,a1,a2,a3,a4⟩:=zc5 Ha1;have hyu:=hsz Hu1;obtain⟨u0,u1,u2,u3,u4,u5,u6,u7,u8,u9,u10,u11,u12,u13⟩:=zc14 Hu1;obtain⟨fu0,fu1,fu2,fu3,fu4,fu5,fu6,fu7,fu8,fu9,fu10,fu11,fu12,fu13⟩:=zf14 Hu1;go_wp2_with fail
 refine(MU _ _ (by decide) k1 p1 q1 s1 r1 Hhki.out).mono ?_;rintro e w2 ⟨rfl,hb⟩;have Hu2:=hkh hb (QI Hu1.out _);have HW2:=hbn (HW1.out.alloc HW1.out.size (oV mk mp mq ms mr)) hb;have hz2:=hb.size;try simp at hz2
 clear hb;clear hya a0 a1 a2 a3 a4 hyu u0 fu0 u1 fu1 u2 fu2 u3 fu3 u4 fu4 u5 fu5 u6 fu6 u7 fu7 u8 fu8 u9 fu9 u10 fu10 u11 fu11 u12 fu12 u13 fu13;have hts:=Qw k1;go_wp2_with fail
 refine(AE _ _).mono ?_;rintro e w3 ⟨av,rfl,hA,hb⟩;obtain⟨ao,an,ac,rfl⟩:=hA.shape;have HA:=zh hA;clear hA;have Hu3:=hkh hb Hu2;have HW3:=hbn HW2 hb;have hz3:=hb.size;try simp at hz3
 clear hb;have hyu:=hsz Hu3;obtain⟨u0,u1,u2,u3,u4,u5,u6,u7,u8,u9,u10,u11,u12,u13⟩:=zc14 Hu3;obtain⟨fu0,fu1,fu2,fu3,fu4,fu5,fu6,fu7,fu8,fu9,fu10,fu11,fu12,fu13⟩:=zf14 Hu3;go_wp2;refine zr (by simp[results,results79,go_sem,hyu,u0,u1,u2,u3,u4,u5,u6,u7,u8,u9,u10,u11,u12,u13]<;>rfl) ?_;exact Qx (r:=w.heap.size+1) HW3.out HA.out (by omega) (by omega) (by omega) (QP (F:=fun b=>b=w.heap.size+1) (Mods.refl _ _) (.inl rfl) _ _ _ _ _ _ _ _ _ _ _ _ _ _)
theorem Ac (w:World) (hp:Value) (hand:V->ByteArray->V) (k1 p1 q1:Int) (s1:ByteArray) (r1:Int) (hki:i64 k1) (HH:∀W,Below w w W->Calls prog 127 #[hp,.agg #[k1,p1,q1,s1,r1],.string ⟨#[95,95,108,101,110]⟩] W (ValPost W (hand ⟨k1,p1,q1,s1,r1⟩ (Q6 22))))
  (HL:k1=4->∃c:Nat,∀W,Below w w W->Calls prog 129 #[hp,.agg #[k1,p1,q1,s1,r1]] W (PtrPost W (.tuple #[.int .i64 0,.int .i64 (c:Nat)]))):
  Calls prog 79 #[hp,.agg #[k1,p1,q1,s1,r1]] w (NdPost w (RV hand ⟨k1,p1,q1,s1,r1⟩)):=by
 unfold RV;obtain⟨⟨mk,mp,mq,ms,mr⟩,hM⟩:∃M,hand ⟨k1,p1,q1,s1,r1⟩ (Q6 22)=M:=⟨_,rfl⟩
 rw[hM] at HH ⊢;by_cases h3:k1=3
 ·rw[if_pos h3];exact Td w hp k1 p1 q1 s1 r1 (beq_iff_eq.2 h3)
 ·rw[if_neg h3];have h3':=beq_eq_false_iff_ne.2 h3;by_cases hm:mk=0
  ·rw[if_neg (fun h=>h hm)];have hm':(mk !=0)=false:=by rw[bne_eq_false_iff_eq];exact hm
   by_cases h4:k1=4
   ·rw[if_pos h4];obtain⟨c,hc⟩:=HL h4;exact Tc w hp k1 p1 q1 s1 r1 mk mp mq ms mr h3' (beq_iff_eq.2 h4) hm' HH c hc
   ·rw[if_neg h4];exact Te w hp k1 p1 q1 s1 r1 mk mp mq ms mr h3' (beq_eq_false_iff_ne.2 h4) hki hm' HH
  ·rw[if_pos hm];exact D7 w hp k1 p1 q1 s1 r1 mk mp mq ms mr h3' (by rw[bne_iff_ne];exact hm) HH
theorem Ae (w:World) (h bo bt:Nat) (H:List PO) (hH:HpAt w h bo bt H) (k1 p1 q1:Int) (s1:ByteArray) (r1:Int) (hr:i64 r1):∃n:Nat,∀W,Below w w W->Calls prog 129 #[.pointer (some ⟨h,0,none⟩),.agg #[k1,p1,q1,s1,r1]] W (PtrPost W (.tuple #[.int .i64 0,.int .i64 (n:Nat)])):=by
 have htab:=fun W W' (hb:Below w w W) (hb2:Below W W W')=>Pb W' h bo bt H ((hH.below hb).below hb2) k1 p1 q1 s1 r1 hr;cases hf:KO H ⟨k1,p1,q1,s1,r1⟩ with
 |none=>rw[hf] at htab;exact⟨8,fun W hb=>D8 W h k1 p1 q1 s1 r1 (fun W'=>htab W W' hb)⟩
 |some x=>
  rw[hf] at htab;obtain⟨i,hi,hk,hri,hxm⟩:=K1 hf;have htab:∀W W',Below w w W->Below W W W'->Calls prog 84 #[.pointer (some ⟨h,0,none⟩),.agg #[k1,p1,q1,s1,r1]] W' (PtrPost W' x.tabv):=htab;unfold PO.tabv at htab;by_cases h4:x.kind=4
  ·rw[if_pos h4] at htab;exact⟨0,fun W hb=>Ad W h x.t x.m k1 p1 q1 s1 r1 (((hH.below hb).one x hxm).tb h4).ht (fun W'=>htab W W' hb)⟩
  ·rw[if_neg h4] at htab;exact⟨8,fun W hb=>D8 W h k1 p1 q1 s1 r1 (fun W'=>htab W W' hb)⟩
def HandAt (F:FuncId) (hp:Value) (hand:V->ByteArray->V) (w:World):Prop:=∀W,Below w w W->∀(k p q:Int) (s:ByteArray) (r:Int) (ev:ByteArray),i64 r->ev.size<=4096->
 Calls prog F #[hp,.agg #[k,p,q,s,r],ev] W (ValPost W (hand ⟨k,p,q,s,r⟩ ev))
theorem HandAt.stays {F:FuncId} {hp:Value} {hand:V->ByteArray->V} {w w':World} (h:HandAt F hp hand w) (hb:Below w w w'):HandAt F hp hand w':=fun W hW=>h W (QC hb hW)
theorem CW (w:World) (hg:Glob w) (o:Int) (k1 p1 q1:Int) (s1:ByteArray) (r1:Int) (k2 p2 q2:Int) (s2:ByteArray) (r2:Int) (hk1:i64 k1) (hr1:i64 r1) (hs1:s1.size<=2000000000) (hk2:i64 k2) (hr2:i64 r2) (hs2:s2.size<=2000000000):Calls prog 122 #[o,.agg #[k1,p1,q1,s1,r1],.agg #[k2,p2,q2,s2,r2]] w (StrPost w (XH o ⟨k1,p1,q1,s1,r1⟩ ⟨k2,p2,q2,s2,r2⟩)):=by
 have NA:∀W,Below w w W->Calls prog 182 #[.agg #[k1,p1,q1,s1,r1]] W (BoolPost W (Ko ⟨k1,p1,q1,s1,r1⟩)):=fun W hb=>by
  obtain⟨⟨m,hm⟩,_⟩:=hg.stays hb;exact Ue W k1 p1 q1 s1 r1 hs1 m hm
 have NB:∀W,Below w w W->Calls prog 182 #[.agg #[k2,p2,q2,s2,r2]] W (BoolPost W (Ko ⟨k2,p2,q2,s2,r2⟩)):=fun W hb=>by
  obtain⟨⟨m,hm⟩,_⟩:=hg.stays hb;exact Ue W k2 p2 q2 s2 r2 hs2 m hm
 have FN:=fun W ba bb (hb:Below w w W) ha hb2=>ML W ba bb k1 p1 q1 s1 r1 k2 p2 q2 s2 r2 ha hb2 hk1 hk2 (Ko ⟨k1,p1,q1,s1,r1⟩) (fun W' hb'=>NA W' (QC hb hb'));have FT:=fun W ba bb (hb:Below w w W) ha hb2=>Tf W ba bb k1 p1 q1 s1 r1 k2 p2 q2 s2 r2 ha hb2 hk1 hk2 (Eo ⟨k1,p1,q1,s1,r1⟩) (fun W' hb'=>CX W' k1 p1 q1 s1 r1 ((hg.stays hb).stays hb').2);unfold XH;by_cases hA:1<=o/\o<=7
 ·rw[if_pos (.inl hA)];exact D1 w o k1 p1 q1 s1 r1 k2 p2 q2 s2 r2 _ (Qw _) FN (Ss (by rw[decide_eq_true_eq];exact hA))
 ·have har:PureTo 37 o false:=Ss (by rw[decide_eq_false_iff_not];exact hA);by_cases h20:o=20
  ·rw[if_pos (.inr h20)];exact MC w o k1 p1 q1 s1 r1 k2 p2 q2 s2 r2 (beq_iff_eq.2 h20) _ (Qw _) FN har
  ·have h20':(o==20)=false:=beq_eq_false_iff_ne.2 h20;rw[if_neg (by rintro(h|h);exact hA h;exact h20 h)];by_cases hB:(9<=o/\o<=13)\/o=23
   ·have hbw:PureTo 38 o true:=Sq (by rw[decide_eq_true_eq];exact hB);rw[if_pos hB];cases hn1:Ko ⟨k1,p1,q1,s1,r1⟩ with
    |true=>
     rw[hn1] at NA FN;cases hn2:Ko ⟨k2,p2,q2,s2,r2⟩ with
     |true=>
      rw[hn2] at NB;exact EP w o k1 p1 q1 s1 r1 k2 p2 q2 s2 r2 NA NB h20' har hbw
     |false=>
      rw[hn2] at NB;exact ER w o k1 p1 q1 s1 r1 k2 p2 q2 s2 r2 NA NB h20' har hbw _ (Qw _) FN
    |false=>
     rw[hn1] at NA FN;exact Dz w o k1 p1 q1 s1 r1 k2 p2 q2 s2 r2 NA h20' har hbw _ (Qw _) FN
   ·have hbw:PureTo 38 o false:=Sq (by rw[decide_eq_false_iff_not];exact hB);rw[if_neg hB];by_cases h8:o=8
    ·rw[if_pos h8];exact TR w o k1 p1 q1 s1 r1 k2 p2 q2 s2 r2 (beq_iff_eq.2 h8) _ (Qw _) FT h20' har hbw
    ·have h8':(o==8)=false:=beq_eq_false_iff_ne.2 h8;rw[if_neg h8];by_cases he:QF (Zg k1)=QF (Zg k2)
     ·rw[if_pos he];exact MB w o k1 p1 q1 s1 r1 k2 p2 q2 s2 r2 _ _ (Qw _) (Qw _) (fun W=>Kb W k1 p1 q1 s1 r1 hk1) (fun W=>Kb W k2 p2 q2 s2 r2 hk2) h8' h20' har hbw (LN he)
     ·rw[if_neg he];exact TQ w o k1 p1 q1 s1 r1 k2 p2 q2 s2 r2 _ _ (Qw _) (Qw _) (fun W=>Kb W k1 p1 q1 s1 r1 hk1) (fun W=>Kb W k2 p2 q2 s2 r2 hk2) h8' h20' har hbw (Ar he)
theorem Pn {w:World} {ho:Option Addr} {hand:V->ByteArray->V} (HH:HandAt 127 (.pointer ho) hand w) (ev:ByteArray) (hev:ev.size<=4096) (k1 p1 q1:Int) (s1:ByteArray) (r1:Int) (k2 p2 q2:Int) (s2:ByteArray) (r2:Int) (hr1:i64 r1) (hr2:i64 r2):
  ∀W bh be,Below w w W->W.heap[bh]? =some (.cells #[.pointer ho] 36)->W.heap[be]? =some (.cells #[ev] 9)->
   Calls prog 179 #[.agg #[k1,p1,q1,s1,r1],.agg #[k2,p2,q2,s2,r2],.pointer (some ⟨bh,0,none⟩),.pointer (some ⟨be,0,none⟩)] W (ValPost W (Zs hand ev ⟨k1,p1,q1,s1,r1⟩ ⟨k2,p2,q2,s2,r2⟩)):=fun W bh be hb h1 h2=>
 Ca W bh be ho ev h1 h2 k1 p1 q1 s1 r1 k2 p2 q2 s2 r2 _ _ (fun W' hb'=>HH W' (QC hb hb') k1 p1 q1 s1 r1 ev hr1 hev) (fun W' hb'=>HH W' (QC hb hb') k2 p2 q2 s2 r2 ev hr2 hev)
theorem GC (w:World) (hg:Glob w) (ho:Option Addr) (hand:V->ByteArray->V) (HH:HandAt 127 (.pointer ho) hand w) (o:Int) (R:VR) (hR0:∀c,R= .error c->c≠0) (k1 p1 q1:Int) (s1:ByteArray) (r1:Int) (k2 p2 q2:Int) (s2:ByteArray) (r2:Int) (hk1:i64 k1) (hr1:i64 r1) (hs1:s1.size<=2000000000) (hk2:i64 k2) (hr2:i64 r2) (hs2:s2.size<=2000000000) (base g:Nat) (hbase:base<=g) (hgb:w.heap[g]? =some (.cells #[k1,p1,q1,s1,r1,k2,p2,q2,s2,r2] 25)):
  Calls prog 74 #[.pointer ho,o,.agg #[.int .i64 (vV R).k,.int .i64 (vV R).p,.int .i64 (vV R).q,.string (vV R).s,.int .i64 (vV R).r],.int .i64 (vE R:Nat),.slice (some g) 2 2] w (NdB w base (ZL hand o R ⟨k1,p1,q1,s1,r1⟩ ⟨k2,p2,q2,s2,r2⟩)):=by
 cases R with
 |ok v=>exact TU w ho o v.k v.p v.q v.s v.r 0 base g hbase k1 p1 q1 s1 r1 k2 p2 q2 s2 r2 hgb rfl
 |error c=>
  have hc0:=hR0 c rfl;have h0:(((c:Nat):Int)==0)=false:=by rw[beq_eq_false_iff_ne];omega
  show Calls prog 74 #[.pointer ho,o,.agg #[(0:Int),(0:Int),(0:Int),.string ⟨#[]⟩,(0:Int)],.int .i64 (c:Nat),.slice (some g) 2 2] w (NdB w base (if c=7 then ZZ sZero else if c=6 then ZZ sRange else if c=14 then ZZ sLong
   else if (Zs hand (Q6 o) ⟨k1,p1,q1,s1,r1⟩ ⟨k2,p2,q2,s2,r2⟩).k=0 then ZZ (XH o ⟨k1,p1,q1,s1,r1⟩ ⟨k2,p2,q2,s2,r2⟩) else Zr (Zs hand (Q6 o) ⟨k1,p1,q1,s1,r1⟩ ⟨k2,p2,q2,s2,r2⟩) [⟨k1,p1,q1,s1,r1⟩,⟨k2,p2,q2,s2,r2⟩] (if o=16\/o=17 then 2 else 1)))
  by_cases h7:c=7
  ·subst h7;rw[if_pos rfl];exact ET w ho o 0 0 0 ⟨#[]⟩ 0 _ base g hbase k1 p1 q1 s1 r1 k2 p2 q2 s2 r2 hgb rfl rfl
  ·rw[if_neg h7];have h7':(((c:Nat):Int)==7)=false:=by rw[beq_eq_false_iff_ne];omega
   by_cases h6:c=6
   ·subst h6;rw[if_pos rfl];exact UH w ho o 0 0 0 ⟨#[]⟩ 0 _ base g hbase k1 p1 q1 s1 r1 k2 p2 q2 s2 r2 hgb rfl rfl rfl
   ·rw[if_neg h6];have h6':(((c:Nat):Int)==6)=false:=by rw[beq_eq_false_iff_ne];omega
    by_cases h14:c=14
    ·subst h14;rw[if_pos rfl];exact EW w ho o 0 0 0 ⟨#[]⟩ 0 _ base g hbase k1 p1 q1 s1 r1 k2 p2 q2 s2 r2 hgb rfl rfl rfl rfl
    ·rw[if_neg h14];have h14':(((c:Nat):Int)==14)=false:=by rw[beq_eq_false_iff_ne];omega
     have FI:=Pn HH (Q6 o) (JD o) k1 p1 q1 s1 r1 k2 p2 q2 s2 r2 hr1 hr2;have EV:=fun W=>Gy W o;obtain⟨⟨xk,xp,xq,xs,xr⟩,hX⟩:∃X,Zs hand (Q6 o) ⟨k1,p1,q1,s1,r1⟩ ⟨k2,p2,q2,s2,r2⟩=X:=⟨_,rfl⟩
     rw[hX] at FI ⊢;by_cases hx:xk=0
     ·rw[if_pos hx];exact EU w ho o 0 0 0 ⟨#[]⟩ 0 _ base g hbase k1 p1 q1 s1 r1 k2 p2 q2 s2 r2 hgb xk xp xq xs xr h0 h7' h6' h14' _ EV FI (beq_iff_eq.2 hx) _ (fun W hb=>CW W (hg.stays hb) o k1 p1 q1 s1 r1 k2 p2 q2 s2 r2 hk1 hr1 hs1 hk2 hr2 hs2)
     ·rw[if_neg hx];refine D3 w ho o 0 0 0 ⟨#[]⟩ 0 _ base g hbase k1 p1 q1 s1 r1 k2 p2 q2 s2 r2 hgb xk xp xq xs xr h0 h7' h6' h14' _ EV FI (beq_eq_false_iff_ne.2 hx) _ ?_;by_cases h16:o=16
      ·exact .inl ⟨beq_iff_eq.2 h16,if_pos (.inl h16)⟩
      ·by_cases h17:o=17
       ·exact .inr (.inl ⟨beq_eq_false_iff_ne.2 h16,beq_iff_eq.2 h17,if_pos (.inr h17)⟩)
       ·exact .inr (.inr ⟨beq_eq_false_iff_ne.2 h16,beq_eq_false_iff_ne.2 h17,if_neg (by omega)⟩)
theorem YW (w:World) (hg:Glob w) (ho:Option Addr) (hand:V->ByteArray->V) (HH:HandAt 127 (.pointer ho) hand w) (o:Int) (k1 p1 q1:Int) (s1:ByteArray) (r1:Int) (k2 p2 q2:Int) (s2:ByteArray) (r2:Int) (hk1:i64 k1) (hr1:i64 r1) (hk2:i64 k2) (hr2:i64 r2) (EQX:(o=14\/o=15)->Qt ⟨k1,p1,q1,s1,r1⟩=true->Qt ⟨k2,p2,q2,s2,r2⟩=true->∀W,Below w w W->Calls prog 73 #[.pointer ho,o,.agg #[k1,p1,q1,s1,r1],.agg #[k2,p2,q2,s2,r2]] W (NdPost W (Xp hand o ⟨k1,p1,q1,s1,r1⟩ ⟨k2,p2,q2,s2,r2⟩))):
  Calls prog 20 #[.pointer ho,o,.agg #[k1,p1,q1,s1,r1],.agg #[k2,p2,q2,s2,r2]] w (NdPost w (ZY hand o ⟨k1,p1,q1,s1,r1⟩ ⟨k2,p2,q2,s2,r2⟩)):=by
 have VA:=fun W=>JY W k1 p1 q1 s1 r1;have VB:=fun W=>JY W k2 p2 q2 s2 r2;unfold ZY;by_cases hbi:1<=o/\o<=19
 rotate_left
 ·rw[if_pos (.inl hbi)];exact Tk w _ o k1 p1 q1 s1 r1 k2 p2 q2 s2 r2 (Sr (by rw[decide_eq_false_iff_not];exact hbi))
 have hbi':PureTo 35 o true:=Sr (by rw[decide_eq_true_eq];exact hbi);cases hv1:Qt ⟨k1,p1,q1,s1,r1⟩ with
 |false=>
  rw[hv1] at VA;rw[if_pos (.inr (.inl rfl))];exact FH w _ o k1 p1 q1 s1 r1 k2 p2 q2 s2 r2 hbi' VA
 |true=>
  rw[hv1] at VA;cases hv2:Qt ⟨k2,p2,q2,s2,r2⟩ with
  |false=>
   rw[hv2] at VB;rw[if_pos (.inr (.inr rfl))];exact FG w _ o k1 p1 q1 s1 r1 k2 p2 q2 s2 r2 hbi' VA VB
  |true=>
   rw[hv2] at VB;have hs1:s1.size<=2000000000:=Nat.le_trans (ZU hv1) (by omega);have hs2:s2.size<=2000000000:=Nat.le_trans (ZU hv2) (by omega);rw[if_neg (by rintro(h|h|h);exact h hbi;cases h;cases h)];by_cases h18:o=18
   ·rw[if_pos h18];exact MQ w _ o k1 p1 q1 s1 r1 k2 p2 q2 s2 r2 hbi' VA VB (beq_iff_eq.2 h18) _ _ (fun W hb=>GB W (hg.stays hb) 16 k2 p2 q2 s2 r2 k1 p1 q1 s1 r1) (fun W base g hb hbase hgb=>GC W (hg.stays hb) ho hand (HH.stays hb) 16 _ (fun c hc=>by have:=Jr (by omega) hv2 (fun _=>hv1) hc;omega) k2 p2 q2 s2 r2 k1 p1 q1 s1 r1 hk2 hr2 hs2 hk1 hr1 hs1 base g hbase hgb)
   ·have h18':(o==18)=false:=beq_eq_false_iff_ne.2 h18;rw[if_neg h18];by_cases h19:o=19
    ·rw[if_pos h19];exact MR w _ o k1 p1 q1 s1 r1 k2 p2 q2 s2 r2 hbi' VA VB h18' (beq_iff_eq.2 h19) _ _ (fun W hb=>GB W (hg.stays hb) 17 k2 p2 q2 s2 r2 k1 p1 q1 s1 r1) (fun W base g hb hbase hgb=>GC W (hg.stays hb) ho hand (HH.stays hb) 17 _ (fun c hc=>by have:=Jr (by omega) hv2 (fun _=>hv1) hc;omega) k2 p2 q2 s2 r2 k1 p1 q1 s1 r1 hk2 hr2 hs2 hk1 hr1 hs1 base g hbase hgb)
    ·have h19':(o==19)=false:=beq_eq_false_iff_ne.2 h19;rw[if_neg h19];by_cases heq:o=14\/o=15
     ·rw[if_pos heq];have EQ:=EQX heq hv1 hv2;by_cases h14:o=14
      ·exact MT w _ o k1 p1 q1 s1 r1 k2 p2 q2 s2 r2 hbi' VA VB h18' h19' (beq_iff_eq.2 h14) _ EQ
      ·exact MP w _ o k1 p1 q1 s1 r1 k2 p2 q2 s2 r2 hbi' VA VB h18' h19' (beq_eq_false_iff_ne.2 h14) (beq_iff_eq.2 (by omega)) _ EQ
     ·rw[if_neg heq];exact FE w _ o k1 p1 q1 s1 r1 k2 p2 q2 s2 r2 hbi' VA VB h18' h19' (beq_eq_false_iff_ne.2 (by omega)) (beq_eq_false_iff_ne.2 (by omega)) _ _ (fun W hb=>GB W (hg.stays hb) o k1 p1 q1 s1 r1 k2 p2 q2 s2 r2) (fun W base g hb hbase hgb=>GC W (hg.stays hb) ho hand (HH.stays hb) o _ (fun c hc=>by have:=Jr (by omega) hv1 (fun _=>hv2) hc;omega) k1 p1 q1 s1 r1 k2 p2 q2 s2 r2 hk1 hr1 hs1 hk2 hr2 hs2 base g hbase hgb)
theorem ES (w:World) (hg:Glob w) (ho:Option Addr) (hand:V->ByteArray->V) (HH:HandAt 127 (.pointer ho) hand w) (o:Int) (k1 p1 q1:Int) (s1:ByteArray) (r1:Int) (hk1:i64 k1) (hr1:i64 r1)
  (HL:k1=4->∃c:Nat,∀W,Below w w W->Calls prog 129 #[.pointer ho,.agg #[k1,p1,q1,s1,r1]] W (PtrPost W (.tuple #[.int .i64 0,.int .i64 (c:Nat)]))):
  Calls prog 22 #[.pointer ho,o,.agg #[k1,p1,q1,s1,r1]] w (NdPost w (Kl hand o ⟨k1,p1,q1,s1,r1⟩)):=by
 have VA:=fun W=>JY W k1 p1 q1 s1 r1;unfold Kl;by_cases hun:20<=o/\o<=23
 rotate_left
 ·rw[if_pos (.inl hun)];exact ME w _ o k1 p1 q1 s1 r1 (M5 (by rw[decide_eq_false_iff_not];exact hun))
 have hun':PureTo 34 o true:=M5 (by rw[decide_eq_true_eq];exact hun);cases hv1:Qt ⟨k1,p1,q1,s1,r1⟩ with
 |false=>
  rw[hv1] at VA;rw[if_pos (.inr rfl)];exact TT w _ o k1 p1 q1 s1 r1 hun' VA
 |true=>
  rw[hv1] at VA;have hs1:s1.size<=2000000000:=Nat.le_trans (ZU hv1) (by omega);rw[if_neg (by rintro(h|h);exact h hun;cases h)];by_cases h22:o=22
  ·rw[if_pos h22];exact MD w _ o k1 p1 q1 s1 r1 hun' VA (beq_iff_eq.2 h22) _ (fun W hb=>Ac W _ hand k1 p1 q1 s1 r1 hk1 (fun W' hb'=>HH W' (QC hb hb') k1 p1 q1 s1 r1 (Q6 22) hr1 (JD 22)) (fun h4=>by obtain⟨c,hc⟩:=HL h4;exact⟨c,fun W' hb'=>hc W' (QC hb hb')⟩))
  ·rw[if_neg h22];exact TS w _ o k1 p1 q1 s1 r1 hun' VA (beq_eq_false_iff_ne.2 h22) _ _ (fun W hb=>GB W (hg.stays hb) o k1 p1 q1 s1 r1 0 0 0 ⟨#[]⟩ 0) (fun W base g hb hbase hgb=>GC W (hg.stays hb) ho hand (HH.stays hb) o _ (fun c hc=>by have:=Jr (by omega) hv1 (fun h=>by omega) hc;omega) k1 p1 q1 s1 r1 k1 p1 q1 s1 r1 hk1 hr1 hs1 hk1 hr1 hs1 base g hbase hgb)
theorem Gx {base n:Nat} {w:World} {h:Nat} {M:LH} (hP:PHp base n w h M) (hn:n<=1000):HandAt 127 (.pointer (some h)) (ZN M) w:=fun W hW k p q s r ev hr hev=>by
 obtain⟨bo,bt,H,h1,h2,h3,h4⟩:=(hP.below hW).ex;rw[<-h2];exact SX W h bo bt H h1 (fun x hx=>Nat.le_trans (h3 x hx) hn) k p q s r hr ev hev
theorem AI {base n:Nat} {w:World} {h:Nat} {M:LH} (hP:PHp base n w h M) (k1 p1 q1:Int) (s1:ByteArray) (r1:Int) (hr:i64 r1):
  ∃c:Nat,∀W,Below w w W->Calls prog 129 #[h,.agg #[k1,p1,q1,s1,r1]] W (PtrPost W (.tuple #[.int .i64 0,.int .i64 (c:Nat)])):=by
 obtain⟨bo,bt,H,h1,h2,h3,h4⟩:=hP.ex;exact Ae w h bo bt H h1 k1 p1 q1 s1 r1 hr
end Go.Proofs.YthkpckgcgkijbaaGreatDoor
