import Derived.Test.YthkpckgcgkijbaaGreatDoorLwA
set_option linter.unusedVariables false
set_option linter.unusedSimpArgs false
set_option maxRecDepth 100000
set_option maxHeartbeats 2000000
namespace Go.Proofs.YthkpckgcgkijbaaGreatDoor
open Go.RowKit Go.Proofs.Lexi Go.Proofs.Tryz
variable (w:World) (o:Int) (hp:Value) (k1 p1 q1:Int) (s1:ByteArray) (r1 k2 p2 q2:Int) (s2:ByteArray) (r2:Int) (ev:ByteArray) (fk fp fq:Int) (fs:ByteArray) (fr gk gp gq:Int) (gs:ByteArray) (gr c:Int) (T1 T2:ByteArray)
theorem DU (hf:(fk==0)=false) (A0:∀W,Below w w W->Calls prog 125 #[hp,.agg #[k1,p1,q1,s1,r1],ev] W (ValPost W ⟨fk,fp,fq,fs,fr⟩)):Calls prog 77 #[hp,.agg #[k1,p1,q1,s1,r1],.agg #[k2,p2,q2,s2,r2],ev] w (ValPost w ⟨fk,fp,fq,fs,fr⟩):=by
 have HA0:=zh A0;clear A0;go_enter func77,ntmps77;go_wp2_with fail
 refine(HA0.out _ ((QE _ _ _).alloc (by simp;omega) _)).mono ?_;rintro e w1 ⟨rfl,hb⟩;have Hu1:=hkh hb (QU _ _ _ _);have HW1:=hbn (((QE _ _ _).alloc (by simp;omega) _)) hb;have hz1:=hb.size;try simp at hz1
 clear hb;have hyu:=hsz Hu1;obtain⟨u0,u1,u2,u3,u4⟩:=zc5 Hu1;obtain⟨fu0,fu1,fu2,fu3,fu4⟩:=zf5 Hu1;go_wp2;refine zr (by simp[results,results77,go_sem,hyu,u0,u1,u2,u3,u4]<;>rfl) ?_;exact Qo rfl ((QG HW1.out (by omega) _ _ _ _ _).alloc (by simp;omega) _)
theorem EI (hf:(fk==0)=true) (A0:∀W,Below w w W->Calls prog 125 #[hp,.agg #[k1,p1,q1,s1,r1],ev] W (ValPost W ⟨fk,fp,fq,fs,fr⟩)) (C0:∀W,Below w w W->Calls prog 125 #[hp,.agg #[k2,p2,q2,s2,r2],ev] W (ValPost W ⟨gk,gp,gq,gs,gr⟩)):Calls prog 77 #[hp,.agg #[k1,p1,q1,s1,r1],.agg #[k2,p2,q2,s2,r2],ev] w (ValPost w ⟨gk,gp,gq,gs,gr⟩):=by
 have HA0:=zh A0;have HC0:=zh C0;clear A0 C0;go_enter func77,ntmps77;go_wp2_with fail
 refine(HA0.out _ ((QE _ _ _).alloc (by simp;omega) _)).mono ?_;rintro e w1 ⟨rfl,hb⟩;have Hb1:=hkh hb (Qa _ _ _ _);have Hu1:=hkh hb (QU _ _ _ _);have HW1:=hbn (((QE _ _ _).alloc (by simp;omega) _)) hb;have hz1:=hb.size;try simp at hz1
 clear hb;have hyb:=hsz Hb1;obtain⟨b0,b1,b2,b3,b4⟩:=zc5 Hb1;go_wp2_with fail
 refine(HC0.out _ (HW1.out.alloc HW1.out.size (oV fk fp fq fs fr))).mono ?_;rintro e w2 ⟨rfl,hb⟩;have Hu2:=hkh hb (QI Hu1.out (oV fk fp fq fs fr));have Hf2:=hkh hb (Qy w1 (oV fk fp fq fs fr));have HW2:=hbn (HW1.out.alloc HW1.out.size (oV fk fp fq fs fr)) hb;have hz2:=hb.size;try simp at hz2
 clear hb;clear hyb b0 b1 b2 b3 b4;have hyu:=hsz Hu2;obtain⟨u0,u1,u2,u3,u4⟩:=zc5 Hu2;obtain⟨fu0,fu1,fu2,fu3,fu4⟩:=zf5 Hu2;have hyf:=hsz Hf2;obtain⟨f0,f1,f2,f3,f4⟩:=zc5 Hf2;obtain⟨ff0,ff1,ff2,ff3,ff4⟩:=zf5 Hf2;go_wp2;refine zr (by simp[results,results77,go_sem,hyu,u0,u1,u2,u3,u4]<;>rfl) ?_;exact Qo rfl (by first|exact QG (QG HW2.out (by omega) _ _ _ _ _) (by omega) _ _ _ _ _|trace_state)
theorem Ub (hand:V->ByteArray->V) (HH:∀W,Below w w W->∀(k p q:Int) (s:ByteArray) (r:Int) (ev:ByteArray),i64 r->ev.size<=4096->Calls prog 125 #[hp,.agg #[k,p,q,s,r],ev] W (ValPost W (hand ⟨k,p,q,s,r⟩ ev)))
  (ev:ByteArray) (hev:ev.size<=4096) (k1 p1 q1:Int) (s1:ByteArray) (r1:Int) (k2 p2 q2:Int) (s2:ByteArray) (r2:Int) (hr1:i64 r1) (hr2:i64 r2):Calls prog 77 #[hp,.agg #[k1,p1,q1,s1,r1],.agg #[k2,p2,q2,s2,r2],ev] w (ValPost w (Zs hand ev ⟨k1,p1,q1,s1,r1⟩ ⟨k2,p2,q2,s2,r2⟩)):=by
 have hA:=fun W hb=>HH W hb k1 p1 q1 s1 r1 ev hr1 hev;have hC:=fun W hb=>HH W hb k2 p2 q2 s2 r2 ev hr2 hev;unfold Zs;obtain⟨⟨fk,fp,fq,fs,fr⟩,hF⟩:∃X,hand ⟨k1,p1,q1,s1,r1⟩ ev=X:=⟨_,rfl⟩
 obtain⟨⟨gk,gp,gq,gs,gr⟩,hG⟩:∃X,hand ⟨k2,p2,q2,s2,r2⟩ ev=X:=⟨_,rfl⟩
 rw[hF] at hA ⊢;rw[hG] at hC ⊢;by_cases h:fk=0
 ·rw[if_pos h];exact EI w hp k1 p1 q1 s1 r1 k2 p2 q2 s2 r2 ev fk fp fq fs fr gk gp gq gs gr (beq_iff_eq.2 h) hA hC
 ·rw[if_neg h];exact DU w hp k1 p1 q1 s1 r1 k2 p2 q2 s2 r2 ev fk fp fq fs fr (beq_eq_false_iff_ne.2 h) hA
theorem X5 (h1:T1.size<=8) (h2:T2.size<=8) (TA:∀W,Calls prog 136 #[.agg #[k1,p1,q1,s1,r1]] W (StrPost W T1)) (TB:∀W,Calls prog 136 #[.agg #[k2,p2,q2,s2,r2]] W (StrPost W T2)) (ho:(o==16)=true) (heq:(T1.toList==T2.toList)=true):Calls prog 124 #[o,.agg #[k1,p1,q1,s1,r1],.agg #[k2,p2,q2,s2,r2]] w (StrPost w (sTwo++T1++sValues)):=by
 have HTA:=zh TA;have HTB:=zh TB;clear TA TB;go_enter func124,ntmps124;go_wp2_with fail
 refine(HTA.out _).mono ?_;rintro e w1 ⟨rfl,hb⟩;have Ha1:=hkh hb (Qm _ _ _);have Hb1:=hkh hb (QY _ _ _);have HW1:=hbn (QE _ _ _) hb;have hz1:=hb.size;try simp at hz1
 clear hb;have hyb:=hsz Hb1;obtain⟨b0,b1,b2,b3,b4⟩:=zc5 Hb1;go_wp2_with fail
 refine(HTB.out _).mono ?_;rintro e w2 ⟨rfl,hb⟩;have Ha2:=hkh hb Ha1;have Hb2:=hkh hb Hb1;have HW2:=hbn HW1 hb;have hz2:=hb.size;try simp at hz2
 clear hb;clear hyb b0 b1 b2 b3 b4;go_wp2
 go_ret
 exact⟨rfl,HW2.out⟩
theorem X6 (h1:T1.size<=8) (h2:T2.size<=8) (TA:∀W,Calls prog 136 #[.agg #[k1,p1,q1,s1,r1]] W (StrPost W T1)) (TB:∀W,Calls prog 136 #[.agg #[k2,p2,q2,s2,r2]] W (StrPost W T2)) (ho:(o==16)=true) (heq:(T1.toList==T2.toList)=false):Calls prog 124 #[o,.agg #[k1,p1,q1,s1,r1],.agg #[k2,p2,q2,s2,r2]] w (StrPost w (sComp++T1++sWith++T2)):=by
 have HTA:=zh TA;have HTB:=zh TB;clear TA TB;go_enter func124,ntmps124;go_wp2_with fail
 refine(HTA.out _).mono ?_;rintro e w1 ⟨rfl,hb⟩;have Ha1:=hkh hb (Qm _ _ _);have Hb1:=hkh hb (QY _ _ _);have HW1:=hbn (QE _ _ _) hb;have hz1:=hb.size;try simp at hz1
 clear hb;have hyb:=hsz Hb1;obtain⟨b0,b1,b2,b3,b4⟩:=zc5 Hb1;go_wp2_with fail
 refine(HTB.out _).mono ?_;rintro e w2 ⟨rfl,hb⟩;have Ha2:=hkh hb Ha1;have Hb2:=hkh hb Hb1;have HW2:=hbn HW1 hb;have hz2:=hb.size;try simp at hz2
 clear hb;clear hyb b0 b1 b2 b3 b4;go_wp2
 go_ret
 exact⟨rfl,HW2.out⟩
theorem X3 (h1:T1.size<=8) (h2:T2.size<=8) (TA:∀W,Calls prog 136 #[.agg #[k1,p1,q1,s1,r1]] W (StrPost W T1)) (TB:∀W,Calls prog 136 #[.agg #[k2,p2,q2,s2,r2]] W (StrPost W T2)) (ho:(o==16)=false) (hp:(o==17)=true) (heq:(T1.toList==T2.toList)=true):Calls prog 124 #[o,.agg #[k1,p1,q1,s1,r1],.agg #[k2,p2,q2,s2,r2]] w (StrPost w (sTwo++T1++sValues)):=by
 have HTA:=zh TA;have HTB:=zh TB;clear TA TB;go_enter func124,ntmps124;go_wp2_with fail
 refine(HTA.out _).mono ?_;rintro e w1 ⟨rfl,hb⟩;have Ha1:=hkh hb (Qm _ _ _);have Hb1:=hkh hb (QY _ _ _);have HW1:=hbn (QE _ _ _) hb;have hz1:=hb.size;try simp at hz1
 clear hb;have hyb:=hsz Hb1;obtain⟨b0,b1,b2,b3,b4⟩:=zc5 Hb1;go_wp2_with fail
 refine(HTB.out _).mono ?_;rintro e w2 ⟨rfl,hb⟩;have Ha2:=hkh hb Ha1;have Hb2:=hkh hb Hb1;have HW2:=hbn HW1 hb;have hz2:=hb.size;try simp at hz2
 clear hb;clear hyb b0 b1 b2 b3 b4;go_wp2
 go_ret
 exact⟨rfl,HW2.out⟩
theorem X4 (h1:T1.size<=8) (h2:T2.size<=8) (TA:∀W,Calls prog 136 #[.agg #[k1,p1,q1,s1,r1]] W (StrPost W T1)) (TB:∀W,Calls prog 136 #[.agg #[k2,p2,q2,s2,r2]] W (StrPost W T2)) (ho:(o==16)=false) (hp:(o==17)=true) (heq:(T1.toList==T2.toList)=false):Calls prog 124 #[o,.agg #[k1,p1,q1,s1,r1],.agg #[k2,p2,q2,s2,r2]] w (StrPost w (sComp++T1++sWith++T2)):=by
 have HTA:=zh TA;have HTB:=zh TB;clear TA TB;go_enter func124,ntmps124;go_wp2_with fail
 refine(HTA.out _).mono ?_;rintro e w1 ⟨rfl,hb⟩;have Ha1:=hkh hb (Qm _ _ _);have Hb1:=hkh hb (QY _ _ _);have HW1:=hbn (QE _ _ _) hb;have hz1:=hb.size;try simp at hz1
 clear hb;have hyb:=hsz Hb1;obtain⟨b0,b1,b2,b3,b4⟩:=zc5 Hb1;go_wp2_with fail
 refine(HTB.out _).mono ?_;rintro e w2 ⟨rfl,hb⟩;have Ha2:=hkh hb Ha1;have Hb2:=hkh hb Hb1;have HW2:=hbn HW1 hb;have hz2:=hb.size;try simp at hz2
 clear hb;clear hyb b0 b1 b2 b3 b4;go_wp2
 go_ret
 exact⟨rfl,HW2.out⟩
theorem U1 (h2:T2.size<=8) (TB:∀W,Calls prog 136 #[.agg #[k2,p2,q2,s2,r2]] W (StrPost W T2)) (NA:∀W,Calls prog 184 #[.agg #[k1,p1,q1,s1,r1]] W (BoolPost W true)) (ho:(o==16)=false) (hp:(o==17)=false) (h8:(o==8)=true):Calls prog 124 #[o,.agg #[k1,p1,q1,s1,r1],.agg #[k2,p2,q2,s2,r2]] w (StrPost w (sConc++T2++sValue)):=by
 have HTB:=zh TB;have HNA:=zh NA;clear TB NA;go_enter func124,ntmps124;go_wp2_with fail
 refine(HNA.out _).mono ?_;rintro e w1 ⟨rfl,hb⟩;have Ha1:=hkh hb (Qm _ _ _);have Hb1:=hkh hb (QY _ _ _);have HW1:=hbn (QE _ _ _) hb;have hz1:=hb.size;try simp at hz1
 clear hb;have hya:=hsz Ha1;obtain⟨a0,a1,a2,a3,a4⟩:=zc5 Ha1;obtain⟨fa0,fa1,fa2,fa3,fa4⟩:=zf5 Ha1;have hyb:=hsz Hb1;obtain⟨b0,b1,b2,b3,b4⟩:=zc5 Hb1;go_wp2_with fail
 refine(HTB.out _).mono ?_;rintro e w2 ⟨rfl,hb⟩;have HW2:=hbn (QG HW1.out zl _ _ _ _ _) hb;clear hb;go_wp2
 go_ret
 exact⟨rfl,HW2.out⟩
theorem U2 (h1:T1.size<=8) (TA:∀W,Calls prog 136 #[.agg #[k1,p1,q1,s1,r1]] W (StrPost W T1)) (NA:∀W,Calls prog 184 #[.agg #[k1,p1,q1,s1,r1]] W (BoolPost W false)) (ho:(o==16)=false) (hp:(o==17)=false) (h8:(o==8)=true):Calls prog 124 #[o,.agg #[k1,p1,q1,s1,r1],.agg #[k2,p2,q2,s2,r2]] w (StrPost w (sConc++T1++sValue)):=by
 have HTA:=zh TA;have HNA:=zh NA;clear TA NA;go_enter func124,ntmps124;go_wp2_with fail
 refine(HNA.out _).mono ?_;rintro e w1 ⟨rfl,hb⟩;have Ha1:=hkh hb (Qm _ _ _);have Hb1:=hkh hb (QY _ _ _);have HW1:=hbn (QE _ _ _) hb;have hz1:=hb.size;try simp at hz1
 clear hb;have hya:=hsz Ha1;obtain⟨a0,a1,a2,a3,a4⟩:=zc5 Ha1;have hyb:=hsz Hb1;obtain⟨b0,b1,b2,b3,b4⟩:=zc5 Hb1;go_wp2_with fail
 refine(HTA.out _).mono ?_;rintro e w2 ⟨rfl,hb⟩;have HW2:=hbn HW1 hb;clear hb;go_wp2
 go_ret
 exact⟨rfl,HW2.out⟩
theorem Fq (h2:T2.size<=8) (TB:∀W,Calls prog 136 #[.agg #[k2,p2,q2,s2,r2]] W (StrPost W T2)) (NA:∀W,Calls prog 185 #[.agg #[k1,p1,q1,s1,r1]] W (BoolPost W true)) (ho:(o==16)=false) (hp:(o==17)=false) (h8:(o==8)=false) (hbw:∀W,Calls prog 186 #[o] W fun e w'=>e= .returned (.bool false)/\W=w'):Calls prog 124 #[o,.agg #[k1,p1,q1,s1,r1],.agg #[k2,p2,q2,s2,r2]] w (StrPost w (sArith++T2++sValue)):=by
 have HTB:=zh TB;have HNA:=zh NA;have Hhbw:=zh hbw;clear TB NA hbw;go_enter func124,ntmps124;go_wp2_with fail
 refine(HNA.out _).mono ?_;rintro e w1 ⟨rfl,hb⟩;have Ha1:=hkh hb (Qm _ _ _);have Hb1:=hkh hb (QY _ _ _);have HW1:=hbn (QE _ _ _) hb;have hz1:=hb.size;try simp at hz1
 clear hb;have hya:=hsz Ha1;obtain⟨a0,a1,a2,a3,a4⟩:=zc5 Ha1;obtain⟨fa0,fa1,fa2,fa3,fa4⟩:=zf5 Ha1;have hyb:=hsz Hb1;obtain⟨b0,b1,b2,b3,b4⟩:=zc5 Hb1;go_wp2_with fail
 obtain⟨W5,hW5⟩:∃W5,W5=(((((w1.setCell w (.int .i64 k2)).setCell ⟨w,1,none⟩ (.int .i64 p2)).setCell ⟨w,2,none⟩ (.int .i64 q2)).setCell ⟨w,3,none⟩ (.string s2)).setCell ⟨w,4,none⟩ (.int .i64 r2)):=⟨_,rfl⟩
 rw[<-hW5];have HWS:=zh (show Below w w W5 by rw[hW5];exact QG HW1.out zl _ _ _ _ _);have HaS:=zh (show W5.heap[w.heap.size]? =some (oV k2 p2 q2 s2 r2) by rw[hW5];exact Qp Ha1.out _ _ _ _ _);clear hW5;have hyS:=hsz HaS;clear hya a0 fa0 a1 fa1 a2 fa2 a3 fa3 a4 fa4 hyb b0 b1 b2 b3 b4;refine(Hhbw.out _).mono ?_;rintro e W0 ⟨rfl,rfl⟩;obtain⟨a0,a1,a2,a3,a4⟩:=zc5 HaS;go_wp2_with fail
 refine(HTB.out _).mono ?_;rintro e w2 ⟨rfl,hb⟩;have HW2:=hbn HWS hb;clear hb;go_wp2
 go_ret
 exact⟨rfl,HW2.out⟩
theorem Fr (h1:T1.size<=8) (TA:∀W,Calls prog 136 #[.agg #[k1,p1,q1,s1,r1]] W (StrPost W T1)) (NA:∀W,Calls prog 185 #[.agg #[k1,p1,q1,s1,r1]] W (BoolPost W false)) (ho:(o==16)=false) (hp:(o==17)=false) (h8:(o==8)=false) (hbw:∀W,Calls prog 186 #[o] W fun e w'=>e= .returned (.bool false)/\W=w'):Calls prog 124 #[o,.agg #[k1,p1,q1,s1,r1],.agg #[k2,p2,q2,s2,r2]] w (StrPost w (sArith++T1++sValue)):=by
 have HTA:=zh TA;have HNA:=zh NA;have Hhbw:=zh hbw;clear TA NA hbw;go_enter func124,ntmps124;go_wp2_with fail
 refine(HNA.out _).mono ?_;rintro e w1 ⟨rfl,hb⟩;have Ha1:=hkh hb (Qm _ _ _);have Hb1:=hkh hb (QY _ _ _);have HW1:=hbn (QE _ _ _) hb;have hz1:=hb.size;try simp at hz1
 clear hb;have hya:=hsz Ha1;obtain⟨a0,a1,a2,a3,a4⟩:=zc5 Ha1;have hyb:=hsz Hb1;obtain⟨b0,b1,b2,b3,b4⟩:=zc5 Hb1;go_wp2_with fail
 refine(Hhbw.out _).mono ?_;rintro e W0 ⟨rfl,rfl⟩;go_wp2_with fail
 refine(HTA.out _).mono ?_;rintro e w2 ⟨rfl,hb⟩;have HW2:=hbn HW1 hb;clear hb;go_wp2
 go_ret
 exact⟨rfl,HW2.out⟩
theorem U3 (NA:∀W,Calls prog 185 #[.agg #[k1,p1,q1,s1,r1]] W (BoolPost W true)) (NB:∀W,Calls prog 185 #[.agg #[k2,p2,q2,s2,r2]] W (BoolPost W true)) (ho:(o==16)=false) (hp:(o==17)=false) (h8:(o==8)=false) (hbw:∀W,Calls prog 186 #[o] W fun e w'=>e= .returned (.bool true)/\W=w'):Calls prog 124 #[o,.agg #[k1,p1,q1,s1,r1],.agg #[k2,p2,q2,s2,r2]] w (StrPost w (sNoInt)):=by
 have HNA:=zh NA;have HNB:=zh NB;have Hhbw:=zh hbw;clear NA NB hbw;go_enter func124,ntmps124;go_wp2_with fail
 refine(HNA.out _).mono ?_;rintro e w1 ⟨rfl,hb⟩;have Ha1:=hkh hb (Qm _ _ _);have Hb1:=hkh hb (QY _ _ _);have HW1:=hbn (QE _ _ _) hb;have hz1:=hb.size;try simp at hz1
 clear hb;have hya:=hsz Ha1;obtain⟨a0,a1,a2,a3,a4⟩:=zc5 Ha1;obtain⟨fa0,fa1,fa2,fa3,fa4⟩:=zf5 Ha1;have hyb:=hsz Hb1;obtain⟨b0,b1,b2,b3,b4⟩:=zc5 Hb1;go_wp2_with fail
 obtain⟨W5,hW5⟩:∃W5,W5=(((((w1.setCell w (.int .i64 k2)).setCell ⟨w,1,none⟩ (.int .i64 p2)).setCell ⟨w,2,none⟩ (.int .i64 q2)).setCell ⟨w,3,none⟩ (.string s2)).setCell ⟨w,4,none⟩ (.int .i64 r2)):=⟨_,rfl⟩
 rw[<-hW5];have HWS:=zh (show Below w w W5 by rw[hW5];exact QG HW1.out zl _ _ _ _ _);have HaS:=zh (show W5.heap[w.heap.size]? =some (oV k2 p2 q2 s2 r2) by rw[hW5];exact Qp Ha1.out _ _ _ _ _);clear hW5;have hyS:=hsz HaS;clear hya a0 fa0 a1 fa1 a2 fa2 a3 fa3 a4 fa4 hyb b0 b1 b2 b3 b4;refine(Hhbw.out _).mono ?_;rintro e W0 ⟨rfl,rfl⟩;obtain⟨a0,a1,a2,a3,a4⟩:=zc5 HaS;go_wp2_with fail
 refine(HNB.out _).mono ?_;rintro e w2 ⟨rfl,hb⟩;have HW2:=hbn HWS hb;clear hb;go_wp2
 go_ret
 exact⟨rfl,HW2.out⟩
theorem U4 (h2:T2.size<=8) (TB:∀W,Calls prog 136 #[.agg #[k2,p2,q2,s2,r2]] W (StrPost W T2)) (NA:∀W,Calls prog 185 #[.agg #[k1,p1,q1,s1,r1]] W (BoolPost W true)) (NB:∀W,Calls prog 185 #[.agg #[k2,p2,q2,s2,r2]] W (BoolPost W false)) (ho:(o==16)=false) (hp:(o==17)=false) (h8:(o==8)=false) (hbw:∀W,Calls prog 186 #[o] W fun e w'=>e= .returned (.bool true)/\W=w'):Calls prog 124 #[o,.agg #[k1,p1,q1,s1,r1],.agg #[k2,p2,q2,s2,r2]] w (StrPost w (sBitw++T2++sValue)):=by
 have HTB:=zh TB;have HNA:=zh NA;have HNB:=zh NB;have Hhbw:=zh hbw;clear TB NA NB hbw;go_enter func124,ntmps124;go_wp2_with fail
 refine(HNA.out _).mono ?_;rintro e w1 ⟨rfl,hb⟩;have Ha1:=hkh hb (Qm _ _ _);have Hb1:=hkh hb (QY _ _ _);have HW1:=hbn (QE _ _ _) hb;have hz1:=hb.size;try simp at hz1
 clear hb;have hya:=hsz Ha1;obtain⟨a0,a1,a2,a3,a4⟩:=zc5 Ha1;obtain⟨fa0,fa1,fa2,fa3,fa4⟩:=zf5 Ha1;have hyb:=hsz Hb1;obtain⟨b0,b1,b2,b3,b4⟩:=zc5 Hb1;go_wp2_with fail
 obtain⟨W5,hW5⟩:∃W5,W5=(((((w1.setCell w (.int .i64 k2)).setCell ⟨w,1,none⟩ (.int .i64 p2)).setCell ⟨w,2,none⟩ (.int .i64 q2)).setCell ⟨w,3,none⟩ (.string s2)).setCell ⟨w,4,none⟩ (.int .i64 r2)):=⟨_,rfl⟩
 rw[<-hW5];have HWS:=zh (show Below w w W5 by rw[hW5];exact QG HW1.out zl _ _ _ _ _);have HaS:=zh (show W5.heap[w.heap.size]? =some (oV k2 p2 q2 s2 r2) by rw[hW5];exact Qp Ha1.out _ _ _ _ _);clear hW5;have hyS:=hsz HaS;clear hya a0 fa0 a1 fa1 a2 fa2 a3 fa3 a4 fa4 hyb b0 b1 b2 b3 b4;refine(Hhbw.out _).mono ?_;rintro e W0 ⟨rfl,rfl⟩;obtain⟨a0,a1,a2,a3,a4⟩:=zc5 HaS;go_wp2_with fail
 refine(HNB.out _).mono ?_;rintro e w2 ⟨rfl,hb⟩;have HW2:=hbn HWS hb;have Ha2:=hkh hb HaS;clear hb a0 a1 a2 a3 a4;have hy2:=hsz Ha2;obtain⟨a0,a1,a2,a3,a4⟩:=zc5 Ha2;go_wp2_with fail
 refine(HTB.out _).mono ?_;rintro e w3 ⟨rfl,hb⟩;have HW3:=hbn HW2 hb;clear hb;go_wp2
 go_ret
 exact⟨rfl,HW3.out⟩
theorem DQ (h1:T1.size<=8) (TA:∀W,Calls prog 136 #[.agg #[k1,p1,q1,s1,r1]] W (StrPost W T1)) (NA:∀W,Calls prog 185 #[.agg #[k1,p1,q1,s1,r1]] W (BoolPost W false)) (ho:(o==16)=false) (hp:(o==17)=false) (h8:(o==8)=false) (hbw:∀W,Calls prog 186 #[o] W fun e w'=>e= .returned (.bool true)/\W=w'):Calls prog 124 #[o,.agg #[k1,p1,q1,s1,r1],.agg #[k2,p2,q2,s2,r2]] w (StrPost w (sBitw++T1++sValue)):=by
 have HTA:=zh TA;have HNA:=zh NA;have Hhbw:=zh hbw;clear TA NA hbw;go_enter func124,ntmps124;go_wp2_with fail
 refine(HNA.out _).mono ?_;rintro e w1 ⟨rfl,hb⟩;have Ha1:=hkh hb (Qm _ _ _);have Hb1:=hkh hb (QY _ _ _);have HW1:=hbn (QE _ _ _) hb;have hz1:=hb.size;try simp at hz1
 clear hb;have hya:=hsz Ha1;obtain⟨a0,a1,a2,a3,a4⟩:=zc5 Ha1;have hyb:=hsz Hb1;obtain⟨b0,b1,b2,b3,b4⟩:=zc5 Hb1;go_wp2_with fail
 refine(Hhbw.out _).mono ?_;rintro e W0 ⟨rfl,rfl⟩;go_wp2_with fail
 refine(HNA.out _).mono ?_;rintro e w2 ⟨rfl,hb⟩;have HW2:=hbn HW1 hb;have Ha2:=hkh hb Ha1;clear hb hya a0 a1 a2 a3 a4 hyb b0 b1 b2 b3 b4;have hy2:=hsz Ha2;obtain⟨a0,a1,a2,a3,a4⟩:=zc5 Ha2;go_wp2_with fail
 refine(HTA.out _).mono ?_;rintro e w3 ⟨rfl,hb⟩;have HW3:=hbn HW2 hb;clear hb;go_wp2
 go_ret
 exact⟨rfl,HW3.out⟩
theorem NX:Calls prog 123 #[c] w fun e w'=>e= .returned (.string (if c=7 then sZero else if c=14 then sLong else sRange))/\w=w':=by
 by_cases h7:c=7
 ·subst h7;rw[if_pos rfl];go_enter func123,ntmps123;go_wp2
  go_ret
  exact⟨rfl,rfl⟩
 ·rw[if_neg h7];have h7':(c==7)=false:=beq_eq_false_iff_ne.2 h7;by_cases h14:c=14
  ·subst h14;rw[if_pos rfl];go_enter func123,ntmps123;go_wp2
   go_ret
   exact⟨rfl,rfl⟩
  ·rw[if_neg h14];have h14':(c==14)=false:=beq_eq_false_iff_ne.2 h14;clear h7 h14;go_enter func123,ntmps123;go_wp2
   go_ret
   exact⟨rfl,rfl⟩
end Go.Proofs.YthkpckgcgkijbaaGreatDoor
