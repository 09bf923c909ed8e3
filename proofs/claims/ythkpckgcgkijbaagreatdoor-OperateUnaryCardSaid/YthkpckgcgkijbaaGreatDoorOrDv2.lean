import Derived.Test.YthkpckgcgkijbaaGreatDoorOrD
import Derived.Test.YthkpckgcgkijbaaGreatDoorOpL
import Derived.Test.YthkpckgcgkijbaaGreatDoorOpAv2
set_option linter.unusedVariables false
set_option linter.unusedSimpArgs false
set_option maxRecDepth 100000
set_option maxHeartbeats 2000000
namespace Go.Proofs.YthkpckgcgkijbaaGreatDoor
open Go.RowKit Go.Proofs.Lexi Go.Proofs.Tryz
variable (w:World) (hp:Value) (o k1 p1 q1:Int) (s1:ByteArray) (r1:Int)
theorem NP (hun:∀W,Calls prog 46 #[o] W fun e w'=>e= .returned (.bool false)/\W=w'):Calls prog 23 #[hp,o,.agg #[k1,p1,q1,s1,r1]] w (NdPost w (ZZ sBad)):=by
 have Hhun:=zh hun;clear hun;go_enter func23,ntmps23;go_wp2_with fail
 refine(Hhun.out _).mono ?_;rintro e W0 ⟨rfl,rfl⟩;go_wp2_with fail
 refine(J0 _ _).mono ?_;rintro e w1 ⟨av,rfl,hA,hb⟩;obtain⟨ao,an,ac,rfl⟩:=hA.shape;have HA:=zh hA;clear hA;have Ha1:=hkh hb (Qm _ _ _);have Hu1:=hkh hb (QY _ _ _);have HW1:=hbn (QE _ _ _) hb;have hz1:=hb.size;try simp at hz1
 clear hb;have hyu:=hsz Hu1;obtain⟨u0,u1,u2,u3,u4,u5,u6,u7,u8,u9,u10,u11,u12,u13⟩:=zc14 Hu1;obtain⟨fu0,fu1,fu2,fu3,fu4,fu5,fu6,fu7,fu8,fu9,fu10,fu11,fu12,fu13⟩:=zf14 Hu1;go_wp2;refine zr (by simp[results,results23,go_sem,hyu,u0,u1,u2,u3,u4,u5,u6,u7,u8,u9,u10,u11,u12,u13]<;>rfl) ?_;exact Qx (r:=w.heap.size+1) (base:=w.heap.size+1+1) HW1.out (by simpa using HA.out) (by omega) (by omega) (by omega) (QP (F:=fun b=>b=w.heap.size+1) (Mods.refl _ _) (.inl rfl) _ _ _ _ _ _ _ _ _ _ _ _ _ _)
theorem Ft (hun:∀W,Calls prog 46 #[o] W fun e w'=>e= .returned (.bool true)/\W=w') (VA:∀W,Calls prog 26 #[.agg #[k1,p1,q1,s1,r1]] W (BoolPost W false)):Calls prog 23 #[hp,o,.agg #[k1,p1,q1,s1,r1]] w (NdPost w (ZZ sBad)):=by
 have Hhun:=zh hun;have HVA:=zh VA;clear hun VA;go_enter func23,ntmps23;go_wp2_with fail
 refine(Hhun.out _).mono ?_;rintro e W0 ⟨rfl,rfl⟩;go_wp2_with fail
 refine(HVA.out _).mono ?_;rintro e w1 ⟨rfl,hb⟩;have Ha1:=hkh hb (Qm _ _ _);have Hu1:=hkh hb (QY _ _ _);have HW1:=hbn (QE _ _ _) hb;have hz1:=hb.size;try simp at hz1
 clear hb;have hyu:=hsz Hu1;obtain⟨u0,u1,u2,u3,u4,u5,u6,u7,u8,u9,u10,u11,u12,u13⟩:=zc14 Hu1;obtain⟨fu0,fu1,fu2,fu3,fu4,fu5,fu6,fu7,fu8,fu9,fu10,fu11,fu12,fu13⟩:=zf14 Hu1;go_wp2_with fail
 refine(J0 _ _).mono ?_;rintro e w2 ⟨av,rfl,hA,hb⟩;obtain⟨ao,an,ac,rfl⟩:=hA.shape;have HA:=zh hA;clear hA;have Ha2:=hkh hb Ha1;have Hu2:=hkh hb Hu1;have HW2:=hbn HW1 hb;have hz2:=hb.size;try simp at hz2
 clear hb;clear hyu u0 fu0 u1 fu1 u2 fu2 u3 fu3 u4 fu4 u5 fu5 u6 fu6 u7 fu7 u8 fu8 u9 fu9 u10 fu10 u11 fu11 u12 fu12 u13 fu13;have hyu:=hsz Hu2;obtain⟨u0,u1,u2,u3,u4,u5,u6,u7,u8,u9,u10,u11,u12,u13⟩:=zc14 Hu2;obtain⟨fu0,fu1,fu2,fu3,fu4,fu5,fu6,fu7,fu8,fu9,fu10,fu11,fu12,fu13⟩:=zf14 Hu2;go_wp2;refine zr (by simp[results,results23,go_sem,hyu,u0,u1,u2,u3,u4,u5,u6,u7,u8,u9,u10,u11,u12,u13]<;>rfl) ?_;exact Qx (r:=w.heap.size+1) (base:=w1.heap.size) HW2.out (by simpa using HA.out) (by omega) (by omega) (by omega) (QP (F:=fun b=>b=w.heap.size+1) (Mods.refl _ _) (.inl rfl) _ _ _ _ _ _ _ _ _ _ _ _ _ _)
theorem NO (hun:∀W,Calls prog 46 #[o] W fun e w'=>e= .returned (.bool true)/\W=w') (VA:∀W,Calls prog 26 #[.agg #[k1,p1,q1,s1,r1]] W (BoolPost W true)) (h22:(o==22)=true) (n:Nd) (OP:∀W,Below w w W->Calls prog 80 #[hp,.agg #[k1,p1,q1,s1,r1]] W (NdPost W n)):Calls prog 23 #[hp,o,.agg #[k1,p1,q1,s1,r1]] w (NdPost w (n)):=by
 have Hhun:=zh hun;have HVA:=zh VA;have HOP:=zh OP;clear hun VA OP;go_enter func23,ntmps23;go_wp2_with fail
 refine(Hhun.out _).mono ?_;rintro e W0 ⟨rfl,rfl⟩;go_wp2_with fail
 refine(HVA.out _).mono ?_;rintro e w1 ⟨rfl,hb⟩;have Ha1:=hkh hb (Qm _ _ _);have Hu1:=hkh hb (QY _ _ _);have HW1:=hbn (QE _ _ _) hb;have hz1:=hb.size;try simp at hz1
 clear hb;have hya:=hsz Ha1;obtain⟨a0,a1,a2,a3,a4⟩:=zc5 Ha1;go_wp2_with fail
 refine(HOP.out _ HW1.out).mono ?_;rintro e w2 ⟨av,rfl,hA,hb⟩;obtain⟨ao,an,ac,rfl⟩:=hA.shape;have HA:=zh hA;clear hA;have Ha2:=hkh hb Ha1;have Hu2:=hkh hb Hu1;have HW2:=hbn HW1 hb;have hz2:=hb.size;try simp at hz2
 clear hb;clear hya a0 a1 a2 a3 a4;have hyu:=hsz Hu2;obtain⟨u0,u1,u2,u3,u4,u5,u6,u7,u8,u9,u10,u11,u12,u13⟩:=zc14 Hu2;obtain⟨fu0,fu1,fu2,fu3,fu4,fu5,fu6,fu7,fu8,fu9,fu10,fu11,fu12,fu13⟩:=zf14 Hu2;go_wp2;refine zr (by simp[results,results23,go_sem,hyu,u0,u1,u2,u3,u4,u5,u6,u7,u8,u9,u10,u11,u12,u13]<;>rfl) ?_;exact Qx (r:=w.heap.size+1) (base:=w1.heap.size) HW2.out (by simpa using HA.out) (by omega) (by omega) (by omega) (QP (F:=fun b=>b=w.heap.size+1) (Mods.refl _ _) (.inl rfl) _ _ _ _ _ _ _ _ _ _ _ _ _ _)
theorem Fs (hun:∀W,Calls prog 46 #[o] W fun e w'=>e= .returned (.bool true)/\W=w') (VA:∀W,Calls prog 26 #[.agg #[k1,p1,q1,s1,r1]] W (BoolPost W true)) (h22:(o==22)=false) (n:Nd) (OP:∀W,Below w w W->Calls prog 76 #[hp,o,.agg #[k1,p1,q1,s1,r1],.agg #[k1,p1,q1,s1,r1],.int .i64 1] W (NdPost W n)):Calls prog 23 #[hp,o,.agg #[k1,p1,q1,s1,r1]] w (NdPost w (n)):=by
 have Hhun:=zh hun;have HVA:=zh VA;have HOP:=zh OP;clear hun VA OP;go_enter func23,ntmps23;go_wp2_with fail
 refine(Hhun.out _).mono ?_;rintro e W0 ⟨rfl,rfl⟩;go_wp2_with fail
 refine(HVA.out _).mono ?_;rintro e w1 ⟨rfl,hb⟩;have Ha1:=hkh hb (Qm _ _ _);have Hu1:=hkh hb (QY _ _ _);have HW1:=hbn (QE _ _ _) hb;have hz1:=hb.size;try simp at hz1
 clear hb;have hya:=hsz Ha1;obtain⟨a0,a1,a2,a3,a4⟩:=zc5 Ha1;go_wp2_with fail
 refine(HOP.out _ HW1.out).mono ?_;rintro e w2 ⟨av,rfl,hA,hb⟩;obtain⟨ao,an,ac,rfl⟩:=hA.shape;have HA:=zh hA;clear hA;have Ha2:=hkh hb Ha1;have Hu2:=hkh hb Hu1;have HW2:=hbn HW1 hb;have hz2:=hb.size;try simp at hz2
 clear hb;clear hya a0 a1 a2 a3 a4;have hyu:=hsz Hu2;obtain⟨u0,u1,u2,u3,u4,u5,u6,u7,u8,u9,u10,u11,u12,u13⟩:=zc14 Hu2;obtain⟨fu0,fu1,fu2,fu3,fu4,fu5,fu6,fu7,fu8,fu9,fu10,fu11,fu12,fu13⟩:=zf14 Hu2;go_wp2;refine zr (by simp[results,results23,go_sem,hyu,u0,u1,u2,u3,u4,u5,u6,u7,u8,u9,u10,u11,u12,u13]<;>rfl) ?_;exact Qx (r:=w.heap.size+1) (base:=w1.heap.size) HW2.out (by simpa using HA.out) (by omega) (by omega) (by omega) (QP (F:=fun b=>b=w.heap.size+1) (Mods.refl _ _) (.inl rfl) _ _ _ _ _ _ _ _ _ _ _ _ _ _)
theorem L2 (hand:V->ByteArray->V) (HH:∀W,Below w w W->∀(k p q:Int) (s:ByteArray) (r:Int) (ev:ByteArray),i64 r->ev.size<=4096->Calls prog 125 #[hp,.agg #[k,p,q,s,r],ev] W (ValPost W (hand ⟨k,p,q,s,r⟩ ev))) (o:Int) (k1 p1 q1:Int) (s1:ByteArray) (r1:Int) (hk1:i64 k1) (hr1:i64 r1)
  (HL:k1=4->∃c:Nat,∀W,Below w w W->Calls prog 134 #[hp,.agg #[k1,p1,q1,s1,r1]] W (PtrPost W (.tuple #[.int .i64 0,.int .i64 (c:Nat)]))):
  Calls prog 23 #[hp,o,.agg #[k1,p1,q1,s1,r1]] w (NdPost w (Kl hand o ⟨k1,p1,q1,s1,r1⟩)):=by
 have VA:=fun W=>JW W k1 p1 q1 s1 r1;have UN:=fun W=>T7 W o;unfold Kl;by_cases hun:20<=o/\o<=23
 rotate_left
 ·rw[if_pos (.inl hun)];rw[show decide (20<=o/\o<=23)=false by rw[decide_eq_false_iff_not];exact hun] at UN;exact NP w hp o k1 p1 q1 s1 r1 UN
 rw[show decide (20<=o/\o<=23)=true by rw[decide_eq_true_eq];exact hun] at UN;cases hv1:Qt ⟨k1,p1,q1,s1,r1⟩ with
 |false=>
  rw[hv1] at VA;rw[if_pos (.inr rfl)];exact Ft w hp o k1 p1 q1 s1 r1 UN VA
 |true=>
  rw[hv1] at VA;have hs1:s1.size<=2000000000:=Nat.le_trans (ZU hv1) (by omega);rw[if_neg (by rintro(h|h);exact h hun;cases h)];by_cases h22:o=22
  ·rw[if_pos h22];exact NO w hp o k1 p1 q1 s1 r1 UN VA (beq_iff_eq.2 h22) _ (fun W hb=>Of W hp hand k1 p1 q1 s1 r1 hk1 (fun W' hb'=>HH W' (QC hb hb') k1 p1 q1 s1 r1 (Q6 22) hr1 (JD 22)) (fun h4=>by obtain⟨c,hc⟩:=HL h4;exact⟨c,fun W' hb'=>hc W' (QC hb hb')⟩))
  ·rw[if_neg h22];have hP:Ze o ⟨k1,p1,q1,s1,r1⟩ ⟨k1,p1,q1,s1,r1⟩=Ze o ⟨k1,p1,q1,s1,r1⟩ V.nil:=CL hun.1 _ _ _;rw[<-hP];exact Fs w hp o k1 p1 q1 s1 r1 UN VA (beq_eq_false_iff_ne.2 h22) _ (fun W hb=>Fv W hp hand (fun W' hb'=>HH W' (QC hb hb')) o k1 p1 q1 s1 r1 k1 p1 q1 s1 r1 hr1 hr1 hs1 hs1 _ rfl (fun c hc=>Jr (by omega) hv1 (fun _=>hv1) hc) (fun h=>AF (by omega) (by omega) (by omega) (by omega) h22 (by omega) (by omega) hv1 (fun _=>hv1) h) 1 (if_neg (by omega)).symm)
end Go.Proofs.YthkpckgcgkijbaaGreatDoor
