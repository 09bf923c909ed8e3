import Derived.Test.YthkpckgcgkijbaaGreatDoorLwA
import Derived.Test.YthkpckgcgkijbaaGreatDoorTexC
set_option linter.unusedVariables false
set_option linter.unusedSimpArgs false
set_option maxRecDepth 100000
set_option maxHeartbeats 2000000
namespace Go.Proofs.YthkpckgcgkijbaaGreatDoor
open Go.RowKit Go.Proofs.Lexi Go.Proofs.Tryz
theorem OE (w:World) (s:ByteArray):Calls prog 135 #[s] w (NdPost w (ZZ s)):=by
 go_enter func135,ntmps135;go_wp2;refine zr (by simp[results,results135,go_sem]<;>rfl) ?_;exact⟨.slice none 0 0,rfl,.inl ⟨rfl,rfl⟩,by first|exact Qf _ _|trace_state⟩
theorem BL (w:World) (k1 p1 q1:Int) (s1:ByteArray) (r1:Int):Calls prog 132 #[.agg #[k1,p1,q1,s1,r1]] w (NdPost w (Zz ⟨k1,p1,q1,s1,r1⟩)):=by
 go_enter func132,ntmps132;go_wp2;refine zr (by simp[results,results132,go_sem]<;>rfl) ?_;exact⟨.slice none 0 0,rfl,.inl ⟨rfl,rfl⟩,by first|exact QE _ _ _|trace_state⟩
theorem ND (w:World) (base g:Nat) (hbase:base<=g) (k1 p1 q1:Int) (s1:ByteArray) (r1:Int) (af:Int) (a b:V) (ha:w.heap[g]? =some (.cells #[.int .i64 a.k,.int .i64 a.p,.int .i64 a.q,.string a.s,.int .i64 a.r,.int .i64 b.k,.int .i64 b.p,.int .i64 b.q,.string b.s,.int .i64 b.r] 25)):
  Calls prog 133 #[.agg #[k1,p1,q1,s1,r1],af,.slice (some g) 2 2] w (fun e w'=>∃av,e= .returned (ndV (Zr ⟨k1,p1,q1,s1,r1⟩ [a,b] af) av)/\ArgsAt w' base av [a,b]/\Below w w w'):=by
 have HA:=zh ha;clear ha;go_enter func133,ntmps133;go_wp2;refine zr (by simp[results,results133,go_sem]<;>rfl) ?_;exact⟨_,rfl,.inr ⟨g,a,b,rfl,rfl,hbase,QL (QE _ _ _) HA.out⟩,QE _ _ _⟩
theorem F3 (w:World) (hp:Value) (k1 p1 q1:Int) (s1:ByteArray) (r1:Int) (hk:(k1==3)=true):Calls prog 80 #[hp,.agg #[k1,p1,q1,s1,r1]] w (NdPost w (Zz (Xl (s1.size:Int)))):=by
 go_enter func80,ntmps80;go_wp2_with fail
 refine(EF _ _).mono ?_;rintro e w1 ⟨rfl,hb⟩;have Ha1:=hkh hb (Qm _ _ _);have Hu1:=hkh hb (QY _ _ _);have HW1:=hbn (QE _ _ _) hb;have hz1:=hb.size;try simp at hz1
 clear hb;have hyu:=hsz Hu1;obtain⟨u0,u1,u2,u3,u4,u5,u6,u7,u8,u9,u10,u11,u12,u13⟩:=zc14 Hu1;obtain⟨fu0,fu1,fu2,fu3,fu4,fu5,fu6,fu7,fu8,fu9,fu10,fu11,fu12,fu13⟩:=zf14 Hu1;go_wp2_with fail
 refine(BL _ _ _ _ _ _).mono ?_;rintro e w2 ⟨av,rfl,hA,hb⟩;obtain⟨ao,an,ac,rfl⟩:=hA.shape;have HA:=zh hA;clear hA;have Ha2:=hkh hb Ha1;have Hu2:=hkh hb Hu1;have HW2:=hbn HW1 hb;have hz2:=hb.size;try simp at hz2
 clear hb;clear hyu u0 fu0 u1 fu1 u2 fu2 u3 fu3 u4 fu4 u5 fu5 u6 fu6 u7 fu7 u8 fu8 u9 fu9 u10 fu10 u11 fu11 u12 fu12 u13 fu13;have hyu:=hsz Hu2;obtain⟨u0,u1,u2,u3,u4,u5,u6,u7,u8,u9,u10,u11,u12,u13⟩:=zc14 Hu2;obtain⟨fu0,fu1,fu2,fu3,fu4,fu5,fu6,fu7,fu8,fu9,fu10,fu11,fu12,fu13⟩:=zf14 Hu2;go_wp2;refine zr (by simp[results,results80,go_sem,hyu,u0,u1,u2,u3,u4,u5,u6,u7,u8,u9,u10,u11,u12,u13]<;>rfl) ?_;exact Qx (r:=w.heap.size+1) HW2.out HA.out (by omega) (by omega) (by omega) (QP (F:=fun b=>b=w.heap.size+1) (Mods.refl _ _) (.inl rfl) _ _ _ _ _ _ _ _ _ _ _ _ _ _)
theorem DT (w:World) (hp:Value) (k1 p1 q1:Int) (s1:ByteArray) (r1:Int) (mk mp mq:Int) (ms:ByteArray) (mr:Int) (hk:(k1==3)=false) (hm:(mk !=0)=true) (HH:∀W,Below w w W->Calls prog 125 #[hp,.agg #[k1,p1,q1,s1,r1],.string ⟨#[95,95,108,101,110]⟩] W (ValPost W ⟨mk,mp,mq,ms,mr⟩)):Calls prog 80 #[hp,.agg #[k1,p1,q1,s1,r1]] w (NdPost w (Zr ⟨mk,mp,mq,ms,mr⟩ [⟨k1,p1,q1,s1,r1⟩,⟨k1,p1,q1,s1,r1⟩] 1)):=by
 have HHH:=zh HH;clear HH;go_enter func80,ntmps80;go_wp2_with fail
 refine(HHH.out _ (QE _ _ _)).mono ?_;rintro e w1 ⟨rfl,hb⟩;have Ha1:=hkh hb (Qm _ _ _);have Hu1:=hkh hb (QY _ _ _);have HW1:=hbn (QE _ _ _) hb;have hz1:=hb.size;try simp at hz1
 clear hb;have hya:=hsz Ha1;obtain⟨a0,a1,a2,a3,a4⟩:=zc5 Ha1;have hyu:=hsz Hu1;obtain⟨u0,u1,u2,u3,u4,u5,u6,u7,u8,u9,u10,u11,u12,u13⟩:=zc14 Hu1;obtain⟨fu0,fu1,fu2,fu3,fu4,fu5,fu6,fu7,fu8,fu9,fu10,fu11,fu12,fu13⟩:=zf14 Hu1;go_wp2_with fail
 refine(ND _ w1.heap.size (w1.heap.size+1) (by omega) mk mp mq ms mr 1 ⟨k1,p1,q1,s1,r1⟩ ⟨k1,p1,q1,s1,r1⟩ (QY _ _ _)).mono ?_;rintro e w2 ⟨av,rfl,hA,hb⟩;obtain⟨ao,an,ac,rfl⟩:=hA.shape;have HA:=zh hA;have Hu2:=hkh hb (Qs Hu1.out _ _);have HW2:=hbn ((HW1.out.alloc HW1.out.size _).alloc (by have:=HW1.out.size;simp;omega) _) hb;have hz2:=hb.size;try simp at hz2
 clear hA hb;clear hya a0 a1 a2 a3 a4 hyu u0 fu0 u1 fu1 u2 fu2 u3 fu3 u4 fu4 u5 fu5 u6 fu6 u7 fu7 u8 fu8 u9 fu9 u10 fu10 u11 fu11 u12 fu12 u13 fu13;have hyu:=hsz Hu2;obtain⟨u0,u1,u2,u3,u4,u5,u6,u7,u8,u9,u10,u11,u12,u13⟩:=zc14 Hu2;obtain⟨fu0,fu1,fu2,fu3,fu4,fu5,fu6,fu7,fu8,fu9,fu10,fu11,fu12,fu13⟩:=zf14 Hu2;go_wp2;refine zr (by simp[results,results80,go_sem,hyu,u0,u1,u2,u3,u4,u5,u6,u7,u8,u9,u10,u11,u12,u13]<;>rfl) ?_;exact Qx (r:=w.heap.size+1) HW2.out HA.out (by omega) (by omega) (by omega) (QP (F:=fun b=>b=w.heap.size+1) (Mods.refl _ _) (.inl rfl) _ _ _ _ _ _ _ _ _ _ _ _ _ _)
theorem F1 (w:World) (hp:Value) (k1 p1 q1:Int) (s1:ByteArray) (r1:Int) (mk mp mq:Int) (ms:ByteArray) (mr:Int) (hk:(k1==3)=false) (hk4:(k1==4)=true) (hm:(mk !=0)=false) (HH:∀W,Below w w W->Calls prog 125 #[hp,.agg #[k1,p1,q1,s1,r1],.string ⟨#[95,95,108,101,110]⟩] W (ValPost W ⟨mk,mp,mq,ms,mr⟩)) (c:Nat) (HL:∀W,Below w w W->Calls prog 134 #[hp,.agg #[k1,p1,q1,s1,r1]] W (PtrPost W (.tuple #[.int .i64 0,.int .i64 (c:Nat)]))):Calls prog 80 #[hp,.agg #[k1,p1,q1,s1,r1]] w (NdPost w (Zz (Xl 0))):=by
 have HHH:=zh HH;have HHL:=zh HL;clear HH HL;go_enter func80,ntmps80;go_wp2_with fail
 refine(HHH.out _ (QE _ _ _)).mono ?_;rintro e w1 ⟨rfl,hb⟩;have Ha1:=hkh hb (Qm _ _ _);have Hu1:=hkh hb (QY _ _ _);have HW1:=hbn (QE _ _ _) hb;have hz1:=hb.size;try simp at hz1
 clear hb;have hya:=hsz Ha1;obtain⟨a0,a1,a2,a3,a4⟩:=zc5 Ha1;have hyu:=hsz Hu1;obtain⟨u0,u1,u2,u3,u4,u5,u6,u7,u8,u9,u10,u11,u12,u13⟩:=zc14 Hu1;obtain⟨fu0,fu1,fu2,fu3,fu4,fu5,fu6,fu7,fu8,fu9,fu10,fu11,fu12,fu13⟩:=zf14 Hu1;go_wp2_with fail
 refine(HHL.out _ (HW1.out.alloc HW1.out.size (oV mk mp mq ms mr))).mono ?_;rintro e w2 ⟨rfl,hb⟩;have Hu2:=hkh hb (QI Hu1.out _);have HW2:=hbn (HW1.out.alloc HW1.out.size (oV mk mp mq ms mr)) hb;have hz2:=hb.size;try simp at hz2
 clear hb;clear hya a0 a1 a2 a3 a4 hyu u0 fu0 u1 fu1 u2 fu2 u3 fu3 u4 fu4 u5 fu5 u6 fu6 u7 fu7 u8 fu8 u9 fu9 u10 fu10 u11 fu11 u12 fu12 u13 fu13;go_wp2_with fail
 refine(EF _ _).mono ?_;rintro e w3 ⟨rfl,hb⟩;have Hu3:=hkh hb Hu2;have HW3:=hbn HW2 hb;have hz3:=hb.size;try simp at hz3
 clear hb;go_wp2_with fail
 refine(BL _ _ _ _ _ _).mono ?_;rintro e w4 ⟨av,rfl,hA,hb⟩;obtain⟨ao,an,ac,rfl⟩:=hA.shape;have HA:=zh hA;clear hA;have Hu4:=hkh hb Hu3;have HW4:=hbn HW3 hb;have hz4:=hb.size;try simp at hz4
 clear hb;have hyu:=hsz Hu4;obtain⟨u0,u1,u2,u3,u4,u5,u6,u7,u8,u9,u10,u11,u12,u13⟩:=zc14 Hu4;obtain⟨fu0,fu1,fu2,fu3,fu4,fu5,fu6,fu7,fu8,fu9,fu10,fu11,fu12,fu13⟩:=zf14 Hu4;go_wp2;refine zr (by simp[results,results80,go_sem,hyu,u0,u1,u2,u3,u4,u5,u6,u7,u8,u9,u10,u11,u12,u13]<;>rfl) ?_;exact Qx (r:=w.heap.size+1) HW4.out HA.out (by omega) (by omega) (by omega) (QP (F:=fun b=>b=w.heap.size+1) (Mods.refl _ _) (.inl rfl) _ _ _ _ _ _ _ _ _ _ _ _ _ _)
theorem F4 (w:World) (hp:Value) (k1 p1 q1:Int) (s1:ByteArray) (r1:Int) (mk mp mq:Int) (ms:ByteArray) (mr:Int) (hk:(k1==3)=false) (hk4:(k1==4)=false) (hki:i64 k1) (hm:(mk !=0)=false) (HH:∀W,Below w w W->Calls prog 125 #[hp,.agg #[k1,p1,q1,s1,r1],.string ⟨#[95,95,108,101,110]⟩] W (ValPost W ⟨mk,mp,mq,ms,mr⟩)):Calls prog 80 #[hp,.agg #[k1,p1,q1,s1,r1]] w (NdPost w (ZZ (sLenOf++Zg k1++sValue))):=by
 have HHH:=zh HH;have Hhki:=zh hki;clear HH hki;go_enter func80,ntmps80;go_wp2_with fail
 refine(HHH.out _ (QE _ _ _)).mono ?_;rintro e w1 ⟨rfl,hb⟩;have Ha1:=hkh hb (Qm _ _ _);have Hu1:=hkh hb (QY _ _ _);have HW1:=hbn (QE _ _ _) hb;have hz1:=hb.size;try simp at hz1
 clear hb;have hya:=hsz Ha1;obtain⟨a0,a1,a2,a3,a4⟩:=zc5 Ha1;have hyu:=hsz Hu1;obtain⟨u0,u1,u2,u3,u4,u5,u6,u7,u8,u9,u10,u11,u12,u13⟩:=zc14 Hu1;obtain⟨fu0,fu1,fu2,fu3,fu4,fu5,fu6,fu7,fu8,fu9,fu10,fu11,fu12,fu13⟩:=zf14 Hu1;go_wp2_with fail
 refine(Fu _ k1 p1 q1 s1 r1).mono ?_;rintro e w2 ⟨rfl,hb⟩;have Hu2:=hkh hb (QI Hu1.out _);have HW2:=hbn (HW1.out.alloc HW1.out.size (oV mk mp mq ms mr)) hb;have hz2:=hb.size;try simp at hz2
 clear hb;clear hya a0 a1 a2 a3 a4 hyu u0 fu0 u1 fu1 u2 fu2 u3 fu3 u4 fu4 u5 fu5 u6 fu6 u7 fu7 u8 fu8 u9 fu9 u10 fu10 u11 fu11 u12 fu12 u13 fu13;have hts:=Qw k1;go_wp2_with fail
 refine(OE _ _).mono ?_;rintro e w3 ⟨av,rfl,hA,hb⟩;obtain⟨ao,an,ac,rfl⟩:=hA.shape;have HA:=zh hA;clear hA;have Hu3:=hkh hb Hu2;have HW3:=hbn HW2 hb;have hz3:=hb.size;try simp at hz3
 clear hb;have hyu:=hsz Hu3;obtain⟨u0,u1,u2,u3,u4,u5,u6,u7,u8,u9,u10,u11,u12,u13⟩:=zc14 Hu3;obtain⟨fu0,fu1,fu2,fu3,fu4,fu5,fu6,fu7,fu8,fu9,fu10,fu11,fu12,fu13⟩:=zf14 Hu3;go_wp2;refine zr (by simp[results,results80,go_sem,hyu,u0,u1,u2,u3,u4,u5,u6,u7,u8,u9,u10,u11,u12,u13]<;>rfl) ?_;exact Qx (r:=w.heap.size+1) HW3.out HA.out (by omega) (by omega) (by omega) (QP (F:=fun b=>b=w.heap.size+1) (Mods.refl _ _) (.inl rfl) _ _ _ _ _ _ _ _ _ _ _ _ _ _)
theorem Of (w:World) (hp:Value) (hand:V->ByteArray->V) (k1 p1 q1:Int) (s1:ByteArray) (r1:Int) (hki:i64 k1) (HH:∀W,Below w w W->Calls prog 125 #[hp,.agg #[k1,p1,q1,s1,r1],.string ⟨#[95,95,108,101,110]⟩] W (ValPost W (hand ⟨k1,p1,q1,s1,r1⟩ (Q6 22))))
  (HL:k1=4->∃c:Nat,∀W,Below w w W->Calls prog 134 #[hp,.agg #[k1,p1,q1,s1,r1]] W (PtrPost W (.tuple #[.int .i64 0,.int .i64 (c:Nat)]))):
  Calls prog 80 #[hp,.agg #[k1,p1,q1,s1,r1]] w (NdPost w (RV hand ⟨k1,p1,q1,s1,r1⟩)):=by
 unfold RV;obtain⟨⟨mk,mp,mq,ms,mr⟩,hM⟩:∃M,hand ⟨k1,p1,q1,s1,r1⟩ (Q6 22)=M:=⟨_,rfl⟩
 rw[hM] at HH ⊢;by_cases h3:k1=3
 ·rw[if_pos h3];exact F3 w hp k1 p1 q1 s1 r1 (beq_iff_eq.2 h3)
 ·rw[if_neg h3];have h3':=beq_eq_false_iff_ne.2 h3;by_cases hm:mk=0
  ·rw[if_neg (fun h=>h hm)];have hm':(mk !=0)=false:=by rw[bne_eq_false_iff_eq];exact hm
   by_cases h4:k1=4
   ·rw[if_pos h4];obtain⟨c,hc⟩:=HL h4;exact F1 w hp k1 p1 q1 s1 r1 mk mp mq ms mr h3' (beq_iff_eq.2 h4) hm' HH c hc
   ·rw[if_neg h4];exact F4 w hp k1 p1 q1 s1 r1 mk mp mq ms mr h3' (beq_eq_false_iff_ne.2 h4) hki hm' HH
  ·rw[if_pos hm];exact DT w hp k1 p1 q1 s1 r1 mk mp mq ms mr h3' (by rw[bne_iff_ne];exact hm) HH
end Go.Proofs.YthkpckgcgkijbaaGreatDoor
