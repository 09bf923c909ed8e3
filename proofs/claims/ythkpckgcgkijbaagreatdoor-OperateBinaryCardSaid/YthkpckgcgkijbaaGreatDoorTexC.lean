import Derived.Test.YthkpckgcgkijbaaGreatDoorOpD
import Derived.Test.YthkpckgcgkijbaaGreatDoorNumU
set_option linter.unusedVariables false
set_option linter.unusedSimpArgs false
set_option maxRecDepth 100000
set_option maxHeartbeats 2000000
namespace Go.Proofs.YthkpckgcgkijbaaGreatDoor
open Go.RowKit Go.Proofs.Lexi Go.Proofs.Tryz
theorem Bm (w:World) (p q:Int):Calls prog 156 #[.agg #[p,q]] w (StrB w (GT (p,q))):=by
 have HB:=zh (Qj w (o2 p q));obtain⟨R,hR⟩:∃R,R=GT (p,q):=⟨_,rfl⟩
 rw[<-hR];have HV:=zh (fun W=>Q7 W p q);obtain⟨V,hV⟩:∃V,QT (p,q)=V:=⟨_,rfl⟩
 rw[hV] at HV;cases V with
 |false=>
  have HR:=zh (show R=⟨#[110,97,110]⟩ from by rw[hR];unfold GT;rw[hV];rfl);clear hR hV;go_enter func156,ntmps156;go_wp2_with fail
  refine(HV.out _).mono ?_;rintro e w1 ⟨rfl,hb⟩;have HB1:=hbn HB.out hb;clear hb;go_wp2
  go_ret
  exact K7 HR.out HB1.out
 |true=>
  obtain⟨b1,b2,b3,b4⟩:=QO hV;have HDP:=zh (fun W=>UX W p (by omega) (by omega));have HDQ:=zh (fun W=>UX W q (by omega) (by omega));have hzp:=Jm (n:=p) b3 b4;have hzq:=Jm (n:=q) (by omega) b2;by_cases h1:q=1
  ·have HR:=zh (show R=Ju p from by rw[hR];unfold GT;rw[hV,if_pos rfl,if_pos h1]);have hq1:(q==1)=true:=by rw[beq_iff_eq];exact h1
   clear hR hV h1;go_enter func156,ntmps156;go_wp2_with fail
   refine(HV.out _).mono ?_;rintro e w1 ⟨rfl,hb⟩;obtain⟨hc,hf⟩:=QN hb;have c0:w1.cell? w=some (.int .i64 p):=(hc _ _ (by simp)).trans (by simp[go_sem]);have c1:w1.cell? ⟨w,1,none⟩=some (.int .i64 q):=(hc _ _ (by simp)).trans (by simp[go_sem]);have HB1:=hbn HB.out hb;clear hb hc hf;go_wp2_with fail
   refine(HDP.out _).mono ?_;rintro e w2 ⟨rfl,hb⟩;have HB2:=hbn HB1.out hb;clear hb;go_wp2
   go_ret
   exact K7 HR.out HB2.out
  ·have HR:=zh (show R=Ju p++slashB++Ju q from by rw[hR];unfold GT;rw[hV,if_pos rfl,if_neg h1]);have hq1:(q==1)=false:=by rw[beq_eq_false_iff_ne];exact h1
   have hss:slashB.size=1:=rfl;have had1:=Jx (Ju p) slashB (by omega);have had2:=Jx (Ju p++slashB) (Ju q) (by rw[ByteArray.size_append];omega);obtain⟨A,hA⟩:∃A,Ju p=A:=⟨_,rfl⟩
   obtain⟨B,hB⟩:∃B,Ju q=B:=⟨_,rfl⟩
   rw[show(⟨(Lib.itoa p).toArray⟩:ByteArray)=A from hA] at HDP;rw[show(⟨(Lib.itoa q).toArray⟩:ByteArray)=B from hB] at HDQ;rw[hA] at had1 had2 HR hzp;rw[hB] at had2 HR hzq;obtain⟨X,hX⟩:∃X,A++slashB=X:=⟨_,rfl⟩
   obtain⟨Y,hY⟩:∃Y,X++B=Y:=⟨_,rfl⟩
   rw[hX] at had1 had2 HR;rw[hY] at had2 HR;have had1:∀W,(Op.stringOp .add A ⟨#[47]⟩).run prog W= .ok (.string X) W:=had1;clear hR hV h1 hA hB hX hY hss;go_enter func156,ntmps156;go_wp2_with fail
   refine(HV.out _).mono ?_;rintro e w1 ⟨rfl,hb⟩;obtain⟨hc,hf⟩:=QN hb;have c0:w1.cell? w=some (.int .i64 p):=(hc _ _ (by simp)).trans (by simp[go_sem]);have c1:w1.cell? ⟨w,1,none⟩=some (.int .i64 q):=(hc _ _ (by simp)).trans (by simp[go_sem]);have HB1:=hbn HB.out hb;have SOF:=zh (fun(W:World) (h:Below w1 w1 W)=>(⟨XB h c0,XB h c1⟩:W.cell? w=some (.int .i64 p)/\W.cell? ⟨w,1,none⟩=some (.int .i64 q)));have D0:=zh (show Below w1 w1 w1.drew from(Below.refl _ _).drew);have NXT:=zh (fun(V W:World) (h1:Below w1 w1 V) (h2:Below V V W)=>h1.trans (h2.mono h1.size));have LAST:=zh (fun(W:World) (h:Below w1 w1 W)=>QC HB1.out h);clear hb hc hf;go_wp2
   go_region_held3 (fun W=>W.cell? w=some (.int .i64 p)/\W.cell? ⟨w,1,none⟩=some (.int .i64 q)) (first|exact SOF.out _ (by assumption)|exact SOF.out _ D0.out) (first|((go_at_call 213;(with_reducible refine(HDP.out _).mono ?_);rintro e W ⟨rfl,hbn⟩;have hW:=NXT.out _ _ (by first|assumption|exact D0.out) hbn;clear hbn))|((go_at_call 213;(with_reducible refine(HDQ.out _).mono ?_);rintro e W ⟨rfl,hbn⟩;have hW:=NXT.out _ _ (by first|assumption|exact D0.out) hbn;clear hbn)))
   go_wp2
   go_ret
   exact K7 HR.out (LAST.out _ (by assumption))
theorem Zk (w:World) (b:Bool):Calls prog 48 #[.bool b] w (ValPost w (JK b)):=by
 cases b
 all_goals
  go_enter func48,ntmps48;go_wp2;refine zr (by simp[results,results48,go_sem]<;>rfl) ?_;exact Qo rfl (Qj _ _)
theorem Fw (w:World) (s:ByteArray):Calls prog 96 #[s] w (ValPost w (KR s)):=by
 go_enter func96,ntmps96;go_wp2;refine zr (by simp[results,results96,go_sem]<;>rfl) ?_;exact Qo rfl (Qj _ _)
theorem EF (w:World) (n:Int):Calls prog 51 #[n] w (ValPost w (Xl n)):=by
 have hw:n< -2147483647\/(¬n< -2147483647/\2147483647<n)\/(¬n< -2147483647/\¬2147483647<n):=by omega
 rcases hw with h|⟨h,h2⟩|⟨h,h2⟩
 ·have HR:=zh (show Xl n=V.nil from by unfold Xl;rw[if_neg];rw[inTop_iff];omega);go_enter func51,ntmps51;go_wp2;refine zr (by simp[results,results51,go_sem]<;>rfl) ?_;exact Qo HR.out (Qj _ _)
 ·have HR:=zh (show Xl n=V.nil from by unfold Xl;rw[if_neg];rw[inTop_iff];omega);go_enter func51,ntmps51;go_wp2;refine zr (by simp[results,results51,go_sem]<;>rfl) ?_;exact Qo HR.out (Qj _ _)
 ·have HR:=zh (show Xl n=⟨2,n,1,⟨#[]⟩,0⟩ from by unfold Xl;rw[if_pos];rw[inTop_iff];omega);go_enter func51,ntmps51;go_wp2;refine zr (by simp[results,results51,go_sem]<;>rfl) ?_;exact Qo HR.out (Qj _ _)
theorem Br (w:World) (k p q:Int) (s:ByteArray) (r:Int):Calls prog 50 #[.agg #[k,p,q,s,r]] w (BoolPost w (YL ⟨k,p,q,s,r⟩)):=by
 obtain⟨R,hR⟩:∃R,R=YL ⟨k,p,q,s,r⟩:=⟨_,rfl⟩
 rw[<-hR];have HR:=zh hR;clear hR;go_enter func50,ntmps50;go_wp2;all_goals
  go_ret
  have h:=HR.out;clear HR;refine Q9 ?_ (by first|exact Qj _ _|exact(Qj _ _).drew|exact below_drewN (Qj _ _) _);subst h;simp_all[YL,bne]
theorem PJ (w:World) (p q:Int):Calls prog 54 #[.agg #[p,q]] w (ValPost w (GP (p,q))):=by
 cases hv:QT (p,q)
 all_goals
  have HV:=zh (fun W=>(hv▸Q7 W p q:Calls prog 81 #[.agg #[p,q]] W (BoolPost W _)));have HW:=zh hv;clear hv;go_enter func54,ntmps54;go_wp2_with fail
  refine(HV.out _).mono ?_;rintro e w1 ⟨rfl,hb⟩;obtain⟨hc,hf⟩:=QN hb;have hz:=hb.size;simp at hz;have c0:w1.cell? w=some (.int .i64 p):=(hc _ _ (by simp<;>omega)).trans (by simp[go_sem]);have c1:w1.cell? ⟨w,1,none⟩=some (.int .i64 q):=(hc _ _ (by simp<;>omega)).trans (by simp[go_sem]);have HB1:=hbn (QE _ _ _) hb;go_wp2;refine zr (by simp[results,results54,go_sem,hc]<;>rfl) ?_;refine Qo (show GP (p,q)=_ from ?_) ?_
  ·unfold GP;rw[HW.out];rfl
  ·first|exact HB1.out|exact QG HB1.out (by simp<;>omega) _ _ _ _ _
theorem OW (w:World) (k p q:Int) (s:ByteArray) (r:Int):Calls prog 95 #[.agg #[k,p,q,s,r]] w (SrPost w (JE ⟨k,p,q,s,r⟩)):=by
 by_cases h3:k=3
 ·subst h3;go_enter func95,ntmps95;go_wp2
  go_ret2
  exact Ll rfl (Qj _ _)
 ·have k3:(k==3)=false:=by rw[beq_eq_false_iff_ne];exact h3
  by_cases h2:k=2
  ·subst h2;cases hv:QT (p,q)
   ·have HV:=zh (fun W=>(hv▸Q7 W p q:Calls prog 81 #[.agg #[p,q]] W (BoolPost W _)));have HR:=zh (show JE ⟨2,p,q,s,r⟩= .error 8 from by show(if QT (p,q) then _ else _)=_;rw[hv];rfl);clear hv h3 k3;go_enter func95,ntmps95;go_wp2_with fail
    refine(HV.out _).mono ?_;rintro e w1 ⟨rfl,hb⟩;have HB1:=hbn (Qj _ _) hb;go_wp2
    go_ret2
    exact T8 HR.out HB1.out
   ·have HV:=zh (fun W=>(hv▸Q7 W p q:Calls prog 81 #[.agg #[p,q]] W (BoolPost W _)));have HR:=zh (show JE ⟨2,p,q,s,r⟩= .ok (GT (p,q)) from by show(if QT (p,q) then _ else _)=_;rw[hv];rfl);clear hv h3 k3;go_enter func95,ntmps95;go_wp2_with fail
    refine(HV.out _).mono ?_;rintro e w1 ⟨rfl,hb⟩;obtain⟨hc,hf⟩:=QN hb;have HB1:=hbn (Qj _ _) hb;go_wp2_with fail
    refine(Bm w1 p q).mono ?_;rintro e w2 ⟨rfl,hb2⟩;have HB2:=hbn HB1 hb2;clear hc hf hb hb2;go_wp2
    go_ret2
    exact Ll HR.out HB2.out
  ·have k2:(k==2)=false:=by rw[beq_eq_false_iff_ne];exact h2
   have HR:=zh (show JE ⟨k,p,q,s,r⟩= .error 8 from by unfold JE;rw[if_neg h3,if_neg h2]);clear h2 h3;go_enter func95,ntmps95;go_wp2
   go_ret2
   exact T8 HR.out (Qj _ _)
theorem On (w:World) (a b:ByteArray) (ha:a.size<=2000000000) (hb:b.size<=2000000000):Calls prog 158 #[a,b] w (PureP w (.bool (Kk a b))):=by
 obtain⟨R,hR⟩:∃R,Jw ((QF a).drop 0) ((QF b).drop 0)=R:=⟨_,rfl⟩
 rw[show Kk a b=R from hR];have HR0:=zh hR;clear hR;go_enter func158,ntmps158;go_wp2
 go_loopg [5] a.size (fun gg v wr=>∃i n:Nat,gg=a.size-i/\v= .int .i64 (i:Int)/\wr=w.drewN n/\i<=a.size/\i<=b.size/\Hid (Jw ((QF a).drop i) ((QF b).drop i)=R))
 case atStart=>exact⟨0,0,rfl,rfl,rfl,Nat.zero_le _,Nat.zero_le _,HR0⟩
 case round=>
  obtain⟨i,n,rfl,rfl,rfl,hia,hib,HI⟩:=hrel;by_cases h1:i<a.size
  ·by_cases h2:i<b.size
   ·have hst:=Tx h1 h2 HI.out;by_cases hc:a[i].toNat=b[i].toNat
    ·have HN:=zh (hst.1 hc);have hcc:((a[i].toNat:Int) !=(b[i].toNat:Int))=false:=by rw[bne_eq_false_iff_eq];omega
     clear hst hc;go_wp2;refine QK mixed (by kernel_rfl) ?_;go_wp2;refine⟨by kernel_rfl,?_⟩;go_wp2
     go_roundg (a.size-(i+1))
     case measure=>omega
     case rel=>exact⟨i+1,_,rfl,rfl,(by first|rfl|simp),by omega,by omega,HN⟩
    ·have HN:=zh (hst.2 hc);have hcc:((a[i].toNat:Int) !=(b[i].toNat:Int))=true:=by rw[bne_iff_ne];omega
     clear hst hc;go_wp2;refine QK mixed (by kernel_rfl) ?_;go_wp2;refine⟨by kernel_rfl,?_⟩;go_wp2;refine QK mixed (by kernel_rfl) ?_;go_wp2;refine⟨by kernel_rfl,?_⟩;go_wp2
     go_ret
     exact⟨Zw HN.out,_,(by first|rfl|simp)⟩
   ·have HN:=zh (Xt (.inr (by omega)) hia hib HI.out);go_wp2
    go_ret
    exact⟨Zw HN.out,_,(by first|rfl|simp)⟩
  ·have HN:=zh (Xt (.inl (by omega)) hia hib HI.out);go_wp2
   go_ret
   exact⟨Zw HN.out,_,(by first|rfl|simp)⟩
theorem OK (w:World) (k1 p1 q1:Int) (s1:ByteArray) (r1:Int) (k2 p2 q2:Int) (s2:ByteArray) (r2:Int) (x1 x2 X:ByteArray) (c1 c2:Int) (R:VR) (h1:∀W,Below w w W->Calls prog 95 #[.agg #[k1,p1,q1,s1,r1]] W (fun e w'=>e= .returned (.tuple #[.string x1,.int .i64 c1])/\Below W W w')) (h2:∀W,Below w w W->Calls prog 95 #[.agg #[k2,p2,q2,s2,r2]] W (fun e w'=>e= .returned (.tuple #[.string x2,.int .i64 c2])/\Below W W w'))
  (had:∀W,(Op.stringOp .add x1 x2).run prog W= .ok (.string X) W) (hx1:x1.size<=2000000000) (hx2:x2.size<=2000000000)
  (hways:((c1 !=0)=true/\R= .error 8)\/((c1 !=0)=false/\(c2 !=0)=true/\R= .error 8)\/((c1 !=0)=false/\(c2 !=0)=false/\4096<x1.size+x2.size/\R= .error 14)\/((c1 !=0)=false/\(c2 !=0)=false/\¬4096<x1.size+x2.size/\R= .ok (KR X))):
  Calls prog 47 #[.agg #[k1,p1,q1,s1,r1],.agg #[k2,p2,q2,s2,r2]] w (VrPost w R):=by
 have H1:=zh h1;have H2:=zh h2;clear h1 h2;rcases hways with⟨e1,hR⟩|⟨e1,e2,hR⟩|⟨e1,e2,e3,hR⟩|⟨e1,e2,e3,hR⟩;all_goals
  have HR:=zh hR;clear hR;go_enter func47,ntmps47;go_wp2_with fail
  refine(H1.out _ (QM _ _ _ _)).mono ?_;rintro e w1 ⟨rfl,hb⟩;have HA:=hkh hb (Qa _ _ _ _);have HB:=hkh hb (QU _ _ _ _);have HW1:=hbn (QM _ _ _ _) hb;have hz:=hb.size;simp at hz;clear hb;obtain⟨b0,b1,b2,b3,b4⟩:=zc5 HA;go_wp2_with fail
  refine(H2.out _ HW1.out).mono ?_;rintro e w2 ⟨rfl,hb⟩;have HB2:=hkh hb HB;have HW2:=hbn HW1 hb;have hz2:=hb.size;clear hb b0 b1 b2 b3 b4
 ·obtain⟨c0,c1,c2,c3,c4⟩:=zc5 HB2;obtain⟨fc0,fc1,fc2,fc3,fc4⟩:=zf5 HB2;go_wp2;refine zr (by simp[results,results47,go_sem,c0,c1,c2,c3,c4]<;>rfl) ?_;exact ZF HR.out (QG HW2.out (by omega) _ _ _ _ _)
 ·obtain⟨c0,c1,c2,c3,c4⟩:=zc5 HB2;obtain⟨fc0,fc1,fc2,fc3,fc4⟩:=zf5 HB2;go_wp2;refine zr (by simp[results,results47,go_sem,c0,c1,c2,c3,c4]<;>rfl) ?_;exact ZF HR.out (QG HW2.out (by omega) _ _ _ _ _)
 ·obtain⟨c0,c1,c2,c3,c4⟩:=zc5 HB2;obtain⟨fc0,fc1,fc2,fc3,fc4⟩:=zf5 HB2;go_wp2;refine zr (by simp[results,results47,go_sem,c0,c1,c2,c3,c4]<;>rfl) ?_;exact ZF HR.out (QG HW2.out (by omega) _ _ _ _ _)
 ·obtain⟨c0,c1,c2,c3,c4⟩:=zc5 HB2;obtain⟨fc0,fc1,fc2,fc3,fc4⟩:=zf5 HB2;go_wp2_with fail
  refine(Fw _ _).mono ?_;rintro e w3 ⟨rfl,hb⟩;have HB3:=hkh hb HB2;have HW3:=hbn HW2 hb;clear hb;clear c0 c1 c2 c3 c4 fc0 fc1 fc2 fc3 fc4;obtain⟨c0,c1,c2,c3,c4⟩:=zc5 HB3;obtain⟨fc0,fc1,fc2,fc3,fc4⟩:=zf5 HB3;go_wp2;refine zr (by simp[results,results47,go_sem,c0,c1,c2,c3,c4]<;>rfl) ?_;exact GJ HR.out rfl (QG HW3.out (by omega) _ _ _ _ _)
theorem OL (w:World) (k1 p1 q1:Int) (s1:ByteArray) (r1:Int) (k2 p2 q2:Int) (s2:ByteArray) (r2:Int) (h1:s1.size<=4096) (h2:s2.size<=4096):
  Calls prog 47 #[.agg #[k1,p1,q1,s1,r1],.agg #[k2,p2,q2,s2,r2]] w (VrPost w (Kj (JE ⟨k1,p1,q1,s1,r1⟩) (JE ⟨k2,p2,q2,s2,r2⟩))):=by
 have e1:=Kt ⟨k1,p1,q1,s1,r1⟩;have e2:=Kt ⟨k2,p2,q2,s2,r2⟩;have z1:=K8 ⟨k1,p1,q1,s1,r1⟩ h1;have z2:=K8 ⟨k2,p2,q2,s2,r2⟩ h2;refine OK w k1 p1 q1 s1 r1 k2 p2 q2 s2 r2 _ _ _ _ _ _ (fun W hW=>OW W k1 p1 q1 s1 r1) (fun W hW=>OW W k2 p2 q2 s2 r2) (Jx _ _ (by omega)) (by omega) (by omega) ?_;rcases Xs (JE ⟨k1,p1,q1,s1,r1⟩) (JE ⟨k2,p2,q2,s2,r2⟩) e1.2 with h|h|h|h|h|h
 ·exact .inl h
 ·exact .inr (.inl h)
 ·exact .inr (.inr (.inl h))
 ·exact .inr (.inr (.inr h))
 ·exact absurd h e1.1
 ·exact absurd h e2.1
theorem X1 (w:World) (o:Int) (k1 p1 q1:Int) (s1:ByteArray) (r1:Int) (k2 p2 q2:Int) (s2:ByteArray) (r2:Int) (R:VR) (g:o<1\/(¬o<1/\23<o)) (hun:∀W,Calls prog 46 #[o] W fun e w'=>e= .returned (.bool false)/\W=w') (hR:R= .error 2):Calls prog 12 #[o,.agg #[k1,p1,q1,s1,r1],.agg #[k2,p2,q2,s2,r2]] w (VrPost w R):=by
 have HPU:=zh hun;clear hun;rcases g with g|⟨g,g2⟩;all_goals
  go_enter func12,ntmps12;go_wp2_with (first|(go_at_call 46;refine(HPU.out _).mono ?_;rintro e w' ⟨rfl,rfl⟩))
  refine zr (by simp[results,results12,go_sem]<;>rfl) ?_;exact ZF hR (by first|exact QM _ _ _ _|exact QG (QM _ _ _ _) (by simp<;>omega) _ _ _ _ _)
theorem XM (w : World) (o : Int) (k1 p1 q1 : Int) (s1 : ByteArray) (r1 : Int) (k2 p2 q2 : Int) (s2 : ByteArray) (r2 : Int) (R : VR) (g1 : 1 <= o) (g2 : o <= 23) (hun : ∀ W, Calls prog 46 #[o] W fun e w' => e = .returned (.bool false) /\ W = w') (hv1 : ∀ W, Calls prog 26 #[.agg #[k1, p1, q1, s1, r1]] W (BoolPost W false))
     (hR : R = .error 2) : Calls prog 12 #[o, .agg #[k1, p1, q1, s1, r1], .agg #[k2, p2, q2, s2, r2]] w (VrPost w R) := by
  have HPU := zh hun
  clear hun
  have HV1 := zh hv1
  clear hv1
  go_enter func12, ntmps12
  go_wp2_with (first | (go_at_call 46; refine (HPU.out _).mono ?_; rintro e w' ⟨rfl, rfl⟩))
  refine (HV1.out _).mono ?_
  rintro e w1 ⟨rfl, hb⟩
  have HA1 := hkh hb (Qi _ _ _ _)
  have HB1 := hkh hb (Qa _ _ _ _)
  have HC1 := hkh hb (QU _ _ _ _)
  have HW1 := hbn (QM _ _ _ _) hb
  have hz1 := hb.size
  simp at hz1
  clear hb
  obtain ⟨c0, c1, c2, c3, c4⟩ := zc5 HC1
  obtain ⟨fc0, fc1, fc2, fc3, fc4⟩ := zf5 HC1
  go_wp2_with (first | (go_at_call 46; refine (HPU.out _).mono ?_; rintro e w' ⟨rfl, rfl⟩))
  refine bodyPost_ret (by simp [results, results12, go_sem, c0, c1, c2, c3, c4]; first | done | rfl) rfl ?_
  exact ZF hR (QG HW1.out (by omega) _ _ _ _ _)
theorem X2 (w : World) (o : Int) (k1 p1 q1 : Int) (s1 : ByteArray) (r1 : Int) (k2 p2 q2 : Int) (s2 : ByteArray) (r2 : Int) (R : VR) (g1 : 1 <= o) (g2 : o <= 23) (hun : ∀ W, Calls prog 46 #[o] W fun e w' => e = .returned (.bool true) /\ W = w') (hv1 : ∀ W, Calls prog 26 #[.agg #[k1, p1, q1, s1, r1]] W (BoolPost W false))
     (hR : R = .error 2) : Calls prog 12 #[o, .agg #[k1, p1, q1, s1, r1], .agg #[k2, p2, q2, s2, r2]] w (VrPost w R) := by
  have HPU := zh hun
  clear hun
  have HV1 := zh hv1
  clear hv1
  go_enter func12, ntmps12
  go_wp2_with (first | (go_at_call 46; refine (HPU.out _).mono ?_; rintro e w' ⟨rfl, rfl⟩))
  refine (HV1.out _).mono ?_
  rintro e w1 ⟨rfl, hb⟩
  have HA1 := hkh hb (Qi _ _ _ _)
  have HB1 := hkh hb (Qa _ _ _ _)
  have HC1 := hkh hb (QU _ _ _ _)
  have HW1 := hbn (QM _ _ _ _) hb
  have hz1 := hb.size
  simp at hz1
  clear hb
  obtain ⟨c0, c1, c2, c3, c4⟩ := zc5 HC1
  obtain ⟨fc0, fc1, fc2, fc3, fc4⟩ := zf5 HC1
  go_wp2_with (first | (go_at_call 46; refine (HPU.out _).mono ?_; rintro e w' ⟨rfl, rfl⟩))
  refine bodyPost_ret (by simp [results, results12, go_sem, c0, c1, c2, c3, c4]; first | done | rfl) rfl ?_
  exact ZF hR (QG HW1.out (by omega) _ _ _ _ _)
theorem Fk (w : World) (o : Int) (k1 p1 q1 : Int) (s1 : ByteArray) (r1 : Int) (k2 p2 q2 : Int) (s2 : ByteArray) (r2 : Int) (R : VR) (g1 : 1 <= o) (g2 : o <= 23) (hun : ∀ W, Calls prog 46 #[o] W fun e w' => e = .returned (.bool false) /\ W = w') (hv1 : ∀ W, Calls prog 26 #[.agg #[k1, p1, q1, s1, r1]] W (BoolPost W true)) (hv2 : ∀ W, Calls prog 26 #[.agg #[k2, p2, q2, s2, r2]] W (BoolPost W false))
     (hR : R = .error 2) : Calls prog 12 #[o, .agg #[k1, p1, q1, s1, r1], .agg #[k2, p2, q2, s2, r2]] w (VrPost w R) := by
  have HPU := zh hun
  clear hun
  have HV1 := zh hv1
  clear hv1
  have HV2 := zh hv2
  clear hv2
  go_enter func12, ntmps12
  go_wp2_with (first | (go_at_call 46; refine (HPU.out _).mono ?_; rintro e w' ⟨rfl, rfl⟩))
  refine (HV1.out _).mono ?_
  rintro e w1 ⟨rfl, hb⟩
  have HA1 := hkh hb (Qi _ _ _ _)
  have HB1 := hkh hb (Qa _ _ _ _)
  have HC1 := hkh hb (QU _ _ _ _)
  have HW1 := hbn (QM _ _ _ _) hb
  have hz1 := hb.size
  simp at hz1
  clear hb
  obtain ⟨b0, b1, b2, b3, b4⟩ := zc5 HB1
  go_wp2_with (first | (go_at_call 46; refine (HPU.out _).mono ?_; rintro e w' ⟨rfl, rfl⟩))
  refine (HV2.out _).mono ?_
  rintro e w2 ⟨rfl, hb⟩
  have HA2 := hkh hb HA1
  have HB2 := hkh hb HB1
  have HC2 := hkh hb HC1
  have HW2 := hbn HW1 hb
  have hz2 := hb.size
  clear hb b0 b1 b2 b3 b4
  obtain ⟨c0, c1, c2, c3, c4⟩ := zc5 HC2
  obtain ⟨fc0, fc1, fc2, fc3, fc4⟩ := zf5 HC2
  go_wp2_with (first | (go_at_call 46; refine (HPU.out _).mono ?_; rintro e w' ⟨rfl, rfl⟩))
  refine bodyPost_ret (by simp [results, results12, go_sem, c0, c1, c2, c3, c4]; first | done | rfl) rfl ?_
  exact ZF hR (QG HW2.out (by omega) _ _ _ _ _)
theorem Us (w:World) (o:Int) (k1 p1 q1:Int) (s1:ByteArray) (r1:Int) (k2 p2 q2:Int) (s2:ByteArray) (r2:Int) (R:VR) (g1:1<=o) (g2:o<=23) (hun:∀W,Calls prog 46 #[o] W fun e w'=>e= .returned (.bool false)/\W=w') (hv1:∀W,Calls prog 26 #[.agg #[k1,p1,q1,s1,r1]] W (BoolPost W true)) (hv2:∀W,Calls prog 26 #[.agg #[k2,p2,q2,s2,r2]] W (BoolPost W true))
  (t8:(o==8)=true) (hc:∀W,Calls prog 47 #[.agg #[k1,p1,q1,s1,r1],.agg #[k2,p2,q2,s2,r2]] W (VrPost W R)):Calls prog 12 #[o,.agg #[k1,p1,q1,s1,r1],.agg #[k2,p2,q2,s2,r2]] w (VrPost w R):=by
 have HPU:=zh hun;clear hun;have HV1:=zh hv1;clear hv1;have HV2:=zh hv2;clear hv2;go_enter func12,ntmps12;go_wp2_with (first|(go_at_call 46;refine(HPU.out _).mono ?_;rintro e w' ⟨rfl,rfl⟩))
 refine(HV1.out _).mono ?_;rintro e w1 ⟨rfl,hb⟩;have HA1:=hkh hb (Qi _ _ _ _);have HB1:=hkh hb (Qa _ _ _ _);have HC1:=hkh hb (QU _ _ _ _);have HW1:=hbn (QM _ _ _ _) hb;have hz1:=hb.size;simp at hz1;clear hb;obtain⟨b0,b1,b2,b3,b4⟩:=zc5 HB1;go_wp2_with (first|(go_at_call 46;refine(HPU.out _).mono ?_;rintro e w' ⟨rfl,rfl⟩))
 refine(HV2.out _).mono ?_;rintro e w2 ⟨rfl,hb⟩;have HA2:=hkh hb HA1;have HB2:=hkh hb HB1;have HC2:=hkh hb HC1;have HW2:=hbn HW1 hb;have hz2:=hb.size;clear hb b0 b1 b2 b3 b4;obtain⟨a0,a1,a2,a3,a4⟩:=zc5 HA2;obtain⟨b0,b1,b2,b3,b4⟩:=zc5 HB2;go_wp2_with (first|(go_at_call 46;refine(HPU.out _).mono ?_;rintro e w' ⟨rfl,rfl⟩))
 refine(hc _).mono ?_;rintro e w9 ⟨rfl,hb⟩;have HC9:=hkh hb HC2;have HW9:=hbn HW2 hb;have hz9:=hb.size;clear hb a0 a1 a2 a3 a4 b0 b1 b2 b3 b4;obtain⟨c0,c1,c2,c3,c4⟩:=zc5 HC9;obtain⟨fc0,fc1,fc2,fc3,fc4⟩:=zf5 HC9;go_wp2;refine zr (by simp[results,results12,go_sem,c0,c1,c2,c3,c4]<;>rfl) ?_;exact Kr rfl (QG HW9.out (by omega) _ _ _ _ _)
theorem DE (w:World) (o:Int) (k1 p1 q1:Int) (s1:ByteArray) (r1:Int) (k2 p2 q2:Int) (s2:ByteArray) (r2:Int) (R:VR) (g1:1<=o) (g2:o<=23) (hun:∀W,Calls prog 46 #[o] W fun e w'=>e= .returned (.bool false)/\W=w') (hv1:∀W,Calls prog 26 #[.agg #[k1,p1,q1,s1,r1]] W (BoolPost W true)) (hv2:∀W,Calls prog 26 #[.agg #[k2,p2,q2,s2,r2]] W (BoolPost W true))
  (t8:(o==8)=false) (t14:(o==14)=false) (t15:(o==15)=false) (t16:(o==16)=true) (hc:∀W,Calls prog 49 #[o,.agg #[k1,p1,q1,s1,r1],.agg #[k2,p2,q2,s2,r2]] W (VrPost W R)):Calls prog 12 #[o,.agg #[k1,p1,q1,s1,r1],.agg #[k2,p2,q2,s2,r2]] w (VrPost w R):=by
 have HPU:=zh hun;clear hun;have HV1:=zh hv1;clear hv1;have HV2:=zh hv2;clear hv2;go_enter func12,ntmps12;go_wp2_with (first|(go_at_call 46;refine(HPU.out _).mono ?_;rintro e w' ⟨rfl,rfl⟩))
 refine(HV1.out _).mono ?_;rintro e w1 ⟨rfl,hb⟩;have HA1:=hkh hb (Qi _ _ _ _);have HB1:=hkh hb (Qa _ _ _ _);have HC1:=hkh hb (QU _ _ _ _);have HW1:=hbn (QM _ _ _ _) hb;have hz1:=hb.size;simp at hz1;clear hb;obtain⟨b0,b1,b2,b3,b4⟩:=zc5 HB1;go_wp2_with (first|(go_at_call 46;refine(HPU.out _).mono ?_;rintro e w' ⟨rfl,rfl⟩))
 refine(HV2.out _).mono ?_;rintro e w2 ⟨rfl,hb⟩;have HA2:=hkh hb HA1;have HB2:=hkh hb HB1;have HC2:=hkh hb HC1;have HW2:=hbn HW1 hb;have hz2:=hb.size;clear hb b0 b1 b2 b3 b4;obtain⟨a0,a1,a2,a3,a4⟩:=zc5 HA2;obtain⟨b0,b1,b2,b3,b4⟩:=zc5 HB2;go_wp2_with (first|(go_at_call 46;refine(HPU.out _).mono ?_;rintro e w' ⟨rfl,rfl⟩))
 refine(hc _).mono ?_;rintro e w9 ⟨rfl,hb⟩;have HC9:=hkh hb HC2;have HW9:=hbn HW2 hb;have hz9:=hb.size;clear hb a0 a1 a2 a3 a4 b0 b1 b2 b3 b4;obtain⟨c0,c1,c2,c3,c4⟩:=zc5 HC9;obtain⟨fc0,fc1,fc2,fc3,fc4⟩:=zf5 HC9;go_wp2;refine zr (by simp[results,results12,go_sem,c0,c1,c2,c3,c4]<;>rfl) ?_;exact Kr rfl (QG HW9.out (by omega) _ _ _ _ _)
theorem DD (w:World) (o:Int) (k1 p1 q1:Int) (s1:ByteArray) (r1:Int) (k2 p2 q2:Int) (s2:ByteArray) (r2:Int) (R:VR) (g1:1<=o) (g2:o<=23) (hun:∀W,Calls prog 46 #[o] W fun e w'=>e= .returned (.bool false)/\W=w') (hv1:∀W,Calls prog 26 #[.agg #[k1,p1,q1,s1,r1]] W (BoolPost W true)) (hv2:∀W,Calls prog 26 #[.agg #[k2,p2,q2,s2,r2]] W (BoolPost W true))
  (t8:(o==8)=false) (t14:(o==14)=false) (t15:(o==15)=false) (t16:(o==16)=false) (t17:(o==17)=true) (hc:∀W,Calls prog 49 #[o,.agg #[k1,p1,q1,s1,r1],.agg #[k2,p2,q2,s2,r2]] W (VrPost W R)):Calls prog 12 #[o,.agg #[k1,p1,q1,s1,r1],.agg #[k2,p2,q2,s2,r2]] w (VrPost w R):=by
 have HPU:=zh hun;clear hun;have HV1:=zh hv1;clear hv1;have HV2:=zh hv2;clear hv2;go_enter func12,ntmps12;go_wp2_with (first|(go_at_call 46;refine(HPU.out _).mono ?_;rintro e w' ⟨rfl,rfl⟩))
 refine(HV1.out _).mono ?_;rintro e w1 ⟨rfl,hb⟩;have HA1:=hkh hb (Qi _ _ _ _);have HB1:=hkh hb (Qa _ _ _ _);have HC1:=hkh hb (QU _ _ _ _);have HW1:=hbn (QM _ _ _ _) hb;have hz1:=hb.size;simp at hz1;clear hb;obtain⟨b0,b1,b2,b3,b4⟩:=zc5 HB1;go_wp2_with (first|(go_at_call 46;refine(HPU.out _).mono ?_;rintro e w' ⟨rfl,rfl⟩))
 refine(HV2.out _).mono ?_;rintro e w2 ⟨rfl,hb⟩;have HA2:=hkh hb HA1;have HB2:=hkh hb HB1;have HC2:=hkh hb HC1;have HW2:=hbn HW1 hb;have hz2:=hb.size;clear hb b0 b1 b2 b3 b4;obtain⟨a0,a1,a2,a3,a4⟩:=zc5 HA2;obtain⟨b0,b1,b2,b3,b4⟩:=zc5 HB2;go_wp2_with (first|(go_at_call 46;refine(HPU.out _).mono ?_;rintro e w' ⟨rfl,rfl⟩))
 refine(hc _).mono ?_;rintro e w9 ⟨rfl,hb⟩;have HC9:=hkh hb HC2;have HW9:=hbn HW2 hb;have hz9:=hb.size;clear hb a0 a1 a2 a3 a4 b0 b1 b2 b3 b4;obtain⟨c0,c1,c2,c3,c4⟩:=zc5 HC9;obtain⟨fc0,fc1,fc2,fc3,fc4⟩:=zf5 HC9;go_wp2;refine zr (by simp[results,results12,go_sem,c0,c1,c2,c3,c4]<;>rfl) ?_;exact Kr rfl (QG HW9.out (by omega) _ _ _ _ _)
theorem DC (w:World) (o:Int) (k1 p1 q1:Int) (s1:ByteArray) (r1:Int) (k2 p2 q2:Int) (s2:ByteArray) (r2:Int) (R:VR) (g1:1<=o) (g2:o<=23) (hun:∀W,Calls prog 46 #[o] W fun e w'=>e= .returned (.bool false)/\W=w') (hv1:∀W,Calls prog 26 #[.agg #[k1,p1,q1,s1,r1]] W (BoolPost W true)) (hv2:∀W,Calls prog 26 #[.agg #[k2,p2,q2,s2,r2]] W (BoolPost W true))
  (t8:(o==8)=false) (t14:(o==14)=false) (t15:(o==15)=false) (t16:(o==16)=false) (t17:(o==17)=false) (t18:(o==18)=true) (hc:∀W,Calls prog 49 #[o,.agg #[k1,p1,q1,s1,r1],.agg #[k2,p2,q2,s2,r2]] W (VrPost W R)):Calls prog 12 #[o,.agg #[k1,p1,q1,s1,r1],.agg #[k2,p2,q2,s2,r2]] w (VrPost w R):=by
 have HPU:=zh hun;clear hun;have HV1:=zh hv1;clear hv1;have HV2:=zh hv2;clear hv2;go_enter func12,ntmps12;go_wp2_with (first|(go_at_call 46;refine(HPU.out _).mono ?_;rintro e w' ⟨rfl,rfl⟩))
 refine(HV1.out _).mono ?_;rintro e w1 ⟨rfl,hb⟩;have HA1:=hkh hb (Qi _ _ _ _);have HB1:=hkh hb (Qa _ _ _ _);have HC1:=hkh hb (QU _ _ _ _);have HW1:=hbn (QM _ _ _ _) hb;have hz1:=hb.size;simp at hz1;clear hb;obtain⟨b0,b1,b2,b3,b4⟩:=zc5 HB1;go_wp2_with (first|(go_at_call 46;refine(HPU.out _).mono ?_;rintro e w' ⟨rfl,rfl⟩))
 refine(HV2.out _).mono ?_;rintro e w2 ⟨rfl,hb⟩;have HA2:=hkh hb HA1;have HB2:=hkh hb HB1;have HC2:=hkh hb HC1;have HW2:=hbn HW1 hb;have hz2:=hb.size;clear hb b0 b1 b2 b3 b4;obtain⟨a0,a1,a2,a3,a4⟩:=zc5 HA2;obtain⟨b0,b1,b2,b3,b4⟩:=zc5 HB2;go_wp2_with (first|(go_at_call 46;refine(HPU.out _).mono ?_;rintro e w' ⟨rfl,rfl⟩))
 refine(hc _).mono ?_;rintro e w9 ⟨rfl,hb⟩;have HC9:=hkh hb HC2;have HW9:=hbn HW2 hb;have hz9:=hb.size;clear hb a0 a1 a2 a3 a4 b0 b1 b2 b3 b4;obtain⟨c0,c1,c2,c3,c4⟩:=zc5 HC9;obtain⟨fc0,fc1,fc2,fc3,fc4⟩:=zf5 HC9;go_wp2;refine zr (by simp[results,results12,go_sem,c0,c1,c2,c3,c4]<;>rfl) ?_;exact Kr rfl (QG HW9.out (by omega) _ _ _ _ _)
theorem DB (w:World) (o:Int) (k1 p1 q1:Int) (s1:ByteArray) (r1:Int) (k2 p2 q2:Int) (s2:ByteArray) (r2:Int) (R:VR) (g1:1<=o) (g2:o<=23) (hun:∀W,Calls prog 46 #[o] W fun e w'=>e= .returned (.bool false)/\W=w') (hv1:∀W,Calls prog 26 #[.agg #[k1,p1,q1,s1,r1]] W (BoolPost W true)) (hv2:∀W,Calls prog 26 #[.agg #[k2,p2,q2,s2,r2]] W (BoolPost W true))
  (t8:(o==8)=false) (t14:(o==14)=false) (t15:(o==15)=false) (t16:(o==16)=false) (t17:(o==17)=false) (t18:(o==18)=false) (t19:(o==19)=true) (hc:∀W,Calls prog 49 #[o,.agg #[k1,p1,q1,s1,r1],.agg #[k2,p2,q2,s2,r2]] W (VrPost W R)):Calls prog 12 #[o,.agg #[k1,p1,q1,s1,r1],.agg #[k2,p2,q2,s2,r2]] w (VrPost w R):=by
 have HPU:=zh hun;clear hun;have HV1:=zh hv1;clear hv1;have HV2:=zh hv2;clear hv2;go_enter func12,ntmps12;go_wp2_with (first|(go_at_call 46;refine(HPU.out _).mono ?_;rintro e w' ⟨rfl,rfl⟩))
 refine(HV1.out _).mono ?_;rintro e w1 ⟨rfl,hb⟩;have HA1:=hkh hb (Qi _ _ _ _);have HB1:=hkh hb (Qa _ _ _ _);have HC1:=hkh hb (QU _ _ _ _);have HW1:=hbn (QM _ _ _ _) hb;have hz1:=hb.size;simp at hz1;clear hb;obtain⟨b0,b1,b2,b3,b4⟩:=zc5 HB1;go_wp2_with (first|(go_at_call 46;refine(HPU.out _).mono ?_;rintro e w' ⟨rfl,rfl⟩))
 refine(HV2.out _).mono ?_;rintro e w2 ⟨rfl,hb⟩;have HA2:=hkh hb HA1;have HB2:=hkh hb HB1;have HC2:=hkh hb HC1;have HW2:=hbn HW1 hb;have hz2:=hb.size;clear hb b0 b1 b2 b3 b4;obtain⟨a0,a1,a2,a3,a4⟩:=zc5 HA2;obtain⟨b0,b1,b2,b3,b4⟩:=zc5 HB2;go_wp2_with (first|(go_at_call 46;refine(HPU.out _).mono ?_;rintro e w' ⟨rfl,rfl⟩))
 refine(hc _).mono ?_;rintro e w9 ⟨rfl,hb⟩;have HC9:=hkh hb HC2;have HW9:=hbn HW2 hb;have hz9:=hb.size;clear hb a0 a1 a2 a3 a4 b0 b1 b2 b3 b4;obtain⟨c0,c1,c2,c3,c4⟩:=zc5 HC9;obtain⟨fc0,fc1,fc2,fc3,fc4⟩:=zf5 HC9;go_wp2;refine zr (by simp[results,results12,go_sem,c0,c1,c2,c3,c4]<;>rfl) ?_;exact Kr rfl (QG HW9.out (by omega) _ _ _ _ _)
theorem P8 (w:World) (o:Int) (k1 p1 q1:Int) (s1:ByteArray) (r1:Int) (k2 p2 q2:Int) (s2:ByteArray) (r2:Int) (l:Bool) (R:VR) (g1:1<=o) (g2:o<=23) (hun:∀W,Calls prog 46 #[o] W fun e w'=>e= .returned (.bool true)/\W=w') (hv1:∀W,Calls prog 26 #[.agg #[k1,p1,q1,s1,r1]] W (BoolPost W true)) (hv2:∀W,Calls prog 26 #[.agg #[k1,p1,q1,s1,r1]] W (BoolPost W true))
  (t8:(o==8)=false) (t14:(o==14)=false) (t15:(o==15)=false) (t16:(o==16)=false) (t17:(o==17)=false) (t18:(o==18)=false) (t19:(o==19)=false) (t21:(o==21)=true) (hs:∀W,Calls prog 50 #[.agg #[k1,p1,q1,s1,r1]] W (BoolPost W l)) (hR:R= .ok (JK (!l))):Calls prog 12 #[o,.agg #[k1,p1,q1,s1,r1],.agg #[k2,p2,q2,s2,r2]] w (VrPost w R):=by
 have HPU:=zh hun;clear hun;have HV1:=zh hv1;clear hv1;have HV2:=zh hv2;clear hv2;go_enter func12,ntmps12;go_wp2_with (first|(go_at_call 46;refine(HPU.out _).mono ?_;rintro e w' ⟨rfl,rfl⟩))
 refine(HV1.out _).mono ?_;rintro e w1 ⟨rfl,hb⟩;have HA1:=hkh hb (Qi _ _ _ _);have HB1:=hkh hb (Qa _ _ _ _);have HC1:=hkh hb (QU _ _ _ _);have HW1:=hbn (QM _ _ _ _) hb;have hz1:=hb.size;simp at hz1;clear hb;obtain⟨b0,b1,b2,b3,b4⟩:=zc5 HB1;go_wp2_with (first|(go_at_call 46;refine(HPU.out _).mono ?_;rintro e w' ⟨rfl,rfl⟩))
 refine(HV2.out _).mono ?_;rintro e w2 ⟨rfl,hb⟩;have HA2:=hkh hb HA1;have HB2:=hkh hb HB1;have HC2:=hkh hb HC1;have HW2:=hbn HW1 hb;have hz2:=hb.size;clear hb b0 b1 b2 b3 b4;obtain⟨a0,a1,a2,a3,a4⟩:=zc5 HA2;obtain⟨b0,b1,b2,b3,b4⟩:=zc5 HB2;go_wp2_with (first|(go_at_call 46;refine(HPU.out _).mono ?_;rintro e w' ⟨rfl,rfl⟩))
 refine(hs _).mono ?_;rintro e w8 ⟨rfl,hb⟩;have HC8:=hkh hb HC2;have HW8:=hbn HW2 hb;have hz8:=hb.size;clear hb a0 a1 a2 a3 a4 b0 b1 b2 b3 b4;go_wp2_with fail
 refine(Zk _ _).mono ?_;rintro e w9 ⟨rfl,hb⟩;have HC9:=hkh hb HC8;have HW9:=hbn HW8 hb;have hz9:=hb.size;clear hb;obtain⟨c0,c1,c2,c3,c4⟩:=zc5 HC9;obtain⟨fc0,fc1,fc2,fc3,fc4⟩:=zf5 HC9;go_wp2;refine zr (by simp[results,results12,go_sem,c0,c1,c2,c3,c4]<;>rfl) ?_;exact Yg (by first|exact hR|(revert hR;cases l<;>exact fun h=>h)) (QG HW9.out (by omega) _ _ _ _ _)
theorem P9 (w:World) (o:Int) (k1 p1 q1:Int) (s1:ByteArray) (r1:Int) (k2 p2 q2:Int) (s2:ByteArray) (r2:Int) (R:VR) (g1:1<=o) (g2:o<=23) (hun:∀W,Calls prog 46 #[o] W fun e w'=>e= .returned (.bool true)/\W=w') (hv1:∀W,Calls prog 26 #[.agg #[k1,p1,q1,s1,r1]] W (BoolPost W true)) (hv2:∀W,Calls prog 26 #[.agg #[k1,p1,q1,s1,r1]] W (BoolPost W true))
  (t8:(o==8)=false) (t14:(o==14)=false) (t15:(o==15)=false) (t16:(o==16)=false) (t17:(o==17)=false) (t18:(o==18)=false) (t19:(o==19)=false) (t21:(o==21)=false) (t22:(o==22)=true) (k3:(k1 !=3)=false) (hs:s1.size<=4096) (hR:R= .ok (Xl (s1.size:Int))):Calls prog 12 #[o,.agg #[k1,p1,q1,s1,r1],.agg #[k2,p2,q2,s2,r2]] w (VrPost w R):=by
 have HPU:=zh hun;clear hun;have HV1:=zh hv1;clear hv1;have HV2:=zh hv2;clear hv2;go_enter func12,ntmps12;go_wp2_with (first|(go_at_call 46;refine(HPU.out _).mono ?_;rintro e w' ⟨rfl,rfl⟩))
 refine(HV1.out _).mono ?_;rintro e w1 ⟨rfl,hb⟩;have HA1:=hkh hb (Qi _ _ _ _);have HB1:=hkh hb (Qa _ _ _ _);have HC1:=hkh hb (QU _ _ _ _);have HW1:=hbn (QM _ _ _ _) hb;have hz1:=hb.size;simp at hz1;clear hb;obtain⟨b0,b1,b2,b3,b4⟩:=zc5 HB1;go_wp2_with (first|(go_at_call 46;refine(HPU.out _).mono ?_;rintro e w' ⟨rfl,rfl⟩))
 refine(HV2.out _).mono ?_;rintro e w2 ⟨rfl,hb⟩;have HA2:=hkh hb HA1;have HB2:=hkh hb HB1;have HC2:=hkh hb HC1;have HW2:=hbn HW1 hb;have hz2:=hb.size;clear hb b0 b1 b2 b3 b4;obtain⟨a0,a1,a2,a3,a4⟩:=zc5 HA2;obtain⟨b0,b1,b2,b3,b4⟩:=zc5 HB2;go_wp2_with (first|(go_at_call 46;refine(HPU.out _).mono ?_;rintro e w' ⟨rfl,rfl⟩))
 refine(EF _ _).mono ?_;rintro e w9 ⟨rfl,hb⟩;have HC9:=hkh hb HC2;have HW9:=hbn HW2 hb;have hz9:=hb.size;clear hb a0 a1 a2 a3 a4 b0 b1 b2 b3 b4;obtain⟨c0,c1,c2,c3,c4⟩:=zc5 HC9;obtain⟨fc0,fc1,fc2,fc3,fc4⟩:=zf5 HC9;go_wp2;refine zr (by simp[results,results12,go_sem,c0,c1,c2,c3,c4]<;>rfl) ?_;exact Yg hR (QG HW9.out (by omega) _ _ _ _ _)
theorem Ur (w:World) (o:Int) (k1 p1 q1:Int) (s1:ByteArray) (r1:Int) (k2 p2 q2:Int) (s2:ByteArray) (r2:Int) (R:VR) (g1:1<=o) (g2:o<=23) (hun:∀W,Calls prog 46 #[o] W fun e w'=>e= .returned (.bool true)/\W=w') (hv1:∀W,Calls prog 26 #[.agg #[k1,p1,q1,s1,r1]] W (BoolPost W true)) (hv2:∀W,Calls prog 26 #[.agg #[k1,p1,q1,s1,r1]] W (BoolPost W true))
  (t8:(o==8)=false) (t14:(o==14)=false) (t15:(o==15)=false) (t16:(o==16)=false) (t17:(o==17)=false) (t18:(o==18)=false) (t19:(o==19)=false) (t21:(o==21)=false) (t22:(o==22)=true) (k3:(k1 !=3)=true) (hR:R= .error 8):Calls prog 12 #[o,.agg #[k1,p1,q1,s1,r1],.agg #[k2,p2,q2,s2,r2]] w (VrPost w R):=by
 have HPU:=zh hun;clear hun;have HV1:=zh hv1;clear hv1;have HV2:=zh hv2;clear hv2;go_enter func12,ntmps12;go_wp2_with (first|(go_at_call 46;refine(HPU.out _).mono ?_;rintro e w' ⟨rfl,rfl⟩))
 refine(HV1.out _).mono ?_;rintro e w1 ⟨rfl,hb⟩;have HA1:=hkh hb (Qi _ _ _ _);have HB1:=hkh hb (Qa _ _ _ _);have HC1:=hkh hb (QU _ _ _ _);have HW1:=hbn (QM _ _ _ _) hb;have hz1:=hb.size;simp at hz1;clear hb;obtain⟨b0,b1,b2,b3,b4⟩:=zc5 HB1;go_wp2_with (first|(go_at_call 46;refine(HPU.out _).mono ?_;rintro e w' ⟨rfl,rfl⟩))
 refine(HV2.out _).mono ?_;rintro e w2 ⟨rfl,hb⟩;have HA2:=hkh hb HA1;have HB2:=hkh hb HB1;have HC2:=hkh hb HC1;have HW2:=hbn HW1 hb;have hz2:=hb.size;clear hb b0 b1 b2 b3 b4;obtain⟨a0,a1,a2,a3,a4⟩:=zc5 HA2;obtain⟨c0,c1,c2,c3,c4⟩:=zc5 HC2;obtain⟨fc0,fc1,fc2,fc3,fc4⟩:=zf5 HC2;go_wp2_with (first|(go_at_call 46;refine(HPU.out _).mono ?_;rintro e w' ⟨rfl,rfl⟩))
 refine zr (by simp[results,results12,go_sem,c0,c1,c2,c3,c4]<;>rfl) ?_;exact ZF hR (QG HW2.out (by omega) _ _ _ _ _)
theorem OB (w:World) (o:Int) (k1 p1 q1:Int) (s1:ByteArray) (r1:Int) (k2 p2 q2:Int) (s2:ByteArray) (r2:Int) (R:VR) (g1:1<=o) (g2:o<=23) (hun:∀W,Calls prog 46 #[o] W fun e w'=>e= .returned (.bool false)/\W=w') (hv1:∀W,Calls prog 26 #[.agg #[k1,p1,q1,s1,r1]] W (BoolPost W true)) (hv2:∀W,Calls prog 26 #[.agg #[k2,p2,q2,s2,r2]] W (BoolPost W true))
  (t8:(o==8)=false) (t14:(o==14)=true) (hR:R= .ok (JK (eqV ⟨k1,p1,q1,s1,r1⟩ ⟨k2,p2,q2,s2,r2⟩==true))):Calls prog 12 #[o,.agg #[k1,p1,q1,s1,r1],.agg #[k2,p2,q2,s2,r2]] w (VrPost w R):=by
 have HRR:=zh hR;clear hR;have HPU:=zh hun;clear hun;have HV1:=zh hv1;clear hv1;have HV2:=zh hv2;clear hv2;go_enter func12,ntmps12;go_wp2_with (first|(go_at_call 46;refine(HPU.out _).mono ?_;rintro e w' ⟨rfl,rfl⟩))
 refine(HV1.out _).mono ?_;rintro e w1 ⟨rfl,hb⟩;have HA1:=hkh hb (Qi _ _ _ _);have HB1:=hkh hb (Qa _ _ _ _);have HC1:=hkh hb (QU _ _ _ _);have HW1:=hbn (QM _ _ _ _) hb;have hz1:=hb.size;simp at hz1;clear hb;obtain⟨b0,b1,b2,b3,b4⟩:=zc5 HB1;go_wp2_with (first|(go_at_call 46;refine(HPU.out _).mono ?_;rintro e w' ⟨rfl,rfl⟩))
 refine(HV2.out _).mono ?_;rintro e w2 ⟨rfl,hb⟩;have HA2:=hkh hb HA1;have HB2:=hkh hb HB1;have HC2:=hkh hb HC1;have HW2:=hbn HW1 hb;have hz2:=hb.size;clear hb b0 b1 b2 b3 b4;obtain⟨a0,a1,a2,a3,a4⟩:=zc5 HA2;obtain⟨b0,b1,b2,b3,b4⟩:=zc5 HB2;go_wp2_with (first|(go_at_call 46;refine(HPU.out _).mono ?_;rintro e w' ⟨rfl,rfl⟩))
 all_goals
  refine(Zk _ _).mono ?_;rintro e w9 ⟨rfl,hb⟩;have HC9:=hkh hb HC2;have HW9:=hbn HW2 hb;have hz9:=hb.size;clear hb a0 a1 a2 a3 a4 b0 b1 b2 b3 b4;obtain⟨c0,c1,c2,c3,c4⟩:=zc5 HC9;obtain⟨fc0,fc1,fc2,fc3,fc4⟩:=zf5 HC9;go_wp2;refine zr (by simp[results,results12,go_sem,c0,c1,c2,c3,c4]<;>rfl) ?_;refine Yg ?_ (QG HW9.out (by omega) _ _ _ _ _);have hRR:=HRR.out;clear HRR;subst hRR;refine congrArg (fun b=>(Except.ok (JK b):VR)) ?_;simp_all[eqV,JV]
theorem OA (w:World) (o:Int) (k1 p1 q1:Int) (s1:ByteArray) (r1:Int) (k2 p2 q2:Int) (s2:ByteArray) (r2:Int) (R:VR) (g1:1<=o) (g2:o<=23) (hun:∀W,Calls prog 46 #[o] W fun e w'=>e= .returned (.bool false)/\W=w') (hv1:∀W,Calls prog 26 #[.agg #[k1,p1,q1,s1,r1]] W (BoolPost W true)) (hv2:∀W,Calls prog 26 #[.agg #[k2,p2,q2,s2,r2]] W (BoolPost W true))
  (t8:(o==8)=false) (t14:(o==14)=false) (t15:(o==15)=true) (hR:R= .ok (JK (eqV ⟨k1,p1,q1,s1,r1⟩ ⟨k2,p2,q2,s2,r2⟩==false))):Calls prog 12 #[o,.agg #[k1,p1,q1,s1,r1],.agg #[k2,p2,q2,s2,r2]] w (VrPost w R):=by
 have HRR:=zh hR;clear hR;have HPU:=zh hun;clear hun;have HV1:=zh hv1;clear hv1;have HV2:=zh hv2;clear hv2;go_enter func12,ntmps12;go_wp2_with (first|(go_at_call 46;refine(HPU.out _).mono ?_;rintro e w' ⟨rfl,rfl⟩))
 refine(HV1.out _).mono ?_;rintro e w1 ⟨rfl,hb⟩;have HA1:=hkh hb (Qi _ _ _ _);have HB1:=hkh hb (Qa _ _ _ _);have HC1:=hkh hb (QU _ _ _ _);have HW1:=hbn (QM _ _ _ _) hb;have hz1:=hb.size;simp at hz1;clear hb;obtain⟨b0,b1,b2,b3,b4⟩:=zc5 HB1;go_wp2_with (first|(go_at_call 46;refine(HPU.out _).mono ?_;rintro e w' ⟨rfl,rfl⟩))
 refine(HV2.out _).mono ?_;rintro e w2 ⟨rfl,hb⟩;have HA2:=hkh hb HA1;have HB2:=hkh hb HB1;have HC2:=hkh hb HC1;have HW2:=hbn HW1 hb;have hz2:=hb.size;clear hb b0 b1 b2 b3 b4;obtain⟨a0,a1,a2,a3,a4⟩:=zc5 HA2;obtain⟨b0,b1,b2,b3,b4⟩:=zc5 HB2;go_wp2_with (first|(go_at_call 46;refine(HPU.out _).mono ?_;rintro e w' ⟨rfl,rfl⟩))
 all_goals
  refine(Zk _ _).mono ?_;rintro e w9 ⟨rfl,hb⟩;have HC9:=hkh hb HC2;have HW9:=hbn HW2 hb;have hz9:=hb.size;clear hb a0 a1 a2 a3 a4 b0 b1 b2 b3 b4;obtain⟨c0,c1,c2,c3,c4⟩:=zc5 HC9;obtain⟨fc0,fc1,fc2,fc3,fc4⟩:=zf5 HC9;go_wp2;refine zr (by simp[results,results12,go_sem,c0,c1,c2,c3,c4]<;>rfl) ?_;refine Yg ?_ (QG HW9.out (by omega) _ _ _ _ _);have hRR:=HRR.out;clear HRR;subst hRR;refine congrArg (fun b=>(Except.ok (JK b):VR)) ?_;simp_all[eqV,JV]
theorem GW (w:World) (o:Int) (k1 p1 q1:Int) (s1:ByteArray) (r1:Int) (k2 p2 q2:Int) (s2:ByteArray) (r2:Int) (X Y Z:RR) (R:VR) (g1:1<=o) (g2:o<=23) (hun:∀W,Calls prog 46 #[o] W fun e w'=>e= .returned (.bool false)/\W=w') (hv1:∀W,Calls prog 26 #[.agg #[k1,p1,q1,s1,r1]] W (BoolPost W true)) (hv2:∀W,Calls prog 26 #[.agg #[k2,p2,q2,s2,r2]] W (BoolPost W true))
  (t8:(o==8)=false) (t14:(o==14)=false) (t15:(o==15)=false) (t16:(o==16)=false) (t17:(o==17)=false) (t18:(o==18)=false) (t19:(o==19)=false) (t21:(o==21)=false) (t22:(o==22)=false) (hx:∀W,Calls prog 52 #[.agg #[k1,p1,q1,s1,r1]] W (NumPost W X)) (hy:∀W,Calls prog 52 #[.agg #[k2,p2,q2,s2,r2]] W (NumPost W Y)) (hzz:∀W,Calls prog 53 #[o,.agg #[.int .i64 (nP X),.int .i64 (nQ X)],.agg #[.int .i64 (nP Y),.int .i64 (nQ Y)]] W (NumPost W Z)) (eX:((((nE X:Nat):Int) !=0)=true)) (hR:R= .error 8):Calls prog 12 #[o,.agg #[k1,p1,q1,s1,r1],.agg #[k2,p2,q2,s2,r2]] w (VrPost w R):=by
 have HX:=zh hx;have HY:=zh hy;have HZ:=zh hzz;clear hx hy hzz;have HPU:=zh hun;clear hun;have HV1:=zh hv1;clear hv1;have HV2:=zh hv2;clear hv2;go_enter func12,ntmps12;go_wp2_with (first|(go_at_call 46;refine(HPU.out _).mono ?_;rintro e w' ⟨rfl,rfl⟩))
 refine(HV1.out _).mono ?_;rintro e w1 ⟨rfl,hb⟩;have HA1:=hkh hb (Qi _ _ _ _);have HB1:=hkh hb (Qa _ _ _ _);have HC1:=hkh hb (QU _ _ _ _);have HW1:=hbn (QM _ _ _ _) hb;have hz1:=hb.size;simp at hz1;clear hb;obtain⟨b0,b1,b2,b3,b4⟩:=zc5 HB1;go_wp2_with (first|(go_at_call 46;refine(HPU.out _).mono ?_;rintro e w' ⟨rfl,rfl⟩))
 refine(HV2.out _).mono ?_;rintro e w2 ⟨rfl,hb⟩;have HA2:=hkh hb HA1;have HB2:=hkh hb HB1;have HC2:=hkh hb HC1;have HW2:=hbn HW1 hb;have hz2:=hb.size;clear hb b0 b1 b2 b3 b4;obtain⟨a0,a1,a2,a3,a4⟩:=zc5 HA2;go_wp2_with (first|(go_at_call 46;refine(HPU.out _).mono ?_;rintro e w' ⟨rfl,rfl⟩))
 refine(HX.out _).mono ?_;rintro e w3 ⟨rfl,hb⟩;have HB3:=zh (hgrow hb (.cells #[.int .i64 (nP X),.int .i64 (nQ X)] 23) HB2.out);have HC3:=zh (hgrow hb (.cells #[.int .i64 (nP X),.int .i64 (nQ X)] 23) HC2.out);have HX3:=zh (Qg w3 (.cells #[.int .i64 (nP X),.int .i64 (nQ X)] 23));have HW3:=zh ((QC HW2.out hb).alloc (by have:=hb.size;omega) (.cells #[.int .i64 (nP X),.int .i64 (nQ X)] 23));have hz3:=hb.size;clear hb a0 a1 a2 a3 a4;obtain⟨b0,b1,b2,b3,b4⟩:=zc5 HB3;go_wp2_with fail
 refine(HY.out _).mono ?_;rintro e w4 ⟨rfl,hb⟩;have HX4:=zh (hgrow hb (.cells #[.int .i64 (nP Y),.int .i64 (nQ Y)] 23) HX3.out);have HC4:=zh (hgrow hb (.cells #[.int .i64 (nP Y),.int .i64 (nQ Y)] 23) HC3.out);have HY4:=zh (Qg w4 (.cells #[.int .i64 (nP Y),.int .i64 (nQ Y)] 23));have HW4:=zh ((QC HW3.out hb).alloc (by have:=hb.size;simp at this;omega) (.cells #[.int .i64 (nP Y),.int .i64 (nQ Y)] 23));have hz4:=hb.size;simp at hz4;clear hb b0 b1 b2 b3 b4;obtain⟨c0,c1,c2,c3,c4⟩:=zc5 HC4;obtain⟨fc0,fc1,fc2,fc3,fc4⟩:=zf5 HC4;go_wp2;refine zr (by simp[results,results12,go_sem,c0,c1,c2,c3,c4]<;>rfl) ?_;exact ZF hR (QG HW4.out (by omega) _ _ _ _ _)
theorem GV (w:World) (o:Int) (k1 p1 q1:Int) (s1:ByteArray) (r1:Int) (k2 p2 q2:Int) (s2:ByteArray) (r2:Int) (X Y Z:RR) (R:VR) (g1:1<=o) (g2:o<=23) (hun:∀W,Calls prog 46 #[o] W fun e w'=>e= .returned (.bool false)/\W=w') (hv1:∀W,Calls prog 26 #[.agg #[k1,p1,q1,s1,r1]] W (BoolPost W true)) (hv2:∀W,Calls prog 26 #[.agg #[k2,p2,q2,s2,r2]] W (BoolPost W true))
  (t8:(o==8)=false) (t14:(o==14)=false) (t15:(o==15)=false) (t16:(o==16)=false) (t17:(o==17)=false) (t18:(o==18)=false) (t19:(o==19)=false) (t21:(o==21)=false) (t22:(o==22)=false) (hx:∀W,Calls prog 52 #[.agg #[k1,p1,q1,s1,r1]] W (NumPost W X)) (hy:∀W,Calls prog 52 #[.agg #[k2,p2,q2,s2,r2]] W (NumPost W Y)) (hzz:∀W,Calls prog 53 #[o,.agg #[.int .i64 (nP X),.int .i64 (nQ X)],.agg #[.int .i64 (nP Y),.int .i64 (nQ Y)]] W (NumPost W Z)) (eX:((((nE X:Nat):Int) !=0)=false)) (eY:((((nE Y:Nat):Int) !=0)=true)) (hR:R= .error 8):Calls prog 12 #[o,.agg #[k1,p1,q1,s1,r1],.agg #[k2,p2,q2,s2,r2]] w (VrPost w R):=by
 have HX:=zh hx;have HY:=zh hy;have HZ:=zh hzz;clear hx hy hzz;have HPU:=zh hun;clear hun;have HV1:=zh hv1;clear hv1;have HV2:=zh hv2;clear hv2;go_enter func12,ntmps12;go_wp2_with (first|(go_at_call 46;refine(HPU.out _).mono ?_;rintro e w' ⟨rfl,rfl⟩))
 refine(HV1.out _).mono ?_;rintro e w1 ⟨rfl,hb⟩;have HA1:=hkh hb (Qi _ _ _ _);have HB1:=hkh hb (Qa _ _ _ _);have HC1:=hkh hb (QU _ _ _ _);have HW1:=hbn (QM _ _ _ _) hb;have hz1:=hb.size;simp at hz1;clear hb;obtain⟨b0,b1,b2,b3,b4⟩:=zc5 HB1;go_wp2_with (first|(go_at_call 46;refine(HPU.out _).mono ?_;rintro e w' ⟨rfl,rfl⟩))
 refine(HV2.out _).mono ?_;rintro e w2 ⟨rfl,hb⟩;have HA2:=hkh hb HA1;have HB2:=hkh hb HB1;have HC2:=hkh hb HC1;have HW2:=hbn HW1 hb;have hz2:=hb.size;clear hb b0 b1 b2 b3 b4;obtain⟨a0,a1,a2,a3,a4⟩:=zc5 HA2;go_wp2_with (first|(go_at_call 46;refine(HPU.out _).mono ?_;rintro e w' ⟨rfl,rfl⟩))
 refine(HX.out _).mono ?_;rintro e w3 ⟨rfl,hb⟩;have HB3:=zh (hgrow hb (.cells #[.int .i64 (nP X),.int .i64 (nQ X)] 23) HB2.out);have HC3:=zh (hgrow hb (.cells #[.int .i64 (nP X),.int .i64 (nQ X)] 23) HC2.out);have HX3:=zh (Qg w3 (.cells #[.int .i64 (nP X),.int .i64 (nQ X)] 23));have HW3:=zh ((QC HW2.out hb).alloc (by have:=hb.size;omega) (.cells #[.int .i64 (nP X),.int .i64 (nQ X)] 23));have hz3:=hb.size;clear hb a0 a1 a2 a3 a4;obtain⟨b0,b1,b2,b3,b4⟩:=zc5 HB3;go_wp2_with fail
 refine(HY.out _).mono ?_;rintro e w4 ⟨rfl,hb⟩;have HX4:=zh (hgrow hb (.cells #[.int .i64 (nP Y),.int .i64 (nQ Y)] 23) HX3.out);have HC4:=zh (hgrow hb (.cells #[.int .i64 (nP Y),.int .i64 (nQ Y)] 23) HC3.out);have HY4:=zh (Qg w4 (.cells #[.int .i64 (nP Y),.int .i64 (nQ Y)] 23));have HW4:=zh ((QC HW3.out hb).alloc (by have:=hb.size;simp at this;omega) (.cells #[.int .i64 (nP Y),.int .i64 (nQ Y)] 23));have hz4:=hb.size;simp at hz4;clear hb b0 b1 b2 b3 b4;obtain⟨c0,c1,c2,c3,c4⟩:=zc5 HC4;obtain⟨fc0,fc1,fc2,fc3,fc4⟩:=zf5 HC4;go_wp2;refine zr (by simp[results,results12,go_sem,c0,c1,c2,c3,c4]<;>rfl) ?_;exact ZF hR (QG HW4.out (by omega) _ _ _ _ _)
theorem GU (w:World) (o:Int) (k1 p1 q1:Int) (s1:ByteArray) (r1:Int) (k2 p2 q2:Int) (s2:ByteArray) (r2:Int) (X Y Z:RR) (R:VR) (g1:1<=o) (g2:o<=23) (hun:∀W,Calls prog 46 #[o] W fun e w'=>e= .returned (.bool false)/\W=w') (hv1:∀W,Calls prog 26 #[.agg #[k1,p1,q1,s1,r1]] W (BoolPost W true)) (hv2:∀W,Calls prog 26 #[.agg #[k2,p2,q2,s2,r2]] W (BoolPost W true))
  (t8:(o==8)=false) (t14:(o==14)=false) (t15:(o==15)=false) (t16:(o==16)=false) (t17:(o==17)=false) (t18:(o==18)=false) (t19:(o==19)=false) (t21:(o==21)=false) (t22:(o==22)=false) (hx:∀W,Calls prog 52 #[.agg #[k1,p1,q1,s1,r1]] W (NumPost W X)) (hy:∀W,Calls prog 52 #[.agg #[k2,p2,q2,s2,r2]] W (NumPost W Y)) (hzz:∀W,Calls prog 53 #[o,.agg #[.int .i64 (nP X),.int .i64 (nQ X)],.agg #[.int .i64 (nP Y),.int .i64 (nQ Y)]] W (NumPost W Z)) (eX:((((nE X:Nat):Int) !=0)=false)) (eY:((((nE Y:Nat):Int) !=0)=false)) (eZ:((((nE Z:Nat):Int) !=0)=true)) (hR:R= .error (nE Z)):Calls prog 12 #[o,.agg #[k1,p1,q1,s1,r1],.agg #[k2,p2,q2,s2,r2]] w (VrPost w R):=by
 have HX:=zh hx;have HY:=zh hy;have HZ:=zh hzz;clear hx hy hzz;have HPU:=zh hun;clear hun;have HV1:=zh hv1;clear hv1;have HV2:=zh hv2;clear hv2;go_enter func12,ntmps12;go_wp2_with (first|(go_at_call 46;refine(HPU.out _).mono ?_;rintro e w' ⟨rfl,rfl⟩))
 refine(HV1.out _).mono ?_;rintro e w1 ⟨rfl,hb⟩;have HA1:=hkh hb (Qi _ _ _ _);have HB1:=hkh hb (Qa _ _ _ _);have HC1:=hkh hb (QU _ _ _ _);have HW1:=hbn (QM _ _ _ _) hb;have hz1:=hb.size;simp at hz1;clear hb;obtain⟨b0,b1,b2,b3,b4⟩:=zc5 HB1;go_wp2_with (first|(go_at_call 46;refine(HPU.out _).mono ?_;rintro e w' ⟨rfl,rfl⟩))
 refine(HV2.out _).mono ?_;rintro e w2 ⟨rfl,hb⟩;have HA2:=hkh hb HA1;have HB2:=hkh hb HB1;have HC2:=hkh hb HC1;have HW2:=hbn HW1 hb;have hz2:=hb.size;clear hb b0 b1 b2 b3 b4;obtain⟨a0,a1,a2,a3,a4⟩:=zc5 HA2;go_wp2_with (first|(go_at_call 46;refine(HPU.out _).mono ?_;rintro e w' ⟨rfl,rfl⟩))
 refine(HX.out _).mono ?_;rintro e w3 ⟨rfl,hb⟩;have HB3:=zh (hgrow hb (.cells #[.int .i64 (nP X),.int .i64 (nQ X)] 23) HB2.out);have HC3:=zh (hgrow hb (.cells #[.int .i64 (nP X),.int .i64 (nQ X)] 23) HC2.out);have HX3:=zh (Qg w3 (.cells #[.int .i64 (nP X),.int .i64 (nQ X)] 23));have HW3:=zh ((QC HW2.out hb).alloc (by have:=hb.size;omega) (.cells #[.int .i64 (nP X),.int .i64 (nQ X)] 23));have hz3:=hb.size;clear hb a0 a1 a2 a3 a4;obtain⟨b0,b1,b2,b3,b4⟩:=zc5 HB3;go_wp2_with fail
 refine(HY.out _).mono ?_;rintro e w4 ⟨rfl,hb⟩;have HX4:=zh (hgrow hb (.cells #[.int .i64 (nP Y),.int .i64 (nQ Y)] 23) HX3.out);have HC4:=zh (hgrow hb (.cells #[.int .i64 (nP Y),.int .i64 (nQ Y)] 23) HC3.out);have HY4:=zh (Qg w4 (.cells #[.int .i64 (nP Y),.int .i64 (nQ Y)] 23));have HW4:=zh ((QC HW3.out hb).alloc (by have:=hb.size;simp at this;omega) (.cells #[.int .i64 (nP Y),.int .i64 (nQ Y)] 23));have hz4:=hb.size;simp at hz4;clear hb b0 b1 b2 b3 b4;have x0:(w4.alloc (.cells #[.int .i64 (nP Y),.int .i64 (nQ Y)] 23)).cell? w3=some (.int .i64 (nP X)):=by rw[QA HX4.out];rfl
 have x1:(w4.alloc (.cells #[.int .i64 (nP Y),.int .i64 (nQ Y)] 23)).cell? ⟨w3,1,none⟩=some (.int .i64 (nQ X)):=by rw[QA HX4.out];rfl
 have y0:(w4.alloc (.cells #[.int .i64 (nP Y),.int .i64 (nQ Y)] 23)).cell? w4=some (.int .i64 (nP Y)):=by rw[QA HY4.out];rfl
 have y1:(w4.alloc (.cells #[.int .i64 (nP Y),.int .i64 (nQ Y)] 23)).cell? ⟨w4,1,none⟩=some (.int .i64 (nQ Y)):=by rw[QA HY4.out];rfl
 go_wp2_with fail
 refine(HZ.out _).mono ?_;rintro e w5 ⟨rfl,hb⟩;have HC5:=zh (hgrow hb (.cells #[.int .i64 (nP Z),.int .i64 (nQ Z)] 23) HC4.out);have HZ5:=zh (Qg w5 (.cells #[.int .i64 (nP Z),.int .i64 (nQ Z)] 23));have HW5:=zh ((QC HW4.out hb).alloc (by have:=hb.size;simp at this;omega) (.cells #[.int .i64 (nP Z),.int .i64 (nQ Z)] 23));have hz5:=hb.size;simp at hz5;clear hb x0 x1 y0 y1;obtain⟨c0,c1,c2,c3,c4⟩:=zc5 HC5;obtain⟨fc0,fc1,fc2,fc3,fc4⟩:=zf5 HC5;go_wp2;refine zr (by simp[results,results12,go_sem,c0,c1,c2,c3,c4]<;>rfl) ?_;exact ZF hR (QG HW5.out (by omega) _ _ _ _ _)
theorem YN (w:World) (o:Int) (k1 p1 q1:Int) (s1:ByteArray) (r1:Int) (k2 p2 q2:Int) (s2:ByteArray) (r2:Int) (X Y Z:RR) (R:VR) (g1:1<=o) (g2:o<=23) (hun:∀W,Calls prog 46 #[o] W fun e w'=>e= .returned (.bool false)/\W=w') (hv1:∀W,Calls prog 26 #[.agg #[k1,p1,q1,s1,r1]] W (BoolPost W true)) (hv2:∀W,Calls prog 26 #[.agg #[k2,p2,q2,s2,r2]] W (BoolPost W true))
  (t8:(o==8)=false) (t14:(o==14)=false) (t15:(o==15)=false) (t16:(o==16)=false) (t17:(o==17)=false) (t18:(o==18)=false) (t19:(o==19)=false) (t21:(o==21)=false) (t22:(o==22)=false) (hx:∀W,Calls prog 52 #[.agg #[k1,p1,q1,s1,r1]] W (NumPost W X)) (hy:∀W,Calls prog 52 #[.agg #[k2,p2,q2,s2,r2]] W (NumPost W Y)) (hzz:∀W,Calls prog 53 #[o,.agg #[.int .i64 (nP X),.int .i64 (nQ X)],.agg #[.int .i64 (nP Y),.int .i64 (nQ Y)]] W (NumPost W Z)) (eX:((((nE X:Nat):Int) !=0)=false)) (eY:((((nE Y:Nat):Int) !=0)=false)) (eZ:((((nE Z:Nat):Int) !=0)=false)) (hR:R= .ok (GP (nP Z,nQ Z))):Calls prog 12 #[o,.agg #[k1,p1,q1,s1,r1],.agg #[k2,p2,q2,s2,r2]] w (VrPost w R):=by
 have HX:=zh hx;have HY:=zh hy;have HZ:=zh hzz;clear hx hy hzz;have HPU:=zh hun;clear hun;have HV1:=zh hv1;clear hv1;have HV2:=zh hv2;clear hv2;go_enter func12,ntmps12;go_wp2_with (first|(go_at_call 46;refine(HPU.out _).mono ?_;rintro e w' ⟨rfl,rfl⟩))
 refine(HV1.out _).mono ?_;rintro e w1 ⟨rfl,hb⟩;have HA1:=hkh hb (Qi _ _ _ _);have HB1:=hkh hb (Qa _ _ _ _);have HC1:=hkh hb (QU _ _ _ _);have HW1:=hbn (QM _ _ _ _) hb;have hz1:=hb.size;simp at hz1;clear hb;obtain⟨b0,b1,b2,b3,b4⟩:=zc5 HB1;go_wp2_with (first|(go_at_call 46;refine(HPU.out _).mono ?_;rintro e w' ⟨rfl,rfl⟩))
 refine(HV2.out _).mono ?_;rintro e w2 ⟨rfl,hb⟩;have HA2:=hkh hb HA1;have HB2:=hkh hb HB1;have HC2:=hkh hb HC1;have HW2:=hbn HW1 hb;have hz2:=hb.size;clear hb b0 b1 b2 b3 b4;obtain⟨a0,a1,a2,a3,a4⟩:=zc5 HA2;go_wp2_with (first|(go_at_call 46;refine(HPU.out _).mono ?_;rintro e w' ⟨rfl,rfl⟩))
 refine(HX.out _).mono ?_;rintro e w3 ⟨rfl,hb⟩;have HB3:=zh (hgrow hb (.cells #[.int .i64 (nP X),.int .i64 (nQ X)] 23) HB2.out);have HC3:=zh (hgrow hb (.cells #[.int .i64 (nP X),.int .i64 (nQ X)] 23) HC2.out);have HX3:=zh (Qg w3 (.cells #[.int .i64 (nP X),.int .i64 (nQ X)] 23));have HW3:=zh ((QC HW2.out hb).alloc (by have:=hb.size;omega) (.cells #[.int .i64 (nP X),.int .i64 (nQ X)] 23));have hz3:=hb.size;clear hb a0 a1 a2 a3 a4;obtain⟨b0,b1,b2,b3,b4⟩:=zc5 HB3;go_wp2_with fail
 refine(HY.out _).mono ?_;rintro e w4 ⟨rfl,hb⟩;have HX4:=zh (hgrow hb (.cells #[.int .i64 (nP Y),.int .i64 (nQ Y)] 23) HX3.out);have HC4:=zh (hgrow hb (.cells #[.int .i64 (nP Y),.int .i64 (nQ Y)] 23) HC3.out);have HY4:=zh (Qg w4 (.cells #[.int .i64 (nP Y),.int .i64 (nQ Y)] 23));have HW4:=zh ((QC HW3.out hb).alloc (by have:=hb.size;simp at this;omega) (.cells #[.int .i64 (nP Y),.int .i64 (nQ Y)] 23));have hz4:=hb.size;simp at hz4;clear hb b0 b1 b2 b3 b4;have x0:(w4.alloc (.cells #[.int .i64 (nP Y),.int .i64 (nQ Y)] 23)).cell? w3=some (.int .i64 (nP X)):=by rw[QA HX4.out];rfl
 have x1:(w4.alloc (.cells #[.int .i64 (nP Y),.int .i64 (nQ Y)] 23)).cell? ⟨w3,1,none⟩=some (.int .i64 (nQ X)):=by rw[QA HX4.out];rfl
 have y0:(w4.alloc (.cells #[.int .i64 (nP Y),.int .i64 (nQ Y)] 23)).cell? w4=some (.int .i64 (nP Y)):=by rw[QA HY4.out];rfl
 have y1:(w4.alloc (.cells #[.int .i64 (nP Y),.int .i64 (nQ Y)] 23)).cell? ⟨w4,1,none⟩=some (.int .i64 (nQ Y)):=by rw[QA HY4.out];rfl
 go_wp2_with fail
 refine(HZ.out _).mono ?_;rintro e w5 ⟨rfl,hb⟩;have HC5:=zh (hgrow hb (.cells #[.int .i64 (nP Z),.int .i64 (nQ Z)] 23) HC4.out);have HZ5:=zh (Qg w5 (.cells #[.int .i64 (nP Z),.int .i64 (nQ Z)] 23));have HW5:=zh ((QC HW4.out hb).alloc (by have:=hb.size;simp at this;omega) (.cells #[.int .i64 (nP Z),.int .i64 (nQ Z)] 23));have hz5:=hb.size;simp at hz5;clear hb x0 x1 y0 y1;have z0:(w5.alloc (.cells #[.int .i64 (nP Z),.int .i64 (nQ Z)] 23)).cell? w5=some (.int .i64 (nP Z)):=by rw[QA HZ5.out];rfl
 have z1:(w5.alloc (.cells #[.int .i64 (nP Z),.int .i64 (nQ Z)] 23)).cell? ⟨w5,1,none⟩=some (.int .i64 (nQ Z)):=by rw[QA HZ5.out];rfl
 go_wp2_with fail
 refine(PJ _ _ _).mono ?_;rintro e w6 ⟨rfl,hb⟩;have HC6:=hkh hb HC5;have HW6:=hbn HW5 hb;clear hb;obtain⟨c0,c1,c2,c3,c4⟩:=zc5 HC6;obtain⟨fc0,fc1,fc2,fc3,fc4⟩:=zf5 HC6;go_wp2;refine zr (by simp[results,results12,go_sem,c0,c1,c2,c3,c4]<;>rfl) ?_;exact GJ hR rfl (QG HW6.out (by omega) _ _ _ _ _)
theorem Gm (w:World) (o:Int) (k1 p1 q1:Int) (s1:ByteArray) (r1:Int) (k2 p2 q2:Int) (s2:ByteArray) (r2:Int) (X Y Z:RR) (R:VR) (g1:1<=o) (g2:o<=23) (hun:∀W,Calls prog 46 #[o] W fun e w'=>e= .returned (.bool true)/\W=w') (hv1:∀W,Calls prog 26 #[.agg #[k1,p1,q1,s1,r1]] W (BoolPost W true)) (hv2:∀W,Calls prog 26 #[.agg #[k1,p1,q1,s1,r1]] W (BoolPost W true))
  (t8:(o==8)=false) (t14:(o==14)=false) (t15:(o==15)=false) (t16:(o==16)=false) (t17:(o==17)=false) (t18:(o==18)=false) (t19:(o==19)=false) (t21:(o==21)=false) (t22:(o==22)=false) (hx:∀W,Calls prog 52 #[.agg #[k1,p1,q1,s1,r1]] W (NumPost W X)) (hy:∀W,Calls prog 52 #[.agg #[k1,p1,q1,s1,r1]] W (NumPost W Y)) (hzz:∀W,Calls prog 53 #[o,.agg #[.int .i64 (nP X),.int .i64 (nQ X)],.agg #[.int .i64 (nP Y),.int .i64 (nQ Y)]] W (NumPost W Z)) (eX:((((nE X:Nat):Int) !=0)=true)) (hR:R= .error 8):Calls prog 12 #[o,.agg #[k1,p1,q1,s1,r1],.agg #[k2,p2,q2,s2,r2]] w (VrPost w R):=by
 have HX:=zh hx;have HY:=zh hy;have HZ:=zh hzz;clear hx hy hzz;have HPU:=zh hun;clear hun;have HV1:=zh hv1;clear hv1;have HV2:=zh hv2;clear hv2;go_enter func12,ntmps12;go_wp2_with (first|(go_at_call 46;refine(HPU.out _).mono ?_;rintro e w' ⟨rfl,rfl⟩))
 refine(HV1.out _).mono ?_;rintro e w1 ⟨rfl,hb⟩;have HA1:=hkh hb (Qi _ _ _ _);have HB1:=hkh hb (Qa _ _ _ _);have HC1:=hkh hb (QU _ _ _ _);have HW1:=hbn (QM _ _ _ _) hb;have hz1:=hb.size;simp at hz1;clear hb;obtain⟨b0,b1,b2,b3,b4⟩:=zc5 HB1;go_wp2_with (first|(go_at_call 46;refine(HPU.out _).mono ?_;rintro e w' ⟨rfl,rfl⟩))
 refine(HV2.out _).mono ?_;rintro e w2 ⟨rfl,hb⟩;have HA2:=hkh hb HA1;have HB2:=hkh hb HB1;have HC2:=hkh hb HC1;have HW2:=hbn HW1 hb;have hz2:=hb.size;clear hb b0 b1 b2 b3 b4;obtain⟨a0,a1,a2,a3,a4⟩:=zc5 HA2;go_wp2_with (first|(go_at_call 46;refine(HPU.out _).mono ?_;rintro e w' ⟨rfl,rfl⟩))
 refine(HX.out _).mono ?_;rintro e w3 ⟨rfl,hb⟩;have HB3:=zh (hgrow hb (.cells #[.int .i64 (nP X),.int .i64 (nQ X)] 23) HB2.out);have HC3:=zh (hgrow hb (.cells #[.int .i64 (nP X),.int .i64 (nQ X)] 23) HC2.out);have HX3:=zh (Qg w3 (.cells #[.int .i64 (nP X),.int .i64 (nQ X)] 23));have HW3:=zh ((QC HW2.out hb).alloc (by have:=hb.size;omega) (.cells #[.int .i64 (nP X),.int .i64 (nQ X)] 23));have hz3:=hb.size;clear hb a0 a1 a2 a3 a4;obtain⟨b0,b1,b2,b3,b4⟩:=zc5 HB3;go_wp2_with fail
 refine(HY.out _).mono ?_;rintro e w4 ⟨rfl,hb⟩;have HX4:=zh (hgrow hb (.cells #[.int .i64 (nP Y),.int .i64 (nQ Y)] 23) HX3.out);have HC4:=zh (hgrow hb (.cells #[.int .i64 (nP Y),.int .i64 (nQ Y)] 23) HC3.out);have HY4:=zh (Qg w4 (.cells #[.int .i64 (nP Y),.int .i64 (nQ Y)] 23));have HW4:=zh ((QC HW3.out hb).alloc (by have:=hb.size;simp at this;omega) (.cells #[.int .i64 (nP Y),.int .i64 (nQ Y)] 23));have hz4:=hb.size;simp at hz4;clear hb b0 b1 b2 b3 b4;obtain⟨c0,c1,c2,c3,c4⟩:=zc5 HC4;obtain⟨fc0,fc1,fc2,fc3,fc4⟩:=zf5 HC4;go_wp2;refine zr (by simp[results,results12,go_sem,c0,c1,c2,c3,c4]<;>rfl) ?_;exact ZF hR (QG HW4.out (by omega) _ _ _ _ _)
theorem Gl (w:World) (o:Int) (k1 p1 q1:Int) (s1:ByteArray) (r1:Int) (k2 p2 q2:Int) (s2:ByteArray) (r2:Int) (X Y Z:RR) (R:VR) (g1:1<=o) (g2:o<=23) (hun:∀W,Calls prog 46 #[o] W fun e w'=>e= .returned (.bool true)/\W=w') (hv1:∀W,Calls prog 26 #[.agg #[k1,p1,q1,s1,r1]] W (BoolPost W true)) (hv2:∀W,Calls prog 26 #[.agg #[k1,p1,q1,s1,r1]] W (BoolPost W true))
  (t8:(o==8)=false) (t14:(o==14)=false) (t15:(o==15)=false) (t16:(o==16)=false) (t17:(o==17)=false) (t18:(o==18)=false) (t19:(o==19)=false) (t21:(o==21)=false) (t22:(o==22)=false) (hx:∀W,Calls prog 52 #[.agg #[k1,p1,q1,s1,r1]] W (NumPost W X)) (hy:∀W,Calls prog 52 #[.agg #[k1,p1,q1,s1,r1]] W (NumPost W Y)) (hzz:∀W,Calls prog 53 #[o,.agg #[.int .i64 (nP X),.int .i64 (nQ X)],.agg #[.int .i64 (nP Y),.int .i64 (nQ Y)]] W (NumPost W Z)) (eX:((((nE X:Nat):Int) !=0)=false)) (eY:((((nE Y:Nat):Int) !=0)=true)) (hR:R= .error 8):Calls prog 12 #[o,.agg #[k1,p1,q1,s1,r1],.agg #[k2,p2,q2,s2,r2]] w (VrPost w R):=by
 have HX:=zh hx;have HY:=zh hy;have HZ:=zh hzz;clear hx hy hzz;have HPU:=zh hun;clear hun;have HV1:=zh hv1;clear hv1;have HV2:=zh hv2;clear hv2;go_enter func12,ntmps12;go_wp2_with (first|(go_at_call 46;refine(HPU.out _).mono ?_;rintro e w' ⟨rfl,rfl⟩))
 refine(HV1.out _).mono ?_;rintro e w1 ⟨rfl,hb⟩;have HA1:=hkh hb (Qi _ _ _ _);have HB1:=hkh hb (Qa _ _ _ _);have HC1:=hkh hb (QU _ _ _ _);have HW1:=hbn (QM _ _ _ _) hb;have hz1:=hb.size;simp at hz1;clear hb;obtain⟨b0,b1,b2,b3,b4⟩:=zc5 HB1;go_wp2_with (first|(go_at_call 46;refine(HPU.out _).mono ?_;rintro e w' ⟨rfl,rfl⟩))
 refine(HV2.out _).mono ?_;rintro e w2 ⟨rfl,hb⟩;have HA2:=hkh hb HA1;have HB2:=hkh hb HB1;have HC2:=hkh hb HC1;have HW2:=hbn HW1 hb;have hz2:=hb.size;clear hb b0 b1 b2 b3 b4;obtain⟨a0,a1,a2,a3,a4⟩:=zc5 HA2;go_wp2_with (first|(go_at_call 46;refine(HPU.out _).mono ?_;rintro e w' ⟨rfl,rfl⟩))
 refine(HX.out _).mono ?_;rintro e w3 ⟨rfl,hb⟩;have HB3:=zh (hgrow hb (.cells #[.int .i64 (nP X),.int .i64 (nQ X)] 23) HB2.out);have HC3:=zh (hgrow hb (.cells #[.int .i64 (nP X),.int .i64 (nQ X)] 23) HC2.out);have HX3:=zh (Qg w3 (.cells #[.int .i64 (nP X),.int .i64 (nQ X)] 23));have HW3:=zh ((QC HW2.out hb).alloc (by have:=hb.size;omega) (.cells #[.int .i64 (nP X),.int .i64 (nQ X)] 23));have hz3:=hb.size;clear hb a0 a1 a2 a3 a4;obtain⟨b0,b1,b2,b3,b4⟩:=zc5 HB3;go_wp2_with fail
 refine(HY.out _).mono ?_;rintro e w4 ⟨rfl,hb⟩;have HX4:=zh (hgrow hb (.cells #[.int .i64 (nP Y),.int .i64 (nQ Y)] 23) HX3.out);have HC4:=zh (hgrow hb (.cells #[.int .i64 (nP Y),.int .i64 (nQ Y)] 23) HC3.out);have HY4:=zh (Qg w4 (.cells #[.int .i64 (nP Y),.int .i64 (nQ Y)] 23));have HW4:=zh ((QC HW3.out hb).alloc (by have:=hb.size;simp at this;omega) (.cells #[.int .i64 (nP Y),.int .i64 (nQ Y)] 23));have hz4:=hb.size;simp at hz4;clear hb b0 b1 b2 b3 b4;obtain⟨c0,c1,c2,c3,c4⟩:=zc5 HC4;obtain⟨fc0,fc1,fc2,fc3,fc4⟩:=zf5 HC4;go_wp2;refine zr (by simp[results,results12,go_sem,c0,c1,c2,c3,c4]<;>rfl) ?_;exact ZF hR (QG HW4.out (by omega) _ _ _ _ _)
theorem Gk (w:World) (o:Int) (k1 p1 q1:Int) (s1:ByteArray) (r1:Int) (k2 p2 q2:Int) (s2:ByteArray) (r2:Int) (X Y Z:RR) (R:VR) (g1:1<=o) (g2:o<=23) (hun:∀W,Calls prog 46 #[o] W fun e w'=>e= .returned (.bool true)/\W=w') (hv1:∀W,Calls prog 26 #[.agg #[k1,p1,q1,s1,r1]] W (BoolPost W true)) (hv2:∀W,Calls prog 26 #[.agg #[k1,p1,q1,s1,r1]] W (BoolPost W true))
  (t8:(o==8)=false) (t14:(o==14)=false) (t15:(o==15)=false) (t16:(o==16)=false) (t17:(o==17)=false) (t18:(o==18)=false) (t19:(o==19)=false) (t21:(o==21)=false) (t22:(o==22)=false) (hx:∀W,Calls prog 52 #[.agg #[k1,p1,q1,s1,r1]] W (NumPost W X)) (hy:∀W,Calls prog 52 #[.agg #[k1,p1,q1,s1,r1]] W (NumPost W Y)) (hzz:∀W,Calls prog 53 #[o,.agg #[.int .i64 (nP X),.int .i64 (nQ X)],.agg #[.int .i64 (nP Y),.int .i64 (nQ Y)]] W (NumPost W Z)) (eX:((((nE X:Nat):Int) !=0)=false)) (eY:((((nE Y:Nat):Int) !=0)=false)) (eZ:((((nE Z:Nat):Int) !=0)=true)) (hR:R= .error (nE Z)):Calls prog 12 #[o,.agg #[k1,p1,q1,s1,r1],.agg #[k2,p2,q2,s2,r2]] w (VrPost w R):=by
 have HX:=zh hx;have HY:=zh hy;have HZ:=zh hzz;clear hx hy hzz;have HPU:=zh hun;clear hun;have HV1:=zh hv1;clear hv1;have HV2:=zh hv2;clear hv2;go_enter func12,ntmps12;go_wp2_with (first|(go_at_call 46;refine(HPU.out _).mono ?_;rintro e w' ⟨rfl,rfl⟩))
 refine(HV1.out _).mono ?_;rintro e w1 ⟨rfl,hb⟩;have HA1:=hkh hb (Qi _ _ _ _);have HB1:=hkh hb (Qa _ _ _ _);have HC1:=hkh hb (QU _ _ _ _);have HW1:=hbn (QM _ _ _ _) hb;have hz1:=hb.size;simp at hz1;clear hb;obtain⟨b0,b1,b2,b3,b4⟩:=zc5 HB1;go_wp2_with (first|(go_at_call 46;refine(HPU.out _).mono ?_;rintro e w' ⟨rfl,rfl⟩))
 refine(HV2.out _).mono ?_;rintro e w2 ⟨rfl,hb⟩;have HA2:=hkh hb HA1;have HB2:=hkh hb HB1;have HC2:=hkh hb HC1;have HW2:=hbn HW1 hb;have hz2:=hb.size;clear hb b0 b1 b2 b3 b4;obtain⟨a0,a1,a2,a3,a4⟩:=zc5 HA2;go_wp2_with (first|(go_at_call 46;refine(HPU.out _).mono ?_;rintro e w' ⟨rfl,rfl⟩))
 refine(HX.out _).mono ?_;rintro e w3 ⟨rfl,hb⟩;have HB3:=zh (hgrow hb (.cells #[.int .i64 (nP X),.int .i64 (nQ X)] 23) HB2.out);have HC3:=zh (hgrow hb (.cells #[.int .i64 (nP X),.int .i64 (nQ X)] 23) HC2.out);have HX3:=zh (Qg w3 (.cells #[.int .i64 (nP X),.int .i64 (nQ X)] 23));have HW3:=zh ((QC HW2.out hb).alloc (by have:=hb.size;omega) (.cells #[.int .i64 (nP X),.int .i64 (nQ X)] 23));have hz3:=hb.size;clear hb a0 a1 a2 a3 a4;obtain⟨b0,b1,b2,b3,b4⟩:=zc5 HB3;go_wp2_with fail
 refine(HY.out _).mono ?_;rintro e w4 ⟨rfl,hb⟩;have HX4:=zh (hgrow hb (.cells #[.int .i64 (nP Y),.int .i64 (nQ Y)] 23) HX3.out);have HC4:=zh (hgrow hb (.cells #[.int .i64 (nP Y),.int .i64 (nQ Y)] 23) HC3.out);have HY4:=zh (Qg w4 (.cells #[.int .i64 (nP Y),.int .i64 (nQ Y)] 23));have HW4:=zh ((QC HW3.out hb).alloc (by have:=hb.size;simp at this;omega) (.cells #[.int .i64 (nP Y),.int .i64 (nQ Y)] 23));have hz4:=hb.size;simp at hz4;clear hb b0 b1 b2 b3 b4;have x0:(w4.alloc (.cells #[.int .i64 (nP Y),.int .i64 (nQ Y)] 23)).cell? w3=some (.int .i64 (nP X)):=by rw[QA HX4.out];rfl
 have x1:(w4.alloc (.cells #[.int .i64 (nP Y),.int .i64 (nQ Y)] 23)).cell? ⟨w3,1,none⟩=some (.int .i64 (nQ X)):=by rw[QA HX4.out];rfl
 have y0:(w4.alloc (.cells #[.int .i64 (nP Y),.int .i64 (nQ Y)] 23)).cell? w4=some (.int .i64 (nP Y)):=by rw[QA HY4.out];rfl
 have y1:(w4.alloc (.cells #[.int .i64 (nP Y),.int .i64 (nQ Y)] 23)).cell? ⟨w4,1,none⟩=some (.int .i64 (nQ Y)):=by rw[QA HY4.out];rfl
 go_wp2_with fail
 refine(HZ.out _).mono ?_;rintro e w5 ⟨rfl,hb⟩;have HC5:=zh (hgrow hb (.cells #[.int .i64 (nP Z),.int .i64 (nQ Z)] 23) HC4.out);have HZ5:=zh (Qg w5 (.cells #[.int .i64 (nP Z),.int .i64 (nQ Z)] 23));have HW5:=zh ((QC HW4.out hb).alloc (by have:=hb.size;simp at this;omega) (.cells #[.int .i64 (nP Z),.int .i64 (nQ Z)] 23));have hz5:=hb.size;simp at hz5;clear hb x0 x1 y0 y1;obtain⟨c0,c1,c2,c3,c4⟩:=zc5 HC5;obtain⟨fc0,fc1,fc2,fc3,fc4⟩:=zf5 HC5;go_wp2;refine zr (by simp[results,results12,go_sem,c0,c1,c2,c3,c4]<;>rfl) ?_;exact ZF hR (QG HW5.out (by omega) _ _ _ _ _)
theorem Yt (w:World) (o:Int) (k1 p1 q1:Int) (s1:ByteArray) (r1:Int) (k2 p2 q2:Int) (s2:ByteArray) (r2:Int) (X Y Z:RR) (R:VR) (g1:1<=o) (g2:o<=23) (hun:∀W,Calls prog 46 #[o] W fun e w'=>e= .returned (.bool true)/\W=w') (hv1:∀W,Calls prog 26 #[.agg #[k1,p1,q1,s1,r1]] W (BoolPost W true)) (hv2:∀W,Calls prog 26 #[.agg #[k1,p1,q1,s1,r1]] W (BoolPost W true))
  (t8:(o==8)=false) (t14:(o==14)=false) (t15:(o==15)=false) (t16:(o==16)=false) (t17:(o==17)=false) (t18:(o==18)=false) (t19:(o==19)=false) (t21:(o==21)=false) (t22:(o==22)=false) (hx:∀W,Calls prog 52 #[.agg #[k1,p1,q1,s1,r1]] W (NumPost W X)) (hy:∀W,Calls prog 52 #[.agg #[k1,p1,q1,s1,r1]] W (NumPost W Y)) (hzz:∀W,Calls prog 53 #[o,.agg #[.int .i64 (nP X),.int .i64 (nQ X)],.agg #[.int .i64 (nP Y),.int .i64 (nQ Y)]] W (NumPost W Z)) (eX:((((nE X:Nat):Int) !=0)=false)) (eY:((((nE Y:Nat):Int) !=0)=false)) (eZ:((((nE Z:Nat):Int) !=0)=false)) (hR:R= .ok (GP (nP Z,nQ Z))):Calls prog 12 #[o,.agg #[k1,p1,q1,s1,r1],.agg #[k2,p2,q2,s2,r2]] w (VrPost w R):=by
 have HX:=zh hx;have HY:=zh hy;have HZ:=zh hzz;clear hx hy hzz;have HPU:=zh hun;clear hun;have HV1:=zh hv1;clear hv1;have HV2:=zh hv2;clear hv2;go_enter func12,ntmps12;go_wp2_with (first|(go_at_call 46;refine(HPU.out _).mono ?_;rintro e w' ⟨rfl,rfl⟩))
 refine(HV1.out _).mono ?_;rintro e w1 ⟨rfl,hb⟩;have HA1:=hkh hb (Qi _ _ _ _);have HB1:=hkh hb (Qa _ _ _ _);have HC1:=hkh hb (QU _ _ _ _);have HW1:=hbn (QM _ _ _ _) hb;have hz1:=hb.size;simp at hz1;clear hb;obtain⟨b0,b1,b2,b3,b4⟩:=zc5 HB1;go_wp2_with (first|(go_at_call 46;refine(HPU.out _).mono ?_;rintro e w' ⟨rfl,rfl⟩))
 refine(HV2.out _).mono ?_;rintro e w2 ⟨rfl,hb⟩;have HA2:=hkh hb HA1;have HB2:=hkh hb HB1;have HC2:=hkh hb HC1;have HW2:=hbn HW1 hb;have hz2:=hb.size;clear hb b0 b1 b2 b3 b4;obtain⟨a0,a1,a2,a3,a4⟩:=zc5 HA2;go_wp2_with (first|(go_at_call 46;refine(HPU.out _).mono ?_;rintro e w' ⟨rfl,rfl⟩))
 refine(HX.out _).mono ?_;rintro e w3 ⟨rfl,hb⟩;have HB3:=zh (hgrow hb (.cells #[.int .i64 (nP X),.int .i64 (nQ X)] 23) HB2.out);have HC3:=zh (hgrow hb (.cells #[.int .i64 (nP X),.int .i64 (nQ X)] 23) HC2.out);have HX3:=zh (Qg w3 (.cells #[.int .i64 (nP X),.int .i64 (nQ X)] 23));have HW3:=zh ((QC HW2.out hb).alloc (by have:=hb.size;omega) (.cells #[.int .i64 (nP X),.int .i64 (nQ X)] 23));have hz3:=hb.size;clear hb a0 a1 a2 a3 a4;obtain⟨b0,b1,b2,b3,b4⟩:=zc5 HB3;go_wp2_with fail
 refine(HY.out _).mono ?_;rintro e w4 ⟨rfl,hb⟩;have HX4:=zh (hgrow hb (.cells #[.int .i64 (nP Y),.int .i64 (nQ Y)] 23) HX3.out);have HC4:=zh (hgrow hb (.cells #[.int .i64 (nP Y),.int .i64 (nQ Y)] 23) HC3.out);have HY4:=zh (Qg w4 (.cells #[.int .i64 (nP Y),.int .i64 (nQ Y)] 23));have HW4:=zh ((QC HW3.out hb).alloc (by have:=hb.size;simp at this;omega) (.cells #[.int .i64 (nP Y),.int .i64 (nQ Y)] 23));have hz4:=hb.size;simp at hz4;clear hb b0 b1 b2 b3 b4;have x0:(w4.alloc (.cells #[.int .i64 (nP Y),.int .i64 (nQ Y)] 23)).cell? w3=some (.int .i64 (nP X)):=by rw[QA HX4.out];rfl
 have x1:(w4.alloc (.cells #[.int .i64 (nP Y),.int .i64 (nQ Y)] 23)).cell? ⟨w3,1,none⟩=some (.int .i64 (nQ X)):=by rw[QA HX4.out];rfl
 have y0:(w4.alloc (.cells #[.int .i64 (nP Y),.int .i64 (nQ Y)] 23)).cell? w4=some (.int .i64 (nP Y)):=by rw[QA HY4.out];rfl
 have y1:(w4.alloc (.cells #[.int .i64 (nP Y),.int .i64 (nQ Y)] 23)).cell? ⟨w4,1,none⟩=some (.int .i64 (nQ Y)):=by rw[QA HY4.out];rfl
 go_wp2_with fail
 refine(HZ.out _).mono ?_;rintro e w5 ⟨rfl,hb⟩;have HC5:=zh (hgrow hb (.cells #[.int .i64 (nP Z),.int .i64 (nQ Z)] 23) HC4.out);have HZ5:=zh (Qg w5 (.cells #[.int .i64 (nP Z),.int .i64 (nQ Z)] 23));have HW5:=zh ((QC HW4.out hb).alloc (by have:=hb.size;simp at this;omega) (.cells #[.int .i64 (nP Z),.int .i64 (nQ Z)] 23));have hz5:=hb.size;simp at hz5;clear hb x0 x1 y0 y1;have z0:(w5.alloc (.cells #[.int .i64 (nP Z),.int .i64 (nQ Z)] 23)).cell? w5=some (.int .i64 (nP Z)):=by rw[QA HZ5.out];rfl
 have z1:(w5.alloc (.cells #[.int .i64 (nP Z),.int .i64 (nQ Z)] 23)).cell? ⟨w5,1,none⟩=some (.int .i64 (nQ Z)):=by rw[QA HZ5.out];rfl
 go_wp2_with fail
 refine(PJ _ _ _).mono ?_;rintro e w6 ⟨rfl,hb⟩;have HC6:=hkh hb HC5;have HW6:=hbn HW5 hb;clear hb;obtain⟨c0,c1,c2,c3,c4⟩:=zc5 HC6;obtain⟨fc0,fc1,fc2,fc3,fc4⟩:=zf5 HC6;go_wp2;refine zr (by simp[results,results12,go_sem,c0,c1,c2,c3,c4]<;>rfl) ?_;exact GJ hR rfl (QG HW6.out (by omega) _ _ _ _ _)
end Go.Proofs.YthkpckgcgkijbaaGreatDoor
