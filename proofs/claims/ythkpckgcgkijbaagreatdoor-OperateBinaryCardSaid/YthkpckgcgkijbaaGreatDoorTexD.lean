import Derived.Test.YthkpckgcgkijbaaGreatDoorOpD
import Derived.Test.YthkpckgcgkijbaaGreatDoorBitA
set_option linter.unusedVariables false
set_option linter.unusedSimpArgs false
set_option maxRecDepth 100000
set_option maxHeartbeats 2000000
namespace Go.Proofs.YthkpckgcgkijbaaGreatDoor
open Go.RowKit Go.Proofs.Lexi Go.Proofs.Tryz
theorem AG (w:World) (htab:Pow10 w) (n:Int) (h1: -9223372036854775807<=n) (h2:n<=9223372036854775807) (W:World) (hW:Below w w W):
  Calls prog 211 #[n] W (fun e w'=>e= .returned (.string (Ju n))/\Below W W w'):=by
 refine(strconv_Itoa n (by omega) h2 W (htab.stays hW)).mono ?_;rintro e w' ⟨rfl,k,os,rfl⟩;exact⟨rfl,Tw _ _ _⟩
theorem SL (w:World) (p q:Int) (htab:Pow10 w):Calls prog 154 #[.agg #[p,q]] w (StrB w (GT (p,q))):=by
 have HB:=zh (Qj w (o2 p q));obtain⟨R,hR⟩:∃R,R=GT (p,q):=⟨_,rfl⟩
 rw[<-hR];have HV:=zh (fun W=>Q5 W p q);obtain⟨V,hV⟩:∃V,QT (p,q)=V:=⟨_,rfl⟩
 rw[hV] at HV;cases V with
 |false=>
  have HR:=zh (show R=⟨#[110,97,110]⟩ from by rw[hR];unfold GT;rw[hV];rfl);clear hR hV;go_enter func154,ntmps154;go_wp2_with fail
  refine(HV.out _).mono ?_;rintro e w1 ⟨rfl,hb⟩;have HB1:=hbn HB.out hb;clear hb;go_wp2
  go_ret
  exact K7 HR.out HB1.out
 |true=>
  obtain⟨b1,b2,b3,b4⟩:=QO hV;have HDP:=zh (fun W hW=>AG w htab p (by omega) (by omega) W hW);have HDQ:=zh (fun W hW=>AG w htab q (by omega) (by omega) W hW);have hzp:=Jm (n:=p) b3 b4;have hzq:=Jm (n:=q) (by omega) b2;by_cases h1:q=1
  ·have HR:=zh (show R=Ju p from by rw[hR];unfold GT;rw[hV,if_pos rfl,if_pos h1]);have hq1:(q==1)=true:=by rw[beq_iff_eq];exact h1
   clear hR hV h1;go_enter func154,ntmps154;go_wp2_with fail
   refine(HV.out _).mono ?_;rintro e w1 ⟨rfl,hb⟩;obtain⟨hc,hf⟩:=QN hb;have c0:w1.cell? w=some (.int .i64 p):=(hc _ _ (by simp)).trans (by simp[go_sem]);have c1:w1.cell? ⟨w,1,none⟩=some (.int .i64 q):=(hc _ _ (by simp)).trans (by simp[go_sem]);have HB1:=hbn HB.out hb;clear hb hc hf;go_wp2_with fail
   refine(HDP.out _ HB1.out).mono ?_;rintro e w2 ⟨rfl,hb⟩;have HB2:=hbn HB1.out hb;clear hb;go_wp2
   go_ret
   exact K7 HR.out HB2.out
  ·have HR:=zh (show R=Ju p++slashB++Ju q from by rw[hR];unfold GT;rw[hV,if_pos rfl,if_neg h1]);have hq1:(q==1)=false:=by rw[beq_eq_false_iff_ne];exact h1
   have hss:slashB.size=1:=rfl;have had1:=Jx (Ju p) slashB (by omega);have had2:=Jx (Ju p++slashB) (Ju q) (by rw[ByteArray.size_append];omega);obtain⟨A,hA⟩:∃A,Ju p=A:=⟨_,rfl⟩
   obtain⟨B,hB⟩:∃B,Ju q=B:=⟨_,rfl⟩
   rw[hA] at HDP;rw[hB] at HDQ;rw[hA] at had1 had2 HR hzp;rw[hB] at had2 HR hzq;obtain⟨X,hX⟩:∃X,A++slashB=X:=⟨_,rfl⟩
   obtain⟨Y,hY⟩:∃Y,X++B=Y:=⟨_,rfl⟩
   rw[hX] at had1 had2 HR;rw[hY] at had2 HR;have had1:∀W,(Op.stringOp .add A ⟨#[47]⟩).run prog W= .ok (.string X) W:=had1;clear hR hV h1 hA hB hX hY hss;go_enter func154,ntmps154;go_wp2_with fail
   refine(HV.out _).mono ?_;rintro e w1 ⟨rfl,hb⟩;obtain⟨hc,hf⟩:=QN hb;have c0:w1.cell? w=some (.int .i64 p):=(hc _ _ (by simp)).trans (by simp[go_sem]);have c1:w1.cell? ⟨w,1,none⟩=some (.int .i64 q):=(hc _ _ (by simp)).trans (by simp[go_sem]);have HB1:=hbn HB.out hb;have SOF:=zh (fun(W:World) (h:Below w1 w1 W)=>(⟨XB h c0,XB h c1⟩:W.cell? w=some (.int .i64 p)/\W.cell? ⟨w,1,none⟩=some (.int .i64 q)));have D0:=zh (show Below w1 w1 w1.drew from(Below.refl _ _).drew);have NXT:=zh (fun(V W:World) (h1:Below w1 w1 V) (h2:Below V V W)=>h1.trans (h2.mono h1.size));have LAST:=zh (fun(W:World) (h:Below w1 w1 W)=>QC HB1.out h);clear hb hc hf;go_wp2
   go_region_held3 (fun W=>W.cell? w=some (.int .i64 p)/\W.cell? ⟨w,1,none⟩=some (.int .i64 q)) (first|exact SOF.out _ (by assumption)|exact SOF.out _ D0.out) (first|((go_at_call 211;(with_reducible refine(HDP.out _ (LAST.out _ (by first|assumption|exact D0.out))).mono ?_);rintro e W ⟨rfl,hbn⟩;have hW:=NXT.out _ _ (by first|assumption|exact D0.out) hbn;clear hbn))|((go_at_call 211;(with_reducible refine(HDQ.out _ (LAST.out _ (by first|assumption|exact D0.out))).mono ?_);rintro e W ⟨rfl,hbn⟩;have hW:=NXT.out _ _ (by first|assumption|exact D0.out) hbn;clear hbn)))
   go_wp2
   go_ret
   exact K7 HR.out (LAST.out _ (by assumption))
theorem Zq (w:World) (b:Bool):Calls prog 41 #[.bool b] w (ValPost w (JK b)):=by
 cases b
 all_goals
  go_enter func41,ntmps41;go_wp2;refine zr (by simp[results,results41,go_sem]<;>rfl) ?_;exact Qo rfl (Qj _ _)
theorem Xc (w:World) (s:ByteArray):Calls prog 93 #[s] w (ValPost w (KR s)):=by
 go_enter func93,ntmps93;go_wp2;refine zr (by simp[results,results93,go_sem]<;>rfl) ?_;exact Qo rfl (Qj _ _)
theorem Y6 (w:World) (n:Int):Calls prog 44 #[n] w (ValPost w (Xl n)):=by
 have hw:n< -2147483647\/(¬n< -2147483647/\2147483647<n)\/(¬n< -2147483647/\¬2147483647<n):=by omega
 rcases hw with h|⟨h,h2⟩|⟨h,h2⟩
 ·have HR:=zh (show Xl n=V.nil from by unfold Xl;rw[if_neg];rw[inTop_iff];omega);go_enter func44,ntmps44;go_wp2;refine zr (by simp[results,results44,go_sem]<;>rfl) ?_;exact Qo HR.out (Qj _ _)
 ·have HR:=zh (show Xl n=V.nil from by unfold Xl;rw[if_neg];rw[inTop_iff];omega);go_enter func44,ntmps44;go_wp2;refine zr (by simp[results,results44,go_sem]<;>rfl) ?_;exact Qo HR.out (Qj _ _)
 ·have HR:=zh (show Xl n=⟨2,n,1,⟨#[]⟩,0⟩ from by unfold Xl;rw[if_pos];rw[inTop_iff];omega);go_enter func44,ntmps44;go_wp2;refine zr (by simp[results,results44,go_sem]<;>rfl) ?_;exact Qo HR.out (Qj _ _)
theorem Xb (w:World) (k p q:Int) (s:ByteArray) (r:Int):Calls prog 43 #[.agg #[k,p,q,s,r]] w (BoolPost w (YL ⟨k,p,q,s,r⟩)):=by
 obtain⟨R,hR⟩:∃R,R=YL ⟨k,p,q,s,r⟩:=⟨_,rfl⟩
 rw[<-hR];have HR:=zh hR;clear hR;go_enter func43,ntmps43;go_wp2;all_goals
  go_ret
  have h:=HR.out;clear HR;refine Q9 ?_ (by first|exact Qj _ _|exact(Qj _ _).drew|exact below_drewN (Qj _ _) _);subst h;simp_all[YL,bne]
theorem Pm (w:World) (p q:Int):Calls prog 91 #[.agg #[p,q]] w (ValPost w (GP (p,q))):=by
 cases hv:QT (p,q)
 all_goals
  have HV:=zh (fun W=>(hv▸Q5 W p q:Calls prog 88 #[.agg #[p,q]] W (BoolPost W _)));have HW:=zh hv;clear hv;go_enter func91,ntmps91;go_wp2_with fail
  refine(HV.out _).mono ?_;rintro e w1 ⟨rfl,hb⟩;obtain⟨hc,hf⟩:=QN hb;have hz:=hb.size;simp at hz;have c0:w1.cell? w=some (.int .i64 p):=(hc _ _ (by simp<;>omega)).trans (by simp[go_sem]);have c1:w1.cell? ⟨w,1,none⟩=some (.int .i64 q):=(hc _ _ (by simp<;>omega)).trans (by simp[go_sem]);have HB1:=hbn (QE _ _ _) hb;go_wp2;refine zr (by simp[results,results91,go_sem,hc]<;>rfl) ?_;refine Qo (show GP (p,q)=_ from ?_) ?_
  ·unfold GP;rw[HW.out];rfl
  ·first|exact HB1.out|exact QG HB1.out (by simp<;>omega) _ _ _ _ _
theorem TY (w:World) (a b:V):Calls prog 42 #[a.v,b.v] w (BoolPost w (eqV a b)):=by
 obtain⟨k,p,q,s,r⟩:=a;obtain⟨k2,p2,q2,s2,r2⟩:=b;obtain⟨R,hR⟩:∃R,R=eqV ⟨k,p,q,s,r⟩ ⟨k2,p2,q2,s2,r2⟩:=⟨_,rfl⟩
 rw[<-hR];have HR:=zh hR;clear hR;go_enter func42,ntmps42;go_wp2;all_goals
  go_ret
  have h:=HR.out;clear HR;refine Q9 ?_ (QE _ _ _);subst h;simp_all[eqV,JV]
theorem AS (w:World) (k p q:Int) (s:ByteArray) (r:Int) (htab:Pow10 w):Calls prog 92 #[.agg #[k,p,q,s,r]] w (SrPost w (JE ⟨k,p,q,s,r⟩)):=by
 have HTAB:=zh htab;clear htab;by_cases h3:k=3
 ·subst h3;go_enter func92,ntmps92;go_wp2
  go_ret2
  exact Ll rfl (Qj _ _)
 ·have k3:(k==3)=false:=by rw[beq_eq_false_iff_ne];exact h3
  by_cases h2:k=2
  ·subst h2;cases hv:QT (p,q)
   ·have HV:=zh (fun W=>(hv▸Q5 W p q:Calls prog 88 #[.agg #[p,q]] W (BoolPost W _)));have HR:=zh (show JE ⟨2,p,q,s,r⟩= .error 8 from by show(if QT (p,q) then _ else _)=_;rw[hv];rfl);clear hv h3 k3;go_enter func92,ntmps92;go_wp2_with fail
    refine(HV.out _).mono ?_;rintro e w1 ⟨rfl,hb⟩;have HB1:=hbn (Qj _ _) hb;go_wp2
    go_ret2
    exact T8 HR.out HB1.out
   ·have HV:=zh (fun W=>(hv▸Q5 W p q:Calls prog 88 #[.agg #[p,q]] W (BoolPost W _)));have HR:=zh (show JE ⟨2,p,q,s,r⟩= .ok (GT (p,q)) from by show(if QT (p,q) then _ else _)=_;rw[hv];rfl);clear hv h3 k3;go_enter func92,ntmps92;go_wp2_with fail
    refine(HV.out _).mono ?_;rintro e w1 ⟨rfl,hb⟩;obtain⟨hc,hf⟩:=QN hb;have HB1:=hbn (Qj _ _) hb;go_wp2_with fail
    refine(SL w1 p q (HTAB.out.stays HB1.out)).mono ?_;rintro e w2 ⟨rfl,hb2⟩;have HB2:=hbn HB1 hb2;clear hc hf hb hb2;go_wp2
    go_ret2
    exact Ll HR.out HB2.out
  ·have k2:(k==2)=false:=by rw[beq_eq_false_iff_ne];exact h2
   have HR:=zh (show JE ⟨k,p,q,s,r⟩= .error 8 from by unfold JE;rw[if_neg h3,if_neg h2]);clear h2 h3;go_enter func92,ntmps92;go_wp2
   go_ret2
   exact T8 HR.out (Qj _ _)
theorem Ab (w:World) (p q:Int) (s:ByteArray) (r:Int) (p2 q2:Int) (s2:ByteArray) (r2:Int):Calls prog 94 #[.agg #[.int .i64 2,p,q,s,r],.agg #[.int .i64 2,p2,q2,s2,r2]] w (BrPost w (if QT (p,q)&&QT (p2,q2) then .ok (decide (FY (p,q) (p2,q2)<0)) else .error 8)):=by
 obtain⟨R,hR⟩:∃R:BR,R=if QT (p,q)&&QT (p2,q2) then .ok (decide (FY (p,q) (p2,q2)<0)) else .error 8:=⟨_,rfl⟩
 rw[<-hR];cases h1:QT (p,q)
 ·have HR:=zh (show R= .error 8 from by rw[hR,h1];rfl);have HV:=zh (fun W=>(h1▸Q5 W p q:Calls prog 88 #[.agg #[p,q]] W (BoolPost W _)));clear h1 hR;go_enter func94,ntmps94;go_wp2_with fail
  refine(HV.out _).mono ?_;rintro e w1 ⟨rfl,hb⟩;obtain⟨hc,hf⟩:=QN hb;have hz:=hb.size;simp at hz;have HB1:=hbn (QE _ _ _) hb;have a0:w1.cell? w=some (.int .i64 2):=(hc _ _ (by simp<;>omega)).trans (by simp[go_sem]);have a1:w1.cell? ⟨w,1,none⟩=some (.int .i64 p):=(hc _ _ (by simp<;>omega)).trans (by simp[go_sem]);have a2:w1.cell? ⟨w,2,none⟩=some (.int .i64 q):=(hc _ _ (by simp<;>omega)).trans (by simp[go_sem]);have b0:w1.cell? ⟨w+1,0,none⟩=some (.int .i64 2):=(hc _ _ (by simp<;>omega)).trans (by simp[go_sem]);have b1:w1.cell? ⟨w+1,1,none⟩=some (.int .i64 p2):=(hc _ _ (by simp<;>omega)).trans (by simp[go_sem]);have b2:w1.cell? ⟨w+1,2,none⟩=some (.int .i64 q2):=(hc _ _ (by simp<;>omega)).trans (by simp[go_sem]);clear hb hc hf;go_wp2
  go_ret2
  exact Uo HR.out HB1.out
 ·cases h2:QT (p2,q2)
  ·have HR:=zh (show R= .error 8 from by rw[hR,h1,h2];rfl);have HV:=zh (fun W=>(h1▸Q5 W p q:Calls prog 88 #[.agg #[p,q]] W (BoolPost W _)));have HV2:=zh (fun W=>(h2▸Q5 W p2 q2:Calls prog 88 #[.agg #[p2,q2]] W (BoolPost W _)));clear h1 h2 hR;go_enter func94,ntmps94;go_wp2_with fail
   refine(HV.out _).mono ?_;rintro e w1 ⟨rfl,hb⟩;obtain⟨hc,hf⟩:=QN hb;have hz:=hb.size;simp at hz;have HB1:=hbn (QE _ _ _) hb;have a0:w1.cell? w=some (.int .i64 2):=(hc _ _ (by simp<;>omega)).trans (by simp[go_sem]);have a1:w1.cell? ⟨w,1,none⟩=some (.int .i64 p):=(hc _ _ (by simp<;>omega)).trans (by simp[go_sem]);have a2:w1.cell? ⟨w,2,none⟩=some (.int .i64 q):=(hc _ _ (by simp<;>omega)).trans (by simp[go_sem]);have b0:w1.cell? ⟨w+1,0,none⟩=some (.int .i64 2):=(hc _ _ (by simp<;>omega)).trans (by simp[go_sem]);have b1:w1.cell? ⟨w+1,1,none⟩=some (.int .i64 p2):=(hc _ _ (by simp<;>omega)).trans (by simp[go_sem]);have b2:w1.cell? ⟨w+1,2,none⟩=some (.int .i64 q2):=(hc _ _ (by simp<;>omega)).trans (by simp[go_sem]);clear hb hc hf;go_wp2_with fail
   refine(HV2.out _).mono ?_;rintro e w2 ⟨rfl,hb⟩;obtain⟨hc,hf⟩:=QN hb;have hz2:=hb.size;have HB2:=hbn HB1 hb;have ca0:w2.cell? w=some (.int .i64 2):=(hc _ _ (by omega)).trans a0;have ca1:w2.cell? ⟨w,1,none⟩=some (.int .i64 p):=(hc _ _ (by omega)).trans a1;have ca2:w2.cell? ⟨w,2,none⟩=some (.int .i64 q):=(hc _ _ (by omega)).trans a2;have cb0:w2.cell? ⟨w+1,0,none⟩=some (.int .i64 2):=(hc _ _ (by omega)).trans b0;have cb1:w2.cell? ⟨w+1,1,none⟩=some (.int .i64 p2):=(hc _ _ (by omega)).trans b1;have cb2:w2.cell? ⟨w+1,2,none⟩=some (.int .i64 q2):=(hc _ _ (by omega)).trans b2;clear hb hc hf a0 a1 a2 b0 b1 b2;go_wp2
   go_ret2
   exact Uo HR.out HB2.out
  ·have HR:=zh (show R= .ok (decide (FY (p,q) (p2,q2)<0)) from by rw[hR,h1,h2];rfl);have HV:=zh (fun W=>(h1▸Q5 W p q:Calls prog 88 #[.agg #[p,q]] W (BoolPost W _)));have HV2:=zh (fun W=>(h2▸Q5 W p2 q2:Calls prog 88 #[.agg #[p2,q2]] W (BoolPost W _)));clear h1 h2 hR;go_enter func94,ntmps94;go_wp2_with fail
   refine(HV.out _).mono ?_;rintro e w1 ⟨rfl,hb⟩;obtain⟨hc,hf⟩:=QN hb;have hz:=hb.size;simp at hz;have HB1:=hbn (QE _ _ _) hb;have a0:w1.cell? w=some (.int .i64 2):=(hc _ _ (by simp<;>omega)).trans (by simp[go_sem]);have a1:w1.cell? ⟨w,1,none⟩=some (.int .i64 p):=(hc _ _ (by simp<;>omega)).trans (by simp[go_sem]);have a2:w1.cell? ⟨w,2,none⟩=some (.int .i64 q):=(hc _ _ (by simp<;>omega)).trans (by simp[go_sem]);have b0:w1.cell? ⟨w+1,0,none⟩=some (.int .i64 2):=(hc _ _ (by simp<;>omega)).trans (by simp[go_sem]);have b1:w1.cell? ⟨w+1,1,none⟩=some (.int .i64 p2):=(hc _ _ (by simp<;>omega)).trans (by simp[go_sem]);have b2:w1.cell? ⟨w+1,2,none⟩=some (.int .i64 q2):=(hc _ _ (by simp<;>omega)).trans (by simp[go_sem]);clear hb hc hf;go_wp2_with fail
   refine(HV2.out _).mono ?_;rintro e w2 ⟨rfl,hb⟩;obtain⟨hc,hf⟩:=QN hb;have hz2:=hb.size;have HB2:=hbn HB1 hb;have ca0:w2.cell? w=some (.int .i64 2):=(hc _ _ (by omega)).trans a0;have ca1:w2.cell? ⟨w,1,none⟩=some (.int .i64 p):=(hc _ _ (by omega)).trans a1;have ca2:w2.cell? ⟨w,2,none⟩=some (.int .i64 q):=(hc _ _ (by omega)).trans a2;have cb0:w2.cell? ⟨w+1,0,none⟩=some (.int .i64 2):=(hc _ _ (by omega)).trans b0;have cb1:w2.cell? ⟨w+1,1,none⟩=some (.int .i64 p2):=(hc _ _ (by omega)).trans b1;have cb2:w2.cell? ⟨w+1,2,none⟩=some (.int .i64 q2):=(hc _ _ (by omega)).trans b2;clear hb hc hf a0 a1 a2 b0 b1 b2;go_wp2_with fail
   refine(RG _ _ _ _ _).mono ?_;rintro e w3 ⟨rfl,hb⟩;have HB3:=hbn HB2 hb;clear hb;go_wp2
   go_ret2
   exact BB HR.out HB3.out
theorem Aa (w:World) (p q:Int) (s:ByteArray) (r:Int) (p2 q2:Int) (s2:ByteArray) (r2:Int) (hs:s.size<=2000000000) (hs2:s2.size<=2000000000):Calls prog 94 #[.agg #[.int .i64 3,p,q,s,r],.agg #[.int .i64 3,p2,q2,s2,r2]] w (BrPost w (.ok (Kk s s2))):=by
 go_enter func94,ntmps94;go_wp2
 go_ret2
 exact BB (congrArg _ (Ty s s2)) (QE _ _ _)
theorem GZ (w:World) (k:Int) (k2:Int) (p q:Int) (s:ByteArray) (r:Int) (p2 q2:Int) (s2:ByteArray) (r2:Int) (h:(((k==2)=true/\(k2==2)=false/\(k==3)=false)\/((k==2)=false/\(k==3)=true/\(k2==3)=false)\/((k==2)=false/\(k==3)=false))):Calls prog 94 #[.agg #[k,p,q,s,r],.agg #[k2,p2,q2,s2,r2]] w (BrPost w (.error 8)):=by
 rcases h with⟨h,h2,h3⟩|⟨h,h2,h3⟩|⟨h,h2⟩;all_goals
  go_enter func94,ntmps94;go_wp2
  go_ret2
  exact Uo rfl (QE _ _ _)
theorem Ei (w:World) (k:Int) (k2:Int) (p q:Int) (s:ByteArray) (r:Int) (p2 q2:Int) (s2:ByteArray) (r2:Int) (hs:s.size<=2000000000) (hs2:s2.size<=2000000000):Calls prog 94 #[.agg #[k,p,q,s,r],.agg #[k2,p2,q2,s2,r2]] w (BrPost w (JM ⟨k,p,q,s,r⟩ ⟨k2,p2,q2,s2,r2⟩)):=by
 obtain⟨R,hR⟩:∃R,R=JM ⟨k,p,q,s,r⟩ ⟨k2,p2,q2,s2,r2⟩:=⟨_,rfl⟩
 rw[<-hR];unfold JM at hR;have hR:R=if k=2/\k2=2 then(if QT (p,q)&&QT (p2,q2) then .ok (decide (FY (p,q) (p2,q2)<0)) else .error 8) else if k=3/\k2=3 then .ok (Kk s s2) else .error 8:=hR
 have tf:∀a b:Int,a≠b->(a==b)=false:=fun a b h=>by rw[beq_eq_false_iff_ne];exact h
 by_cases h2:k=2
 ·by_cases h22:k2=2
  ·subst h2 h22;rw[if_pos ⟨rfl,rfl⟩] at hR;rw[hR];exact Ab w p q s r p2 q2 s2 r2
  ·rw[if_neg (fun h=>h22 h.2),if_neg (fun h=>by omega)] at hR;rw[hR];exact GZ w k k2 p q s r p2 q2 s2 r2 (.inl ⟨by rw[h2];rfl,tf _ _ h22,tf _ _ (by omega)⟩)
 ·rw[if_neg (fun h=>h2 h.1)] at hR;by_cases h3:k=3
  ·by_cases h33:k2=3
   ·subst h3 h33;rw[if_pos ⟨rfl,rfl⟩] at hR;rw[hR];exact Aa w p q s r p2 q2 s2 r2 hs hs2
   ·rw[if_neg (fun h=>h33 h.2)] at hR;rw[hR];exact GZ w k k2 p q s r p2 q2 s2 r2 (.inr (.inl ⟨tf _ _ h2,by rw[h3];rfl,tf _ _ h33⟩))
  ·rw[if_neg (fun h=>h3 h.1)] at hR;rw[hR];exact GZ w k k2 p q s r p2 q2 s2 r2 (.inr (.inr ⟨tf _ _ h2,tf _ _ h3⟩))
theorem AM (w:World) (k1 p1 q1:Int) (s1:ByteArray) (r1:Int) (k2 p2 q2:Int) (s2:ByteArray) (r2:Int) (x1 x2 X:ByteArray) (c1 c2:Int) (R:VR) (h1:∀W,Below w w W->Calls prog 92 #[.agg #[k1,p1,q1,s1,r1]] W (fun e w'=>e= .returned (.tuple #[.string x1,.int .i64 c1])/\Below W W w')) (h2:∀W,Below w w W->Calls prog 92 #[.agg #[k2,p2,q2,s2,r2]] W (fun e w'=>e= .returned (.tuple #[.string x2,.int .i64 c2])/\Below W W w'))
  (had:∀W,(Op.stringOp .add x1 x2).run prog W= .ok (.string X) W) (hx1:x1.size<=2000000000) (hx2:x2.size<=2000000000)
  (hways:((c1 !=0)=true/\R= .error 8)\/((c1 !=0)=false/\(c2 !=0)=true/\R= .error 8)\/((c1 !=0)=false/\(c2 !=0)=false/\4096<x1.size+x2.size/\R= .error 14)\/((c1 !=0)=false/\(c2 !=0)=false/\¬4096<x1.size+x2.size/\R= .ok (KR X))):
  Calls prog 40 #[.agg #[k1,p1,q1,s1,r1],.agg #[k2,p2,q2,s2,r2]] w (VrPost w R):=by
 have H1:=zh h1;have H2:=zh h2;clear h1 h2;rcases hways with⟨e1,hR⟩|⟨e1,e2,hR⟩|⟨e1,e2,e3,hR⟩|⟨e1,e2,e3,hR⟩;all_goals
  have HR:=zh hR;clear hR;go_enter func40,ntmps40;go_wp2_with fail
  refine(H1.out _ (QM _ _ _ _)).mono ?_;rintro e w1 ⟨rfl,hb⟩;have HA:=hkh hb (Qa _ _ _ _);have HB:=hkh hb (QU _ _ _ _);have HW1:=hbn (QM _ _ _ _) hb;have hz:=hb.size;simp at hz;clear hb;obtain⟨b0,b1,b2,b3,b4⟩:=zc5 HA;go_wp2_with fail
  refine(H2.out _ HW1.out).mono ?_;rintro e w2 ⟨rfl,hb⟩;have HB2:=hkh hb HB;have HW2:=hbn HW1 hb;have hz2:=hb.size;clear hb b0 b1 b2 b3 b4
 ·obtain⟨c0,c1,c2,c3,c4⟩:=zc5 HB2;obtain⟨fc0,fc1,fc2,fc3,fc4⟩:=zf5 HB2;go_wp2;refine zr (by simp[results,results40,go_sem,c0,c1,c2,c3,c4]<;>rfl) ?_;exact ZF HR.out (QG HW2.out (by omega) _ _ _ _ _)
 ·obtain⟨c0,c1,c2,c3,c4⟩:=zc5 HB2;obtain⟨fc0,fc1,fc2,fc3,fc4⟩:=zf5 HB2;go_wp2;refine zr (by simp[results,results40,go_sem,c0,c1,c2,c3,c4]<;>rfl) ?_;exact ZF HR.out (QG HW2.out (by omega) _ _ _ _ _)
 ·obtain⟨c0,c1,c2,c3,c4⟩:=zc5 HB2;obtain⟨fc0,fc1,fc2,fc3,fc4⟩:=zf5 HB2;go_wp2;refine zr (by simp[results,results40,go_sem,c0,c1,c2,c3,c4]<;>rfl) ?_;exact ZF HR.out (QG HW2.out (by omega) _ _ _ _ _)
 ·obtain⟨c0,c1,c2,c3,c4⟩:=zc5 HB2;obtain⟨fc0,fc1,fc2,fc3,fc4⟩:=zf5 HB2;go_wp2_with fail
  refine(Xc _ _).mono ?_;rintro e w3 ⟨rfl,hb⟩;have HB3:=hkh hb HB2;have HW3:=hbn HW2 hb;clear hb;clear c0 c1 c2 c3 c4 fc0 fc1 fc2 fc3 fc4;obtain⟨c0,c1,c2,c3,c4⟩:=zc5 HB3;obtain⟨fc0,fc1,fc2,fc3,fc4⟩:=zf5 HB3;go_wp2;refine zr (by simp[results,results40,go_sem,c0,c1,c2,c3,c4]<;>rfl) ?_;exact GJ HR.out rfl (QG HW3.out (by omega) _ _ _ _ _)
theorem AN (w:World) (htab:Pow10 w) (k1 p1 q1:Int) (s1:ByteArray) (r1:Int) (k2 p2 q2:Int) (s2:ByteArray) (r2:Int) (h1:s1.size<=4096) (h2:s2.size<=4096):
  Calls prog 40 #[.agg #[k1,p1,q1,s1,r1],.agg #[k2,p2,q2,s2,r2]] w (VrPost w (Kj (JE ⟨k1,p1,q1,s1,r1⟩) (JE ⟨k2,p2,q2,s2,r2⟩))):=by
 have e1:=Kt ⟨k1,p1,q1,s1,r1⟩;have e2:=Kt ⟨k2,p2,q2,s2,r2⟩;have z1:=K8 ⟨k1,p1,q1,s1,r1⟩ h1;have z2:=K8 ⟨k2,p2,q2,s2,r2⟩ h2;refine AM w k1 p1 q1 s1 r1 k2 p2 q2 s2 r2 _ _ _ _ _ _ (fun W hW=>AS W k1 p1 q1 s1 r1 (htab.stays hW)) (fun W hW=>AS W k2 p2 q2 s2 r2 (htab.stays hW)) (Jx _ _ (by omega)) (by omega) (by omega) ?_;rcases Xs (JE ⟨k1,p1,q1,s1,r1⟩) (JE ⟨k2,p2,q2,s2,r2⟩) e1.2 with h|h|h|h|h|h
 ·exact .inl h
 ·exact .inr (.inl h)
 ·exact .inr (.inr (.inl h))
 ·exact .inr (.inr (.inr h))
 ·exact absurd h e1.1
 ·exact absurd h e2.1
theorem Dx (w:World) (k1 p1 q1:Int) (s1:ByteArray) (r1:Int) (k2 p2 q2:Int) (s2:ByteArray) (r2:Int) (l:Bool) (c:Nat) (M:BR) (hl:∀W,Calls prog 94 #[.agg #[k1,p1,q1,s1,r1],.agg #[k2,p2,q2,s2,r2]] W (fun e w'=>e= .returned (.tuple #[.bool l,.int .i64 (c:Int)])/\Below W W w')) (hM:LessOut M l c) (R:VR)
  (hR:R=YG false M):Calls prog 45 #[.int .i64 16,.agg #[k1,p1,q1,s1,r1],.agg #[k2,p2,q2,s2,r2]] w (VrPost w R):=by
 have HL:=zh hl;clear hl;rcases hM with⟨e1,rfl⟩|⟨e1,rfl⟩;all_goals
  have HR:=zh hR;clear hR;go_enter func45,ntmps45;go_wp2_with fail
  refine(HL.out _).mono ?_;rintro e w1 ⟨rfl,hb⟩;have HB:=hkh hb (QU _ _ _ _);have HW1:=hbn (QM _ _ _ _) hb;have hz:=hb.size;simp at hz;clear hb
 ·obtain⟨c0,c1,c2,c3,c4⟩:=zc5 HB;obtain⟨fc0,fc1,fc2,fc3,fc4⟩:=zf5 HB;go_wp2;refine zr (by simp[results,results45,go_sem,c0,c1,c2,c3,c4]<;>rfl) ?_;exact ZF HR.out (QG HW1.out (by omega) _ _ _ _ _)
 ·go_wp2_with fail
  refine(Zq _ _).mono ?_;rintro e w2 ⟨rfl,hb⟩;have HB2:=hkh hb HB;have HW2:=hbn HW1 hb;clear hb;obtain⟨c0,c1,c2,c3,c4⟩:=zc5 HB2;obtain⟨fc0,fc1,fc2,fc3,fc4⟩:=zf5 HB2;go_wp2;refine zr (by simp[results,results45,go_sem,c0,c1,c2,c3,c4]<;>rfl) ?_;exact GJ (HR.out.trans (by cases l<;>rfl)) rfl (QG HW2.out (by omega) _ _ _ _ _)
theorem Dw (w:World) (k1 p1 q1:Int) (s1:ByteArray) (r1:Int) (k2 p2 q2:Int) (s2:ByteArray) (r2:Int) (l:Bool) (c:Nat) (M:BR) (hl:∀W,Calls prog 94 #[.agg #[k2,p2,q2,s2,r2],.agg #[k1,p1,q1,s1,r1]] W (fun e w'=>e= .returned (.tuple #[.bool l,.int .i64 (c:Int)])/\Below W W w')) (hM:LessOut M l c) (R:VR)
  (hR:R=YG true M):Calls prog 45 #[.int .i64 17,.agg #[k1,p1,q1,s1,r1],.agg #[k2,p2,q2,s2,r2]] w (VrPost w R):=by
 have HL:=zh hl;clear hl;rcases hM with⟨e1,rfl⟩|⟨e1,rfl⟩;all_goals
  have HR:=zh hR;clear hR;go_enter func45,ntmps45;go_wp2_with fail
  refine(HL.out _).mono ?_;rintro e w1 ⟨rfl,hb⟩;have HB:=hkh hb (QU _ _ _ _);have HW1:=hbn (QM _ _ _ _) hb;have hz:=hb.size;simp at hz;clear hb
 ·obtain⟨c0,c1,c2,c3,c4⟩:=zc5 HB;obtain⟨fc0,fc1,fc2,fc3,fc4⟩:=zf5 HB;go_wp2;refine zr (by simp[results,results45,go_sem,c0,c1,c2,c3,c4]<;>rfl) ?_;exact ZF HR.out (QG HW1.out (by omega) _ _ _ _ _)
 ·go_wp2_with fail
  refine(Zq _ _).mono ?_;rintro e w2 ⟨rfl,hb⟩;have HB2:=hkh hb HB;have HW2:=hbn HW1 hb;clear hb;obtain⟨c0,c1,c2,c3,c4⟩:=zc5 HB2;obtain⟨fc0,fc1,fc2,fc3,fc4⟩:=zf5 HB2;go_wp2;refine zr (by simp[results,results45,go_sem,c0,c1,c2,c3,c4]<;>rfl) ?_;exact GJ (HR.out.trans (by cases l<;>rfl)) rfl (QG HW2.out (by omega) _ _ _ _ _)
theorem Dv (w:World) (k1 p1 q1:Int) (s1:ByteArray) (r1:Int) (k2 p2 q2:Int) (s2:ByteArray) (r2:Int) (l:Bool) (c:Nat) (M:BR) (hl:∀W,Calls prog 94 #[.agg #[k2,p2,q2,s2,r2],.agg #[k1,p1,q1,s1,r1]] W (fun e w'=>e= .returned (.tuple #[.bool l,.int .i64 (c:Int)])/\Below W W w')) (hM:LessOut M l c) (R:VR)
  (hR:R=YG false M):Calls prog 45 #[.int .i64 18,.agg #[k1,p1,q1,s1,r1],.agg #[k2,p2,q2,s2,r2]] w (VrPost w R):=by
 have HL:=zh hl;clear hl;rcases hM with⟨e1,rfl⟩|⟨e1,rfl⟩;all_goals
  have HR:=zh hR;clear hR;go_enter func45,ntmps45;go_wp2_with fail
  refine(HL.out _).mono ?_;rintro e w1 ⟨rfl,hb⟩;have HB:=hkh hb (QU _ _ _ _);have HW1:=hbn (QM _ _ _ _) hb;have hz:=hb.size;simp at hz;clear hb
 ·obtain⟨c0,c1,c2,c3,c4⟩:=zc5 HB;obtain⟨fc0,fc1,fc2,fc3,fc4⟩:=zf5 HB;go_wp2;refine zr (by simp[results,results45,go_sem,c0,c1,c2,c3,c4]<;>rfl) ?_;exact ZF HR.out (QG HW1.out (by omega) _ _ _ _ _)
 ·go_wp2_with fail
  refine(Zq _ _).mono ?_;rintro e w2 ⟨rfl,hb⟩;have HB2:=hkh hb HB;have HW2:=hbn HW1 hb;clear hb;obtain⟨c0,c1,c2,c3,c4⟩:=zc5 HB2;obtain⟨fc0,fc1,fc2,fc3,fc4⟩:=zf5 HB2;go_wp2;refine zr (by simp[results,results45,go_sem,c0,c1,c2,c3,c4]<;>rfl) ?_;exact GJ (HR.out.trans (by cases l<;>rfl)) rfl (QG HW2.out (by omega) _ _ _ _ _)
theorem Du (w:World) (k1 p1 q1:Int) (s1:ByteArray) (r1:Int) (k2 p2 q2:Int) (s2:ByteArray) (r2:Int) (l:Bool) (c:Nat) (M:BR) (hl:∀W,Calls prog 94 #[.agg #[k1,p1,q1,s1,r1],.agg #[k2,p2,q2,s2,r2]] W (fun e w'=>e= .returned (.tuple #[.bool l,.int .i64 (c:Int)])/\Below W W w')) (hM:LessOut M l c) (R:VR)
  (hR:R=YG true M):Calls prog 45 #[.int .i64 19,.agg #[k1,p1,q1,s1,r1],.agg #[k2,p2,q2,s2,r2]] w (VrPost w R):=by
 have HL:=zh hl;clear hl;rcases hM with⟨e1,rfl⟩|⟨e1,rfl⟩;all_goals
  have HR:=zh hR;clear hR;go_enter func45,ntmps45;go_wp2_with fail
  refine(HL.out _).mono ?_;rintro e w1 ⟨rfl,hb⟩;have HB:=hkh hb (QU _ _ _ _);have HW1:=hbn (QM _ _ _ _) hb;have hz:=hb.size;simp at hz;clear hb
 ·obtain⟨c0,c1,c2,c3,c4⟩:=zc5 HB;obtain⟨fc0,fc1,fc2,fc3,fc4⟩:=zf5 HB;go_wp2;refine zr (by simp[results,results45,go_sem,c0,c1,c2,c3,c4]<;>rfl) ?_;exact ZF HR.out (QG HW1.out (by omega) _ _ _ _ _)
 ·go_wp2_with fail
  refine(Zq _ _).mono ?_;rintro e w2 ⟨rfl,hb⟩;have HB2:=hkh hb HB;have HW2:=hbn HW1 hb;clear hb;obtain⟨c0,c1,c2,c3,c4⟩:=zc5 HB2;obtain⟨fc0,fc1,fc2,fc3,fc4⟩:=zf5 HB2;go_wp2;refine zr (by simp[results,results45,go_sem,c0,c1,c2,c3,c4]<;>rfl) ?_;exact GJ (HR.out.trans (by cases l<;>rfl)) rfl (QG HW2.out (by omega) _ _ _ _ _)
theorem N8 (w:World) (o:Int) (k1 p1 q1:Int) (s1:ByteArray) (r1:Int) (k2 p2 q2:Int) (s2:ByteArray) (r2:Int) (h1:s1.size<=4096) (h2:s2.size<=4096) (ho:16<=o) (ho2:o<=19):
  Calls prog 45 #[o,.agg #[k1,p1,q1,s1,r1],.agg #[k2,p2,q2,s2,r2]] w (VrPost w (YF o ⟨k1,p1,q1,s1,r1⟩ ⟨k2,p2,q2,s2,r2⟩)):=by
 have hc:o=16\/o=17\/o=18\/o=19:=by omega
 rcases hc with rfl|rfl|rfl|rfl
 ·exact Dx w k1 p1 q1 s1 r1 k2 p2 q2 s2 r2 _ _ _ (fun W=>Ei W k1 k2 p1 q1 s1 r1 p2 q2 s2 r2 (by omega) (by omega)) (J5 ⟨k1,p1,q1,s1,r1⟩ ⟨k2,p2,q2,s2,r2⟩) _ rfl
 ·exact Dw w k1 p1 q1 s1 r1 k2 p2 q2 s2 r2 _ _ _ (fun W=>Ei W k2 k1 p2 q2 s2 r2 p1 q1 s1 r1 (by omega) (by omega)) (J5 ⟨k2,p2,q2,s2,r2⟩ ⟨k1,p1,q1,s1,r1⟩) _ rfl
 ·exact Dv w k1 p1 q1 s1 r1 k2 p2 q2 s2 r2 _ _ _ (fun W=>Ei W k2 k1 p2 q2 s2 r2 p1 q1 s1 r1 (by omega) (by omega)) (J5 ⟨k2,p2,q2,s2,r2⟩ ⟨k1,p1,q1,s1,r1⟩) _ rfl
 ·exact Du w k1 p1 q1 s1 r1 k2 p2 q2 s2 r2 _ _ _ (fun W=>Ei W k1 k2 p1 q1 s1 r1 p2 q2 s2 r2 (by omega) (by omega)) (J5 ⟨k1,p1,q1,s1,r1⟩ ⟨k2,p2,q2,s2,r2⟩) _ rfl
theorem CE (w:World) (o:Int):Calls prog 34 #[o] w fun e w'=>e= .returned (.bool (decide (20<=o/\o<=23)))/\w=w':=by
 have hw:(¬20<=o)\/(20<=o/\¬o<=23)\/(20<=o/\o<=23):=by omega
 rcases hw with h|⟨h,h2⟩|⟨h,h2⟩;all_goals
  go_enter func34,ntmps34;go_wp2
  go_ret
  exact⟨Zw (by first|rfl|(simp_all;done)|(simp_all;omega)),rfl⟩
theorem AQ (w:World) (o:Int):Calls prog 35 #[o] w fun e w'=>e= .returned (.bool (decide (1<=o/\o<=19)))/\w=w':=by
 have hw:(¬1<=o)\/(1<=o/\¬o<=19)\/(1<=o/\o<=19):=by omega
 rcases hw with h|⟨h,h2⟩|⟨h,h2⟩;all_goals
  go_enter func35,ntmps35;go_wp2
  go_ret
  exact⟨Zw (by first|rfl|(simp_all;done)|(simp_all;omega)),rfl⟩
theorem EO (w:World) (o:Int):Calls prog 37 #[o] w fun e w'=>e= .returned (.bool (decide (1<=o/\o<=7)))/\w=w':=by
 have hw:(¬1<=o)\/(1<=o/\¬o<=7)\/(1<=o/\o<=7):=by omega
 rcases hw with h|⟨h,h2⟩|⟨h,h2⟩;all_goals
  go_enter func37,ntmps37;go_wp2
  go_ret
  exact⟨Zw (by first|rfl|(simp_all;done)|(simp_all;omega)),rfl⟩
theorem N9 (w:World) (o:Int):Calls prog 38 #[o] w fun e w'=>e= .returned (.bool (decide ((9<=o/\o<=13)\/o=23)))/\w=w':=by
 have hw:(¬9<=o/\(o==23)=false)\/(9<=o/\¬o<=13/\(o==23)=false)\/(9<=o/\¬o<=13/\(o==23)=true)\/(9<=o/\o<=13):=by
  by_cases h:o=23
  ·subst h;exact .inr (.inr (.inl ⟨by decide,by decide,rfl⟩))
  ·have h23:(o==23)=false:=by rw[beq_eq_false_iff_ne];exact h
   by_cases h9:9<=o
   ·by_cases h13:o<=13
    ·exact .inr (.inr (.inr ⟨h9,h13⟩))
    ·exact .inr (.inl ⟨h9,h13,h23⟩)
   ·exact .inl ⟨h9,h23⟩
 rcases hw with⟨h,h2⟩|⟨h,h2,h3⟩|⟨h,h2,h3⟩|⟨h,h2⟩;all_goals
  go_enter func38,ntmps38;go_wp2
  go_ret
  refine⟨Zw ?_,rfl⟩;first|rfl|(simp_all;done)|(simp_all;omega)
theorem Dr (w:World) (o:Int) (k1 p1 q1:Int) (s1:ByteArray) (r1:Int) (k2 p2 q2:Int) (s2:ByteArray) (r2:Int) (X Y Z:RR) (R:VR) (hun:∀W,Calls prog 34 #[o] W fun e w'=>e= .returned (.bool false)/\W=w')
  (hx:∀W,Below w w W->Calls prog 89 #[.agg #[k1,p1,q1,s1,r1]] W (NumPost W X)) (hy:∀W,Below w w W->Calls prog 89 #[.agg #[k2,p2,q2,s2,r2]] W (NumPost W Y)) (hz0:∀W,Calls prog 90 #[o,.agg #[.int .i64 (nP X),.int .i64 (nQ X)],.agg #[.int .i64 (nP Y),.int .i64 (nQ Y)]] W (NumPost W Z)) (hw:NWays X Y Z R):
  Calls prog 39 #[o,.agg #[k1,p1,q1,s1,r1],.agg #[k2,p2,q2,s2,r2]] w (VrPost w R):=by
 have HUN:=zh hun;have HX:=zh hx;have HY:=zh hy;have HZ:=zh hz0;clear hun hx hy hz0;rcases hw with⟨e1,hR⟩|⟨e1,e2,hR⟩|⟨e1,e2,e3,hR⟩|⟨e1,e2,e3,hR⟩;all_goals
  have HR:=zh hR;clear hR;go_enter func39,ntmps39;go_wp2_with fail
  refine(HUN.out _).mono ?_;rintro e w0 ⟨rfl,rfl⟩;go_wp2_with fail
  refine(HX.out _ (QM _ _ _ _)).mono ?_;rintro e w1 ⟨rfl,hb⟩;have HB:=zh (hgrow hb (.cells #[.int .i64 (nP X),.int .i64 (nQ X)] 23) (Qa _ _ _ _));have HC:=zh (hgrow hb (.cells #[.int .i64 (nP X),.int .i64 (nQ X)] 23) (QU _ _ _ _));have HX1:=zh (Qg w1 (.cells #[.int .i64 (nP X),.int .i64 (nQ X)] 23));have HW1:=zh ((QC (QM _ _ _ _) hb).alloc (by have:=hb.size;simp at this;omega) (.cells #[.int .i64 (nP X),.int .i64 (nQ X)] 23));have hz:=hb.size;simp at hz;clear hb;obtain⟨b0,b1,b2,b3,b4⟩:=zc5 HB;go_wp2_with fail
  refine(HY.out _ HW1.out).mono ?_;rintro e w2 ⟨rfl,hb⟩;have HX2:=zh (hgrow hb (.cells #[.int .i64 (nP Y),.int .i64 (nQ Y)] 23) HX1.out);have HC2:=zh (hgrow hb (.cells #[.int .i64 (nP Y),.int .i64 (nQ Y)] 23) HC.out);have HY2:=zh (Qg w2 (.cells #[.int .i64 (nP Y),.int .i64 (nQ Y)] 23));have HW2:=zh ((QC HW1.out hb).alloc (by have:=hb.size;simp at this;omega) (.cells #[.int .i64 (nP Y),.int .i64 (nQ Y)] 23));have hz2:=hb.size;simp at hz2;clear hb b0 b1 b2 b3 b4
 ·obtain⟨c0,c1,c2,c3,c4⟩:=zc5 HC2;obtain⟨fc0,fc1,fc2,fc3,fc4⟩:=zf5 HC2;go_wp2;refine zr (by simp[results,results39,go_sem,c0,c1,c2,c3,c4]<;>rfl) ?_;exact ZF HR.out (QG HW2.out (by omega) _ _ _ _ _)
 ·obtain⟨c0,c1,c2,c3,c4⟩:=zc5 HC2;obtain⟨fc0,fc1,fc2,fc3,fc4⟩:=zf5 HC2;go_wp2;refine zr (by simp[results,results39,go_sem,c0,c1,c2,c3,c4]<;>rfl) ?_;exact ZF HR.out (QG HW2.out (by omega) _ _ _ _ _)
 ·have x0:(w2.alloc (.cells #[.int .i64 (nP Y),.int .i64 (nQ Y)] 23)).cell? w1=some (.int .i64 (nP X)):=by rw[QA HX2.out];rfl
  have x1:(w2.alloc (.cells #[.int .i64 (nP Y),.int .i64 (nQ Y)] 23)).cell? ⟨w1,1,none⟩=some (.int .i64 (nQ X)):=by rw[QA HX2.out];rfl
  have y0:(w2.alloc (.cells #[.int .i64 (nP Y),.int .i64 (nQ Y)] 23)).cell? w2=some (.int .i64 (nP Y)):=by rw[QA HY2.out];rfl
  have y1:(w2.alloc (.cells #[.int .i64 (nP Y),.int .i64 (nQ Y)] 23)).cell? ⟨w2,1,none⟩=some (.int .i64 (nQ Y)):=by rw[QA HY2.out];rfl
  go_wp2_with fail
  refine(HZ.out _).mono ?_;rintro e w3 ⟨rfl,hb⟩;have HC3:=zh (hgrow hb (.cells #[.int .i64 (nP Z),.int .i64 (nQ Z)] 23) HC2.out);have HZ3:=zh (Qg w3 (.cells #[.int .i64 (nP Z),.int .i64 (nQ Z)] 23));have HW3:=zh ((QC HW2.out hb).alloc (by have:=hb.size;simp at this;omega) (.cells #[.int .i64 (nP Z),.int .i64 (nQ Z)] 23));have hz3:=hb.size;simp at hz3;clear hb x0 x1 y0 y1;obtain⟨c0,c1,c2,c3,c4⟩:=zc5 HC3;obtain⟨fc0,fc1,fc2,fc3,fc4⟩:=zf5 HC3;go_wp2;refine zr (by simp[results,results39,go_sem,c0,c1,c2,c3,c4]<;>rfl) ?_;exact ZF HR.out (QG HW3.out (by omega) _ _ _ _ _)
 ·have x0:(w2.alloc (.cells #[.int .i64 (nP Y),.int .i64 (nQ Y)] 23)).cell? w1=some (.int .i64 (nP X)):=by rw[QA HX2.out];rfl
  have x1:(w2.alloc (.cells #[.int .i64 (nP Y),.int .i64 (nQ Y)] 23)).cell? ⟨w1,1,none⟩=some (.int .i64 (nQ X)):=by rw[QA HX2.out];rfl
  have y0:(w2.alloc (.cells #[.int .i64 (nP Y),.int .i64 (nQ Y)] 23)).cell? w2=some (.int .i64 (nP Y)):=by rw[QA HY2.out];rfl
  have y1:(w2.alloc (.cells #[.int .i64 (nP Y),.int .i64 (nQ Y)] 23)).cell? ⟨w2,1,none⟩=some (.int .i64 (nQ Y)):=by rw[QA HY2.out];rfl
  go_wp2_with fail
  refine(HZ.out _).mono ?_;rintro e w3 ⟨rfl,hb⟩;have HC3:=zh (hgrow hb (.cells #[.int .i64 (nP Z),.int .i64 (nQ Z)] 23) HC2.out);have HZ3:=zh (Qg w3 (.cells #[.int .i64 (nP Z),.int .i64 (nQ Z)] 23));have HW3:=zh ((QC HW2.out hb).alloc (by have:=hb.size;simp at this;omega) (.cells #[.int .i64 (nP Z),.int .i64 (nQ Z)] 23));have hz3:=hb.size;simp at hz3;clear hb x0 x1 y0 y1;have z0:(w3.alloc (.cells #[.int .i64 (nP Z),.int .i64 (nQ Z)] 23)).cell? w3=some (.int .i64 (nP Z)):=by rw[QA HZ3.out];rfl
  have z1:(w3.alloc (.cells #[.int .i64 (nP Z),.int .i64 (nQ Z)] 23)).cell? ⟨w3,1,none⟩=some (.int .i64 (nQ Z)):=by rw[QA HZ3.out];rfl
  go_wp2_with fail
  refine(Pm _ _ _).mono ?_;rintro e w4 ⟨rfl,hb⟩;have HC4:=hkh hb HC3;have HW4:=hbn HW3 hb;clear hb;obtain⟨c0,c1,c2,c3,c4⟩:=zc5 HC4;obtain⟨fc0,fc1,fc2,fc3,fc4⟩:=zf5 HC4;go_wp2;refine zr (by simp[results,results39,go_sem,c0,c1,c2,c3,c4]<;>rfl) ?_;exact GJ HR.out rfl (QG HW4.out (by omega) _ _ _ _ _)
theorem AW (w:World):Calls prog 44 #[(0:Int)] w (fun e w'=>e= .returned (.agg #[.int .i64 2,(0:Int),.int .i64 1,.string ⟨#[]⟩,(0:Int)])/\Below w w w'):=Y6 w 0
theorem TM (w:World) (o:Int) (k1 p1 q1:Int) (s1:ByteArray) (r1:Int) (k2 p2 q2:Int) (s2:ByteArray) (r2:Int) (X Y Z:RR) (R:VR) (hun:∀W,Calls prog 34 #[o] W fun e w'=>e= .returned (.bool true)/\W=w')
  (hx:∀W,Below w w W->Calls prog 89 #[.agg #[k1,p1,q1,s1,r1]] W (NumPost W X)) (hy:∀W,Below w w W->Calls prog 89 #[.agg #[.int .i64 2,(0:Int),.int .i64 1,.string ⟨#[]⟩,(0:Int)]] W (NumPost W Y)) (hz0:∀W,Calls prog 90 #[o,.agg #[.int .i64 (nP X),.int .i64 (nQ X)],.agg #[.int .i64 (nP Y),.int .i64 (nQ Y)]] W (NumPost W Z)) (hw:NWays X Y Z R):
  Calls prog 39 #[o,.agg #[k1,p1,q1,s1,r1],.agg #[k2,p2,q2,s2,r2]] w (VrPost w R):=by
 have HUN:=zh hun;have HX:=zh hx;have HY:=zh hy;have HZ:=zh hz0;clear hun hx hy hz0;rcases hw with⟨e1,hR⟩|⟨e1,e2,hR⟩|⟨e1,e2,e3,hR⟩|⟨e1,e2,e3,hR⟩;all_goals
  have HR:=zh hR;clear hR;go_enter func39,ntmps39;go_wp2_with fail
  refine(HUN.out _).mono ?_;rintro e w0 ⟨rfl,rfl⟩;go_wp2_with fail
  refine(AW _).mono ?_;rintro e w0 ⟨rfl,hb⟩;have HA0:=hkh hb (Qi _ _ _ _);have HB0:=hkh hb (Qa _ _ _ _);have HC0:=hkh hb (QU _ _ _ _);have HW0:=hbn (QM _ _ _ _) hb;have hz0:=hb.size;simp at hz0;clear hb;obtain⟨W5,hW5⟩:∃W5,W5=(((((w0.setCell ⟨w+1,0,none⟩ (.int .i64 2)).setCell ⟨w+1,1,none⟩ (.int .i64 0)).setCell ⟨w+1,2,none⟩ (.int .i64 1)).setCell ⟨w+1,3,none⟩ (.string ⟨#[]⟩)).setCell ⟨w+1,4,none⟩ (.int .i64 0)):=⟨_,rfl⟩
  have HS0:=zh (show Below w w W5 from hW5▸QG HW0.out (b:=w.heap.size+1) (by omega) (.int .i64 2) (.int .i64 0) (.int .i64 1) (.string ⟨#[]⟩) (.int .i64 0));have HC1:=zh (show W5.heap[w.heap.size+1+1]? =some (.cells #[(0:Int),(0:Int),(0:Int),.string ⟨#[]⟩,(0:Int)] 25) from hW5▸QX HC0.out (b:=w.heap.size+1) (by omega) (.int .i64 2) (.int .i64 0) (.int .i64 1) (.string ⟨#[]⟩) (.int .i64 0));have HB1:=zh (show W5.heap[w.heap.size+1]? =some (.cells #[.int .i64 2,(0:Int),.int .i64 1,.string ⟨#[]⟩,(0:Int)] 25) from hW5▸Qp HB0.out (.int .i64 2) (.int .i64 0) (.int .i64 1) (.string ⟨#[]⟩) (.int .i64 0));have hz5:w.heap.size+1+1+1<=W5.heap.size:=by rw[hW5];simp;omega
  have HW5:=zh hW5;clear hW5;obtain⟨b0,b1,b2,b3,b4⟩:=zc5 HB0;obtain⟨fb0,fb1,fb2,fb3,fb4⟩:=zf5 HB0;obtain⟨a0,a1,a2,a3,a4⟩:=zc5 HA0;go_wp2_with fail
  rw[<-HW5.out];refine(HX.out _ HS0.out).mono ?_;rintro e w1 ⟨rfl,hb⟩;have HB:=zh (hgrow hb (.cells #[.int .i64 (nP X),.int .i64 (nQ X)] 23) HB1.out);have HC:=zh (hgrow hb (.cells #[.int .i64 (nP X),.int .i64 (nQ X)] 23) HC1.out);have HX1:=zh (Qg w1 (.cells #[.int .i64 (nP X),.int .i64 (nQ X)] 23));have HW1:=zh ((QC HS0.out hb).alloc (by have:=hb.size;omega) (.cells #[.int .i64 (nP X),.int .i64 (nQ X)] 23));have hz:=hb.size;clear hb a0 a1 a2 a3 a4 b0 b1 b2 b3 b4 fb0 fb1 fb2 fb3 fb4;obtain⟨b0,b1,b2,b3,b4⟩:=zc5 HB;go_wp2_with fail
  refine(HY.out _ HW1.out).mono ?_;rintro e w2 ⟨rfl,hb⟩;have HX2:=zh (hgrow hb (.cells #[.int .i64 (nP Y),.int .i64 (nQ Y)] 23) HX1.out);have HC2:=zh (hgrow hb (.cells #[.int .i64 (nP Y),.int .i64 (nQ Y)] 23) HC.out);have HY2:=zh (Qg w2 (.cells #[.int .i64 (nP Y),.int .i64 (nQ Y)] 23));have HW2:=zh ((QC HW1.out hb).alloc (by have:=hb.size;simp at this;omega) (.cells #[.int .i64 (nP Y),.int .i64 (nQ Y)] 23));have hz2:=hb.size;simp at hz2;clear hb b0 b1 b2 b3 b4
 ·obtain⟨c0,c1,c2,c3,c4⟩:=zc5 HC2;obtain⟨fc0,fc1,fc2,fc3,fc4⟩:=zf5 HC2;go_wp2;refine zr (by simp[results,results39,go_sem,c0,c1,c2,c3,c4]<;>rfl) ?_;exact ZF HR.out (QG HW2.out (by omega) _ _ _ _ _)
 ·obtain⟨c0,c1,c2,c3,c4⟩:=zc5 HC2;obtain⟨fc0,fc1,fc2,fc3,fc4⟩:=zf5 HC2;go_wp2;refine zr (by simp[results,results39,go_sem,c0,c1,c2,c3,c4]<;>rfl) ?_;exact ZF HR.out (QG HW2.out (by omega) _ _ _ _ _)
 ·have x0:(w2.alloc (.cells #[.int .i64 (nP Y),.int .i64 (nQ Y)] 23)).cell? w1=some (.int .i64 (nP X)):=by rw[QA HX2.out];rfl
  have x1:(w2.alloc (.cells #[.int .i64 (nP Y),.int .i64 (nQ Y)] 23)).cell? ⟨w1,1,none⟩=some (.int .i64 (nQ X)):=by rw[QA HX2.out];rfl
  have y0:(w2.alloc (.cells #[.int .i64 (nP Y),.int .i64 (nQ Y)] 23)).cell? w2=some (.int .i64 (nP Y)):=by rw[QA HY2.out];rfl
  have y1:(w2.alloc (.cells #[.int .i64 (nP Y),.int .i64 (nQ Y)] 23)).cell? ⟨w2,1,none⟩=some (.int .i64 (nQ Y)):=by rw[QA HY2.out];rfl
  go_wp2_with fail
  refine(HZ.out _).mono ?_;rintro e w3 ⟨rfl,hb⟩;have HC3:=zh (hgrow hb (.cells #[.int .i64 (nP Z),.int .i64 (nQ Z)] 23) HC2.out);have HZ3:=zh (Qg w3 (.cells #[.int .i64 (nP Z),.int .i64 (nQ Z)] 23));have HW3:=zh ((QC HW2.out hb).alloc (by have:=hb.size;simp at this;omega) (.cells #[.int .i64 (nP Z),.int .i64 (nQ Z)] 23));have hz3:=hb.size;simp at hz3;clear hb x0 x1 y0 y1;obtain⟨c0,c1,c2,c3,c4⟩:=zc5 HC3;obtain⟨fc0,fc1,fc2,fc3,fc4⟩:=zf5 HC3;go_wp2;refine zr (by simp[results,results39,go_sem,c0,c1,c2,c3,c4]<;>rfl) ?_;exact ZF HR.out (QG HW3.out (by omega) _ _ _ _ _)
 ·have x0:(w2.alloc (.cells #[.int .i64 (nP Y),.int .i64 (nQ Y)] 23)).cell? w1=some (.int .i64 (nP X)):=by rw[QA HX2.out];rfl
  have x1:(w2.alloc (.cells #[.int .i64 (nP Y),.int .i64 (nQ Y)] 23)).cell? ⟨w1,1,none⟩=some (.int .i64 (nQ X)):=by rw[QA HX2.out];rfl
  have y0:(w2.alloc (.cells #[.int .i64 (nP Y),.int .i64 (nQ Y)] 23)).cell? w2=some (.int .i64 (nP Y)):=by rw[QA HY2.out];rfl
  have y1:(w2.alloc (.cells #[.int .i64 (nP Y),.int .i64 (nQ Y)] 23)).cell? ⟨w2,1,none⟩=some (.int .i64 (nQ Y)):=by rw[QA HY2.out];rfl
  go_wp2_with fail
  refine(HZ.out _).mono ?_;rintro e w3 ⟨rfl,hb⟩;have HC3:=zh (hgrow hb (.cells #[.int .i64 (nP Z),.int .i64 (nQ Z)] 23) HC2.out);have HZ3:=zh (Qg w3 (.cells #[.int .i64 (nP Z),.int .i64 (nQ Z)] 23));have HW3:=zh ((QC HW2.out hb).alloc (by have:=hb.size;simp at this;omega) (.cells #[.int .i64 (nP Z),.int .i64 (nQ Z)] 23));have hz3:=hb.size;simp at hz3;clear hb x0 x1 y0 y1;have z0:(w3.alloc (.cells #[.int .i64 (nP Z),.int .i64 (nQ Z)] 23)).cell? w3=some (.int .i64 (nP Z)):=by rw[QA HZ3.out];rfl
  have z1:(w3.alloc (.cells #[.int .i64 (nP Z),.int .i64 (nQ Z)] 23)).cell? ⟨w3,1,none⟩=some (.int .i64 (nQ Z)):=by rw[QA HZ3.out];rfl
  go_wp2_with fail
  refine(Pm _ _ _).mono ?_;rintro e w4 ⟨rfl,hb⟩;have HC4:=hkh hb HC3;have HW4:=hbn HW3 hb;clear hb;obtain⟨c0,c1,c2,c3,c4⟩:=zc5 HC4;obtain⟨fc0,fc1,fc2,fc3,fc4⟩:=zf5 HC4;go_wp2;refine zr (by simp[results,results39,go_sem,c0,c1,c2,c3,c4]<;>rfl) ?_;exact GJ HR.out rfl (QG HW4.out (by omega) _ _ _ _ _)
theorem AC (w:World) (o:Int) (k1 p1 q1:Int) (s1:ByteArray) (r1:Int) (k2 p2 q2:Int) (s2:ByteArray) (r2:Int) (l:Bool) (R:VR) (hunary:PureTo 34 o false) (hbinary:PureTo 35 o true) (harithmetic:PureTo 37 o false) (hbitwise:PureTo 38 o false)
  (hv1:∀W,Calls prog 36 #[.agg #[k1,p1,q1,s1,r1]] W (BoolPost W true)) (hv2:∀W,Calls prog 36 #[.agg #[k2,p2,q2,s2,r2]] W (BoolPost W true)) (t20:(o==20)=false) (t8:(o==8)=false) (t14:(o==14)=true) (hs:∀W,Calls prog 42 #[.agg #[k1,p1,q1,s1,r1],.agg #[k2,p2,q2,s2,r2]] W (BoolPost W l)) (hR:R= .ok (JK (l==true))):Calls prog 11 #[o,.agg #[k1,p1,q1,s1,r1],.agg #[k2,p2,q2,s2,r2]] w (VrPost w R):=by
 have HPunary:=zh hunary;clear hunary;have HPbinary:=zh hbinary;clear hbinary;have HParithmetic:=zh harithmetic;clear harithmetic;have HPbitwise:=zh hbitwise;clear hbitwise;have HV1:=zh hv1;clear hv1;have HV2:=zh hv2;clear hv2;go_enter func11,ntmps11;go_wp2_with (first|(go_at_call 34;refine(HPunary.out _).mono ?_;rintro e w' ⟨rfl,rfl⟩)|(go_at_call 35;refine(HPbinary.out _).mono ?_;rintro e w' ⟨rfl,rfl⟩)|(go_at_call 37;refine(HParithmetic.out _).mono ?_;rintro e w' ⟨rfl,rfl⟩)|(go_at_call 38;refine(HPbitwise.out _).mono ?_;rintro e w' ⟨rfl,rfl⟩))
 refine(HV1.out _).mono ?_;rintro e w1 ⟨rfl,hb⟩;have HA1:=hkh hb (Qi _ _ _ _);have HB1:=hkh hb (Qa _ _ _ _);have HC1:=hkh hb (QU _ _ _ _);have HW1:=hbn (QM _ _ _ _) hb;have hz1:=hb.size;simp at hz1;clear hb;obtain⟨b0,b1,b2,b3,b4⟩:=zc5 HB1;go_wp2_with (first|(go_at_call 34;refine(HPunary.out _).mono ?_;rintro e w' ⟨rfl,rfl⟩)|(go_at_call 35;refine(HPbinary.out _).mono ?_;rintro e w' ⟨rfl,rfl⟩)|(go_at_call 37;refine(HParithmetic.out _).mono ?_;rintro e w' ⟨rfl,rfl⟩)|(go_at_call 38;refine(HPbitwise.out _).mono ?_;rintro e w' ⟨rfl,rfl⟩))
 refine(HV2.out _).mono ?_;rintro e w2 ⟨rfl,hb⟩;have HA2:=hkh hb HA1;have HB2:=hkh hb HB1;have HC2:=hkh hb HC1;have HW2:=hbn HW1 hb;have hz2:=hb.size;clear hb b0 b1 b2 b3 b4;obtain⟨a0,a1,a2,a3,a4⟩:=zc5 HA2;obtain⟨b0,b1,b2,b3,b4⟩:=zc5 HB2;go_wp2_with (first|(go_at_call 34;refine(HPunary.out _).mono ?_;rintro e w' ⟨rfl,rfl⟩)|(go_at_call 35;refine(HPbinary.out _).mono ?_;rintro e w' ⟨rfl,rfl⟩)|(go_at_call 37;refine(HParithmetic.out _).mono ?_;rintro e w' ⟨rfl,rfl⟩)|(go_at_call 38;refine(HPbitwise.out _).mono ?_;rintro e w' ⟨rfl,rfl⟩))
 refine(hs _).mono ?_;rintro e w8 ⟨rfl,hb⟩;have HC8:=hkh hb HC2;have HW8:=hbn HW2 hb;have hz8:=hb.size;clear hb a0 a1 a2 a3 a4 b0 b1 b2 b3 b4;go_wp2_with (first|(go_at_call 34;refine(HPunary.out _).mono ?_;rintro e w' ⟨rfl,rfl⟩)|(go_at_call 35;refine(HPbinary.out _).mono ?_;rintro e w' ⟨rfl,rfl⟩)|(go_at_call 37;refine(HParithmetic.out _).mono ?_;rintro e w' ⟨rfl,rfl⟩)|(go_at_call 38;refine(HPbitwise.out _).mono ?_;rintro e w' ⟨rfl,rfl⟩))
 refine(Zq _ _).mono ?_;rintro e w9 ⟨rfl,hb⟩;have HC9:=hkh hb HC8;have HW9:=hbn HW8 hb;have hz9:=hb.size;clear hb;obtain⟨c0,c1,c2,c3,c4⟩:=zc5 HC9;obtain⟨fc0,fc1,fc2,fc3,fc4⟩:=zf5 HC9;go_wp2;refine zr (by simp[results,results11,go_sem,c0,c1,c2,c3,c4]<;>rfl) ?_;exact Yg (by first|exact hR|(revert hR;cases l<;>exact fun h=>h)) (QG HW9.out (by omega) _ _ _ _ _)
theorem AB (w:World) (o:Int) (k1 p1 q1:Int) (s1:ByteArray) (r1:Int) (k2 p2 q2:Int) (s2:ByteArray) (r2:Int) (l:Bool) (R:VR) (hunary:PureTo 34 o false) (hbinary:PureTo 35 o true) (harithmetic:PureTo 37 o false) (hbitwise:PureTo 38 o false)
  (hv1:∀W,Calls prog 36 #[.agg #[k1,p1,q1,s1,r1]] W (BoolPost W true)) (hv2:∀W,Calls prog 36 #[.agg #[k2,p2,q2,s2,r2]] W (BoolPost W true)) (t20:(o==20)=false) (t8:(o==8)=false) (t14:(o==14)=false) (t15:(o==15)=true) (hs:∀W,Calls prog 42 #[.agg #[k1,p1,q1,s1,r1],.agg #[k2,p2,q2,s2,r2]] W (BoolPost W l)) (hR:R= .ok (JK (l==false))):Calls prog 11 #[o,.agg #[k1,p1,q1,s1,r1],.agg #[k2,p2,q2,s2,r2]] w (VrPost w R):=by
 have HPunary:=zh hunary;clear hunary;have HPbinary:=zh hbinary;clear hbinary;have HParithmetic:=zh harithmetic;clear harithmetic;have HPbitwise:=zh hbitwise;clear hbitwise;have HV1:=zh hv1;clear hv1;have HV2:=zh hv2;clear hv2;go_enter func11,ntmps11;go_wp2_with (first|(go_at_call 34;refine(HPunary.out _).mono ?_;rintro e w' ⟨rfl,rfl⟩)|(go_at_call 35;refine(HPbinary.out _).mono ?_;rintro e w' ⟨rfl,rfl⟩)|(go_at_call 37;refine(HParithmetic.out _).mono ?_;rintro e w' ⟨rfl,rfl⟩)|(go_at_call 38;refine(HPbitwise.out _).mono ?_;rintro e w' ⟨rfl,rfl⟩))
 refine(HV1.out _).mono ?_;rintro e w1 ⟨rfl,hb⟩;have HA1:=hkh hb (Qi _ _ _ _);have HB1:=hkh hb (Qa _ _ _ _);have HC1:=hkh hb (QU _ _ _ _);have HW1:=hbn (QM _ _ _ _) hb;have hz1:=hb.size;simp at hz1;clear hb;obtain⟨b0,b1,b2,b3,b4⟩:=zc5 HB1;go_wp2_with (first|(go_at_call 34;refine(HPunary.out _).mono ?_;rintro e w' ⟨rfl,rfl⟩)|(go_at_call 35;refine(HPbinary.out _).mono ?_;rintro e w' ⟨rfl,rfl⟩)|(go_at_call 37;refine(HParithmetic.out _).mono ?_;rintro e w' ⟨rfl,rfl⟩)|(go_at_call 38;refine(HPbitwise.out _).mono ?_;rintro e w' ⟨rfl,rfl⟩))
 refine(HV2.out _).mono ?_;rintro e w2 ⟨rfl,hb⟩;have HA2:=hkh hb HA1;have HB2:=hkh hb HB1;have HC2:=hkh hb HC1;have HW2:=hbn HW1 hb;have hz2:=hb.size;clear hb b0 b1 b2 b3 b4;obtain⟨a0,a1,a2,a3,a4⟩:=zc5 HA2;obtain⟨b0,b1,b2,b3,b4⟩:=zc5 HB2;go_wp2_with (first|(go_at_call 34;refine(HPunary.out _).mono ?_;rintro e w' ⟨rfl,rfl⟩)|(go_at_call 35;refine(HPbinary.out _).mono ?_;rintro e w' ⟨rfl,rfl⟩)|(go_at_call 37;refine(HParithmetic.out _).mono ?_;rintro e w' ⟨rfl,rfl⟩)|(go_at_call 38;refine(HPbitwise.out _).mono ?_;rintro e w' ⟨rfl,rfl⟩))
 refine(hs _).mono ?_;rintro e w8 ⟨rfl,hb⟩;have HC8:=hkh hb HC2;have HW8:=hbn HW2 hb;have hz8:=hb.size;clear hb a0 a1 a2 a3 a4 b0 b1 b2 b3 b4;go_wp2_with (first|(go_at_call 34;refine(HPunary.out _).mono ?_;rintro e w' ⟨rfl,rfl⟩)|(go_at_call 35;refine(HPbinary.out _).mono ?_;rintro e w' ⟨rfl,rfl⟩)|(go_at_call 37;refine(HParithmetic.out _).mono ?_;rintro e w' ⟨rfl,rfl⟩)|(go_at_call 38;refine(HPbitwise.out _).mono ?_;rintro e w' ⟨rfl,rfl⟩))
 refine(Zq _ _).mono ?_;rintro e w9 ⟨rfl,hb⟩;have HC9:=hkh hb HC8;have HW9:=hbn HW8 hb;have hz9:=hb.size;clear hb;obtain⟨c0,c1,c2,c3,c4⟩:=zc5 HC9;obtain⟨fc0,fc1,fc2,fc3,fc4⟩:=zf5 HC9;go_wp2;refine zr (by simp[results,results11,go_sem,c0,c1,c2,c3,c4]<;>rfl) ?_;exact Yg (by first|exact hR|(revert hR;cases l<;>exact fun h=>h)) (QG HW9.out (by omega) _ _ _ _ _)
theorem Nt (w:World) (o:Int) (k1 p1 q1:Int) (s1:ByteArray) (r1:Int) (k2 p2 q2:Int) (s2:ByteArray) (r2:Int) (l:Bool) (R:VR) (hunary:PureTo 34 o true) (hbinary:PureTo 35 o false) (harithmetic:PureTo 37 o false) (hbitwise:PureTo 38 o false)
  (hv1:∀W,Calls prog 36 #[.agg #[k1,p1,q1,s1,r1]] W (BoolPost W true)) (t20:(o==20)=false) (t8:(o==8)=false) (t14:(o==14)=false) (t15:(o==15)=false) (t21:(o==21)=true) (hs:∀W,Calls prog 43 #[.agg #[k1,p1,q1,s1,r1]] W (BoolPost W l)) (hR:R= .ok (JK (!l))):Calls prog 11 #[o,.agg #[k1,p1,q1,s1,r1],.agg #[k2,p2,q2,s2,r2]] w (VrPost w R):=by
 have HPunary:=zh hunary;clear hunary;have HPbinary:=zh hbinary;clear hbinary;have HParithmetic:=zh harithmetic;clear harithmetic;have HPbitwise:=zh hbitwise;clear hbitwise;have HV1:=zh hv1;clear hv1;go_enter func11,ntmps11;go_wp2_with (first|(go_at_call 34;refine(HPunary.out _).mono ?_;rintro e w' ⟨rfl,rfl⟩)|(go_at_call 35;refine(HPbinary.out _).mono ?_;rintro e w' ⟨rfl,rfl⟩)|(go_at_call 37;refine(HParithmetic.out _).mono ?_;rintro e w' ⟨rfl,rfl⟩)|(go_at_call 38;refine(HPbitwise.out _).mono ?_;rintro e w' ⟨rfl,rfl⟩))
 refine(HV1.out _).mono ?_;rintro e w1 ⟨rfl,hb⟩;have HA1:=hkh hb (Qi _ _ _ _);have HB1:=hkh hb (Qa _ _ _ _);have HC1:=hkh hb (QU _ _ _ _);have HW1:=hbn (QM _ _ _ _) hb;have hz1:=hb.size;simp at hz1;clear hb;obtain⟨a0,a1,a2,a3,a4⟩:=zc5 HA1;obtain⟨b0,b1,b2,b3,b4⟩:=zc5 HB1;go_wp2_with (first|(go_at_call 34;refine(HPunary.out _).mono ?_;rintro e w' ⟨rfl,rfl⟩)|(go_at_call 35;refine(HPbinary.out _).mono ?_;rintro e w' ⟨rfl,rfl⟩)|(go_at_call 37;refine(HParithmetic.out _).mono ?_;rintro e w' ⟨rfl,rfl⟩)|(go_at_call 38;refine(HPbitwise.out _).mono ?_;rintro e w' ⟨rfl,rfl⟩))
 refine(hs _).mono ?_;rintro e w8 ⟨rfl,hb⟩;have HC8:=hkh hb HC1;have HW8:=hbn HW1 hb;have hz8:=hb.size;clear hb a0 a1 a2 a3 a4 b0 b1 b2 b3 b4;go_wp2_with (first|(go_at_call 34;refine(HPunary.out _).mono ?_;rintro e w' ⟨rfl,rfl⟩)|(go_at_call 35;refine(HPbinary.out _).mono ?_;rintro e w' ⟨rfl,rfl⟩)|(go_at_call 37;refine(HParithmetic.out _).mono ?_;rintro e w' ⟨rfl,rfl⟩)|(go_at_call 38;refine(HPbitwise.out _).mono ?_;rintro e w' ⟨rfl,rfl⟩))
 refine(Zq _ _).mono ?_;rintro e w9 ⟨rfl,hb⟩;have HC9:=hkh hb HC8;have HW9:=hbn HW8 hb;have hz9:=hb.size;clear hb;obtain⟨c0,c1,c2,c3,c4⟩:=zc5 HC9;obtain⟨fc0,fc1,fc2,fc3,fc4⟩:=zf5 HC9;go_wp2;refine zr (by simp[results,results11,go_sem,c0,c1,c2,c3,c4]<;>rfl) ?_;exact Yg (by first|exact hR|(revert hR;cases l<;>exact fun h=>h)) (QG HW9.out (by omega) _ _ _ _ _)
theorem Nv (w:World) (o:Int) (k1 p1 q1:Int) (s1:ByteArray) (r1:Int) (k2 p2 q2:Int) (s2:ByteArray) (r2:Int) (R:VR) (hunary:PureTo 34 o true) (hbinary:PureTo 35 o false) (harithmetic:PureTo 37 o false) (hbitwise:PureTo 38 o false)
  (hv1:∀W,Calls prog 36 #[.agg #[k1,p1,q1,s1,r1]] W (BoolPost W true)) (t20:(o==20)=false) (t8:(o==8)=false) (t14:(o==14)=false) (t15:(o==15)=false) (t21:(o==21)=false) (t22:(o==22)=true) (k3:(k1 !=3)=false) (hs:s1.size<=4096) (hR:R= .ok (Xl (s1.size:Int))):Calls prog 11 #[o,.agg #[k1,p1,q1,s1,r1],.agg #[k2,p2,q2,s2,r2]] w (VrPost w R):=by
 have HPunary:=zh hunary;clear hunary;have HPbinary:=zh hbinary;clear hbinary;have HParithmetic:=zh harithmetic;clear harithmetic;have HPbitwise:=zh hbitwise;clear hbitwise;have HV1:=zh hv1;clear hv1;go_enter func11,ntmps11;go_wp2_with (first|(go_at_call 34;refine(HPunary.out _).mono ?_;rintro e w' ⟨rfl,rfl⟩)|(go_at_call 35;refine(HPbinary.out _).mono ?_;rintro e w' ⟨rfl,rfl⟩)|(go_at_call 37;refine(HParithmetic.out _).mono ?_;rintro e w' ⟨rfl,rfl⟩)|(go_at_call 38;refine(HPbitwise.out _).mono ?_;rintro e w' ⟨rfl,rfl⟩))
 refine(HV1.out _).mono ?_;rintro e w1 ⟨rfl,hb⟩;have HA1:=hkh hb (Qi _ _ _ _);have HB1:=hkh hb (Qa _ _ _ _);have HC1:=hkh hb (QU _ _ _ _);have HW1:=hbn (QM _ _ _ _) hb;have hz1:=hb.size;simp at hz1;clear hb;obtain⟨a0,a1,a2,a3,a4⟩:=zc5 HA1;obtain⟨b0,b1,b2,b3,b4⟩:=zc5 HB1;go_wp2_with (first|(go_at_call 34;refine(HPunary.out _).mono ?_;rintro e w' ⟨rfl,rfl⟩)|(go_at_call 35;refine(HPbinary.out _).mono ?_;rintro e w' ⟨rfl,rfl⟩)|(go_at_call 37;refine(HParithmetic.out _).mono ?_;rintro e w' ⟨rfl,rfl⟩)|(go_at_call 38;refine(HPbitwise.out _).mono ?_;rintro e w' ⟨rfl,rfl⟩))
 refine(Y6 _ _).mono ?_;rintro e w9 ⟨rfl,hb⟩;have HC9:=hkh hb HC1;have HW9:=hbn HW1 hb;have hz9:=hb.size;clear hb a0 a1 a2 a3 a4 b0 b1 b2 b3 b4;obtain⟨c0,c1,c2,c3,c4⟩:=zc5 HC9;obtain⟨fc0,fc1,fc2,fc3,fc4⟩:=zf5 HC9;go_wp2;refine zr (by simp[results,results11,go_sem,c0,c1,c2,c3,c4]<;>rfl) ?_;exact Yg hR (QG HW9.out (by omega) _ _ _ _ _)
theorem EK (w:World) (o:Int) (k1 p1 q1:Int) (s1:ByteArray) (r1:Int) (k2 p2 q2:Int) (s2:ByteArray) (r2:Int) (R:VR) (hunary:PureTo 34 o true) (hbinary:PureTo 35 o false) (harithmetic:PureTo 37 o false) (hbitwise:PureTo 38 o false)
  (hv1:∀W,Calls prog 36 #[.agg #[k1,p1,q1,s1,r1]] W (BoolPost W true)) (t20:(o==20)=false) (t8:(o==8)=false) (t14:(o==14)=false) (t15:(o==15)=false) (t21:(o==21)=false) (t22:(o==22)=true) (k3:(k1 !=3)=true) (hR:R= .error 8):Calls prog 11 #[o,.agg #[k1,p1,q1,s1,r1],.agg #[k2,p2,q2,s2,r2]] w (VrPost w R):=by
 have HPunary:=zh hunary;clear hunary;have HPbinary:=zh hbinary;clear hbinary;have HParithmetic:=zh harithmetic;clear harithmetic;have HPbitwise:=zh hbitwise;clear hbitwise;have HV1:=zh hv1;clear hv1;go_enter func11,ntmps11;go_wp2_with (first|(go_at_call 34;refine(HPunary.out _).mono ?_;rintro e w' ⟨rfl,rfl⟩)|(go_at_call 35;refine(HPbinary.out _).mono ?_;rintro e w' ⟨rfl,rfl⟩)|(go_at_call 37;refine(HParithmetic.out _).mono ?_;rintro e w' ⟨rfl,rfl⟩)|(go_at_call 38;refine(HPbitwise.out _).mono ?_;rintro e w' ⟨rfl,rfl⟩))
 refine(HV1.out _).mono ?_;rintro e w1 ⟨rfl,hb⟩;have HA1:=hkh hb (Qi _ _ _ _);have HB1:=hkh hb (Qa _ _ _ _);have HC1:=hkh hb (QU _ _ _ _);have HW1:=hbn (QM _ _ _ _) hb;have hz1:=hb.size;simp at hz1;clear hb;obtain⟨a0,a1,a2,a3,a4⟩:=zc5 HA1;obtain⟨c0,c1,c2,c3,c4⟩:=zc5 HC1;obtain⟨fc0,fc1,fc2,fc3,fc4⟩:=zf5 HC1;go_wp2_with (first|(go_at_call 34;refine(HPunary.out _).mono ?_;rintro e w' ⟨rfl,rfl⟩)|(go_at_call 35;refine(HPbinary.out _).mono ?_;rintro e w' ⟨rfl,rfl⟩)|(go_at_call 37;refine(HParithmetic.out _).mono ?_;rintro e w' ⟨rfl,rfl⟩)|(go_at_call 38;refine(HPbitwise.out _).mono ?_;rintro e w' ⟨rfl,rfl⟩))
 refine zr (by simp[results,results11,go_sem,c0,c1,c2,c3,c4]<;>rfl) ?_;exact ZF hR (QG HW1.out (by omega) _ _ _ _ _)
end Go.Proofs.YthkpckgcgkijbaaGreatDoor
