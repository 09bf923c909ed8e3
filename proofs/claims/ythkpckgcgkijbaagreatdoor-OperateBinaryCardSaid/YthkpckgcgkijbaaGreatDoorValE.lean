import Derived.Test.YthkpckgcgkijbaaGreatDoorRefA
import Derived.Test.YthkpckgcgkijbaaGreatDoorTexC
set_option linter.unusedVariables false
set_option linter.unusedSimpArgs false
set_option maxRecDepth 100000
set_option maxHeartbeats 8000000
namespace Go.Proofs.YthkpckgcgkijbaaGreatDoor
open Go.RowKit Go.Proofs.Lexi Go.Proofs.Tryz
theorem Oe (w:World) (p q:Int) (s:ByteArray) (r:Int) (p2 q2:Int) (s2:ByteArray) (r2:Int):Calls prog 97 #[.agg #[.int .i64 2,p,q,s,r],.agg #[.int .i64 2,p2,q2,s2,r2]] w (BrPost w (if QT (p,q)&&QT (p2,q2) then .ok (decide (FY (p,q) (p2,q2)<0)) else .error 8)):=by
 obtain⟨R,hR⟩:∃R:BR,R=if QT (p,q)&&QT (p2,q2) then .ok (decide (FY (p,q) (p2,q2)<0)) else .error 8:=⟨_,rfl⟩
 rw[<-hR];cases h1:QT (p,q)
 ·have HR:=zh (show R= .error 8 from by rw[hR,h1];rfl);have HV:=zh (fun W=>(h1▸Q7 W p q:Calls prog 81 #[.agg #[p,q]] W (BoolPost W _)));clear h1 hR;go_enter func97,ntmps97;go_wp2_with fail
  refine(HV.out _).mono ?_;rintro e w1 ⟨rfl,hb⟩;obtain⟨hc,hf⟩:=QN hb;have hz:=hb.size;simp at hz;have HB1:=hbn (QE _ _ _) hb;have a0:w1.cell? w=some (.int .i64 2):=(hc _ _ (by simp<;>omega)).trans (by simp[go_sem]);have a1:w1.cell? ⟨w,1,none⟩=some (.int .i64 p):=(hc _ _ (by simp<;>omega)).trans (by simp[go_sem]);have a2:w1.cell? ⟨w,2,none⟩=some (.int .i64 q):=(hc _ _ (by simp<;>omega)).trans (by simp[go_sem]);have b0:w1.cell? ⟨w+1,0,none⟩=some (.int .i64 2):=(hc _ _ (by simp<;>omega)).trans (by simp[go_sem]);have b1:w1.cell? ⟨w+1,1,none⟩=some (.int .i64 p2):=(hc _ _ (by simp<;>omega)).trans (by simp[go_sem]);have b2:w1.cell? ⟨w+1,2,none⟩=some (.int .i64 q2):=(hc _ _ (by simp<;>omega)).trans (by simp[go_sem]);clear hb hc hf;go_wp2
  go_ret2
  exact Uo HR.out HB1.out
 ·cases h2:QT (p2,q2)
  ·have HR:=zh (show R= .error 8 from by rw[hR,h1,h2];rfl);have HV:=zh (fun W=>(h1▸Q7 W p q:Calls prog 81 #[.agg #[p,q]] W (BoolPost W _)));have HV2:=zh (fun W=>(h2▸Q7 W p2 q2:Calls prog 81 #[.agg #[p2,q2]] W (BoolPost W _)));clear h1 h2 hR;go_enter func97,ntmps97;go_wp2_with fail
   refine(HV.out _).mono ?_;rintro e w1 ⟨rfl,hb⟩;obtain⟨hc,hf⟩:=QN hb;have hz:=hb.size;simp at hz;have HB1:=hbn (QE _ _ _) hb;have a0:w1.cell? w=some (.int .i64 2):=(hc _ _ (by simp<;>omega)).trans (by simp[go_sem]);have a1:w1.cell? ⟨w,1,none⟩=some (.int .i64 p):=(hc _ _ (by simp<;>omega)).trans (by simp[go_sem]);have a2:w1.cell? ⟨w,2,none⟩=some (.int .i64 q):=(hc _ _ (by simp<;>omega)).trans (by simp[go_sem]);have b0:w1.cell? ⟨w+1,0,none⟩=some (.int .i64 2):=(hc _ _ (by simp<;>omega)).trans (by simp[go_sem]);have b1:w1.cell? ⟨w+1,1,none⟩=some (.int .i64 p2):=(hc _ _ (by simp<;>omega)).trans (by simp[go_sem]);have b2:w1.cell? ⟨w+1,2,none⟩=some (.int .i64 q2):=(hc _ _ (by simp<;>omega)).trans (by simp[go_sem]);clear hb hc hf;go_wp2_with fail
   refine(HV2.out _).mono ?_;rintro e w2 ⟨rfl,hb⟩;obtain⟨hc,hf⟩:=QN hb;have hz2:=hb.size;have HB2:=hbn HB1 hb;have ca0:w2.cell? w=some (.int .i64 2):=(hc _ _ (by omega)).trans a0;have ca1:w2.cell? ⟨w,1,none⟩=some (.int .i64 p):=(hc _ _ (by omega)).trans a1;have ca2:w2.cell? ⟨w,2,none⟩=some (.int .i64 q):=(hc _ _ (by omega)).trans a2;have cb0:w2.cell? ⟨w+1,0,none⟩=some (.int .i64 2):=(hc _ _ (by omega)).trans b0;have cb1:w2.cell? ⟨w+1,1,none⟩=some (.int .i64 p2):=(hc _ _ (by omega)).trans b1;have cb2:w2.cell? ⟨w+1,2,none⟩=some (.int .i64 q2):=(hc _ _ (by omega)).trans b2;clear hb hc hf a0 a1 a2 b0 b1 b2;go_wp2
   go_ret2
   exact Uo HR.out HB2.out
  ·have HR:=zh (show R= .ok (decide (FY (p,q) (p2,q2)<0)) from by rw[hR,h1,h2];rfl);have HV:=zh (fun W=>(h1▸Q7 W p q:Calls prog 81 #[.agg #[p,q]] W (BoolPost W _)));have HV2:=zh (fun W=>(h2▸Q7 W p2 q2:Calls prog 81 #[.agg #[p2,q2]] W (BoolPost W _)));clear h1 h2 hR;go_enter func97,ntmps97;go_wp2_with fail
   refine(HV.out _).mono ?_;rintro e w1 ⟨rfl,hb⟩;obtain⟨hc,hf⟩:=QN hb;have hz:=hb.size;simp at hz;have HB1:=hbn (QE _ _ _) hb;have a0:w1.cell? w=some (.int .i64 2):=(hc _ _ (by simp<;>omega)).trans (by simp[go_sem]);have a1:w1.cell? ⟨w,1,none⟩=some (.int .i64 p):=(hc _ _ (by simp<;>omega)).trans (by simp[go_sem]);have a2:w1.cell? ⟨w,2,none⟩=some (.int .i64 q):=(hc _ _ (by simp<;>omega)).trans (by simp[go_sem]);have b0:w1.cell? ⟨w+1,0,none⟩=some (.int .i64 2):=(hc _ _ (by simp<;>omega)).trans (by simp[go_sem]);have b1:w1.cell? ⟨w+1,1,none⟩=some (.int .i64 p2):=(hc _ _ (by simp<;>omega)).trans (by simp[go_sem]);have b2:w1.cell? ⟨w+1,2,none⟩=some (.int .i64 q2):=(hc _ _ (by simp<;>omega)).trans (by simp[go_sem]);clear hb hc hf;go_wp2_with fail
   refine(HV2.out _).mono ?_;rintro e w2 ⟨rfl,hb⟩;obtain⟨hc,hf⟩:=QN hb;have hz2:=hb.size;have HB2:=hbn HB1 hb;have ca0:w2.cell? w=some (.int .i64 2):=(hc _ _ (by omega)).trans a0;have ca1:w2.cell? ⟨w,1,none⟩=some (.int .i64 p):=(hc _ _ (by omega)).trans a1;have ca2:w2.cell? ⟨w,2,none⟩=some (.int .i64 q):=(hc _ _ (by omega)).trans a2;have cb0:w2.cell? ⟨w+1,0,none⟩=some (.int .i64 2):=(hc _ _ (by omega)).trans b0;have cb1:w2.cell? ⟨w+1,1,none⟩=some (.int .i64 p2):=(hc _ _ (by omega)).trans b1;have cb2:w2.cell? ⟨w+1,2,none⟩=some (.int .i64 q2):=(hc _ _ (by omega)).trans b2;clear hb hc hf a0 a1 a2 b0 b1 b2;go_wp2_with fail
   refine(S5 _ _ _ _ _).mono ?_;rintro e w3 ⟨rfl,hb⟩;have HB3:=hbn HB2 hb;clear hb;go_wp2
   go_ret2
   exact BB HR.out HB3.out
theorem Od (w:World) (p q:Int) (s:ByteArray) (r:Int) (p2 q2:Int) (s2:ByteArray) (r2:Int) (hs:s.size<=2000000000) (hs2:s2.size<=2000000000):Calls prog 97 #[.agg #[.int .i64 3,p,q,s,r],.agg #[.int .i64 3,p2,q2,s2,r2]] w (BrPost w (.ok (Kk s s2))):=by
 have HBF:=zh (fun W=>On W s s2 hs hs2);go_enter func97,ntmps97;go_wp2_with fail
 refine(HBF.out _).mono ?_;rintro e w1 ⟨rfl,n,rfl⟩;go_wp2
 go_ret2
 exact BB rfl (below_drewN (QE _ _ _) _)
theorem GX (w:World) (k:Int) (k2:Int) (p q:Int) (s:ByteArray) (r:Int) (p2 q2:Int) (s2:ByteArray) (r2:Int) (h:(((k==2)=true/\(k2==2)=false/\(k==3)=false)\/((k==2)=false/\(k==3)=true/\(k2==3)=false)\/((k==2)=false/\(k==3)=false))):Calls prog 97 #[.agg #[k,p,q,s,r],.agg #[k2,p2,q2,s2,r2]] w (BrPost w (.error 8)):=by
 rcases h with⟨h,h2,h3⟩|⟨h,h2,h3⟩|⟨h,h2⟩;all_goals
  go_enter func97,ntmps97;go_wp2
  go_ret2
  exact Uo rfl (QE _ _ _)
theorem EH (w:World) (k:Int) (k2:Int) (p q:Int) (s:ByteArray) (r:Int) (p2 q2:Int) (s2:ByteArray) (r2:Int) (hs:s.size<=2000000000) (hs2:s2.size<=2000000000):Calls prog 97 #[.agg #[k,p,q,s,r],.agg #[k2,p2,q2,s2,r2]] w (BrPost w (JM ⟨k,p,q,s,r⟩ ⟨k2,p2,q2,s2,r2⟩)):=by
 obtain⟨R,hR⟩:∃R,R=JM ⟨k,p,q,s,r⟩ ⟨k2,p2,q2,s2,r2⟩:=⟨_,rfl⟩
 rw[<-hR];unfold JM at hR;have hR:R=if k=2/\k2=2 then(if QT (p,q)&&QT (p2,q2) then .ok (decide (FY (p,q) (p2,q2)<0)) else .error 8) else if k=3/\k2=3 then .ok (Kk s s2) else .error 8:=hR
 have tf:∀a b:Int,a≠b->(a==b)=false:=fun a b h=>by rw[beq_eq_false_iff_ne];exact h
 by_cases h2:k=2
 ·by_cases h22:k2=2
  ·subst h2 h22;rw[if_pos ⟨rfl,rfl⟩] at hR;rw[hR];exact Oe w p q s r p2 q2 s2 r2
  ·rw[if_neg (fun h=>h22 h.2),if_neg (fun h=>by omega)] at hR;rw[hR];exact GX w k k2 p q s r p2 q2 s2 r2 (.inl ⟨by rw[h2];rfl,tf _ _ h22,tf _ _ (by omega)⟩)
 ·rw[if_neg (fun h=>h2 h.1)] at hR;by_cases h3:k=3
  ·by_cases h33:k2=3
   ·subst h3 h33;rw[if_pos ⟨rfl,rfl⟩] at hR;rw[hR];exact Od w p q s r p2 q2 s2 r2 hs hs2
   ·rw[if_neg (fun h=>h33 h.2)] at hR;rw[hR];exact GX w k k2 p q s r p2 q2 s2 r2 (.inr (.inl ⟨tf _ _ h2,by rw[h3];rfl,tf _ _ h33⟩))
  ·rw[if_neg (fun h=>h3 h.1)] at hR;rw[hR];exact GX w k k2 p q s r p2 q2 s2 r2 (.inr (.inr ⟨tf _ _ h2,tf _ _ h3⟩))
theorem U0 (w:World) (o:Int) (u v:Nat) (hu:u<=4294967295) (hv:v<=4294967295) (n:Int) (h1: -2147483647<=n) (h2:n<=2147483647) (x y:Int) (hx:x=u) (hy:y=v):
  Calls prog 167 #[.int .i64 o,x,y,.int .i64 n] w fun e w'=>e= .returned (.int .i64 (Yq o u v n:Nat))/\w=w':=by
 subst hx hy;exact Bp w o u v hu hv n h1 h2
theorem B5 (w:World) (o p q p' q':Int):Calls prog 107 #[.int .i64 o,.agg #[p,q],.agg #[.int .i64 p',q']] w (NumPost w (JU o (p,q) (p',q'))):=by
 obtain⟨R,hR⟩:∃R,R=JU o (p,q) (p',q'):=⟨_,rfl⟩
 rw[<-hR];have hc:(o<9\/(13<o/\(o<23\/23<o)))\/(9<=o/\o<=13)\/o=23:=by omega
 rcases hc with hc|⟨hc1,hc2⟩|rfl
 ·have HR:=zh (show R= .error 2 from by rw[hR];exact P6 (by unfold K0;rw[decide_eq_false (by omega),decide_eq_false (by omega)];rfl));have HB1:=zh (QM w (o2 p q) (o2 p' q') (o2 0 0));have t1:(o !=23)=true:=by rw[bne_iff_ne];omega
  clear hR;rcases hc with c|⟨c,c2⟩;all_goals
   go_enter func107,ntmps107;go_wp2;refine zr (by simp[results,results107,go_sem]<;>rfl) ?_;exact QZ HR.out HB1.out
 ·have t2:(o==23)=false:=by rw[beq_eq_false_iff_ne];omega
  have HB:=zh (QM w (o2 p q) (o2 p' q') (o2 0 0));have HV1:=zh (Q7 (((w.alloc (o2 p q)).alloc (o2 p' q')).alloc (o2 0 0)) p q);have HV2:=zh (fun W=>Q7 W p' q');have hR0:R=if QT (p,q)&&QT (p',q') then XG o (p,q) (p',q') else .error 2:=by rw[hR];exact by rw[JL (by unfold K0;rw[decide_eq_true ⟨hc1,hc2⟩];rfl),LT (by omega)]
  clear hR;cases hv:QT (p,q) with
  |false=>
   have HR:=zh (show R= .error 2 from by rw[hR0,hv];rfl);have HVV:=zh hv;clear hv hR0;go_enter func107,ntmps107;go_wp2_with fail
   refine HV1.out.mono ?_;rw[HVV.out];rintro e w1 ⟨rfl,hb⟩;have HB1:=hbn HB hb;have HW1:=zh hb;obtain⟨hc,hf⟩:=QN hb;have hz:=hb.size;simp at hz;clear hb;go_wp2;refine zr (by simp[results,results107,go_sem,hc]<;>rfl) ?_;exact QZ HR.out (QD HB1.out (by omega) _ _)
  |true=>
   cases hv2:QT (p',q') with
   |false=>
    have HR:=zh (show R= .error 2 from by rw[hR0,hv,hv2];rfl);have HVV:=zh hv;have HVV2:=zh hv2;clear hv hv2 hR0;go_enter func107,ntmps107;go_wp2_with fail
    refine HV1.out.mono ?_;rw[HVV.out];rintro e w1 ⟨rfl,hb⟩;have HB1:=hbn HB hb;have HW1:=zh hb;obtain⟨hc,hf⟩:=QN hb;have hz:=hb.size;simp at hz;clear hb;go_wp2_with fail
    refine(HV2.out _).mono ?_;rw[HVV2.out];rintro e w2 ⟨rfl,hb⟩;have HB2:=hbn HB1 hb;have HW2:=hbn HW1 hb;clear hc hf;obtain⟨hc,hf⟩:=QN HW2.out;have hz2:=hb.size;clear hb;go_wp2;refine zr (by simp[results,results107,go_sem,hc]<;>rfl) ?_;exact QZ HR.out (QD HB2.out (by omega) _ _)
   |true=>
    have hR1:R=XG o (p,q) (p',q'):=by rw[hR0,hv,hv2];rfl
    have hb1:=QO hv;have hb2:=QO hv2;simp only[] at hb1 hb2;obtain⟨a1,a2,a3,a4⟩:=hb1;obtain⟨b1,b2,b3,b4⟩:=hb2;have HVV:=zh hv;have HVV2:=zh hv2;clear hv hv2 hR0;by_cases hq:1<q\/(q<=1/\(1:Int)<q')
    ·have HR:=zh (show R= .error 8 from by rw[hR1];exact J7 (by simp only[];omega));clear hR1;have tq:(q !=1)=decide (1<q):=by rw[Bool.eq_iff_iff,bne_iff_ne,decide_eq_true_eq];omega
     have tq2:((q':Int) !=1)=decide ((1:Int)<q'):=by first|rfl|(rw[Bool.eq_iff_iff,bne_iff_ne,decide_eq_true_eq];omega)
     rcases hq with c|⟨c,c2⟩
     ·rw[decide_eq_true (show 1<q from c)] at tq;clear tq2;go_enter func107,ntmps107;go_wp2_with fail
      refine HV1.out.mono ?_;rw[HVV.out];rintro e w1 ⟨rfl,hb⟩;have HB1:=hbn HB hb;have HW1:=zh hb;obtain⟨hc,hf⟩:=QN hb;have hz:=hb.size;simp at hz;clear hb;go_wp2_with fail
      refine(HV2.out _).mono ?_;rw[HVV2.out];rintro e w2 ⟨rfl,hb⟩;have HB2:=hbn HB1 hb;have HW2:=hbn HW1 hb;clear hc hf;obtain⟨hc,hf⟩:=QN HW2.out;have hz2:=hb.size;clear hb;go_wp2;refine zr (by simp[results,results107,go_sem,hc]<;>rfl) ?_;exact QZ HR.out (QD HB2.out (by omega) _ _)
     ·rw[decide_eq_false (show¬1<q by omega)] at tq;rw[decide_eq_true (show 1<q' from c2)] at tq2;go_enter func107,ntmps107;go_wp2_with fail
      refine HV1.out.mono ?_;rw[HVV.out];rintro e w1 ⟨rfl,hb⟩;have HB1:=hbn HB hb;have HW1:=zh hb;obtain⟨hc,hf⟩:=QN hb;have hz:=hb.size;simp at hz;clear hb;go_wp2_with fail
      refine(HV2.out _).mono ?_;rw[HVV2.out];rintro e w2 ⟨rfl,hb⟩;have HB2:=hbn HB1 hb;have HW2:=hbn HW1 hb;clear hc hf;obtain⟨hc,hf⟩:=QN HW2.out;have hz2:=hb.size;clear hb;go_wp2;refine zr (by simp[results,results107,go_sem,hc]<;>rfl) ?_;exact QZ HR.out (QD HB2.out (by omega) _ _)
    ·have tq:(q !=1)=false:=by rw[bne_eq_false_iff_eq];omega
     have tq2:((q':Int) !=1)=false:=by first|rfl|(rw[bne_eq_false_iff_eq];omega)
     have hR2:R=Jk (Zf (Yq o (KS p) (KS p') p')):=by rw[hR1];exact Jb (show q=1 by omega) (show(q':Int)=1 by first|rfl|omega)
     have hu:=Z1 p;have hv:=Z1 p';have hrl:=K3 hu hv o p';have eu:=Z2 p;have ev:=Z2 p';obtain⟨u,hu0⟩:∃u,u=KS p:=⟨_,rfl⟩
     obtain⟨v,hv0⟩:∃v,v=KS p':=⟨_,rfl⟩
     rw[<-hu0] at hu eu hR2 hrl;rw[<-hv0] at hv ev hR2 hrl;obtain⟨r,hr0⟩:∃r,r=Yq o u v p':=⟨_,rfl⟩
     rw[<-hr0] at hR2 hrl;have HEU:=zh eu;have HEV:=zh ev;have HU:=zh hu;have HV:=zh hv;obtain⟨z,hz⟩:∃z:Int,z=(r:Int):=⟨_,rfl⟩
     have HRR:=zh (show((Yq o u v p':Nat):Int)=z from by rw[hz,hr0]);have hz1:0<=z:=by omega
     have hz2:z<=4294967295:=by omega
     have hR3:(2147483648<=z->R=Jk (z-4294967296))/\(z<2147483648->R=Jk z):=⟨fun h=>by rw[hR2,DJ (by omega),hz],fun h=>by rw[hR2,DI (by omega),hz]⟩
     clear eu ev hu0 hv0 hr0 hR1 hq hu hv hrl hR2 hz;by_cases hs:2147483648<=z
     ·have HR:=zh (show Jk (z-4294967296)=R from(hR3.1 hs).symm);clear hR3;have M1:=zh (show bits .and .i64 p 4294967295=(u:Int) from(Zj p).trans HEU.out);have M2:=zh (show bits .and .i64 p' 4294967295=(v:Int) from(Zj p').trans HEV.out);go_enter func107,ntmps107;go_wp2_with fail
      refine HV1.out.mono ?_;rw[HVV.out];rintro e w1 ⟨rfl,hb⟩;have HB1:=hbn HB hb;have HW1:=zh hb;obtain⟨hc,hf⟩:=QN hb;have hz:=hb.size;simp at hz;clear hb;go_wp2_with fail
      refine(HV2.out _).mono ?_;rw[HVV2.out];rintro e w2 ⟨rfl,hb⟩;have HB2:=hbn HB1 hb;have HW2:=hbn HW1 hb;clear hc hf;obtain⟨hc,hf⟩:=QN HW2.out;have hz2:=hb.size;clear hb;go_wp2_with fail
      refine(U0 _ o u v HU.out HV.out p' (by omega) (by omega) _ _ M1.out M2.out).mono ?_;rw[HRR.out];rintro e w3 ⟨rfl,rfl⟩;go_wp2_with fail
      refine(DH _ _).mono ?_;rw[HR.out];rintro e w4 ⟨rfl,hb⟩;have HB4:=hbn HB2 hb;have HW4:=hbn HW2 hb;clear hc hf;obtain⟨hc,hf⟩:=QN HW4.out;have hz4:=hb.size;try simp at hz4
      clear hb;go_wp2;refine zr (by simp[results,results107,go_sem,hc]<;>rfl) ?_;refine Qz (QD HB4.out ?_ _ _);omega
     ·have HR:=zh (show Jk z=R from(hR3.2 (by omega)).symm);clear hR3;have M1:=zh (show bits .and .i64 p 4294967295=(u:Int) from(Zj p).trans HEU.out);have M2:=zh (show bits .and .i64 p' 4294967295=(v:Int) from(Zj p').trans HEV.out);go_enter func107,ntmps107;go_wp2_with fail
      refine HV1.out.mono ?_;rw[HVV.out];rintro e w1 ⟨rfl,hb⟩;have HB1:=hbn HB hb;have HW1:=zh hb;obtain⟨hc,hf⟩:=QN hb;have hz:=hb.size;simp at hz;clear hb;go_wp2_with fail
      refine(HV2.out _).mono ?_;rw[HVV2.out];rintro e w2 ⟨rfl,hb⟩;have HB2:=hbn HB1 hb;have HW2:=hbn HW1 hb;clear hc hf;obtain⟨hc,hf⟩:=QN HW2.out;have hz2:=hb.size;clear hb;go_wp2_with fail
      refine(U0 _ o u v HU.out HV.out p' (by omega) (by omega) _ _ M1.out M2.out).mono ?_;rw[HRR.out];rintro e w3 ⟨rfl,rfl⟩;go_wp2_with fail
      refine(DH _ _).mono ?_;rw[HR.out];rintro e w4 ⟨rfl,hb⟩;have HB4:=hbn HB2 hb;have HW4:=hbn HW2 hb;clear hc hf;obtain⟨hc,hf⟩:=QN HW4.out;have hz4:=hb.size;try simp at hz4
      clear hb;go_wp2;refine zr (by simp[results,results107,go_sem,hc]<;>rfl) ?_;refine Qz (QD HB4.out ?_ _ _);omega
 ·have HB:=zh (QM w (o2 p q) (o2 0 1) (o2 0 0));have HV1:=zh (Q7 (((w.alloc (o2 p q)).alloc (o2 0 1)).alloc (o2 0 0)) p q);have HV2:=zh (fun W=>Q7 W 0 1);have hR0:R=if QT (p,q)&&QT (0,1) then XG 23 (p,q) (0,1) else .error 2:=by rw[hR];exact by rw[JL (by decide)];rfl
  clear hR;cases hv:QT (p,q) with
  |false=>
   have HR:=zh (show R= .error 2 from by rw[hR0,hv];rfl);have HVV:=zh hv;clear hv hR0;go_enter func107,ntmps107;go_wp2_with fail
   refine HV1.out.mono ?_;rw[HVV.out];rintro e w1 ⟨rfl,hb⟩;have HB1:=hbn HB hb;have HW1:=zh hb;obtain⟨hc,hf⟩:=QN hb;have hz:=hb.size;simp at hz;clear hb;go_wp2;refine zr (by simp[results,results107,go_sem,hc]<;>rfl) ?_;exact QZ HR.out (QD HB1.out (by omega) _ _)
  |true=>
   cases hv2:QT (0,1) with
   |false=>
    have HR:=zh (show R= .error 2 from by rw[hR0,hv,hv2];rfl);have HVV:=zh hv;have HVV2:=zh hv2;clear hv hv2 hR0;go_enter func107,ntmps107;go_wp2_with fail
    refine HV1.out.mono ?_;rw[HVV.out];rintro e w1 ⟨rfl,hb⟩;have HB1:=hbn HB hb;have HW1:=zh hb;obtain⟨hc,hf⟩:=QN hb;have hz:=hb.size;simp at hz;clear hb;go_wp2_with fail
    refine(HV2.out _).mono ?_;rw[HVV2.out];rintro e w2 ⟨rfl,hb⟩;have HB2:=hbn HB1 hb;have HW2:=hbn HW1 hb;clear hc hf;obtain⟨hc,hf⟩:=QN HW2.out;have hz2:=hb.size;clear hb;go_wp2;refine zr (by simp[results,results107,go_sem,hc]<;>rfl) ?_;exact QZ HR.out (QD HB2.out (by omega) _ _)
   |true=>
    have hR1:R=XG 23 (p,q) (0,1):=by rw[hR0,hv,hv2];rfl
    have hb1:=QO hv;have hb2:=QO hv2;simp only[] at hb1 hb2;obtain⟨a1,a2,a3,a4⟩:=hb1;obtain⟨b1,b2,b3,b4⟩:=hb2;have HVV:=zh hv;have HVV2:=zh hv2;clear hv hv2 hR0;by_cases hq:1<q\/(q<=1/\(1:Int)<1)
    ·have HR:=zh (show R= .error 8 from by rw[hR1];exact J7 (by simp only[];omega));clear hR1;have tq:(q !=1)=decide (1<q):=by rw[Bool.eq_iff_iff,bne_iff_ne,decide_eq_true_eq];omega
     have tq2:((1:Int) !=1)=decide ((1:Int)<1):=by first|rfl|(rw[Bool.eq_iff_iff,bne_iff_ne,decide_eq_true_eq];omega)
     rcases hq with c|⟨c,c2⟩
     ·rw[decide_eq_true (show 1<q from c)] at tq;clear tq2;go_enter func107,ntmps107;go_wp2_with fail
      refine HV1.out.mono ?_;rw[HVV.out];rintro e w1 ⟨rfl,hb⟩;have HB1:=hbn HB hb;have HW1:=zh hb;obtain⟨hc,hf⟩:=QN hb;have hz:=hb.size;simp at hz;clear hb;go_wp2_with fail
      refine(HV2.out _).mono ?_;rw[HVV2.out];rintro e w2 ⟨rfl,hb⟩;have HB2:=hbn HB1 hb;have HW2:=hbn HW1 hb;clear hc hf;obtain⟨hc,hf⟩:=QN HW2.out;have hz2:=hb.size;clear hb;go_wp2;refine zr (by simp[results,results107,go_sem,hc]<;>rfl) ?_;exact QZ HR.out (QD HB2.out (by omega) _ _)
     ·exact absurd c2 (by omega)
    ·have tq:(q !=1)=false:=by rw[bne_eq_false_iff_eq];omega
     have tq2:((1:Int) !=1)=false:=by first|rfl|(rw[bne_eq_false_iff_eq];omega)
     have hR2:R=Jk (Zf (Yq 23 (KS p) (KS 0) 0)):=by rw[hR1];exact Jb (show q=1 by omega) (show(1:Int)=1 by first|rfl|omega)
     have hu:=Z1 p;have hv:=Z1 0;have hrl:=K3 hu hv 23 0;have eu:=Z2 p;have ev:=Z2 0;obtain⟨u,hu0⟩:∃u,u=KS p:=⟨_,rfl⟩
     obtain⟨v,hv0⟩:∃v,v=KS 0:=⟨_,rfl⟩
     rw[<-hu0] at hu eu hR2 hrl;rw[<-hv0] at hv ev hR2 hrl;obtain⟨r,hr0⟩:∃r,r=Yq 23 u v 0:=⟨_,rfl⟩
     rw[<-hr0] at hR2 hrl;have HEU:=zh eu;have HEV:=zh ev;have HU:=zh hu;have HV:=zh hv;obtain⟨z,hz⟩:∃z:Int,z=(r:Int):=⟨_,rfl⟩
     have HRR:=zh (show((Yq 23 u v 0:Nat):Int)=z from by rw[hz,hr0]);have hz1:0<=z:=by omega
     have hz2:z<=4294967295:=by omega
     have hR3:(2147483648<=z->R=Jk (z-4294967296))/\(z<2147483648->R=Jk z):=⟨fun h=>by rw[hR2,DJ (by omega),hz],fun h=>by rw[hR2,DI (by omega),hz]⟩
     clear eu ev hu0 hv0 hr0 hR1 hq hu hv hrl hR2 hz;by_cases hs:2147483648<=z
     ·have HR:=zh (show Jk (z-4294967296)=R from(hR3.1 hs).symm);clear hR3;have M1:=zh (show bits .and .i64 p 4294967295=(u:Int) from(Zj p).trans HEU.out);have M2:=zh (show bits .and .i64 0 4294967295=(v:Int) from(Zj 0).trans HEV.out);go_enter func107,ntmps107;go_wp2_with fail
      refine HV1.out.mono ?_;rw[HVV.out];rintro e w1 ⟨rfl,hb⟩;have HB1:=hbn HB hb;have HW1:=zh hb;obtain⟨hc,hf⟩:=QN hb;have hz:=hb.size;simp at hz;clear hb;go_wp2_with fail
      refine(HV2.out _).mono ?_;rw[HVV2.out];rintro e w2 ⟨rfl,hb⟩;have HB2:=hbn HB1 hb;have HW2:=hbn HW1 hb;clear hc hf;obtain⟨hc,hf⟩:=QN HW2.out;have hz2:=hb.size;clear hb;go_wp2_with fail
      refine(U0 _ 23 u v HU.out HV.out 0 (by omega) (by omega) _ _ M1.out M2.out).mono ?_;rw[HRR.out];rintro e w3 ⟨rfl,rfl⟩;go_wp2_with fail
      refine(DH _ _).mono ?_;rw[HR.out];rintro e w4 ⟨rfl,hb⟩;have HB4:=hbn HB2 hb;have HW4:=hbn HW2 hb;clear hc hf;obtain⟨hc,hf⟩:=QN HW4.out;have hz4:=hb.size;try simp at hz4
      clear hb;go_wp2;refine zr (by simp[results,results107,go_sem,hc]<;>rfl) ?_;refine Qz (QD HB4.out ?_ _ _);omega
     ·have HR:=zh (show Jk z=R from(hR3.2 (by omega)).symm);clear hR3;have M1:=zh (show bits .and .i64 p 4294967295=(u:Int) from(Zj p).trans HEU.out);have M2:=zh (show bits .and .i64 0 4294967295=(v:Int) from(Zj 0).trans HEV.out);go_enter func107,ntmps107;go_wp2_with fail
      refine HV1.out.mono ?_;rw[HVV.out];rintro e w1 ⟨rfl,hb⟩;have HB1:=hbn HB hb;have HW1:=zh hb;obtain⟨hc,hf⟩:=QN hb;have hz:=hb.size;simp at hz;clear hb;go_wp2_with fail
      refine(HV2.out _).mono ?_;rw[HVV2.out];rintro e w2 ⟨rfl,hb⟩;have HB2:=hbn HB1 hb;have HW2:=hbn HW1 hb;clear hc hf;obtain⟨hc,hf⟩:=QN HW2.out;have hz2:=hb.size;clear hb;go_wp2_with fail
      refine(U0 _ 23 u v HU.out HV.out 0 (by omega) (by omega) _ _ M1.out M2.out).mono ?_;rw[HRR.out];rintro e w3 ⟨rfl,rfl⟩;go_wp2_with fail
      refine(DH _ _).mono ?_;rw[HR.out];rintro e w4 ⟨rfl,hb⟩;have HB4:=hbn HB2 hb;have HW4:=hbn HW2 hb;clear hc hf;obtain⟨hc,hf⟩:=QN HW4.out;have hz4:=hb.size;try simp at hz4
      clear hb;go_wp2;refine zr (by simp[results,results107,go_sem,hc]<;>rfl) ?_;refine Qz (QD HB4.out ?_ _ _);omega
theorem Ly (w:World) (p q p' q':Int):Calls prog 53 #[.int .i64 1,.agg #[p,q],.agg #[p',q']] w (NumPost w (La (p,q) (p',q'))):=by
 all_goals
  go_enter func53,ntmps53;go_wp2_with fail
  refine(S6 _ _ _ _ _).mono ?_;rintro e w1 ⟨rfl,hb⟩;have hz:=hb.size;simp at hz;obtain⟨hc,hf⟩:=QN hb;have HB1:=hbn (QM _ _ _ _) hb;have f0:w1.frozen? ⟨w+1+1,0,none⟩=false:=(hf _ _ (by simp<;>omega)).trans (by simp[go_sem]);have f1:w1.frozen? ⟨w+1+1,1,none⟩=false:=(hf _ _ (by simp<;>omega)).trans (by simp[go_sem]);have c0:w1.cell? ⟨w+1+1,0,none⟩=some (.int .i64 0):=(hc _ _ (by simp<;>omega)).trans (by simp[go_sem]);have c1:w1.cell? ⟨w+1+1,1,none⟩=some (.int .i64 0):=(hc _ _ (by simp<;>omega)).trans (by simp[go_sem]);clear hb hc hf;go_wp2;refine zr (by simp[results,results53,go_sem,c0,c1]<;>rfl) ?_;exact Zl rfl (QD HB1.out (by omega) _ _)
theorem Lx (w:World) (p q p' q':Int):Calls prog 53 #[.int .i64 2,.agg #[p,q],.agg #[p',q']] w (NumPost w (M7 (p,q) (p',q'))):=by
 all_goals
  go_enter func53,ntmps53;go_wp2_with fail
  refine(Sx _ _ _ _ _).mono ?_;rintro e w1 ⟨rfl,hb⟩;have hz:=hb.size;simp at hz;obtain⟨hc,hf⟩:=QN hb;have HB1:=hbn (QM _ _ _ _) hb;have f0:w1.frozen? ⟨w+1+1,0,none⟩=false:=(hf _ _ (by simp<;>omega)).trans (by simp[go_sem]);have f1:w1.frozen? ⟨w+1+1,1,none⟩=false:=(hf _ _ (by simp<;>omega)).trans (by simp[go_sem]);have c0:w1.cell? ⟨w+1+1,0,none⟩=some (.int .i64 0):=(hc _ _ (by simp<;>omega)).trans (by simp[go_sem]);have c1:w1.cell? ⟨w+1+1,1,none⟩=some (.int .i64 0):=(hc _ _ (by simp<;>omega)).trans (by simp[go_sem]);clear hb hc hf;go_wp2;refine zr (by simp[results,results53,go_sem,c0,c1]<;>rfl) ?_;exact Zl rfl (QD HB1.out (by omega) _ _)
theorem Lw (w:World) (p q p' q':Int):Calls prog 53 #[.int .i64 3,.agg #[p,q],.agg #[p',q']] w (NumPost w (Av (p,q) (p',q'))):=by
 all_goals
  go_enter func53,ntmps53;go_wp2_with fail
  refine(S0 _ _ _ _ _).mono ?_;rintro e w1 ⟨rfl,hb⟩;have hz:=hb.size;simp at hz;obtain⟨hc,hf⟩:=QN hb;have HB1:=hbn (QM _ _ _ _) hb;have f0:w1.frozen? ⟨w+1+1,0,none⟩=false:=(hf _ _ (by simp<;>omega)).trans (by simp[go_sem]);have f1:w1.frozen? ⟨w+1+1,1,none⟩=false:=(hf _ _ (by simp<;>omega)).trans (by simp[go_sem]);have c0:w1.cell? ⟨w+1+1,0,none⟩=some (.int .i64 0):=(hc _ _ (by simp<;>omega)).trans (by simp[go_sem]);have c1:w1.cell? ⟨w+1+1,1,none⟩=some (.int .i64 0):=(hc _ _ (by simp<;>omega)).trans (by simp[go_sem]);clear hb hc hf;go_wp2;refine zr (by simp[results,results53,go_sem,c0,c1]<;>rfl) ?_;exact Zl rfl (QD HB1.out (by omega) _ _)
theorem Lv (w:World) (p q p' q':Int):Calls prog 53 #[.int .i64 4,.agg #[p,q],.agg #[p',q']] w (NumPost w (Bg (p,q) (p',q'))):=by
 all_goals
  go_enter func53,ntmps53;go_wp2_with fail
  refine(S4 _ _ _ _ _).mono ?_;rintro e w1 ⟨rfl,hb⟩;have hz:=hb.size;simp at hz;obtain⟨hc,hf⟩:=QN hb;have HB1:=hbn (QM _ _ _ _) hb;have f0:w1.frozen? ⟨w+1+1,0,none⟩=false:=(hf _ _ (by simp<;>omega)).trans (by simp[go_sem]);have f1:w1.frozen? ⟨w+1+1,1,none⟩=false:=(hf _ _ (by simp<;>omega)).trans (by simp[go_sem]);have c0:w1.cell? ⟨w+1+1,0,none⟩=some (.int .i64 0):=(hc _ _ (by simp<;>omega)).trans (by simp[go_sem]);have c1:w1.cell? ⟨w+1+1,1,none⟩=some (.int .i64 0):=(hc _ _ (by simp<;>omega)).trans (by simp[go_sem]);clear hb hc hf;go_wp2;refine zr (by simp[results,results53,go_sem,c0,c1]<;>rfl) ?_;exact Zl rfl (QD HB1.out (by omega) _ _)
theorem Lu (w:World) (p q p' q':Int):Calls prog 53 #[.int .i64 5,.agg #[p,q],.agg #[p',q']] w (NumPost w (Dh (p,q) (p',q'))):=by
 all_goals
  go_enter func53,ntmps53;go_wp2_with fail
  refine(Bn _ _ _ _ _).mono ?_;rintro e w1 ⟨rfl,hb⟩;have hz:=hb.size;simp at hz;obtain⟨hc,hf⟩:=QN hb;have HB1:=hbn (QM _ _ _ _) hb;have f0:w1.frozen? ⟨w+1+1,0,none⟩=false:=(hf _ _ (by simp<;>omega)).trans (by simp[go_sem]);have f1:w1.frozen? ⟨w+1+1,1,none⟩=false:=(hf _ _ (by simp<;>omega)).trans (by simp[go_sem]);have c0:w1.cell? ⟨w+1+1,0,none⟩=some (.int .i64 0):=(hc _ _ (by simp<;>omega)).trans (by simp[go_sem]);have c1:w1.cell? ⟨w+1+1,1,none⟩=some (.int .i64 0):=(hc _ _ (by simp<;>omega)).trans (by simp[go_sem]);clear hb hc hf;go_wp2;refine zr (by simp[results,results53,go_sem,c0,c1]<;>rfl) ?_;exact Zl rfl (QD HB1.out (by omega) _ _)
theorem Lt (w:World) (p q p' q':Int):Calls prog 53 #[.int .i64 6,.agg #[p,q],.agg #[p',q']] w (NumPost w (Bb (p,q) (p',q'))):=by
 all_goals
  go_enter func53,ntmps53;go_wp2_with fail
  refine(S1 _ _ _ _ _).mono ?_;rintro e w1 ⟨rfl,hb⟩;have hz:=hb.size;simp at hz;obtain⟨hc,hf⟩:=QN hb;have HB1:=hbn (QM _ _ _ _) hb;have f0:w1.frozen? ⟨w+1+1,0,none⟩=false:=(hf _ _ (by simp<;>omega)).trans (by simp[go_sem]);have f1:w1.frozen? ⟨w+1+1,1,none⟩=false:=(hf _ _ (by simp<;>omega)).trans (by simp[go_sem]);have c0:w1.cell? ⟨w+1+1,0,none⟩=some (.int .i64 0):=(hc _ _ (by simp<;>omega)).trans (by simp[go_sem]);have c1:w1.cell? ⟨w+1+1,1,none⟩=some (.int .i64 0):=(hc _ _ (by simp<;>omega)).trans (by simp[go_sem]);clear hb hc hf;go_wp2;refine zr (by simp[results,results53,go_sem,c0,c1]<;>rfl) ?_;exact Zl rfl (QD HB1.out (by omega) _ _)
theorem OM (w:World) (p q p' q':Int):Calls prog 53 #[.int .i64 20,.agg #[p,q],.agg #[p',q']] w (NumPost w (Pv (p,q))):=by
 all_goals
  go_enter func53,ntmps53;go_wp2_with fail
  refine(Sz _ _ _).mono ?_;rintro e w1 ⟨rfl,hb⟩;have hz:=hb.size;simp at hz;obtain⟨hc,hf⟩:=QN hb;have HB1:=hbn (QM _ _ _ _) hb;have f0:w1.frozen? ⟨w+1+1,0,none⟩=false:=(hf _ _ (by simp<;>omega)).trans (by simp[go_sem]);have f1:w1.frozen? ⟨w+1+1,1,none⟩=false:=(hf _ _ (by simp<;>omega)).trans (by simp[go_sem]);have c0:w1.cell? ⟨w+1+1,0,none⟩=some (.int .i64 0):=(hc _ _ (by simp<;>omega)).trans (by simp[go_sem]);have c1:w1.cell? ⟨w+1+1,1,none⟩=some (.int .i64 0):=(hc _ _ (by simp<;>omega)).trans (by simp[go_sem]);clear hb hc hf;go_wp2;refine zr (by simp[results,results53,go_sem,c0,c1]<;>rfl) ?_;exact Zl rfl (QD HB1.out (by omega) _ _)
theorem Fp (w:World) (o:Int) (p q p' q':Int) (h1:(o==1)=false) (h2:(o==2)=false) (h3:(o==3)=false) (h4:(o==4)=false) (h5:(o==5)=false) (h6:(o==6)=false) (h7:(o==7)=false) (h20:(o==20)=false):Calls prog 53 #[o,.agg #[p,q],.agg #[p',q']] w (NumPost w (JU o (p,q) (p',q'))):=by
 all_goals
  go_enter func53,ntmps53;go_wp2_with fail
  refine(B5 _ _ _ _ _ _).mono ?_;rintro e w1 ⟨rfl,hb⟩;have hz:=hb.size;simp at hz;obtain⟨hc,hf⟩:=QN hb;have HB1:=hbn (QM _ _ _ _) hb;have f0:w1.frozen? ⟨w+1+1,0,none⟩=false:=(hf _ _ (by simp<;>omega)).trans (by simp[go_sem]);have f1:w1.frozen? ⟨w+1+1,1,none⟩=false:=(hf _ _ (by simp<;>omega)).trans (by simp[go_sem]);have c0:w1.cell? ⟨w+1+1,0,none⟩=some (.int .i64 0):=(hc _ _ (by simp<;>omega)).trans (by simp[go_sem]);have c1:w1.cell? ⟨w+1+1,1,none⟩=some (.int .i64 0):=(hc _ _ (by simp<;>omega)).trans (by simp[go_sem]);clear hb hc hf;go_wp2;refine zr (by simp[results,results53,go_sem,c0,c1]<;>rfl) ?_;exact Zl rfl (QD HB1.out (by omega) _ _)
theorem Ls (w:World) (p q p' q':Int):Calls prog 53 #[.int .i64 7,.agg #[p,q],.agg #[p',q']] w (NumPost w (Dn (Dm (p,q) (p',q')))):=by
 obtain⟨M,hM⟩:∃M,M=Dm (p,q) (p',q'):=⟨_,rfl⟩
 rw[<-hM];have HM:=zh (fun W=>(hM▸Sy W p q p' q':Calls prog 105 #[.agg #[p,q],.agg #[p',q']] W (NumPost W M)));clear hM;rcases Pd M with⟨hR,hE⟩|⟨hR,hE⟩;all_goals
  have HR:=zh hR;clear hR;go_enter func53,ntmps53;go_wp2_with fail
  refine(HM.out _).mono ?_;rintro e w2 ⟨rfl,hb⟩;have hz:=hb.size;simp at hz;obtain⟨hc,hf⟩:=QN hb;have c0:∀x y,(w2.alloc (.cells #[x,y] 23)).cell? ⟨w+1+1,0,none⟩=some (.int .i64 0):=fun x y=>(QH (by omega)).trans ((hc _ _ (by simp<;>omega)).trans (by simp[go_sem]));have c1:∀x y,(w2.alloc (.cells #[x,y] 23)).cell? ⟨w+1+1,1,none⟩=some (.int .i64 0):=fun x y=>(QH (by omega)).trans ((hc _ _ (by simp<;>omega)).trans (by simp[go_sem]));have f0:∀x y,(w2.alloc (.cells #[x,y] 23)).frozen? ⟨w+1+1,0,none⟩=false:=fun x y=>(QJ (by omega)).trans ((hf _ _ (by simp<;>omega)).trans (by simp[go_sem]));have f1:∀x y,(w2.alloc (.cells #[x,y] 23)).frozen? ⟨w+1+1,1,none⟩=false:=fun x y=>(QJ (by omega)).trans ((hf _ _ (by simp<;>omega)).trans (by simp[go_sem]));have HB2:=fun x y=>zh ((QC (QM _ _ _ _) hb).alloc (by omega) (.cells #[x,y] 23));clear hb hc hf;go_wp2;refine zr (by simp[results,results53,go_sem,c0,c1]<;>rfl) ?_
 ·have hR:=HR.out;rw[hR];exact QZ rfl (QD (HB2 _ _).out (by omega) _ _)
 ·exact Zl HR.out (QD (HB2 _ _).out (by omega) _ _)
theorem Kw (w:World) (o p q p' q':Int):Calls prog 53 #[o,.agg #[p,q],.agg #[p',q']] w (NumPost w (J8 o (p,q) (p',q'))):=by
 unfold J8;have tf:∀a:Int,o≠a->(o==a)=false:=fun a h=>by rw[beq_eq_false_iff_ne];exact h
 by_cases h1:o=1
 ·subst h1;exact Ly w p q p' q'
 rw[if_neg h1];by_cases h2:o=2
 ·subst h2;exact Lx w p q p' q'
 rw[if_neg h2];by_cases h3:o=3
 ·subst h3;exact Lw w p q p' q'
 rw[if_neg h3];by_cases h4:o=4
 ·subst h4;exact Lv w p q p' q'
 rw[if_neg h4];by_cases h5:o=5
 ·subst h5;exact Lu w p q p' q'
 rw[if_neg h5];by_cases h6:o=6
 ·subst h6;exact Lt w p q p' q'
 rw[if_neg h6];by_cases h7:o=7
 ·subst h7;exact Ls w p q p' q'
 rw[if_neg h7];by_cases h20:o=20
 ·subst h20;exact OM w p q p' q'
 rw[if_neg h20];exact Fp w o p q p' q' (tf _ h1) (tf _ h2) (tf _ h3) (tf _ h4) (tf _ h5) (tf _ h6) (tf _ h7) (tf _ h20)
theorem DP (w:World) (k1 p1 q1:Int) (s1:ByteArray) (r1:Int) (k2 p2 q2:Int) (s2:ByteArray) (r2:Int) (l:Bool) (c:Nat) (M:BR) (hl:∀W,Calls prog 97 #[.agg #[k1,p1,q1,s1,r1],.agg #[k2,p2,q2,s2,r2]] W (fun e w'=>e= .returned (.tuple #[.bool l,.int .i64 (c:Int)])/\Below W W w')) (hM:LessOut M l c) (R:VR)
  (hR:R=YG false M):Calls prog 49 #[.int .i64 16,.agg #[k1,p1,q1,s1,r1],.agg #[k2,p2,q2,s2,r2]] w (VrPost w R):=by
 have HL:=zh hl;clear hl;rcases hM with⟨e1,rfl⟩|⟨e1,rfl⟩;all_goals
  have HR:=zh hR;clear hR;go_enter func49,ntmps49;go_wp2_with fail
  refine(HL.out _).mono ?_;rintro e w1 ⟨rfl,hb⟩;have HB:=hkh hb (QU _ _ _ _);have HW1:=hbn (QM _ _ _ _) hb;have hz:=hb.size;simp at hz;clear hb
 ·obtain⟨c0,c1,c2,c3,c4⟩:=zc5 HB;obtain⟨fc0,fc1,fc2,fc3,fc4⟩:=zf5 HB;go_wp2;refine zr (by simp[results,results49,go_sem,c0,c1,c2,c3,c4]<;>rfl) ?_;exact ZF HR.out (QG HW1.out (by omega) _ _ _ _ _)
 ·go_wp2_with fail
  refine(Zk _ _).mono ?_;rintro e w2 ⟨rfl,hb⟩;have HB2:=hkh hb HB;have HW2:=hbn HW1 hb;clear hb;obtain⟨c0,c1,c2,c3,c4⟩:=zc5 HB2;obtain⟨fc0,fc1,fc2,fc3,fc4⟩:=zf5 HB2;go_wp2;refine zr (by simp[results,results49,go_sem,c0,c1,c2,c3,c4]<;>rfl) ?_;exact GJ (HR.out.trans (by cases l<;>rfl)) rfl (QG HW2.out (by omega) _ _ _ _ _)
theorem DO (w:World) (k1 p1 q1:Int) (s1:ByteArray) (r1:Int) (k2 p2 q2:Int) (s2:ByteArray) (r2:Int) (l:Bool) (c:Nat) (M:BR) (hl:∀W,Calls prog 97 #[.agg #[k2,p2,q2,s2,r2],.agg #[k1,p1,q1,s1,r1]] W (fun e w'=>e= .returned (.tuple #[.bool l,.int .i64 (c:Int)])/\Below W W w')) (hM:LessOut M l c) (R:VR)
  (hR:R=YG true M):Calls prog 49 #[.int .i64 17,.agg #[k1,p1,q1,s1,r1],.agg #[k2,p2,q2,s2,r2]] w (VrPost w R):=by
 have HL:=zh hl;clear hl;rcases hM with⟨e1,rfl⟩|⟨e1,rfl⟩;all_goals
  have HR:=zh hR;clear hR;go_enter func49,ntmps49;go_wp2_with fail
  refine(HL.out _).mono ?_;rintro e w1 ⟨rfl,hb⟩;have HB:=hkh hb (QU _ _ _ _);have HW1:=hbn (QM _ _ _ _) hb;have hz:=hb.size;simp at hz;clear hb
 ·obtain⟨c0,c1,c2,c3,c4⟩:=zc5 HB;obtain⟨fc0,fc1,fc2,fc3,fc4⟩:=zf5 HB;go_wp2;refine zr (by simp[results,results49,go_sem,c0,c1,c2,c3,c4]<;>rfl) ?_;exact ZF HR.out (QG HW1.out (by omega) _ _ _ _ _)
 ·go_wp2_with fail
  refine(Zk _ _).mono ?_;rintro e w2 ⟨rfl,hb⟩;have HB2:=hkh hb HB;have HW2:=hbn HW1 hb;clear hb;obtain⟨c0,c1,c2,c3,c4⟩:=zc5 HB2;obtain⟨fc0,fc1,fc2,fc3,fc4⟩:=zf5 HB2;go_wp2;refine zr (by simp[results,results49,go_sem,c0,c1,c2,c3,c4]<;>rfl) ?_;exact GJ (HR.out.trans (by cases l<;>rfl)) rfl (QG HW2.out (by omega) _ _ _ _ _)
theorem DN (w:World) (k1 p1 q1:Int) (s1:ByteArray) (r1:Int) (k2 p2 q2:Int) (s2:ByteArray) (r2:Int) (l:Bool) (c:Nat) (M:BR) (hl:∀W,Calls prog 97 #[.agg #[k2,p2,q2,s2,r2],.agg #[k1,p1,q1,s1,r1]] W (fun e w'=>e= .returned (.tuple #[.bool l,.int .i64 (c:Int)])/\Below W W w')) (hM:LessOut M l c) (R:VR)
  (hR:R=YG false M):Calls prog 49 #[.int .i64 18,.agg #[k1,p1,q1,s1,r1],.agg #[k2,p2,q2,s2,r2]] w (VrPost w R):=by
 have HL:=zh hl;clear hl;rcases hM with⟨e1,rfl⟩|⟨e1,rfl⟩;all_goals
  have HR:=zh hR;clear hR;go_enter func49,ntmps49;go_wp2_with fail
  refine(HL.out _).mono ?_;rintro e w1 ⟨rfl,hb⟩;have HB:=hkh hb (QU _ _ _ _);have HW1:=hbn (QM _ _ _ _) hb;have hz:=hb.size;simp at hz;clear hb
 ·obtain⟨c0,c1,c2,c3,c4⟩:=zc5 HB;obtain⟨fc0,fc1,fc2,fc3,fc4⟩:=zf5 HB;go_wp2;refine zr (by simp[results,results49,go_sem,c0,c1,c2,c3,c4]<;>rfl) ?_;exact ZF HR.out (QG HW1.out (by omega) _ _ _ _ _)
 ·go_wp2_with fail
  refine(Zk _ _).mono ?_;rintro e w2 ⟨rfl,hb⟩;have HB2:=hkh hb HB;have HW2:=hbn HW1 hb;clear hb;obtain⟨c0,c1,c2,c3,c4⟩:=zc5 HB2;obtain⟨fc0,fc1,fc2,fc3,fc4⟩:=zf5 HB2;go_wp2;refine zr (by simp[results,results49,go_sem,c0,c1,c2,c3,c4]<;>rfl) ?_;exact GJ (HR.out.trans (by cases l<;>rfl)) rfl (QG HW2.out (by omega) _ _ _ _ _)
theorem DM (w:World) (k1 p1 q1:Int) (s1:ByteArray) (r1:Int) (k2 p2 q2:Int) (s2:ByteArray) (r2:Int) (l:Bool) (c:Nat) (M:BR) (hl:∀W,Calls prog 97 #[.agg #[k1,p1,q1,s1,r1],.agg #[k2,p2,q2,s2,r2]] W (fun e w'=>e= .returned (.tuple #[.bool l,.int .i64 (c:Int)])/\Below W W w')) (hM:LessOut M l c) (R:VR)
  (hR:R=YG true M):Calls prog 49 #[.int .i64 19,.agg #[k1,p1,q1,s1,r1],.agg #[k2,p2,q2,s2,r2]] w (VrPost w R):=by
 have HL:=zh hl;clear hl;rcases hM with⟨e1,rfl⟩|⟨e1,rfl⟩;all_goals
  have HR:=zh hR;clear hR;go_enter func49,ntmps49;go_wp2_with fail
  refine(HL.out _).mono ?_;rintro e w1 ⟨rfl,hb⟩;have HB:=hkh hb (QU _ _ _ _);have HW1:=hbn (QM _ _ _ _) hb;have hz:=hb.size;simp at hz;clear hb
 ·obtain⟨c0,c1,c2,c3,c4⟩:=zc5 HB;obtain⟨fc0,fc1,fc2,fc3,fc4⟩:=zf5 HB;go_wp2;refine zr (by simp[results,results49,go_sem,c0,c1,c2,c3,c4]<;>rfl) ?_;exact ZF HR.out (QG HW1.out (by omega) _ _ _ _ _)
 ·go_wp2_with fail
  refine(Zk _ _).mono ?_;rintro e w2 ⟨rfl,hb⟩;have HB2:=hkh hb HB;have HW2:=hbn HW1 hb;clear hb;obtain⟨c0,c1,c2,c3,c4⟩:=zc5 HB2;obtain⟨fc0,fc1,fc2,fc3,fc4⟩:=zf5 HB2;go_wp2;refine zr (by simp[results,results49,go_sem,c0,c1,c2,c3,c4]<;>rfl) ?_;exact GJ (HR.out.trans (by cases l<;>rfl)) rfl (QG HW2.out (by omega) _ _ _ _ _)
theorem NM (w:World) (o:Int) (k1 p1 q1:Int) (s1:ByteArray) (r1:Int) (k2 p2 q2:Int) (s2:ByteArray) (r2:Int) (h1:s1.size<=4096) (h2:s2.size<=4096) (ho:16<=o) (ho2:o<=19):
  Calls prog 49 #[o,.agg #[k1,p1,q1,s1,r1],.agg #[k2,p2,q2,s2,r2]] w (VrPost w (YF o ⟨k1,p1,q1,s1,r1⟩ ⟨k2,p2,q2,s2,r2⟩)):=by
 have hc:o=16\/o=17\/o=18\/o=19:=by omega
 rcases hc with rfl|rfl|rfl|rfl
 ·exact DP w k1 p1 q1 s1 r1 k2 p2 q2 s2 r2 _ _ _ (fun W=>EH W k1 k2 p1 q1 s1 r1 p2 q2 s2 r2 (by omega) (by omega)) (J5 ⟨k1,p1,q1,s1,r1⟩ ⟨k2,p2,q2,s2,r2⟩) _ rfl
 ·exact DO w k1 p1 q1 s1 r1 k2 p2 q2 s2 r2 _ _ _ (fun W=>EH W k2 k1 p2 q2 s2 r2 p1 q1 s1 r1 (by omega) (by omega)) (J5 ⟨k2,p2,q2,s2,r2⟩ ⟨k1,p1,q1,s1,r1⟩) _ rfl
 ·exact DN w k1 p1 q1 s1 r1 k2 p2 q2 s2 r2 _ _ _ (fun W=>EH W k2 k1 p2 q2 s2 r2 p1 q1 s1 r1 (by omega) (by omega)) (J5 ⟨k2,p2,q2,s2,r2⟩ ⟨k1,p1,q1,s1,r1⟩) _ rfl
 ·exact DM w k1 p1 q1 s1 r1 k2 p2 q2 s2 r2 _ _ _ (fun W=>EH W k1 k2 p1 q1 s1 r1 p2 q2 s2 r2 (by omega) (by omega)) (J5 ⟨k1,p1,q1,s1,r1⟩ ⟨k2,p2,q2,s2,r2⟩) _ rfl
theorem T7 (w:World) (o:Int):Calls prog 46 #[o] w fun e w'=>e= .returned (.bool (decide (20<=o/\o<=23)))/\w=w':=by
 have hw:(¬20<=o)\/(20<=o/\¬o<=23)\/(20<=o/\o<=23):=by omega
 rcases hw with h|⟨h,h2⟩|⟨h,h2⟩;all_goals
  go_enter func46,ntmps46;go_wp2
  go_ret
  exact⟨Zw (by first|rfl|(simp_all;done)|(simp_all;omega)),rfl⟩
theorem Lm (w:World) (o:Int) (k1 p1 q1:Int) (s1:ByteArray) (r1:Int) (k2 p2 q2:Int) (s2:ByteArray) (r2:Int):
  Calls prog 12 #[o,.agg #[k1,p1,q1,s1,r1],.agg #[k2,p2,q2,s2,r2]] w (VrPost w (Ze o ⟨k1,p1,q1,s1,r1⟩ ⟨k2,p2,q2,s2,r2⟩)):=by
 obtain⟨R,hR⟩:∃R,R=Ze o ⟨k1,p1,q1,s1,r1⟩ ⟨k2,p2,q2,s2,r2⟩:=⟨_,rfl⟩
 rw[<-hR];unfold Ze at hR;have tf:∀a:Int,o≠a->(o==a)=false:=fun a h=>by rw[beq_eq_false_iff_ne];exact h
 have tt:∀a:Int,o=a->(o==a)=true:=fun a h=>by rw[beq_iff_eq];exact h
 have UN:∀b:Bool,(b=true↔(20<=o/\o<=23))->∀W,Calls prog 46 #[o] W fun e w'=>e= .returned (.bool b)/\W=w':=fun b h W=>by
  have e:decide (20<=o/\o<=23)=b:=by rw[Bool.eq_iff_iff,decide_eq_true_eq];exact h.symm
  exact e▸T7 W o
 have VA:∀b,Qt ⟨k1,p1,q1,s1,r1⟩=b->∀W,Calls prog 26 #[.agg #[k1,p1,q1,s1,r1]] W (BoolPost W b):=fun b h W=>h▸JW W k1 p1 q1 s1 r1;have VB:∀b,Qt ⟨k2,p2,q2,s2,r2⟩=b->∀W,Calls prog 26 #[.agg #[k2,p2,q2,s2,r2]] W (BoolPost W b):=fun b h W=>h▸JW W k2 p2 q2 s2 r2;have num:∀(k p q:Int) (s:ByteArray) (r:Int),s.size<=4096->∀X,Calls prog 52 #[.agg #[.int .i64 k,.int .i64 p,.int .i64 q,.string s,.int .i64 r]] X (NumPost X (ZW ⟨k,p,q,s,r⟩)):=fun k p q s r hs X=>DS X k p q s r (by omega);by_cases hr:1<=o/\o<=23
 ·obtain⟨g1,g2⟩:=hr;cases ha:Qt ⟨k1,p1,q1,s1,r1⟩ with
  |false=>
   rw[if_pos (.inr (.inl ha))] at hR;by_cases hu:20<=o
   ·exact X2 w o k1 p1 q1 s1 r1 k2 p2 q2 s2 r2 R g1 g2 (UN _ (by simp;omega)) (VA _ ha) hR
   ·exact XM w o k1 p1 q1 s1 r1 k2 p2 q2 s2 r2 R g1 g2 (UN _ (by simp;omega)) (VA _ ha) hR
  |true=>
   have z1:=ZU ha;have hA:=VA _ ha;by_cases hu:20<=o
   ·rw[if_neg (by rw[ha];simp;omega),if_neg (by omega),if_neg (by omega),if_neg (by omega),if_neg (by omega)] at hR;have hun:=UN true (by simp;omega);by_cases h21:o=21
    ·rw[if_pos h21] at hR;exact P8 w o k1 p1 q1 s1 r1 k2 p2 q2 s2 r2 _ R g1 g2 hun hA hA (tf _ (by omega)) (tf _ (by omega)) (tf _ (by omega)) (tf _ (by omega)) (tf _ (by omega)) (tf _ (by omega)) (tf _ (by omega)) (tt _ h21) (fun W=>Br W k1 p1 q1 s1 r1) hR
    ·rw[if_neg h21] at hR;by_cases h22:o=22
     ·rw[if_pos h22] at hR;by_cases hk:k1=3
      ·rw[if_pos hk] at hR;exact P9 w o k1 p1 q1 s1 r1 k2 p2 q2 s2 r2 R g1 g2 hun hA hA (tf _ (by omega)) (tf _ (by omega)) (tf _ (by omega)) (tf _ (by omega)) (tf _ (by omega)) (tf _ (by omega)) (tf _ (by omega)) (tf _ h21) (tt _ h22) (by rw[bne_eq_false_iff_eq];exact hk) z1 hR
      ·rw[if_neg hk] at hR;exact Ur w o k1 p1 q1 s1 r1 k2 p2 q2 s2 r2 R g1 g2 hun hA hA (tf _ (by omega)) (tf _ (by omega)) (tf _ (by omega)) (tf _ (by omega)) (tf _ (by omega)) (tf _ (by omega)) (tf _ (by omega)) (tf _ h21) (tt _ h22) (by rw[bne_iff_ne];exact hk) hR
     ·rw[if_neg h22] at hR;have hs:JQ o ⟨k2,p2,q2,s2,r2⟩= .ok (0,1):=by unfold JQ;rw[if_pos hu]
      rw[hs,<-Fo o _ (by omega)] at hR;rcases J3 o (ZW ⟨k1,p1,q1,s1,r1⟩) (ZW ⟨k1,p1,q1,s1,r1⟩) with⟨e1,h⟩|⟨e1,e2,h⟩|⟨e1,e2,e3,h⟩|⟨e1,e2,e3,h⟩
      ·exact Gm w o k1 p1 q1 s1 r1 k2 p2 q2 s2 r2 _ _ _ R g1 g2 hun hA hA (tf _ (by omega)) (tf _ (by omega)) (tf _ (by omega)) (tf _ (by omega)) (tf _ (by omega)) (tf _ (by omega)) (tf _ (by omega)) (tf _ h21) (tf _ h22) (num k1 p1 q1 s1 r1 z1) (num k1 p1 q1 s1 r1 z1) (fun W=>Kw W o _ _ _ _) e1 (hR.trans h)
      ·exact Gl w o k1 p1 q1 s1 r1 k2 p2 q2 s2 r2 _ _ _ R g1 g2 hun hA hA (tf _ (by omega)) (tf _ (by omega)) (tf _ (by omega)) (tf _ (by omega)) (tf _ (by omega)) (tf _ (by omega)) (tf _ (by omega)) (tf _ h21) (tf _ h22) (num k1 p1 q1 s1 r1 z1) (num k1 p1 q1 s1 r1 z1) (fun W=>Kw W o _ _ _ _) e1 e2 (hR.trans h)
      ·exact Gk w o k1 p1 q1 s1 r1 k2 p2 q2 s2 r2 _ _ _ R g1 g2 hun hA hA (tf _ (by omega)) (tf _ (by omega)) (tf _ (by omega)) (tf _ (by omega)) (tf _ (by omega)) (tf _ (by omega)) (tf _ (by omega)) (tf _ h21) (tf _ h22) (num k1 p1 q1 s1 r1 z1) (num k1 p1 q1 s1 r1 z1) (fun W=>Kw W o _ _ _ _) e1 e2 e3 (hR.trans h)
      ·exact Yt w o k1 p1 q1 s1 r1 k2 p2 q2 s2 r2 _ _ _ R g1 g2 hun hA hA (tf _ (by omega)) (tf _ (by omega)) (tf _ (by omega)) (tf _ (by omega)) (tf _ (by omega)) (tf _ (by omega)) (tf _ (by omega)) (tf _ h21) (tf _ h22) (num k1 p1 q1 s1 r1 z1) (num k1 p1 q1 s1 r1 z1) (fun W=>Kw W o _ _ _ _) e1 e2 e3 (hR.trans h)
   ·have hun:=UN false (by simp;omega);cases hb:Qt ⟨k2,p2,q2,s2,r2⟩ with
    |false=>
     rw[if_pos (.inr (.inr ⟨by omega,hb⟩))] at hR;exact Fk w o k1 p1 q1 s1 r1 k2 p2 q2 s2 r2 R g1 g2 hun hA (VB _ hb) hR
    |true=>
     have z2:=ZU hb;have hB:=VB _ hb;rw[if_neg (by rw[ha,hb];simp;omega)] at hR;by_cases h8:o=8
     ·rw[if_pos h8] at hR;exact Us w o k1 p1 q1 s1 r1 k2 p2 q2 s2 r2 R g1 g2 hun hA hB (tt _ h8) (fun W=>by rw[hR];exact OL W k1 p1 q1 s1 r1 k2 p2 q2 s2 r2 z1 z2)
     ·rw[if_neg h8] at hR;by_cases h14:o=14
      ·rw[if_pos h14] at hR;exact OB w o k1 p1 q1 s1 r1 k2 p2 q2 s2 r2 R g1 g2 hun hA hB (tf _ h8) (tt _ h14) hR
      ·rw[if_neg h14] at hR;by_cases h15:o=15
       ·rw[if_pos h15] at hR;exact OA w o k1 p1 q1 s1 r1 k2 p2 q2 s2 r2 R g1 g2 hun hA hB (tf _ h8) (tf _ h14) (tt _ h15) hR
       ·rw[if_neg h15] at hR;by_cases h16:16<=o
        ·rw[if_pos ⟨h16,by omega⟩] at hR;have hc:∀W,Calls prog 49 #[o,.agg #[k1,p1,q1,s1,r1],.agg #[k2,p2,q2,s2,r2]] W (VrPost W R):=fun W=>by rw[hR];exact NM W o k1 p1 q1 s1 r1 k2 p2 q2 s2 r2 z1 z2 h16 (by omega)
         have ho:o=16\/o=17\/o=18\/o=19:=by omega
         rcases ho with h|h|h|h
         ·exact DE w o k1 p1 q1 s1 r1 k2 p2 q2 s2 r2 R g1 g2 hun hA hB (tf _ h8) (tf _ h14) (tf _ h15) (tt _ h) hc
         ·exact DD w o k1 p1 q1 s1 r1 k2 p2 q2 s2 r2 R g1 g2 hun hA hB (tf _ h8) (tf _ h14) (tf _ h15) (tf _ (by omega)) (tt _ h) hc
         ·exact DC w o k1 p1 q1 s1 r1 k2 p2 q2 s2 r2 R g1 g2 hun hA hB (tf _ h8) (tf _ h14) (tf _ h15) (tf _ (by omega)) (tf _ (by omega)) (tt _ h) hc
         ·exact DB w o k1 p1 q1 s1 r1 k2 p2 q2 s2 r2 R g1 g2 hun hA hB (tf _ h8) (tf _ h14) (tf _ h15) (tf _ (by omega)) (tf _ (by omega)) (tf _ (by omega)) (tt _ h) hc
        ·rw[if_neg (by omega),if_neg (by omega),if_neg (by omega)] at hR;have hs:JQ o ⟨k2,p2,q2,s2,r2⟩=ZW ⟨k2,p2,q2,s2,r2⟩:=by unfold JQ;rw[if_neg hu]
         rw[hs] at hR;rcases J3 o (ZW ⟨k1,p1,q1,s1,r1⟩) (ZW ⟨k2,p2,q2,s2,r2⟩) with⟨e1,h⟩|⟨e1,e2,h⟩|⟨e1,e2,e3,h⟩|⟨e1,e2,e3,h⟩
         ·exact GW w o k1 p1 q1 s1 r1 k2 p2 q2 s2 r2 _ _ _ R g1 g2 hun hA hB (tf _ (by omega)) (tf _ (by omega)) (tf _ (by omega)) (tf _ (by omega)) (tf _ (by omega)) (tf _ (by omega)) (tf _ (by omega)) (tf _ (by omega)) (tf _ (by omega)) (num k1 p1 q1 s1 r1 z1) (num k2 p2 q2 s2 r2 z2) (fun W=>Kw W o _ _ _ _) e1 (hR.trans h)
         ·exact GV w o k1 p1 q1 s1 r1 k2 p2 q2 s2 r2 _ _ _ R g1 g2 hun hA hB (tf _ (by omega)) (tf _ (by omega)) (tf _ (by omega)) (tf _ (by omega)) (tf _ (by omega)) (tf _ (by omega)) (tf _ (by omega)) (tf _ (by omega)) (tf _ (by omega)) (num k1 p1 q1 s1 r1 z1) (num k2 p2 q2 s2 r2 z2) (fun W=>Kw W o _ _ _ _) e1 e2 (hR.trans h)
         ·exact GU w o k1 p1 q1 s1 r1 k2 p2 q2 s2 r2 _ _ _ R g1 g2 hun hA hB (tf _ (by omega)) (tf _ (by omega)) (tf _ (by omega)) (tf _ (by omega)) (tf _ (by omega)) (tf _ (by omega)) (tf _ (by omega)) (tf _ (by omega)) (tf _ (by omega)) (num k1 p1 q1 s1 r1 z1) (num k2 p2 q2 s2 r2 z2) (fun W=>Kw W o _ _ _ _) e1 e2 e3 (hR.trans h)
         ·exact YN w o k1 p1 q1 s1 r1 k2 p2 q2 s2 r2 _ _ _ R g1 g2 hun hA hB (tf _ (by omega)) (tf _ (by omega)) (tf _ (by omega)) (tf _ (by omega)) (tf _ (by omega)) (tf _ (by omega)) (tf _ (by omega)) (tf _ (by omega)) (tf _ (by omega)) (num k1 p1 q1 s1 r1 z1) (num k2 p2 q2 s2 r2 z2) (fun W=>Kw W o _ _ _ _) e1 e2 e3 (hR.trans h)
 ·rw[if_pos (.inl hr)] at hR;exact X1 w o k1 p1 q1 s1 r1 k2 p2 q2 s2 r2 R (by omega) (UN _ (by simp;omega)) hR
end Go.Proofs.YthkpckgcgkijbaaGreatDoor
