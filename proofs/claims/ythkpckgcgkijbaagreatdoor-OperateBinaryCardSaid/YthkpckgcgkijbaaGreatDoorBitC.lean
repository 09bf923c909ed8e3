import Derived.Test.YthkpckgcgkijbaaGreatDoorOpD
import Derived.Test.YthkpckgcgkijbaaGreatDoorBitA
set_option linter.unusedVariables false
set_option linter.unusedSimpArgs false
set_option maxRecDepth 100000
set_option maxHeartbeats 8000000
namespace Go.Proofs.YthkpckgcgkijbaaGreatDoor
open Go.RowKit Go.Proofs.Lexi Go.Proofs.Tryz
theorem PS (w:World) (u:Nat) (hu:u<=4294967295) (n:Int) (h1: -2147483647<=n) (h2:n<=2147483647) (x:Int) (hx:x=u):
  Calls prog 210 #[.int .u32 x,.int .i64 n] w fun e w'=>e= .returned (.int .u32 (Z4 u n:Nat))/\w=w':=by
 subst hx;exact L8 w u hu n h1 h2
theorem CC (w:World) (p q p' q':Int):Calls prog 153 #[.int .i64 9,.agg #[p,q],.agg #[p',q']] w (NumPost w (JU 9 (p,q) (p',q'))):=by
 obtain⟨R,hR⟩:∃R,R=JU 9 (p,q) (p',q'):=⟨_,rfl⟩
 rw[<-hR];have HB:=zh (QM w (o2 p q) (o2 p' q') (o2 0 0));have HV1:=zh (fun W=>Q5 W p q);have HV2:=zh (fun W=>Q5 W p' q');have hR0:R=if QT (p,q)&&QT (p',q') then XG 9 (p,q) (p',q') else .error 2:=by rw[hR];exact by rw[JL (by decide)];rfl
 clear hR;cases hv:QT (p,q) with
 |false=>
  have HR:=zh (show R= .error 2 from by rw[hR0,hv];rfl);have HVV:=zh hv;clear hv hR0;go_enter func153,ntmps153;go_wp2_with fail
  refine(HV1.out _).mono ?_;rw[HVV.out];rintro e w1 ⟨rfl,hb⟩;have HB1:=hbn HB hb;have HW1:=zh hb;obtain⟨hc,hf⟩:=QN hb;have hz:=hb.size;simp at hz;clear hb;go_wp2;refine zr (by simp[results,results153,go_sem,hc]<;>rfl) ?_;exact QZ HR.out (QD HB1.out (by omega) _ _)
 |true=>
  cases hv2:QT (p',q') with
  |false=>
   have HR:=zh (show R= .error 2 from by rw[hR0,hv,hv2];rfl);have HVV:=zh hv;have HVV2:=zh hv2;clear hv hv2 hR0;go_enter func153,ntmps153;go_wp2_with fail
   refine(HV1.out _).mono ?_;rw[HVV.out];rintro e w1 ⟨rfl,hb⟩;have HB1:=hbn HB hb;have HW1:=zh hb;obtain⟨hc,hf⟩:=QN hb;have hz:=hb.size;simp at hz;clear hb;go_wp2_with fail
   refine(HV2.out _).mono ?_;rw[HVV2.out];rintro e w2 ⟨rfl,hb⟩;have HB2:=hbn HB1 hb;have HW2:=hbn HW1 hb;clear hc hf;obtain⟨hc,hf⟩:=QN HW2.out;have hz2:=hb.size;clear hb;go_wp2;refine zr (by simp[results,results153,go_sem,hc]<;>rfl) ?_;exact QZ HR.out (QD HB2.out (by omega) _ _)
  |true=>
   have hR1:R=XG 9 (p,q) (p',q'):=by rw[hR0,hv,hv2];rfl
   have hb1:=QO hv;have hb2:=QO hv2;simp only[] at hb1 hb2;obtain⟨a1,a2,a3,a4⟩:=hb1;obtain⟨b1,b2,b3,b4⟩:=hb2;have HVV:=zh hv;have HVV2:=zh hv2;clear hv hv2 hR0;by_cases hq:1<q\/(q<=1/\(1:Int)<q')
   ·have HR:=zh (show R= .error 8 from by rw[hR1];exact J7 (by simp only[];omega));clear hR1;have tq:(q !=1)=decide (1<q):=by rw[Bool.eq_iff_iff,bne_iff_ne,decide_eq_true_eq];omega
    have tq2:((q':Int) !=1)=decide ((1:Int)<q'):=by first|rfl|(rw[Bool.eq_iff_iff,bne_iff_ne,decide_eq_true_eq];omega)
    rcases hq with c|⟨c,c2⟩
    ·rw[decide_eq_true (show 1<q from c)] at tq;clear tq2;go_enter func153,ntmps153;go_wp2_with fail
     refine(HV1.out _).mono ?_;rw[HVV.out];rintro e w1 ⟨rfl,hb⟩;have HB1:=hbn HB hb;have HW1:=zh hb;obtain⟨hc,hf⟩:=QN hb;have hz:=hb.size;simp at hz;clear hb;go_wp2_with fail
     refine(HV2.out _).mono ?_;rw[HVV2.out];rintro e w2 ⟨rfl,hb⟩;have HB2:=hbn HB1 hb;have HW2:=hbn HW1 hb;clear hc hf;obtain⟨hc,hf⟩:=QN HW2.out;have hz2:=hb.size;clear hb;go_wp2;refine zr (by simp[results,results153,go_sem,hc]<;>rfl) ?_;exact QZ HR.out (QD HB2.out (by omega) _ _)
    ·rw[decide_eq_false (show¬1<q by omega)] at tq;rw[decide_eq_true (show 1<q' from c2)] at tq2;go_enter func153,ntmps153;go_wp2_with fail
     refine(HV1.out _).mono ?_;rw[HVV.out];rintro e w1 ⟨rfl,hb⟩;have HB1:=hbn HB hb;have HW1:=zh hb;obtain⟨hc,hf⟩:=QN hb;have hz:=hb.size;simp at hz;clear hb;go_wp2_with fail
     refine(HV2.out _).mono ?_;rw[HVV2.out];rintro e w2 ⟨rfl,hb⟩;have HB2:=hbn HB1 hb;have HW2:=hbn HW1 hb;clear hc hf;obtain⟨hc,hf⟩:=QN HW2.out;have hz2:=hb.size;clear hb;go_wp2;refine zr (by simp[results,results153,go_sem,hc]<;>rfl) ?_;exact QZ HR.out (QD HB2.out (by omega) _ _)
   ·have tq:(q !=1)=false:=by rw[bne_eq_false_iff_eq];omega
    have tq2:((q':Int) !=1)=false:=by first|rfl|(rw[bne_eq_false_iff_eq];omega)
    have hR2:R=Jk (Zf (Yq 9 (KS p) (KS p') p')):=by rw[hR1];exact Jb (show q=1 by omega) (show(q':Int)=1 by first|rfl|omega)
    have hu:=Z1 p;have hv:=Z1 p';have hrl:=K3 hu hv 9 p';have eu:=Z2 p;have ev:=Z2 p';obtain⟨u,hu0⟩:∃u,u=KS p:=⟨_,rfl⟩
    obtain⟨v,hv0⟩:∃v,v=KS p':=⟨_,rfl⟩
    rw[<-hu0] at hu eu hR2 hrl;rw[<-hv0] at hv ev hR2 hrl;obtain⟨r,hr0⟩:∃r,r=Yq 9 u v p':=⟨_,rfl⟩
    rw[<-hr0] at hR2 hrl;have HEU:=zh eu;have HEV:=zh ev;have HU:=zh hu;have HV:=zh hv;have HX:=zh (show Jk (wrap64 (wrap32 (bits .and .u32 (u:Int) (v:Int))))=R from by
     rw[hR2,<-JO hrl,hr0];exact congrArg (fun n=>Jk (wrap64 (wrap32 n))) ((Jn (k:= .u32) (.inr rfl) u v hu hv).1))
    have HR:=HX;clear eu ev hu0 hv0 hr0 hR1 hq hu hv hrl hR2 HX;go_enter func153,ntmps153;go_wp2_with fail
    refine(HV1.out _).mono ?_;rw[HVV.out];rintro e w1 ⟨rfl,hb⟩;have HB1:=hbn HB hb;have HW1:=zh hb;obtain⟨hc,hf⟩:=QN hb;have hz:=hb.size;simp at hz;clear hb;go_wp2_with fail
    refine(HV2.out _).mono ?_;rw[HVV2.out];rintro e w2 ⟨rfl,hb⟩;have HB2:=hbn HB1 hb;have HW2:=hbn HW1 hb;clear hc hf;obtain⟨hc,hf⟩:=QN HW2.out;have hz2:=hb.size;clear hb;go_wp2
    go_quiet (fail)
    rw[HEU.out,HEV.out];go_wp2_with fail
    refine(XT _ _).mono ?_;rw[HR.out];rintro e w4 ⟨rfl,hb⟩;have hb:=QC (below_drewN (Below.refl _ _) _) hb;have HB4:=hbn HB2 hb;have HW4:=hbn HW2 hb;clear hc hf;obtain⟨hc,hf⟩:=QN HW4.out;have hz4:=hb.size;try simp at hz4
    clear hb;go_wp2;refine zr (by simp[results,results153,go_sem,hc]<;>rfl) ?_;refine Qz (QD HB4.out ?_ _ _);omega
theorem O2 (w:World) (p q p' q':Int):Calls prog 153 #[.int .i64 10,.agg #[p,q],.agg #[p',q']] w (NumPost w (JU 10 (p,q) (p',q'))):=by
 obtain⟨R,hR⟩:∃R,R=JU 10 (p,q) (p',q'):=⟨_,rfl⟩
 rw[<-hR];have HB:=zh (QM w (o2 p q) (o2 p' q') (o2 0 0));have HV1:=zh (fun W=>Q5 W p q);have HV2:=zh (fun W=>Q5 W p' q');have hR0:R=if QT (p,q)&&QT (p',q') then XG 10 (p,q) (p',q') else .error 2:=by rw[hR];exact by rw[JL (by decide)];rfl
 clear hR;cases hv:QT (p,q) with
 |false=>
  have HR:=zh (show R= .error 2 from by rw[hR0,hv];rfl);have HVV:=zh hv;clear hv hR0;go_enter func153,ntmps153;go_wp2_with fail
  refine(HV1.out _).mono ?_;rw[HVV.out];rintro e w1 ⟨rfl,hb⟩;have HB1:=hbn HB hb;have HW1:=zh hb;obtain⟨hc,hf⟩:=QN hb;have hz:=hb.size;simp at hz;clear hb;go_wp2;refine zr (by simp[results,results153,go_sem,hc]<;>rfl) ?_;exact QZ HR.out (QD HB1.out (by omega) _ _)
 |true=>
  cases hv2:QT (p',q') with
  |false=>
   have HR:=zh (show R= .error 2 from by rw[hR0,hv,hv2];rfl);have HVV:=zh hv;have HVV2:=zh hv2;clear hv hv2 hR0;go_enter func153,ntmps153;go_wp2_with fail
   refine(HV1.out _).mono ?_;rw[HVV.out];rintro e w1 ⟨rfl,hb⟩;have HB1:=hbn HB hb;have HW1:=zh hb;obtain⟨hc,hf⟩:=QN hb;have hz:=hb.size;simp at hz;clear hb;go_wp2_with fail
   refine(HV2.out _).mono ?_;rw[HVV2.out];rintro e w2 ⟨rfl,hb⟩;have HB2:=hbn HB1 hb;have HW2:=hbn HW1 hb;clear hc hf;obtain⟨hc,hf⟩:=QN HW2.out;have hz2:=hb.size;clear hb;go_wp2;refine zr (by simp[results,results153,go_sem,hc]<;>rfl) ?_;exact QZ HR.out (QD HB2.out (by omega) _ _)
  |true=>
   have hR1:R=XG 10 (p,q) (p',q'):=by rw[hR0,hv,hv2];rfl
   have hb1:=QO hv;have hb2:=QO hv2;simp only[] at hb1 hb2;obtain⟨a1,a2,a3,a4⟩:=hb1;obtain⟨b1,b2,b3,b4⟩:=hb2;have HVV:=zh hv;have HVV2:=zh hv2;clear hv hv2 hR0;by_cases hq:1<q\/(q<=1/\(1:Int)<q')
   ·have HR:=zh (show R= .error 8 from by rw[hR1];exact J7 (by simp only[];omega));clear hR1;have tq:(q !=1)=decide (1<q):=by rw[Bool.eq_iff_iff,bne_iff_ne,decide_eq_true_eq];omega
    have tq2:((q':Int) !=1)=decide ((1:Int)<q'):=by first|rfl|(rw[Bool.eq_iff_iff,bne_iff_ne,decide_eq_true_eq];omega)
    rcases hq with c|⟨c,c2⟩
    ·rw[decide_eq_true (show 1<q from c)] at tq;clear tq2;go_enter func153,ntmps153;go_wp2_with fail
     refine(HV1.out _).mono ?_;rw[HVV.out];rintro e w1 ⟨rfl,hb⟩;have HB1:=hbn HB hb;have HW1:=zh hb;obtain⟨hc,hf⟩:=QN hb;have hz:=hb.size;simp at hz;clear hb;go_wp2_with fail
     refine(HV2.out _).mono ?_;rw[HVV2.out];rintro e w2 ⟨rfl,hb⟩;have HB2:=hbn HB1 hb;have HW2:=hbn HW1 hb;clear hc hf;obtain⟨hc,hf⟩:=QN HW2.out;have hz2:=hb.size;clear hb;go_wp2;refine zr (by simp[results,results153,go_sem,hc]<;>rfl) ?_;exact QZ HR.out (QD HB2.out (by omega) _ _)
    ·rw[decide_eq_false (show¬1<q by omega)] at tq;rw[decide_eq_true (show 1<q' from c2)] at tq2;go_enter func153,ntmps153;go_wp2_with fail
     refine(HV1.out _).mono ?_;rw[HVV.out];rintro e w1 ⟨rfl,hb⟩;have HB1:=hbn HB hb;have HW1:=zh hb;obtain⟨hc,hf⟩:=QN hb;have hz:=hb.size;simp at hz;clear hb;go_wp2_with fail
     refine(HV2.out _).mono ?_;rw[HVV2.out];rintro e w2 ⟨rfl,hb⟩;have HB2:=hbn HB1 hb;have HW2:=hbn HW1 hb;clear hc hf;obtain⟨hc,hf⟩:=QN HW2.out;have hz2:=hb.size;clear hb;go_wp2;refine zr (by simp[results,results153,go_sem,hc]<;>rfl) ?_;exact QZ HR.out (QD HB2.out (by omega) _ _)
   ·have tq:(q !=1)=false:=by rw[bne_eq_false_iff_eq];omega
    have tq2:((q':Int) !=1)=false:=by first|rfl|(rw[bne_eq_false_iff_eq];omega)
    have hR2:R=Jk (Zf (Yq 10 (KS p) (KS p') p')):=by rw[hR1];exact Jb (show q=1 by omega) (show(q':Int)=1 by first|rfl|omega)
    have hu:=Z1 p;have hv:=Z1 p';have hrl:=K3 hu hv 10 p';have eu:=Z2 p;have ev:=Z2 p';obtain⟨u,hu0⟩:∃u,u=KS p:=⟨_,rfl⟩
    obtain⟨v,hv0⟩:∃v,v=KS p':=⟨_,rfl⟩
    rw[<-hu0] at hu eu hR2 hrl;rw[<-hv0] at hv ev hR2 hrl;obtain⟨r,hr0⟩:∃r,r=Yq 10 u v p':=⟨_,rfl⟩
    rw[<-hr0] at hR2 hrl;have HEU:=zh eu;have HEV:=zh ev;have HU:=zh hu;have HV:=zh hv;have HX:=zh (show Jk (wrap64 (wrap32 (bits .or .u32 (u:Int) (v:Int))))=R from by
     rw[hR2,<-JO hrl,hr0];exact congrArg (fun n=>Jk (wrap64 (wrap32 n))) ((Jn (k:= .u32) (.inr rfl) u v hu hv).2.1))
    have HR:=HX;clear eu ev hu0 hv0 hr0 hR1 hq hu hv hrl hR2 HX;go_enter func153,ntmps153;go_wp2_with fail
    refine(HV1.out _).mono ?_;rw[HVV.out];rintro e w1 ⟨rfl,hb⟩;have HB1:=hbn HB hb;have HW1:=zh hb;obtain⟨hc,hf⟩:=QN hb;have hz:=hb.size;simp at hz;clear hb;go_wp2_with fail
    refine(HV2.out _).mono ?_;rw[HVV2.out];rintro e w2 ⟨rfl,hb⟩;have HB2:=hbn HB1 hb;have HW2:=hbn HW1 hb;clear hc hf;obtain⟨hc,hf⟩:=QN HW2.out;have hz2:=hb.size;clear hb;go_wp2
    go_quiet (fail)
    rw[HEU.out,HEV.out];go_wp2_with fail
    refine(XT _ _).mono ?_;rw[HR.out];rintro e w4 ⟨rfl,hb⟩;have hb:=QC (below_drewN (Below.refl _ _) _) hb;have HB4:=hbn HB2 hb;have HW4:=hbn HW2 hb;clear hc hf;obtain⟨hc,hf⟩:=QN HW4.out;have hz4:=hb.size;try simp at hz4
    clear hb;go_wp2;refine zr (by simp[results,results153,go_sem,hc]<;>rfl) ?_;refine Qz (QD HB4.out ?_ _ _);omega
theorem O1 (w:World) (p q p' q':Int):Calls prog 153 #[.int .i64 11,.agg #[p,q],.agg #[p',q']] w (NumPost w (JU 11 (p,q) (p',q'))):=by
 obtain⟨R,hR⟩:∃R,R=JU 11 (p,q) (p',q'):=⟨_,rfl⟩
 rw[<-hR];have HB:=zh (QM w (o2 p q) (o2 p' q') (o2 0 0));have HV1:=zh (fun W=>Q5 W p q);have HV2:=zh (fun W=>Q5 W p' q');have hR0:R=if QT (p,q)&&QT (p',q') then XG 11 (p,q) (p',q') else .error 2:=by rw[hR];exact by rw[JL (by decide)];rfl
 clear hR;cases hv:QT (p,q) with
 |false=>
  have HR:=zh (show R= .error 2 from by rw[hR0,hv];rfl);have HVV:=zh hv;clear hv hR0;go_enter func153,ntmps153;go_wp2_with fail
  refine(HV1.out _).mono ?_;rw[HVV.out];rintro e w1 ⟨rfl,hb⟩;have HB1:=hbn HB hb;have HW1:=zh hb;obtain⟨hc,hf⟩:=QN hb;have hz:=hb.size;simp at hz;clear hb;go_wp2;refine zr (by simp[results,results153,go_sem,hc]<;>rfl) ?_;exact QZ HR.out (QD HB1.out (by omega) _ _)
 |true=>
  cases hv2:QT (p',q') with
  |false=>
   have HR:=zh (show R= .error 2 from by rw[hR0,hv,hv2];rfl);have HVV:=zh hv;have HVV2:=zh hv2;clear hv hv2 hR0;go_enter func153,ntmps153;go_wp2_with fail
   refine(HV1.out _).mono ?_;rw[HVV.out];rintro e w1 ⟨rfl,hb⟩;have HB1:=hbn HB hb;have HW1:=zh hb;obtain⟨hc,hf⟩:=QN hb;have hz:=hb.size;simp at hz;clear hb;go_wp2_with fail
   refine(HV2.out _).mono ?_;rw[HVV2.out];rintro e w2 ⟨rfl,hb⟩;have HB2:=hbn HB1 hb;have HW2:=hbn HW1 hb;clear hc hf;obtain⟨hc,hf⟩:=QN HW2.out;have hz2:=hb.size;clear hb;go_wp2;refine zr (by simp[results,results153,go_sem,hc]<;>rfl) ?_;exact QZ HR.out (QD HB2.out (by omega) _ _)
  |true=>
   have hR1:R=XG 11 (p,q) (p',q'):=by rw[hR0,hv,hv2];rfl
   have hb1:=QO hv;have hb2:=QO hv2;simp only[] at hb1 hb2;obtain⟨a1,a2,a3,a4⟩:=hb1;obtain⟨b1,b2,b3,b4⟩:=hb2;have HVV:=zh hv;have HVV2:=zh hv2;clear hv hv2 hR0;by_cases hq:1<q\/(q<=1/\(1:Int)<q')
   ·have HR:=zh (show R= .error 8 from by rw[hR1];exact J7 (by simp only[];omega));clear hR1;have tq:(q !=1)=decide (1<q):=by rw[Bool.eq_iff_iff,bne_iff_ne,decide_eq_true_eq];omega
    have tq2:((q':Int) !=1)=decide ((1:Int)<q'):=by first|rfl|(rw[Bool.eq_iff_iff,bne_iff_ne,decide_eq_true_eq];omega)
    rcases hq with c|⟨c,c2⟩
    ·rw[decide_eq_true (show 1<q from c)] at tq;clear tq2;go_enter func153,ntmps153;go_wp2_with fail
     refine(HV1.out _).mono ?_;rw[HVV.out];rintro e w1 ⟨rfl,hb⟩;have HB1:=hbn HB hb;have HW1:=zh hb;obtain⟨hc,hf⟩:=QN hb;have hz:=hb.size;simp at hz;clear hb;go_wp2_with fail
     refine(HV2.out _).mono ?_;rw[HVV2.out];rintro e w2 ⟨rfl,hb⟩;have HB2:=hbn HB1 hb;have HW2:=hbn HW1 hb;clear hc hf;obtain⟨hc,hf⟩:=QN HW2.out;have hz2:=hb.size;clear hb;go_wp2;refine zr (by simp[results,results153,go_sem,hc]<;>rfl) ?_;exact QZ HR.out (QD HB2.out (by omega) _ _)
    ·rw[decide_eq_false (show¬1<q by omega)] at tq;rw[decide_eq_true (show 1<q' from c2)] at tq2;go_enter func153,ntmps153;go_wp2_with fail
     refine(HV1.out _).mono ?_;rw[HVV.out];rintro e w1 ⟨rfl,hb⟩;have HB1:=hbn HB hb;have HW1:=zh hb;obtain⟨hc,hf⟩:=QN hb;have hz:=hb.size;simp at hz;clear hb;go_wp2_with fail
     refine(HV2.out _).mono ?_;rw[HVV2.out];rintro e w2 ⟨rfl,hb⟩;have HB2:=hbn HB1 hb;have HW2:=hbn HW1 hb;clear hc hf;obtain⟨hc,hf⟩:=QN HW2.out;have hz2:=hb.size;clear hb;go_wp2;refine zr (by simp[results,results153,go_sem,hc]<;>rfl) ?_;exact QZ HR.out (QD HB2.out (by omega) _ _)
   ·have tq:(q !=1)=false:=by rw[bne_eq_false_iff_eq];omega
    have tq2:((q':Int) !=1)=false:=by first|rfl|(rw[bne_eq_false_iff_eq];omega)
    have hR2:R=Jk (Zf (Yq 11 (KS p) (KS p') p')):=by rw[hR1];exact Jb (show q=1 by omega) (show(q':Int)=1 by first|rfl|omega)
    have hu:=Z1 p;have hv:=Z1 p';have hrl:=K3 hu hv 11 p';have eu:=Z2 p;have ev:=Z2 p';obtain⟨u,hu0⟩:∃u,u=KS p:=⟨_,rfl⟩
    obtain⟨v,hv0⟩:∃v,v=KS p':=⟨_,rfl⟩
    rw[<-hu0] at hu eu hR2 hrl;rw[<-hv0] at hv ev hR2 hrl;obtain⟨r,hr0⟩:∃r,r=Yq 11 u v p':=⟨_,rfl⟩
    rw[<-hr0] at hR2 hrl;have HEU:=zh eu;have HEV:=zh ev;have HU:=zh hu;have HV:=zh hv;have HX:=zh (show Jk (wrap64 (wrap32 (bits .xor .u32 (u:Int) (v:Int))))=R from by
     rw[hR2,<-JO hrl,hr0];exact congrArg (fun n=>Jk (wrap64 (wrap32 n))) ((Jn (k:= .u32) (.inr rfl) u v hu hv).2.2))
    have HR:=HX;clear eu ev hu0 hv0 hr0 hR1 hq hu hv hrl hR2 HX;go_enter func153,ntmps153;go_wp2_with fail
    refine(HV1.out _).mono ?_;rw[HVV.out];rintro e w1 ⟨rfl,hb⟩;have HB1:=hbn HB hb;have HW1:=zh hb;obtain⟨hc,hf⟩:=QN hb;have hz:=hb.size;simp at hz;clear hb;go_wp2_with fail
    refine(HV2.out _).mono ?_;rw[HVV2.out];rintro e w2 ⟨rfl,hb⟩;have HB2:=hbn HB1 hb;have HW2:=hbn HW1 hb;clear hc hf;obtain⟨hc,hf⟩:=QN HW2.out;have hz2:=hb.size;clear hb;go_wp2
    go_quiet (fail)
    rw[HEU.out,HEV.out];go_wp2_with fail
    refine(XT _ _).mono ?_;rw[HR.out];rintro e w4 ⟨rfl,hb⟩;have hb:=QC (below_drewN (Below.refl _ _) _) hb;have HB4:=hbn HB2 hb;have HW4:=hbn HW2 hb;clear hc hf;obtain⟨hc,hf⟩:=QN HW4.out;have hz4:=hb.size;try simp at hz4
    clear hb;go_wp2;refine zr (by simp[results,results153,go_sem,hc]<;>rfl) ?_;refine Qz (QD HB4.out ?_ _ _);omega
theorem O0 (w:World) (p q p' q':Int):Calls prog 153 #[.int .i64 12,.agg #[p,q],.agg #[.int .i64 p',q']] w (NumPost w (JU 12 (p,q) (p',q'))):=by
 obtain⟨R,hR⟩:∃R,R=JU 12 (p,q) (p',q'):=⟨_,rfl⟩
 rw[<-hR];have HB:=zh (QM w (o2 p q) (o2 p' q') (o2 0 0));have HV1:=zh (fun W=>Q5 W p q);have HV2:=zh (fun W=>Q5 W p' q');have hR0:R=if QT (p,q)&&QT (p',q') then XG 12 (p,q) (p',q') else .error 2:=by rw[hR];exact by rw[JL (by decide)];rfl
 clear hR;cases hv:QT (p,q) with
 |false=>
  have HR:=zh (show R= .error 2 from by rw[hR0,hv];rfl);have HVV:=zh hv;clear hv hR0;go_enter func153,ntmps153;go_wp2_with fail
  refine(HV1.out _).mono ?_;rw[HVV.out];rintro e w1 ⟨rfl,hb⟩;have HB1:=hbn HB hb;have HW1:=zh hb;obtain⟨hc,hf⟩:=QN hb;have hz:=hb.size;simp at hz;clear hb;go_wp2;refine zr (by simp[results,results153,go_sem,hc]<;>rfl) ?_;exact QZ HR.out (QD HB1.out (by omega) _ _)
 |true=>
  cases hv2:QT (p',q') with
  |false=>
   have HR:=zh (show R= .error 2 from by rw[hR0,hv,hv2];rfl);have HVV:=zh hv;have HVV2:=zh hv2;clear hv hv2 hR0;go_enter func153,ntmps153;go_wp2_with fail
   refine(HV1.out _).mono ?_;rw[HVV.out];rintro e w1 ⟨rfl,hb⟩;have HB1:=hbn HB hb;have HW1:=zh hb;obtain⟨hc,hf⟩:=QN hb;have hz:=hb.size;simp at hz;clear hb;go_wp2_with fail
   refine(HV2.out _).mono ?_;rw[HVV2.out];rintro e w2 ⟨rfl,hb⟩;have HB2:=hbn HB1 hb;have HW2:=hbn HW1 hb;clear hc hf;obtain⟨hc,hf⟩:=QN HW2.out;have hz2:=hb.size;clear hb;go_wp2;refine zr (by simp[results,results153,go_sem,hc]<;>rfl) ?_;exact QZ HR.out (QD HB2.out (by omega) _ _)
  |true=>
   have hR1:R=XG 12 (p,q) (p',q'):=by rw[hR0,hv,hv2];rfl
   have hb1:=QO hv;have hb2:=QO hv2;simp only[] at hb1 hb2;obtain⟨a1,a2,a3,a4⟩:=hb1;obtain⟨b1,b2,b3,b4⟩:=hb2;have HVV:=zh hv;have HVV2:=zh hv2;clear hv hv2 hR0;by_cases hq:1<q\/(q<=1/\(1:Int)<q')
   ·have HR:=zh (show R= .error 8 from by rw[hR1];exact J7 (by simp only[];omega));clear hR1;have tq:(q !=1)=decide (1<q):=by rw[Bool.eq_iff_iff,bne_iff_ne,decide_eq_true_eq];omega
    have tq2:((q':Int) !=1)=decide ((1:Int)<q'):=by first|rfl|(rw[Bool.eq_iff_iff,bne_iff_ne,decide_eq_true_eq];omega)
    rcases hq with c|⟨c,c2⟩
    ·rw[decide_eq_true (show 1<q from c)] at tq;clear tq2;go_enter func153,ntmps153;go_wp2_with fail
     refine(HV1.out _).mono ?_;rw[HVV.out];rintro e w1 ⟨rfl,hb⟩;have HB1:=hbn HB hb;have HW1:=zh hb;obtain⟨hc,hf⟩:=QN hb;have hz:=hb.size;simp at hz;clear hb;go_wp2_with fail
     refine(HV2.out _).mono ?_;rw[HVV2.out];rintro e w2 ⟨rfl,hb⟩;have HB2:=hbn HB1 hb;have HW2:=hbn HW1 hb;clear hc hf;obtain⟨hc,hf⟩:=QN HW2.out;have hz2:=hb.size;clear hb;go_wp2;refine zr (by simp[results,results153,go_sem,hc]<;>rfl) ?_;exact QZ HR.out (QD HB2.out (by omega) _ _)
    ·rw[decide_eq_false (show¬1<q by omega)] at tq;rw[decide_eq_true (show 1<q' from c2)] at tq2;go_enter func153,ntmps153;go_wp2_with fail
     refine(HV1.out _).mono ?_;rw[HVV.out];rintro e w1 ⟨rfl,hb⟩;have HB1:=hbn HB hb;have HW1:=zh hb;obtain⟨hc,hf⟩:=QN hb;have hz:=hb.size;simp at hz;clear hb;go_wp2_with fail
     refine(HV2.out _).mono ?_;rw[HVV2.out];rintro e w2 ⟨rfl,hb⟩;have HB2:=hbn HB1 hb;have HW2:=hbn HW1 hb;clear hc hf;obtain⟨hc,hf⟩:=QN HW2.out;have hz2:=hb.size;clear hb;go_wp2;refine zr (by simp[results,results153,go_sem,hc]<;>rfl) ?_;exact QZ HR.out (QD HB2.out (by omega) _ _)
   ·have tq:(q !=1)=false:=by rw[bne_eq_false_iff_eq];omega
    have tq2:((q':Int) !=1)=false:=by first|rfl|(rw[bne_eq_false_iff_eq];omega)
    have hR2:R=Jk (Zf (Yq 12 (KS p) (KS p') p')):=by rw[hR1];exact Jb (show q=1 by omega) (show(q':Int)=1 by first|rfl|omega)
    have hu:=Z1 p;have hv:=Z1 p';have hrl:=K3 hu hv 12 p';have eu:=Z2 p;have ev:=Z2 p';obtain⟨u,hu0⟩:∃u,u=KS p:=⟨_,rfl⟩
    obtain⟨v,hv0⟩:∃v,v=KS p':=⟨_,rfl⟩
    rw[<-hu0] at hu eu hR2 hrl;rw[<-hv0] at hv ev hR2 hrl;obtain⟨r,hr0⟩:∃r,r=Yq 12 u v p':=⟨_,rfl⟩
    rw[<-hr0] at hR2 hrl;have HEU:=zh eu;have HEV:=zh ev;have HU:=zh hu;have HV:=zh hv;have HX:=zh (show Jk (wrap64 (wrap32 (((Z4 u p':Nat):Int))))=R from by
     rw[hR2,<-JO hrl,hr0];exact congrArg (fun n=>Jk (wrap64 (wrap32 n))) (rfl))
    have HR:=HX;clear eu ev hu0 hv0 hr0 hR1 hq hu hv hrl hR2 HX;go_enter func153,ntmps153;go_wp2_with fail
    refine(HV1.out _).mono ?_;rw[HVV.out];rintro e w1 ⟨rfl,hb⟩;have HB1:=hbn HB hb;have HW1:=zh hb;obtain⟨hc,hf⟩:=QN hb;have hz:=hb.size;simp at hz;clear hb;go_wp2_with fail
    refine(HV2.out _).mono ?_;rw[HVV2.out];rintro e w2 ⟨rfl,hb⟩;have HB2:=hbn HB1 hb;have HW2:=hbn HW1 hb;clear hc hf;obtain⟨hc,hf⟩:=QN HW2.out;have hz2:=hb.size;clear hb;go_wp2
    go_quiet (fail)
    rw[HEU.out,HEV.out];go_wp2_with fail
    refine(PS _ u HU.out _ (by omega) (by omega) _ rfl).mono ?_;rintro e w3 ⟨rfl,rfl⟩;go_wp2_with fail
    refine(XT _ _).mono ?_;rw[HR.out];rintro e w4 ⟨rfl,hb⟩;have hb:=QC (below_drewN (Below.refl _ _) _) hb;have HB4:=hbn HB2 hb;have HW4:=hbn HW2 hb;clear hc hf;obtain⟨hc,hf⟩:=QN HW4.out;have hz4:=hb.size;try simp at hz4
    clear hb;go_wp2;refine zr (by simp[results,results153,go_sem,hc]<;>rfl) ?_;refine Qz (QD HB4.out ?_ _ _);omega
theorem Oz (w:World) (p q p' q':Int):Calls prog 153 #[.int .i64 13,.agg #[p,q],.agg #[p',q']] w (NumPost w (JU 13 (p,q) (p',q'))):=by
 obtain⟨R,hR⟩:∃R,R=JU 13 (p,q) (p',q'):=⟨_,rfl⟩
 rw[<-hR];have HB:=zh (QM w (o2 p q) (o2 p' q') (o2 0 0));have HV1:=zh (fun W=>Q5 W p q);have HV2:=zh (fun W=>Q5 W p' q');have hR0:R=if QT (p,q)&&QT (p',q') then XG 13 (p,q) (p',q') else .error 2:=by rw[hR];exact by rw[JL (by decide)];rfl
 clear hR;cases hv:QT (p,q) with
 |false=>
  have HR:=zh (show R= .error 2 from by rw[hR0,hv];rfl);have HVV:=zh hv;clear hv hR0;go_enter func153,ntmps153;go_wp2_with fail
  refine(HV1.out _).mono ?_;rw[HVV.out];rintro e w1 ⟨rfl,hb⟩;have HB1:=hbn HB hb;have HW1:=zh hb;obtain⟨hc,hf⟩:=QN hb;have hz:=hb.size;simp at hz;clear hb;go_wp2;refine zr (by simp[results,results153,go_sem,hc]<;>rfl) ?_;exact QZ HR.out (QD HB1.out (by omega) _ _)
 |true=>
  cases hv2:QT (p',q') with
  |false=>
   have HR:=zh (show R= .error 2 from by rw[hR0,hv,hv2];rfl);have HVV:=zh hv;have HVV2:=zh hv2;clear hv hv2 hR0;go_enter func153,ntmps153;go_wp2_with fail
   refine(HV1.out _).mono ?_;rw[HVV.out];rintro e w1 ⟨rfl,hb⟩;have HB1:=hbn HB hb;have HW1:=zh hb;obtain⟨hc,hf⟩:=QN hb;have hz:=hb.size;simp at hz;clear hb;go_wp2_with fail
   refine(HV2.out _).mono ?_;rw[HVV2.out];rintro e w2 ⟨rfl,hb⟩;have HB2:=hbn HB1 hb;have HW2:=hbn HW1 hb;clear hc hf;obtain⟨hc,hf⟩:=QN HW2.out;have hz2:=hb.size;clear hb;go_wp2;refine zr (by simp[results,results153,go_sem,hc]<;>rfl) ?_;exact QZ HR.out (QD HB2.out (by omega) _ _)
  |true=>
   have hR1:R=XG 13 (p,q) (p',q'):=by rw[hR0,hv,hv2];rfl
   have hb1:=QO hv;have hb2:=QO hv2;simp only[] at hb1 hb2;obtain⟨a1,a2,a3,a4⟩:=hb1;obtain⟨b1,b2,b3,b4⟩:=hb2;have HVV:=zh hv;have HVV2:=zh hv2;clear hv hv2 hR0;by_cases hq:1<q\/(q<=1/\(1:Int)<q')
   ·have HR:=zh (show R= .error 8 from by rw[hR1];exact J7 (by simp only[];omega));clear hR1;have tq:(q !=1)=decide (1<q):=by rw[Bool.eq_iff_iff,bne_iff_ne,decide_eq_true_eq];omega
    have tq2:((q':Int) !=1)=decide ((1:Int)<q'):=by first|rfl|(rw[Bool.eq_iff_iff,bne_iff_ne,decide_eq_true_eq];omega)
    rcases hq with c|⟨c,c2⟩
    ·rw[decide_eq_true (show 1<q from c)] at tq;clear tq2;go_enter func153,ntmps153;go_wp2_with fail
     refine(HV1.out _).mono ?_;rw[HVV.out];rintro e w1 ⟨rfl,hb⟩;have HB1:=hbn HB hb;have HW1:=zh hb;obtain⟨hc,hf⟩:=QN hb;have hz:=hb.size;simp at hz;clear hb;go_wp2_with fail
     refine(HV2.out _).mono ?_;rw[HVV2.out];rintro e w2 ⟨rfl,hb⟩;have HB2:=hbn HB1 hb;have HW2:=hbn HW1 hb;clear hc hf;obtain⟨hc,hf⟩:=QN HW2.out;have hz2:=hb.size;clear hb;go_wp2;refine zr (by simp[results,results153,go_sem,hc]<;>rfl) ?_;exact QZ HR.out (QD HB2.out (by omega) _ _)
    ·rw[decide_eq_false (show¬1<q by omega)] at tq;rw[decide_eq_true (show 1<q' from c2)] at tq2;go_enter func153,ntmps153;go_wp2_with fail
     refine(HV1.out _).mono ?_;rw[HVV.out];rintro e w1 ⟨rfl,hb⟩;have HB1:=hbn HB hb;have HW1:=zh hb;obtain⟨hc,hf⟩:=QN hb;have hz:=hb.size;simp at hz;clear hb;go_wp2_with fail
     refine(HV2.out _).mono ?_;rw[HVV2.out];rintro e w2 ⟨rfl,hb⟩;have HB2:=hbn HB1 hb;have HW2:=hbn HW1 hb;clear hc hf;obtain⟨hc,hf⟩:=QN HW2.out;have hz2:=hb.size;clear hb;go_wp2;refine zr (by simp[results,results153,go_sem,hc]<;>rfl) ?_;exact QZ HR.out (QD HB2.out (by omega) _ _)
   ·have tq:(q !=1)=false:=by rw[bne_eq_false_iff_eq];omega
    have tq2:((q':Int) !=1)=false:=by first|rfl|(rw[bne_eq_false_iff_eq];omega)
    have hR2:R=Jk (Zf (Yq 13 (KS p) (KS p') p')):=by rw[hR1];exact Jb (show q=1 by omega) (show(q':Int)=1 by first|rfl|omega)
    have hu:=Z1 p;have hv:=Z1 p';have hrl:=K3 hu hv 13 p';have eu:=Z2 p;have ev:=Z2 p';obtain⟨u,hu0⟩:∃u,u=KS p:=⟨_,rfl⟩
    obtain⟨v,hv0⟩:∃v,v=KS p':=⟨_,rfl⟩
    rw[<-hu0] at hu eu hR2 hrl;rw[<-hv0] at hv ev hR2 hrl;obtain⟨r,hr0⟩:∃r,r=Yq 13 u v p':=⟨_,rfl⟩
    rw[<-hr0] at hR2 hrl;have HEU:=zh eu;have HEV:=zh ev;have HU:=zh hu;have HV:=zh hv;have HX:=zh (show Jk (wrap64 (wrap32 (((Z4 u (-p'):Nat):Int))))=R from by
     rw[hR2,<-JO hrl,hr0];exact congrArg (fun n=>Jk (wrap64 (wrap32 n))) (rfl))
    have HR:=HX;clear eu ev hu0 hv0 hr0 hR1 hq hu hv hrl hR2 HX;go_enter func153,ntmps153;go_wp2_with fail
    refine(HV1.out _).mono ?_;rw[HVV.out];rintro e w1 ⟨rfl,hb⟩;have HB1:=hbn HB hb;have HW1:=zh hb;obtain⟨hc,hf⟩:=QN hb;have hz:=hb.size;simp at hz;clear hb;go_wp2_with fail
    refine(HV2.out _).mono ?_;rw[HVV2.out];rintro e w2 ⟨rfl,hb⟩;have HB2:=hbn HB1 hb;have HW2:=hbn HW1 hb;clear hc hf;obtain⟨hc,hf⟩:=QN HW2.out;have hz2:=hb.size;clear hb;go_wp2
    go_quiet (fail)
    rw[HEU.out,HEV.out];go_wp2_with fail
    refine(PS _ u HU.out _ (by omega) (by omega) _ rfl).mono ?_;rintro e w3 ⟨rfl,rfl⟩;go_wp2_with fail
    refine(XT _ _).mono ?_;rw[HR.out];rintro e w4 ⟨rfl,hb⟩;have hb:=QC (below_drewN (Below.refl _ _) _) hb;have HB4:=hbn HB2 hb;have HW4:=hbn HW2 hb;clear hc hf;obtain⟨hc,hf⟩:=QN HW4.out;have hz4:=hb.size;try simp at hz4
    clear hb;go_wp2;refine zr (by simp[results,results153,go_sem,hc]<;>rfl) ?_;refine Qz (QD HB4.out ?_ _ _);omega
theorem Oy (w:World) (p q p' q':Int):Calls prog 153 #[.int .i64 23,.agg #[p,q],.agg #[p',q']] w (NumPost w (JU 23 (p,q) (p',q'))):=by
 obtain⟨R,hR⟩:∃R,R=JU 23 (p,q) (p',q'):=⟨_,rfl⟩
 rw[<-hR];have HB:=zh (QM w (o2 p q) (o2 0 1) (o2 0 0));have HV1:=zh (fun W=>Q5 W p q);have HV2:=zh (fun W=>Q5 W 0 1);have hR0:R=if QT (p,q)&&QT (0,1) then XG 23 (p,q) (0,1) else .error 2:=by rw[hR];exact by rw[JL (by decide)];rfl
 clear hR;cases hv:QT (p,q) with
 |false=>
  have HR:=zh (show R= .error 2 from by rw[hR0,hv];rfl);have HVV:=zh hv;clear hv hR0;go_enter func153,ntmps153;go_wp2_with fail
  refine(HV1.out _).mono ?_;rw[HVV.out];rintro e w1 ⟨rfl,hb⟩;have HB1:=hbn HB hb;have HW1:=zh hb;obtain⟨hc,hf⟩:=QN hb;have hz:=hb.size;simp at hz;clear hb;go_wp2;refine zr (by simp[results,results153,go_sem,hc]<;>rfl) ?_;exact QZ HR.out (QD HB1.out (by omega) _ _)
 |true=>
  cases hv2:QT (0,1) with
  |false=>
   have HR:=zh (show R= .error 2 from by rw[hR0,hv,hv2];rfl);have HVV:=zh hv;have HVV2:=zh hv2;clear hv hv2 hR0;go_enter func153,ntmps153;go_wp2_with fail
   refine(HV1.out _).mono ?_;rw[HVV.out];rintro e w1 ⟨rfl,hb⟩;have HB1:=hbn HB hb;have HW1:=zh hb;obtain⟨hc,hf⟩:=QN hb;have hz:=hb.size;simp at hz;clear hb;go_wp2_with fail
   refine(HV2.out _).mono ?_;rw[HVV2.out];rintro e w2 ⟨rfl,hb⟩;have HB2:=hbn HB1 hb;have HW2:=hbn HW1 hb;clear hc hf;obtain⟨hc,hf⟩:=QN HW2.out;have hz2:=hb.size;clear hb;go_wp2;refine zr (by simp[results,results153,go_sem,hc]<;>rfl) ?_;exact QZ HR.out (QD HB2.out (by omega) _ _)
  |true=>
   have hR1:R=XG 23 (p,q) (0,1):=by rw[hR0,hv,hv2];rfl
   have hb1:=QO hv;have hb2:=QO hv2;simp only[] at hb1 hb2;obtain⟨a1,a2,a3,a4⟩:=hb1;obtain⟨b1,b2,b3,b4⟩:=hb2;have HVV:=zh hv;have HVV2:=zh hv2;clear hv hv2 hR0;by_cases hq:1<q\/(q<=1/\(1:Int)<1)
   ·have HR:=zh (show R= .error 8 from by rw[hR1];exact J7 (by simp only[];omega));clear hR1;have tq:(q !=1)=decide (1<q):=by rw[Bool.eq_iff_iff,bne_iff_ne,decide_eq_true_eq];omega
    have tq2:((1:Int) !=1)=decide ((1:Int)<1):=by first|rfl|(rw[Bool.eq_iff_iff,bne_iff_ne,decide_eq_true_eq];omega)
    rcases hq with c|⟨c,c2⟩
    ·rw[decide_eq_true (show 1<q from c)] at tq;clear tq2;go_enter func153,ntmps153;go_wp2_with fail
     refine(HV1.out _).mono ?_;rw[HVV.out];rintro e w1 ⟨rfl,hb⟩;have HB1:=hbn HB hb;have HW1:=zh hb;obtain⟨hc,hf⟩:=QN hb;have hz:=hb.size;simp at hz;clear hb;go_wp2_with fail
     refine(HV2.out _).mono ?_;rw[HVV2.out];rintro e w2 ⟨rfl,hb⟩;have HB2:=hbn HB1 hb;have HW2:=hbn HW1 hb;clear hc hf;obtain⟨hc,hf⟩:=QN HW2.out;have hz2:=hb.size;clear hb;go_wp2;refine zr (by simp[results,results153,go_sem,hc]<;>rfl) ?_;exact QZ HR.out (QD HB2.out (by omega) _ _)
    ·exact absurd c2 (by omega)
   ·have tq:(q !=1)=false:=by rw[bne_eq_false_iff_eq];omega
    have tq2:((1:Int) !=1)=false:=by first|rfl|(rw[bne_eq_false_iff_eq];omega)
    have hR2:R=Jk (Zf (Yq 23 (KS p) (KS 0) 0)):=by rw[hR1];exact Jb (show q=1 by omega) (show(1:Int)=1 by first|rfl|omega)
    have hu:=Z1 p;have hv:=Z1 0;have hrl:=K3 hu hv 23 0;have eu:=Z2 p;have ev:=Z2 0;obtain⟨u,hu0⟩:∃u,u=KS p:=⟨_,rfl⟩
    obtain⟨v,hv0⟩:∃v,v=KS 0:=⟨_,rfl⟩
    rw[<-hu0] at hu eu hR2 hrl;rw[<-hv0] at hv ev hR2 hrl;obtain⟨r,hr0⟩:∃r,r=Yq 23 u v 0:=⟨_,rfl⟩
    rw[<-hr0] at hR2 hrl;have HEU:=zh eu;have HEV:=zh ev;have HU:=zh hu;have HV:=zh hv;have HX:=zh (show Jk (wrap64 (wrap32 (bits .xor .u32 IntKind.u32.max (u:Int))))=R from by
     rw[hR2,<-JO hrl,hr0];exact congrArg (fun n=>Jk (wrap64 (wrap32 n))) (Sc hu))
    have HR:=HX;clear eu ev hu0 hv0 hr0 hR1 hq hu hv hrl hR2 HX;go_enter func153,ntmps153;go_wp2_with fail
    refine(HV1.out _).mono ?_;rw[HVV.out];rintro e w1 ⟨rfl,hb⟩;have HB1:=hbn HB hb;have HW1:=zh hb;obtain⟨hc,hf⟩:=QN hb;have hz:=hb.size;simp at hz;clear hb;go_wp2_with fail
    refine(HV2.out _).mono ?_;rw[HVV2.out];rintro e w2 ⟨rfl,hb⟩;have HB2:=hbn HB1 hb;have HW2:=hbn HW1 hb;clear hc hf;obtain⟨hc,hf⟩:=QN HW2.out;have hz2:=hb.size;clear hb;go_wp2
    go_quiet (fail)
    rw[HEU.out];go_wp2_with fail
    refine(XT _ _).mono ?_;rw[HR.out];rintro e w4 ⟨rfl,hb⟩;have hb:=QC (below_drewN (Below.refl _ _) _) hb;have HB4:=hbn HB2 hb;have HW4:=hbn HW2 hb;clear hc hf;obtain⟨hc,hf⟩:=QN HW4.out;have hz4:=hb.size;try simp at hz4
    clear hb;go_wp2;refine zr (by simp[results,results153,go_sem,hc]<;>rfl) ?_;refine Qz (QD HB4.out ?_ _ _);omega
theorem Nr (w:World) (o p q p' q':Int) (ho:o<9\/(13<o/\(o<23\/23<o))):Calls prog 153 #[o,.agg #[p,q],.agg #[p',q']] w (NumPost w (JU o (p,q) (p',q'))):=by
 obtain⟨R,hR⟩:∃R,R=JU o (p,q) (p',q'):=⟨_,rfl⟩
 rw[<-hR];have HR:=zh (show R= .error 2 from by rw[hR];exact P6 (by unfold K0;rw[decide_eq_false (by omega),decide_eq_false (by omega)];rfl));have HB1:=zh (QM w (o2 p q) (o2 p' q') (o2 0 0));have t1:(o !=23)=true:=by rw[bne_iff_ne];omega
 have t2:(o==23)=false:=by rw[beq_eq_false_iff_ne];omega
 clear hR;rcases ho with c|⟨c,c2⟩;all_goals
  go_enter func153,ntmps153;go_wp2;refine zr (by simp[results,results153,go_sem]<;>rfl) ?_;exact QZ HR.out HB1.out
theorem SH (w:World) (o p q p' q':Int):Calls prog 153 #[o,.agg #[p,q],.agg #[p',q']] w (NumPost w (JU o (p,q) (p',q'))):=by
 have hc:(o<9\/(13<o/\(o<23\/23<o)))\/o=9\/o=10\/o=11\/o=12\/o=13\/o=23:=by omega
 rcases hc with hc|rfl|rfl|rfl|rfl|rfl|rfl
 ·exact Nr w o p q p' q' hc
 ·exact CC w p q p' q'
 ·exact O2 w p q p' q'
 ·exact O1 w p q p' q'
 ·exact O0 w p q p' q'
 ·exact Oz w p q p' q'
 ·exact Oy w p q p' q'
theorem CV (w:World) (p q p' q':Int):Calls prog 90 #[.int .i64 1,.agg #[p,q],.agg #[p',q']] w (NumPost w (La (p,q) (p',q'))):=by
 all_goals
  go_enter func90,ntmps90;go_wp2_with fail
  refine(RH _ _ _ _ _).mono ?_;rintro e w1 ⟨rfl,hb⟩;have hz:=hb.size;simp at hz;obtain⟨hc,hf⟩:=QN hb;have HB1:=hbn (QM _ _ _ _) hb;have f0:w1.frozen? ⟨w+1+1,0,none⟩=false:=(hf _ _ (by simp<;>omega)).trans (by simp[go_sem]);have f1:w1.frozen? ⟨w+1+1,1,none⟩=false:=(hf _ _ (by simp<;>omega)).trans (by simp[go_sem]);have c0:w1.cell? ⟨w+1+1,0,none⟩=some (.int .i64 0):=(hc _ _ (by simp<;>omega)).trans (by simp[go_sem]);have c1:w1.cell? ⟨w+1+1,1,none⟩=some (.int .i64 0):=(hc _ _ (by simp<;>omega)).trans (by simp[go_sem]);clear hb hc hf;go_wp2;refine zr (by simp[results,results90,go_sem,c0,c1]<;>rfl) ?_;exact Zl rfl (QD HB1.out (by omega) _ _)
theorem CU (w:World) (p q p' q':Int):Calls prog 90 #[.int .i64 2,.agg #[p,q],.agg #[p',q']] w (NumPost w (M7 (p,q) (p',q'))):=by
 all_goals
  go_enter func90,ntmps90;go_wp2_with fail
  refine(S9 _ _ _ _ _).mono ?_;rintro e w1 ⟨rfl,hb⟩;have hz:=hb.size;simp at hz;obtain⟨hc,hf⟩:=QN hb;have HB1:=hbn (QM _ _ _ _) hb;have f0:w1.frozen? ⟨w+1+1,0,none⟩=false:=(hf _ _ (by simp<;>omega)).trans (by simp[go_sem]);have f1:w1.frozen? ⟨w+1+1,1,none⟩=false:=(hf _ _ (by simp<;>omega)).trans (by simp[go_sem]);have c0:w1.cell? ⟨w+1+1,0,none⟩=some (.int .i64 0):=(hc _ _ (by simp<;>omega)).trans (by simp[go_sem]);have c1:w1.cell? ⟨w+1+1,1,none⟩=some (.int .i64 0):=(hc _ _ (by simp<;>omega)).trans (by simp[go_sem]);clear hb hc hf;go_wp2;refine zr (by simp[results,results90,go_sem,c0,c1]<;>rfl) ?_;exact Zl rfl (QD HB1.out (by omega) _ _)
theorem CT (w:World) (p q p' q':Int):Calls prog 90 #[.int .i64 3,.agg #[p,q],.agg #[p',q']] w (NumPost w (Av (p,q) (p',q'))):=by
 all_goals
  go_enter func90,ntmps90;go_wp2_with fail
  refine(RC _ _ _ _ _).mono ?_;rintro e w1 ⟨rfl,hb⟩;have hz:=hb.size;simp at hz;obtain⟨hc,hf⟩:=QN hb;have HB1:=hbn (QM _ _ _ _) hb;have f0:w1.frozen? ⟨w+1+1,0,none⟩=false:=(hf _ _ (by simp<;>omega)).trans (by simp[go_sem]);have f1:w1.frozen? ⟨w+1+1,1,none⟩=false:=(hf _ _ (by simp<;>omega)).trans (by simp[go_sem]);have c0:w1.cell? ⟨w+1+1,0,none⟩=some (.int .i64 0):=(hc _ _ (by simp<;>omega)).trans (by simp[go_sem]);have c1:w1.cell? ⟨w+1+1,1,none⟩=some (.int .i64 0):=(hc _ _ (by simp<;>omega)).trans (by simp[go_sem]);clear hb hc hf;go_wp2;refine zr (by simp[results,results90,go_sem,c0,c1]<;>rfl) ?_;exact Zl rfl (QD HB1.out (by omega) _ _)
theorem CS (w:World) (p q p' q':Int):Calls prog 90 #[.int .i64 4,.agg #[p,q],.agg #[p',q']] w (NumPost w (Bg (p,q) (p',q'))):=by
 all_goals
  go_enter func90,ntmps90;go_wp2_with fail
  refine(RE _ _ _ _ _).mono ?_;rintro e w1 ⟨rfl,hb⟩;have hz:=hb.size;simp at hz;obtain⟨hc,hf⟩:=QN hb;have HB1:=hbn (QM _ _ _ _) hb;have f0:w1.frozen? ⟨w+1+1,0,none⟩=false:=(hf _ _ (by simp<;>omega)).trans (by simp[go_sem]);have f1:w1.frozen? ⟨w+1+1,1,none⟩=false:=(hf _ _ (by simp<;>omega)).trans (by simp[go_sem]);have c0:w1.cell? ⟨w+1+1,0,none⟩=some (.int .i64 0):=(hc _ _ (by simp<;>omega)).trans (by simp[go_sem]);have c1:w1.cell? ⟨w+1+1,1,none⟩=some (.int .i64 0):=(hc _ _ (by simp<;>omega)).trans (by simp[go_sem]);clear hb hc hf;go_wp2;refine zr (by simp[results,results90,go_sem,c0,c1]<;>rfl) ?_;exact Zl rfl (QD HB1.out (by omega) _ _)
theorem CR (w:World) (p q p' q':Int):Calls prog 90 #[.int .i64 5,.agg #[p,q],.agg #[p',q']] w (NumPost w (Dh (p,q) (p',q'))):=by
 all_goals
  go_enter func90,ntmps90;go_wp2_with fail
  refine(SA _ _ _ _ _).mono ?_;rintro e w1 ⟨rfl,hb⟩;have hz:=hb.size;simp at hz;obtain⟨hc,hf⟩:=QN hb;have HB1:=hbn (QM _ _ _ _) hb;have f0:w1.frozen? ⟨w+1+1,0,none⟩=false:=(hf _ _ (by simp<;>omega)).trans (by simp[go_sem]);have f1:w1.frozen? ⟨w+1+1,1,none⟩=false:=(hf _ _ (by simp<;>omega)).trans (by simp[go_sem]);have c0:w1.cell? ⟨w+1+1,0,none⟩=some (.int .i64 0):=(hc _ _ (by simp<;>omega)).trans (by simp[go_sem]);have c1:w1.cell? ⟨w+1+1,1,none⟩=some (.int .i64 0):=(hc _ _ (by simp<;>omega)).trans (by simp[go_sem]);clear hb hc hf;go_wp2;refine zr (by simp[results,results90,go_sem,c0,c1]<;>rfl) ?_;exact Zl rfl (QD HB1.out (by omega) _ _)
theorem CQ (w:World) (p q p' q':Int):Calls prog 90 #[.int .i64 6,.agg #[p,q],.agg #[p',q']] w (NumPost w (Bb (p,q) (p',q'))):=by
 all_goals
  go_enter func90,ntmps90;go_wp2_with fail
  refine(RD _ _ _ _ _).mono ?_;rintro e w1 ⟨rfl,hb⟩;have hz:=hb.size;simp at hz;obtain⟨hc,hf⟩:=QN hb;have HB1:=hbn (QM _ _ _ _) hb;have f0:w1.frozen? ⟨w+1+1,0,none⟩=false:=(hf _ _ (by simp<;>omega)).trans (by simp[go_sem]);have f1:w1.frozen? ⟨w+1+1,1,none⟩=false:=(hf _ _ (by simp<;>omega)).trans (by simp[go_sem]);have c0:w1.cell? ⟨w+1+1,0,none⟩=some (.int .i64 0):=(hc _ _ (by simp<;>omega)).trans (by simp[go_sem]);have c1:w1.cell? ⟨w+1+1,1,none⟩=some (.int .i64 0):=(hc _ _ (by simp<;>omega)).trans (by simp[go_sem]);clear hb hc hf;go_wp2;refine zr (by simp[results,results90,go_sem,c0,c1]<;>rfl) ?_;exact Zl rfl (QD HB1.out (by omega) _ _)
theorem AP (w:World) (p q p' q':Int):Calls prog 90 #[.int .i64 20,.agg #[p,q],.agg #[p',q']] w (NumPost w (Pv (p,q))):=by
 all_goals
  go_enter func90,ntmps90;go_wp2_with fail
  refine(RB _ _ _).mono ?_;rintro e w1 ⟨rfl,hb⟩;have hz:=hb.size;simp at hz;obtain⟨hc,hf⟩:=QN hb;have HB1:=hbn (QM _ _ _ _) hb;have f0:w1.frozen? ⟨w+1+1,0,none⟩=false:=(hf _ _ (by simp<;>omega)).trans (by simp[go_sem]);have f1:w1.frozen? ⟨w+1+1,1,none⟩=false:=(hf _ _ (by simp<;>omega)).trans (by simp[go_sem]);have c0:w1.cell? ⟨w+1+1,0,none⟩=some (.int .i64 0):=(hc _ _ (by simp<;>omega)).trans (by simp[go_sem]);have c1:w1.cell? ⟨w+1+1,1,none⟩=some (.int .i64 0):=(hc _ _ (by simp<;>omega)).trans (by simp[go_sem]);clear hb hc hf;go_wp2;refine zr (by simp[results,results90,go_sem,c0,c1]<;>rfl) ?_;exact Zl rfl (QD HB1.out (by omega) _ _)
theorem TP (w:World) (o:Int) (p q p' q':Int) (h1:(o==1)=false) (h2:(o==2)=false) (h3:(o==3)=false) (h4:(o==4)=false) (h5:(o==5)=false) (h6:(o==6)=false) (h7:(o==7)=false) (h20:(o==20)=false):Calls prog 90 #[o,.agg #[p,q],.agg #[p',q']] w (NumPost w (JU o (p,q) (p',q'))):=by
 all_goals
  go_enter func90,ntmps90;go_wp2_with fail
  refine(SH _ _ _ _ _ _).mono ?_;rintro e w1 ⟨rfl,hb⟩;have hz:=hb.size;simp at hz;obtain⟨hc,hf⟩:=QN hb;have HB1:=hbn (QM _ _ _ _) hb;have f0:w1.frozen? ⟨w+1+1,0,none⟩=false:=(hf _ _ (by simp<;>omega)).trans (by simp[go_sem]);have f1:w1.frozen? ⟨w+1+1,1,none⟩=false:=(hf _ _ (by simp<;>omega)).trans (by simp[go_sem]);have c0:w1.cell? ⟨w+1+1,0,none⟩=some (.int .i64 0):=(hc _ _ (by simp<;>omega)).trans (by simp[go_sem]);have c1:w1.cell? ⟨w+1+1,1,none⟩=some (.int .i64 0):=(hc _ _ (by simp<;>omega)).trans (by simp[go_sem]);clear hb hc hf;go_wp2;refine zr (by simp[results,results90,go_sem,c0,c1]<;>rfl) ?_;exact Zl rfl (QD HB1.out (by omega) _ _)
theorem CP (w:World) (p q p' q':Int):Calls prog 90 #[.int .i64 7,.agg #[p,q],.agg #[p',q']] w (NumPost w (Dn (Dm (p,q) (p',q')))):=by
 obtain⟨M,hM⟩:∃M,M=Dm (p,q) (p',q'):=⟨_,rfl⟩
 rw[<-hM];have HM:=zh (fun W=>(hM▸RA W p q p' q':Calls prog 151 #[.agg #[p,q],.agg #[p',q']] W (NumPost W M)));clear hM;rcases Pd M with⟨hR,hE⟩|⟨hR,hE⟩;all_goals
  have HR:=zh hR;clear hR;go_enter func90,ntmps90;go_wp2_with fail
  refine(HM.out _).mono ?_;rintro e w2 ⟨rfl,hb⟩;have hz:=hb.size;simp at hz;obtain⟨hc,hf⟩:=QN hb;have c0:∀x y,(w2.alloc (.cells #[x,y] 23)).cell? ⟨w+1+1,0,none⟩=some (.int .i64 0):=fun x y=>(QH (by omega)).trans ((hc _ _ (by simp<;>omega)).trans (by simp[go_sem]));have c1:∀x y,(w2.alloc (.cells #[x,y] 23)).cell? ⟨w+1+1,1,none⟩=some (.int .i64 0):=fun x y=>(QH (by omega)).trans ((hc _ _ (by simp<;>omega)).trans (by simp[go_sem]));have f0:∀x y,(w2.alloc (.cells #[x,y] 23)).frozen? ⟨w+1+1,0,none⟩=false:=fun x y=>(QJ (by omega)).trans ((hf _ _ (by simp<;>omega)).trans (by simp[go_sem]));have f1:∀x y,(w2.alloc (.cells #[x,y] 23)).frozen? ⟨w+1+1,1,none⟩=false:=fun x y=>(QJ (by omega)).trans ((hf _ _ (by simp<;>omega)).trans (by simp[go_sem]));have HB2:=fun x y=>zh ((QC (QM _ _ _ _) hb).alloc (by omega) (.cells #[x,y] 23));clear hb hc hf;go_wp2;refine zr (by simp[results,results90,go_sem,c0,c1]<;>rfl) ?_
 ·have hR:=HR.out;rw[hR];exact QZ rfl (QD (HB2 _ _).out (by omega) _ _)
 ·exact Zl HR.out (QD (HB2 _ _).out (by omega) _ _)
theorem AO (w:World) (o p q p' q':Int):Calls prog 90 #[o,.agg #[p,q],.agg #[p',q']] w (NumPost w (J8 o (p,q) (p',q'))):=by
 unfold J8;have tf:∀a:Int,o≠a->(o==a)=false:=fun a h=>by rw[beq_eq_false_iff_ne];exact h
 by_cases h1:o=1
 ·subst h1;exact CV w p q p' q'
 rw[if_neg h1];by_cases h2:o=2
 ·subst h2;exact CU w p q p' q'
 rw[if_neg h2];by_cases h3:o=3
 ·subst h3;exact CT w p q p' q'
 rw[if_neg h3];by_cases h4:o=4
 ·subst h4;exact CS w p q p' q'
 rw[if_neg h4];by_cases h5:o=5
 ·subst h5;exact CR w p q p' q'
 rw[if_neg h5];by_cases h6:o=6
 ·subst h6;exact CQ w p q p' q'
 rw[if_neg h6];by_cases h7:o=7
 ·subst h7;exact CP w p q p' q'
 rw[if_neg h7];by_cases h20:o=20
 ·subst h20;exact AP w p q p' q'
 rw[if_neg h20];exact TP w o p q p' q' (tf _ h1) (tf _ h2) (tf _ h3) (tf _ h4) (tf _ h5) (tf _ h6) (tf _ h7) (tf _ h20)
end Go.Proofs.YthkpckgcgkijbaaGreatDoor
