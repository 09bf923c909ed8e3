import Derived.Test.YthkpckgcgkijbaaGreatDoorOpD
import Derived.Test.YthkpckgcgkijbaaGreatDoorNumU
set_option linter.unusedVariables false
set_option linter.unusedSimpArgs false
set_option maxRecDepth 100000
set_option maxHeartbeats 8000000
namespace Go.Proofs.YthkpckgcgkijbaaGreatDoor
open Go.RowKit Go.Proofs.Lexi Go.Proofs.Tryz
theorem KA (w:World) (p q:Int) (hp1: -9223372036854775807<=p) (hp2:p<=9223372036854775807) (hq1: -9223372036854775807<=q) (hq2:q<=9223372036854775807) (h0:q≠0):
  Calls prog 161 #[p,q] w (NumPost w (JS p q)):=by
 obtain⟨D,hD⟩:∃D,D=Int.gcd p q:=⟨_,rfl⟩
 have hD0:0<D:=by rw[hD];exact Kh h0
 have hD1:D<=9223372036854775807:=by
  have:=Int.gcd_le_natAbs_right (a:=p) (b:=q) (by omega);omega
 have hqp:=GA (P:=p) hD0 hp1 hp2;have hqq:=GA (P:=q) hD0 hq1 hq2;have HTP:=zh (show Int.tdiv p (D:Int)=p/(D:Int) by rw[hD];exact Gg p q);have HTQ:=zh (show Int.tdiv q (D:Int)=q/(D:Int) by rw[hD];exact GL p q);have hsg:=CD (q:=q) hD0 (by rw[hD];exact Int.gcd_dvd_right ..);have HQ:=zh (CB hD);have HDD:=zh (show Nat.gcd p.natAbs q.natAbs=D from hD.symm);have HGC:=zh (fun W x y hx hy=>BP W x y p.natAbs q.natAbs hx hy (by omega) (by omega));clear hD;obtain⟨R,hR⟩:∃R,R=JS p q:=⟨_,rfl⟩
 rw[<-hR] at HQ ⊢;obtain⟨X,hX⟩:∃X,X=p/(D:Int):=⟨_,rfl⟩
 obtain⟨Y,hY⟩:∃Y,Y=q/(D:Int):=⟨_,rfl⟩
 rw[<-hX] at hqp HTP HQ;rw[<-hY] at hqq HTQ HQ hsg;have HX:=zh (show p/(D:Int)=X from hX.symm);have HY:=zh (show q/(D:Int)=Y from hY.symm);obtain⟨x1,x2⟩:=hqp;obtain⟨y1,y2⟩:=hqq;obtain⟨s1,s2⟩:=hsg;have hcase:(q<0/\Y<0)\/(0<q/\0<Y):=by
  rcases Int.lt_or_gt_of_ne h0 with h|h
  ·exact .inl ⟨h,s1 h⟩
  ·exact .inr ⟨h,s2 h⟩
 clear hR hX hY s1 s2;have HA1:=zh (fun W=>PH W p hp1 hp2);have HA2:=zh (fun W=>PH W q hq1 hq2);have HB:=zh (Qj w (o2 0 0));rcases hcase with⟨c1,c2⟩|⟨c1,c2⟩
 ·have HE:=zh (show-X< -2147483647\/2147483647< -X\/2147483647< -Y->R= .error 6 from fun h=>(HQ.out.1 c1).trans (YT h));have HO:=zh (show-2147483647<= -X-> -X<=2147483647-> -Y<=2147483647->R= .ok (-X, -Y) from fun h1 h2 h3=>(HQ.out.1 c1).trans (XW h1 h2 h3));clear HQ;go_enter func161,ntmps161;go_wp2_with fail
  refine(HA1.out _).mono ?_;rintro e w1 ⟨rfl,rfl⟩;go_wp2_with fail
  refine(HA2.out _).mono ?_;rintro e w1 ⟨rfl,rfl⟩;go_wp2_with fail
  refine(HGC.out _ _ _ rfl rfl).mono ?_;rw[HDD.out];rintro e w1 ⟨rfl,n,rfl⟩;have htp:=HTP.out;have htq:=HTQ.out;have hxx:=HX.out;have hyy:=HY.out;go_wp2;all_goals
   refine zr (by simp[results,results161,go_sem]<;>rfl) ?_;first|exact QZ (HE.out (by omega)) (Jc _ _ _ _ _)|exact JI (HO.out (by omega) (by omega) (by omega)) (Jc _ _ _ _ _)
 ·have HE:=zh (show X< -2147483647\/2147483647<X\/2147483647<Y->R= .error 6 from fun h=>(HQ.out.2 (by omega)).trans (YT h));have HO:=zh (show-2147483647<=X->X<=2147483647->Y<=2147483647->R= .ok (X,Y) from fun h1 h2 h3=>(HQ.out.2 (by omega)).trans (XW h1 h2 h3));clear HQ;go_enter func161,ntmps161;go_wp2_with fail
  refine(HA1.out _).mono ?_;rintro e w1 ⟨rfl,rfl⟩;go_wp2_with fail
  refine(HA2.out _).mono ?_;rintro e w1 ⟨rfl,rfl⟩;go_wp2_with fail
  refine(HGC.out _ _ _ rfl rfl).mono ?_;rw[HDD.out];rintro e w1 ⟨rfl,n,rfl⟩;have htp:=HTP.out;have htq:=HTQ.out;have hxx:=HX.out;have hyy:=HY.out;go_wp2;all_goals
   refine zr (by simp[results,results161,go_sem]<;>rfl) ?_;first|exact QZ (HE.out (by omega)) (Jc _ _ _ _ _)|exact JI (HO.out (by omega) (by omega) (by omega)) (Jc _ _ _ _ _)
theorem DH (w:World) (n:Int):Calls prog 163 #[n] w (NumPost w (Jk n)):=by
 by_cases h: -2147483647<=n/\n<=2147483647
 ·obtain⟨h1,h2⟩:=h;have HR:=zh (show Jk n= .ok (n,1) from by unfold Jk;rw[if_pos (inTop_iff.2 ⟨h1,h2⟩)]);go_enter func163,ntmps163;go_wp2;refine zr (by simp[results,results163,go_sem]<;>rfl) ?_;exact JI HR.out (Qj _ _)
 ·have HR:=zh (show Jk n= .error 6 from by unfold Jk;rw[if_neg (fun e=>h (inTop_iff.1 e))]);have hc:n< -2147483647\/(-2147483647<=n/\2147483647<n):=by omega
  clear h;rcases hc with k1|⟨k1,k2⟩;all_goals
   go_enter func163,ntmps163;go_wp2;refine zr (by simp[results,results163,go_sem]<;>rfl) ?_;exact QZ HR.out (Qj _ _)
theorem Sz (w:World) (p q:Int):Calls prog 106 #[.agg #[p,q]] w (NumPost w (Pv (p,q))):=by
 have HB:=zh (QE w (.cells #[p,q] 23) (.cells #[(0:Int),(0:Int)] 23));have HV:=zh (Q7 ((w.alloc (.cells #[p,q] 23)).alloc (.cells #[(0:Int),(0:Int)] 23)) p q);cases hv:QT (p,q) with
 |true=>
  have hb:=QO hv;simp only[] at hb;obtain⟨h1,h2,h3,h4⟩:=hb;have HR:=zh (show Pv (p,q)= .ok (-p,q) from by unfold Pv;rw[hv];rfl);have HVV:=zh hv;clear hv;go_enter func106,ntmps106;go_wp2_with fail
  refine HV.out.mono ?_;rw[HVV.out];rintro e w1 ⟨rfl,hb⟩;have HB1:=hbn HB hb;obtain⟨hc,hf⟩:=QN hb;have hz:=hb.size;simp at hz;clear hb;go_wp2;refine zr (by simp[results,results106,go_sem,hc]<;>rfl) ?_;exact JI HR.out (QD HB1.out (Nat.le_succ _) _ _)
 |false=>
  have HR:=zh (show Pv (p,q)= .error 2 from by unfold Pv;rw[hv];rfl);have HVV:=zh hv;clear hv;go_enter func106,ntmps106;go_wp2_with fail
  refine HV.out.mono ?_;rw[HVV.out];rintro e w1 ⟨rfl,hb⟩;have HB1:=hbn HB hb;obtain⟨hc,hf⟩:=QN hb;have hz:=hb.size;simp at hz;clear hb;go_wp2;refine zr (by simp[results,results106,go_sem,hc]<;>rfl) ?_;exact QZ HR.out (QD HB1.out (Nat.le_succ _) _ _)
theorem Ut (w:World) (x y:Int):Calls prog 214 #[x,y] w fun e w'=>e= .returned (.int .i64 (ZV x y))/\w=w':=by
 have hc:x<y\/y<x\/x=y:=by omega
 rcases hc with h|h|rfl
 ·have HR:=zh (show ZV x y= -1 from by unfold ZV;rw[if_pos h]);go_enter func214,ntmps214;go_wp2
  go_ret
  exact⟨ZB HR.out.symm,rfl⟩
 ·have HR:=zh (show ZV x y=1 from by unfold ZV;rw[if_neg (by omega),if_pos h]);have h':¬x<y:=by omega
  go_enter func214,ntmps214;go_wp2
  go_ret
  exact⟨ZB HR.out.symm,rfl⟩
 ·have HR:=zh (show ZV x x=0 from by unfold ZV;rw[if_neg (by omega),if_neg (by omega)]);go_enter func214,ntmps214;go_wp2
  go_ret
  exact⟨ZB HR.out.symm,rfl⟩
theorem T9 (w:World) (x n:Int) (k:Nat) (hn:n=k) (hk:k<=1000) (h1: -2147483647<=x) (h2:x<=2147483647):Calls prog 166 #[x,n] w (PowPost w (Xw x k 1)):=by
 subst hn;obtain⟨R,hR⟩:∃R,R=Xw x k 1:=⟨_,rfl⟩
 rw[<-hR];have HS:=zh (show PowRel w x k R k (.int .i64 1) (.int .i64 0) w from⟨0,1,rfl,rfl,rfl,rfl,Nat.zero_le _,by omega,by omega,hR.symm⟩);clear hR;go_enter func166,ntmps166;go_wp2
 go_loopg [6,7] k (fun gg u v wr=>PowRel w x k R gg u v wr)
 case atStart=>exact HS.out
 case round=>
  clear HS;obtain⟨j,p,rfl,rfl,rfl,rfl,hj,p1,p2,hp⟩:=hrel;by_cases hlt:j<k
  ·have hm:=Qe p1 p2 h1 h2;obtain⟨d,hd⟩:∃d,k-j=d+1:=⟨k-j-1,by omega⟩
   rw[hd] at hp;obtain⟨y,hy⟩:∃y,y=p*x:=⟨_,rfl⟩
   have hp2:(if UO y then Xw x d y else none)=R:=by rw[hy];exact hp
   have HY:=zh hy;have HD:=zh hd;rw[<-hy] at hm;clear hp hy hd;by_cases hin: -2147483647<=y/\y<=2147483647
   ·rw[if_pos (inTop_iff.2 hin)] at hp2;have HN:=zh (show PowRel w x k R (k-(j+1)) (.int .i64 y) (.int .i64 ((j:Int)+1)) w from⟨j+1,y,rfl,rfl,rfl,rfl,by omega,hin.1,hin.2,by rw[show k-(j+1)=d by have:=HD.out;omega];exact hp2⟩);obtain⟨y1,y2⟩:=hin;have hyy:=HY.out.symm;clear hp2;go_wp2
    go_roundg (k-(j+1))
    case measure=>omega
    case rel=>exact HN.out
   ·rw[if_neg (fun e=>hin (inTop_iff.1 e))] at hp2;have HN:=zh hp2.symm;have hc:2147483647<y\/(y<=2147483647/\y< -2147483647):=by omega
    have hyy:=HY.out.symm;clear hp2 hin;rcases hc with c1|⟨c1,c2⟩;all_goals
     go_wp2
     go_ret2
     exact Pf HN.out rfl
  ·have HN:=zh (show R=some p from by rw[<-hp,show k-j=0 by omega];rfl);clear hp;go_wp2
   go_ret2
   exact Pe HN.out rfl
theorem Uu (w:World) (p q:Int):Calls prog 220 #[p,q] w (NumPost w (Q2 p q)):=by
 have HB:=zh (Qj w (o2 0 0));obtain⟨R,hR⟩:∃R,R=Q2 p q:=⟨_,rfl⟩
 rw[<-hR];by_cases h0:q=0
 ·have HR:=zh (show R= .error 7 from by rw[hR];unfold Q2;rw[if_pos h0]);have t0:(q==0)=true:=by rw[h0];rfl
  clear h0 hR;go_enter func220,ntmps220;go_wp2;refine zr (by simp[results,results220,go_sem]<;>rfl) ?_;exact QZ HR.out HB.out
 ·have t0:(q==0)=false:=by rw[beq_eq_false_iff_ne];exact h0
  by_cases hb: -4611686018427387904<=p/\p<=4611686018427387904/\ -4611686018427387904<=q/\q<=4611686018427387904
  ·obtain⟨b1,b2,b3,b4⟩:=hb;have HR:=zh (show JS p q=R from by rw[hR];unfold Q2;rw[if_neg h0,if_pos];simp[St];omega);have HC:=zh (KA (w.alloc (o2 0 0)) p q (by omega) (by omega) (by omega) (by omega) h0);clear h0 hR;go_enter func220,ntmps220;go_wp2_with fail
   refine HC.out.mono ?_;rw[HR.out];rintro e w1 ⟨rfl,hb⟩;obtain⟨hc,hf⟩:=QN hb;have hz:=hb.size;simp at hz;have HB1:=hbn HB hb;clear hb;go_wp2;refine zr (by simp[results,results220,go_sem,hc]<;>rfl) ?_;exact Qz (QD HB1.out zl _ _)
  ·have HR:=zh (show R= .error 6 from by rw[hR];unfold Q2;rw[if_neg h0,if_neg];simp[St];omega);have hcs:p< -4611686018427387904\/4611686018427387904<p\/((-4611686018427387904<=p/\p<=4611686018427387904)/\(q< -4611686018427387904\/4611686018427387904<q)):=by omega
   clear hb h0 hR;rcases hcs with c|c|⟨⟨c1,c2⟩,c|c⟩;all_goals
    go_enter func220,ntmps220;go_wp2;refine zr (by simp[results,results220,go_sem]<;>rfl) ?_;exact QZ HR.out HB.out
theorem Lg (w:World) (p q:Int):Calls prog 165 #[.agg #[p,q]] w (WholePost w (p,q)):=by
 have HB:=zh (Qj w (o2 p q));have HV:=zh (Q7 (w.alloc (o2 p q)) p q);cases hv:QT (p,q) with
 |false=>
  have HW:=zh (show Kq (p,q)=false from by unfold Kq;rw[hv];rfl);have HVV:=zh hv;clear hv;go_enter func165,ntmps165;go_wp2_with fail
  refine HV.out.mono ?_;rw[HVV.out];rintro e w1 ⟨rfl,hb⟩;have HB1:=hbn HB hb;clear hb;go_wp2
  go_ret2
  exact Tz HW.out HB1.out
 |true=>
  obtain⟨c,hc⟩:∃c,(q==1)=c:=⟨_,rfl⟩
  have hcw:Kq (p,q)=c:=by unfold Kq;rw[hv,<-hc,Bool.eq_iff_iff];simp
  have HW:=zh hcw;have HVV:=zh hv;clear hv hcw;cases c
  all_goals
   go_enter func165,ntmps165;go_wp2_with fail
   refine HV.out.mono ?_;rw[HVV.out];rintro e w1 ⟨rfl,hb⟩;have HB1:=hbn HB hb;obtain⟨hc,hf⟩:=QN hb;have hz:=hb.size;simp at hz;clear hb;go_wp2
   go_ret2
   first|exact Tz HW.out HB1.out|exact Mw HW.out HB1.out
theorem Lp (w:World) (x y:Int) (hx1: -4611686018427387904<=x) (hx2:x<=4611686018427387904) (hy1: -4611686018427387904<=y) (hy2:y<=4611686018427387904) (h0:y≠0):
  Calls prog 164 #[x,y] w fun e w'=>e= .returned (.int .i64 (Int.fdiv x y))/\w=w':=by
 obtain⟨T,hT⟩:∃T,T=x.tdiv y:=⟨_,rfl⟩
 obtain⟨M,hM⟩:∃M,M=x.tmod y:=⟨_,rfl⟩
 have hb:=XL (y:=y) hx1 hx2;have hm:=KV (x:=x) h0;have HS:=zh (GG (x:=x) (y:=y));have HL:=zh (GH (x:=x) (y:=y));rw[<-hT,<-hM] at HS HL;have HW:=zh (show wrap64 (x.tdiv y)=T from by rw[hT];exact IntWalk.wrap64_in _ (by omega));have HT:=zh (show x.tdiv y=T from hT.symm);have HM:=zh (show x.tmod y=M from hM.symm);have HP:=zh (show 0<=x->x/y=T/\x%y=M from fun h=>⟨by rw[hT,Int.tdiv_eq_ediv_of_nonneg h],by rw[hM,Int.tmod_eq_emod_of_nonneg h]⟩);have hs1:0<=x->0<=M:=fun h=>by rw[hM];exact Int.tmod_nonneg _ h
 have hs2:x<0->M<=0:=fun h=>by
  rw[hM];have:=Int.tmod_nonneg y (a:= -x) (by omega);rw[Int.neg_tmod] at this;omega
 rw[<-hT] at hb;rw[<-hM] at hm;obtain⟨hb1,hb2⟩:=hb;have hm1: -4611686018427387904<=M:=by omega
 have hm2:M<=4611686018427387904:=by omega
 clear hT hM hm;have hc:((0<=x/\0<y)\/(0<=x/\y<0)\/(x<0/\0<y)\/(x<0/\y<0))/\((M<=0/\0<=M)\/M<0\/0<M):=by omega
 obtain⟨hc,hm0⟩:=hc;have hfin:(M=0\/(0<=x/\0<y)\/(x<0/\y<0))\/(M≠0/\((0<=x/\y<0)\/(x<0/\0<y))):=by omega
 have HFIN:=zh hfin;clear hfin;rcases hc with⟨k1,k2⟩|⟨k1,k2⟩|⟨k1,k2⟩|⟨k1,k2⟩;all_goals
  rcases hm0 with⟨m0,m00⟩|m0|m0;all_goals
   first
   |(exfalso;have:=hs1 (by omega);omega;done)
   |(exfalso;have:=hs2 (by omega);omega;done)
   |skip
 all_goals
  have tm:(M !=0)=decide (M≠0):=by by_cases h:M=0<;>simp[h]
  first|rw[decide_eq_true (show M≠0 by omega)] at tm|rw[decide_eq_false (show¬M≠0 by omega)] at tm
  obtain⟨dx,hdx⟩:∃b,decide (x<0)=b:=⟨_,rfl⟩
  obtain⟨dy,hdy⟩:∃b,decide (y<0)=b:=⟨_,rfl⟩
  clear hs1 hs2;cases dx<;>cases dy
 all_goals
  have hdx2:=hdx;have hdy2:=hdy;simp only[decide_eq_true_eq,decide_eq_false_iff_not] at hdx2 hdy2;first|(exfalso;omega;done)|skip
 all_goals
  clear hdx2 hdy2;have e1:=HT.out;have e2:=HM.out;first|(have e3:=(HP.out k1).1;have e4:=(HP.out k1).2;skip)|skip
  go_enter func164,ntmps164;go_wp2
  go_ret
  first|exact⟨ZB ((HS.out (by omega)).1.symm),rfl⟩|exact⟨ZB ((HL.out (by omega) (by omega)).1.symm),rfl⟩
theorem OC (w:World) (s:ByteArray) (hs:s.size<=2000000000) (hx:Zm (QF s)=true):
  Calls prog 217 #[.string s,.int .i64 0] w (NumlPost w (Q0 (QF s))):=by
 obtain⟨R,hR⟩:∃R,R=Q0 (QF s):=⟨_,rfl⟩
 rw[<-hR];have hl:2<s.size:=by
  apply Classical.byContradiction;intro hc;rw[Xm (by omega)] at hx;cases hx
 rw[Kc hx] at hR;rw[XC hl,Bool.and_eq_true,Bool.and_eq_true,Bool.or_eq_true,beq_iff_eq,beq_iff_eq,beq_iff_eq] at hx;obtain⟨⟨h0,h1⟩,h2⟩:=hx;have hd16:KT s[2].toNat<16:=of_decide_eq_true h2;have hz0:((s[0].toNat:Int)==48)=true:=by rw[beq_iff_eq];omega
 have HD:=zh (fun W=>Z9 W s[2].toNat (Ge _));have hrl:=JH 16 ((QF s).drop 2);rw[List.length_drop,Qc] at hrl;have HRUN:=zh (fun W=>M9 W s hs 2 (by omega) 16 (.inr rfl));obtain⟨j,hj⟩:∃j,2+ZT 16 ((QF s).drop 2)=j:=⟨_,rfl⟩
 have HJ:=zh hj;have hj2:2<=j:=by omega
 have hj3:j<=s.size:=by omega
 have hbx:QF (s.extract 2 j)=((QF s).drop 2).take (ZT 16 ((QF s).drop 2)):=by rw[ZO,<-hj,Nat.add_sub_cancel_left]
 rw[hj,<-hbx] at hR;clear hj hrl hbx h2 h0;have hxs:(s.extract 2 j).size<=2000000000:=by rw[ByteArray.size_extract];omega
 have HNUM:=zh (fun W=>Gn W (s.extract 2 j) hxs 16 (.inr rfl));have hsl:=ZD s 2 (j:Int) 2 j rfl rfl hj2 hj3;have HB:=zh (((Below.refl w.heap.size w).alloc zl (o2 0 0)));clear hxs;have hR2:R=(j,match Km 16 (QF (s.extract 2 j)) 0 with|none=> .error 6|some n=>Q2 n 1):=hR;clear hR;have h1':((s[1].toNat:Int)==120)=true\/(((s[1].toNat:Int)==120)=false/\((s[1].toNat:Int)==88)=true):=by
  rcases h1 with h|h
  ·exact .inl (by rw[beq_iff_eq];omega)
  ·exact .inr ⟨by rw[beq_eq_false_iff_ne];omega,by rw[beq_iff_eq];omega⟩
 clear h1;cases hn:Km 16 (QF (s.extract 2 j)) 0 with
 |none=>
  rw[hn] at hR2;have HR:=zh hR2;have HN:=zh hn;clear hR2 hn;rcases h1' with h1|⟨h1,h1b⟩;all_goals
   go_enter func217,ntmps217;go_wp2_with fail
   refine(HD.out _).mono ?_;rintro e w1 ⟨rfl,rfl⟩;go_wp2_with fail
   refine(HRUN.out _).mono ?_;rw[HJ.out];rintro e w1 ⟨rfl,rfl⟩;go_wp2_with fail
   refine(HNUM.out _).mono ?_;rw[HN.out];rintro e w1 ⟨rfl,rfl⟩;go_wp2;refine zr (by simp[results,results217,go_sem]<;>rfl) ?_;exact G3 HR.out HB.out
 |some n=>
  rw[hn] at hR2;have HR:=zh hR2;have HN:=zh hn;clear hR2 hn;rcases h1' with h1|⟨h1,h1b⟩;all_goals
   go_enter func217,ntmps217;go_wp2_with fail
   refine(HD.out _).mono ?_;rintro e w1 ⟨rfl,rfl⟩;go_wp2_with fail
   refine(HRUN.out _).mono ?_;rw[HJ.out];rintro e w1 ⟨rfl,rfl⟩;go_wp2_with fail
   refine(HNUM.out _).mono ?_;rw[HN.out];rintro e w1 ⟨rfl,rfl⟩;go_wp2_with fail
   refine(Uu _ _ _).mono ?_;rintro e w1 ⟨rfl,hb⟩;have hz:=hb.size;simp at hz;have hb2:=hb.alloc (Nat.le_trans zl hb.size) (o2 (nP (Q2 (Kp (some n)) 1)) (nQ (Q2 (Kp (some n)) 1)));obtain⟨W2,hW2⟩:∃W2,W2=w1.alloc (o2 (nP (Q2 (Kp (some n)) 1)) (nQ (Q2 (Kp (some n)) 1))):=⟨_,rfl⟩
   rw[<-hW2] at hb2;have HB1:=hbn HB hb2;obtain⟨hc,hf⟩:=QN hb2;have c0:W2.cell? ⟨w.heap.size,0,none⟩=some (.int .i64 0):=(hc _ _ (by simp)).trans (by simp[go_sem]);have c1:W2.cell? ⟨w.heap.size,1,none⟩=some (.int .i64 0):=(hc _ _ (by simp)).trans (by simp[go_sem]);have f0:W2.frozen? ⟨w.heap.size,0,none⟩=false:=(hf _ _ (by simp)).trans (by simp[go_sem]);have f1:W2.frozen? ⟨w.heap.size,1,none⟩=false:=(hf _ _ (by simp)).trans (by simp[go_sem]);have d0:W2.cell? ⟨w1.heap.size,0,none⟩=some (.int .i64 (nP (Q2 (Kp (some n)) 1))):=by rw[hW2];exact QA (Qg _ _)
   have d1:W2.cell? ⟨w1.heap.size,1,none⟩=some (.int .i64 (nQ (Q2 (Kp (some n)) 1))):=by rw[hW2];exact QA (Qg _ _)
   clear hb hb2 hc hf;go_wp2;rw[<-hW2];have HW2:=zh hW2;clear hW2;refine QK mixed (by kernel_rfl) ?_;go_wp2;refine⟨by kernel_rfl,?_⟩;go_wp2;refine zr (by simp[results,results217,go_sem,c0,c1]<;>rfl) ?_;refine Ek HR.out (QD HB1.out.drew ?_ _ _);omega
theorem Rj (w:World) (s:ByteArray) (r n:Nat) (q:Int) (R:Nat×RR) (hs:s.size<=2000000000) (hF:s.size<=2\/LongWays s) (hP:NoWays s r)
  (h0:¬r=0) (hr1:r<=s.size) (hrun:RunsTo s 0 r) (hnum:NumTo (s.extract 0 r) n true) (hpow:PowTo 0 q) (hR:R=(r,Q2 n q)):Calls prog 217 #[s,(0:Int)] w (NumlPost w R):=by
 have HB:=zh (((Below.refl w.heap.size w).alloc zl (o2 0 0)));have hsl:=ZD s 0 (r:Int) 0 r rfl rfl (by omega) hr1;have HRUN:=zh hrun;have HR:=zh hR;have HNUM:=zh hnum;have HPOW:=zh hpow;clear hrun hR hnum hpow;rcases hP with hP|⟨hP,hP2|⟨hP2,hP3⟩⟩;all_goals
  try have hdp:=Z3 s[r+1].toNat
  rcases hF with hF|⟨hl,hF|⟨hF,⟨hF2,hF3⟩|⟨hF2,hF3|⟨hF3,hF4⟩⟩⟩⟩;all_goals
   try have hd99:=Z3 s[2].toNat
   go_enter func217,ntmps217;go_wp2_with (first|(go_at_call 241;refine(Z9 _ _ (Ge _)).mono ?_;rintro e w' ⟨rfl,rfl⟩)|(go_at_call 242;refine(HRUN.out _).mono ?_;rintro e w' ⟨rfl,rfl⟩)|(go_at_call 219;refine(HNUM.out _).mono ?_;rintro e w' ⟨rfl,rfl⟩)|(go_at_call 243;refine(HPOW.out _).mono ?_;rintro e w' ⟨rfl,rfl⟩))
   all_goals
    refine(Uu _ _ _).mono ?_;rintro e w1 ⟨rfl,hb⟩;have hz:=hb.size;simp at hz;have hb2:=hb.alloc (Nat.le_trans zl hb.size) (o2 (nP (Q2 n q)) (nQ (Q2 n q)));obtain⟨W2,hW2⟩:∃W2,W2=w1.alloc (o2 (nP (Q2 n q)) (nQ (Q2 n q))):=⟨_,rfl⟩
    rw[<-hW2] at hb2;have HB1:=hbn HB hb2;obtain⟨hc,hf⟩:=QN hb2;have c0:W2.cell? w=some (.int .i64 0):=(hc _ _ (by simp)).trans (by simp[go_sem]);have c1:W2.cell? ⟨w,1,none⟩=some (.int .i64 0):=(hc _ _ (by simp)).trans (by simp[go_sem]);have f0:W2.frozen? w=false:=(hf _ _ (by simp)).trans (by simp[go_sem]);have f1:W2.frozen? ⟨w,1,none⟩=false:=(hf _ _ (by simp)).trans (by simp[go_sem]);have d0:W2.cell? w1=some (.int .i64 (nP (Q2 n q))):=by rw[hW2];exact QA (Qg _ _)
    have d1:W2.cell? ⟨w1,1,none⟩=some (.int .i64 (nQ (Q2 n q))):=by rw[hW2];exact QA (Qg _ _)
    clear hb hb2 hc hf;go_wp2;rw[<-hW2];have HW2:=zh hW2;clear hW2;refine QK mixed (by kernel_rfl) ?_;go_wp2;refine⟨by kernel_rfl,?_⟩;go_wp2;refine zr (by simp[results,results217,go_sem,c0,c1]<;>rfl) ?_;refine Ek HR.out (QD HB1.out.drew ?_ _ _);omega
theorem Rh (w:World) (s X:ByteArray) (r e n:Nat) (q:Int) (R:Nat×RR) (hs:s.size<=2000000000) (hF:LongWays s)
  (h0:¬r=0) (hr1:r<=s.size) (he1:r+1<=e) (he2:e<=s.size) (hrun:RunsTo s 0 r) (hrun1:RunsTo s ((r:Int)+1) e)
  (hl1:r+1<s.size) (hp1:((s[r].toNat:Int)==46)=true) (hp2:KT s[r+1].toNat<10)
  (had:∀W,(Op.stringOp .add (s.extract 0 r) (s.extract (r+1) e)).run prog W= .ok (.string X) W)
  (h9:¬9<(e:Int)-((r:Int)+1)) (hnum:NumTo X n true) (hpow:PowTo ((e:Int)-((r:Int)+1)) q) (hR:R=(e,Q2 n q)):Calls prog 217 #[s,(0:Int)] w (NumlPost w R):=by
 have HB:=zh (((Below.refl w.heap.size w).alloc zl (o2 0 0)));have hsl:=ZD s 0 (r:Int) 0 r rfl rfl (by omega) hr1;have hsl2:=ZD s ((r:Int)+1) (e:Int) (r+1) e (by omega) rfl (by omega) (by omega);have HRUN:=zh hrun;have HRUN1:=zh hrun1;have HR:=zh hR;have HNUM:=zh hnum;have hdp:=Z3 s[r+1].toNat;have HPOW:=zh hpow;clear hrun hrun1 hR hnum hpow;obtain⟨hl,hF|⟨hF,⟨hF2,hF3⟩|⟨hF2,hF3|⟨hF3,hF4⟩⟩⟩⟩:=hF;all_goals
  try have hd99:=Z3 s[2].toNat
  go_enter func217,ntmps217;go_wp2_with (first|(go_at_call 241;refine(Z9 _ _ (Ge _)).mono ?_;rintro e w' ⟨rfl,rfl⟩))
  refine(HRUN.out _).mono ?_;rintro e w' ⟨rfl,rfl⟩;go_wp2_with (first|(go_at_call 241;refine(Z9 _ _ (Ge _)).mono ?_;rintro e w' ⟨rfl,rfl⟩))
  refine(HRUN1.out _).mono ?_;rintro e w' ⟨rfl,rfl⟩;go_wp2_with (first|(go_at_call 219;refine(HNUM.out _).mono ?_;rintro e w' ⟨rfl,rfl⟩)|(go_at_call 243;refine(HPOW.out _).mono ?_;rintro e w' ⟨rfl,rfl⟩))
  refine(Uu _ _ _).mono ?_;rintro e w1 ⟨rfl,hb⟩;have hz:=hb.size;simp at hz;have hb2:=hb.alloc (Nat.le_trans zl hb.size) (o2 (nP (Q2 n q)) (nQ (Q2 n q)));obtain⟨W2,hW2⟩:∃W2,W2=w1.alloc (o2 (nP (Q2 n q)) (nQ (Q2 n q))):=⟨_,rfl⟩
  rw[<-hW2] at hb2;have HB1:=hbn HB hb2;obtain⟨hc,hf⟩:=QN hb2;have c0:W2.cell? w=some (.int .i64 0):=(hc _ _ (by simp)).trans (by simp[go_sem]);have c1:W2.cell? ⟨w,1,none⟩=some (.int .i64 0):=(hc _ _ (by simp)).trans (by simp[go_sem]);have f0:W2.frozen? w=false:=(hf _ _ (by simp)).trans (by simp[go_sem]);have f1:W2.frozen? ⟨w,1,none⟩=false:=(hf _ _ (by simp)).trans (by simp[go_sem]);have d0:W2.cell? w1=some (.int .i64 (nP (Q2 n q))):=by rw[hW2];exact QA (Qg _ _)
  have d1:W2.cell? ⟨w1,1,none⟩=some (.int .i64 (nQ (Q2 n q))):=by rw[hW2];exact QA (Qg _ _)
  clear hb hb2 hc hf;go_wp2;rw[<-hW2];have HW2:=zh hW2;clear hW2;refine QK mixed (by kernel_rfl) ?_;go_wp2;refine⟨by kernel_rfl,?_⟩;go_wp2;refine zr (by simp[results,results217,go_sem,c0,c1]<;>rfl) ?_;refine Ek HR.out (QD HB1.out.drew ?_ _ _);omega
theorem BS (s:ByteArray) (hs:s.size<=2000000000) (a:Nat) (ha:a<=s.size) (r:Nat) (h:a+ZT 10 ((QF s).drop a)=r):RunsTo s a r:=fun W=>by
 have:=M9 W s hs a (by omega) 10 (.inl rfl);rw[h] at this;exact this
theorem Uh {s:ByteArray} (hs:s.size<=2000000000) (h:Km 10 (QF s) 0=none):NumTo s 0 false:=fun W=>by
 have:=Gn W s hs 10 (.inl rfl);rw[h] at this;exact this
theorem YZ {s:ByteArray} (hs:s.size<=2000000000) {n:Nat} (h:Km 10 (QF s) 0=some n):NumTo s n true:=fun W=>by
 have:=Gn W s hs 10 (.inl rfl);rw[h] at this;exact this
theorem OD (w:World) (s:ByteArray) (hs:s.size<=2000000000) (hx:Zm (QF s)=false):
  Calls prog 217 #[.string s,.int .i64 0] w (NumlPost w (Q0 (QF s))):=by
 obtain⟨R,hR⟩:∃R,R=Q0 (QF s):=⟨_,rfl⟩
 rw[<-hR];rw[Kd hx] at hR;have hF:=C7 hx;have hrl:=JH 10 (QF s);rw[Qc] at hrl;obtain⟨r,hr⟩:∃r,ZT 10 (QF s)=r:=⟨_,rfl⟩
 have hrun:RunsTo s 0 r:=BS s hs 0 (by omega) r (by rw[Nat.zero_add];exact hr);rw[hr] at hR hrl;by_cases h0:r=0
 ·subst h0;rw[if_pos rfl] at hR;exact Rl w s R hs hF hrun hR
 ·rw[if_neg h0] at hR;have hbx:QF (s.extract 0 r)=(QF s).take r:=by rw[ZO,List.drop_zero,Nat.sub_zero]
  have hxz:(s.extract 0 r).size=r:=by rw[ByteArray.size_extract];omega
  by_cases hp:ZQ (QF s) r=0
  ·rw[if_pos hp,<-hbx] at hR;have hP:=Aq hp;have hR2:R=(r,match Km 10 (QF (s.extract 0 r)) 0 with|none=> .error 6|some n=>Q2 n ((10^0:Nat):Int)):=by
    rw[hR];unfold P3;cases Km 10 (QF (s.extract 0 r)) 0<;>rfl
   cases hn:Km 10 (QF (s.extract 0 r)) 0 with
   |none=>
    rw[hn] at hR2;exact Rk w s r R hs hF hP h0 hrl hrun (Uh (by omega) hn) hR2
   |some n=>
    rw[hn] at hR2;exact Rj w s r n _ R hs hF hP h0 hrl hrun (YZ (by omega) hn) (fun W=>UV W 0 (by decide)) hR2
  ·rw[if_neg hp] at hR;obtain⟨hl1,hp1,hp2,hp3⟩:=Yb hp;rw[hp3] at hR;have hrl1:=JH 10 ((QF s).drop (r+1));rw[List.length_drop,Qc] at hrl1;obtain⟨P,hP⟩:∃P,ZT 10 ((QF s).drop (r+1))=P:=⟨_,rfl⟩
   rw[hP] at hrl1 hR;obtain⟨e,he⟩:∃e,r+1+P=e:=⟨_,rfl⟩
   have hrun1:RunsTo s ((r:Int)+1) e:=BS s hs (r+1) (by omega) e (by rw[hP];exact he);have hby:QF (s.extract (r+1) e)=((QF s).drop (r+1)).take P:=by rw[ZO,<-he,Nat.add_sub_cancel_left]
   have hyz:(s.extract (r+1) e).size=P:=by rw[ByteArray.size_extract];omega
   have had:=Jx (s.extract 0 r) (s.extract (r+1) e) (by omega);rw[he,<-hbx,<-hby,<-KC] at hR;have hXz:(s.extract 0 r++s.extract (r+1) e).size=r+P:=by rw[ByteArray.size_append,hxz,hyz]
   have hR2:R=(e,match Km 10 (QF (s.extract 0 r++s.extract (r+1) e)) 0 with|none=> .error 6|some n=>if 9<P then .error 6 else Q2 n ((10^P:Nat):Int)):=by
    rw[hR];unfold P3;cases Km 10 (QF (s.extract 0 r++s.extract (r+1) e)) 0<;>rfl
   have hF2:LongWays s:=by
    rcases hF with hF|hF
    ·exfalso;omega
    ·exact hF
   have hPP:(e:Int)-((r:Int)+1)=(P:Nat):=by omega
   cases hn:Km 10 (QF (s.extract 0 r++s.extract (r+1) e)) 0 with
   |none=>
    rw[hn] at hR2;exact Ri w s _ r e R hs hF2 h0 hrl (by omega) (by omega) hrun hrun1 hl1 hp1 hp2 had (Uh (by omega) hn) hR2
   |some n=>
    rw[hn] at hR2;by_cases h9:9<P
    ·exact RT w s _ r e n R hs hF2 h0 hrl (by omega) (by omega) hrun hrun1 hl1 hp1 hp2 had (by omega) (YZ (by omega) hn) (hR2.trans (congrArg _ (if_pos h9)))
    ·exact Rh w s _ r e n _ R hs hF2 h0 hrl (by omega) (by omega) hrun hrun1 hl1 hp1 hp2 had (by omega) (YZ (by omega) hn)
      (fun W=>by rw[hPP];exact UV W P (by omega)) (hR2.trans (congrArg _ (if_neg h9)))
theorem NC (w:World) (s:ByteArray) (hs:s.size<=2000000000):Calls prog 217 #[s,(0:Int)] w (NumlPost w (Q0 (QF s))):=by
 cases hx:Zm (QF s) with
 |true=>exact OC w s hs hx
 |false=>exact OD w s hs hx
def SlashTo (s:ByteArray) (r:Int):Prop:=∀W,Calls prog 216 #[s] W fun e w'=>e= .returned (.int .i64 r)/\W=w'
def DigTo (s:ByteArray) (b:Bool):Prop:=∀W,Calls prog 218 #[s] W fun e w'=>e= .returned (.bool b)/\W=w'
theorem Xz (w:World) (s:ByteArray) (j:Nat) (M R:RR) (hs:s.size<=2000000000) (hsl:SlashTo s (-1))
  (hnum:∀W,Calls prog 217 #[s,(0:Int)] W (NumlPost W (j,M)))
  (hR:R=if j=0\/j<s.size then .error 4 else M):Calls prog 160 #[s] w (NumPost w R):=by
 have HB:=zh (((Below.refl w.heap.size w).alloc zl (o2 0 0)));have HSL:=zh hsl;have HNUM:=zh hnum;clear hsl hnum;have hc:(((j:Int)==0)=true/\R= .error 4)\/(((j:Int)==0)=false/\j<s.size/\R= .error 4)\/(((j:Int)==0)=false/\¬j<s.size/\R=M):=by
  by_cases h0:j=0
  ·exact .inl ⟨by rw[beq_iff_eq];omega,by rw[hR,if_pos (.inl h0)]⟩
  ·by_cases h1:j<s.size
   ·exact .inr (.inl ⟨by rw[beq_eq_false_iff_ne];omega,h1,by rw[hR,if_pos (.inr h1)]⟩)
   ·exact .inr (.inr ⟨by rw[beq_eq_false_iff_ne];omega,h1,by rw[hR,if_neg (by omega)]⟩)
 clear hR;rcases hc with⟨h0,hR⟩|⟨h0,h1,hR⟩|⟨h0,h1,hR⟩;all_goals
  have HR:=zh hR;clear hR;go_enter func160,ntmps160;go_wp2_with fail
  refine(HSL.out _).mono ?_;rintro e w' ⟨rfl,rfl⟩;go_wp2_with fail
  refine(HNUM.out _).mono ?_;rintro e w1 ⟨rfl,hb⟩;have hz:=hb.size;simp at hz;have HB1:=hbn HB (hb.alloc (Nat.le_trans zl hb.size) (o2 (nP M) (nQ M)));obtain⟨hc,hf⟩:=QN (hb.alloc (Nat.le_trans zl hb.size) (o2 (nP M) (nQ M)));have c0:(w1.alloc (.cells #[.int .i64 (nP M),.int .i64 (nQ M)] 23)).cell? w=some (.int .i64 0):=(hc _ _ (by simp)).trans (by simp[go_sem]);have c1:(w1.alloc (.cells #[.int .i64 (nP M),.int .i64 (nQ M)] 23)).cell? ⟨w,1,none⟩=some (.int .i64 0):=(hc _ _ (by simp)).trans (by simp[go_sem]);have f0:(w1.alloc (.cells #[.int .i64 (nP M),.int .i64 (nQ M)] 23)).frozen? w=false:=(hf _ _ (by simp)).trans (by simp[go_sem]);have f1:(w1.alloc (.cells #[.int .i64 (nP M),.int .i64 (nQ M)] 23)).frozen? ⟨w,1,none⟩=false:=(hf _ _ (by simp)).trans (by simp[go_sem]);clear hb hc hf;go_wp2;refine zr (by simp[results,results160,go_sem,c0,c1]<;>rfl) ?_;first|exact QZ HR.out (by first|exact HB1.out|exact HB1.out.drew|exact below_drewN HB1.out _|exact QD HB1.out (by simp<;>omega) _ _|exact QD HB1.out zl _ _|exact QD HB1.out.drew (by simp<;>omega) _ _|exact QD HB1.out.drew zl _ _|exact QD (below_drewN HB1.out _) (by simp<;>omega) _ _)|(rw[HR.out];exact Qz (by first|exact HB1.out|exact HB1.out.drew|exact below_drewN HB1.out _|exact QD HB1.out (by simp<;>omega) _ _|exact QD HB1.out zl _ _|exact QD HB1.out.drew (by simp<;>omega) _ _|exact QD HB1.out.drew zl _ _|exact QD (below_drewN HB1.out _) (by simp<;>omega) _ _))
def NumbTo (s:ByteArray) (R:Option Nat):Prop:=∀W,Calls prog 219 #[s,.int .i64 10] W (OptPost W R)
theorem GM (w:World) (s:ByteArray) (k:Nat) (R:RR) (hs:s.size<=2000000000) (hk:k<s.size) (hsl:SlashTo s k) (hd:DigTo (s.extract 0 k) false\/(DigTo (s.extract 0 k) true/\DigTo (s.extract (k+1) s.size) false))
  (hR:R= .error 4):Calls prog 160 #[s] w (NumPost w R):=by
 have HB:=zh (((Below.refl w.heap.size w).alloc zl (o2 0 0)));have HSL:=zh hsl;have HR:=zh hR;have hs1:=PA s k k rfl (by omega);have hs2:=YO s ((k:Int)+1) (k+1) (by omega) (by omega);clear hsl hR;rcases hd with hd|⟨hd,hd2⟩
 ·have HD:=zh hd;clear hd;go_enter func160,ntmps160;go_wp2_with fail
  refine(HSL.out _).mono ?_;rintro e w' ⟨rfl,rfl⟩;go_wp2_with fail
  refine(HD.out _).mono ?_;rintro e w' ⟨rfl,rfl⟩;go_wp2_with fail
  refine zr (by simp[results,results160,go_sem]<;>rfl) ?_;exact QZ HR.out (by first|exact HB.out|exact HB.out.drew|exact below_drewN HB.out _|exact QD HB.out (by simp<;>omega) _ _|exact QD HB.out zl _ _|exact QD HB.out.drew (by simp<;>omega) _ _|exact QD HB.out.drew zl _ _|exact QD (below_drewN HB.out _) (by simp<;>omega) _ _)
 ·have HD:=zh hd;have HD2:=zh hd2;clear hd hd2;go_enter func160,ntmps160;go_wp2_with fail
  refine(HSL.out _).mono ?_;rintro e w' ⟨rfl,rfl⟩;go_wp2_with fail
  refine(HD.out _).mono ?_;rintro e w' ⟨rfl,rfl⟩;go_wp2_with fail
  refine(HD2.out _).mono ?_;rintro e w' ⟨rfl,rfl⟩;go_wp2_with fail
  refine zr (by simp[results,results160,go_sem]<;>rfl) ?_;exact QZ HR.out (by first|exact HB.out|exact HB.out.drew|exact below_drewN HB.out _|exact QD HB.out (by simp<;>omega) _ _|exact QD HB.out zl _ _|exact QD HB.out.drew (by simp<;>omega) _ _|exact QD HB.out.drew zl _ _|exact QD (below_drewN HB.out _) (by simp<;>omega) _ _)
theorem X0 (w:World) (s:ByteArray) (k:Nat) (R:RR) (hs:s.size<=2000000000) (hk:k<s.size) (hsl:SlashTo s k) (hd:DigTo (s.extract 0 k) true) (hd2:DigTo (s.extract (k+1) s.size) true)
  (A B:Option Nat) (ha:NumbTo (s.extract 0 k) A) (hb:NumbTo (s.extract (k+1) s.size) B) (hB:∀b,B=some b->b<=4611686018427387904)
  (hR:R=match A,B with|some a,some b=>if b=0 then .error 6 else Q2 a b|_,_=> .error 6):Calls prog 160 #[.string s] w (NumPost w R):=by
 have HB:=zh (((Below.refl w.heap.size w).alloc zl (o2 0 0)));have HSL:=zh hsl;have hs1:=PA s k k rfl (by omega);have hs2:=YO s ((k:Int)+1) (k+1) (by omega) (by omega);have HD:=zh hd;have HD2:=zh hd2;have HA:=zh ha;have HBB:=zh hb;clear hsl hd hd2 ha hb;have hc:(R= .error 6/\(A=none\/(∃a,A=some a/\B=none)\/(∃a,A=some a/\B=some 0)))\/∃a b,A=some a/\B=some b/\b≠0/\R=Q2 a b:=by
  rcases A with _|a
  ·exact .inl ⟨hR,.inl rfl⟩
  ·rcases B with _|b
   ·exact .inl ⟨hR,.inr (.inl ⟨a,rfl,rfl⟩)⟩
   ·by_cases hb0:b=0
    ·subst hb0;exact .inl ⟨hR,.inr (.inr ⟨a,rfl,rfl⟩)⟩
    ·exact .inr ⟨a,b,rfl,rfl,hb0,hR.trans (if_neg hb0)⟩
 clear hR;rcases hc with⟨hR,hc⟩|⟨a,b,rfl,rfl,hb0,hR⟩
 ·have HR:=zh hR;clear hR;rcases hc with rfl|⟨a,rfl,rfl⟩|⟨a,rfl,rfl⟩;all_goals
   go_enter func160,ntmps160;go_wp2_with fail
   refine(HSL.out _).mono ?_;rintro e w' ⟨rfl,rfl⟩;go_wp2_with fail
   refine(HD.out _).mono ?_;rintro e w' ⟨rfl,rfl⟩;go_wp2_with fail
   refine(HD2.out _).mono ?_;rintro e w' ⟨rfl,rfl⟩;go_wp2_with fail
   refine(HA.out _).mono ?_;rintro e w' ⟨rfl,rfl⟩;go_wp2_with fail
   refine(HBB.out _).mono ?_;rintro e w' ⟨rfl,rfl⟩;go_wp2_with fail
   refine zr (by simp[results,results160,go_sem]<;>rfl) ?_;exact QZ HR.out (by first|exact HB.out|exact HB.out.drew|exact below_drewN HB.out _|exact QD HB.out (by simp<;>omega) _ _|exact QD HB.out zl _ _|exact QD HB.out.drew (by simp<;>omega) _ _|exact QD HB.out.drew zl _ _|exact QD (below_drewN HB.out _) (by simp<;>omega) _ _)
 ·have HR:=zh hR;have hbb:(Kp (some b)==0)=false:=by show((b:Int)==0)=false;rw[beq_eq_false_iff_ne];omega
  clear hR hB hb0;go_enter func160,ntmps160;go_wp2_with fail
  refine(HSL.out _).mono ?_;rintro e w' ⟨rfl,rfl⟩;go_wp2_with fail
  refine(HD.out _).mono ?_;rintro e w' ⟨rfl,rfl⟩;go_wp2_with fail
  refine(HD2.out _).mono ?_;rintro e w' ⟨rfl,rfl⟩;go_wp2_with fail
  refine(HA.out _).mono ?_;rintro e w' ⟨rfl,rfl⟩;go_wp2_with fail
  refine(HBB.out _).mono ?_;rintro e w' ⟨rfl,rfl⟩;go_wp2_with fail
  refine(Uu _ _ _).mono ?_;rintro e w1 ⟨rfl,hb⟩;obtain⟨hc,hf⟩:=QN hb;have HB1:=hbn HB hb;go_wp2;refine zr (by simp[results,results160,go_sem,hc]<;>rfl) ?_;have hR2:R=Q2 a b:=HR.out;rw[hR2];exact Qz (by first|exact HB1.out|exact HB1.out.drew|exact below_drewN HB1.out _|exact QD HB1.out (by simp<;>omega) _ _|exact QD HB1.out zl _ _|exact QD HB1.out.drew (by simp<;>omega) _ _|exact QD HB1.out.drew zl _ _|exact QD (below_drewN HB1.out _) (by simp<;>omega) _ _)
theorem OF (s:ByteArray) (hs:s.size<=2000000000) {r:Int} (h:Gp 0 (ZI (QF s))=r):SlashTo s r:=fun W=>h▸Lj W s hs
theorem LS (s:ByteArray) (hs:s.size<=2000000000) {b:Bool} (h:JA (QF s)=b):DigTo s b:=fun W=>h▸OJ W s hs
theorem Ba (s:ByteArray) (hs:s.size<=2000000000):NumbTo s (Km 10 (QF s) 0):=fun W=>Gn W s hs 10 (.inl rfl)
theorem Fh (w:World) (s:ByteArray) (hs:s.size<=2000000000):Calls prog 160 #[.string s] w (NumPost w (Q4 (QF s))):=by
 obtain⟨R,hR⟩:∃R,R=Q4 (QF s):=⟨_,rfl⟩
 rw[<-hR];unfold Q4 at hR;cases hk:ZI (QF s) with
 |none=>
  rw[hk] at hR;obtain⟨N,hN⟩:∃N,Q0 (QF s)=N:=⟨_,rfl⟩
  have hnum:∀W,Calls prog 217 #[.string s,.int .i64 0] W (NumlPost W N):=fun W=>hN▸NC W s hs;rw[hN,Qc] at hR;obtain⟨j,M⟩:=N;exact Xz w s j M R hs (OF s hs (by rw[hk];rfl)) hnum hR
 |some k=>
  rw[hk] at hR;have hR:R=Z6 ((QF s).take k) ((QF s).drop (k+1)):=hR;obtain⟨h1,_,_⟩:=Ku hk;rw[Qc] at h1;have hsl:SlashTo s k:=OF s hs (by rw[hk];show((0+k:Nat):Int)=k;omega);rw[<-P5,<-Un] at hR;have z1:(s.extract 0 k).size<=2000000000:=by rw[Ux s (by omega)];omega
  have z2:(s.extract (k+1) s.size).size<=2000000000:=by rw[DF];omega
  unfold Z6 at hR;cases d1:JA (QF (s.extract 0 k)) with
  |false=>
   rw[d1,Bool.false_and,if_neg (by decide)] at hR;exact GM w s k R hs h1 hsl (.inl (LS _ z1 d1)) hR
  |true=>
   cases d2:JA (QF (s.extract (k+1) s.size)) with
   |false=>
    rw[d1,d2,if_neg (by decide)] at hR;exact GM w s k R hs h1 hsl (.inr ⟨LS _ z1 d1,LS _ z2 d2⟩) hR
   |true=>
    rw[d1,d2,if_pos (by decide)] at hR;exact X0 w s k R hs h1 hsl (LS _ z1 d1) (LS _ z2 d2) _ _ (Ba _ z1) (Ba _ z2) (fun b hb=>RS z2 hb) hR
def UnsTo (s:ByteArray) (M:RR):Prop:=∀W,Calls prog 160 #[s] W (NumPost W M)
theorem Bi (s:ByteArray) (hs:s.size<=2000000000) (M:RR) (h:Q4 (QF s)=M):UnsTo s M:=fun W=>h▸Fh W s hs
theorem Ln (w:World) (s:ByteArray) (hs:s.size<=2000000000):Calls prog 98 #[s] w (NumPost w (Je (QF s))):=by
 obtain⟨R,hR⟩:∃R,R=Je (QF s):=⟨_,rfl⟩
 rw[<-hR];unfold Je at hR;have HB:=zh (((Below.refl w.heap.size w).alloc zl (o2 0 0)));have HTRIM:=zh (fun W=>Bl W s hs);obtain⟨T,hT⟩:∃T,T=Ys (QF s):=⟨_,rfl⟩
 have htl:T.length<=2000000000:=by rw[hT];exact Nat.le_trans (T3 _) (by rw[Qc];exact hs)
 rw[<-hT] at HTRIM hR;have HR:=zh hR;clear hR hT;go_enter func98,ntmps98;go_wp2_with fail
 refine(HTRIM.out _).mono ?_;rintro e w1 ⟨⟨t,rfl,ht⟩,hb⟩;have hts:t.size<=2000000000:=by rw[<-Qc,ht];exact htl
 have HR2:=zh (show R=Uy (QF t) from by rw[ht];exact HR.out);clear HR ht htl HTRIM;have hz1:=hb.size;simp at hz1;obtain⟨hc1,hf1⟩:=QN hb;have q0:w1.cell? w=some (.int .i64 0):=(hc1 _ _ (by simp)).trans (by simp[go_sem]);have q1:w1.cell? ⟨w,1,none⟩=some (.int .i64 0):=(hc1 _ _ (by simp)).trans (by simp[go_sem]);have p0:w1.frozen? w=false:=(hf1 _ _ (by simp)).trans (by simp[go_sem]);have p1:w1.frozen? ⟨w,1,none⟩=false:=(hf1 _ _ (by simp)).trans (by simp[go_sem]);have HB1:=hbn HB hb;clear hb hc1 hf1;have hways:((!t.toList.isEmpty)=false/\∃M,UnsTo t M/\R=M/\Good M)\/((!t.toList.isEmpty)=true/\∃h:0<t.size,(((t[0].toNat:Int)==45)=false/\∃M,UnsTo t M/\R=M/\Good M)\/(((t[0].toNat:Int)==45)=true/\∃M,UnsTo (t.extract 1 t.size) M/\R=G5 M/\Good M)):=by
  by_cases h0:0<t.size
  ·refine .inr ⟨by simpa using Gf h0,h0,?_⟩;have hbt:=Q3 t 0 h0;rw[List.drop_zero] at hbt;have hr:=HR2.out;rw[hbt,KW] at hr;have e0:=Zi t[0] 45;by_cases hc:t[0].toNat=45
   ·rw[if_pos hc] at hr;exact .inr ⟨e0.trans (decide_eq_true hc),_,Bi _ (by rw[DF];omega) _ (by rw[Un]),hr,Zh _⟩
   ·rw[if_neg hc,<-hbt] at hr;exact .inl ⟨e0.trans (decide_eq_false hc),_,Bi _ hts _ rfl,hr,Zh _⟩
  ·refine .inl ⟨by simpa using K5 (by omega),_,Bi t hts _ rfl,?_,Zh _⟩;have hbt:QF t=[]:=List.eq_nil_of_length_eq_zero (by rw[Qc];omega);have hr:=HR2.out;rw[hbt] at hr ⊢;exact hr
 clear HR2;rcases hways with⟨h0,M,hU,hM,hg⟩|⟨h0,hl,⟨h1,M,hU,hM,hg⟩|⟨h1,M,hU,hM,hg⟩⟩
 case' inr.inr=>have hsl:=YO t 1 1 rfl (by omega)
 all_goals
  have hgb:=Jv hg;obtain⟨g1,g2,g3⟩:=hgb;have HU:=zh hU;have HM:=zh hM;clear hU hM;rcases XD hg with⟨hE,hc⟩|⟨hE, -,hc⟩;all_goals
   have HC:=zh hc;clear hg hc;go_wp2_with fail
   refine(HU.out _).mono ?_;rintro e w2 ⟨rfl,hb⟩;have hz2:=hb.size;obtain⟨hc2,hf2⟩:=QN hb;have c0:∀x y,(w2.alloc (.cells #[x,y] 23)).cell? w=some (.int .i64 0):=fun x y=>(QH (by omega)).trans ((hc2 _ _ (by omega)).trans q0);have c1:∀x y,(w2.alloc (.cells #[x,y] 23)).cell? ⟨w,1,none⟩=some (.int .i64 0):=fun x y=>(QH (by omega)).trans ((hc2 _ _ (by omega)).trans q1);have f0:∀x y,(w2.alloc (.cells #[x,y] 23)).frozen? w=false:=fun x y=>(QJ (by omega)).trans ((hf2 _ _ (by omega)).trans p0);have f1:∀x y,(w2.alloc (.cells #[x,y] 23)).frozen? ⟨w,1,none⟩=false:=fun x y=>(QJ (by omega)).trans ((hf2 _ _ (by omega)).trans p1);have HB2:=hbn HB1 hb;clear hb hc2 hf2;go_wp2;refine zr (by simp[results,results98,go_sem,c0,c1]<;>rfl) ?_;have HB3:=fun x y=>zh (HB2.out.alloc (by omega) (.cells #[x,y] 23));obtain⟨a,ha⟩:=HC.out;have hM:=HM.out;rw[ha] at hM;first
   |exact Ke hM ha (QD (HB3 _ _).out zl _ _)
   |(rw[ha];exact JI hM (QD (HB3 _ _).out zl _ _))
theorem Fx (w:World) (p q:Int) (s:ByteArray) (r:Int):Calls prog 52 #[.agg #[.int .i64 2,p,q,s,r]] w (NumPost w (if QT (p,q) then .ok (p,q) else .error 8)):=by
 cases hv:QT (p,q)
 all_goals
  have HV:=zh (fun W=>(hv▸Q7 W p q:Calls prog 81 #[.agg #[p,q]] W (BoolPost W _)));clear hv;go_enter func52,ntmps52;go_wp2_with fail
  refine(HV.out _).mono ?_;rintro e w1 ⟨rfl,hb⟩;obtain⟨hc,hf⟩:=QN hb;have HB1:=hbn (QE _ _ _) hb;go_wp2;refine zr (by simp[results,results52,go_sem,hc]<;>rfl) ?_;first
  |exact QZ rfl (by first|exact HB1.out|exact QD HB1.out (by simp<;>omega) _ _)
  |exact JI rfl (by first|exact HB1.out|exact QD HB1.out (by simp<;>omega) _ _)
theorem Fy (w:World) (p q:Int) (s:ByteArray) (r:Int) (hs:s.size<=2000000000):Calls prog 52 #[.agg #[.int .i64 3,p,q,s,r]] w (NumPost w (BX (Je (QF s)))):=by
 have hp:=(fun W=>Ln W s hs)
 have hg:Good (Je (QF s)):=Uk _;obtain⟨M,hM⟩:∃M,Je (QF s)=M:=⟨_,rfl⟩
 rw[hM] at hp hg ⊢;have HPARSE:=zh hp;clear hp hM;rcases XD hg with⟨hE,hc⟩|⟨hE, -,hc⟩;all_goals
  have HC:=zh hc;have hE2:=RU hE;clear hc hg hE;go_enter func52,ntmps52;go_wp2_with fail
  refine(HPARSE.out _).mono ?_;rintro e w1 ⟨rfl,hb⟩;have hz:=hb.size;simp at hz;obtain⟨hc,hf⟩:=QN hb;have c0:∀x y,(w1.alloc (.cells #[x,y] 23)).cell? ⟨w+1,0,none⟩=some (.int .i64 0):=fun x y=>(QH (by omega)).trans ((hc _ _ (by simp<;>omega)).trans (by simp[go_sem]));have c1:∀x y,(w1.alloc (.cells #[x,y] 23)).cell? ⟨w+1,1,none⟩=some (.int .i64 0):=fun x y=>(QH (by omega)).trans ((hc _ _ (by simp<;>omega)).trans (by simp[go_sem]));have f0:∀x y,(w1.alloc (.cells #[x,y] 23)).frozen? ⟨w+1,0,none⟩=false:=fun x y=>(QJ (by omega)).trans ((hf _ _ (by simp<;>omega)).trans (by simp[go_sem]));have f1:∀x y,(w1.alloc (.cells #[x,y] 23)).frozen? ⟨w+1,1,none⟩=false:=fun x y=>(QJ (by omega)).trans ((hf _ _ (by simp<;>omega)).trans (by simp[go_sem]));have HB2:=fun x y=>zh ((QC (QE _ _ _) hb).alloc (by omega) (.cells #[x,y] 23));clear hb hc hf;go_wp2;refine zr (by simp[results,results52,go_sem,c0,c1]<;>rfl) ?_;have hc:=HC.out;clear HC;obtain⟨a,ha⟩:=hc;first
  |exact QZ (by rw[ha];rfl) (QD (HB2 _ _).out (by omega) _ _)
  |(rw[ha];exact JI rfl (QD (HB2 _ _).out (by omega) _ _))
theorem EG (w:World) (k p q:Int) (s:ByteArray) (r:Int) (h2:(k==2)=false) (h3:(k==3)=false):Calls prog 52 #[.agg #[k,p,q,s,r]] w (NumPost w (.error 8)):=by
 go_enter func52,ntmps52;go_wp2;refine zr (by simp[results,results52,go_sem]<;>rfl) ?_;exact QZ rfl (by first|exact QE _ _ _|exact QD (QE _ _ _) (by simp<;>omega) _ _)
theorem DS (w:World) (k p q:Int) (s:ByteArray) (r:Int) (hs:s.size<=2000000000):Calls prog 52 #[.agg #[k,p,q,s,r]] w (NumPost w (ZW ⟨k,p,q,s,r⟩)):=by
 unfold ZW;by_cases h2:k=2
 ·subst h2;exact Fx w p q s r
 ·by_cases h3:k=3
  ·subst h3;exact Fy w p q s r hs
  ·rw[if_neg h2,if_neg h3];exact EG w k p q s r (by rw[beq_eq_false_iff_ne];exact h2) (by rw[beq_eq_false_iff_ne];exact h3)
theorem S6 (w:World) (p q p' q':Int):Calls prog 99 #[.agg #[p,q],.agg #[p',q']] w (NumPost w (La (p,q) (p',q'))):=by
 have HB:=zh (QM w (o2 p q) (o2 p' q') (o2 0 0));have HV1:=zh (Q7 (((w.alloc (o2 p q)).alloc (o2 p' q')).alloc (o2 0 0)) p q);have HV2:=zh (fun W=>Q7 W p' q');obtain⟨R,hR⟩:∃R,R=La (p,q) (p',q'):=⟨_,rfl⟩
 rw[<-hR];cases hv:QT (p,q) with
 |false=>
  have HR:=zh (show R= .error 2 from by rw[hR];unfold La YI;rw[hv];rfl);have HVV:=zh hv;clear hv hR;go_enter func99,ntmps99;go_wp2_with fail
  refine HV1.out.mono ?_;rw[HVV.out];rintro e w1 ⟨rfl,hb⟩;have HB1:=hbn HB hb;have HW1:=zh hb;obtain⟨hc,hf⟩:=QN hb;have hz:=hb.size;simp at hz;clear hb;go_wp2;refine zr (by simp[results,results99,go_sem,hc]<;>rfl) ?_;exact QZ HR.out (QD HB1.out (by omega) _ _)
 |true=>
  cases hv2:QT (p',q') with
  |false=>
   have HR:=zh (show R= .error 2 from by rw[hR];unfold La YI;rw[hv,hv2];rfl);have HVV:=zh hv;have HVV2:=zh hv2;clear hv hv2 hR;go_enter func99,ntmps99;go_wp2_with fail
   refine HV1.out.mono ?_;rw[HVV.out];rintro e w1 ⟨rfl,hb⟩;have HB1:=hbn HB hb;have HW1:=zh hb;obtain⟨hc,hf⟩:=QN hb;have hz:=hb.size;simp at hz;clear hb;go_wp2_with fail
   refine(HV2.out _).mono ?_;rw[HVV2.out];rintro e w2 ⟨rfl,hb⟩;have HB2:=hbn HB1 hb;have HW2:=hbn HW1 hb;clear hc hf;obtain⟨hc,hf⟩:=QN HW2.out;have hz2:=hb.size;clear hb;go_wp2;refine zr (by simp[results,results99,go_sem,hc]<;>rfl) ?_;exact QZ HR.out (QD HB2.out (by omega) _ _)
  |true=>
   have HR:=zh (show JS (p*q'+p'*q) (q*q')=R from by rw[hR];unfold La YI;rw[hv,hv2];rfl);have hb1:=QO hv;have hb2:=QO hv2;simp only[] at hb1 hb2;obtain⟨a1,a2,a3,a4⟩:=hb1;obtain⟨b1,b2,b3,b4⟩:=hb2;have m1:=Qe a3 a4 (show-2147483647<=q' by omega) b2;have m2:=Qe b3 b4 (show-2147483647<=q by omega) a2;have m3:=Qe (show-2147483647<=q by omega) a2 (show-2147483647<=q' by omega) b2;have m4:=Qe a3 a4 b3 b4;have m5:0<q*q':=Int.mul_pos (by omega) (by omega);have HVV:=zh hv;have HVV2:=zh hv2;clear hv hv2 hR;go_enter func99,ntmps99;go_wp2_with fail
   refine HV1.out.mono ?_;rw[HVV.out];rintro e w1 ⟨rfl,hb⟩;have HB1:=hbn HB hb;have HW1:=zh hb;obtain⟨hc,hf⟩:=QN hb;have hz:=hb.size;simp at hz;clear hb;go_wp2_with fail
   refine(HV2.out _).mono ?_;rw[HVV2.out];rintro e w2 ⟨rfl,hb⟩;have HB2:=hbn HB1 hb;have HW2:=hbn HW1 hb;clear hc hf;obtain⟨hc,hf⟩:=QN HW2.out;have hz2:=hb.size;clear hb;go_wp2_with fail
   refine(KA _ _ _ (by omega) (by omega) (by omega) (by omega) (by omega)).mono ?_;rw[HR.out];rintro e w3 ⟨rfl,hb⟩;have HB3:=hbn HB2 hb;clear hc hf;obtain⟨hc,hf⟩:=QN (QC HW2.out hb);have hz3:=hb.size;clear hb;go_wp2;refine zr (by simp[results,results99,go_sem,hc]<;>rfl) ?_;refine Qz (QD HB3.out ?_ _ _);omega
theorem Sx (w:World) (p q p' q':Int):Calls prog 100 #[.agg #[p,q],.agg #[p',q']] w (NumPost w (M7 (p,q) (p',q'))):=by
 have HB:=zh (QM w (o2 p q) (o2 p' q') (o2 0 0));have HV1:=zh (Q7 (((w.alloc (o2 p q)).alloc (o2 p' q')).alloc (o2 0 0)) p q);have HV2:=zh (fun W=>Q7 W p' q');obtain⟨R,hR⟩:∃R,R=M7 (p,q) (p',q'):=⟨_,rfl⟩
 rw[<-hR];cases hv:QT (p,q) with
 |false=>
  have HR:=zh (show R= .error 2 from by rw[hR];unfold M7 YI;rw[hv];rfl);have HVV:=zh hv;clear hv hR;go_enter func100,ntmps100;go_wp2_with fail
  refine HV1.out.mono ?_;rw[HVV.out];rintro e w1 ⟨rfl,hb⟩;have HB1:=hbn HB hb;have HW1:=zh hb;obtain⟨hc,hf⟩:=QN hb;have hz:=hb.size;simp at hz;clear hb;go_wp2;refine zr (by simp[results,results100,go_sem,hc]<;>rfl) ?_;exact QZ HR.out (QD HB1.out (by omega) _ _)
 |true=>
  cases hv2:QT (p',q') with
  |false=>
   have HR:=zh (show R= .error 2 from by rw[hR];unfold M7 YI;rw[hv,hv2];rfl);have HVV:=zh hv;have HVV2:=zh hv2;clear hv hv2 hR;go_enter func100,ntmps100;go_wp2_with fail
   refine HV1.out.mono ?_;rw[HVV.out];rintro e w1 ⟨rfl,hb⟩;have HB1:=hbn HB hb;have HW1:=zh hb;obtain⟨hc,hf⟩:=QN hb;have hz:=hb.size;simp at hz;clear hb;go_wp2_with fail
   refine(HV2.out _).mono ?_;rw[HVV2.out];rintro e w2 ⟨rfl,hb⟩;have HB2:=hbn HB1 hb;have HW2:=hbn HW1 hb;clear hc hf;obtain⟨hc,hf⟩:=QN HW2.out;have hz2:=hb.size;clear hb;go_wp2;refine zr (by simp[results,results100,go_sem,hc]<;>rfl) ?_;exact QZ HR.out (QD HB2.out (by omega) _ _)
  |true=>
   have HR:=zh (show JS (p*q'-p'*q) (q*q')=R from by rw[hR];unfold M7 YI;rw[hv,hv2];rfl);have hb1:=QO hv;have hb2:=QO hv2;simp only[] at hb1 hb2;obtain⟨a1,a2,a3,a4⟩:=hb1;obtain⟨b1,b2,b3,b4⟩:=hb2;have m1:=Qe a3 a4 (show-2147483647<=q' by omega) b2;have m2:=Qe b3 b4 (show-2147483647<=q by omega) a2;have m3:=Qe (show-2147483647<=q by omega) a2 (show-2147483647<=q' by omega) b2;have m4:=Qe a3 a4 b3 b4;have m5:0<q*q':=Int.mul_pos (by omega) (by omega);have HVV:=zh hv;have HVV2:=zh hv2;clear hv hv2 hR;go_enter func100,ntmps100;go_wp2_with fail
   refine HV1.out.mono ?_;rw[HVV.out];rintro e w1 ⟨rfl,hb⟩;have HB1:=hbn HB hb;have HW1:=zh hb;obtain⟨hc,hf⟩:=QN hb;have hz:=hb.size;simp at hz;clear hb;go_wp2_with fail
   refine(HV2.out _).mono ?_;rw[HVV2.out];rintro e w2 ⟨rfl,hb⟩;have HB2:=hbn HB1 hb;have HW2:=hbn HW1 hb;clear hc hf;obtain⟨hc,hf⟩:=QN HW2.out;have hz2:=hb.size;clear hb;go_wp2_with fail
   refine(KA _ _ _ (by omega) (by omega) (by omega) (by omega) (by omega)).mono ?_;rw[HR.out];rintro e w3 ⟨rfl,hb⟩;have HB3:=hbn HB2 hb;clear hc hf;obtain⟨hc,hf⟩:=QN (QC HW2.out hb);have hz3:=hb.size;clear hb;go_wp2;refine zr (by simp[results,results100,go_sem,hc]<;>rfl) ?_;refine Qz (QD HB3.out ?_ _ _);omega
theorem S0 (w:World) (p q p' q':Int):Calls prog 101 #[.agg #[p,q],.agg #[p',q']] w (NumPost w (Av (p,q) (p',q'))):=by
 have HB:=zh (QM w (o2 p q) (o2 p' q') (o2 0 0));have HV1:=zh (Q7 (((w.alloc (o2 p q)).alloc (o2 p' q')).alloc (o2 0 0)) p q);have HV2:=zh (fun W=>Q7 W p' q');obtain⟨R,hR⟩:∃R,R=Av (p,q) (p',q'):=⟨_,rfl⟩
 rw[<-hR];cases hv:QT (p,q) with
 |false=>
  have HR:=zh (show R= .error 2 from by rw[hR];unfold Av YI;rw[hv];rfl);have HVV:=zh hv;clear hv hR;go_enter func101,ntmps101;go_wp2_with fail
  refine HV1.out.mono ?_;rw[HVV.out];rintro e w1 ⟨rfl,hb⟩;have HB1:=hbn HB hb;have HW1:=zh hb;obtain⟨hc,hf⟩:=QN hb;have hz:=hb.size;simp at hz;clear hb;go_wp2;refine zr (by simp[results,results101,go_sem,hc]<;>rfl) ?_;exact QZ HR.out (QD HB1.out (by omega) _ _)
 |true=>
  cases hv2:QT (p',q') with
  |false=>
   have HR:=zh (show R= .error 2 from by rw[hR];unfold Av YI;rw[hv,hv2];rfl);have HVV:=zh hv;have HVV2:=zh hv2;clear hv hv2 hR;go_enter func101,ntmps101;go_wp2_with fail
   refine HV1.out.mono ?_;rw[HVV.out];rintro e w1 ⟨rfl,hb⟩;have HB1:=hbn HB hb;have HW1:=zh hb;obtain⟨hc,hf⟩:=QN hb;have hz:=hb.size;simp at hz;clear hb;go_wp2_with fail
   refine(HV2.out _).mono ?_;rw[HVV2.out];rintro e w2 ⟨rfl,hb⟩;have HB2:=hbn HB1 hb;have HW2:=hbn HW1 hb;clear hc hf;obtain⟨hc,hf⟩:=QN HW2.out;have hz2:=hb.size;clear hb;go_wp2;refine zr (by simp[results,results101,go_sem,hc]<;>rfl) ?_;exact QZ HR.out (QD HB2.out (by omega) _ _)
  |true=>
   have HR:=zh (show JS (p*p') (q*q')=R from by rw[hR];unfold Av YI;rw[hv,hv2];rfl);have hb1:=QO hv;have hb2:=QO hv2;simp only[] at hb1 hb2;obtain⟨a1,a2,a3,a4⟩:=hb1;obtain⟨b1,b2,b3,b4⟩:=hb2;have m1:=Qe a3 a4 (show-2147483647<=q' by omega) b2;have m2:=Qe b3 b4 (show-2147483647<=q by omega) a2;have m3:=Qe (show-2147483647<=q by omega) a2 (show-2147483647<=q' by omega) b2;have m4:=Qe a3 a4 b3 b4;have m5:0<q*q':=Int.mul_pos (by omega) (by omega);have HVV:=zh hv;have HVV2:=zh hv2;clear hv hv2 hR;go_enter func101,ntmps101;go_wp2_with fail
   refine HV1.out.mono ?_;rw[HVV.out];rintro e w1 ⟨rfl,hb⟩;have HB1:=hbn HB hb;have HW1:=zh hb;obtain⟨hc,hf⟩:=QN hb;have hz:=hb.size;simp at hz;clear hb;go_wp2_with fail
   refine(HV2.out _).mono ?_;rw[HVV2.out];rintro e w2 ⟨rfl,hb⟩;have HB2:=hbn HB1 hb;have HW2:=hbn HW1 hb;clear hc hf;obtain⟨hc,hf⟩:=QN HW2.out;have hz2:=hb.size;clear hb;go_wp2_with fail
   refine(KA _ _ _ (by omega) (by omega) (by omega) (by omega) (by omega)).mono ?_;rw[HR.out];rintro e w3 ⟨rfl,hb⟩;have HB3:=hbn HB2 hb;clear hc hf;obtain⟨hc,hf⟩:=QN (QC HW2.out hb);have hz3:=hb.size;clear hb;go_wp2;refine zr (by simp[results,results101,go_sem,hc]<;>rfl) ?_;refine Qz (QD HB3.out ?_ _ _);omega
theorem YQ (w:World) (p q p' q':Int):Calls prog 162 #[.agg #[p,q],.agg #[p',q']] w (IntPost w (Fa (p,q) (p',q'):Nat)):=by
 have HB:=zh (QE w (o2 p q) (o2 p' q'));have HV1:=zh (Q7 ((w.alloc (o2 p q)).alloc (o2 p' q')) p q);have HV2:=zh (fun W=>Q7 W p' q');obtain⟨R,hR⟩:∃R,R=Fa (p,q) (p',q'):=⟨_,rfl⟩
 rw[<-hR];cases hv:QT (p,q) with
 |false=>
  have HR:=zh (show R=2 from by rw[hR];unfold Fa;rw[hv];rfl);have HVV:=zh hv;clear hv hR;go_enter func162,ntmps162;go_wp2_with fail
  refine HV1.out.mono ?_;rw[HVV.out];rintro e w1 ⟨rfl,hb⟩;have HB1:=hbn HB hb;have HW1:=zh hb;obtain⟨hc,hf⟩:=QN hb;have hz:=hb.size;simp at hz;clear hb;go_wp2
  go_ret
  exact Qr (by rw[HR.out];rfl) HB1.out
 |true=>
  cases hv2:QT (p',q') with
  |false=>
   have HR:=zh (show R=2 from by rw[hR];unfold Fa;rw[hv,hv2];rfl);have HVV:=zh hv;have HVV2:=zh hv2;clear hv hv2 hR;go_enter func162,ntmps162;go_wp2_with fail
   refine HV1.out.mono ?_;rw[HVV.out];rintro e w1 ⟨rfl,hb⟩;have HB1:=hbn HB hb;have HW1:=zh hb;obtain⟨hc,hf⟩:=QN hb;have hz:=hb.size;simp at hz;clear hb;go_wp2_with fail
   refine(HV2.out _).mono ?_;rw[HVV2.out];rintro e w2 ⟨rfl,hb⟩;have HB2:=hbn HB1 hb;have HW2:=hbn HW1 hb;clear hc hf;obtain⟨hc,hf⟩:=QN HW2.out;have hz2:=hb.size;clear hb;go_wp2
   go_ret
   exact Qr (by rw[HR.out];rfl) HB2.out
  |true=>
   obtain⟨c,hcc⟩:∃c,(p'==0)=c:=⟨_,rfl⟩
   have HR:=zh (show R=if c then 7 else 0 from by rw[hR,<-hcc];unfold Fa;rw[hv,hv2];simp);have HVV:=zh hv;have HVV2:=zh hv2;clear hv hv2 hR;cases c
   all_goals
    go_enter func162,ntmps162;go_wp2_with fail
    refine HV1.out.mono ?_;rw[HVV.out];rintro e w1 ⟨rfl,hb⟩;have HB1:=hbn HB hb;have HW1:=zh hb;obtain⟨hc,hf⟩:=QN hb;have hz:=hb.size;simp at hz;clear hb;go_wp2_with fail
    refine(HV2.out _).mono ?_;rw[HVV2.out];rintro e w2 ⟨rfl,hb⟩;have HB2:=hbn HB1 hb;have HW2:=hbn HW1 hb;clear hc hf;obtain⟨hc,hf⟩:=QN HW2.out;have hz2:=hb.size;clear hb;go_wp2
    go_ret
    exact Qr (by rw[HR.out];rfl) HB2.out
theorem S4 (w:World) (p q p' q':Int):Calls prog 102 #[.agg #[p,q],.agg #[p',q']] w (NumPost w (Bg (p,q) (p',q'))):=by
 have HB:=zh (QM w (o2 p q) (o2 p' q') (o2 0 0));have HD:=zh (YQ (((w.alloc (o2 p q)).alloc (o2 p' q')).alloc (o2 0 0)) p q p' q');obtain⟨R,hR⟩:∃R,R=Bg (p,q) (p',q'):=⟨_,rfl⟩
 obtain⟨C,hC⟩:∃C,C=Fa (p,q) (p',q'):=⟨_,rfl⟩
 rw[<-hR];by_cases h0:C=0
 ·obtain⟨hv,hv2,hz0,hX⟩:=LR (hC.symm.trans h0);have HEE:=zh (show Fa (p,q) (p',q')=0 from hC.symm.trans h0);have HR0:=zh (show R=JS (p*q') (p'*q) from by rw[hR];exact hX _);have hb1:=QO hv;have hb2:=QO hv2;simp only[] at hb1 hb2;obtain⟨a1,a2,a3,a4⟩:=hb1;obtain⟨b1,b2,b3,b4⟩:=hb2;have m1:=Qe a3 a4 (show-2147483647<=q' by omega) b2;have m2:=Qe b3 b4 (show-2147483647<=q by omega) a2;have m3:=Qe (show-2147483647<=q by omega) a2 (show-2147483647<=q' by omega) b2;have m4:=Qe a3 a4 b3 b4;have m5:0<q*q':=Int.mul_pos (by omega) (by omega);have m6:p'*q≠0:=Int.mul_ne_zero hz0 (by omega);clear hv hv2 hR hC h0 hX hz0;have HR:=zh (show JS (p*q') (p'*q)=R from HR0.out.symm);have mc:q*p'=p'*q:=Int.mul_comm q p';go_enter func102,ntmps102;go_wp2_with fail
  refine HD.out.mono ?_;rw[HEE.out];rintro e w1 ⟨rfl,hb⟩;have HB1:=hbn HB hb;have HW1:=zh hb;obtain⟨hc,hf⟩:=QN hb;have hz:=hb.size;simp at hz;clear hb;go_wp2_with fail
  refine(KA _ (p*q') (p'*q) (by omega) (by omega) (by omega) (by omega) m6).mono ?_;rw[HR.out];rintro e w3 ⟨rfl,hb⟩;have HB3:=hbn HB1 hb;clear hc hf;obtain⟨hc,hf⟩:=QN (QC HW1.out hb);have hz3:=hb.size;clear hb;go_wp2;refine zr (by simp[results,results102,go_sem,hc]<;>rfl) ?_;refine Qz (QD HB3.out ?_ _ _);omega
 ·have HR:=zh (show R= .error C from by rw[hR,hC];exact Tt (by rw[<-hC];exact h0));have HEE:=zh hC.symm;have t0:((C:Int) !=0)=true:=by rw[bne_iff_ne];omega
  clear hR hC h0;go_enter func102,ntmps102;go_wp2_with fail
  refine HD.out.mono ?_;rw[HEE.out];rintro e w1 ⟨rfl,hb⟩;have HB1:=hbn HB hb;have HW1:=zh hb;obtain⟨hc,hf⟩:=QN hb;have hz:=hb.size;simp at hz;clear hb;go_wp2;refine zr (by simp[results,results102,go_sem,hc]<;>rfl) ?_;exact QZ HR.out (QD HB1.out (by omega) _ _)
theorem Bn (w:World) (p q p' q':Int):Calls prog 103 #[.agg #[p,q],.agg #[p',q']] w (NumPost w (Dh (p,q) (p',q'))):=by
 have HB:=zh (QM w (o2 p q) (o2 p' q') (o2 0 0));have HD:=zh (YQ (((w.alloc (o2 p q)).alloc (o2 p' q')).alloc (o2 0 0)) p q p' q');obtain⟨R,hR⟩:∃R,R=Dh (p,q) (p',q'):=⟨_,rfl⟩
 obtain⟨C,hC⟩:∃C,C=Fa (p,q) (p',q'):=⟨_,rfl⟩
 rw[<-hR];by_cases h0:C=0
 ·obtain⟨hv,hv2,hz0,hX⟩:=LR (hC.symm.trans h0);have HEE:=zh (show Fa (p,q) (p',q')=0 from hC.symm.trans h0);have HR0:=zh (show R=Jk (Int.fdiv (p*q') (p'*q)) from by rw[hR];exact hX _);have hb1:=QO hv;have hb2:=QO hv2;simp only[] at hb1 hb2;obtain⟨a1,a2,a3,a4⟩:=hb1;obtain⟨b1,b2,b3,b4⟩:=hb2;have m1:=Qe a3 a4 (show-2147483647<=q' by omega) b2;have m2:=Qe b3 b4 (show-2147483647<=q by omega) a2;have m3:=Qe (show-2147483647<=q by omega) a2 (show-2147483647<=q' by omega) b2;have m4:=Qe a3 a4 b3 b4;have m5:0<q*q':=Int.mul_pos (by omega) (by omega);have m6:p'*q≠0:=Int.mul_ne_zero hz0 (by omega);clear hv hv2 hR hC h0 hX hz0;have HR:=zh (show Jk (Int.fdiv (p*q') (p'*q))=R from HR0.out.symm);have mc:q*p'=p'*q:=Int.mul_comm q p';go_enter func103,ntmps103;go_wp2_with fail
  refine HD.out.mono ?_;rw[HEE.out];rintro e w1 ⟨rfl,hb⟩;have HB1:=hbn HB hb;have HW1:=zh hb;obtain⟨hc,hf⟩:=QN hb;have hz:=hb.size;simp at hz;clear hb;go_wp2_with fail
  refine(Lp _ (p*q') (p'*q) (by omega) (by omega) (by omega) (by omega) m6).mono ?_;rintro e w2 ⟨rfl,rfl⟩;go_wp2_with fail
  refine(DH _ _).mono ?_;rw[HR.out];rintro e w3 ⟨rfl,hb⟩;have HB3:=hbn HB1 hb;clear hc hf;obtain⟨hc,hf⟩:=QN (QC HW1.out hb);have hz3:=hb.size;clear hb;go_wp2;refine zr (by simp[results,results103,go_sem,hc]<;>rfl) ?_;refine Qz (QD HB3.out ?_ _ _);omega
 ·have HR:=zh (show R= .error C from by rw[hR,hC];exact Tt (by rw[<-hC];exact h0));have HEE:=zh hC.symm;have t0:((C:Int) !=0)=true:=by rw[bne_iff_ne];omega
  clear hR hC h0;go_enter func103,ntmps103;go_wp2_with fail
  refine HD.out.mono ?_;rw[HEE.out];rintro e w1 ⟨rfl,hb⟩;have HB1:=hbn HB hb;have HW1:=zh hb;obtain⟨hc,hf⟩:=QN hb;have hz:=hb.size;simp at hz;clear hb;go_wp2;refine zr (by simp[results,results103,go_sem,hc]<;>rfl) ?_;exact QZ HR.out (QD HB1.out (by omega) _ _)
theorem S1 (w:World) (p q p' q':Int):Calls prog 104 #[.agg #[p,q],.agg #[p',q']] w (NumPost w (Bb (p,q) (p',q'))):=by
 have HB:=zh (QM w (o2 p q) (o2 p' q') (o2 0 0));have HD:=zh (YQ (((w.alloc (o2 p q)).alloc (o2 p' q')).alloc (o2 0 0)) p q p' q');obtain⟨R,hR⟩:∃R,R=Bb (p,q) (p',q'):=⟨_,rfl⟩
 obtain⟨C,hC⟩:∃C,C=Fa (p,q) (p',q'):=⟨_,rfl⟩
 rw[<-hR];by_cases h0:C=0
 ·obtain⟨hv,hv2,hz0,hX⟩:=LR (hC.symm.trans h0);have HEE:=zh (show Fa (p,q) (p',q')=0 from hC.symm.trans h0);have HR0:=zh (show R=JS (Int.fmod (p*q') (p'*q)) (q*q') from by rw[hR];exact hX _);have hb1:=QO hv;have hb2:=QO hv2;simp only[] at hb1 hb2;obtain⟨a1,a2,a3,a4⟩:=hb1;obtain⟨b1,b2,b3,b4⟩:=hb2;have m1:=Qe a3 a4 (show-2147483647<=q' by omega) b2;have m2:=Qe b3 b4 (show-2147483647<=q by omega) a2;have m3:=Qe (show-2147483647<=q by omega) a2 (show-2147483647<=q' by omega) b2;have m4:=Qe a3 a4 b3 b4;have m5:0<q*q':=Int.mul_pos (by omega) (by omega);have m6:p'*q≠0:=Int.mul_ne_zero hz0 (by omega);clear hv hv2 hR hC h0 hX hz0;obtain⟨x,hx⟩:∃x,x=p*q':=⟨_,rfl⟩
  obtain⟨y,hy⟩:∃y,y=p'*q:=⟨_,rfl⟩
  rw[<-hx] at m1 HR0;rw[<-hy] at m2 m6 HR0;obtain⟨M,hM⟩:∃M,M=x.tmod y:=⟨_,rfl⟩
  have hm:=KV (x:=x) m6;have HS:=zh (fun h=>(GG (x:=x) (y:=y) h).2);have HL:=zh (fun h k=>(GH (x:=x) (y:=y) h k).2);rw[<-hM] at HS HL;have HM:=zh (show x.tmod y=M from hM.symm);have HP:=zh (show 0<=x->x%y=M from fun h=>by rw[hM,Int.tmod_eq_emod_of_nonneg h]);have hs1:0<=x->0<=M:=fun h=>by rw[hM];exact Int.tmod_nonneg _ h
  have hs2:x<0->M<=0:=fun h=>by
   rw[hM];have:=Int.tmod_nonneg y (a:= -x) (by omega);rw[Int.neg_tmod] at this;omega
  rw[<-hM] at hm;have HX:=zh hx.symm;have HY:=zh hy.symm;obtain⟨x1,x2⟩:=m1;obtain⟨y1,y2⟩:=m2;obtain⟨g1,g2⟩:=m3;have hm1: -4611686014132420609<=M:=by omega
  have hm2:M<=4611686014132420609:=by omega
  have hmy1: -4611686014132420609<=M+y\/¬((0<=M/\y<0)\/(M<=0/\0<y)):=by omega
  have hmy2:M+y<=4611686014132420609\/¬((0<=M/\y<0)\/(M<=0/\0<y)):=by omega
  have hcc:((0<=x/\0<y)\/(0<=x/\y<0)\/(x<0/\0<y)\/(x<0/\y<0))/\((M<=0/\0<=M)\/M<0\/0<M):=by omega
  obtain⟨hcc,hm0⟩:=hcc;clear hM hm hx hy;have hfin:(M=0\/(0<=x/\0<y)\/(x<0/\y<0))\/(M≠0/\((0<=x/\y<0)\/(x<0/\0<y))):=by omega
  have HFIN:=zh hfin;clear hfin;clear hmy1 hmy2;by_cases hg:M=0\/(0<=x/\0<y)\/(x<0/\y<0)
  ·have HR:=zh (show JS M (q*q')=R from by rw[HR0.out,HS.out hg]);have u1: -9223372036854775807<=M:=by omega
   have u2:M<=9223372036854775807:=by omega
   rcases hcc with⟨k1,k2⟩|⟨k1,k2⟩|⟨k1,k2⟩|⟨k1,k2⟩;all_goals
    rcases hm0 with⟨m0,m00⟩|m0|m0
   all_goals
    first
    |(exfalso;omega;done)
    |(exfalso;have:=hs1 (by omega);omega;done)
    |(exfalso;have:=hs2 (by omega);omega;done)
    |skip
   all_goals
    have tm:(M !=0)=decide (M≠0):=by by_cases h:M=0<;>simp[h]
    first|rw[decide_eq_true (show M≠0 by omega)] at tm|rw[decide_eq_false (show¬M≠0 by omega)] at tm
    obtain⟨dm,hdm⟩:∃b,decide (M<0)=b:=⟨_,rfl⟩
    obtain⟨dy,hdy⟩:∃b,decide (y<0)=b:=⟨_,rfl⟩
    clear hs1 hs2 hg;cases dm<;>cases dy
   all_goals
    have hdm2:=hdm;have hdy2:=hdy;simp only[decide_eq_true_eq,decide_eq_false_iff_not] at hdm2 hdy2;first|(exfalso;omega;done)|skip
   all_goals
    clear hdm2 hdy2;have ex:=HX.out;have ey:=HY.out;have e2:=HM.out;first|(have e4:=HP.out k1;skip)|skip
    go_enter func104,ntmps104;go_wp2_with fail
    refine HD.out.mono ?_;rw[HEE.out];rintro e w1 ⟨rfl,hb⟩;have HB1:=hbn HB hb;have HW1:=zh hb;obtain⟨hc,hf⟩:=QN hb;have hz:=hb.size;simp at hz;clear hb;go_wp2_with fail
    refine(KA _ (M) (q*q') u1 u2 (by omega) (by omega) (by omega)).mono ?_;rw[HR.out];rintro e w3 ⟨rfl,hb⟩;have HB3:=hbn HB1 hb;clear hc hf;obtain⟨hc,hf⟩:=QN (QC HW1.out hb);have hz3:=hb.size;clear hb;go_wp2;refine zr (by simp[results,results104,go_sem,hc]<;>rfl) ?_;refine Qz (QD HB3.out ?_ _ _);omega
  ·have HR:=zh (show JS (M+y) (q*q')=R from by rw[HR0.out,HL.out (HFIN.out.resolve_left hg).1 (HFIN.out.resolve_left hg).2]);have u1: -9223372036854775807<=M+y:=by omega
   have u2:M+y<=9223372036854775807:=by omega
   rcases hcc with⟨k1,k2⟩|⟨k1,k2⟩|⟨k1,k2⟩|⟨k1,k2⟩;all_goals
    rcases hm0 with⟨m0,m00⟩|m0|m0
   all_goals
    first
    |(exfalso;omega;done)
    |(exfalso;have:=hs1 (by omega);omega;done)
    |(exfalso;have:=hs2 (by omega);omega;done)
    |skip
   all_goals
    have tm:(M !=0)=decide (M≠0):=by by_cases h:M=0<;>simp[h]
    first|rw[decide_eq_true (show M≠0 by omega)] at tm|rw[decide_eq_false (show¬M≠0 by omega)] at tm
    obtain⟨dm,hdm⟩:∃b,decide (M<0)=b:=⟨_,rfl⟩
    obtain⟨dy,hdy⟩:∃b,decide (y<0)=b:=⟨_,rfl⟩
    clear hs1 hs2 hg;cases dm<;>cases dy
   all_goals
    have hdm2:=hdm;have hdy2:=hdy;simp only[decide_eq_true_eq,decide_eq_false_iff_not] at hdm2 hdy2;first|(exfalso;omega;done)|skip
   all_goals
    clear hdm2 hdy2;have ex:=HX.out;have ey:=HY.out;have e2:=HM.out;first|(have e4:=HP.out k1;skip)|skip
    go_enter func104,ntmps104;go_wp2_with fail
    refine HD.out.mono ?_;rw[HEE.out];rintro e w1 ⟨rfl,hb⟩;have HB1:=hbn HB hb;have HW1:=zh hb;obtain⟨hc,hf⟩:=QN hb;have hz:=hb.size;simp at hz;clear hb;go_wp2_with fail
    refine(KA _ (M+y) (q*q') u1 u2 (by omega) (by omega) (by omega)).mono ?_;rw[HR.out];rintro e w3 ⟨rfl,hb⟩;have HB3:=hbn HB1 hb;clear hc hf;obtain⟨hc,hf⟩:=QN (QC HW1.out hb);have hz3:=hb.size;clear hb;go_wp2;refine zr (by simp[results,results104,go_sem,hc]<;>rfl) ?_;refine Qz (QD HB3.out ?_ _ _);omega
 ·have HR:=zh (show R= .error C from by rw[hR,hC];exact Tt (by rw[<-hC];exact h0));have HEE:=zh hC.symm;have t0:((C:Int) !=0)=true:=by rw[bne_iff_ne];omega
  clear hR hC h0;go_enter func104,ntmps104;go_wp2_with fail
  refine HD.out.mono ?_;rw[HEE.out];rintro e w1 ⟨rfl,hb⟩;have HB1:=hbn HB hb;have HW1:=zh hb;obtain⟨hc,hf⟩:=QN hb;have hz:=hb.size;simp at hz;clear hb;go_wp2;refine zr (by simp[results,results104,go_sem,hc]<;>rfl) ?_;exact QZ HR.out (QD HB1.out (by omega) _ _)
theorem J1 {f:FuncId} {args:Array Value} {w:World} {n:Nat} {v:Value} (h:∀W,Calls prog f args W fun e w'=>e= .returned v/\W=w'):
  Calls prog f args (w.drewN n) fun e w''=>e= .returned v/\∃m,w''=w.drewN m:=(h _).mono fun _ _ hh=>⟨hh.1,n,hh.2.symm⟩
theorem Gu {f:FuncId} {args:Array Value} {w:World} {a n:Nat} {v:Value} (h:∀W,Calls prog f args W fun e w'=>e= .returned v/\W=w'):
  Calls prog f args (w.drewN (a+n)) fun e w''=>e= .returned v/\∃m,w''=w.drewN (a+m):=(h _).mono fun _ _ hh=>⟨hh.1,n,hh.2.symm⟩
theorem S5 (w:World) (p q p' q':Int):Calls prog 157 #[.agg #[p,q],.agg #[p',q']] w (IntPost w (FY (p,q) (p',q'))):=by
 have HB:=zh (QE w (o2 p q) (o2 p' q'));have HV1:=zh (Q7 ((w.alloc (o2 p q)).alloc (o2 p' q')) p q);have HV2:=zh (fun W=>Q7 W p' q');obtain⟨R,hR⟩:∃R,R=FY (p,q) (p',q'):=⟨_,rfl⟩
 rw[<-hR];have low:(QT (p,q)&&QT (p',q'))=false->∃c,(p !=p')=c/\R=if c then ZV p p' else ZV q q':=fun h=>by
  refine⟨_,rfl,?_⟩;rw[hR];unfold FY;rw[h];by_cases e:p=p'
  ·simp[e]
  ·simp[e]
 have HL:=zh low;have HR0:=zh hR;clear low hR;cases hv:QT (p,q) with
 |false=>
  have HVV:=zh hv;obtain⟨c,hcc,hRR⟩:=HL.out (by rw[hv];rfl);have HRR:=zh hRR;clear hv HL HR0 hRR;cases c
  all_goals
   go_enter func157,ntmps157;go_wp2_with fail
   refine HV1.out.mono ?_;rw[HVV.out];rintro e w1 ⟨rfl,hb⟩;have HB1:=hbn HB hb;have HW1:=zh hb;obtain⟨hc,hf⟩:=QN hb;have hz:=hb.size;simp at hz;clear hb;go_wp2_with fail
   refine(Ut _ _ _).mono ?_;rintro e w3 ⟨rfl,rfl⟩;go_wp2
   go_ret
   exact Qr HRR.out.symm HB1.out
 |true=>
  cases hv2:QT (p',q') with
  |false=>
   have HVV:=zh hv;have HVV2:=zh hv2;obtain⟨c,hcc,hRR⟩:=HL.out (by rw[hv,hv2];rfl);have HRR:=zh hRR;clear hv hv2 HL HR0 hRR;cases c
   all_goals
    go_enter func157,ntmps157;go_wp2_with fail
    refine HV1.out.mono ?_;rw[HVV.out];rintro e w1 ⟨rfl,hb⟩;have HB1:=hbn HB hb;have HW1:=zh hb;obtain⟨hc,hf⟩:=QN hb;have hz:=hb.size;simp at hz;clear hb;go_wp2_with fail
    refine(HV2.out _).mono ?_;rw[HVV2.out];rintro e w2 ⟨rfl,hb⟩;have HB2:=hbn HB1 hb;have HW2:=hbn HW1 hb;clear hc hf;obtain⟨hc,hf⟩:=QN HW2.out;have hz2:=hb.size;clear hb;go_wp2_with fail
    refine(Ut _ _ _).mono ?_;rintro e w3 ⟨rfl,rfl⟩;go_wp2
    go_ret
    exact Qr HRR.out.symm HB2.out
  |true=>
   have hb1:=QO hv;have hb2:=QO hv2;simp only[] at hb1 hb2;obtain⟨a1,a2,a3,a4⟩:=hb1;obtain⟨b1,b2,b3,b4⟩:=hb2;have m1:=Qe a3 a4 (show-2147483647<=q' by omega) b2;have m2:=Qe b3 b4 (show-2147483647<=q by omega) a2;have m3:=Qe (show-2147483647<=q by omega) a2 (show-2147483647<=q' by omega) b2;have m4:=Qe a3 a4 b3 b4;have m5:0<q*q':=Int.mul_pos (by omega) (by omega);have HRR:=zh (show R=ZV (p*q') (p'*q) from by rw[HR0.out];unfold FY;rw[hv,hv2];rfl);have HVV:=zh hv;have HVV2:=zh hv2;clear hv hv2 HL HR0;go_enter func157,ntmps157;go_wp2_with fail
   refine HV1.out.mono ?_;rw[HVV.out];rintro e w1 ⟨rfl,hb⟩;have HB1:=hbn HB hb;have HW1:=zh hb;obtain⟨hc,hf⟩:=QN hb;have hz:=hb.size;simp at hz;clear hb;go_wp2_with fail
   refine(HV2.out _).mono ?_;rw[HVV2.out];rintro e w2 ⟨rfl,hb⟩;have HB2:=hbn HB1 hb;have HW2:=hbn HW1 hb;clear hc hf;obtain⟨hc,hf⟩:=QN HW2.out;have hz2:=hb.size;clear hb;go_wp2_with fail
   refine(Ut _ _ _).mono ?_;rintro e w3 ⟨rfl,rfl⟩;go_wp2
   go_ret
   exact Qr HRR.out.symm HB2.out
theorem Sy (w:World) (p q p' q':Int):Calls prog 105 #[.agg #[p,q],.agg #[p',q']] w (NumPost w (Dm (p,q) (p',q'))):=by
 have HB:=zh (QM w (o2 p q) (o2 p' q') (o2 0 0));have HV:=zh (fun W=>Q7 W p q);obtain⟨R,hR⟩:∃R,R=Dm (p,q) (p',q'):=⟨_,rfl⟩
 rw[<-hR];have hn:=Lg (((w.alloc (o2 p q)).alloc (o2 p' q')).alloc (o2 0 0)) p' q';unfold WholePost at hn;cases hw:Kq (p',q') with
 |false=>
  have HR:=zh (show R= .error 2 from by
   rw[hR];unfold Dm;rw[if_neg];intro h;simp only[Bool.and_eq_true,decide_eq_true_eq] at h;unfold Kq at hw;rw[h.1.2,h.2.1] at hw;cases hw)
  rw[hw] at hn;have HN:=zh (show Calls prog 165 #[.agg #[.int .i64 p',.int .i64 q']] (((w.alloc (o2 p q)).alloc (o2 p' q')).alloc (o2 0 0)) fun e w'=>e= .returned (.tuple #[.int .i64 0,.bool false])/\Below (((w.alloc (o2 p q)).alloc (o2 p' q')).alloc (o2 0 0)).heap.size (((w.alloc (o2 p q)).alloc (o2 p' q')).alloc (o2 0 0)) w' from hn);clear hn hw hR;cases hv:QT (p,q)
  all_goals
   have HVV:=zh hv;clear hv;go_enter func105,ntmps105;go_wp2_with fail
   refine HN.out.mono ?_;rintro e w1 ⟨rfl,hb⟩;have HB1:=hbn HB hb;have HW1:=zh hb;obtain⟨hc,hf⟩:=QN hb;have hz:=hb.size;simp at hz;clear hb;go_wp2_with fail
   refine(HV.out _).mono ?_;rw[HVV.out];rintro e w2 ⟨rfl,hb⟩;have HB2:=hbn HB1 hb;have HW2:=hbn HW1 hb;clear hc hf;obtain⟨hc,hf⟩:=QN HW2.out;have hz2:=hb.size;clear hb;go_wp2;refine zr (by simp[results,results105,go_sem,hc]<;>rfl) ?_;exact QZ HR.out (QD HB2.out (by omega) _ _)
 |true=>
  rw[hw] at hn;have HN:=zh (show Calls prog 165 #[.agg #[.int .i64 p',.int .i64 q']] (((w.alloc (o2 p q)).alloc (o2 p' q')).alloc (o2 0 0)) fun e w'=>e= .returned (.tuple #[.int .i64 p',.bool true])/\Below (((w.alloc (o2 p q)).alloc (o2 p' q')).alloc (o2 0 0)).heap.size (((w.alloc (o2 p q)).alloc (o2 p' q')).alloc (o2 0 0)) w' from hn);have hw2:QT (p',q')=true/\q'=1:=by unfold Kq at hw;simpa using hw
  obtain⟨hv2,hq1⟩:=hw2;clear hn hw;cases hv:QT (p,q) with
  |false=>
   have HR:=zh (show R= .error 2 from by rw[hR];unfold Dm;rw[hv];rfl);have HVV:=zh hv;clear hv hR hv2 hq1;go_enter func105,ntmps105;go_wp2_with fail
   refine HN.out.mono ?_;rintro e w1 ⟨rfl,hb⟩;have HB1:=hbn HB hb;have HW1:=zh hb;obtain⟨hc,hf⟩:=QN hb;have hz:=hb.size;simp at hz;clear hb;go_wp2_with fail
   refine(HV.out _).mono ?_;rw[HVV.out];rintro e w2 ⟨rfl,hb⟩;have HB2:=hbn HB1 hb;have HW2:=hbn HW1 hb;clear hc hf;obtain⟨hc,hf⟩:=QN HW2.out;have hz2:=hb.size;clear hb;go_wp2;refine zr (by simp[results,results105,go_sem,hc]<;>rfl) ?_;exact QZ HR.out (QD HB2.out (by omega) _ _)
  |true=>
   have hb1:=QO hv;have hb2:=QO hv2;simp only[] at hb1 hb2;obtain⟨a1,a2,a3,a4⟩:=hb1;obtain⟨b1,b2,b3,b4⟩:=hb2;have hR2:R=if-64<=p'/\p'<=64 then(if p=0/\p'<0 then .error 7 else Do (decide (p'<0)) (Xw p p'.natAbs 1) (Xw q p'.natAbs 1)) else .error 2:=by
    rw[hR];unfold Dm;rw[hv,hv2];by_cases h: -64<=p'/\p'<=64
    ·rw[if_pos h,decide_eq_true (show(p',q').2=1/\ -64<=(p',q').1/\(p',q').1<=64 from⟨hq1,h⟩)];rfl
    ·rw[if_neg h,decide_eq_false (show¬((p',q').2=1/\ -64<=(p',q').1/\(p',q').1<=64) from fun e=>h e.2)];rfl
   have HVV:=zh hv;clear hv hv2 hR hq1 b1 b2;by_cases hbad:¬(-64<=p'/\p'<=64)
   ·have HR:=zh (show R= .error 2 from by rw[hR2,if_neg hbad]);have hcs:p'< -64\/(-64<=p'/\64<p'):=by omega
    clear hbad hR2;rcases hcs with c1|⟨c1,c2⟩;all_goals
     go_enter func105,ntmps105;go_wp2_with fail
     refine HN.out.mono ?_;rintro e w1 ⟨rfl,hb⟩;have HB1:=hbn HB hb;have HW1:=zh hb;obtain⟨hc,hf⟩:=QN hb;have hz:=hb.size;simp at hz;clear hb;go_wp2_with fail
     refine(HV.out _).mono ?_;rw[HVV.out];rintro e w2 ⟨rfl,hb⟩;have HB2:=hbn HB1 hb;have HW2:=hbn HW1 hb;clear hc hf;obtain⟨hc,hf⟩:=QN HW2.out;have hz2:=hb.size;clear hb;go_wp2;refine zr (by simp[results,results105,go_sem,hc]<;>rfl) ?_;exact QZ HR.out (QD HB2.out (by omega) _ _)
   ·have hgood: -64<=p'/\p'<=64:=Classical.not_not.1 hbad;rw[if_pos hgood] at hR2;obtain⟨g2,g3⟩:=hgood;clear hbad;have tp:(p==0)=decide (p<=0/\0<=p):=by rw[Bool.eq_iff_iff,beq_iff_eq,decide_eq_true_eq];omega
    by_cases hz0:p=0/\p'<0
    ·have HR:=zh (show R= .error 7 from by rw[hR2,if_pos hz0]);obtain⟨z1,z2⟩:=hz0;rw[decide_eq_true (show p<=0/\0<=p by omega)] at tp;clear hR2 z1;go_enter func105,ntmps105;go_wp2_with fail
     refine HN.out.mono ?_;rintro e w1 ⟨rfl,hb⟩;have HB1:=hbn HB hb;have HW1:=zh hb;obtain⟨hc,hf⟩:=QN hb;have hz:=hb.size;simp at hz;clear hb;go_wp2_with fail
     refine(HV.out _).mono ?_;rw[HVV.out];rintro e w2 ⟨rfl,hb⟩;have HB2:=hbn HB1 hb;have HW2:=hbn HW1 hb;clear hc hf;obtain⟨hc,hf⟩:=QN HW2.out;have hz2:=hb.size;clear hb;go_wp2;refine zr (by simp[results,results105,go_sem,hc]<;>rfl) ?_;exact QZ HR.out (QD HB2.out (by omega) _ _)
    ·rw[if_neg hz0] at hR2;obtain⟨k,hk⟩:∃k,k=p'.natAbs:=⟨_,rfl⟩
     rw[<-hk] at hR2;have hk2:k<=64:=by omega
     obtain⟨X,hX⟩:∃X,X=Xw p k 1:=⟨_,rfl⟩
     obtain⟨Y,hY⟩:∃Y,Y=Xw q k 1:=⟨_,rfl⟩
     rw[<-hX,<-hY] at hR2;have HA:=zh (fun W=>((PH W p' (by omega) (by omega)).mono fun _ _ h=>⟨h.1.trans (by rw[<-hk]),h.2.symm⟩:Calls prog 138 #[.int .i64 p'] W fun e w'=>e= .returned (.int .i64 (k:Int))/\W=w'));have hp1:=fun W=>T9 W p k k rfl (by omega) a3 a4;have hp2:=fun W=>T9 W q k k rfl (by omega) (by omega) a2;unfold PowPost at hp1 hp2;rw[<-hX] at hp1;rw[<-hY] at hp2;have hzc:(p<0\/0<p)\/(p<=0/\0<=p/\0<=p'):=by omega
     have HR:=zh hR2;have HX1:=zh (fun x (h:X=some x)=>Jq k 1 x (by omega) (by omega) (hX.symm.trans h));have HY1:=zh (fun y (h:Y=some y)=>Jq k 1 y (by omega) (by omega) (hY.symm.trans h));have HX2:=zh (fun x (h:X=some x) (hp:p≠0)=>XZ hp k 1 x (by omega) (hX.symm.trans h));have HY2:=zh (fun y (h:Y=some y)=>XZ (show q≠0 by omega) k 1 y (by omega) (hY.symm.trans h));clear hR2 hk hX hY hz0;cases X with
     |none=>
      have HP1:=zh (fun W=>(hp1 W:Calls prog 166 #[.int .i64 p,.int .i64 (k:Int)] W fun e w'=>e= .returned (.tuple #[.int .i64 0,.bool false])/\W=w'));have HP2:=zh hp2;have HE:=zh (show R= .error 6 from HR.out);clear HX1 HX2 HR HY1 HY2 hp1 hp2;rcases hzc with hp0|⟨hp0,hp3,hp4⟩
      ·rw[decide_eq_false (show¬(p<=0/\0<=p) by omega)] at tp;go_enter func105,ntmps105;go_wp2_with fail
       refine HN.out.mono ?_;rintro e w1 ⟨rfl,hb⟩;have HB1:=hbn HB hb;have HW1:=zh hb;obtain⟨hc,hf⟩:=QN hb;have hz:=hb.size;simp at hz;clear hb;go_wp2_with fail
       refine(HV.out _).mono ?_;rw[HVV.out];rintro e w2 ⟨rfl,hb⟩;have HB2:=hbn HB1 hb;have HW2:=hbn HW1 hb;clear hc hf;obtain⟨hc,hf⟩:=QN HW2.out;have hz2:=hb.size;clear hb;go_wp2
       go_quiet (first|((go_at_call 138;exact J1 (fun W=>HA.out W)))|((go_at_call 166;exact J1 (fun W=>HP1.out W))))
       go_wp2
       go_quiet (first|((go_at_call 138;exact Gu (fun W=>HA.out W)))|((go_at_call 166;exact Gu (fun W=>HP2.out W))))
       go_wp2;refine zr (by simp[results,results105,go_sem,hc]<;>rfl) ?_;exact QZ HE.out (QD (below_drewN HB2.out _) (by omega) _ _)
      ·rw[decide_eq_true (show p<=0/\0<=p from⟨hp0,hp3⟩)] at tp;go_enter func105,ntmps105;go_wp2_with fail
       refine HN.out.mono ?_;rintro e w1 ⟨rfl,hb⟩;have HB1:=hbn HB hb;have HW1:=zh hb;obtain⟨hc,hf⟩:=QN hb;have hz:=hb.size;simp at hz;clear hb;go_wp2_with fail
       refine(HV.out _).mono ?_;rw[HVV.out];rintro e w2 ⟨rfl,hb⟩;have HB2:=hbn HB1 hb;have HW2:=hbn HW1 hb;clear hc hf;obtain⟨hc,hf⟩:=QN HW2.out;have hz2:=hb.size;clear hb;go_wp2
       go_quiet (first|((go_at_call 138;exact J1 (fun W=>HA.out W)))|((go_at_call 166;exact J1 (fun W=>HP1.out W))))
       go_wp2
       go_quiet (first|((go_at_call 138;exact Gu (fun W=>HA.out W)))|((go_at_call 166;exact Gu (fun W=>HP2.out W))))
       go_wp2;refine zr (by simp[results,results105,go_sem,hc]<;>rfl) ?_;exact QZ HE.out (QD (below_drewN HB2.out _) (by omega) _ _)
     |some x=>
      have HP1:=zh (fun W=>(hp1 W:Calls prog 166 #[.int .i64 p,.int .i64 (k:Int)] W fun e w'=>e= .returned (.tuple #[.int .i64 x,.bool true])/\W=w'));clear hp1;cases Y with
      |none=>
       have HP2:=zh (fun W=>(hp2 W:Calls prog 166 #[.int .i64 q,.int .i64 (k:Int)] W fun e w'=>e= .returned (.tuple #[.int .i64 0,.bool false])/\W=w'));have HE:=zh (show R= .error 6 from HR.out);clear HX1 HX2 HR HY1 HY2 hp2;rcases hzc with hp0|⟨hp0,hp3,hp4⟩
       ·rw[decide_eq_false (show¬(p<=0/\0<=p) by omega)] at tp;go_enter func105,ntmps105;go_wp2_with fail
        refine HN.out.mono ?_;rintro e w1 ⟨rfl,hb⟩;have HB1:=hbn HB hb;have HW1:=zh hb;obtain⟨hc,hf⟩:=QN hb;have hz:=hb.size;simp at hz;clear hb;go_wp2_with fail
        refine(HV.out _).mono ?_;rw[HVV.out];rintro e w2 ⟨rfl,hb⟩;have HB2:=hbn HB1 hb;have HW2:=hbn HW1 hb;clear hc hf;obtain⟨hc,hf⟩:=QN HW2.out;have hz2:=hb.size;clear hb;go_wp2
        go_quiet (first|((go_at_call 138;exact J1 (fun W=>HA.out W)))|((go_at_call 166;exact J1 (fun W=>HP1.out W))))
        go_wp2
        go_quiet (first|((go_at_call 138;exact Gu (fun W=>HA.out W)))|((go_at_call 166;exact Gu (fun W=>HP2.out W))))
        go_wp2;refine zr (by simp[results,results105,go_sem,hc]<;>rfl) ?_;exact QZ HE.out (QD (below_drewN HB2.out _) (by omega) _ _)
       ·rw[decide_eq_true (show p<=0/\0<=p from⟨hp0,hp3⟩)] at tp;go_enter func105,ntmps105;go_wp2_with fail
        refine HN.out.mono ?_;rintro e w1 ⟨rfl,hb⟩;have HB1:=hbn HB hb;have HW1:=zh hb;obtain⟨hc,hf⟩:=QN hb;have hz:=hb.size;simp at hz;clear hb;go_wp2_with fail
        refine(HV.out _).mono ?_;rw[HVV.out];rintro e w2 ⟨rfl,hb⟩;have HB2:=hbn HB1 hb;have HW2:=hbn HW1 hb;clear hc hf;obtain⟨hc,hf⟩:=QN HW2.out;have hz2:=hb.size;clear hb;go_wp2
        go_quiet (first|((go_at_call 138;exact J1 (fun W=>HA.out W)))|((go_at_call 166;exact J1 (fun W=>HP1.out W))))
        go_wp2
        go_quiet (first|((go_at_call 138;exact Gu (fun W=>HA.out W)))|((go_at_call 166;exact Gu (fun W=>HP2.out W))))
        go_wp2;refine zr (by simp[results,results105,go_sem,hc]<;>rfl) ?_;exact QZ HE.out (QD (below_drewN HB2.out _) (by omega) _ _)
      |some y=>
       have HP2:=zh (fun W=>(hp2 W:Calls prog 166 #[.int .i64 q,.int .i64 (k:Int)] W fun e w'=>e= .returned (.tuple #[.int .i64 y,.bool true])/\W=w'));obtain⟨x1,x2⟩:=HX1.out x rfl;obtain⟨y1,y2⟩:=HY1.out y rfl;have yn:=HY2.out y rfl;clear hp2;rcases hzc with hp0|⟨hp0,hp3,hp4⟩
       ·rw[decide_eq_false (show¬(p<=0/\0<=p) by omega)] at tp;have xn:=HX2.out x rfl (by omega);by_cases hneg:p'<0
        ·have HE:=zh (show JS y x=R from by rw[HR.out,decide_eq_true hneg];rfl);clear HX1 HX2 HR HY1 HY2;go_enter func105,ntmps105;go_wp2_with fail
         refine HN.out.mono ?_;rintro e w1 ⟨rfl,hb⟩;have HB1:=hbn HB hb;have HW1:=zh hb;obtain⟨hc,hf⟩:=QN hb;have hz:=hb.size;simp at hz;clear hb;go_wp2_with fail
         refine(HV.out _).mono ?_;rw[HVV.out];rintro e w2 ⟨rfl,hb⟩;have HB2:=hbn HB1 hb;have HW2:=hbn HW1 hb;clear hc hf;obtain⟨hc,hf⟩:=QN HW2.out;have hz2:=hb.size;clear hb;go_wp2
         go_quiet (first|((go_at_call 138;exact J1 (fun W=>HA.out W)))|((go_at_call 166;exact J1 (fun W=>HP1.out W))))
         go_wp2
         go_quiet (first|((go_at_call 138;exact Gu (fun W=>HA.out W)))|((go_at_call 166;exact Gu (fun W=>HP2.out W))))
         go_wp2_with fail
         refine(KA _ y x (by omega) (by omega) (by omega) (by omega) xn).mono ?_;rw[HE.out];rintro e w4 ⟨rfl,hb⟩;have HB4:=hbn (below_drewN HB2.out _) hb;have HW4:=hbn (below_drewN HW2.out _) hb;clear hc hf;obtain⟨hc,hf⟩:=QN HW4.out;have hz4:=hb.size;simp at hz4;clear hb;go_wp2;refine zr (by simp[results,results105,go_sem,hc]<;>rfl) ?_;refine Qz (QD HB4.out ?_ _ _);omega
        ·have HE:=zh (show JS x y=R from by rw[HR.out,decide_eq_false hneg];rfl);clear HX1 HX2 HR HY1 HY2;go_enter func105,ntmps105;go_wp2_with fail
         refine HN.out.mono ?_;rintro e w1 ⟨rfl,hb⟩;have HB1:=hbn HB hb;have HW1:=zh hb;obtain⟨hc,hf⟩:=QN hb;have hz:=hb.size;simp at hz;clear hb;go_wp2_with fail
         refine(HV.out _).mono ?_;rw[HVV.out];rintro e w2 ⟨rfl,hb⟩;have HB2:=hbn HB1 hb;have HW2:=hbn HW1 hb;clear hc hf;obtain⟨hc,hf⟩:=QN HW2.out;have hz2:=hb.size;clear hb;go_wp2
         go_quiet (first|((go_at_call 138;exact J1 (fun W=>HA.out W)))|((go_at_call 166;exact J1 (fun W=>HP1.out W))))
         go_wp2
         go_quiet (first|((go_at_call 138;exact Gu (fun W=>HA.out W)))|((go_at_call 166;exact Gu (fun W=>HP2.out W))))
         go_wp2_with fail
         refine(KA _ x y (by omega) (by omega) (by omega) (by omega) yn).mono ?_;rw[HE.out];rintro e w4 ⟨rfl,hb⟩;have HB4:=hbn (below_drewN HB2.out _) hb;have HW4:=hbn (below_drewN HW2.out _) hb;clear hc hf;obtain⟨hc,hf⟩:=QN HW4.out;have hz4:=hb.size;simp at hz4;clear hb;go_wp2;refine zr (by simp[results,results105,go_sem,hc]<;>rfl) ?_;refine Qz (QD HB4.out ?_ _ _);omega
       ·rw[decide_eq_true (show p<=0/\0<=p from⟨hp0,hp3⟩)] at tp;have HE:=zh (show JS x y=R from by rw[HR.out,decide_eq_false (by omega)];rfl);clear HX1 HX2 HR HY1 HY2;go_enter func105,ntmps105;go_wp2_with fail
        refine HN.out.mono ?_;rintro e w1 ⟨rfl,hb⟩;have HB1:=hbn HB hb;have HW1:=zh hb;obtain⟨hc,hf⟩:=QN hb;have hz:=hb.size;simp at hz;clear hb;go_wp2_with fail
        refine(HV.out _).mono ?_;rw[HVV.out];rintro e w2 ⟨rfl,hb⟩;have HB2:=hbn HB1 hb;have HW2:=hbn HW1 hb;clear hc hf;obtain⟨hc,hf⟩:=QN HW2.out;have hz2:=hb.size;clear hb;go_wp2
        go_quiet (first|((go_at_call 138;exact J1 (fun W=>HA.out W)))|((go_at_call 166;exact J1 (fun W=>HP1.out W))))
        go_wp2
        go_quiet (first|((go_at_call 138;exact Gu (fun W=>HA.out W)))|((go_at_call 166;exact Gu (fun W=>HP2.out W))))
        go_wp2_with fail
        refine(KA _ x y (by omega) (by omega) (by omega) (by omega) yn).mono ?_;rw[HE.out];rintro e w4 ⟨rfl,hb⟩;have HB4:=hbn (below_drewN HB2.out _) hb;have HW4:=hbn (below_drewN HW2.out _) hb;clear hc hf;obtain⟨hc,hf⟩:=QN HW4.out;have hz4:=hb.size;simp at hz4;clear hb;go_wp2;refine zr (by simp[results,results105,go_sem,hc]<;>rfl) ?_;refine Qz (QD HB4.out ?_ _ _);omega
end Go.Proofs.YthkpckgcgkijbaaGreatDoor
