import Derived.Test.YthkpckgcgkijbaaGreatDoorRatC
set_option linter.unusedVariables false
set_option linter.unusedSimpArgs false
set_option maxRecDepth 100000
set_option maxHeartbeats 8000000
namespace Go.Proofs.YthkpckgcgkijbaaGreatDoor
open Go.RowKit Go.Proofs.Lexi Go.Proofs.Tryz
def Uz (nk na:Int) (v x:V):V:=
 if nk=1 then v else if nk≠2 then V.nil else if na=1 then x else if na=2 then JK (YL x) else if na=3 then JK (!YL x) else V.nil
end Go.Proofs.YthkpckgcgkijbaaGreatDoor
namespace Go.Proofs.Lexi
open Go
section
variable {P : Program} {ops : Array Oper} {Q : Exit → Act → World → Prop}
theorem QK {id:Nat} {l:List Oper} {a:Act} {w:World} (hm:P.follows .mixedOrders=true) (hB:En P l.toArray (Region.before l.toArray)=true)
  (h:wpList P l.toArray (Behind l.toArray Q) l a w.drew):(Code.region id l.toArray true).wp P Q a w:=by
 have hQ:OnlyN (Behind l.toArray Q):=fun e a w h=>by cases e<;>first|rfl|exact h.elim
 refine Code.wp_mono (Q:=Behind l.toArray Q) (fun e a w h=>by cases e<;>first|exact h.2|exact h.elim) ?_;refine wp_region_any hm ?_;refine Mu (Co hB) hQ (fun a w h=>h.1) l.toArray.size 0 _ a _ (by simp) (by simp) (fun x hx=>by
  simp only[Array.getD_eq_getD_getElem?,Array.getElem?_replicate,Nat.not_lt_zero,decide_false];split<;>rfl) ?_
 have:=wpOps_eq_wpList (P:=P) (ops:=l.toArray) (Q:=Behind l.toArray Q) l 0 (by simp);simp only[List.size_toArray];rw[this];exact h
end
end Go.Proofs.Lexi
namespace Go.Proofs.YthkpckgcgkijbaaGreatDoor
open Go.RowKit Go.Proofs.Lexi Go.Proofs.Tryz
theorem RZ (w:World) (x y:Int) (a b:Nat) (hx:x=a) (hy:y=b) (ha:a<=9223372036854775807) (hb:b<=9223372036854775807):
  Calls prog 143 #[x,y] w (PureP w (.int .i64 (Nat.gcd a b:Nat))):=by
 subst hx hy;obtain⟨G,hG⟩:∃G,G=Nat.gcd a b:=⟨_,rfl⟩
 rw[<-hG];have HG:=zh hG.symm;clear hG;go_enter func143,ntmps143;go_wp2
 go_loopg [0,1] b (fun gg u v wr=>∃x y n:Nat,wr=w.drewN n/\y=gg/\u= .int .i64 (x:Int)/\v= .int .i64 (y:Int)/\x<=9223372036854775807/\y<=9223372036854775807/\Hid (Nat.gcd x y=G))
 case atStart=>exact⟨a,b,0,rfl,rfl,rfl,rfl,ha,hb,HG⟩
 case round=>
  obtain⟨x,y,n,rfl,rfl,rfl,rfl,h1,h2,h3⟩:=hrel;by_cases h0:y=0
  ·subst h0;have HX:=zh (show(x:Int)=G from by have:=h3.out;rw[Nat.gcd_zero_right] at this;omega);go_wp2
   go_ret
   exact⟨ZB HX.out,n,rfl⟩
  ·have t0:((y:Int) !=0)=true:=by rw[bne_iff_ne];omega
   have hy0:0<y:=by omega
   have hm:=Nat.mod_lt x hy0;have HN:=zh (show Nat.gcd y (x%y)=G from by rw[<-h3.out,Nat.gcd_comm x y];exact(Nat.gcd_rec y x).symm▸(Nat.gcd_comm _ _));clear h0;go_wp2;refine QK mixed (by kernel_rfl) ?_;go_wp2;refine⟨by kernel_rfl,?_⟩;go_wp2
   go_roundg (x%y)
   case measure=>omega
   case rel=>exact⟨y,x%y,_,rfl,rfl,rfl,(by first|rfl|simp),h2,by omega,HN⟩
theorem Jh (w:World) (p q:Int) (hp1: -9223372036854775807<=p) (hp2:p<=9223372036854775807) (hq1: -9223372036854775807<=q) (hq2:q<=9223372036854775807) (h0:q≠0):
  Calls prog 201 #[p,q] w (NumPost w (JS p q)):=by
 obtain⟨P,Q,hPQ⟩:∃P Q:Int,(q<0/\ -p=P/\ -q=Q)\/(0<=q/\p=P/\q=Q):=by
  by_cases h:q<0
  ·exact⟨-p, -q,.inl ⟨h,rfl,rfl⟩⟩
  ·exact⟨p,q,.inr ⟨by omega,rfl,rfl⟩⟩
 have hR:JS p q=KG P Q:=by
  rcases hPQ with⟨h,rfl,rfl⟩|⟨h,rfl,rfl⟩
  ·exact Pa h
  ·exact PZ h
 rw[hR];have hP1: -9223372036854775807<=P:=by omega
 have hP2:P<=9223372036854775807:=by omega
 have hQ1:1<=Q:=by omega
 have hQ2:Q<=9223372036854775807:=by omega
 obtain⟨D,hD⟩:∃D,D=Int.gcd P Q:=⟨_,rfl⟩
 have hD0:0<D:=by rw[hD];exact Kh (by omega)
 have hD1:D<=9223372036854775807:=by
  have:=Int.gcd_le_natAbs_right (a:=P) (b:=Q) (by omega);omega
 have hqp:=GA (P:=P) hD0 hP1 hP2;have hqq:=GA (P:=Q) hD0 (by omega) hQ2;have HTP:=zh (show Int.tdiv P (D:Int)=P/(D:Int) by rw[hD];exact Gg P Q);have HTQ:=zh (show Int.tdiv Q (D:Int)=Q/(D:Int) by rw[hD];exact GL P Q);have HRR:=zh (Kx hD);have HGC:=zh (fun W x y hx hy=>RZ W x y P.natAbs Q.natAbs hx hy (by omega) (by omega));have HDD:=zh (show Nat.gcd P.natAbs Q.natAbs=D from hD.symm);clear hR hD;obtain⟨X,hX⟩:∃X,X=P/(D:Int):=⟨_,rfl⟩
 obtain⟨Y,hY⟩:∃Y,Y=Q/(D:Int):=⟨_,rfl⟩
 rw[<-hX] at hqp HTP HRR;rw[<-hY] at hqq HTQ HRR;have HE:=zh (show X< -2147483647\/2147483647<X\/2147483647<Y->KG P Q= .error 6 from fun h=>HRR.out.trans (YT h));have HO:=zh (show-2147483647<=X->X<=2147483647->Y<=2147483647->KG P Q= .ok (X,Y) from fun h1 h2 h3=>HRR.out.trans (XW h1 h2 h3));have HX:=zh hX;have HY:=zh hY;clear hX hY HRR;rcases hPQ with⟨h,e1,e2⟩|⟨h,rfl,rfl⟩
 ·have t0:decide (q<0)=true:=decide_eq_true h;go_enter func201,ntmps201;go_wp2_with fail
  all_goals
   refine(HGC.out _ _ _ (by omega) (by omega)).mono ?_;rw[HDD.out];rintro e w1 ⟨rfl,n,rfl⟩;clear e1 e2;have htp:=HTP.out;have htq:=HTQ.out;have hyq:=HY.out.symm;go_wp2;refine QK mixed (by kernel_rfl) ?_;go_wp2;refine⟨by kernel_rfl,?_⟩;clear htp htq hyq;go_wp2;all_goals
    refine zr (by simp[results,results201,go_sem]<;>rfl) ?_;first|exact QZ (HE.out (by omega)) (Jc _ _ _ _ _)|exact JI (HO.out (by omega) (by omega) (by omega)) (Jc _ _ _ _ _)
 ·have t0:decide (q<0)=false:=decide_eq_false (by omega);go_enter func201,ntmps201;go_wp2_with fail
  all_goals
   refine(HGC.out _ _ _ (by omega) (by omega)).mono ?_;rw[HDD.out];rintro e w1 ⟨rfl,n,rfl⟩;have htp:=HTP.out;have htq:=HTQ.out;have hyq:=HY.out.symm;go_wp2;refine QK mixed (by kernel_rfl) ?_;go_wp2;refine⟨by kernel_rfl,?_⟩;clear htp htq hyq;go_wp2;all_goals
    refine zr (by simp[results,results201,go_sem]<;>rfl) ?_;first|exact QZ (HE.out (by omega)) (Jc _ _ _ _ _)|exact JI (HO.out (by omega) (by omega) (by omega)) (Jc _ _ _ _ _)
theorem Q5 (w:World) (p q:Int):Calls prog 88 #[.agg #[p,q]] w (BoolPost w (QT (p,q))):=by
 have HB:=zh (Qj w (.cells #[p,q] 23));by_cases h:1<=q/\q<=2147483647/\ -2147483647<=p/\p<=2147483647
 ·obtain⟨h1,h2,h3,h4⟩:=h;have HGC:=zh (fun W x y hx hy=>RZ W x y p.natAbs q.natAbs hx hy (by omega) (by omega));obtain⟨D,hD⟩:∃D,D=Nat.gcd p.natAbs q.natAbs:=⟨_,rfl⟩
  have HV:=zh (XK h1 h2 h3 h4 hD.symm);have HDD:=zh hD.symm;clear hD;go_enter func88,ntmps88;go_wp2_with fail
  all_goals
   refine(HGC.out _ _ _ (by omega) (by omega)).mono ?_;rw[HDD.out];rintro e w1 ⟨rfl,n,rfl⟩;go_wp2
   go_ret
   exact Q9 HV.out.symm (below_drewN HB.out n)
 ·have HV:=zh (UT (p:=p) (q:=q) (by omega));have hc:q<1\/(1<=q/\2147483647<q)\/(1<=q/\q<=2147483647/\p< -2147483647)\/(1<=q/\q<=2147483647/\ -2147483647<=p/\2147483647<p):=by omega
  clear h;rcases hc with k1|⟨k1,k2⟩|⟨k1,k2,k3⟩|⟨k1,k2,k3,k4⟩;all_goals
   go_enter func88,ntmps88;go_wp2
   go_ret
   exact Q9 HV.out.symm HB.out
theorem XT (w:World) (n:Int):Calls prog 207 #[n] w (NumPost w (Jk n)):=by
 by_cases h: -2147483647<=n/\n<=2147483647
 ·obtain⟨h1,h2⟩:=h;have HR:=zh (show Jk n= .ok (n,1) from by unfold Jk;rw[if_pos (inTop_iff.2 ⟨h1,h2⟩)]);go_enter func207,ntmps207;go_wp2;refine zr (by simp[results,results207,go_sem]<;>rfl) ?_;exact JI HR.out (Qj _ _)
 ·have HR:=zh (show Jk n= .error 6 from by unfold Jk;rw[if_neg (fun e=>h (inTop_iff.1 e))]);have hc:n< -2147483647\/(-2147483647<=n/\2147483647<n):=by omega
  clear h;rcases hc with k1|⟨k1,k2⟩;all_goals
   go_enter func207,ntmps207;go_wp2;refine zr (by simp[results,results207,go_sem]<;>rfl) ?_;exact QZ HR.out (Qj _ _)
theorem RB (w:World) (p q:Int):Calls prog 152 #[.agg #[p,q]] w (NumPost w (Pv (p,q))):=by
 have HB:=zh (QE w (.cells #[p,q] 23) (.cells #[(0:Int),(0:Int)] 23));have HV:=zh (Q5 ((w.alloc (.cells #[p,q] 23)).alloc (.cells #[(0:Int),(0:Int)] 23)) p q);cases hv:QT (p,q) with
 |true=>
  have hb:=QO hv;simp only[] at hb;obtain⟨h1,h2,h3,h4⟩:=hb;have HR:=zh (show Pv (p,q)= .ok (-p,q) from by unfold Pv;rw[hv];rfl);have HVV:=zh hv;clear hv;go_enter func152,ntmps152;go_wp2_with fail
  refine HV.out.mono ?_;rw[HVV.out];rintro e w1 ⟨rfl,hb⟩;have HB1:=hbn HB hb;obtain⟨hc,hf⟩:=QN hb;have hz:=hb.size;simp at hz;clear hb;go_wp2;refine zr (by simp[results,results152,go_sem,hc]<;>rfl) ?_;exact JI HR.out (QD HB1.out (Nat.le_succ _) _ _)
 |false=>
  have HR:=zh (show Pv (p,q)= .error 2 from by unfold Pv;rw[hv];rfl);have HVV:=zh hv;clear hv;go_enter func152,ntmps152;go_wp2_with fail
  refine HV.out.mono ?_;rw[HVV.out];rintro e w1 ⟨rfl,hb⟩;have HB1:=hbn HB hb;obtain⟨hc,hf⟩:=QN hb;have hz:=hb.size;simp at hz;clear hb;go_wp2;refine zr (by simp[results,results152,go_sem,hc]<;>rfl) ?_;exact QZ HR.out (QD HB1.out (Nat.le_succ _) _ _)
theorem KZ (w:World) (x y:Int):Calls prog 212 #[x,y] w fun e w'=>e= .returned (.int .i64 (ZV x y))/\w=w':=by
 have hc:x<y\/y<x\/x=y:=by omega
 rcases hc with h|h|rfl
 ·have HR:=zh (show ZV x y= -1 from by unfold ZV;rw[if_pos h]);go_enter func212,ntmps212;go_wp2
  go_ret
  exact⟨ZB HR.out.symm,rfl⟩
 ·have HR:=zh (show ZV x y=1 from by unfold ZV;rw[if_neg (by omega),if_pos h]);have h':¬x<y:=by omega
  go_enter func212,ntmps212;go_wp2
  go_ret
  exact⟨ZB HR.out.symm,rfl⟩
 ·have HR:=zh (show ZV x x=0 from by unfold ZV;rw[if_neg (by omega),if_neg (by omega)]);go_enter func212,ntmps212;go_wp2
  go_ret
  exact⟨ZB HR.out.symm,rfl⟩
theorem Pj (w:World) (c:Nat) (hc:c<=255):Calls prog 252 #[.int .u8 c] w fun e w'=>e= .returned (.int .i64 (Kz c))/\w=w':=by
 have h:(48<=c/\c<=57)\/(97<=c/\c<=122)\/(65<=c/\c<=90)\/(c<48\/(57<c/\(c<65\/(90<c/\(c<97\/122<c))))):=by omega
 rcases h with⟨a,b⟩|⟨a,b⟩|⟨a,b⟩|h
 ·have HR:=zh (show Kz c=c-48 from by unfold Kz;rw[if_pos ⟨a,b⟩]);go_enter func252,ntmps252;go_wp2
  go_ret
  exact⟨ZB HR.out.symm,rfl⟩
 ·have HR:=zh (show Kz c=c-97+10 from by unfold Kz;rw[if_neg (by omega),if_pos ⟨a,b⟩];omega);go_enter func252,ntmps252;go_wp2
  go_ret
  exact⟨ZB HR.out.symm,rfl⟩
 ·have HR:=zh (show Kz c=c-65+10 from by unfold Kz;rw[if_neg (by omega),if_neg (by omega),if_pos ⟨a,b⟩];omega);go_enter func252,ntmps252;go_wp2
  go_ret
  exact⟨ZB HR.out.symm,rfl⟩
 ·have HR:=zh (show Kz c= -1 from by unfold Kz;rw[if_neg (by omega),if_neg (by omega),if_neg (by omega)]);rcases h with h|⟨h,h2|⟨h2,h3|h3⟩⟩;all_goals
   go_enter func252,ntmps252;go_wp2
   go_ret
   exact⟨ZB HR.out.symm,rfl⟩
theorem RI (w:World) (s:ByteArray) (hs:s.size<=2000000000) (k:Nat) (hk:k<=2000000002) (base:Nat) (hb:base=10\/base=16):
  Calls prog 235 #[s,.int .i64 k,.int .i64 base] w fun e w'=>e= .returned (.int .i64 (k+ZT base ((QF s).drop k):Nat))/\w=w':=by
 obtain⟨R,hR⟩:∃R,k+ZT base ((QF s).drop k)=R:=⟨_,rfl⟩
 rw[hR];have HR0:=zh hR;clear hR;go_enter func235,ntmps235;go_wp2
 go_loopg [1] (s.size-k) (fun gg v wr=>∃i:Nat,gg=s.size-i/\v= .int .i64 (i:Int)/\w=wr/\i<=2000000002/\Hid (i+ZT base ((QF s).drop i)=R))
 case atStart=>exact⟨k,rfl,rfl,rfl,hk,HR0⟩
 case round=>
  obtain⟨i,rfl,rfl,rfl,hi,HI⟩:=hrel;by_cases hlt:i<s.size
  ·have hst:=PP hlt HI.out;have HD:=zh (Pj w s[i].toNat (Ge _));cases hd:Jd base s[i].toNat with
   |true=>
    have HN:=zh (hst.1 hd);obtain⟨hp1,hdv⟩:=Pk (by omega) hd;have HP:=zh hp1;clear hst hd hp1;go_wp2_with fail
    refine HD.out.mono ?_;rw[HP.out];rintro e w1 ⟨rfl,rfl⟩;go_wp2_with fail
    refine HD.out.mono ?_;rw[HP.out];rintro e w1 ⟨rfl,rfl⟩;go_wp2
    go_roundg (s.size-(i+1))
    case measure=>omega
    case rel=>exact⟨i+1,rfl,rfl,rfl,by omega,HN⟩
   |false=>
    have HN:=zh (hst.2 hd);have hp:=AL hb hd;clear hst hd;obtain⟨z,hz⟩:∃z,z=Kz s[i].toNat:=⟨_,rfl⟩
    rw[<-hz] at hp;have HZ:=zh hz.symm;clear hz;rcases hp with hp|⟨hp,hp2,hp3⟩
    ·go_wp2_with fail
     refine HD.out.mono ?_;rw[HZ.out];rintro e w1 ⟨rfl,rfl⟩;go_wp2
     go_ret
     exact⟨ZB (congrArg (fun n:Nat=>(n:Int)) HN.out),rfl⟩
    ·go_wp2_with fail
     refine HD.out.mono ?_;rw[HZ.out];rintro e w1 ⟨rfl,rfl⟩;go_wp2_with fail
     refine HD.out.mono ?_;rw[HZ.out];rintro e w1 ⟨rfl,rfl⟩;go_wp2
     go_ret
     exact⟨ZB (congrArg (fun n:Nat=>(n:Int)) HN.out),rfl⟩
  ·have HN:=zh (PN (by omega) HI.out);go_wp2
   go_ret
   exact⟨ZB (congrArg (fun n:Nat=>(n:Int)) HN.out),rfl⟩
end Go.Proofs.YthkpckgcgkijbaaGreatDoor
namespace Go.Proofs
open Go.Shelf Go.Proofs.Tryz
open Go.RowKit in
theorem strings_CutPrefix (s p:ByteArray) (w:World):
  Calls prog 195 #[s,p] w fun e w'=>e= .returned (.tuple #[.string ⟨(Lib.trimPrefix s.data.toList p.data.toList).toArray⟩,.bool (Lib.hasPrefix s.data.toList p.data.toList)])/\w'=w:=Any.strings_CutPrefix lays103 s p w
open Go.RowKit Go.Sort Go.Lib in
theorem strconv_Itoa (n:Int) (h0: -9223372036854775808<=n) (h1:n<=9223372036854775807) (w:World) (htab:Lib.TabIs prog w "internal/strconv.uint64pow10" .u64 Lib.pow10Tab):
  Calls prog 211 #[n] w fun e w'=>e= .returned (.string ⟨(Lib.itoa n).toArray⟩)/\∃k os,w'=grow (w.drewN k) os:=Any.strconv_Itoa laysM171 n h0 h1 w htab
open Go.RowKit Go.Lib in
theorem strings_Cut (s sep:ByteArray) (m:Int) (w:World) (hs:s.size<4294967281) (hm:w.cell? ⟨0,0,none⟩=some (.int .i64 m)):
  Calls prog 238 #[s,sep] w fun e w'=>e= .returned (.tuple #[.string ⟨(Lib.cut s.data.toList sep.data.toList).1.toArray⟩,.string ⟨(Lib.cut s.data.toList sep.data.toList).2.1.toArray⟩,.bool (Lib.cut s.data.toList sep.data.toList).2.2])/\∃n,w'=w.drewN n:=Any.strings_Cut lays145 s sep m w hs hm
end Go.Proofs
namespace Go.Proofs.YthkpckgcgkijbaaGreatDoor
open Go.RowKit Go.Proofs.Lexi Go.Proofs.Tryz
theorem SJ (w:World) (s:ByteArray) (hs:s.size<=2000000000):Calls prog 194 #[s] w (TrimPost w (Ys (QF s))):=by
 have hcon:=Any.strings_Trim_laid lays160 (by kernel_rfl) s ⟨#[32,9,10,13]⟩ w (by omega) (by decide) Rf;change Calls prog 233 _ _ (fun e w'=>e= .returned (.string ⟨(Lib.trimS s.data.toList [32,9,10,13]).toArray⟩)/\Below w w w') at hcon;have hb:=UU s;generalize (⟨(Lib.trimS s.data.toList [32,9,10,13]).toArray⟩:ByteArray)=r at hcon hb;have HB:=zh hb;clear hb;go_enter func194,ntmps194;go_wp2_with fail
 refine hcon.mono ?_;rintro e w1 ⟨rfl,hB⟩;go_wp2
 go_ret
 exact⟨⟨_,rfl,HB.out⟩,hB⟩
theorem PX (w:World) (x y:Int) (hx1: -4611686018427387904<=x) (hx2:x<=4611686018427387904) (hy1: -4611686018427387904<=y) (hy2:y<=4611686018427387904) (h0:y≠0):
  Calls prog 206 #[x,y] w (PureP w (.tuple #[.int .i64 (Int.fdiv x y),.int .i64 (Int.fmod x y)])):=by
 obtain⟨T,hT⟩:∃T,T=x.tdiv y:=⟨_,rfl⟩
 obtain⟨M,hM⟩:∃M,M=x.tmod y:=⟨_,rfl⟩
 have hb:=XL (y:=y) hx1 hx2;have hm:=KV (x:=x) h0;have HS:=zh (GG (x:=x) (y:=y));have HL:=zh (GH (x:=x) (y:=y));rw[<-hT,<-hM] at HS HL;have HW:=zh (show wrap64 (x.tdiv y)=T from by rw[hT];exact IntWalk.wrap64_in _ (by omega));have HT:=zh (show x.tdiv y=T from hT.symm);have HM:=zh (show x.tmod y=M from hM.symm);have HP:=zh (show 0<=x->x/y=T/\x%y=M from fun h=>⟨by rw[hT,Int.tdiv_eq_ediv_of_nonneg h],by rw[hM,Int.tmod_eq_emod_of_nonneg h]⟩);have hs1:0<=x->0<=M:=fun h=>by rw[hM];exact Int.tmod_nonneg _ h
 have hs2:x<0->M<=0:=fun h=>by
  rw[hM];have:=Int.tmod_nonneg y (a:= -x) (by omega);rw[Int.neg_tmod] at this;omega
 rw[<-hT] at hb;rw[<-hM] at hm;obtain⟨hb1,hb2⟩:=hb;have hm1: -4611686018427387904<=M:=by omega
 have hm2:M<=4611686018427387904:=by omega
 clear hT hM hm;have hc:((0<=x/\0<y)\/(0<=x/\y<0)\/(x<0/\0<y)\/(x<0/\y<0))/\((M<=0/\0<=M)\/M<0\/0<M):=by omega
 obtain⟨hc,hm0⟩:=hc;have hfin:(M=0\/(0<=x/\0<y)\/(x<0/\y<0))\/(M≠0/\((0<=x/\y<0)\/(x<0/\0<y))):=by omega
 have HFIN:=zh hfin;clear hfin;rcases hc with⟨k1,k2⟩|⟨k1,k2⟩|⟨k1,k2⟩|⟨k1,k2⟩;all_goals
  rcases hm0 with⟨m0,m00⟩|m0|m0;all_goals
   first
   |(exfalso;have:=hs1 (by omega);omega;done)
   |(exfalso;have:=hs2 (by omega);omega;done)
   |skip
 all_goals
  have tm:(M !=0)=decide (M≠0):=by by_cases h:M=0<;>simp[h]
  first|rw[decide_eq_true (show M≠0 by omega)] at tm|rw[decide_eq_false (show¬M≠0 by omega)] at tm
  obtain⟨dm,hdm⟩:∃b,decide (M<0)=b:=⟨_,rfl⟩
  obtain⟨dy,hdy⟩:∃b,decide (y<0)=b:=⟨_,rfl⟩
  clear hs1 hs2;cases dm<;>cases dy
 all_goals
  have hdm2:=hdm;have hdy2:=hdy;simp only[decide_eq_true_eq,decide_eq_false_iff_not] at hdm2 hdy2;first|(exfalso;omega;done)|skip
 all_goals
  clear hdm2 hdy2;go_enter func206,ntmps206;go_wp2;refine QK mixed (by kernel_rfl) ?_;go_wp2;refine⟨by kernel_rfl,?_⟩;first|rw[(HP.out k1).1,(HP.out k1).2]|rw[HW.out,(HP.out k1).2]|rw[HW.out,HM.out]|rw[HT.out,HM.out]
  go_wp2
  go_ret2
  first|exact Di (n:=1) (by rw[(HS.out (by omega)).1,(HS.out (by omega)).2];rfl)|exact Di (n:=1) (by rw[(HL.out (by omega) (by omega)).1,(HL.out (by omega) (by omega)).2];rfl)
theorem YR (w:World) (p q p' q':Int) (F:Nat) (caps:Array Value) (hF:∀args w,(callFunc F args).run prog w= .ok (.enter F args) w) (R:RR)
  (hf:QT (p,q)=true->QT (p',q')=true->∀W,Below w w W->Calls prog F (#[.int .i64 (p*q'),.int .i64 (p'*q)]++caps) W (NumPost W R)):
  Calls prog 199 #[.agg #[p,q],.agg #[p',q'],.func (.func F) #[] caps] w (NumPost w (YI (p,q) (p',q') R)):=by
 have HB:=zh (QM w (o2 p q) (o2 p' q') (o2 0 0));have HV1:=zh (Q5 (((w.alloc (o2 p q)).alloc (o2 p' q')).alloc (o2 0 0)) p q);have HV2:=zh (fun W=>Q5 W p' q');have HF:=zh hf;clear hf;cases hv:QT (p,q) with
 |false=>
  have HR:=zh (show YI (p,q) (p',q') R= .error 2 from by unfold YI;rw[hv];rfl);have HVV:=zh hv;clear hv;go_enter func199,ntmps199;go_wp2_with fail
  refine HV1.out.mono ?_;rw[HVV.out];rintro e w1 ⟨rfl,hb⟩;have HB1:=hbn HB hb;obtain⟨hc,hf⟩:=QN hb;have hz:=hb.size;simp at hz;clear hb;go_wp2;refine zr (by simp[results,results199,go_sem,hc]<;>rfl) ?_;exact QZ HR.out (QD HB1.out (by omega) _ _)
 |true=>
  cases hv2:QT (p',q') with
  |false=>
   have HR:=zh (show YI (p,q) (p',q') R= .error 2 from by unfold YI;rw[hv,hv2];rfl);have HVV:=zh hv;have HVV2:=zh hv2;clear hv hv2;go_enter func199,ntmps199;go_wp2_with fail
   refine HV1.out.mono ?_;rw[HVV.out];rintro e w1 ⟨rfl,hb⟩;have HB1:=hbn HB hb;have HW1:=zh hb;obtain⟨hc,hf⟩:=QN hb;have hz:=hb.size;simp at hz;clear hb;go_wp2_with fail
   refine(HV2.out _).mono ?_;rw[HVV2.out];rintro e w2 ⟨rfl,hb⟩;have HB2:=hbn HB1 hb;have HW2:=hbn HW1 hb;clear hc hf;obtain⟨hc,hf⟩:=QN HW2.out;have hz2:=hb.size;clear hb;go_wp2;refine zr (by simp[results,results199,go_sem,hc]<;>rfl) ?_;exact QZ HR.out (QD HB2.out (by omega) _ _)
  |true=>
   have HR:=zh (show YI (p,q) (p',q') R=R from by unfold YI;rw[hv,hv2];rfl);have hb1:=QO hv;have hb2:=QO hv2;simp only[] at hb1 hb2;obtain⟨a1,a2,a3,a4⟩:=hb1;obtain⟨b1,b2,b3,b4⟩:=hb2;have hm1:=Qe a3 a4 (show-2147483647<=q' by omega) b2;have hm2:=Qe b3 b4 (show-2147483647<=q by omega) a2;have HVV:=zh hv;have HVV2:=zh hv2;clear hv hv2;go_enter func199,ntmps199;go_wp2_with fail
   refine HV1.out.mono ?_;rw[HVV.out];rintro e w1 ⟨rfl,hb⟩;have HB1:=hbn HB hb;have HW1:=zh hb;obtain⟨hc,hf⟩:=QN hb;have hz:=hb.size;simp at hz;clear hb;go_wp2_with fail
   refine(HV2.out _).mono ?_;rw[HVV2.out];rintro e w2 ⟨rfl,hb⟩;have HB2:=hbn HB1 hb;have HW2:=hbn HW1 hb;clear hc hf;obtain⟨hc,hf⟩:=QN HW2.out;have hz2:=hb.size;clear hb;go_wp2_with fail
   refine(HF.out HVV.out HVV2.out _ HB2.out).mono ?_;rintro e w3 ⟨rfl,hb⟩;have HB3:=hbn HB2 hb;clear hc hf;obtain⟨hc,hf⟩:=QN (QC HW2.out hb);have hz3:=hb.size;clear hb;go_wp2;refine zr (by simp[results,results199,go_sem,hc]<;>rfl) ?_;rw[HR.out];exact⟨rfl,QD HB3.out (by omega) _ _⟩
theorem BP (w:World) (x y:Int) (a b:Nat) (hx:x=a) (hy:y=b) (ha:a<=9223372036854775807) (hb:b<=9223372036854775807):
  Calls prog 137 #[x,y] w (PureP w (.int .i64 (Nat.gcd a b:Nat))):=by
 subst hx hy;obtain⟨G,hG⟩:∃G,G=Nat.gcd a b:=⟨_,rfl⟩
 rw[<-hG];have HG:=zh hG.symm;clear hG;go_enter func137,ntmps137;go_wp2
 go_loopg [0,1] b (fun gg u v wr=>∃x y n:Nat,wr=w.drewN n/\y=gg/\u= .int .i64 (x:Int)/\v= .int .i64 (y:Int)/\x<=9223372036854775807/\y<=9223372036854775807/\Hid (Nat.gcd x y=G))
 case atStart=>exact⟨a,b,0,rfl,rfl,rfl,rfl,ha,hb,HG⟩
 case round=>
  obtain⟨x,y,n,rfl,rfl,rfl,rfl,h1,h2,h3⟩:=hrel;by_cases h0:y=0
  ·subst h0;have HX:=zh (show(x:Int)=G from by have:=h3.out;rw[Nat.gcd_zero_right] at this;omega);go_wp2
   go_ret
   exact⟨ZB HX.out,n,rfl⟩
  ·have t0:((y:Int) !=0)=true:=by rw[bne_iff_ne];omega
   have hy0:0<y:=by omega
   have hm:=Nat.mod_lt x hy0;have HN:=zh (show Nat.gcd y (x%y)=G from by rw[<-h3.out,Nat.gcd_comm x y];exact(Nat.gcd_rec y x).symm▸(Nat.gcd_comm _ _));clear h0;go_wp2;refine QK mixed (by kernel_rfl) ?_;go_wp2;refine⟨by kernel_rfl,?_⟩;go_wp2
   go_roundg (x%y)
   case measure=>omega
   case rel=>exact⟨y,x%y,_,rfl,rfl,rfl,(by first|rfl|simp),h2,by omega,HN⟩
theorem PH (w:World) (x:Int) (h1: -9223372036854775807<=x) (h2:x<=9223372036854775807):Calls prog 138 #[x] w fun e w'=>e= .returned (.int .i64 (x.natAbs:Int))/\w'=w:=by
 by_cases h:x<0;all_goals
  go_enter func138,ntmps138;go_wp2
  go_ret
  exact⟨ZB (by omega),rfl⟩
theorem Q7 (w:World) (p q:Int):Calls prog 81 #[.agg #[p,q]] w (BoolPost w (QT (p,q))):=by
 have HB:=zh (Qj w (.cells #[p,q] 23));by_cases h:1<=q/\q<=2147483647/\ -2147483647<=p/\p<=2147483647
 ·obtain⟨h1,h2,h3,h4⟩:=h;have HGC:=zh (fun W x y hx hy=>BP W x y p.natAbs q.natAbs hx hy (by omega) (by omega));have HA1:=zh (fun W=>PH W p (by omega) (by omega));obtain⟨D,hD⟩:∃D,D=Nat.gcd p.natAbs q.natAbs:=⟨_,rfl⟩
  have HV:=zh (XK h1 h2 h3 h4 hD.symm);rw[<-hD] at HGC;have hq:q=(q.natAbs:Int):=by omega
  have HQ:=zh hq;have d1:decide (1<=q)=true:=decide_eq_true h1;have d2:decide (q<=2147483647)=true:=decide_eq_true h2;have d3:decide (-2147483647<=p)=true:=decide_eq_true h3;have d4:decide (p<=2147483647)=true:=decide_eq_true h4;clear hD hq;go_enter func81,ntmps81;go_wp2
  go_quiet (first|((go_at_call 138;exact Calls.quiet_of_same (HA1.out _)))|((go_at_call 137;exact Calls.quiet_of (HGC.out _ _ _ rfl HQ.out))))
  go_wp2
  go_ret
  exact Q9 HV.out.symm (below_drewN HB.out _)
 ·have HV:=zh (UT (p:=p) (q:=q) (by omega));have hc:q<1\/(1<=q/\2147483647<q)\/(1<=q/\q<=2147483647/\2147483647<p)\/(1<=q/\q<=2147483647/\p<=2147483647/\p< -2147483647):=by omega
  clear h;rcases hc with k1|⟨k1,k2⟩|⟨k1,k2,k3⟩|⟨k1,k2,k3,k4⟩
  ·have d1:decide (1<=q)=false:=decide_eq_false (by omega);go_enter func81,ntmps81;go_wp2
   go_quiet (fail)
   go_wp2
   go_ret
   exact Q9 HV.out.symm (below_drewN HB.out _)
  ·have d1:decide (1<=q)=true:=decide_eq_true k1;have d2:decide (q<=2147483647)=false:=decide_eq_false (by omega);go_enter func81,ntmps81;go_wp2
   go_quiet (fail)
   go_wp2
   go_ret
   exact Q9 HV.out.symm (below_drewN HB.out _)
  ·have d1:decide (1<=q)=true:=decide_eq_true k1;have d2:decide (q<=2147483647)=true:=decide_eq_true k2;have d4:decide (p<=2147483647)=false:=decide_eq_false (by omega);go_enter func81,ntmps81;go_wp2
   go_quiet (fail)
   go_wp2
   go_ret
   exact Q9 HV.out.symm (below_drewN HB.out _)
  ·have d1:decide (1<=q)=true:=decide_eq_true k1;have d2:decide (q<=2147483647)=true:=decide_eq_true k2;have d4:decide (p<=2147483647)=true:=decide_eq_true k3;have d3:decide (-2147483647<=p)=false:=decide_eq_false (by omega);go_enter func81,ntmps81;go_wp2
   go_quiet (fail)
   go_wp2
   go_ret
   exact Q9 HV.out.symm (below_drewN HB.out _)
theorem SG (W:World) (x y:Int) (hx1: -4611686014132420609<=x) (hx2:x<=4611686014132420609) (hy1: -4611686014132420609<=y) (hy2:y<=4611686014132420609) (b1 b2:Nat) (p q p' q':Int) (c1:W.cell? ⟨b1,1,none⟩=some (.int .i64 q)) (c2:W.cell? ⟨b2,1,none⟩=some (.int .i64 q')) (c3:W.cell? b1=some (.int .i64 p)) (c4:W.cell? b2=some (.int .i64 p')) (a1:1<=q) (a2:q<=2147483647) (a3: -2147483647<=p) (a4:p<=2147483647) (b1':1<=q') (b2':q'<=2147483647) (b3': -2147483647<=p') (b4':p'<=2147483647):Calls prog 200 #[x,y,b1,b2] W (NumPost W (JS (x+y) (q*q'))):=by
 have l1:=World.block_lt_of_cell? _ _ c1;have l2:=World.block_lt_of_cell? _ _ c2;simp only[] at l1 l2;have hqq:=Qe (show-2147483647<=q by omega) a2 (show-2147483647<=q' by omega) b2';have hq0:0<q*q':=Int.mul_pos (by omega) (by omega);have HA:=zh (Qj W (o2 0 0));go_enter func200,ntmps200;go_wp2_with fail
 all_goals
  refine(Jh _ _ _ (by omega) (by omega) (by omega) (by omega) (by omega)).mono ?_;rintro e w1 ⟨rfl,hb⟩;obtain⟨hc,hf⟩:=QN hb;have hz:=hb.size;simp at hz;have HB:=hbn HA hb;clear hb;go_wp2;refine zr (by simp[results,results200,go_sem,hc]<;>rfl) ?_;exact Qz (QD HB.out zl _ _)
theorem B8 (W:World) (x y:Int) (hx1: -4611686014132420609<=x) (hx2:x<=4611686014132420609) (hy1: -4611686014132420609<=y) (hy2:y<=4611686014132420609) (b1 b2:Nat) (p q p' q':Int) (c1:W.cell? ⟨b1,1,none⟩=some (.int .i64 q)) (c2:W.cell? ⟨b2,1,none⟩=some (.int .i64 q')) (c3:W.cell? b1=some (.int .i64 p)) (c4:W.cell? b2=some (.int .i64 p')) (a1:1<=q) (a2:q<=2147483647) (a3: -2147483647<=p) (a4:p<=2147483647) (b1':1<=q') (b2':q'<=2147483647) (b3': -2147483647<=p') (b4':p'<=2147483647):Calls prog 202 #[x,y,b1,b2] W (NumPost W (JS (x-y) (q*q'))):=by
 have l1:=World.block_lt_of_cell? _ _ c1;have l2:=World.block_lt_of_cell? _ _ c2;simp only[] at l1 l2;have hqq:=Qe (show-2147483647<=q by omega) a2 (show-2147483647<=q' by omega) b2';have hq0:0<q*q':=Int.mul_pos (by omega) (by omega);have HA:=zh (Qj W (o2 0 0));go_enter func202,ntmps202;go_wp2_with fail
 all_goals
  refine(Jh _ _ _ (by omega) (by omega) (by omega) (by omega) (by omega)).mono ?_;rintro e w1 ⟨rfl,hb⟩;obtain⟨hc,hf⟩:=QN hb;have hz:=hb.size;simp at hz;have HB:=hbn HA hb;clear hb;go_wp2;refine zr (by simp[results,results202,go_sem,hc]<;>rfl) ?_;exact Qz (QD HB.out zl _ _)
theorem SC (W:World) (x y:Int) (b1 b2:Nat) (p q p' q':Int) (c1:W.cell? ⟨b1,1,none⟩=some (.int .i64 q)) (c2:W.cell? ⟨b2,1,none⟩=some (.int .i64 q')) (c3:W.cell? b1=some (.int .i64 p)) (c4:W.cell? b2=some (.int .i64 p')) (a1:1<=q) (a2:q<=2147483647) (a3: -2147483647<=p) (a4:p<=2147483647) (b1':1<=q') (b2':q'<=2147483647) (b3': -2147483647<=p') (b4':p'<=2147483647):Calls prog 203 #[x,y,b1,b2] W (NumPost W (JS (p*p') (q*q'))):=by
 have l1:=World.block_lt_of_cell? _ _ c1;have l2:=World.block_lt_of_cell? _ _ c2;simp only[] at l1 l2;have hqq:=Qe (show-2147483647<=q by omega) a2 (show-2147483647<=q' by omega) b2';have hq0:0<q*q':=Int.mul_pos (by omega) (by omega);have hpp:=Qe a3 a4 b3' b4';have HA:=zh (Qj W (o2 0 0));go_enter func203,ntmps203;go_wp2_with fail
 all_goals
  refine(Jh _ _ _ (by omega) (by omega) (by omega) (by omega) (by omega)).mono ?_;rintro e w1 ⟨rfl,hb⟩;obtain⟨hc,hf⟩:=QN hb;have hz:=hb.size;simp at hz;have HB:=hbn HA hb;clear hb;go_wp2;refine zr (by simp[results,results203,go_sem,hc]<;>rfl) ?_;exact Qz (QD HB.out zl _ _)
theorem SF (W:World) (x y:Int) (hx1: -4611686014132420609<=x) (hx2:x<=4611686014132420609) (hy1: -4611686014132420609<=y) (hy2:y<=4611686014132420609):Calls prog 204 #[x,y] W (NumPost W (if y=0 then .error 7 else JS x y:RR)):=by
 by_cases h0:y=0
 ·subst h0;have HA:=zh (Qj W (o2 0 0));go_enter func204,ntmps204;go_wp2;refine zr (by simp[results,results204,go_sem]<;>rfl) ?_;exact QZ (c:=7) rfl HA.out
 have ty:(y==0)=false:=by rw[beq_eq_false_iff_ne];exact h0
 rw[show(if y=0 then .error 7 else JS x y:RR)=JS x y from if_neg h0];have HA:=zh (Qj W (o2 0 0));go_enter func204,ntmps204;go_wp2_with fail
 all_goals
  refine(Jh _ _ _ (by omega) (by omega) (by omega) (by omega) h0).mono ?_;rintro e w1 ⟨rfl,hb⟩;obtain⟨hc,hf⟩:=QN hb;have hz:=hb.size;simp at hz;have HB:=hbn HA hb;clear hb;go_wp2;refine zr (by simp[results,results204,go_sem,hc]<;>rfl) ?_;exact Qz (QD HB.out zl _ _)
theorem L9 (W:World) (x y:Int) (hx1: -4611686014132420609<=x) (hx2:x<=4611686014132420609) (hy1: -4611686014132420609<=y) (hy2:y<=4611686014132420609):Calls prog 205 #[x,y] W (NumPost W (if y=0 then .error 7 else Jk (Int.fdiv x y):RR)):=by
 by_cases h0:y=0
 ·subst h0;have HA:=zh (Qj W (o2 0 0));go_enter func205,ntmps205;go_wp2;refine zr (by simp[results,results205,go_sem]<;>rfl) ?_;exact QZ (c:=7) rfl HA.out
 have ty:(y==0)=false:=by rw[beq_eq_false_iff_ne];exact h0
 rw[show(if y=0 then .error 7 else Jk (Int.fdiv x y):RR)=Jk (Int.fdiv x y) from if_neg h0];have HA:=zh (Qj W (o2 0 0));go_enter func205,ntmps205;go_wp2_with fail
 all_goals
  refine(PX _ _ _ (by omega) (by omega) (by omega) (by omega) h0).mono ?_;rintro e w0 ⟨rfl,n,rfl⟩;have HD:=zh (below_drewN HA.out n);clear HA;have HA:=HD;clear HD;go_wp2_with fail
  refine(XT _ _).mono ?_;rintro e w1 ⟨rfl,hb⟩;obtain⟨hc,hf⟩:=QN hb;have hz:=hb.size;simp at hz;have HB:=hbn HA hb;clear hb;go_wp2;refine zr (by simp[results,results205,go_sem,hc]<;>rfl) ?_;exact Qz (QD HB.out zl _ _)
theorem SD (W:World) (x y:Int) (hx1: -4611686014132420609<=x) (hx2:x<=4611686014132420609) (hy1: -4611686014132420609<=y) (hy2:y<=4611686014132420609) (b1 b2:Nat) (p q p' q':Int) (c1:W.cell? ⟨b1,1,none⟩=some (.int .i64 q)) (c2:W.cell? ⟨b2,1,none⟩=some (.int .i64 q')) (c3:W.cell? b1=some (.int .i64 p)) (c4:W.cell? b2=some (.int .i64 p')) (a1:1<=q) (a2:q<=2147483647) (a3: -2147483647<=p) (a4:p<=2147483647) (b1':1<=q') (b2':q'<=2147483647) (b3': -2147483647<=p') (b4':p'<=2147483647):Calls prog 208 #[x,y,b1,b2] W (NumPost W (if y=0 then .error 7 else JS (Int.fmod x y) (q*q'):RR)):=by
 have l1:=World.block_lt_of_cell? _ _ c1;have l2:=World.block_lt_of_cell? _ _ c2;simp only[] at l1 l2;have hqq:=Qe (show-2147483647<=q by omega) a2 (show-2147483647<=q' by omega) b2';have hq0:0<q*q':=Int.mul_pos (by omega) (by omega);by_cases h0:y=0
 ·subst h0;have HA:=zh (Qj W (o2 0 0));go_enter func208,ntmps208;go_wp2;refine zr (by simp[results,results208,go_sem]<;>rfl) ?_;exact QZ (c:=7) rfl HA.out
 have ty:(y==0)=false:=by rw[beq_eq_false_iff_ne];exact h0
 rw[show(if y=0 then .error 7 else JS (Int.fmod x y) (q*q'):RR)=JS (Int.fmod x y) (q*q') from if_neg h0];have HA:=zh (Qj W (o2 0 0));go_enter func208,ntmps208;go_wp2_with fail
 all_goals
  have hfm:=Tr (x:=x) h0;refine(PX _ _ _ (by omega) (by omega) (by omega) (by omega) h0).mono ?_;rintro e w0 ⟨rfl,n,rfl⟩;have HD:=zh (below_drewN HA.out n);clear HA;have HA:=HD;clear HD;go_wp2_with fail
  refine(Jh _ _ _ (by omega) (by omega) (by omega) (by omega) (by omega)).mono ?_;rintro e w1 ⟨rfl,hb⟩;obtain⟨hc,hf⟩:=QN hb;have hz:=hb.size;simp at hz;have HB:=hbn HA hb;clear hb;go_wp2;refine zr (by simp[results,results208,go_sem,hc]<;>rfl) ?_;exact Qz (QD HB.out zl _ _)
theorem RH (w:World) (p q p' q':Int):Calls prog 145 #[.agg #[p,q],.agg #[p',q']] w (NumPost w (La (p,q) (p',q'))):=by
 have HA:=zh (QM w (o2 p q) (o2 p' q') (o2 0 0));obtain⟨R,hR⟩:∃R,R=La (p,q) (p',q'):=⟨_,rfl⟩
 rw[<-hR];have HW:=zh (show Calls prog 199 #[.agg #[p,q],.agg #[p',q'],.func (.func 200) #[] #[.pointer (some w),.pointer (some ⟨w+1,0,none⟩)]] (((w.alloc (o2 p q)).alloc (o2 p' q')).alloc (o2 0 0)) (NumPost (((w.alloc (o2 p q)).alloc (o2 p' q')).alloc (o2 0 0)) R) from by
  rw[hR];exact YR (((w.alloc (o2 p q)).alloc (o2 p' q')).alloc (o2 0 0)) p q p' q' 200 #[.pointer (some w),.pointer (some ⟨w+1,0,none⟩)] (fun args w=>by kernel_rfl) (JS (p*q'+p'*q) (q*q')) (fun hv hv2 W hW=>by
   have hb1:=QO hv;have hb2:=QO hv2;simp only[] at hb1 hb2;obtain⟨a1,a2,a3,a4⟩:=hb1;obtain⟨b1,b2,b3,b4⟩:=hb2;have m1:=Qe a3 a4 (show-2147483647<=q' by omega) b2;have m2:=Qe b3 b4 (show-2147483647<=q by omega) a2;have k0:W.cell? w=some (.int .i64 p):=by rw[(QN hW).1 _ _ (by simp;omega)];simp[go_sem]
   have k1:W.cell? ⟨w,1,none⟩=some (.int .i64 q):=by rw[(QN hW).1 _ _ (by simp;omega)];simp[go_sem]
   have k2:W.cell? ⟨w+1,0,none⟩=some (.int .i64 p'):=by rw[(QN hW).1 _ _ (by simp)];simp[go_sem]
   have k3:W.cell? ⟨w+1,1,none⟩=some (.int .i64 q'):=by rw[(QN hW).1 _ _ (by simp)];simp[go_sem]
   exact SG W _ _ m1.1 m1.2 m2.1 m2.2 _ _ p q p' q' k1 k3 k0 k2 a1 a2 a3 a4 b1 b2 b3 b4))
 clear hR;go_enter func145,ntmps145;go_wp2_with fail
 refine HW.out.mono ?_;rintro e w1 ⟨rfl,hb⟩;obtain⟨hc,hf⟩:=QN hb;have hz:=hb.size;simp at hz;have HB:=hbn HA hb;clear hb;go_wp2;refine zr (by simp[results,results145,go_sem,hc]<;>rfl) ?_;refine Qz (QD HB.out ?_ _ _);omega
theorem S9 (w:World) (p q p' q':Int):Calls prog 146 #[.agg #[p,q],.agg #[p',q']] w (NumPost w (M7 (p,q) (p',q'))):=by
 have HA:=zh (QM w (o2 p q) (o2 p' q') (o2 0 0));obtain⟨R,hR⟩:∃R,R=M7 (p,q) (p',q'):=⟨_,rfl⟩
 rw[<-hR];have HW:=zh (show Calls prog 199 #[.agg #[p,q],.agg #[p',q'],.func (.func 202) #[] #[.pointer (some w),.pointer (some ⟨w+1,0,none⟩)]] (((w.alloc (o2 p q)).alloc (o2 p' q')).alloc (o2 0 0)) (NumPost (((w.alloc (o2 p q)).alloc (o2 p' q')).alloc (o2 0 0)) R) from by
  rw[hR];exact YR (((w.alloc (o2 p q)).alloc (o2 p' q')).alloc (o2 0 0)) p q p' q' 202 #[.pointer (some w),.pointer (some ⟨w+1,0,none⟩)] (fun args w=>by kernel_rfl) (JS (p*q'-p'*q) (q*q')) (fun hv hv2 W hW=>by
   have hb1:=QO hv;have hb2:=QO hv2;simp only[] at hb1 hb2;obtain⟨a1,a2,a3,a4⟩:=hb1;obtain⟨b1,b2,b3,b4⟩:=hb2;have m1:=Qe a3 a4 (show-2147483647<=q' by omega) b2;have m2:=Qe b3 b4 (show-2147483647<=q by omega) a2;have k0:W.cell? w=some (.int .i64 p):=by rw[(QN hW).1 _ _ (by simp;omega)];simp[go_sem]
   have k1:W.cell? ⟨w,1,none⟩=some (.int .i64 q):=by rw[(QN hW).1 _ _ (by simp;omega)];simp[go_sem]
   have k2:W.cell? ⟨w+1,0,none⟩=some (.int .i64 p'):=by rw[(QN hW).1 _ _ (by simp)];simp[go_sem]
   have k3:W.cell? ⟨w+1,1,none⟩=some (.int .i64 q'):=by rw[(QN hW).1 _ _ (by simp)];simp[go_sem]
   exact B8 W _ _ m1.1 m1.2 m2.1 m2.2 _ _ p q p' q' k1 k3 k0 k2 a1 a2 a3 a4 b1 b2 b3 b4))
 clear hR;go_enter func146,ntmps146;go_wp2_with fail
 refine HW.out.mono ?_;rintro e w1 ⟨rfl,hb⟩;obtain⟨hc,hf⟩:=QN hb;have hz:=hb.size;simp at hz;have HB:=hbn HA hb;clear hb;go_wp2;refine zr (by simp[results,results146,go_sem,hc]<;>rfl) ?_;refine Qz (QD HB.out ?_ _ _);omega
theorem RC (w:World) (p q p' q':Int):Calls prog 147 #[.agg #[p,q],.agg #[p',q']] w (NumPost w (Av (p,q) (p',q'))):=by
 have HA:=zh (QM w (o2 p q) (o2 p' q') (o2 0 0));obtain⟨R,hR⟩:∃R,R=Av (p,q) (p',q'):=⟨_,rfl⟩
 rw[<-hR];have HW:=zh (show Calls prog 199 #[.agg #[p,q],.agg #[p',q'],.func (.func 203) #[] #[.pointer (some w),.pointer (some ⟨w+1,0,none⟩)]] (((w.alloc (o2 p q)).alloc (o2 p' q')).alloc (o2 0 0)) (NumPost (((w.alloc (o2 p q)).alloc (o2 p' q')).alloc (o2 0 0)) R) from by
  rw[hR];exact YR (((w.alloc (o2 p q)).alloc (o2 p' q')).alloc (o2 0 0)) p q p' q' 203 #[.pointer (some w),.pointer (some ⟨w+1,0,none⟩)] (fun args w=>by kernel_rfl) (JS (p*p') (q*q')) (fun hv hv2 W hW=>by
   have hb1:=QO hv;have hb2:=QO hv2;simp only[] at hb1 hb2;obtain⟨a1,a2,a3,a4⟩:=hb1;obtain⟨b1,b2,b3,b4⟩:=hb2;have m1:=Qe a3 a4 (show-2147483647<=q' by omega) b2;have m2:=Qe b3 b4 (show-2147483647<=q by omega) a2;have k0:W.cell? w=some (.int .i64 p):=by rw[(QN hW).1 _ _ (by simp;omega)];simp[go_sem]
   have k1:W.cell? ⟨w,1,none⟩=some (.int .i64 q):=by rw[(QN hW).1 _ _ (by simp;omega)];simp[go_sem]
   have k2:W.cell? ⟨w+1,0,none⟩=some (.int .i64 p'):=by rw[(QN hW).1 _ _ (by simp)];simp[go_sem]
   have k3:W.cell? ⟨w+1,1,none⟩=some (.int .i64 q'):=by rw[(QN hW).1 _ _ (by simp)];simp[go_sem]
   exact SC W _ _ _ _ p q p' q' k1 k3 k0 k2 a1 a2 a3 a4 b1 b2 b3 b4))
 clear hR;go_enter func147,ntmps147;go_wp2_with fail
 refine HW.out.mono ?_;rintro e w1 ⟨rfl,hb⟩;obtain⟨hc,hf⟩:=QN hb;have hz:=hb.size;simp at hz;have HB:=hbn HA hb;clear hb;go_wp2;refine zr (by simp[results,results147,go_sem,hc]<;>rfl) ?_;refine Qz (QD HB.out ?_ _ _);omega
theorem RE (w:World) (p q p' q':Int):Calls prog 148 #[.agg #[p,q],.agg #[p',q']] w (NumPost w (Bg (p,q) (p',q'))):=by
 have HA:=zh (QM w (o2 p q) (o2 p' q') (o2 0 0));obtain⟨R,hR⟩:∃R,R=Bg (p,q) (p',q'):=⟨_,rfl⟩
 rw[<-hR];have HW:=zh (show Calls prog 199 #[.agg #[p,q],.agg #[p',q'],.func (.func 204) #[] #[]] (((w.alloc (o2 p q)).alloc (o2 p' q')).alloc (o2 0 0)) (NumPost (((w.alloc (o2 p q)).alloc (o2 p' q')).alloc (o2 0 0)) R) from by
  rw[hR];exact YR (((w.alloc (o2 p q)).alloc (o2 p' q')).alloc (o2 0 0)) p q p' q' 204 #[] (fun args w=>by kernel_rfl) (if p'*q=0 then .error 7 else JS (p*q') (p'*q)) (fun hv hv2 W hW=>by
   have hb1:=QO hv;have hb2:=QO hv2;simp only[] at hb1 hb2;obtain⟨a1,a2,a3,a4⟩:=hb1;obtain⟨b1,b2,b3,b4⟩:=hb2;have m1:=Qe a3 a4 (show-2147483647<=q' by omega) b2;have m2:=Qe b3 b4 (show-2147483647<=q by omega) a2;exact SF W _ _ m1.1 m1.2 m2.1 m2.2))
 clear hR;go_enter func148,ntmps148;go_wp2_with fail
 refine HW.out.mono ?_;rintro e w1 ⟨rfl,hb⟩;obtain⟨hc,hf⟩:=QN hb;have hz:=hb.size;simp at hz;have HB:=hbn HA hb;clear hb;go_wp2;refine zr (by simp[results,results148,go_sem,hc]<;>rfl) ?_;refine Qz (QD HB.out ?_ _ _);omega
theorem SA (w:World) (p q p' q':Int):Calls prog 149 #[.agg #[p,q],.agg #[p',q']] w (NumPost w (Dh (p,q) (p',q'))):=by
 have HA:=zh (QM w (o2 p q) (o2 p' q') (o2 0 0));obtain⟨R,hR⟩:∃R,R=Dh (p,q) (p',q'):=⟨_,rfl⟩
 rw[<-hR];have HW:=zh (show Calls prog 199 #[.agg #[p,q],.agg #[p',q'],.func (.func 205) #[] #[]] (((w.alloc (o2 p q)).alloc (o2 p' q')).alloc (o2 0 0)) (NumPost (((w.alloc (o2 p q)).alloc (o2 p' q')).alloc (o2 0 0)) R) from by
  rw[hR];exact YR (((w.alloc (o2 p q)).alloc (o2 p' q')).alloc (o2 0 0)) p q p' q' 205 #[] (fun args w=>by kernel_rfl) (if p'*q=0 then .error 7 else Jk (Int.fdiv (p*q') (p'*q))) (fun hv hv2 W hW=>by
   have hb1:=QO hv;have hb2:=QO hv2;simp only[] at hb1 hb2;obtain⟨a1,a2,a3,a4⟩:=hb1;obtain⟨b1,b2,b3,b4⟩:=hb2;have m1:=Qe a3 a4 (show-2147483647<=q' by omega) b2;have m2:=Qe b3 b4 (show-2147483647<=q by omega) a2;exact L9 W _ _ m1.1 m1.2 m2.1 m2.2))
 clear hR;go_enter func149,ntmps149;go_wp2_with fail
 refine HW.out.mono ?_;rintro e w1 ⟨rfl,hb⟩;obtain⟨hc,hf⟩:=QN hb;have hz:=hb.size;simp at hz;have HB:=hbn HA hb;clear hb;go_wp2;refine zr (by simp[results,results149,go_sem,hc]<;>rfl) ?_;refine Qz (QD HB.out ?_ _ _);omega
theorem RD (w:World) (p q p' q':Int):Calls prog 150 #[.agg #[p,q],.agg #[p',q']] w (NumPost w (Bb (p,q) (p',q'))):=by
 have HA:=zh (QM w (o2 p q) (o2 p' q') (o2 0 0));obtain⟨R,hR⟩:∃R,R=Bb (p,q) (p',q'):=⟨_,rfl⟩
 rw[<-hR];have HW:=zh (show Calls prog 199 #[.agg #[p,q],.agg #[p',q'],.func (.func 208) #[] #[.pointer (some w),.pointer (some ⟨w+1,0,none⟩)]] (((w.alloc (o2 p q)).alloc (o2 p' q')).alloc (o2 0 0)) (NumPost (((w.alloc (o2 p q)).alloc (o2 p' q')).alloc (o2 0 0)) R) from by
  rw[hR];exact YR (((w.alloc (o2 p q)).alloc (o2 p' q')).alloc (o2 0 0)) p q p' q' 208 #[.pointer (some w),.pointer (some ⟨w+1,0,none⟩)] (fun args w=>by kernel_rfl) (if p'*q=0 then .error 7 else JS (Int.fmod (p*q') (p'*q)) (q*q')) (fun hv hv2 W hW=>by
   have hb1:=QO hv;have hb2:=QO hv2;simp only[] at hb1 hb2;obtain⟨a1,a2,a3,a4⟩:=hb1;obtain⟨b1,b2,b3,b4⟩:=hb2;have m1:=Qe a3 a4 (show-2147483647<=q' by omega) b2;have m2:=Qe b3 b4 (show-2147483647<=q by omega) a2;have k0:W.cell? w=some (.int .i64 p):=by rw[(QN hW).1 _ _ (by simp;omega)];simp[go_sem]
   have k1:W.cell? ⟨w,1,none⟩=some (.int .i64 q):=by rw[(QN hW).1 _ _ (by simp;omega)];simp[go_sem]
   have k2:W.cell? ⟨w+1,0,none⟩=some (.int .i64 p'):=by rw[(QN hW).1 _ _ (by simp)];simp[go_sem]
   have k3:W.cell? ⟨w+1,1,none⟩=some (.int .i64 q'):=by rw[(QN hW).1 _ _ (by simp)];simp[go_sem]
   exact SD W _ _ m1.1 m1.2 m2.1 m2.2 _ _ p q p' q' k1 k3 k0 k2 a1 a2 a3 a4 b1 b2 b3 b4))
 clear hR;go_enter func150,ntmps150;go_wp2_with fail
 refine HW.out.mono ?_;rintro e w1 ⟨rfl,hb⟩;obtain⟨hc,hf⟩:=QN hb;have hz:=hb.size;simp at hz;have HB:=hbn HA hb;clear hb;go_wp2;refine zr (by simp[results,results150,go_sem,hc]<;>rfl) ?_;refine Qz (QD HB.out ?_ _ _);omega
theorem PU (w:World) (x n:Int) (k:Nat) (hn:n=k) (hk:k<=1000) (h1: -2147483647<=x) (h2:x<=2147483647):Calls prog 209 #[x,n] w (PowPost w (Xw x k 1)):=by
 subst hn;obtain⟨R,hR⟩:∃R,R=Xw x k 1:=⟨_,rfl⟩
 rw[<-hR];have HS:=zh (show PowRel w x k R k (.int .i64 1) (.int .i64 0) w from⟨0,1,rfl,rfl,rfl,rfl,Nat.zero_le _,by omega,by omega,hR.symm⟩);clear hR;go_enter func209,ntmps209;go_wp2
 go_loopg [6,8] k (fun gg u v wr=>PowRel w x k R gg u v wr)
 case atStart=>exact HS.out
 case round=>
  clear HS;obtain⟨j,p,rfl,rfl,rfl,rfl,hj,p1,p2,hp⟩:=hrel;by_cases hlt:j<k
  ·have hm:=Qe p1 p2 h1 h2;obtain⟨d,hd⟩:∃d,k-j=d+1:=⟨k-j-1,by omega⟩
   rw[hd] at hp;obtain⟨y,hy⟩:∃y,y=p*x:=⟨_,rfl⟩
   have hp2:(if UO y then Xw x d y else none)=R:=by rw[hy];exact hp
   have HY:=zh hy;have HD:=zh hd;rw[<-hy] at hm;clear hp hy hd;by_cases hin: -2147483647<=y/\y<=2147483647
   ·rw[if_pos (inTop_iff.2 hin)] at hp2;have HN:=zh (show PowRel w x k R (k-(j+1)) (.int .i64 y) (.int .i64 ((j:Int)+1)) w from⟨j+1,y,rfl,rfl,rfl,rfl,by omega,hin.1,hin.2,by rw[show k-(j+1)=d by have:=HD.out;omega];exact hp2⟩);obtain⟨y1,y2⟩:=hin;have hyy:=HY.out.symm;clear hp2;go_wp2
    go_roundg (k-(j+1))
    case measure=>omega
    case rel=>exact HN.out
   ·rw[if_neg (fun e=>hin (inTop_iff.1 e))] at hp2;have HN:=zh hp2.symm;have hc:2147483647<y\/(y<=2147483647/\y< -2147483647):=by omega
    have hyy:=HY.out.symm;clear hp2 hin;rcases hc with c1|⟨c1,c2⟩;all_goals
     go_wp2
     go_ret2
     exact Pf HN.out rfl
  ·have HN:=zh (show R=some p from by rw[<-hp,show k-j=0 by omega];rfl);clear hp;go_wp2
   go_ret2
   exact Pe HN.out rfl
theorem RG (w:World) (p q p' q':Int):Calls prog 155 #[.agg #[p,q],.agg #[p',q']] w (IntPost w (FY (p,q) (p',q'))):=by
 have HB:=zh (QE w (o2 p q) (o2 p' q'));have HV1:=zh (Q5 ((w.alloc (o2 p q)).alloc (o2 p' q')) p q);have HV2:=zh (fun W=>Q5 W p' q');obtain⟨R,hR⟩:∃R,R=FY (p,q) (p',q'):=⟨_,rfl⟩
 rw[<-hR];have low:(QT (p,q)&&QT (p',q'))=false->(p=p'/\R=ZV q q')\/(p≠p'/\R=ZV p p'/\ZV p p'≠0):=fun h=>by
  unfold FY at hR;rw[h] at hR;by_cases e:p=p'
  ·exact .inl ⟨e,by rw[hR];simp[e]⟩
  ·refine .inr ⟨e,by rw[hR];simp[e],?_⟩;unfold ZV;split
   ·omega
   ·split<;>omega
 have HL:=zh low;have HR0:=zh hR;clear low hR;cases hv:QT (p,q) with
 |false=>
  have HVV:=zh hv;have hoc:=HL.out (by rw[hv];rfl);clear hv HL HR0;rcases hoc with⟨e,hR⟩|⟨e,hR,hne⟩
  ·have HRR:=zh hR;have he:ZV p p'=0:=by rw[e];unfold ZV;rw[if_neg (by omega),if_neg (by omega)]
   clear hR e;go_enter func155,ntmps155;go_wp2_with fail
   refine HV1.out.mono ?_;rw[HVV.out];rintro e w1 ⟨rfl,hb⟩;have HB1:=hbn HB hb;have HW1:=zh hb;obtain⟨hc,hf⟩:=QN hb;have hz:=hb.size;simp at hz;clear hb;go_wp2_with fail
   refine(KZ _ _ _).mono ?_;rw[he];rintro e w3 ⟨rfl,rfl⟩;go_wp2_with fail
   refine(KZ _ _ _).mono ?_;rintro e w3 ⟨rfl,rfl⟩;go_wp2
   go_ret
   exact Qr HRR.out.symm HB1.out
  ·have HRR:=zh hR;obtain⟨o,ho⟩:∃o,o=ZV p p':=⟨_,rfl⟩
   rw[<-ho] at hne HRR;have HOO:=zh ho.symm;have hn2:(o !=0)=true:=by rw[bne_iff_ne];exact hne
   clear hR e hne ho;go_enter func155,ntmps155;go_wp2_with fail
   refine HV1.out.mono ?_;rw[HVV.out];rintro e w1 ⟨rfl,hb⟩;have HB1:=hbn HB hb;have HW1:=zh hb;obtain⟨hc,hf⟩:=QN hb;have hz:=hb.size;simp at hz;clear hb;go_wp2_with fail
   refine(KZ _ _ _).mono ?_;rw[HOO.out];rintro e w3 ⟨rfl,rfl⟩;go_wp2
   go_ret
   exact Qr HRR.out.symm HB1.out
 |true=>
  cases hv2:QT (p',q') with
  |false=>
   have HVV:=zh hv;have HVV2:=zh hv2;have hoc:=HL.out (by rw[hv,hv2];rfl);clear hv hv2 HL HR0;rcases hoc with⟨e,hR⟩|⟨e,hR,hne⟩
   ·have HRR:=zh hR;have he:ZV p p'=0:=by rw[e];unfold ZV;rw[if_neg (by omega),if_neg (by omega)]
    clear hR e;go_enter func155,ntmps155;go_wp2_with fail
    refine HV1.out.mono ?_;rw[HVV.out];rintro e w1 ⟨rfl,hb⟩;have HB1:=hbn HB hb;have HW1:=zh hb;obtain⟨hc,hf⟩:=QN hb;have hz:=hb.size;simp at hz;clear hb;go_wp2_with fail
    refine(HV2.out _).mono ?_;rw[HVV2.out];rintro e w2 ⟨rfl,hb⟩;have HB2:=hbn HB1 hb;clear hc hf;obtain⟨hc,hf⟩:=QN (QC HW1.out hb);have hz2:=hb.size;clear hb;go_wp2_with fail
    refine(KZ _ _ _).mono ?_;rw[he];rintro e w3 ⟨rfl,rfl⟩;go_wp2_with fail
    refine(KZ _ _ _).mono ?_;rintro e w3 ⟨rfl,rfl⟩;go_wp2
    go_ret
    exact Qr HRR.out.symm HB2.out
   ·have HRR:=zh hR;obtain⟨o,ho⟩:∃o,o=ZV p p':=⟨_,rfl⟩
    rw[<-ho] at hne HRR;have HOO:=zh ho.symm;have hn2:(o !=0)=true:=by rw[bne_iff_ne];exact hne
    clear hR e hne ho;go_enter func155,ntmps155;go_wp2_with fail
    refine HV1.out.mono ?_;rw[HVV.out];rintro e w1 ⟨rfl,hb⟩;have HB1:=hbn HB hb;have HW1:=zh hb;obtain⟨hc,hf⟩:=QN hb;have hz:=hb.size;simp at hz;clear hb;go_wp2_with fail
    refine(HV2.out _).mono ?_;rw[HVV2.out];rintro e w2 ⟨rfl,hb⟩;have HB2:=hbn HB1 hb;clear hc hf;obtain⟨hc,hf⟩:=QN (QC HW1.out hb);have hz2:=hb.size;clear hb;go_wp2_with fail
    refine(KZ _ _ _).mono ?_;rw[HOO.out];rintro e w3 ⟨rfl,rfl⟩;go_wp2
    go_ret
    exact Qr HRR.out.symm HB2.out
  |true=>
   have hb1:=QO hv;have hb2:=QO hv2;simp only[] at hb1 hb2;obtain⟨a1,a2,a3,a4⟩:=hb1;obtain⟨b1,b2,b3,b4⟩:=hb2;have m1:=Qe a3 a4 (show-2147483647<=q' by omega) b2;have m2:=Qe b3 b4 (show-2147483647<=q by omega) a2;have HRR:=zh (show R=ZV (p*q') (p'*q) from by rw[HR0.out];unfold FY;rw[hv,hv2];rfl);have HVV:=zh hv;have HVV2:=zh hv2;clear hv hv2 HL HR0;go_enter func155,ntmps155;go_wp2_with fail
   refine HV1.out.mono ?_;rw[HVV.out];rintro e w1 ⟨rfl,hb⟩;have HB1:=hbn HB hb;have HW1:=zh hb;obtain⟨hc,hf⟩:=QN hb;have hz:=hb.size;simp at hz;clear hb;go_wp2_with fail
   refine(HV2.out _).mono ?_;rw[HVV2.out];rintro e w2 ⟨rfl,hb⟩;have HB2:=hbn HB1 hb;clear hc hf;obtain⟨hc,hf⟩:=QN (QC HW1.out hb);have hz2:=hb.size;clear hb;go_wp2_with fail
   refine(KZ _ _ _).mono ?_;rintro e w3 ⟨rfl,rfl⟩;go_wp2
   go_ret
   exact Qr HRR.out.symm HB2.out
theorem RA (w:World) (p q p' q':Int):Calls prog 151 #[.agg #[p,q],.agg #[p',q']] w (NumPost w (Dm (p,q) (p',q'))):=by
 have HB:=zh (QM w (o2 p q) (o2 p' q') (o2 0 0));have HV1:=zh (Q5 (((w.alloc (o2 p q)).alloc (o2 p' q')).alloc (o2 0 0)) p q);have HV2:=zh (fun W=>Q5 W p' q');obtain⟨R,hR⟩:∃R,R=Dm (p,q) (p',q'):=⟨_,rfl⟩
 rw[<-hR];cases hv:QT (p,q) with
 |false=>
  have HR:=zh (show R= .error 2 from by rw[hR];unfold Dm;rw[hv];rfl);have HVV:=zh hv;clear hv hR;go_enter func151,ntmps151;go_wp2_with fail
  refine HV1.out.mono ?_;rw[HVV.out];rintro e w1 ⟨rfl,hb⟩;have HB1:=hbn HB hb;have HW1:=zh hb;obtain⟨hc,hf⟩:=QN hb;have hz:=hb.size;simp at hz;clear hb;go_wp2;refine zr (by simp[results,results151,go_sem,hc]<;>rfl) ?_;exact QZ HR.out (QD HB1.out (by omega) _ _)
 |true=>
  cases hv2:QT (p',q') with
  |false=>
   have HR:=zh (show R= .error 2 from by rw[hR];unfold Dm;rw[hv,hv2];rfl);have HVV:=zh hv;have HVV2:=zh hv2;clear hv hv2 hR;go_enter func151,ntmps151;go_wp2_with fail
   refine HV1.out.mono ?_;rw[HVV.out];rintro e w1 ⟨rfl,hb⟩;have HB1:=hbn HB hb;have HW1:=zh hb;obtain⟨hc,hf⟩:=QN hb;have hz:=hb.size;simp at hz;clear hb;go_wp2_with fail
   refine(HV2.out _).mono ?_;rw[HVV2.out];rintro e w2 ⟨rfl,hb⟩;have HB2:=hbn HB1 hb;clear hc hf;obtain⟨hc,hf⟩:=QN (QC HW1.out hb);have hz2:=hb.size;clear hb;go_wp2;refine zr (by simp[results,results151,go_sem,hc]<;>rfl) ?_;exact QZ HR.out (QD HB2.out (by omega) _ _)
  |true=>
   have hb1:=QO hv;have hb2:=QO hv2;simp only[] at hb1 hb2;obtain⟨a1,a2,a3,a4⟩:=hb1;obtain⟨b1,b2,b3,b4⟩:=hb2;have hR2:R=if q'=1/\ -64<=p'/\p'<=64 then(if p=0/\p'<0 then .error 7 else Do (decide (p'<0)) (Xw p p'.natAbs 1) (Xw q p'.natAbs 1)) else .error 2:=by
    rw[hR];unfold Dm;rw[hv,hv2];by_cases h:q'=1/\ -64<=p'/\p'<=64
    ·rw[if_pos h,decide_eq_true h];rfl
    ·rw[if_neg h,decide_eq_false h];rfl
   have HVV:=zh hv;have HVV2:=zh hv2;clear hv hv2 hR;by_cases hbad:¬(q'=1/\ -64<=p'/\p'<=64)
   ·have HR:=zh (show R= .error 2 from by rw[hR2,if_neg hbad]);have hcs:1<q'\/(q'<=1/\p'< -64)\/(q'<=1/\ -64<=p'/\64<p'):=by omega
    have tq:(q' !=1)=decide (1<q'):=by rw[Bool.eq_iff_iff,bne_iff_ne,decide_eq_true_eq];omega
    clear hbad hR2;rcases hcs with c1|⟨c1,c2⟩|⟨c1,c2,c3⟩;all_goals
     first|rw[decide_eq_true (show 1<q' from c1)] at tq|rw[decide_eq_false (show¬1<q' from Int.not_lt.2 c1)] at tq
     go_enter func151,ntmps151;go_wp2_with fail
     refine HV1.out.mono ?_;rw[HVV.out];rintro e w1 ⟨rfl,hb⟩;have HB1:=hbn HB hb;have HW1:=zh hb;obtain⟨hc,hf⟩:=QN hb;have hz:=hb.size;simp at hz;clear hb;go_wp2_with fail
     refine(HV2.out _).mono ?_;rw[HVV2.out];rintro e w2 ⟨rfl,hb⟩;have HB2:=hbn HB1 hb;clear hc hf;obtain⟨hc,hf⟩:=QN (QC HW1.out hb);have hz2:=hb.size;clear hb;go_wp2;refine zr (by simp[results,results151,go_sem,hc]<;>rfl) ?_;exact QZ HR.out (QD HB2.out (by omega) _ _)
   ·have hgood:q'=1/\ -64<=p'/\p'<=64:=Classical.not_not.1 hbad;rw[if_pos hgood] at hR2;obtain⟨g1,g2,g3⟩:=hgood;have tq:(q' !=1)=false:=by rw[g1];rfl
    clear hbad g1;by_cases hz0:p=0/\p'<0
    ·have HR:=zh (show R= .error 7 from by rw[hR2,if_pos hz0]);obtain⟨z1,z2⟩:=hz0;have tp:(p==0)=true:=by rw[z1];rfl
     clear hR2 z1;go_enter func151,ntmps151;go_wp2_with fail
     refine HV1.out.mono ?_;rw[HVV.out];rintro e w1 ⟨rfl,hb⟩;have HB1:=hbn HB hb;have HW1:=zh hb;obtain⟨hc,hf⟩:=QN hb;have hz:=hb.size;simp at hz;clear hb;go_wp2_with fail
     refine(HV2.out _).mono ?_;rw[HVV2.out];rintro e w2 ⟨rfl,hb⟩;have HB2:=hbn HB1 hb;clear hc hf;obtain⟨hc,hf⟩:=QN (QC HW1.out hb);have hz2:=hb.size;clear hb;go_wp2;refine zr (by simp[results,results151,go_sem,hc]<;>rfl) ?_;exact QZ HR.out (QD HB2.out (by omega) _ _)
    ·rw[if_neg hz0] at hR2;obtain⟨k,hk⟩:∃k,k=p'.natAbs:=⟨_,rfl⟩
     rw[<-hk] at hR2;have hk2:k<=64:=by omega
     obtain⟨X,hX⟩:∃X,X=Xw p k 1:=⟨_,rfl⟩
     obtain⟨Y,hY⟩:∃Y,Y=Xw q k 1:=⟨_,rfl⟩
     rw[<-hX,<-hY] at hR2;have hzc:(p<0\/0<p)\/(p<=0/\0<=p/\0<=p'):=by omega
     have HP1:=zh (fun W n (hn:n=(k:Int))=>PU W p n k hn (by omega) a3 a4);have HP2:=zh (fun W n (hn:n=(k:Int))=>PU W q n k hn (by omega) (by omega) a2);rw[<-hX] at HP1;rw[<-hY] at HP2;have HK:=zh hk;have HR:=zh hR2;have HZ:=zh hz0;have HXX:=zh hX;have HYY:=zh hY;clear hR2 hk hX hY hz0;have HX1:=zh (fun x (h:X=some x)=>Jq k 1 x (by omega) (by omega) (HXX.out.symm.trans h));have HY1:=zh (fun y (h:Y=some y)=>Jq k 1 y (by omega) (by omega) (HYY.out.symm.trans h));have HX2:=zh (fun x (h:X=some x) (hp:p≠0)=>XZ hp k 1 x (by omega) (HXX.out.symm.trans h));have HY2:=zh (fun y (h:Y=some y)=>XZ (show q≠0 by omega) k 1 y (by omega) (HYY.out.symm.trans h));have tp:(p==0)=decide (p<=0/\0<=p):=by rw[Bool.eq_iff_iff,beq_iff_eq,decide_eq_true_eq];omega
     rcases hzc with hp0|⟨hp0,hp1,hp2⟩
     ·rw[decide_eq_false (show¬(p<=0/\0<=p) by omega)] at tp;cases X with
      |none=>
       have HE:=zh (show R= .error 6 from HR.out);clear HX1 HX2 HXX HR;go_enter func151,ntmps151;go_wp2_with fail
       refine HV1.out.mono ?_;rw[HVV.out];rintro e w1 ⟨rfl,hb⟩;have HB1:=hbn HB hb;have HW1:=zh hb;obtain⟨hc,hf⟩:=QN hb;have hz:=hb.size;simp at hz;clear hb;go_wp2_with fail
       refine(HV2.out _).mono ?_;rw[HVV2.out];rintro e w2 ⟨rfl,hb⟩;have HB2:=hbn HB1 hb;clear hc hf;obtain⟨hc,hf⟩:=QN (QC HW1.out hb);have HW2:=hbn HW1 hb;have hz2:=hb.size;clear hb;go_wp2_with fail
       all_goals
        refine(HP1.out _ _ (by have:=HK.out;omega)).mono ?_;rintro e w3 ⟨rfl,rfl⟩;go_wp2_with fail
        refine(HP2.out _ _ (by have:=HK.out;omega)).mono ?_;rintro e w3 ⟨rfl,rfl⟩;go_wp2;refine zr (by simp[results,results151,go_sem,hc]<;>rfl) ?_;exact QZ HE.out (QD HB2.out (by omega) _ _)
      |some x=>
       cases Y with
       |none=>
        have HE:=zh (show R= .error 6 from HR.out);clear HX1 HX2 HXX HR HY1 HY2 HYY;go_enter func151,ntmps151;go_wp2_with fail
        refine HV1.out.mono ?_;rw[HVV.out];rintro e w1 ⟨rfl,hb⟩;have HB1:=hbn HB hb;have HW1:=zh hb;obtain⟨hc,hf⟩:=QN hb;have hz:=hb.size;simp at hz;clear hb;go_wp2_with fail
        refine(HV2.out _).mono ?_;rw[HVV2.out];rintro e w2 ⟨rfl,hb⟩;have HB2:=hbn HB1 hb;clear hc hf;obtain⟨hc,hf⟩:=QN (QC HW1.out hb);have HW2:=hbn HW1 hb;have hz2:=hb.size;clear hb;go_wp2_with fail
        all_goals
         refine(HP1.out _ _ (by have:=HK.out;omega)).mono ?_;rintro e w3 ⟨rfl,rfl⟩;go_wp2_with fail
         refine(HP2.out _ _ (by have:=HK.out;omega)).mono ?_;rintro e w3 ⟨rfl,rfl⟩;go_wp2;refine zr (by simp[results,results151,go_sem,hc]<;>rfl) ?_;exact QZ HE.out (QD HB2.out (by omega) _ _)
       |some y=>
        obtain⟨x1,x2⟩:=HX1.out x rfl;obtain⟨y1,y2⟩:=HY1.out y rfl;have xn:=HX2.out x rfl (by omega);have yn:=HY2.out y rfl;by_cases hneg:p'<0
        ·have HE:=zh (show JS y x=R from by rw[HR.out,decide_eq_true hneg];rfl);clear HX1 HX2 HXX HR HY1 HY2 HYY;go_enter func151,ntmps151;go_wp2_with fail
         refine HV1.out.mono ?_;rw[HVV.out];rintro e w1 ⟨rfl,hb⟩;have HB1:=hbn HB hb;have HW1:=zh hb;obtain⟨hc,hf⟩:=QN hb;have hz:=hb.size;simp at hz;clear hb;go_wp2_with fail
         refine(HV2.out _).mono ?_;rw[HVV2.out];rintro e w2 ⟨rfl,hb⟩;have HB2:=hbn HB1 hb;clear hc hf;obtain⟨hc,hf⟩:=QN (QC HW1.out hb);have HW2:=hbn HW1 hb;have hz2:=hb.size;clear hb;go_wp2_with fail
         all_goals
          refine(HP1.out _ _ (by have:=HK.out;omega)).mono ?_;rintro e w3 ⟨rfl,rfl⟩;go_wp2_with fail
          refine(HP2.out _ _ (by have:=HK.out;omega)).mono ?_;rintro e w3 ⟨rfl,rfl⟩;go_wp2_with fail
          refine(Jh _ y x (by omega) (by omega) (by omega) (by omega) xn).mono ?_;rw[HE.out];rintro e w4 ⟨rfl,hb⟩;have HB4:=hbn HB2 hb;have HW4:=hbn HW2 hb;clear hc hf;obtain⟨hc,hf⟩:=QN HW4.out;have hz4:=hb.size;clear hb;go_wp2;refine zr (by simp[results,results151,go_sem,hc]<;>rfl) ?_;refine Qz (QD HB4.out ?_ _ _);omega
        ·have HE:=zh (show JS x y=R from by rw[HR.out,decide_eq_false hneg];rfl);clear HX1 HX2 HXX HR HY1 HY2 HYY;go_enter func151,ntmps151;go_wp2_with fail
         refine HV1.out.mono ?_;rw[HVV.out];rintro e w1 ⟨rfl,hb⟩;have HB1:=hbn HB hb;have HW1:=zh hb;obtain⟨hc,hf⟩:=QN hb;have hz:=hb.size;simp at hz;clear hb;go_wp2_with fail
         refine(HV2.out _).mono ?_;rw[HVV2.out];rintro e w2 ⟨rfl,hb⟩;have HB2:=hbn HB1 hb;clear hc hf;obtain⟨hc,hf⟩:=QN (QC HW1.out hb);have HW2:=hbn HW1 hb;have hz2:=hb.size;clear hb;go_wp2_with fail
         all_goals
          refine(HP1.out _ _ (by have:=HK.out;omega)).mono ?_;rintro e w3 ⟨rfl,rfl⟩;go_wp2_with fail
          refine(HP2.out _ _ (by have:=HK.out;omega)).mono ?_;rintro e w3 ⟨rfl,rfl⟩;go_wp2_with fail
          refine(Jh _ x y (by omega) (by omega) (by omega) (by omega) yn).mono ?_;rw[HE.out];rintro e w4 ⟨rfl,hb⟩;have HB4:=hbn HB2 hb;have HW4:=hbn HW2 hb;clear hc hf;obtain⟨hc,hf⟩:=QN HW4.out;have hz4:=hb.size;clear hb;go_wp2;refine zr (by simp[results,results151,go_sem,hc]<;>rfl) ?_;refine Qz (QD HB4.out ?_ _ _);omega
     ·rw[decide_eq_true (show p<=0/\0<=p from⟨hp0,hp1⟩)] at tp;cases X with
      |none=>
       have HE:=zh (show R= .error 6 from HR.out);clear HX1 HX2 HXX HR;go_enter func151,ntmps151;go_wp2_with fail
       refine HV1.out.mono ?_;rw[HVV.out];rintro e w1 ⟨rfl,hb⟩;have HB1:=hbn HB hb;have HW1:=zh hb;obtain⟨hc,hf⟩:=QN hb;have hz:=hb.size;simp at hz;clear hb;go_wp2_with fail
       refine(HV2.out _).mono ?_;rw[HVV2.out];rintro e w2 ⟨rfl,hb⟩;have HB2:=hbn HB1 hb;clear hc hf;obtain⟨hc,hf⟩:=QN (QC HW1.out hb);have HW2:=hbn HW1 hb;have hz2:=hb.size;clear hb;go_wp2_with fail
       all_goals
        refine(HP1.out _ _ (by have:=HK.out;omega)).mono ?_;rintro e w3 ⟨rfl,rfl⟩;go_wp2_with fail
        refine(HP2.out _ _ (by have:=HK.out;omega)).mono ?_;rintro e w3 ⟨rfl,rfl⟩;go_wp2;refine zr (by simp[results,results151,go_sem,hc]<;>rfl) ?_;exact QZ HE.out (QD HB2.out (by omega) _ _)
      |some x=>
       cases Y with
       |none=>
        have HE:=zh (show R= .error 6 from HR.out);clear HX1 HX2 HXX HR HY1 HY2 HYY;go_enter func151,ntmps151;go_wp2_with fail
        refine HV1.out.mono ?_;rw[HVV.out];rintro e w1 ⟨rfl,hb⟩;have HB1:=hbn HB hb;have HW1:=zh hb;obtain⟨hc,hf⟩:=QN hb;have hz:=hb.size;simp at hz;clear hb;go_wp2_with fail
        refine(HV2.out _).mono ?_;rw[HVV2.out];rintro e w2 ⟨rfl,hb⟩;have HB2:=hbn HB1 hb;clear hc hf;obtain⟨hc,hf⟩:=QN (QC HW1.out hb);have HW2:=hbn HW1 hb;have hz2:=hb.size;clear hb;go_wp2_with fail
        all_goals
         refine(HP1.out _ _ (by have:=HK.out;omega)).mono ?_;rintro e w3 ⟨rfl,rfl⟩;go_wp2_with fail
         refine(HP2.out _ _ (by have:=HK.out;omega)).mono ?_;rintro e w3 ⟨rfl,rfl⟩;go_wp2;refine zr (by simp[results,results151,go_sem,hc]<;>rfl) ?_;exact QZ HE.out (QD HB2.out (by omega) _ _)
       |some y=>
        obtain⟨x1,x2⟩:=HX1.out x rfl;obtain⟨y1,y2⟩:=HY1.out y rfl;have yn:=HY2.out y rfl;have HE:=zh (show JS x y=R from by rw[HR.out,decide_eq_false (by omega)];rfl);clear HX1 HX2 HXX HR HY1 HY2 HYY;go_enter func151,ntmps151;go_wp2_with fail
        refine HV1.out.mono ?_;rw[HVV.out];rintro e w1 ⟨rfl,hb⟩;have HB1:=hbn HB hb;have HW1:=zh hb;obtain⟨hc,hf⟩:=QN hb;have hz:=hb.size;simp at hz;clear hb;go_wp2_with fail
        refine(HV2.out _).mono ?_;rw[HVV2.out];rintro e w2 ⟨rfl,hb⟩;have HB2:=hbn HB1 hb;clear hc hf;obtain⟨hc,hf⟩:=QN (QC HW1.out hb);have HW2:=hbn HW1 hb;have hz2:=hb.size;clear hb;go_wp2_with fail
        all_goals
         refine(HP1.out _ _ (by have:=HK.out;omega)).mono ?_;rintro e w3 ⟨rfl,rfl⟩;go_wp2_with fail
         refine(HP2.out _ _ (by have:=HK.out;omega)).mono ?_;rintro e w3 ⟨rfl,rfl⟩;go_wp2_with fail
         refine(Jh _ x y (by omega) (by omega) (by omega) (by omega) yn).mono ?_;rw[HE.out];rintro e w4 ⟨rfl,hb⟩;have HB4:=hbn HB2 hb;have HW4:=hbn HW2 hb;clear hc hf;obtain⟨hc,hf⟩:=QN HW4.out;have hz4:=hb.size;clear hb;go_wp2;refine zr (by simp[results,results151,go_sem,hc]<;>rfl) ?_;refine Qz (QD HB4.out ?_ _ _);omega
theorem F8 (w:World) (p q:Int):Calls prog 237 #[p,q] w (NumPost w (Q2 p q)):=by
 have HB:=zh (Qj w (o2 0 0));obtain⟨R,hR⟩:∃R,R=Q2 p q:=⟨_,rfl⟩
 rw[<-hR];by_cases h0:q=0
 ·have HR:=zh (show R= .error 7 from by rw[hR];unfold Q2;rw[if_pos h0]);have t0:(q==0)=true:=by rw[h0];rfl
  clear h0 hR;go_enter func237,ntmps237;go_wp2;refine zr (by simp[results,results237,go_sem]<;>rfl) ?_;exact QZ HR.out HB.out
 ·have t0:(q==0)=false:=by rw[beq_eq_false_iff_ne];exact h0
  by_cases hb: -4611686018427387904<=p/\p<=4611686018427387904/\ -4611686018427387904<=q/\q<=4611686018427387904
  ·obtain⟨b1,b2,b3,b4⟩:=hb;have HR:=zh (show JS p q=R from by rw[hR];unfold Q2;rw[if_neg h0,if_pos];simp[St];omega);have HC:=zh (Jh (w.alloc (o2 0 0)) p q (by omega) (by omega) (by omega) (by omega) h0);clear h0 hR;go_enter func237,ntmps237;go_wp2_with fail
   refine HC.out.mono ?_;rw[HR.out];rintro e w1 ⟨rfl,hb⟩;obtain⟨hc,hf⟩:=QN hb;have hz:=hb.size;simp at hz;have HB1:=hbn HB hb;clear hb;go_wp2;refine zr (by simp[results,results237,go_sem,hc]<;>rfl) ?_;exact Qz (QD HB1.out zl _ _)
  ·have HR:=zh (show R= .error 6 from by rw[hR];unfold Q2;rw[if_neg h0,if_neg];simp[St];omega);have hcs:p< -4611686018427387904\/4611686018427387904<p\/((-4611686018427387904<=p/\p<=4611686018427387904)/\(q< -4611686018427387904\/4611686018427387904<q)):=by omega
   clear hb h0 hR;rcases hcs with c|c|⟨⟨c1,c2⟩,c|c⟩;all_goals
    go_enter func237,ntmps237;go_wp2;refine zr (by simp[results,results237,go_sem]<;>rfl) ?_;exact QZ HR.out HB.out
theorem N4 (w:World) (s:ByteArray) (hs:s.size<=2000000000) (base:Nat) (hb:base=10\/base=16) (hall:∀(i:Nat) (h:i<s.size),Jd base s[i].toNat=true):
  Calls prog 236 #[s,.int .i64 base] w (OptPost w (Km base (QF s) 0)):=by
 obtain⟨R,hR⟩:∃R,Km base ((QF s).drop 0) 0=R:=⟨_,rfl⟩
 rw[show Km base (QF s) 0=R from hR];have HR0:=zh hR;have HALL:=zh hall;clear hall;clear hR;go_enter func236,ntmps236;go_wp2
 go_loopg [6,11] s.size (fun gg vn v wr=>∃i n:Nat,gg=s.size-i/\vn= .int .i64 (n:Int)/\v= .int .i64 (i:Int)/\w=wr/\i<=s.size/\(n:Int)<=4611686018427387904/\Hid (Km base ((QF s).drop i) n=R))
 case atStart=>exact⟨0,0,rfl,rfl,rfl,rfl,Nat.zero_le _,by decide,HR0⟩
 case round=>
  obtain⟨i,n,rfl,rfl,rfl,rfl,hi,hn,HI⟩:=hrel;by_cases hlt:i<s.size
  ·have hst:=Pu hb hlt HI.out;have hp:=(Pk (by omega) (HALL.out i hlt)).1;have HD:=zh (Pj w s[i].toNat (Ge _));rw[hp] at HD;clear hp;have hd9:=Z3 s[i].toNat;obtain⟨d,hd⟩:∃d,d=KT s[i].toNat:=⟨_,rfl⟩
   rw[<-hd] at hst hd9;have HDD:=zh hd.symm;clear hd;by_cases hc:(4611686018427387904-(d:Int))/(base:Int)<n
   ·have HN:=zh (hst.1 hc);clear hst;rcases hb with rfl|rfl;all_goals
     go_wp2_with fail
     refine HD.out.mono ?_;rw[HDD.out];rintro e w1 ⟨rfl,rfl⟩;go_wp2
     go_ret2
     exact Pp HN.out rfl
   ·have HN:=zh (hst.2 (by omega));clear hst;rcases hb with rfl|rfl;all_goals
     go_wp2_with fail
     refine HD.out.mono ?_;rw[HDD.out];rintro e w1 ⟨rfl,rfl⟩;go_wp2
     go_roundg (s.size-(i+1))
     case measure=>omega
     case rel=>exact⟨i+1,_,rfl,(by push_cast;rfl),rfl,rfl,by omega,by push_cast;omega,HN⟩
  ·have HN:=zh (Pt (by omega) HI.out);go_wp2
   go_ret2
   exact Po HN.out rfl
def PRuns (s:ByteArray) (a base:Int) (r:Int):Prop:=∀W,Calls prog 235 #[s,a,base] W fun e w'=>e= .returned (.int .i64 r)/\W=w'
theorem Dj (s:ByteArray) (hs:s.size<=2000000000) (a:Nat) (ha:a<=2000000002) (base:Nat) (hb:base=10\/base=16) (r:Nat) (h:a+ZT base ((QF s).drop a)=r):PRuns s a base r:=fun W=>by
 have:=RI W s hs a ha base hb;rw[h] at this;exact this
def DotNo (s:ByteArray) (r:Nat):Prop:=s.size<=r\/∃h:r<s.size,((s[r].toNat:Int)==46)=false\/(((s[r].toNat:Int)==46)=true/\PRuns s ((r:Int)+1) 10 ((r:Int)+1))
theorem Rb {s:ByteArray} (hs:s.size<=2000000000) {r:Nat} (h:ZQ (QF s) r=0):DotNo s r:=by
 by_cases hl:r<s.size
 ·refine .inr ⟨hl,?_⟩;unfold ZQ at h;rw[Ex hl] at h;have e0:=Zi s[r] 46;by_cases hc:s[r].toNat=46
  ·rw[if_pos (by rw[hc])] at h;exact .inr ⟨e0.trans (decide_eq_true hc),Dj s hs (r+1) (by omega) 10 (.inl rfl) (r+1) (by rw[h])⟩
  ·exact .inl (e0.trans (decide_eq_false hc))
 ·exact .inl (by omega)
def HexNo (s:ByteArray) (r:Nat):Prop:=((r:Int)==1)=false\/(((r:Int)==1)=true/\∃h0:0<s.size,((s[0].toNat:Int)==48)=false\/(((s[0].toNat:Int)==48)=true/\(s.size<=1\/∃h1:1<s.size,
 (((s[1].toNat:Int)==120)=false/\((s[1].toNat:Int)==88)=false)\/(PRuns s 2 16 2/\((s[1].toNat:Int)==46)=false/\(((s[1].toNat:Int)==120)=true\/(((s[1].toNat:Int)==120)=false/\((s[1].toNat:Int)==88)=true))))))
theorem Bd {s:ByteArray} (hs:s.size<=2000000000) {r:Nat} (hr:r<=s.size) (hx:Zm (QF s)=false):HexNo s r:=by
 by_cases h1:r=1
 ·refine .inr ⟨by rw[beq_iff_eq];omega,by omega,?_⟩;subst h1;have e0:=Zi s[0] 48;by_cases hc:s[0].toNat=48
  ·refine .inr ⟨e0.trans (decide_eq_true hc),?_⟩;by_cases hl:1<s.size
   ·refine .inr ⟨hl,?_⟩;have e1:=Zi s[1] 120;have e2:=Zi s[1] 88;have e3:=Zi s[1] 46;have rest:(s[1].toNat=120\/s[1].toNat=88)->PRuns s 2 16 2:=fun hc2=>by
     refine Dj s hs 2 (by omega) 16 (.inr rfl) 2 ?_;have hz:ZT 16 ((QF s).drop 2)=0:=by
      by_cases h2:2<s.size
      ·rw[XC h2] at hx;have hd:Jd 16 s[2].toNat=false:=by
        revert hx;rw[hc];rcases hc2 with hc2|hc2<;>rw[hc2]<;>cases Jd 16 s[2].toNat<;>decide
       rw[Q3 s 2 h2];unfold ZT;rw[hd];rfl
      ·rw[Zu s 2 (by omega)];rfl
     omega
    by_cases hc1:s[1].toNat=120
    ·exact .inr ⟨rest (.inl hc1),e3.trans (decide_eq_false (by omega)),.inl (e1.trans (decide_eq_true hc1))⟩
    ·by_cases hc2:s[1].toNat=88
     ·exact .inr ⟨rest (.inr hc2),e3.trans (decide_eq_false (by omega)),.inr ⟨e1.trans (decide_eq_false hc1),e2.trans (decide_eq_true hc2)⟩⟩
     ·exact .inl ⟨e1.trans (decide_eq_false hc1),e2.trans (decide_eq_false hc2)⟩
   ·exact .inl (by omega)
  ·exact .inl (e0.trans (decide_eq_false hc))
 ·exact .inl (by rw[beq_eq_false_iff_ne];omega)
theorem KJ (w:World) (s:ByteArray) (hex:Bool) (B:Int) (hB:(hex=true/\B=16)\/(hex=false/\B=10)) (f e:Nat) (hfe:f<=e) (he:e<=s.size) (hs:s.size<=2000000000)
  (hint:∀W,Calls prog 236 #[.string (s.extract f e),B] W (OptPost W none)) (R:RR) (hR:R= .error 6):
  Calls prog 197 #[.agg #[.bool hex,.int .i64 (-1),.int .i64 (e:Nat),.int .i64 (f:Nat)],s] w (NumPost w R):=by
 have HB:=zh (QE w (o4 hex (-1) e f) (o2 0 0));have hsl:=ZD s (f:Int) (e:Int) f e rfl rfl hfe he;have HINT:=zh hint;have HR:=zh hR;clear hint hR;rcases hB with⟨rfl,rfl⟩|⟨rfl,rfl⟩;all_goals
  go_enter func197,ntmps197;go_wp2;refine QK mixed (by kernel_rfl) ?_;go_wp2;refine⟨by kernel_rfl,?_⟩;go_wp2_with fail
  refine(HINT.out _).mono ?_;rintro e w1 ⟨rfl,rfl⟩;go_wp2;refine zr (by simp[results,results197,go_sem]<;>rfl) ?_;exact QZ HR.out HB.out.drew
theorem KI (w:World) (s:ByteArray) (hex:Bool) (B:Int) (hB:(hex=true/\B=16)\/(hex=false/\B=10)) (f e:Nat) (hfe:f<=e) (he:e<=s.size) (hs:s.size<=2000000000) (n:Nat)
  (hint:∀W,Calls prog 236 #[.string (s.extract f e),B] W (OptPost W (some n))) (R:RR) (hR:R=Q2 (Kp (some n)) 1):
  Calls prog 197 #[.agg #[.bool hex,.int .i64 (-1),.int .i64 (e:Nat),.int .i64 (f:Nat)],s] w (NumPost w R):=by
 have HB:=zh (QE w (o4 hex (-1) e f) (o2 0 0));have hsl:=ZD s (f:Int) (e:Int) f e rfl rfl hfe he;have HINT:=zh hint;have hways:=To (by decide) hR;clear hint hR;rcases hB with⟨rfl,rfl⟩|⟨rfl,rfl⟩<;>rcases hways with⟨hE,hR⟩|⟨hE,hR⟩;all_goals
  have HR:=zh hR;clear hR;go_enter func197,ntmps197;go_wp2;refine QK mixed (by kernel_rfl) ?_;go_wp2;refine⟨by kernel_rfl,?_⟩;go_wp2_with fail
  refine(HINT.out _).mono ?_;rintro e w1 ⟨rfl,rfl⟩;go_wp2_with fail
  refine(F8 _ _ _).mono ?_;rintro e w2 ⟨rfl,hb⟩;have hz:=hb.size;simp at hz;obtain⟨hc,hf⟩:=QN hb;have c0:(w2.alloc (.cells #[.int .i64 (nP (Q2 (Kp (some n)) 1)),.int .i64 (nQ (Q2 (Kp (some n)) 1))] 23)).cell? ⟨w+1,0,none⟩=some (.int .i64 0):=(QH (by omega)).trans ((hc _ _ (by simp)).trans (by simp[go_sem]));have c1:(w2.alloc (.cells #[.int .i64 (nP (Q2 (Kp (some n)) 1)),.int .i64 (nQ (Q2 (Kp (some n)) 1))] 23)).cell? ⟨w+1,1,none⟩=some (.int .i64 0):=(QH (by omega)).trans ((hc _ _ (by simp)).trans (by simp[go_sem]));have f0:(w2.alloc (.cells #[.int .i64 (nP (Q2 (Kp (some n)) 1)),.int .i64 (nQ (Q2 (Kp (some n)) 1))] 23)).frozen? ⟨w+1,0,none⟩=false:=(QJ (by omega)).trans ((hf _ _ (by simp)).trans (by simp[go_sem]));have f1:(w2.alloc (.cells #[.int .i64 (nP (Q2 (Kp (some n)) 1)),.int .i64 (nQ (Q2 (Kp (some n)) 1))] 23)).frozen? ⟨w+1,1,none⟩=false:=(QJ (by omega)).trans ((hf _ _ (by simp)).trans (by simp[go_sem]));have HB2:=zh ((QC (below_drewN HB.out _) hb).alloc (by omega) (.cells #[.int .i64 (nP (Q2 (Kp (some n)) 1)),.int .i64 (nQ (Q2 (Kp (some n)) 1))] 23));clear hb hc hf;go_wp2;refine zr (by simp[results,results197,go_sem,c0,c1]<;>rfl) ?_;first
  |exact QZ HR.out (QD HB2.out (by omega) _ _)
  |exact Tm HR.out.1 HR.out.2 (QD HB2.out (by omega) _ _)
theorem Ds (w:World) (s:ByteArray) (r e:Nat) (hre:r+1<=e) (he:e<=s.size) (hs:s.size<=2000000000) (hP:9<e-(r+1)) (R:RR) (hR:R= .error 6):
  Calls prog 197 #[.agg #[.bool false,.int .i64 (r:Nat),.int .i64 (e:Nat),(0:Int)],s] w (NumPost w R):=by
 have HB:=zh (QE w (o4 false r e 0) (o2 0 0));have hsl:=ZD s 0 (e:Int) 0 e rfl rfl (by omega) he;have hsl2:=ZD s ((r:Int)+1) (e:Int) (r+1) e (by omega) rfl hre he;have hz:(s.extract (r+1) e).size=e-(r+1):=by rw[ByteArray.size_extract];omega
 have hz9:9<(s.extract (r+1) e).size:=by omega
 have HR:=zh hR;clear hR hz;go_enter func197,ntmps197;go_wp2;refine QK mixed (by kernel_rfl) ?_;go_wp2;refine⟨by kernel_rfl,?_⟩;go_wp2;refine zr (by simp[results,results197,go_sem]<;>rfl) ?_;exact QZ HR.out HB.out.drew
theorem UG (w:World) (s X:ByteArray) (r e P:Nat) (hre:r+1<=e) (he:e<=s.size) (hs:s.size<=2000000000) (hPe:P=e-(r+1)) (hP:P<=9)
  (had:∀W,(Op.stringOp .add (s.extract 0 r) (s.extract (r+1) e)).run prog W= .ok (.string X) W) (A:Option Nat)
  (hint:∀W,Calls prog 236 #[.string X,.int .i64 10] W (OptPost W A)) (R:RR) (hR:R=mkR A ((10^P:Nat):Int)):
  Calls prog 197 #[.agg #[.bool false,.int .i64 (r:Nat),.int .i64 (e:Nat),.int .i64 0],s] w (NumPost w R):=by
 have HB:=zh (QE w (o4 false r e 0) (o2 0 0));have hsl:=ZD s 0 (e:Int) 0 e rfl rfl (by omega) he;have hsl2:=ZD s ((r:Int)+1) (e:Int) (r+1) e (by omega) rfl hre he;have hsl3:=ZD s 0 (r:Int) 0 r rfl rfl (by omega) (by omega);obtain⟨Y,hY⟩:∃Y,Y=s.extract (r+1) e:=⟨_,rfl⟩
 have hz:Y.size=P:=by rw[hY,ByteArray.size_extract];omega
 rw[<-hY] at hsl2 had;have HR:=zh hR;have HINT:=zh hint;clear hR hint hY hPe;obtain⟨q,hq⟩:∃q:Int,((10^P:Nat):Int)=q:=⟨_,rfl⟩
 rw[hq] at HR;have HQ:=zh hq;clear hq;go_enter func197,ntmps197;go_wp2;refine QK mixed (by kernel_rfl) ?_;go_wp2;refine⟨by kernel_rfl,?_⟩;go_wp2
 go_loopg [8,46] P (fun gg vu vi wr=>∃i u:Nat,gg=P-i/\vu= .int .i64 (u:Int)/\vi= .int .i64 (i:Int)/\wr=((w.alloc (o4 false r e 0)).alloc (o2 0 0)).drew/\i<=P/\u<=1000000000/\Hid (u=10^i))
 case atStart=>exact⟨0,1,rfl,rfl,rfl,rfl,Nat.zero_le _,by decide,zh rfl⟩
 case round=>
  obtain⟨i,u,rfl,rfl,rfl,rfl,hi,hu,HU⟩:=hrel;by_cases hlt:i<P
  ·have HN:=zh (show u*10=10^(i+1) from by rw[HU.out,Nat.pow_succ]);have hp2:u*10<=1000000000:=by rw[HN.out];exact Pg (by omega)
   go_wp2
   go_roundg (P-(i+1))
   case measure=>omega
   case rel=>exact⟨i+1,u*10,rfl,(by push_cast;rfl),rfl,rfl,by omega,hp2,HN⟩
  ·have hie:i=P:=by omega
   have HQ2:=zh (show((u:Nat):Int)=q by rw[HU.out,hie];exact HQ.out);have hqp:q≠0:=by rw[<-HQ.out];exact RK P
   have HQP:=zh hqp;clear hqp hie;cases A with
   |none=>
    go_wp2_with fail
    refine(HINT.out _).mono ?_;rintro e w1 ⟨rfl,rfl⟩;go_wp2;refine zr (by simp[results,results197,go_sem]<;>rfl) ?_;exact QZ HR.out HB.out.drew
   |some n=>
    have hways:=To (n:=Kp (some n)) (q:=(u:Int)) (R:=R) (by rw[HQ2.out];exact HQP.out) (by rw[HQ2.out];exact HR.out);clear HR;rcases hways with⟨hE,hR⟩|⟨hE,hR⟩;all_goals
     have HR:=zh hR;clear hR;go_wp2_with fail
     refine(HINT.out _).mono ?_;rintro e w1 ⟨rfl,rfl⟩;go_wp2_with fail
     refine(F8 _ _ _).mono ?_;rintro e w2 ⟨rfl,hb⟩;have hz:=hb.size;simp at hz;obtain⟨hc,hf⟩:=QN hb;have c0:(w2.alloc (.cells #[.int .i64 (nP (Q2 (Kp (some n)) (u:Int))),.int .i64 (nQ (Q2 (Kp (some n)) (u:Int)))] 23)).cell? ⟨w.heap.size+1,0,none⟩=some (.int .i64 0):=(QH (by omega)).trans ((hc _ _ (by simp)).trans (by simp[go_sem]));have c1:(w2.alloc (.cells #[.int .i64 (nP (Q2 (Kp (some n)) (u:Int))),.int .i64 (nQ (Q2 (Kp (some n)) (u:Int)))] 23)).cell? ⟨w.heap.size+1,1,none⟩=some (.int .i64 0):=(QH (by omega)).trans ((hc _ _ (by simp)).trans (by simp[go_sem]));have f0:(w2.alloc (.cells #[.int .i64 (nP (Q2 (Kp (some n)) (u:Int))),.int .i64 (nQ (Q2 (Kp (some n)) (u:Int)))] 23)).frozen? ⟨w.heap.size+1,0,none⟩=false:=(QJ (by omega)).trans ((hf _ _ (by simp)).trans (by simp[go_sem]));have f1:(w2.alloc (.cells #[.int .i64 (nP (Q2 (Kp (some n)) (u:Int))),.int .i64 (nQ (Q2 (Kp (some n)) (u:Int)))] 23)).frozen? ⟨w.heap.size+1,1,none⟩=false:=(QJ (by omega)).trans ((hf _ _ (by simp)).trans (by simp[go_sem]));have HB2:=zh ((QC (below_drewN HB.out _) hb).alloc (by omega) (.cells #[.int .i64 (nP (Q2 (Kp (some n)) (u:Int))),.int .i64 (nQ (Q2 (Kp (some n)) (u:Int)))] 23));clear hb hc hf;go_wp2;refine zr (by simp[results,results197,go_sem,c0,c1]<;>rfl) ?_;first
     |exact QZ HR.out (QD HB2.out (by omega) _ _)
     |exact Tm HR.out.1 HR.out.2 (QD HB2.out (by omega) _ _)
theorem RN (w:World) (s:ByteArray) (R:FR) (hs:s.size<=2000000000) (hrun:PRuns s 0 10 (0:Nat)) (hR:R=none):Calls prog 196 #[s,(0:Int)] w (FindPost w R):=by
 have HB:=zh (((Below.refl w.heap.size w).alloc zl (.cells #[.bool false,(0:Int),(0:Int),(0:Int)] 165)));have HRUN:=zh hrun;have HR:=zh hR;clear hrun hR;go_enter func196,ntmps196;go_wp2_with fail
 refine(HRUN.out _).mono ?_;rintro e w' ⟨rfl,rfl⟩;go_wp2;all_goals
  refine zr (by simp[results,results196,go_sem]<;>rfl) ?_;exact Sk HR.out (by first|exact(Below.refl _ _).alloc zl _|exact ZK HB.out zl _ _ _ _)
theorem CO (w:World) (s:ByteArray) (e:Nat) (R:FR) (hs:s.size<=2000000000) (hl:2<s.size) (h0:((s[0].toNat:Int)==48)=true)
  (h1:((s[1].toNat:Int)==120)=true\/(((s[1].toNat:Int)==120)=false/\((s[1].toNat:Int)==88)=true)) (he:2<e) (he2:e<=s.size)
  (hrun:PRuns s 0 10 (1:Nat)) (hrun2:PRuns s 2 16 e) (hR:R=some (true, -1,e,2)):Calls prog 196 #[s,(0:Int)] w (FindPost w R):=by
 have HB:=zh (((Below.refl w.heap.size w).alloc zl (.cells #[.bool false,(0:Int),(0:Int),(0:Int)] 165)));have HRUN:=zh hrun;have HRUN2:=zh hrun2;have HR:=zh hR;clear hrun hrun2 hR;rcases h1 with h1|⟨h1,h1b⟩;all_goals
  go_enter func196,ntmps196;go_wp2_with fail
  refine(HRUN.out _).mono ?_;rintro e w' ⟨rfl,rfl⟩;go_wp2_with fail
  refine(HRUN2.out _).mono ?_;rintro e w' ⟨rfl,rfl⟩;go_wp2;all_goals
   refine zr (by simp[results,results196,go_sem]<;>rfl) ?_;exact Zo HR.out (by omega) (by omega) (by first|exact(Below.refl _ _).alloc zl _|exact ZK HB.out zl _ _ _ _)
theorem RM (w:World) (s:ByteArray) (r:Nat) (R:FR) (hs:s.size<=2000000000) (hr0:((r:Int)==0)=false) (hr:r<=s.size) (hX:HexNo s r) (hrun:PRuns s 0 10 r) (hD:DotNo s r) (hR:R=some (false, -1,r,0)):Calls prog 196 #[s,(0:Int)] w (FindPost w R):=by
 have HB:=zh (((Below.refl w.heap.size w).alloc zl (.cells #[.bool false,(0:Int),(0:Int),(0:Int)] 165)));have HRUN:=zh hrun;have HR:=zh hR;clear hrun hR;have hone:((r:Int)==1)=true->r=1:=fun h=>by have:=beq_iff_eq.1 h;omega
 rcases hX with hX|⟨hX,g0,hX0|⟨hX0,g1|⟨g1,⟨hX1,hX2⟩|⟨hXr,hXd,hX1|⟨hX1,hX2⟩⟩⟩⟩⟩
 ·clear hone;rcases hD with hD|⟨hD,hD2|⟨hD2,hD3⟩⟩
  ·skip
   go_enter func196,ntmps196;go_wp2_with fail
   refine(HRUN.out _).mono ?_;rintro e w' ⟨rfl,rfl⟩;go_wp2;all_goals
    refine zr (by simp[results,results196,go_sem]<;>rfl) ?_;exact Zo HR.out (by omega) (by omega) (by first|exact(Below.refl _ _).alloc zl _|exact ZK HB.out zl _ _ _ _)
  ·skip
   go_enter func196,ntmps196;go_wp2_with fail
   refine(HRUN.out _).mono ?_;rintro e w' ⟨rfl,rfl⟩;go_wp2;all_goals
    refine zr (by simp[results,results196,go_sem]<;>rfl) ?_;exact Zo HR.out (by omega) (by omega) (by first|exact(Below.refl _ _).alloc zl _|exact ZK HB.out zl _ _ _ _)
  ·have HRUN1:=zh hD3;clear hD3;go_enter func196,ntmps196;go_wp2_with fail
   refine(HRUN.out _).mono ?_;rintro e w' ⟨rfl,rfl⟩;go_wp2_with fail
   refine(HRUN1.out _).mono ?_;rintro e w' ⟨rfl,rfl⟩;go_wp2;all_goals
    refine zr (by simp[results,results196,go_sem]<;>rfl) ?_;exact Zo HR.out (by omega) (by omega) (by first|exact(Below.refl _ _).alloc zl _|exact ZK HB.out zl _ _ _ _)
 all_goals
  have hr1:=hone hX;clear hone;subst hr1
 ·rcases hD with hD|⟨hD,hD2|⟨hD2,hD3⟩⟩
  ·skip
   go_enter func196,ntmps196;go_wp2_with fail
   refine(HRUN.out _).mono ?_;rintro e w' ⟨rfl,rfl⟩;go_wp2;all_goals
    refine zr (by simp[results,results196,go_sem]<;>rfl) ?_;exact Zo HR.out (by omega) (by omega) (by first|exact(Below.refl _ _).alloc zl _|exact ZK HB.out zl _ _ _ _)
  ·skip
   go_enter func196,ntmps196;go_wp2_with fail
   refine(HRUN.out _).mono ?_;rintro e w' ⟨rfl,rfl⟩;go_wp2;all_goals
    refine zr (by simp[results,results196,go_sem]<;>rfl) ?_;exact Zo HR.out (by omega) (by omega) (by first|exact(Below.refl _ _).alloc zl _|exact ZK HB.out zl _ _ _ _)
  ·have HRUN1:=zh hD3;clear hD3;go_enter func196,ntmps196;go_wp2_with fail
   refine(HRUN.out _).mono ?_;rintro e w' ⟨rfl,rfl⟩;go_wp2_with fail
   refine(HRUN1.out _).mono ?_;rintro e w' ⟨rfl,rfl⟩;go_wp2;all_goals
    refine zr (by simp[results,results196,go_sem]<;>rfl) ?_;exact Zo HR.out (by omega) (by omega) (by first|exact(Below.refl _ _).alloc zl _|exact ZK HB.out zl _ _ _ _)
 ·clear hD;go_enter func196,ntmps196;go_wp2_with fail
  refine(HRUN.out _).mono ?_;rintro e w' ⟨rfl,rfl⟩;go_wp2;all_goals
   refine zr (by simp[results,results196,go_sem]<;>rfl) ?_;exact Zo HR.out (by omega) (by omega) (by first|exact(Below.refl _ _).alloc zl _|exact ZK HB.out zl _ _ _ _)
 ·rcases hD with hD|⟨hD,hD2|⟨hD2,hD3⟩⟩
  ·exfalso;omega
  ·skip
   go_enter func196,ntmps196;go_wp2_with fail
   refine(HRUN.out _).mono ?_;rintro e w' ⟨rfl,rfl⟩;go_wp2;all_goals
    refine zr (by simp[results,results196,go_sem]<;>rfl) ?_;exact Zo HR.out (by omega) (by omega) (by first|exact(Below.refl _ _).alloc zl _|exact ZK HB.out zl _ _ _ _)
  ·have HRUN1:=zh hD3;clear hD3;go_enter func196,ntmps196;go_wp2_with fail
   refine(HRUN.out _).mono ?_;rintro e w' ⟨rfl,rfl⟩;go_wp2_with fail
   refine(HRUN1.out _).mono ?_;rintro e w' ⟨rfl,rfl⟩;go_wp2;all_goals
    refine zr (by simp[results,results196,go_sem]<;>rfl) ?_;exact Zo HR.out (by omega) (by omega) (by first|exact(Below.refl _ _).alloc zl _|exact ZK HB.out zl _ _ _ _)
 all_goals
  clear hD;have HRUN2:=zh hXr;clear hXr;go_enter func196,ntmps196;go_wp2_with fail
  refine(HRUN.out _).mono ?_;rintro e w' ⟨rfl,rfl⟩;go_wp2_with fail
  refine(HRUN2.out _).mono ?_;rintro e w' ⟨rfl,rfl⟩;go_wp2;all_goals
   refine zr (by simp[results,results196,go_sem]<;>rfl) ?_;exact Zo HR.out (by omega) (by omega) (by first|exact(Below.refl _ _).alloc zl _|exact ZK HB.out zl _ _ _ _)
theorem RL (w:World) (s:ByteArray) (r:Nat) (R:FR) (hs:s.size<=2000000000) (hr0:((r:Int)==0)=false) (hr:r<=s.size) (hX:HexNo s r) (hrun:PRuns s 0 10 r) (e:Nat) (hl:r<s.size) (hd:((s[r].toNat:Int)==46)=true) (hrun1:PRuns s ((r:Int)+1) 10 e) (he:r+1<e) (he2:e<=s.size) (hR:R=some (false,((r:Nat):Int),e,0)):Calls prog 196 #[s,(0:Int)] w (FindPost w R):=by
 have HB:=zh (((Below.refl w.heap.size w).alloc zl (.cells #[.bool false,(0:Int),(0:Int),(0:Int)] 165)));have HRUN:=zh hrun;have HR:=zh hR;clear hrun hR;have hone:((r:Int)==1)=true->r=1:=fun h=>by have:=beq_iff_eq.1 h;omega
 have HRUN1:=zh hrun1;clear hrun1;rcases hX with hX|⟨hX,g0,hX0|⟨hX0,g1|⟨g1,⟨hX1,hX2⟩|⟨hXr,hXd,hX1|⟨hX1,hX2⟩⟩⟩⟩⟩
 ·clear hone;go_enter func196,ntmps196;go_wp2_with fail
  refine(HRUN.out _).mono ?_;rintro e w' ⟨rfl,rfl⟩;go_wp2_with fail
  refine(HRUN1.out _).mono ?_;rintro e w' ⟨rfl,rfl⟩;go_wp2;all_goals
   refine zr (by simp[results,results196,go_sem]<;>rfl) ?_;exact Zo HR.out (by omega) (by omega) (by first|exact(Below.refl _ _).alloc zl _|exact ZK HB.out zl _ _ _ _)
 all_goals
  have hr1:=hone hX;clear hone;subst hr1
 ·skip
  go_enter func196,ntmps196;go_wp2_with fail
  refine(HRUN.out _).mono ?_;rintro e w' ⟨rfl,rfl⟩;go_wp2_with fail
  refine(HRUN1.out _).mono ?_;rintro e w' ⟨rfl,rfl⟩;go_wp2;all_goals
   refine zr (by simp[results,results196,go_sem]<;>rfl) ?_;exact Zo HR.out (by omega) (by omega) (by first|exact(Below.refl _ _).alloc zl _|exact ZK HB.out zl _ _ _ _)
 ·exfalso;omega
 ·skip
  go_enter func196,ntmps196;go_wp2_with fail
  refine(HRUN.out _).mono ?_;rintro e w' ⟨rfl,rfl⟩;go_wp2_with fail
  refine(HRUN1.out _).mono ?_;rintro e w' ⟨rfl,rfl⟩;go_wp2;all_goals
   refine zr (by simp[results,results196,go_sem]<;>rfl) ?_;exact Zo HR.out (by omega) (by omega) (by first|exact(Below.refl _ _).alloc zl _|exact ZK HB.out zl _ _ _ _)
 ·exact absurd (hd.symm.trans hXd) (by decide)
 ·exact absurd (hd.symm.trans hXd) (by decide)
theorem SU (w:World) (s:ByteArray) (hs:s.size<=2000000000):Calls prog 196 #[s,(0:Int)] w (FindPost w (UQ (QF s))):=by
 obtain⟨R,hR⟩:∃R,R=UQ (QF s):=⟨_,rfl⟩
 rw[<-hR];unfold UQ at hR;cases hx:Zm (QF s) with
 |true=>
  rw[hx,if_pos rfl] at hR;have hr1:=LF hx;have hrun:PRuns s 0 10 (1:Nat):=Dj s hs 0 (by omega) 10 (.inl rfl) 1 (by rw[Nat.zero_add];exact hr1);have hl:2<s.size:=by
   apply Classical.byContradiction;intro hc;rw[Xm (by omega)] at hx;cases hx
  rw[XC hl,Bool.and_eq_true,Bool.and_eq_true,Bool.or_eq_true,beq_iff_eq,beq_iff_eq,beq_iff_eq] at hx;obtain⟨⟨h0,h1⟩,h2⟩:=hx;have hrl:=JH 16 ((QF s).drop 2);rw[List.length_drop,Qc] at hrl;have hpos:1<=ZT 16 ((QF s).drop 2):=by
   rw[Q3 s 2 hl];unfold ZT;rw[if_pos h2];omega
  obtain⟨e,he⟩:∃e,2+ZT 16 ((QF s).drop 2)=e:=⟨_,rfl⟩
  rw[he] at hR;refine CO w s e R hs hl ((Zi s[0] 48).trans (decide_eq_true h0)) ?_ (by omega) (by omega) hrun (Dj s hs 2 (by omega) 16 (.inr rfl) e he) hR;rcases h1 with h1|h1
  ·exact .inl ((Zi s[1] 120).trans (decide_eq_true h1))
  ·exact .inr ⟨(Zi s[1] 120).trans (decide_eq_false (by omega)),(Zi s[1] 88).trans (decide_eq_true h1)⟩
 |false=>
  rw[hx,if_neg (by decide)] at hR;have hrl:=JH 10 (QF s);rw[Qc] at hrl;obtain⟨r,hr⟩:∃r,ZT 10 (QF s)=r:=⟨_,rfl⟩
  have hrun:PRuns s 0 10 r:=Dj s hs 0 (by omega) 10 (.inl rfl) r (by rw[Nat.zero_add];exact hr);rw[hr] at hR hrl;by_cases h0:r=0
  ·subst h0;rw[if_pos rfl] at hR;exact RN w s R hs hrun hR
  ·rw[if_neg h0] at hR;have hr0:((r:Int)==0)=false:=by rw[beq_eq_false_iff_ne];omega
   by_cases hp:ZQ (QF s) r=0
   ·rw[if_pos hp] at hR;exact RM w s r R hs hr0 hrl (Bd hs hrl hx) hrun (Rb hs hp) hR
   ·rw[if_neg hp] at hR;obtain⟨hl1,hp1,hp2,hp3⟩:=Yb hp;rw[hp3] at hR hp;have hrl1:=JH 10 ((QF s).drop (r+1));rw[List.length_drop,Qc] at hrl1;obtain⟨e,he⟩:∃e,r+1+ZT 10 ((QF s).drop (r+1))=e:=⟨_,rfl⟩
    rw[he] at hR;exact RL w s r R hs hr0 hrl (Bd hs hrl hx) hrun e (by omega) hp1 (Dj s hs (r+1) (by omega) 10 (.inl rfl) e he) (by omega) (by omega) hR
def CutTo (s p q:ByteArray) (b:Bool) (w:World):Prop:=∀W,W.cell? ⟨0,0,none⟩=w.cell? ⟨0,0,none⟩->Calls prog 238 #[s,.string ⟨#[47]⟩] W fun e w'=>e= .returned (.tuple #[p,q,.bool b])/\∃n,w'=W.drewN n
theorem Mn {w:World} {s:ByteArray} (hs:s.size<=2000000000) {m:Int} (hm:w.cell? ⟨0,0,none⟩=some (.int .i64 m)) (h:ZI (QF s)=none):CutTo s s ⟨#[]⟩ false w:=fun W hW=>by
 have:=strings_Cut s ⟨#[47]⟩ m W (by omega) (hW.trans hm);rw[show(⟨#[47]⟩:ByteArray).data.toList=[47] from rfl,BA h] at this;simpa using this
theorem Mm {w:World} {s:ByteArray} (hs:s.size<=2000000000) {m:Int} (hm:w.cell? ⟨0,0,none⟩=some (.int .i64 m)) {k:Nat} (h:ZI (QF s)=some k):
  CutTo s ⟨(s.data.toList.take k).toArray⟩ ⟨(s.data.toList.drop (k+1)).toArray⟩ true w:=fun W hW=>by
 have:=strings_Cut s ⟨#[47]⟩ m W (by omega) (hW.trans hm);rw[show(⟨#[47]⟩:ByteArray).data.toList=[47] from rfl,C9 h] at this;exact this
theorem JW (w:World) (k p q:Int) (s:ByteArray) (r:Int):Calls prog 26 #[.agg #[k,p,q,s,r]] w (BoolPost w (Qt ⟨k,p,q,s,r⟩)):=by
 obtain⟨R,hR⟩:∃R,R=Qt ⟨k,p,q,s,r⟩:=⟨_,rfl⟩
 rw[<-hR];have HR:=zh hR;clear hR;go_enter func26,ntmps26;go_wp2_with (first|(go_at_call 81;refine(Q7 _ _ _).mono ?_;rintro e w1 ⟨rfl,hb⟩))
 all_goals
  go_ret
  have h:=HR.out;clear HR;first
  |(refine Q9 ?_ (Qj _ _);subst h;simp_all[Qt,Xh,UM,A5,V.num,KU,Le,Lf,Ld,T5]<;>omega)
  |(refine Q9 ?_ (QC (Qj _ _) (by assumption));subst h;simp_all[Qt,Xh,UM,A5,V.num,KU,Le,Lf,Ld,T5]<;>omega)
  |trace_state
theorem JY (w:World) (k p q:Int) (s:ByteArray) (r:Int):Calls prog 36 #[.agg #[k,p,q,s,r]] w (BoolPost w (Qt ⟨k,p,q,s,r⟩)):=by
 obtain⟨R,hR⟩:∃R,R=Qt ⟨k,p,q,s,r⟩:=⟨_,rfl⟩
 rw[<-hR];have HR:=zh hR;clear hR;go_enter func36,ntmps36;go_wp2_with (first|(go_at_call 88;refine(Q5 _ _ _).mono ?_;rintro e w1 ⟨rfl,hb⟩;obtain⟨hc,hf⟩:=QN hb))
 all_goals
  go_ret
  have h:=HR.out;clear HR;first
  |(refine Q9 ?_ (QE _ _ _);subst h;simp_all[Qt,Xh,UM,A5,V.num,KU,Le,Lf,Ld,T5]<;>omega)
  |(refine Q9 ?_ (QC (QE _ _ _) (by assumption));subst h;simp_all[Qt,Xh,UM,A5,V.num,KU,Le,Lf,Ld,T5]<;>omega)
  |trace_state
end Go.Proofs.YthkpckgcgkijbaaGreatDoor
