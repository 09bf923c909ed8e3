import Derived.Test.YthkpckgcgkijbaaGreatDoorOpCw
import Derived.Test.YthkpckgcgkijbaaGreatDoorNumU
set_option linter.unusedVariables false
set_option linter.unusedSimpArgs false
set_option maxRecDepth 100000
set_option maxHeartbeats 8000000
namespace Go.Proofs.YthkpckgcgkijbaaGreatDoor
open Go.RowKit Go.Proofs.Lexi
theorem sfrac_c (w:World) (p q:Int) (hp1: -9223372036854775807≤p) (hp2:p≤9223372036854775807) (hq1: -9223372036854775807≤q) (hq2:q≤9223372036854775807) (h0:q≠0):
  Calls Tryz.prog 161 #[.int .i64 p,.int .i64 q] w (NumPost w (redN p q)):=by
 obtain⟨D,hD⟩:∃D,D=Int.gcd p q:=⟨_,rfl⟩
 have hD0:0<D:=by rw[hD];exact gcd_pos_right h0
 have hD1:D≤9223372036854775807:=by
  have:=Int.gcd_le_natAbs_right (a:=p) (b:=q) (by omega)
  omega
 have hqp:=quo_bounds (P:=p) hD0 hp1 hp2
 have hqq:=quo_bounds (P:=q) hD0 hq1 hq2
 have HTP:=Lib.hid (show Int.tdiv p (D:Int)=p/(D:Int) by rw[hD];exact tdiv_gcd_left p q)
 have HTQ:=Lib.hid (show Int.tdiv q (D:Int)=q/(D:Int) by rw[hD];exact tdiv_gcd_right p q)
 have hsg:=quo_sign (q:=q) hD0 (by rw[hD];exact Int.gcd_dvd_right ..)
 have HQ:=Lib.hid (redN_quo hD)
 have HDD:=Lib.hid (show Nat.gcd p.natAbs q.natAbs=D from hD.symm)
 have HGC:=Lib.hid (fun W x y hx hy=>sgcd_c W x y p.natAbs q.natAbs hx hy (by omega) (by omega))
 clear hD
 obtain⟨R,hR⟩:∃R,R=redN p q:=⟨_,rfl⟩
 rw[←hR] at HQ ⊢
 obtain⟨X,hX⟩:∃X,X=p/(D:Int):=⟨_,rfl⟩
 obtain⟨Y,hY⟩:∃Y,Y=q/(D:Int):=⟨_,rfl⟩
 rw[←hX] at hqp HTP HQ
 rw[←hY] at hqq HTQ HQ hsg
 have HX:=Lib.hid (show p/(D:Int)=X from hX.symm)
 have HY:=Lib.hid (show q/(D:Int)=Y from hY.symm)
 obtain⟨x1,x2⟩:=hqp
 obtain⟨y1,y2⟩:=hqq
 obtain⟨s1,s2⟩:=hsg
 have hcase:(q<0∧Y<0)∨(0<q∧0<Y):=by
  rcases Int.lt_or_gt_of_ne h0 with h|h
  ·exact .inl ⟨h,s1 h⟩
  ·exact .inr ⟨h,s2 h⟩
 clear hR hX hY s1 s2
 have HA1:=Lib.hid (fun W=>sabs_c W p hp1 hp2)
 have HA2:=Lib.hid (fun W=>sabs_c W q hq1 hq2)
 have HB:=Lib.hid (zAe w (o2 0 0))
 rcases hcase with⟨c1,c2⟩|⟨c1,c2⟩
 ·have HE:=Lib.hid (show-X< -2147483647∨2147483647< -X∨2147483647< -Y→R= .error 6 from fun h=>(HQ.out.1 c1).trans (rangeN_err h))
  have HO:=Lib.hid (show-2147483647≤ -X→ -X≤2147483647→ -Y≤2147483647→R= .ok (-X, -Y) from fun h1 h2 h3=>(HQ.out.1 c1).trans (rangeN_ok h1 h2 h3))
  clear HQ
  go_enter Tryz.func161,Tryz.ntmps161
  go_wp2_with fail
  refine(HA1.out _).mono ?_
  rintro e w1 ⟨rfl,rfl⟩
  go_wp2_with fail
  refine(HA2.out _).mono ?_
  rintro e w1 ⟨rfl,rfl⟩
  go_wp2_with fail
  refine(HGC.out _ _ _ rfl rfl).mono ?_
  rw[HDD.out]
  rintro e w1 ⟨rfl,n,rfl⟩
  have htp:=HTP.out
  have htq:=HTQ.out
  have hxx:=HX.out
  have hyy:=HY.out
  go_wp2
  all_goals
   refine bodyPost_ret (by simp[results,Tryz.results161,go_sem];first|done|rfl) rfl ?_
   first|exact zAV (HE.out (by omega)) (below_num _ _ _ _ _)|exact zCL (HO.out (by omega) (by omega) (by omega)) (below_num _ _ _ _ _)
 ·have HE:=Lib.hid (show X< -2147483647∨2147483647<X∨2147483647<Y→R= .error 6 from fun h=>(HQ.out.2 (by omega)).trans (rangeN_err h))
  have HO:=Lib.hid (show-2147483647≤X→X≤2147483647→Y≤2147483647→R= .ok (X,Y) from fun h1 h2 h3=>(HQ.out.2 (by omega)).trans (rangeN_ok h1 h2 h3))
  clear HQ
  go_enter Tryz.func161,Tryz.ntmps161
  go_wp2_with fail
  refine(HA1.out _).mono ?_
  rintro e w1 ⟨rfl,rfl⟩
  go_wp2_with fail
  refine(HA2.out _).mono ?_
  rintro e w1 ⟨rfl,rfl⟩
  go_wp2_with fail
  refine(HGC.out _ _ _ rfl rfl).mono ?_
  rw[HDD.out]
  rintro e w1 ⟨rfl,n,rfl⟩
  have htp:=HTP.out
  have htq:=HTQ.out
  have hxx:=HX.out
  have hyy:=HY.out
  go_wp2
  all_goals
   refine bodyPost_ret (by simp[results,Tryz.results161,go_sem];first|done|rfl) rfl ?_
   first|exact zAV (HE.out (by omega)) (below_num _ _ _ _ _)|exact zCL (HO.out (by omega) (by omega) (by omega)) (below_num _ _ _ _ _)
theorem sint_c (w:World) (n:Int):Calls Tryz.prog 163 #[.int .i64 n] w (NumPost w (intN n)):=by
 by_cases h: -2147483647≤n∧n≤2147483647
 ·obtain⟨h1,h2⟩:=h
  have HR:=Lib.hid (show intN n= .ok (n,1) from by unfold intN;rw[if_pos (inTop_iff.2 ⟨h1,h2⟩)])
  go_enter Tryz.func163,Tryz.ntmps163
  go_wp2
  refine bodyPost_ret (by simp[results,Tryz.results163,go_sem];first|done|rfl) rfl ?_
  exact zCL HR.out (zAe _ _)
 ·have HR:=Lib.hid (show intN n= .error 6 from by unfold intN;rw[if_neg (fun e=>h (inTop_iff.1 e))])
  have hc:n< -2147483647∨(-2147483647≤n∧2147483647<n):=by omega
  clear h
  rcases hc with k1|⟨k1,k2⟩
  all_goals
   go_enter Tryz.func163,Tryz.ntmps163
   go_wp2
   refine bodyPost_ret (by simp[results,Tryz.results163,go_sem];first|done|rfl) rfl ?_
   exact zAV HR.out (zAe _ _)
theorem sneg_c (w:World) (p q:Int):Calls Tryz.prog 106 #[.agg #[.int .i64 p,.int .i64 q]] w (NumPost w (negN (p,q))):=by
 have HB:=Lib.hid (zAF w (.cells #[.int .i64 p,.int .i64 q] 23) (.cells #[.int .i64 0,.int .i64 0] 23))
 have HV:=Lib.hid (zBB ((w.alloc (.cells #[.int .i64 p,.int .i64 q] 23)).alloc (.cells #[.int .i64 0,.int .i64 0] 23)) p q)
 cases hv:zAT (p,q) with
 |true=>
  have hb:=zAN hv
  simp only[] at hb
  obtain⟨h1,h2,h3,h4⟩:=hb
  have HR:=Lib.hid (show negN (p,q)= .ok (-p,q) from by unfold negN;rw[hv];rfl)
  have HVV:=Lib.hid hv
  clear hv
  go_enter Tryz.func106,Tryz.ntmps106
  go_wp2_with fail
  refine HV.out.mono ?_
  rw[HVV.out]
  rintro e w1 ⟨rfl,hb⟩
  have HB1:=hbn HB.out hb
  obtain⟨hc,hf⟩:=bcell hb
  have hz:=hb.size
  simp at hz
  clear hb
  go_wp2
  refine bodyPost_ret (by simp[results,Tryz.results106,go_sem,hc];first|done|rfl) rfl ?_
  exact zCL HR.out (zAD HB1.out (Nat.le_succ _) _ _)
 |false=>
  have HR:=Lib.hid (show negN (p,q)= .error 2 from by unfold negN;rw[hv];rfl)
  have HVV:=Lib.hid hv
  clear hv
  go_enter Tryz.func106,Tryz.ntmps106
  go_wp2_with fail
  refine HV.out.mono ?_
  rw[HVV.out]
  rintro e w1 ⟨rfl,hb⟩
  have HB1:=hbn HB.out hb
  obtain⟨hc,hf⟩:=bcell hb
  have hz:=hb.size
  simp at hz
  clear hb
  go_wp2
  refine bodyPost_ret (by simp[results,Tryz.results106,go_sem,hc];first|done|rfl) rfl ?_
  exact zAV HR.out (zAD HB1.out (Nat.le_succ _) _ _)
theorem sorder_c (w:World) (x y:Int):Calls Tryz.prog 214 #[.int .i64 x,.int .i64 y] w fun e w'=>e= .returned (.int .i64 (zBX x y))∧w=w':=by
 have hc:x<y∨y<x∨x=y:=by omega
 rcases hc with h|h|rfl
 ·have HR:=Lib.hid (show zBX x y= -1 from by unfold zBX;rw[if_pos h])
  go_enter Tryz.func214,Tryz.ntmps214
  go_wp2
  go_ret
  exact⟨zBE HR.out.symm,rfl⟩
 ·have HR:=Lib.hid (show zBX x y=1 from by unfold zBX;rw[if_neg (by omega),if_pos h])
  have h':¬x<y:=by omega
  go_enter Tryz.func214,Tryz.ntmps214
  go_wp2
  go_ret
  exact⟨zBE HR.out.symm,rfl⟩
 ·have HR:=Lib.hid (show zBX x x=0 from by unfold zBX;rw[if_neg (by omega),if_neg (by omega)])
  go_enter Tryz.func214,Tryz.ntmps214
  go_wp2
  go_ret
  exact⟨zBE HR.out.symm,rfl⟩
theorem spower_c (w:World) (x n:Int) (k:Nat) (hn:n=k) (hk:k≤1000) (h1: -2147483647≤x) (h2:x≤2147483647):Calls Tryz.prog 166 #[.int .i64 x,.int .i64 n] w (PowPost w (powG x k 1)):=by
 subst hn
 obtain⟨R,hR⟩:∃R,R=powG x k 1:=⟨_,rfl⟩
 rw[←hR]
 have HS:=Lib.hid (show PowRel w x k R k (.int .i64 1) (.int .i64 0) w from⟨0,1,rfl,rfl,rfl,rfl,Nat.zero_le _,by omega,by omega,hR.symm⟩)
 clear hR
 go_enter Tryz.func166,Tryz.ntmps166
 go_wp2
 go_loopg [6,7] k (fun gg u v wr=>PowRel w x k R gg u v wr)
 case atStart=>exact HS.out
 case round=>
  clear HS
  obtain⟨j,p,rfl,rfl,rfl,rfl,hj,p1,p2,hp⟩:=hrel
  by_cases hlt:j<k
  ·have hm:=zAd p1 p2 h1 h2
   obtain⟨d,hd⟩:∃d,k-j=d+1:=⟨k-j-1,by omega⟩
   rw[hd] at hp
   obtain⟨y,hy⟩:∃y,y=p*x:=⟨_,rfl⟩
   have hp2:(if inTop y then powG x d y else none)=R:=by rw[hy];exact hp
   have HY:=Lib.hid hy
   have HD:=Lib.hid hd
   rw[←hy] at hm
   clear hp hy hd
   by_cases hin: -2147483647≤y∧y≤2147483647
   ·rw[if_pos (inTop_iff.2 hin)] at hp2
    have HN:=Lib.hid (show PowRel w x k R (k-(j+1)) (.int .i64 y) (.int .i64 ((j:Int)+1)) w from⟨j+1,y,rfl,rfl,rfl,rfl,by omega,hin.1,hin.2,by rw[show k-(j+1)=d by have:=HD.out;omega];exact hp2⟩)
    obtain⟨y1,y2⟩:=hin
    have hyy:=HY.out.symm
    clear hp2
    go_wp2
    go_roundg (k-(j+1))
    case measure=>omega
    case rel=>exact HN.out
   ·rw[if_neg (fun e=>hin (inTop_iff.1 e))] at hp2
    have HN:=Lib.hid hp2.symm
    have hc:2147483647<y∨(y≤2147483647∧y< -2147483647):=by omega
    have hyy:=HY.out.symm
    clear hp2 hin
    rcases hc with c1|⟨c1,c2⟩
    all_goals
     go_wp2
     go_ret2
     exact pow_none HN.out rfl
  ·have HN:=Lib.hid (show R=some p from by rw[←hp,show k-j=0 by omega];rfl)
   clear hp
   go_wp2
   go_ret2
   exact pow_some HN.out rfl
theorem smake_c (w:World) (p q:Int):Calls Tryz.prog 220 #[.int .i64 p,.int .i64 q] w (NumPost w (makeN p q)):=by
 have HB:=Lib.hid (zAe w (o2 0 0))
 obtain⟨R,hR⟩:∃R,R=makeN p q:=⟨_,rfl⟩
 rw[←hR]
 by_cases h0:q=0
 ·have HR:=Lib.hid (show R= .error 7 from by rw[hR];unfold makeN;rw[if_pos h0])
  have t0:(q==0)=true:=by rw[h0];rfl
  clear h0 hR
  go_enter Tryz.func220,Tryz.ntmps220
  go_wp2
  refine bodyPost_ret (by simp[results,Tryz.results220,go_sem];first|done|rfl) rfl ?_
  exact zAV HR.out HB.out
 ·have t0:(q==0)=false:=by rw[beq_eq_false_iff_ne];exact h0
  by_cases hb: -4611686018427387904≤p∧p≤4611686018427387904∧ -4611686018427387904≤q∧q≤4611686018427387904
  ·obtain⟨b1,b2,b3,b4⟩:=hb
   have HR:=Lib.hid (show redN p q=R from by rw[hR];unfold makeN;rw[if_neg h0,if_pos];simp[in62];omega)
   have HC:=Lib.hid (sfrac_c (w.alloc (o2 0 0)) p q (by omega) (by omega) (by omega) (by omega) h0)
   clear h0 hR
   go_enter Tryz.func220,Tryz.ntmps220
   go_wp2_with fail
   refine HC.out.mono ?_
   rw[HR.out]
   rintro e w1 ⟨rfl,hb⟩
   obtain⟨hc,hf⟩:=bcell hb
   have hz:=hb.size
   simp at hz
   have HB1:=hbn HB.out hb
   clear hb
   go_wp2
   refine bodyPost_ret (by simp[results,Tryz.results220,go_sem,hc];first|done|rfl) rfl ?_
   exact zAu (zAD HB1.out (Nat.le_refl _) _ _)
  ·have HR:=Lib.hid (show R= .error 6 from by rw[hR];unfold makeN;rw[if_neg h0,if_neg];simp[in62];omega)
   have hcs:p< -4611686018427387904∨4611686018427387904<p∨((-4611686018427387904≤p∧p≤4611686018427387904)∧(q< -4611686018427387904∨4611686018427387904<q)):=by omega
   clear hb h0 hR
   rcases hcs with c|c|⟨⟨c1,c2⟩,c|c⟩
   all_goals
    go_enter Tryz.func220,Tryz.ntmps220
    go_wp2
    refine bodyPost_ret (by simp[results,Tryz.results220,go_sem];first|done|rfl) rfl ?_
    exact zAV HR.out HB.out
theorem swhole_c (w:World) (p q:Int):Calls Tryz.prog 165 #[.agg #[.int .i64 p,.int .i64 q]] w (WholePost w (p,q)):=by
 have HB:=Lib.hid (zAe w (o2 p q))
 have HV:=Lib.hid (zBB (w.alloc (o2 p q)) p q)
 cases hv:zAT (p,q) with
 |false=>
  have HW:=Lib.hid (show wholeN (p,q)=false from by unfold wholeN;rw[hv];rfl)
  have HVV:=Lib.hid hv
  clear hv
  go_enter Tryz.func165,Tryz.ntmps165
  go_wp2_with fail
  refine HV.out.mono ?_
  rw[HVV.out]
  rintro e w1 ⟨rfl,hb⟩
  have HB1:=hbn HB.out hb
  clear hb
  go_wp2
  go_ret2
  exact whole_no HW.out HB1.out
 |true=>
  obtain⟨c,hc⟩:∃c,(q==1)=c:=⟨_,rfl⟩
  have hcw:wholeN (p,q)=c:=by unfold wholeN;rw[hv,←hc,Bool.eq_iff_iff];simp
  have HW:=Lib.hid hcw
  have HVV:=Lib.hid hv
  clear hv hcw
  cases c
  all_goals
   go_enter Tryz.func165,Tryz.ntmps165
   go_wp2_with fail
   refine HV.out.mono ?_
   rw[HVV.out]
   rintro e w1 ⟨rfl,hb⟩
   have HB1:=hbn HB.out hb
   obtain⟨hc,hf⟩:=bcell hb
   have hz:=hb.size
   simp at hz
   clear hb
   go_wp2
   go_ret2
   first|exact whole_no HW.out HB1.out|exact whole_yes HW.out HB1.out
theorem sfloor_c (w:World) (x y:Int) (hx1: -4611686018427387904≤x) (hx2:x≤4611686018427387904) (hy1: -4611686018427387904≤y) (hy2:y≤4611686018427387904) (h0:y≠0):
  Calls Tryz.prog 164 #[.int .i64 x,.int .i64 y] w fun e w'=>e= .returned (.int .i64 (Int.fdiv x y))∧w=w':=by
 obtain⟨T,hT⟩:∃T,T=x.tdiv y:=⟨_,rfl⟩
 obtain⟨M,hM⟩:∃M,M=x.tmod y:=⟨_,rfl⟩
 have hb:=tdiv_bounds (y:=y) hx1 hx2
 have hm:=tmod_bounds (x:=x) h0
 have HS:=Lib.hid (floor_same (x:=x) (y:=y))
 have HL:=Lib.hid (floor_less (x:=x) (y:=y))
 rw[←hT,←hM] at HS HL
 have HW:=Lib.hid (show wrap64 (x.tdiv y)=T from by rw[hT];exact IntWalk.wrap64_in _ (by omega))
 have HT:=Lib.hid (show x.tdiv y=T from hT.symm)
 have HM:=Lib.hid (show x.tmod y=M from hM.symm)
 have HP:=Lib.hid (show 0≤x→x/y=T∧x%y=M from fun h=>⟨by rw[hT,Int.tdiv_eq_ediv_of_nonneg h],by rw[hM,Int.tmod_eq_emod_of_nonneg h]⟩)
 have hs1:0≤x→0≤M:=fun h=>by rw[hM];exact Int.tmod_nonneg _ h
 have hs2:x<0→M≤0:=fun h=>by
  rw[hM]
  have:=Int.tmod_nonneg y (a:= -x) (by omega)
  rw[Int.neg_tmod] at this
  omega
 rw[←hT] at hb
 rw[←hM] at hm
 obtain⟨hb1,hb2⟩:=hb
 have hm1: -4611686018427387904≤M:=by omega
 have hm2:M≤4611686018427387904:=by omega
 clear hT hM hm
 have hc:((0≤x∧0<y)∨(0≤x∧y<0)∨(x<0∧0<y)∨(x<0∧y<0))∧((M≤0∧0≤M)∨M<0∨0<M):=by omega
 obtain⟨hc,hm0⟩:=hc
 have hfin:(M=0∨(0≤x∧0<y)∨(x<0∧y<0))∨(M≠0∧((0≤x∧y<0)∨(x<0∧0<y))):=by omega
 have HFIN:=Lib.hid hfin
 clear hfin
 rcases hc with⟨k1,k2⟩|⟨k1,k2⟩|⟨k1,k2⟩|⟨k1,k2⟩
 all_goals
  rcases hm0 with⟨m0,m00⟩|m0|m0
  all_goals
   first
   |(exfalso;have:=hs1 (by omega);omega;done)
   |(exfalso;have:=hs2 (by omega);omega;done)
   |skip
 all_goals
  have tm:(M !=0)=decide (M≠0):=by by_cases h:M=0<;>simp[h]
  first|rw[decide_eq_true (show M≠0 by omega)] at tm|rw[decide_eq_false (show¬M≠0 by omega)] at tm
  obtain⟨dx,hdx⟩:∃b,decide (x<0)=b:=⟨_,rfl⟩
  obtain⟨dy,hdy⟩:∃b,decide (y<0)=b:=⟨_,rfl⟩
  clear hs1 hs2
  cases dx<;>cases dy
 all_goals
  have hdx2:=hdx
  have hdy2:=hdy
  simp only[decide_eq_true_eq,decide_eq_false_iff_not] at hdx2 hdy2
  first|(exfalso;omega;done)|skip
 all_goals
  clear hdx2 hdy2
  have e1:=HT.out
  have e2:=HM.out
  first|(have e3:=(HP.out k1).1;have e4:=(HP.out k1).2;skip)|skip
  go_enter Tryz.func164,Tryz.ntmps164
  go_wp2
  go_ret
  first|exact⟨zBE ((HS.out (by omega)).1.symm),rfl⟩|exact⟨zBE ((HL.out (by omega) (by omega)).1.symm),rfl⟩
theorem snumHex_c (w:World) (s:ByteArray) (hs:s.size≤2000000000) (hx:zBl (zAE s)=true):
  Calls Tryz.prog 217 #[.string s,.int .i64 0] w (NumlPost w (zAv (zAE s))):=by
 obtain⟨R,hR⟩:∃R,R=zAv (zAE s):=⟨_,rfl⟩
 rw[←hR]
 have hl:2<s.size:=by
  apply Classical.byContradiction
  intro hc
  rw[hex_short (by omega)] at hx
  cases hx
 rw[numeral_hex hx] at hR
 rw[hex_long hl,Bool.and_eq_true,Bool.and_eq_true,Bool.or_eq_true,beq_iff_eq,beq_iff_eq,beq_iff_eq] at hx
 obtain⟨⟨h0,h1⟩,h2⟩:=hx
 have hd16:digV s[2].toNat<16:=of_decide_eq_true h2
 have hz0:((s[0].toNat:Int)==48)=true:=by rw[beq_iff_eq];omega
 have HD:=Lib.hid (fun W=>zCB W s[2].toNat (u8_le _))
 have hrl:=zCI 16 ((zAE s).drop 2)
 rw[List.length_drop,zAb] at hrl
 have HRUN:=Lib.hid (fun W=>srun_c W s hs 2 (by omega) 16 (.inr rfl))
 obtain⟨j,hj⟩:∃j,2+runN 16 ((zAE s).drop 2)=j:=⟨_,rfl⟩
 have HJ:=Lib.hid hj
 have hj2:2≤j:=by omega
 have hj3:j≤s.size:=by omega
 have hbx:zAE (s.extract 2 j)=((zAE s).drop 2).take (runN 16 ((zAE s).drop 2)):=by rw[zBQ,←hj,Nat.add_sub_cancel_left]
 rw[hj,←hbx] at hR
 clear hj hrl hbx h2 h0
 have hxs:(s.extract 2 j).size≤2000000000:=by rw[ByteArray.size_extract];omega
 have HNUM:=Lib.hid (fun W=>snumber_c W (s.extract 2 j) hxs 16 (.inr rfl))
 have hsl:=zBG s 2 (j:Int) 2 j rfl rfl hj2 hj3
 have HB:=Lib.hid (((Below.refl w.heap.size w).alloc (Nat.le_refl _) (o2 0 0)))
 clear hxs
 have hR2:R=(j,match numG 16 (zAE (s.extract 2 j)) 0 with|none=> .error 6|some n=>makeN n 1):=hR
 clear hR
 have h1':((s[1].toNat:Int)==120)=true∨(((s[1].toNat:Int)==120)=false∧((s[1].toNat:Int)==88)=true):=by
  rcases h1 with h|h
  ·exact .inl (by rw[beq_iff_eq];omega)
  ·exact .inr ⟨by rw[beq_eq_false_iff_ne];omega,by rw[beq_iff_eq];omega⟩
 clear h1
 cases hn:numG 16 (zAE (s.extract 2 j)) 0 with
 |none=>
  rw[hn] at hR2
  have HR:=Lib.hid hR2
  have HN:=Lib.hid hn
  clear hR2 hn
  rcases h1' with h1|⟨h1,h1b⟩
  all_goals
   go_enter Tryz.func217,Tryz.ntmps217
   go_wp2_with fail
   refine(HD.out _).mono ?_
   rintro e w1 ⟨rfl,rfl⟩
   go_wp2_with fail
   refine(HRUN.out _).mono ?_
   rw[HJ.out]
   rintro e w1 ⟨rfl,rfl⟩
   go_wp2_with fail
   refine(HNUM.out _).mono ?_
   rw[HN.out]
   rintro e w1 ⟨rfl,rfl⟩
   go_wp2
   refine bodyPost_ret (by simp[results,Tryz.results217,go_sem];first|done|rfl) rfl ?_
   exact numl_err HR.out HB.out
 |some n=>
  rw[hn] at hR2
  have HR:=Lib.hid hR2
  have HN:=Lib.hid hn
  clear hR2 hn
  rcases h1' with h1|⟨h1,h1b⟩
  all_goals
   go_enter Tryz.func217,Tryz.ntmps217
   go_wp2_with fail
   refine(HD.out _).mono ?_
   rintro e w1 ⟨rfl,rfl⟩
   go_wp2_with fail
   refine(HRUN.out _).mono ?_
   rw[HJ.out]
   rintro e w1 ⟨rfl,rfl⟩
   go_wp2_with fail
   refine(HNUM.out _).mono ?_
   rw[HN.out]
   rintro e w1 ⟨rfl,rfl⟩
   go_wp2_with fail
   refine(smake_c _ _ _).mono ?_
   rintro e w1 ⟨rfl,hb⟩
   have hz:=hb.size
   simp at hz
   have hb2:=hb.alloc (Nat.le_trans (Nat.le_refl _) hb.size) (o2 (nP (makeN (numV (some n)) 1)) (nQ (makeN (numV (some n)) 1)))
   obtain⟨W2,hW2⟩:∃W2,W2=w1.alloc (o2 (nP (makeN (numV (some n)) 1)) (nQ (makeN (numV (some n)) 1))):=⟨_,rfl⟩
   rw[←hW2] at hb2
   have HB1:=hbn HB.out hb2
   obtain⟨hc,hf⟩:=bcell hb2
   have c0:W2.cell? ⟨w.heap.size,0,none⟩=some (.int .i64 0):=(hc _ _ (by simp)).trans (by simp[go_sem])
   have c1:W2.cell? ⟨w.heap.size,1,none⟩=some (.int .i64 0):=(hc _ _ (by simp)).trans (by simp[go_sem])
   have f0:W2.frozen? ⟨w.heap.size,0,none⟩=false:=(hf _ _ (by simp)).trans (by simp[go_sem])
   have f1:W2.frozen? ⟨w.heap.size,1,none⟩=false:=(hf _ _ (by simp)).trans (by simp[go_sem])
   have d0:W2.cell? ⟨w1.heap.size,0,none⟩=some (.int .i64 (nP (makeN (numV (some n)) 1))):=by rw[hW2];exact zAA (zAg _ _)
   have d1:W2.cell? ⟨w1.heap.size,1,none⟩=some (.int .i64 (nQ (makeN (numV (some n)) 1))):=by rw[hW2];exact zAA (zAg _ _)
   clear hb hb2 hc hf
   go_wp2
   rw[←hW2]
   have HW2:=Lib.hid hW2
   clear hW2
   refine zAK mixed (by kernel_rfl) ?_
   go_wp2
   refine⟨by kernel_rfl,?_⟩
   go_wp2
   refine bodyPost_ret (by simp[results,Tryz.results217,go_sem,c0,c1];first|done|rfl) rfl ?_
   refine numl_res HR.out (zAD HB1.out.drew ?_ _ _)
   omega
theorem numX2 (w:World) (s:ByteArray) (r n:Nat) (q:Int) (R:Nat×RR) (hs:s.size≤2000000000) (hF:s.size≤2∨LongWays s) (hP:NoWays s r)
  (h0:¬r=0) (hr1:r≤s.size) (hrun:RunsTo s 0 r) (hnum:NumTo (s.extract 0 r) n true) (hpow:PowTo 0 q) (hR:R=(r,makeN n q)):Calls Tryz.prog 217 #[.string s,.int .i64 0] w (NumlPost w R):=by
 have HB:=Lib.hid (((Below.refl w.heap.size w).alloc (Nat.le_refl _) (o2 0 0)))
 have hsl:=zBG s 0 (r:Int) 0 r rfl rfl (by omega) hr1
 have HRUN:=Lib.hid hrun
 have HR:=Lib.hid hR
 have HNUM:=Lib.hid hnum
 have HPOW:=Lib.hid hpow
 clear hrun hR hnum hpow
 rcases hP with hP|⟨hP,hP2|⟨hP2,hP3⟩⟩
 all_goals
  try have hdp:=zBw s[r+1].toNat
  rcases hF with hF|⟨hl,hF|⟨hF,⟨hF2,hF3⟩|⟨hF2,hF3|⟨hF3,hF4⟩⟩⟩⟩
  all_goals
   try have hd99:=zBw s[2].toNat
   go_enter Tryz.func217,Tryz.ntmps217
   go_wp2_with (first|(go_at_call 241;refine(zCB _ _ (u8_le _)).mono ?_;rintro e w' ⟨rfl,rfl⟩)|(go_at_call 242;refine(HRUN.out _).mono ?_;rintro e w' ⟨rfl,rfl⟩)|(go_at_call 219;refine(HNUM.out _).mono ?_;rintro e w' ⟨rfl,rfl⟩)|(go_at_call 243;refine(HPOW.out _).mono ?_;rintro e w' ⟨rfl,rfl⟩))
   all_goals
    refine(smake_c _ _ _).mono ?_
    rintro e w1 ⟨rfl,hb⟩
    have hz:=hb.size
    simp at hz
    have hb2:=hb.alloc (Nat.le_trans (Nat.le_refl _) hb.size) (o2 (nP (makeN n q)) (nQ (makeN n q)))
    obtain⟨W2,hW2⟩:∃W2,W2=w1.alloc (o2 (nP (makeN n q)) (nQ (makeN n q))):=⟨_,rfl⟩
    rw[←hW2] at hb2
    have HB1:=hbn HB.out hb2
    obtain⟨hc,hf⟩:=bcell hb2
    have c0:W2.cell? ⟨w.heap.size,0,none⟩=some (.int .i64 0):=(hc _ _ (by simp)).trans (by simp[go_sem])
    have c1:W2.cell? ⟨w.heap.size,1,none⟩=some (.int .i64 0):=(hc _ _ (by simp)).trans (by simp[go_sem])
    have f0:W2.frozen? ⟨w.heap.size,0,none⟩=false:=(hf _ _ (by simp)).trans (by simp[go_sem])
    have f1:W2.frozen? ⟨w.heap.size,1,none⟩=false:=(hf _ _ (by simp)).trans (by simp[go_sem])
    have d0:W2.cell? ⟨w1.heap.size,0,none⟩=some (.int .i64 (nP (makeN n q))):=by rw[hW2];exact zAA (zAg _ _)
    have d1:W2.cell? ⟨w1.heap.size,1,none⟩=some (.int .i64 (nQ (makeN n q))):=by rw[hW2];exact zAA (zAg _ _)
    clear hb hb2 hc hf
    go_wp2
    rw[←hW2]
    have HW2:=Lib.hid hW2
    clear hW2
    refine zAK mixed (by kernel_rfl) ?_
    go_wp2
    refine⟨by kernel_rfl,?_⟩
    go_wp2
    refine bodyPost_ret (by simp[results,Tryz.results217,go_sem,c0,c1];first|done|rfl) rfl ?_
    refine numl_res HR.out (zAD HB1.out.drew ?_ _ _)
    omega
theorem numX4 (w:World) (s X:ByteArray) (r e n:Nat) (q:Int) (R:Nat×RR) (hs:s.size≤2000000000) (hF:LongWays s)
  (h0:¬r=0) (hr1:r≤s.size) (he1:r+1≤e) (he2:e≤s.size) (hrun:RunsTo s 0 r) (hrun1:RunsTo s ((r:Int)+1) e)
  (hl1:r+1<s.size) (hp1:((s[r].toNat:Int)==46)=true) (hp2:digV s[r+1].toNat<10)
  (had:∀W,(Op.stringOp .add (s.extract 0 r) (s.extract (r+1) e)).run Tryz.prog W= .ok (.string X) W)
  (h9:¬9<(e:Int)-((r:Int)+1)) (hnum:NumTo X n true) (hpow:PowTo ((e:Int)-((r:Int)+1)) q) (hR:R=(e,makeN n q)):Calls Tryz.prog 217 #[.string s,.int .i64 0] w (NumlPost w R):=by
 have HB:=Lib.hid (((Below.refl w.heap.size w).alloc (Nat.le_refl _) (o2 0 0)))
 have hsl:=zBG s 0 (r:Int) 0 r rfl rfl (by omega) hr1
 have hsl2:=zBG s ((r:Int)+1) (e:Int) (r+1) e (by omega) rfl (by omega) (by omega)
 have HRUN:=Lib.hid hrun
 have HRUN1:=Lib.hid hrun1
 have HR:=Lib.hid hR
 have HNUM:=Lib.hid hnum
 have hdp:=zBw s[r+1].toNat
 have HPOW:=Lib.hid hpow
 clear hrun hrun1 hR hnum hpow
 obtain⟨hl,hF|⟨hF,⟨hF2,hF3⟩|⟨hF2,hF3|⟨hF3,hF4⟩⟩⟩⟩:=hF
 all_goals
  try have hd99:=zBw s[2].toNat
  go_enter Tryz.func217,Tryz.ntmps217
  go_wp2_with (first|(go_at_call 241;refine(zCB _ _ (u8_le _)).mono ?_;rintro e w' ⟨rfl,rfl⟩))
  refine(HRUN.out _).mono ?_
  rintro e w' ⟨rfl,rfl⟩
  go_wp2_with (first|(go_at_call 241;refine(zCB _ _ (u8_le _)).mono ?_;rintro e w' ⟨rfl,rfl⟩))
  refine(HRUN1.out _).mono ?_
  rintro e w' ⟨rfl,rfl⟩
  go_wp2_with (first|(go_at_call 219;refine(HNUM.out _).mono ?_;rintro e w' ⟨rfl,rfl⟩)|(go_at_call 243;refine(HPOW.out _).mono ?_;rintro e w' ⟨rfl,rfl⟩))
  refine(smake_c _ _ _).mono ?_
  rintro e w1 ⟨rfl,hb⟩
  have hz:=hb.size
  simp at hz
  have hb2:=hb.alloc (Nat.le_trans (Nat.le_refl _) hb.size) (o2 (nP (makeN n q)) (nQ (makeN n q)))
  obtain⟨W2,hW2⟩:∃W2,W2=w1.alloc (o2 (nP (makeN n q)) (nQ (makeN n q))):=⟨_,rfl⟩
  rw[←hW2] at hb2
  have HB1:=hbn HB.out hb2
  obtain⟨hc,hf⟩:=bcell hb2
  have c0:W2.cell? ⟨w.heap.size,0,none⟩=some (.int .i64 0):=(hc _ _ (by simp)).trans (by simp[go_sem])
  have c1:W2.cell? ⟨w.heap.size,1,none⟩=some (.int .i64 0):=(hc _ _ (by simp)).trans (by simp[go_sem])
  have f0:W2.frozen? ⟨w.heap.size,0,none⟩=false:=(hf _ _ (by simp)).trans (by simp[go_sem])
  have f1:W2.frozen? ⟨w.heap.size,1,none⟩=false:=(hf _ _ (by simp)).trans (by simp[go_sem])
  have d0:W2.cell? ⟨w1.heap.size,0,none⟩=some (.int .i64 (nP (makeN n q))):=by rw[hW2];exact zAA (zAg _ _)
  have d1:W2.cell? ⟨w1.heap.size,1,none⟩=some (.int .i64 (nQ (makeN n q))):=by rw[hW2];exact zAA (zAg _ _)
  clear hb hb2 hc hf
  go_wp2
  rw[←hW2]
  have HW2:=Lib.hid hW2
  clear hW2
  refine zAK mixed (by kernel_rfl) ?_
  go_wp2
  refine⟨by kernel_rfl,?_⟩
  go_wp2
  refine bodyPost_ret (by simp[results,Tryz.results217,go_sem,c0,c1];first|done|rfl) rfl ?_
  refine numl_res HR.out (zAD HB1.out.drew ?_ _ _)
  omega
theorem runsTo (s:ByteArray) (hs:s.size≤2000000000) (a:Nat) (ha:a≤s.size) (r:Nat) (h:a+runN 10 ((zAE s).drop a)=r):RunsTo s a r:=fun W=>by
 have:=srun_c W s hs a (by omega) 10 (.inl rfl)
 rw[h] at this
 exact this
theorem numTo_none {s:ByteArray} (hs:s.size≤2000000000) (h:numG 10 (zAE s) 0=none):NumTo s 0 false:=fun W=>by
 have:=snumber_c W s hs 10 (.inl rfl);rw[h] at this;exact this
theorem numTo_some {s:ByteArray} (hs:s.size≤2000000000) {n:Nat} (h:numG 10 (zAE s) 0=some n):NumTo s n true:=fun W=>by
 have:=snumber_c W s hs 10 (.inl rfl);rw[h] at this;exact this
theorem snumDec_c (w:World) (s:ByteArray) (hs:s.size≤2000000000) (hx:zBl (zAE s)=false):
  Calls Tryz.prog 217 #[.string s,.int .i64 0] w (NumlPost w (zAv (zAE s))):=by
 obtain⟨R,hR⟩:∃R,R=zAv (zAE s):=⟨_,rfl⟩
 rw[←hR]
 rw[numeral_dec hx] at hR
 have hF:=dec_ways hx
 have hrl:=zCI 10 (zAE s)
 rw[zAb] at hrl
 obtain⟨r,hr⟩:∃r,runN 10 (zAE s)=r:=⟨_,rfl⟩
 have hrun:RunsTo s 0 r:=runsTo s hs 0 (by omega) r (by rw[Nat.zero_add];exact hr)
 rw[hr] at hR hrl
 by_cases h0:r=0
 ·subst h0
  rw[if_pos rfl] at hR
  exact numX0 w s R hs hF hrun hR
 ·rw[if_neg h0] at hR
  have hbx:zAE (s.extract 0 r)=(zAE s).take r:=by rw[zBQ,List.drop_zero,Nat.sub_zero]
  have hxz:(s.extract 0 r).size=r:=by rw[ByteArray.size_extract];omega
  by_cases hp:zBT (zAE s) r=0
  ·rw[if_pos hp,←hbx] at hR
   have hP:=no_places hp
   have hR2:R=(r,match numG 10 (zAE (s.extract 0 r)) 0 with|none=> .error 6|some n=>makeN n ((10^0:Nat):Int)):=by
    rw[hR];unfold decN;cases numG 10 (zAE (s.extract 0 r)) 0<;>rfl
   cases hn:numG 10 (zAE (s.extract 0 r)) 0 with
   |none=>
    rw[hn] at hR2
    exact numX1 w s r R hs hF hP h0 hrl hrun (numTo_none (by omega) hn) hR2
   |some n=>
    rw[hn] at hR2
    exact numX2 w s r n _ R hs hF hP h0 hrl hrun (numTo_some (by omega) hn) (fun W=>spower10_c W 0 (by decide)) hR2
  ·rw[if_neg hp] at hR
   obtain⟨hl1,hp1,hp2,hp3⟩:=has_places hp
   rw[hp3] at hR
   have hrl1:=zCI 10 ((zAE s).drop (r+1))
   rw[List.length_drop,zAb] at hrl1
   obtain⟨P,hP⟩:∃P,runN 10 ((zAE s).drop (r+1))=P:=⟨_,rfl⟩
   rw[hP] at hrl1 hR
   obtain⟨e,he⟩:∃e,r+1+P=e:=⟨_,rfl⟩
   have hrun1:RunsTo s ((r:Int)+1) e:=runsTo s hs (r+1) (by omega) e (by rw[hP];exact he)
   have hby:zAE (s.extract (r+1) e)=((zAE s).drop (r+1)).take P:=by rw[zBQ,←he,Nat.add_sub_cancel_left]
   have hyz:(s.extract (r+1) e).size=P:=by rw[ByteArray.size_extract];omega
   have had:=add_run (s.extract 0 r) (s.extract (r+1) e) (by omega)
   rw[he,←hbx,←hby,←bytesOf_append] at hR
   have hXz:(s.extract 0 r++s.extract (r+1) e).size=r+P:=by rw[ByteArray.size_append,hxz,hyz]
   have hR2:R=(e,match numG 10 (zAE (s.extract 0 r++s.extract (r+1) e)) 0 with|none=> .error 6|some n=>if 9<P then .error 6 else makeN n ((10^P:Nat):Int)):=by
    rw[hR];unfold decN;cases numG 10 (zAE (s.extract 0 r++s.extract (r+1) e)) 0<;>rfl
   have hF2:LongWays s:=by
    rcases hF with hF|hF
    ·exfalso;omega
    ·exact hF
   have hPP:(e:Int)-((r:Int)+1)=(P:Nat):=by omega
   cases hn:numG 10 (zAE (s.extract 0 r++s.extract (r+1) e)) 0 with
   |none=>
    rw[hn] at hR2
    exact numX3 w s _ r e R hs hF2 h0 hrl (by omega) (by omega) hrun hrun1 hl1 hp1 hp2 had (numTo_none (by omega) hn) hR2
   |some n=>
    rw[hn] at hR2
    by_cases h9:9<P
    ·exact numX3b w s _ r e n R hs hF2 h0 hrl (by omega) (by omega) hrun hrun1 hl1 hp1 hp2 had (by omega) (numTo_some (by omega) hn) (hR2.trans (congrArg _ (if_pos h9)))
    ·exact numX4 w s _ r e n _ R hs hF2 h0 hrl (by omega) (by omega) hrun hrun1 hl1 hp1 hp2 had (by omega) (numTo_some (by omega) hn)
      (fun W=>by rw[hPP];exact spower10_c W P (by omega)) (hR2.trans (congrArg _ (if_neg h9)))
theorem snumeral_c (w:World) (s:ByteArray) (hs:s.size≤2000000000):Calls Tryz.prog 217 #[.string s,.int .i64 0] w (NumlPost w (zAv (zAE s))):=by
 cases hx:zBl (zAE s) with
 |true=>exact snumHex_c w s hs hx
 |false=>exact snumDec_c w s hs hx
def SlashTo (s:ByteArray) (r:Int):Prop:=∀W,Calls Tryz.prog 216 #[.string s] W fun e w'=>e= .returned (.int .i64 r)∧W=w'
def DigTo (s:ByteArray) (b:Bool):Prop:=∀W,Calls Tryz.prog 218 #[.string s] W fun e w'=>e= .returned (.bool b)∧W=w'
theorem sunsigned_none (w:World) (s:ByteArray) (j:Nat) (M R:RR) (hs:s.size≤2000000000) (hsl:SlashTo s (-1))
  (hnum:∀W,Calls Tryz.prog 217 #[.string s,.int .i64 0] W (NumlPost W (j,M)))
  (hR:R=if j=0∨j<s.size then .error 4 else M):Calls Tryz.prog 160 #[.string s] w (NumPost w R):=by
 have HB:=Lib.hid (((Below.refl w.heap.size w).alloc (Nat.le_refl _) (o2 0 0)))
 have HSL:=Lib.hid hsl
 have HNUM:=Lib.hid hnum
 clear hsl hnum
 have hc:(((j:Int)==0)=true∧R= .error 4)∨(((j:Int)==0)=false∧j<s.size∧R= .error 4)∨(((j:Int)==0)=false∧¬j<s.size∧R=M):=by
  by_cases h0:j=0
  ·exact .inl ⟨by rw[beq_iff_eq];omega,by rw[hR,if_pos (.inl h0)]⟩
  ·by_cases h1:j<s.size
   ·exact .inr (.inl ⟨by rw[beq_eq_false_iff_ne];omega,h1,by rw[hR,if_pos (.inr h1)]⟩)
   ·exact .inr (.inr ⟨by rw[beq_eq_false_iff_ne];omega,h1,by rw[hR,if_neg (by omega)]⟩)
 clear hR
 rcases hc with⟨h0,hR⟩|⟨h0,h1,hR⟩|⟨h0,h1,hR⟩
 all_goals
  have HR:=Lib.hid hR
  clear hR
  go_enter Tryz.func160,Tryz.ntmps160
  go_wp2_with fail
  refine(HSL.out _).mono ?_
  rintro e w' ⟨rfl,rfl⟩
  go_wp2_with fail
  refine(HNUM.out _).mono ?_
  rintro e w1 ⟨rfl,hb⟩
  have hz:=hb.size
  simp at hz
  have HB1:=hbn HB.out (hb.alloc (Nat.le_trans (Nat.le_refl _) hb.size) (o2 (nP M) (nQ M)))
  obtain⟨hc,hf⟩:=bcell (hb.alloc (Nat.le_trans (Nat.le_refl _) hb.size) (o2 (nP M) (nQ M)))
  have c0:(w1.alloc (.cells #[.int .i64 (nP M),.int .i64 (nQ M)] 23)).cell? ⟨w.heap.size,0,none⟩=some (.int .i64 0):=(hc _ _ (by simp)).trans (by simp[go_sem])
  have c1:(w1.alloc (.cells #[.int .i64 (nP M),.int .i64 (nQ M)] 23)).cell? ⟨w.heap.size,1,none⟩=some (.int .i64 0):=(hc _ _ (by simp)).trans (by simp[go_sem])
  have f0:(w1.alloc (.cells #[.int .i64 (nP M),.int .i64 (nQ M)] 23)).frozen? ⟨w.heap.size,0,none⟩=false:=(hf _ _ (by simp)).trans (by simp[go_sem])
  have f1:(w1.alloc (.cells #[.int .i64 (nP M),.int .i64 (nQ M)] 23)).frozen? ⟨w.heap.size,1,none⟩=false:=(hf _ _ (by simp)).trans (by simp[go_sem])
  clear hb hc hf
  go_wp2
  refine bodyPost_ret (by simp[results,Tryz.results160,go_sem,c0,c1];first|done|rfl) rfl ?_
  first|exact zAV HR.out (by first|exact HB1.out|exact HB1.out.drew|exact below_drewN HB1.out _|exact zAD HB1.out (by simp<;>omega) _ _|exact zAD HB1.out (Nat.le_refl _) _ _|exact zAD HB1.out.drew (by simp<;>omega) _ _|exact zAD HB1.out.drew (Nat.le_refl _) _ _|exact zAD (below_drewN HB1.out _) (by simp<;>omega) _ _)|(rw[HR.out];exact zAu (by first|exact HB1.out|exact HB1.out.drew|exact below_drewN HB1.out _|exact zAD HB1.out (by simp<;>omega) _ _|exact zAD HB1.out (Nat.le_refl _) _ _|exact zAD HB1.out.drew (by simp<;>omega) _ _|exact zAD HB1.out.drew (Nat.le_refl _) _ _|exact zAD (below_drewN HB1.out _) (by simp<;>omega) _ _))
def NumbTo (s:ByteArray) (R:Option Nat):Prop:=∀W,Calls Tryz.prog 219 #[.string s,.int .i64 10] W (OptPost W R)
theorem sunsigned_form (w:World) (s:ByteArray) (k:Nat) (R:RR) (hs:s.size≤2000000000) (hk:k<s.size) (hsl:SlashTo s k) (hd:DigTo (s.extract 0 k) false∨(DigTo (s.extract 0 k) true∧DigTo (s.extract (k+1) s.size) false))
  (hR:R= .error 4):Calls Tryz.prog 160 #[.string s] w (NumPost w R):=by
 have HB:=Lib.hid (((Below.refl w.heap.size w).alloc (Nat.le_refl _) (o2 0 0)))
 have HSL:=Lib.hid hsl
 have HR:=Lib.hid hR
 have hs1:=slice_to s k k rfl (by omega)
 have hs2:=slice_from s ((k:Int)+1) (k+1) (by omega) (by omega)
 clear hsl hR
 rcases hd with hd|⟨hd,hd2⟩
 ·have HD:=Lib.hid hd
  clear hd
  go_enter Tryz.func160,Tryz.ntmps160
  go_wp2_with fail
  refine(HSL.out _).mono ?_
  rintro e w' ⟨rfl,rfl⟩
  go_wp2_with fail
  refine(HD.out _).mono ?_
  rintro e w' ⟨rfl,rfl⟩
  go_wp2_with fail
  refine bodyPost_ret (by simp[results,Tryz.results160,go_sem];first|done|rfl) rfl ?_
  exact zAV HR.out (by first|exact HB.out|exact HB.out.drew|exact below_drewN HB.out _|exact zAD HB.out (by simp<;>omega) _ _|exact zAD HB.out (Nat.le_refl _) _ _|exact zAD HB.out.drew (by simp<;>omega) _ _|exact zAD HB.out.drew (Nat.le_refl _) _ _|exact zAD (below_drewN HB.out _) (by simp<;>omega) _ _)
 ·have HD:=Lib.hid hd
  have HD2:=Lib.hid hd2
  clear hd hd2
  go_enter Tryz.func160,Tryz.ntmps160
  go_wp2_with fail
  refine(HSL.out _).mono ?_
  rintro e w' ⟨rfl,rfl⟩
  go_wp2_with fail
  refine(HD.out _).mono ?_
  rintro e w' ⟨rfl,rfl⟩
  go_wp2_with fail
  refine(HD2.out _).mono ?_
  rintro e w' ⟨rfl,rfl⟩
  go_wp2_with fail
  refine bodyPost_ret (by simp[results,Tryz.results160,go_sem];first|done|rfl) rfl ?_
  exact zAV HR.out (by first|exact HB.out|exact HB.out.drew|exact below_drewN HB.out _|exact zAD HB.out (by simp<;>omega) _ _|exact zAD HB.out (Nat.le_refl _) _ _|exact zAD HB.out.drew (by simp<;>omega) _ _|exact zAD HB.out.drew (Nat.le_refl _) _ _|exact zAD (below_drewN HB.out _) (by simp<;>omega) _ _)
theorem sunsigned_frac (w:World) (s:ByteArray) (k:Nat) (R:RR) (hs:s.size≤2000000000) (hk:k<s.size) (hsl:SlashTo s k) (hd:DigTo (s.extract 0 k) true) (hd2:DigTo (s.extract (k+1) s.size) true)
  (A B:Option Nat) (ha:NumbTo (s.extract 0 k) A) (hb:NumbTo (s.extract (k+1) s.size) B) (hB:∀b,B=some b→b≤4611686018427387904)
  (hR:R=match A,B with|some a,some b=>if b=0 then .error 6 else makeN a b|_,_=> .error 6):Calls Tryz.prog 160 #[.string s] w (NumPost w R):=by
 have HB:=Lib.hid (((Below.refl w.heap.size w).alloc (Nat.le_refl _) (o2 0 0)))
 have HSL:=Lib.hid hsl
 have hs1:=slice_to s k k rfl (by omega)
 have hs2:=slice_from s ((k:Int)+1) (k+1) (by omega) (by omega)
 have HD:=Lib.hid hd
 have HD2:=Lib.hid hd2
 have HA:=Lib.hid ha
 have HBB:=Lib.hid hb
 clear hsl hd hd2 ha hb
 have hc:(R= .error 6∧(A=none∨(∃a,A=some a∧B=none)∨(∃a,A=some a∧B=some 0)))∨∃a b,A=some a∧B=some b∧b≠0∧R=makeN a b:=by
  rcases A with _|a
  ·exact .inl ⟨hR,.inl rfl⟩
  ·rcases B with _|b
   ·exact .inl ⟨hR,.inr (.inl ⟨a,rfl,rfl⟩)⟩
   ·by_cases hb0:b=0
    ·subst hb0;exact .inl ⟨hR,.inr (.inr ⟨a,rfl,rfl⟩)⟩
    ·exact .inr ⟨a,b,rfl,rfl,hb0,hR.trans (if_neg hb0)⟩
 clear hR
 rcases hc with⟨hR,hc⟩|⟨a,b,rfl,rfl,hb0,hR⟩
 ·have HR:=Lib.hid hR
  clear hR
  rcases hc with rfl|⟨a,rfl,rfl⟩|⟨a,rfl,rfl⟩
  all_goals
   go_enter Tryz.func160,Tryz.ntmps160
   go_wp2_with fail
   refine(HSL.out _).mono ?_
   rintro e w' ⟨rfl,rfl⟩
   go_wp2_with fail
   refine(HD.out _).mono ?_
   rintro e w' ⟨rfl,rfl⟩
   go_wp2_with fail
   refine(HD2.out _).mono ?_
   rintro e w' ⟨rfl,rfl⟩
   go_wp2_with fail
   refine(HA.out _).mono ?_
   rintro e w' ⟨rfl,rfl⟩
   go_wp2_with fail
   refine(HBB.out _).mono ?_
   rintro e w' ⟨rfl,rfl⟩
   go_wp2_with fail
   refine bodyPost_ret (by simp[results,Tryz.results160,go_sem];first|done|rfl) rfl ?_
   exact zAV HR.out (by first|exact HB.out|exact HB.out.drew|exact below_drewN HB.out _|exact zAD HB.out (by simp<;>omega) _ _|exact zAD HB.out (Nat.le_refl _) _ _|exact zAD HB.out.drew (by simp<;>omega) _ _|exact zAD HB.out.drew (Nat.le_refl _) _ _|exact zAD (below_drewN HB.out _) (by simp<;>omega) _ _)
 ·have HR:=Lib.hid hR
  have hbb:(numV (some b)==0)=false:=by show((b:Int)==0)=false;rw[beq_eq_false_iff_ne];omega
  clear hR hB hb0
  go_enter Tryz.func160,Tryz.ntmps160
  go_wp2_with fail
  refine(HSL.out _).mono ?_
  rintro e w' ⟨rfl,rfl⟩
  go_wp2_with fail
  refine(HD.out _).mono ?_
  rintro e w' ⟨rfl,rfl⟩
  go_wp2_with fail
  refine(HD2.out _).mono ?_
  rintro e w' ⟨rfl,rfl⟩
  go_wp2_with fail
  refine(HA.out _).mono ?_
  rintro e w' ⟨rfl,rfl⟩
  go_wp2_with fail
  refine(HBB.out _).mono ?_
  rintro e w' ⟨rfl,rfl⟩
  go_wp2_with fail
  refine(smake_c _ _ _).mono ?_
  rintro e w1 ⟨rfl,hb⟩
  obtain⟨hc,hf⟩:=bcell hb
  have HB1:=hbn HB.out hb
  go_wp2
  refine bodyPost_ret (by simp[results,Tryz.results160,go_sem,hc];first|done|rfl) rfl ?_
  have hR2:R=makeN a b:=HR.out
  rw[hR2]
  exact zAu (by first|exact HB1.out|exact HB1.out.drew|exact below_drewN HB1.out _|exact zAD HB1.out (by simp<;>omega) _ _|exact zAD HB1.out (Nat.le_refl _) _ _|exact zAD HB1.out.drew (by simp<;>omega) _ _|exact zAD HB1.out.drew (Nat.le_refl _) _ _|exact zAD (below_drewN HB1.out _) (by simp<;>omega) _ _)
theorem slashTo (s:ByteArray) (hs:s.size≤2000000000) {r:Int} (h:slashI 0 (zBL (zAE s))=r):SlashTo s r:=fun W=>h▸sslash_c W s hs
theorem digTo (s:ByteArray) (hs:s.size≤2000000000) {b:Bool} (h:zCD (zAE s)=b):DigTo s b:=fun W=>h▸sdigits_c W s hs
theorem numbTo (s:ByteArray) (hs:s.size≤2000000000):NumbTo s (numG 10 (zAE s) 0):=fun W=>snumber_c W s hs 10 (.inl rfl)
theorem sunsigned_c (w:World) (s:ByteArray) (hs:s.size≤2000000000):Calls Tryz.prog 160 #[.string s] w (NumPost w (zAz (zAE s))):=by
 obtain⟨R,hR⟩:∃R,R=zAz (zAE s):=⟨_,rfl⟩
 rw[←hR]
 unfold zAz at hR
 cases hk:zBL (zAE s) with
 |none=>
  rw[hk] at hR
  obtain⟨N,hN⟩:∃N,zAv (zAE s)=N:=⟨_,rfl⟩
  have hnum:∀W,Calls Tryz.prog 217 #[.string s,.int .i64 0] W (NumlPost W N):=fun W=>hN▸snumeral_c W s hs
  rw[hN,zAb] at hR
  obtain⟨j,M⟩:=N
  exact sunsigned_none w s j M R hs (slashTo s hs (by rw[hk];rfl)) hnum hR
 |some k=>
  rw[hk] at hR
  have hR:R=zBy ((zAE s).take k) ((zAE s).drop (k+1)):=hR
  obtain⟨h1,_,_⟩:=slashAt_some hk
  rw[zAb] at h1
  have hsl:SlashTo s k:=slashTo s hs (by rw[hk];show((0+k:Nat):Int)=k;omega)
  rw[←bytes_to,←bytes_from] at hR
  have z1:(s.extract 0 k).size≤2000000000:=by rw[size_to s (by omega)];omega
  have z2:(s.extract (k+1) s.size).size≤2000000000:=by rw[size_from];omega
  unfold zBy at hR
  cases d1:zCD (zAE (s.extract 0 k)) with
  |false=>
   rw[d1,Bool.false_and,if_neg (by decide)] at hR
   exact sunsigned_form w s k R hs h1 hsl (.inl (digTo _ z1 d1)) hR
  |true=>
   cases d2:zCD (zAE (s.extract (k+1) s.size)) with
   |false=>
    rw[d1,d2,if_neg (by decide)] at hR
    exact sunsigned_form w s k R hs h1 hsl (.inr ⟨digTo _ z1 d1,digTo _ z2 d2⟩) hR
   |true=>
    rw[d1,d2,if_pos (by decide)] at hR
    exact sunsigned_frac w s k R hs h1 hsl (digTo _ z1 d1) (digTo _ z2 d2) _ _ (numbTo _ z1) (numbTo _ z2) (fun b hb=>num_le z2 hb) hR
def UnsTo (s:ByteArray) (M:RR):Prop:=∀W,Calls Tryz.prog 160 #[.string s] W (NumPost W M)
theorem unsTo (s:ByteArray) (hs:s.size≤2000000000) (M:RR) (h:zAz (zAE s)=M):UnsTo s M:=fun W=>h▸sunsigned_c W s hs
theorem sparse_c (w:World) (s:ByteArray) (hs:s.size≤2000000000):Calls Tryz.prog 98 #[.string s] w (NumPost w (parseG (zAE s))):=by
 obtain⟨R,hR⟩:∃R,R=parseG (zAE s):=⟨_,rfl⟩
 rw[←hR]
 unfold parseG at hR
 have HB:=Lib.hid (((Below.refl w.heap.size w).alloc (Nat.le_refl _) (o2 0 0)))
 have HTRIM:=Lib.hid (fun W=>strim_c W s hs)
 obtain⟨T,hT⟩:∃T,T=trimG (zAE s):=⟨_,rfl⟩
 have htl:T.length≤2000000000:=by rw[hT];exact Nat.le_trans (trimG_le _) (by rw[zAb];exact hs)
 rw[←hT] at HTRIM hR
 have HR:=Lib.hid hR
 clear hR hT
 go_enter Tryz.func98,Tryz.ntmps98
 go_wp2_with fail
 refine(HTRIM.out _).mono ?_
 rintro e w1 ⟨⟨t,rfl,ht⟩,hb⟩
 have hts:t.size≤2000000000:=by rw[←zAb,ht];exact htl
 have HR2:=Lib.hid (show R=signedG (zAE t) from by rw[ht];exact HR.out)
 clear HR ht htl HTRIM
 have hz1:=hb.size
 simp at hz1
 obtain⟨hc1,hf1⟩:=bcell hb
 have q0:w1.cell? ⟨w.heap.size,0,none⟩=some (.int .i64 0):=(hc1 _ _ (by simp)).trans (by simp[go_sem])
 have q1:w1.cell? ⟨w.heap.size,1,none⟩=some (.int .i64 0):=(hc1 _ _ (by simp)).trans (by simp[go_sem])
 have p0:w1.frozen? ⟨w.heap.size,0,none⟩=false:=(hf1 _ _ (by simp)).trans (by simp[go_sem])
 have p1:w1.frozen? ⟨w.heap.size,1,none⟩=false:=(hf1 _ _ (by simp)).trans (by simp[go_sem])
 have HB1:=hbn HB.out hb
 clear hb hc1 hf1
 have hways:((!t.toList.isEmpty)=false∧∃M,UnsTo t M∧R=M∧Good M)∨((!t.toList.isEmpty)=true∧∃h:0<t.size,(((t[0].toNat:Int)==45)=false∧∃M,UnsTo t M∧R=M∧Good M)∨(((t[0].toNat:Int)==45)=true∧∃M,UnsTo (t.extract 1 t.size) M∧R=minusN M∧Good M)):=by
  by_cases h0:0<t.size
  ·refine .inr ⟨by simpa using toList_ne h0,h0,?_⟩
   have hbt:=zAx t 0 h0
   rw[List.drop_zero] at hbt
   have hr:=HR2.out
   rw[hbt,signed_cons] at hr
   have e0:=zBh t[0] 45
   by_cases hc:t[0].toNat=45
   ·rw[if_pos hc] at hr
    exact .inr ⟨e0.trans (decide_eq_true hc),_,unsTo _ (by rw[size_from];omega) _ (by rw[bytes_from]),hr,zBg _⟩
   ·rw[if_neg hc,←hbt] at hr
    exact .inl ⟨e0.trans (decide_eq_false hc),_,unsTo _ hts _ rfl,hr,zBg _⟩
  ·refine .inl ⟨by simpa using toList_nil (by omega),_,unsTo t hts _ rfl,?_,zBg _⟩
   have hbt:zAE t=[]:=List.eq_nil_of_length_eq_zero (by rw[zAb];omega)
   have hr:=HR2.out
   rw[hbt] at hr ⊢
   exact hr
 clear HR2
 rcases hways with⟨h0,M,hU,hM,hg⟩|⟨h0,hl,⟨h1,M,hU,hM,hg⟩|⟨h1,M,hU,hM,hg⟩⟩
 case' inr.inr=>have hsl:=slice_from t 1 1 rfl (by omega)
 all_goals
  have hgb:=good_bounds hg
  obtain⟨g1,g2,g3⟩:=hgb
  have HU:=Lib.hid hU
  have HM:=Lib.hid hM
  clear hU hM
  rcases err_ways hg with⟨hE,hc⟩|⟨hE, -,hc⟩
  all_goals
   have HC:=Lib.hid hc
   clear hg hc
   go_wp2_with fail
   refine(HU.out _).mono ?_
   rintro e w2 ⟨rfl,hb⟩
   have hz2:=hb.size
   obtain⟨hc2,hf2⟩:=bcell hb
   have c0:∀x y,(w2.alloc (.cells #[x,y] 23)).cell? ⟨w.heap.size,0,none⟩=some (.int .i64 0):=fun x y=>(zAG (by omega)).trans ((hc2 _ _ (by omega)).trans q0)
   have c1:∀x y,(w2.alloc (.cells #[x,y] 23)).cell? ⟨w.heap.size,1,none⟩=some (.int .i64 0):=fun x y=>(zAG (by omega)).trans ((hc2 _ _ (by omega)).trans q1)
   have f0:∀x y,(w2.alloc (.cells #[x,y] 23)).frozen? ⟨w.heap.size,0,none⟩=false:=fun x y=>(zAJ (by omega)).trans ((hf2 _ _ (by omega)).trans p0)
   have f1:∀x y,(w2.alloc (.cells #[x,y] 23)).frozen? ⟨w.heap.size,1,none⟩=false:=fun x y=>(zAJ (by omega)).trans ((hf2 _ _ (by omega)).trans p1)
   have HB2:=hbn HB1.out hb
   clear hb hc2 hf2
   go_wp2
   refine bodyPost_ret (by simp[results,Tryz.results98,go_sem,c0,c1];first|done|rfl) rfl ?_
   have HB3:=fun x y=>Lib.hid (HB2.out.alloc (by omega) (.cells #[x,y] 23))
   obtain⟨a,ha⟩:=HC.out
   have hM:=HM.out
   rw[ha] at hM
   first
   |exact num_errE hM ha (zAD (HB3 _ _).out (Nat.le_refl _) _ _)
   |(rw[ha];exact zCL hM (zAD (HB3 _ _).out (Nat.le_refl _) _ _))
theorem sNumber_two (w:World) (p q:Int) (s:ByteArray) (r:Int):Calls Tryz.prog 52 #[.agg #[.int .i64 2,p,q,s,r]] w (NumPost w (if zAT (p,q) then .ok (p,q) else .error 8)):=by
 cases hv:zAT (p,q)
 all_goals
  have HV:=Lib.hid (fun W=>(hv▸zBB W p q:Calls Tryz.prog 81 #[.agg #[.int .i64 p,.int .i64 q]] W (BoolPost W _)))
  clear hv
  go_enter Tryz.func52,Tryz.ntmps52
  go_wp2_with fail
  refine(HV.out _).mono ?_
  rintro e w1 ⟨rfl,hb⟩
  obtain⟨hc,hf⟩:=bcell hb
  have HB1:=hbn (zAF _ _ _) hb
  go_wp2
  refine bodyPost_ret (by simp[results,Tryz.results52,go_sem,hc];first|done|rfl) rfl ?_
  first
  |exact zAV rfl (by first|exact HB1.out|exact zAD HB1.out (by simp<;>omega) _ _)
  |exact zCL rfl (by first|exact HB1.out|exact zAD HB1.out (by simp<;>omega) _ _)
theorem sNumber_str (w:World) (p q:Int) (s:ByteArray) (r:Int) (hs:s.size≤2000000000):Calls Tryz.prog 52 #[.agg #[.int .i64 3,p,q,s,r]] w (NumPost w (orType (parseG (zAE s)))):=by
 have hp:=(fun W=>sparse_c W s hs)
 have hg:Good (parseG (zAE s)):=good_parse _
 obtain⟨M,hM⟩:∃M,parseG (zAE s)=M:=⟨_,rfl⟩
 rw[hM] at hp hg ⊢
 have HPARSE:=Lib.hid hp
 clear hp hM
 rcases err_ways hg with⟨hE,hc⟩|⟨hE, -,hc⟩
 all_goals
  have HC:=Lib.hid hc
  have hE2:=ne_eq hE
  clear hc hg hE
  go_enter Tryz.func52,Tryz.ntmps52
  go_wp2_with fail
  refine(HPARSE.out _).mono ?_
  rintro e w1 ⟨rfl,hb⟩
  have hz:=hb.size
  simp at hz
  obtain⟨hc,hf⟩:=bcell hb
  have c0:∀x y,(w1.alloc (.cells #[x,y] 23)).cell? ⟨w.heap.size+1,0,none⟩=some (.int .i64 0):=fun x y=>(zAG (by omega)).trans ((hc _ _ (by simp<;>omega)).trans (by simp[go_sem]))
  have c1:∀x y,(w1.alloc (.cells #[x,y] 23)).cell? ⟨w.heap.size+1,1,none⟩=some (.int .i64 0):=fun x y=>(zAG (by omega)).trans ((hc _ _ (by simp<;>omega)).trans (by simp[go_sem]))
  have f0:∀x y,(w1.alloc (.cells #[x,y] 23)).frozen? ⟨w.heap.size+1,0,none⟩=false:=fun x y=>(zAJ (by omega)).trans ((hf _ _ (by simp<;>omega)).trans (by simp[go_sem]))
  have f1:∀x y,(w1.alloc (.cells #[x,y] 23)).frozen? ⟨w.heap.size+1,1,none⟩=false:=fun x y=>(zAJ (by omega)).trans ((hf _ _ (by simp<;>omega)).trans (by simp[go_sem]))
  have HB2:=fun x y=>Lib.hid ((zAC (zAF _ _ _) hb).alloc (by omega) (.cells #[x,y] 23))
  clear hb hc hf
  go_wp2
  refine bodyPost_ret (by simp[results,Tryz.results52,go_sem,c0,c1];first|done|rfl) rfl ?_
  have hc:=HC.out
  clear HC
  obtain⟨a,ha⟩:=hc
  first
  |exact zAV (by rw[ha];rfl) (zAD (HB2 _ _).out (by omega) _ _)
  |(rw[ha];exact zCL rfl (zAD (HB2 _ _).out (by omega) _ _))
theorem sNumber_other (w:World) (k p q:Int) (s:ByteArray) (r:Int) (h2:(k==2)=false) (h3:(k==3)=false):Calls Tryz.prog 52 #[.agg #[k,p,q,s,r]] w (NumPost w (.error 8)):=by
 go_enter Tryz.func52,Tryz.ntmps52
 go_wp2
 refine bodyPost_ret (by simp[results,Tryz.results52,go_sem];first|done|rfl) rfl ?_
 exact zAV rfl (by first|exact zAF _ _ _|exact zAD (zAF _ _ _) (by simp<;>omega) _ _)
theorem sNumber_c (w:World) (k p q:Int) (s:ByteArray) (r:Int) (hs:s.size≤2000000000):Calls Tryz.prog 52 #[.agg #[k,p,q,s,r]] w (NumPost w (zBY ⟨k,p,q,s,r⟩)):=by
 unfold zBY
 by_cases h2:k=2
 ·subst h2;exact sNumber_two w p q s r
 ·by_cases h3:k=3
  ·subst h3;exact sNumber_str w p q s r hs
  ·rw[if_neg h2,if_neg h3]
   exact sNumber_other w k p q s r (by rw[beq_eq_false_iff_ne];exact h2) (by rw[beq_eq_false_iff_ne];exact h3)
end Go.Proofs.YthkpckgcgkijbaaGreatDoor
