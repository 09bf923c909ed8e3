import Derived.Test.YthkpckgcgkijbaaGreatDoorTexA
set_option linter.unusedVariables false
set_option linter.unusedSimpArgs false
set_option maxRecDepth 100000
set_option maxHeartbeats 2000000
namespace Go.Proofs.YthkpckgcgkijbaaGreatDoor
open Go.RowKit Go.Proofs.Lexi
def divE (a b:N2):Nat:=if zAT a&&zAT b then(if b.1=0 then 7 else 0) else 2
theorem div_err {a b:N2} {X:RR} (h:divE a b≠0):twoN a b (if b.1*a.2=0 then .error 7 else X)= .error (divE a b):=by
 unfold twoN divE at*
 cases hv:zAT a with
 |false=>rfl
 |true=>
  cases hv2:zAT b with
  |false=>rfl
  |true=>
   rw[hv,hv2] at h
   by_cases hz:b.1=0
   ·rw[if_pos hz,hz,Int.zero_mul];rfl
   ·rw[if_neg hz] at h;exact absurd rfl h
theorem div_ok {a b:N2} (h:divE a b=0):zAT a=true∧zAT b=true∧b.1≠0∧∀X:RR,twoN a b (if b.1*a.2=0 then .error 7 else X)=X:=by
 unfold divE at h
 cases hv:zAT a with
 |false=>rw[hv] at h;cases h
 |true=>
  cases hv2:zAT b with
  |false=>rw[hv,hv2] at h;cases h
  |true=>
   rw[hv,hv2] at h
   have hz:b.1≠0:=fun e=>by rw[e] at h;cases h
   have hb:=zAN hv
   refine⟨rfl,rfl,hz,fun X=> ?_⟩
   unfold twoN
   rw[hv,hv2,if_neg (show¬b.1*a.2=0 from Int.mul_ne_zero hz (by omega))]
   rfl
end Go.Proofs.YthkpckgcgkijbaaGreatDoor
namespace Go.Proofs.YthkpckgcgkijbaaGreatDoor
open Go.RowKit
theorem zBi (a:Int):bits .and .i64 a 4294967295=a%4294967296:=by
 show IntKind.i64.wrap ((BitVec.ofInt 64 a &&& BitVec.ofInt 64 4294967295).toNat:Int)=_
 rw[BitVec.toNat_and,BitVec.toNat_ofInt]
 have e:(BitVec.ofInt 64 4294967295).toNat=2^32-1:=by decide
 rw[e,Nat.and_two_pow_sub_one_eq_mod]
 have e2:((2^64:Nat):Int)=18446744073709551616:=by decide
 have e3:(2:Nat)^32=4294967296:=by decide
 rw[e2,e3,IntKind.wrap_i64]
 omega
end Go.Proofs.YthkpckgcgkijbaaGreatDoor
namespace Go.Proofs.YthkpckgcgkijbaaGreatDoor
open Go.RowKit Go.Proofs.Lexi
theorem bitArg_of {o:Int} {b:N2} (h:o≠23):bitArg o b=b:=by unfold bitArg;rw[if_neg h]
theorem signed_hi {r:Nat} (h:2147483648≤r):zBe r=(r:Int)-4294967296:=by unfold zBe;rw[if_pos h]
theorem signed_lo {r:Nat} (h:r<2147483648):zBe r=r:=by unfold zBe;rw[if_neg (by omega)]
theorem second_same (o:Int) (X:RR) (ho:o=20∨o=23):numbersV o X X=numbersV o X (.ok (0,1)):=by
 have ha:∀x y z:N2,arithN o x y=arithN o x z:=fun x y z=>by
  rcases ho with rfl|rfl
  ·rfl
  ·show bitsN 23 x y=bitsN 23 x z
   rfl
 unfold numbersV
 rw[ha (nP X,nQ X) (nP X,nQ X) (nP (.ok (0,1)),nQ (.ok (0,1)))]
 by_cases h:nE X≠0
 ·rw[if_pos (.inl h),if_pos (.inl h)]
 ·have h0:nE (.ok (0,1):RR)=0:=rfl
  have e1:¬(nE X≠0∨nE X≠0):=by omega
  have e2:¬(nE X≠0∨nE (.ok (0,1):RR)≠0):=by omega
  rw[if_neg e1,if_neg e2]
theorem zCB (w:World) (c:Nat) (hc:c≤255):Calls Tryz.prog 241 #[.int .u8 c] w fun e w'=>e= .returned (.int .i64 (digV c:Nat))∧w=w':=by
 have h:(48≤c∧c≤57)∨(97≤c∧c≤102)∨(65≤c∧c≤70)∨(c<48∨(57<c∧(c<65∨(70<c∧(c<97∨102<c))))):=by omega
 rcases h with⟨a,b⟩|⟨a,b⟩|⟨a,b⟩|h
 ·have HR:=Lib.hid (show((digV c:Nat):Int)=c-48 from by unfold digV;rw[if_pos ⟨a,b⟩];omega)
  go_enter Tryz.func241,Tryz.ntmps241
  go_wp2
  go_ret
  exact⟨zBE HR.out.symm,rfl⟩
 ·have HR:=Lib.hid (show((digV c:Nat):Int)=c-97+10 from by unfold digV;rw[if_neg (by omega),if_pos ⟨a,b⟩];omega)
  go_enter Tryz.func241,Tryz.ntmps241
  go_wp2
  go_ret
  exact⟨zBE HR.out.symm,rfl⟩
 ·have HR:=Lib.hid (show((digV c:Nat):Int)=c-65+10 from by unfold digV;rw[if_neg (by omega),if_neg (by omega),if_pos ⟨a,b⟩];omega)
  go_enter Tryz.func241,Tryz.ntmps241
  go_wp2
  go_ret
  exact⟨zBE HR.out.symm,rfl⟩
 ·have HR:=Lib.hid (show((digV c:Nat):Int)=99 from by unfold digV;rw[if_neg (by omega),if_neg (by omega),if_neg (by omega)];rfl)
  rcases h with h|⟨h,h2|⟨h2,h3|h3⟩⟩
  all_goals
   go_enter Tryz.func241,Tryz.ntmps241
   go_wp2
   go_ret
   exact⟨zBE HR.out.symm,rfl⟩
theorem srun_c (w:World) (s:ByteArray) (hs:s.size≤2000000000) (k:Nat) (hk:k≤2000000002) (base:Nat) (hb:base=10∨base=16):
  Calls Tryz.prog 242 #[s,.int .i64 k,.int .i64 base] w fun e w'=>e= .returned (.int .i64 (k+runN base ((zAE s).drop k):Nat))∧w=w':=by
 obtain⟨R,hR⟩:∃R,k+runN base ((zAE s).drop k)=R:=⟨_,rfl⟩
 rw[hR]
 have HR0:=Lib.hid hR
 clear hR
 go_enter Tryz.func242,Tryz.ntmps242
 go_wp2
 go_loopg [1] (s.size-k) (fun gg v wr=>∃i:Nat,gg=s.size-i∧v= .int .i64 (i:Int)∧w=wr∧i≤2000000002∧Hid (i+runN base ((zAE s).drop i)=R))
 case atStart=>exact⟨k,rfl,rfl,rfl,hk,HR0⟩
 case round=>
  obtain⟨i,rfl,rfl,rfl,hi,HI⟩:=hrel
  by_cases hlt:i<s.size
  ·have hst:=run_step hlt HI.out
   have HD:=Lib.hid (zCB w s[i].toNat (u8_le _))
   cases hd:isDig base s[i].toNat with
   |true=>
    have HN:=Lib.hid (hst.1 hd)
    have hdv:digV s[i].toNat<base:=of_decide_eq_true hd
    clear hst hd
    go_wp2_with fail
    refine HD.out.mono ?_
    rintro e w1 ⟨rfl,rfl⟩
    go_wp2
    go_roundg (s.size-(i+1))
    case measure=>omega
    case rel=>exact⟨i+1,rfl,rfl,rfl,by omega,HN⟩
   |false=>
    have HN:=Lib.hid (hst.2 hd)
    have hdv:¬digV s[i].toNat<base:=of_decide_eq_false hd
    have hd9:=zBw s[i].toNat
    clear hst hd
    go_wp2_with fail
    refine HD.out.mono ?_
    rintro e w1 ⟨rfl,rfl⟩
    go_wp2
    go_ret
    exact⟨zBE (congrArg (fun n:Nat=>(n:Int)) HN.out),rfl⟩
  ·have HN:=Lib.hid (run_stop (by omega) HI.out)
   go_wp2
   go_ret
   exact⟨zBE (congrArg (fun n:Nat=>(n:Int)) HN.out),rfl⟩
theorem sblank_c (w:World) (c:Nat):Calls Tryz.prog 215 #[.int .u8 c] w fun e w'=>e= .returned (.bool (zBZ c))∧w=w':=by
 have h:c=32∨(c≠32∧(c=9∨(c≠9∧(c=10∨(c≠10∧(c=13∨c≠13)))))):=by omega
 have one:∀n:Nat,c≠n→((c:Int)==(n:Int))=false:=fun n h=>by rw[beq_eq_false_iff_ne];omega
 rcases h with rfl|⟨h1,rfl|⟨h2,rfl|⟨h3,rfl|h4⟩⟩⟩
 ·go_enter Tryz.func215,Tryz.ntmps215
  go_wp2
  go_ret
  exact⟨rfl,rfl⟩
 ·go_enter Tryz.func215,Tryz.ntmps215
  go_wp2
  go_ret
  exact⟨rfl,rfl⟩
 ·go_enter Tryz.func215,Tryz.ntmps215
  go_wp2
  go_ret
  exact⟨rfl,rfl⟩
 ·go_enter Tryz.func215,Tryz.ntmps215
  go_wp2
  go_ret
  exact⟨rfl,rfl⟩
 ·have HR:=Lib.hid (show zBZ c=false from by unfold zBZ;simp[h1,h2,h3,h4])
  have t1:((c:Int)==32)=false:=one 32 h1
  have t2:((c:Int)==9)=false:=one 9 h2
  have t3:((c:Int)==10)=false:=one 10 h3
  have t4:((c:Int)==13)=false:=one 13 h4
  clear h1 h2 h3 h4 one
  go_enter Tryz.func215,Tryz.ntmps215
  go_wp2
  go_ret
  exact⟨zBq HR.out.symm,rfl⟩
theorem snumber_c (w:World) (s:ByteArray) (hs:s.size≤2000000000) (base:Nat) (hb:base=10∨base=16):
  Calls Tryz.prog 219 #[.string s,.int .i64 base] w (OptPost w (numG base (zAE s) 0)):=by
 obtain⟨R,hR⟩:∃R,numG base ((zAE s).drop 0) 0=R:=⟨_,rfl⟩
 rw[show numG base (zAE s) 0=R from hR]
 have HR0:=Lib.hid hR
 clear hR
 go_enter Tryz.func219,Tryz.ntmps219
 go_wp2
 go_loopg [6,7] s.size (fun gg vn v wr=>∃i n:Nat,gg=s.size-i∧vn= .int .i64 (n:Int)∧v= .int .i64 (i:Int)∧w=wr∧i≤s.size∧(n:Int)≤4611686018427387904∧Hid (numG base ((zAE s).drop i) n=R))
 case atStart=>exact⟨0,0,rfl,rfl,rfl,rfl,Nat.zero_le _,by decide,HR0⟩
 case round=>
  obtain⟨i,n,rfl,rfl,rfl,rfl,hi,hn,HI⟩:=hrel
  by_cases hlt:i<s.size
  ·have hst:=num_step hb hlt HI.out
   have HD:=Lib.hid (zCB w s[i].toNat (u8_le _))
   have hd9:=zBw s[i].toNat
   obtain⟨d,hd⟩:∃d,d=digV s[i].toNat:=⟨_,rfl⟩
   rw[←hd] at hst hd9
   have HDD:=Lib.hid hd.symm
   clear hd
   by_cases hc:(4611686018427387904-(d:Int))/(base:Int)<n
   ·have HN:=Lib.hid (hst.1 hc)
    clear hst
    rcases hb with rfl|rfl
    all_goals
     go_wp2_with fail
     refine HD.out.mono ?_
     rw[HDD.out]
     rintro e w1 ⟨rfl,rfl⟩
     go_wp2
     go_ret2
     exact opt_none HN.out rfl
   ·have HN:=Lib.hid (hst.2 (by omega))
    clear hst
    rcases hb with rfl|rfl
    all_goals
     go_wp2_with fail
     refine HD.out.mono ?_
     rw[HDD.out]
     rintro e w1 ⟨rfl,rfl⟩
     go_wp2
     go_roundg (s.size-(i+1))
     case measure=>omega
     case rel=>exact⟨i+1,_,rfl,(by push_cast;rfl),rfl,rfl,by omega,by push_cast;omega,HN⟩
  ·have HN:=Lib.hid (num_stop (by omega) HI.out)
   go_wp2
   go_ret2
   exact opt_some HN.out rfl
def RunsTo (s:ByteArray) (a:Int) (r:Int):Prop:=∀W,Calls Tryz.prog 242 #[s,a,.int .i64 10] W fun e w'=>e= .returned (.int .i64 r)∧W=w'
def NumTo (s:ByteArray) (n:Int) (ok:Bool):Prop:=∀W,Calls Tryz.prog 219 #[.string s,.int .i64 10] W fun e w'=>e= .returned (.tuple #[.int .i64 n,.bool ok])∧W=w'
def PowTo (k:Int) (q:Int):Prop:=∀W,Calls Tryz.prog 243 #[.int .i64 k] W fun e w'=>e= .returned (.int .i64 q)∧W=w'
theorem sshift_c (w:World) (u:Nat) (hu:u≤4294967295) (n:Int) (h1: -2147483647≤n) (h2:n≤2147483647):Calls Tryz.prog 221 #[.int .i64 u,.int .i64 n] w fun e w'=>e= .returned (.int .i64 (zBx u n:Nat))∧w=w':=by
 have hc:(32≤n∨n≤ -32)∨(n<32∧0≤n)∨(-32<n∧n<0):=by omega
 rcases hc with c|⟨c,c2⟩|⟨c,c2⟩
 ·have HR:=Lib.hid (show zBx u n=0 from by unfold zBx;rw[if_pos c])
  rcases c with c|c
  all_goals
   go_enter Tryz.func221,Tryz.ntmps221
   go_wp2
   go_ret
   exact⟨by rw[HR.out];rfl,rfl⟩
 ·have HR:=Lib.hid (show((u:Int)*2^n.toNat%4294967296)=(zBx u n:Nat) from by unfold zBx;rw[if_neg (by omega),if_pos c2];simp)
  have HB:=Lib.hid (show bits .and .i64 (wrap64 ((u:Int)*2^n.toNat)) 4294967295=(u:Int)*2^n.toNat%4294967296 from by
   rw[zBi];unfold wrap64;generalize (u:Int)*2^n.toNat=z;omega)
  go_enter Tryz.func221,Tryz.ntmps221
  go_wp2
  go_ret
  exact⟨by rw[←HR.out,←HB.out];rfl,rfl⟩
 ·have HR:=Lib.hid (show((u:Int)/2^(-n).toNat)=(zBx u n:Nat) from by unfold zBx;rw[if_neg (by omega),if_neg (by omega)];simp)
  go_enter Tryz.func221,Tryz.ntmps221
  go_wp2
  go_ret
  exact⟨by rw[←HR.out];rfl,rfl⟩
theorem sbits_c (w:World) (o:Int) (u v:Nat) (hu:u≤4294967295) (hv:v≤4294967295) (n:Int) (h1: -2147483647≤n) (h2:n≤2147483647):
  Calls Tryz.prog 167 #[o,.int .i64 u,.int .i64 v,.int .i64 n] w fun e w'=>e= .returned (.int .i64 (bitR o u v n:Nat))∧w=w':=by
 obtain⟨b1,b2,b3⟩:=bits_small (k:= .i64) (.inl rfl) u v hu hv
 have b4:=(bits_small (k:= .i64) (.inl rfl) u 4294967295 hu (by omega)).2.2
 have B1:=Lib.hid b1
 have B2:=Lib.hid b2
 have B3:=Lib.hid b3
 have B4:=Lib.hid b4
 clear b1 b2 b3 b4
 have hc:o=9∨o=10∨o=11∨o=12∨o=13∨(o<9∨13<o):=by omega
 have HS:=Lib.hid (fun W n h1 h2=>sshift_c W u hu n h1 h2)
 rcases hc with rfl|rfl|rfl|rfl|rfl|hc
 ·go_enter Tryz.func167,Tryz.ntmps167
  go_wp2
  go_ret
  exact⟨zBE B1.out,rfl⟩
 ·go_enter Tryz.func167,Tryz.ntmps167
  go_wp2
  go_ret
  exact⟨zBE B2.out,rfl⟩
 ·go_enter Tryz.func167,Tryz.ntmps167
  go_wp2
  go_ret
  exact⟨zBE B3.out,rfl⟩
 ·go_enter Tryz.func167,Tryz.ntmps167
  go_wp2_with fail
  refine(HS.out _ _ h1 h2).mono ?_
  rintro e w1 ⟨rfl,rfl⟩
  go_wp2
  go_ret
  exact⟨rfl,rfl⟩
 ·go_enter Tryz.func167,Tryz.ntmps167
  go_wp2_with fail
  refine(HS.out _ _ (by omega) (by omega)).mono ?_
  rintro e w1 ⟨rfl,rfl⟩
  go_wp2
  go_ret
  exact⟨rfl,rfl⟩
 ·have t1:(o==9)=false:=by rw[beq_eq_false_iff_ne];omega
  have t2:(o==10)=false:=by rw[beq_eq_false_iff_ne];omega
  have t3:(o==11)=false:=by rw[beq_eq_false_iff_ne];omega
  have t4:(o==12)=false:=by rw[beq_eq_false_iff_ne];omega
  have t5:(o==13)=false:=by rw[beq_eq_false_iff_ne];omega
  have HR:=Lib.hid (show bitR o u v n=u ^^^ 4294967295 from by unfold bitR;rw[if_neg (by omega),if_neg (by omega),if_neg (by omega),if_neg (by omega),if_neg (by omega)])
  go_enter Tryz.func167,Tryz.ntmps167
  go_wp2
  go_ret
  exact⟨zBE (by rw[HR.out];exact B4.out),rfl⟩
theorem splain_eq (w:World) (o:Int) (k1 p1 q1:Int) (s1:ByteArray) (r1:Int) (k2 p2 q2:Int) (s2:ByteArray) (r2:Int) (R:VR) (g1:1≤o) (g2:o≤23) (hun:∀W,Calls Tryz.prog 46 #[.int .i64 o] W fun e w'=>e= .returned (.bool false)∧W=w') (hv1:∀W,Calls Tryz.prog 26 #[.agg #[k1,p1,q1,s1,r1]] W (BoolPost W true)) (hv2:∀W,Calls Tryz.prog 26 #[.agg #[k2,p2,q2,s2,r2]] W (BoolPost W true))
  (t8:(o==8)=false) (t14:(o==14)=true) (hR:R= .ok (boolV (eqV ⟨k1,p1,q1,s1,r1⟩ ⟨k2,p2,q2,s2,r2⟩==true))):Calls Tryz.prog 12 #[o,.agg #[k1,p1,q1,s1,r1],.agg #[k2,p2,q2,s2,r2]] w (VrPost w R):=by
 have HRR:=Lib.hid hR
 clear hR
 have HPU:=Lib.hid hun
 clear hun
 have HV1:=Lib.hid hv1
 clear hv1
 have HV2:=Lib.hid hv2
 clear hv2
 go_enter Tryz.func12,Tryz.ntmps12
 go_wp2_with (first|(go_at_call 46;refine(HPU.out _).mono ?_;rintro e w' ⟨rfl,rfl⟩))
 refine(HV1.out _).mono ?_
 rintro e w1 ⟨rfl,hb⟩
 have HA1:=hkh hb (zAh _ _ _ _)
 have HB1:=hkh hb (zAY _ _ _ _)
 have HC1:=hkh hb (zAX _ _ _ _)
 have HW1:=hbn (zAL _ _ _ _) hb
 have hz1:=hb.size
 simp at hz1
 clear hb
 obtain⟨b0,b1,b2,b3,b4⟩:=cells5 HB1.out
 go_wp2_with (first|(go_at_call 46;refine(HPU.out _).mono ?_;rintro e w' ⟨rfl,rfl⟩))
 refine(HV2.out _).mono ?_
 rintro e w2 ⟨rfl,hb⟩
 have HA2:=hkh hb HA1.out
 have HB2:=hkh hb HB1.out
 have HC2:=hkh hb HC1.out
 have HW2:=hbn HW1.out hb
 have hz2:=hb.size
 clear hb b0 b1 b2 b3 b4
 obtain⟨a0,a1,a2,a3,a4⟩:=cells5 HA2.out
 obtain⟨b0,b1,b2,b3,b4⟩:=cells5 HB2.out
 go_wp2_with (first|(go_at_call 46;refine(HPU.out _).mono ?_;rintro e w' ⟨rfl,rfl⟩))
 all_goals
  refine(zBR _ _).mono ?_
  rintro e w9 ⟨rfl,hb⟩
  have HC9:=hkh hb HC2.out
  have HW9:=hbn HW2.out hb
  have hz9:=hb.size
  clear hb a0 a1 a2 a3 a4 b0 b1 b2 b3 b4
  obtain⟨c0,c1,c2,c3,c4⟩:=cells5 HC9.out
  obtain⟨fc0,fc1,fc2,fc3,fc4⟩:=froz5 HC9.out
  go_wp2
  refine bodyPost_ret (by simp[results,Tryz.results12,go_sem,c0,c1,c2,c3,c4];first|done|rfl) rfl ?_
  refine vr_val ?_ (zAH HW9.out (by omega) _ _ _ _ _)
  have hRR:=HRR.out
  clear HRR
  subst hRR
  refine congrArg (fun b=>(Except.ok (boolV b):VR)) ?_
  simp_all[eqV,toList_bytes]
theorem splain_ne (w:World) (o:Int) (k1 p1 q1:Int) (s1:ByteArray) (r1:Int) (k2 p2 q2:Int) (s2:ByteArray) (r2:Int) (R:VR) (g1:1≤o) (g2:o≤23) (hun:∀W,Calls Tryz.prog 46 #[.int .i64 o] W fun e w'=>e= .returned (.bool false)∧W=w') (hv1:∀W,Calls Tryz.prog 26 #[.agg #[k1,p1,q1,s1,r1]] W (BoolPost W true)) (hv2:∀W,Calls Tryz.prog 26 #[.agg #[k2,p2,q2,s2,r2]] W (BoolPost W true))
  (t8:(o==8)=false) (t14:(o==14)=false) (t15:(o==15)=true) (hR:R= .ok (boolV (eqV ⟨k1,p1,q1,s1,r1⟩ ⟨k2,p2,q2,s2,r2⟩==false))):Calls Tryz.prog 12 #[o,.agg #[k1,p1,q1,s1,r1],.agg #[k2,p2,q2,s2,r2]] w (VrPost w R):=by
 have HRR:=Lib.hid hR
 clear hR
 have HPU:=Lib.hid hun
 clear hun
 have HV1:=Lib.hid hv1
 clear hv1
 have HV2:=Lib.hid hv2
 clear hv2
 go_enter Tryz.func12,Tryz.ntmps12
 go_wp2_with (first|(go_at_call 46;refine(HPU.out _).mono ?_;rintro e w' ⟨rfl,rfl⟩))
 refine(HV1.out _).mono ?_
 rintro e w1 ⟨rfl,hb⟩
 have HA1:=hkh hb (zAh _ _ _ _)
 have HB1:=hkh hb (zAY _ _ _ _)
 have HC1:=hkh hb (zAX _ _ _ _)
 have HW1:=hbn (zAL _ _ _ _) hb
 have hz1:=hb.size
 simp at hz1
 clear hb
 obtain⟨b0,b1,b2,b3,b4⟩:=cells5 HB1.out
 go_wp2_with (first|(go_at_call 46;refine(HPU.out _).mono ?_;rintro e w' ⟨rfl,rfl⟩))
 refine(HV2.out _).mono ?_
 rintro e w2 ⟨rfl,hb⟩
 have HA2:=hkh hb HA1.out
 have HB2:=hkh hb HB1.out
 have HC2:=hkh hb HC1.out
 have HW2:=hbn HW1.out hb
 have hz2:=hb.size
 clear hb b0 b1 b2 b3 b4
 obtain⟨a0,a1,a2,a3,a4⟩:=cells5 HA2.out
 obtain⟨b0,b1,b2,b3,b4⟩:=cells5 HB2.out
 go_wp2_with (first|(go_at_call 46;refine(HPU.out _).mono ?_;rintro e w' ⟨rfl,rfl⟩))
 all_goals
  refine(zBR _ _).mono ?_
  rintro e w9 ⟨rfl,hb⟩
  have HC9:=hkh hb HC2.out
  have HW9:=hbn HW2.out hb
  have hz9:=hb.size
  clear hb a0 a1 a2 a3 a4 b0 b1 b2 b3 b4
  obtain⟨c0,c1,c2,c3,c4⟩:=cells5 HC9.out
  obtain⟨fc0,fc1,fc2,fc3,fc4⟩:=froz5 HC9.out
  go_wp2
  refine bodyPost_ret (by simp[results,Tryz.results12,go_sem,c0,c1,c2,c3,c4];first|done|rfl) rfl ?_
  refine vr_val ?_ (zAH HW9.out (by omega) _ _ _ _ _)
  have hRR:=HRR.out
  clear HRR
  subst hRR
  refine congrArg (fun b=>(Except.ok (boolV b):VR)) ?_
  simp_all[eqV,toList_bytes]
end Go.Proofs.YthkpckgcgkijbaaGreatDoor
