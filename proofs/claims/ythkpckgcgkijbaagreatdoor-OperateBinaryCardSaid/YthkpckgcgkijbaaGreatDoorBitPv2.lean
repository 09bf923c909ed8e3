import Derived.Test.YthkpckgcgkijbaaGreatDoorOmD
set_option linter.unusedVariables false
set_option linter.unusedSimpArgs false
set_option maxRecDepth 100000
set_option maxHeartbeats 2000000
namespace Go.Proofs.YthkpckgcgkijbaaGreatDoor
open Go.RowKit Go.Proofs.Tryz
theorem Zj (a:Int):bits .and .i64 a 4294967295=a%4294967296:=by
 show IntKind.i64.wrap ((BitVec.ofInt 64 a &&& BitVec.ofInt 64 4294967295).toNat:Int)=_;rw[BitVec.toNat_and,BitVec.toNat_ofInt];have e:(BitVec.ofInt 64 4294967295).toNat=2^32-1:=by decide
 rw[e,Nat.and_two_pow_sub_one_eq_mod];have e2:((2^64:Nat):Int)=18446744073709551616:=by decide
 have e3:(2:Nat)^32=4294967296:=by decide
 rw[e2,e3,IntKind.wrap_i64];omega
end Go.Proofs.YthkpckgcgkijbaaGreatDoor
namespace Go.Proofs.YthkpckgcgkijbaaGreatDoor
open Go.RowKit Go.Proofs.Lexi Go.Proofs.Tryz
theorem LT {o:Int} {b:N2} (h:o≠23):GR o b=b:=by unfold GR;rw[if_neg h]
theorem DJ {r:Nat} (h:2147483648<=r):Zf r=(r:Int)-4294967296:=by unfold Zf;rw[if_pos h]
theorem DI {r:Nat} (h:r<2147483648):Zf r=r:=by unfold Zf;rw[if_neg (by omega)]
theorem Fo (o:Int) (X:RR) (ho:o=20\/o=23):Jj o X X=Jj o X (.ok (0,1)):=by
 have ha:∀x y z:N2,J8 o x y=J8 o x z:=fun x y z=>by
  rcases ho with rfl|rfl
  ·rfl
  ·show JU 23 x y=JU 23 x z;rfl
 unfold Jj;rw[ha (nP X,nQ X) (nP X,nQ X) (nP (.ok (0,1)),nQ (.ok (0,1)))];by_cases h:nE X≠0
 ·rw[if_pos (.inl h),if_pos (.inl h)]
 ·have h0:nE (.ok (0,1):RR)=0:=rfl;have e1:¬(nE X≠0\/nE X≠0):=by omega
  have e2:¬(nE X≠0\/nE (.ok (0,1):RR)≠0):=by omega
  rw[if_neg e1,if_neg e2]
theorem AF {o:Int} {a b:V} (h1:1<=o) (h2:o<=23) (h14:o≠14) (h15:o≠15) (h22:o≠22) (h18:o≠18) (h19:o≠19) (ha:Qt a=true) (hb:o<=19->Qt b=true) (h:Ze o a b= .error 8):(o=16\/o=17)\/o=8\/(1<=o/\o<=7)\/o=20\/(9<=o/\o<=13)\/o=23:=by
 by_cases h21:o=21
 ·subst h21;unfold Ze at h;rw[if_neg (by
   rintro(h|h|⟨h,_⟩)
   ·omega
   ·rw[ha] at h;cases h
   ·omega),if_neg (by omega),if_neg (by omega),if_neg (by omega),if_neg (by omega),if_pos rfl] at h
  cases h
 ·omega
theorem Z9 (w:World) (c:Nat) (hc:c<=255):Calls prog 241 #[.int .u8 c] w fun e w'=>e= .returned (.int .i64 (KT c:Nat))/\w=w':=by
 have h:(48<=c/\c<=57)\/(97<=c/\c<=102)\/(65<=c/\c<=70)\/(c<48\/(57<c/\(c<65\/(70<c/\(c<97\/102<c))))):=by omega
 rcases h with⟨a,b⟩|⟨a,b⟩|⟨a,b⟩|h
 ·have HR:=zh (show((KT c:Nat):Int)=c-48 from by unfold KT;rw[if_pos ⟨a,b⟩];omega);go_enter func241,ntmps241;go_wp2
  go_ret
  exact⟨ZB HR.out.symm,rfl⟩
 ·have HR:=zh (show((KT c:Nat):Int)=c-97+10 from by unfold KT;rw[if_neg (by omega),if_pos ⟨a,b⟩];omega);go_enter func241,ntmps241;go_wp2
  go_ret
  exact⟨ZB HR.out.symm,rfl⟩
 ·have HR:=zh (show((KT c:Nat):Int)=c-65+10 from by unfold KT;rw[if_neg (by omega),if_neg (by omega),if_pos ⟨a,b⟩];omega);go_enter func241,ntmps241;go_wp2
  go_ret
  exact⟨ZB HR.out.symm,rfl⟩
 ·have HR:=zh (show((KT c:Nat):Int)=99 from by unfold KT;rw[if_neg (by omega),if_neg (by omega),if_neg (by omega)];rfl);rcases h with h|⟨h,h2|⟨h2,h3|h3⟩⟩;all_goals
   go_enter func241,ntmps241;go_wp2
   go_ret
   exact⟨ZB HR.out.symm,rfl⟩
theorem M9 (w:World) (s:ByteArray) (hs:s.size<=2000000000) (k:Nat) (hk:k<=2000000002) (base:Nat) (hb:base=10\/base=16):
  Calls prog 242 #[s,.int .i64 k,.int .i64 base] w fun e w'=>e= .returned (.int .i64 (k+ZT base ((QF s).drop k):Nat))/\w=w':=by
 obtain⟨R,hR⟩:∃R,k+ZT base ((QF s).drop k)=R:=⟨_,rfl⟩
 rw[hR];have HR0:=zh hR;clear hR;go_enter func242,ntmps242;go_wp2
 go_loopg [1] (s.size-k) (fun gg v wr=>∃i:Nat,gg=s.size-i/\v= .int .i64 (i:Int)/\w=wr/\i<=2000000002/\Hid (i+ZT base ((QF s).drop i)=R))
 case atStart=>exact⟨k,rfl,rfl,rfl,hk,HR0⟩
 case round=>
  obtain⟨i,rfl,rfl,rfl,hi,HI⟩:=hrel;by_cases hlt:i<s.size
  ·have hst:=PP hlt HI.out;have HD:=zh (Z9 w s[i].toNat (Ge _));cases hd:Jd base s[i].toNat with
   |true=>
    have HN:=zh (hst.1 hd);have hdv:KT s[i].toNat<base:=of_decide_eq_true hd;clear hst hd;go_wp2_with fail
    refine HD.out.mono ?_;rintro e w1 ⟨rfl,rfl⟩;go_wp2
    go_roundg (s.size-(i+1))
    case measure=>omega
    case rel=>exact⟨i+1,rfl,rfl,rfl,by omega,HN⟩
   |false=>
    have HN:=zh (hst.2 hd);have hdv:¬KT s[i].toNat<base:=of_decide_eq_false hd;have hd9:=Z3 s[i].toNat;clear hst hd;go_wp2_with fail
    refine HD.out.mono ?_;rintro e w1 ⟨rfl,rfl⟩;go_wp2
    go_ret
    exact⟨ZB (congrArg (fun n:Nat=>(n:Int)) HN.out),rfl⟩
  ·have HN:=zh (PN (by omega) HI.out);go_wp2
   go_ret
   exact⟨ZB (congrArg (fun n:Nat=>(n:Int)) HN.out),rfl⟩
theorem PG (w:World) (c:Nat):Calls prog 215 #[.int .u8 c] w fun e w'=>e= .returned (.bool (ZX c))/\w=w':=by
 have h:c=32\/(c≠32/\(c=9\/(c≠9/\(c=10\/(c≠10/\(c=13\/c≠13)))))):=by omega
 have one:∀n:Nat,c≠n->((c:Int)==(n:Int))=false:=fun n h=>by rw[beq_eq_false_iff_ne];omega
 rcases h with rfl|⟨h1,rfl|⟨h2,rfl|⟨h3,rfl|h4⟩⟩⟩
 ·go_enter func215,ntmps215;go_wp2
  go_ret
  exact⟨rfl,rfl⟩
 ·go_enter func215,ntmps215;go_wp2
  go_ret
  exact⟨rfl,rfl⟩
 ·go_enter func215,ntmps215;go_wp2
  go_ret
  exact⟨rfl,rfl⟩
 ·go_enter func215,ntmps215;go_wp2
  go_ret
  exact⟨rfl,rfl⟩
 ·have HR:=zh (show ZX c=false from by unfold ZX;simp[h1,h2,h3,h4]);have t1:((c:Int)==32)=false:=one 32 h1;have t2:((c:Int)==9)=false:=one 9 h2;have t3:((c:Int)==10)=false:=one 10 h3;have t4:((c:Int)==13)=false:=one 13 h4;clear h1 h2 h3 h4 one;go_enter func215,ntmps215;go_wp2
  go_ret
  exact⟨Zw HR.out.symm,rfl⟩
theorem Gn (w:World) (s:ByteArray) (hs:s.size<=2000000000) (base:Nat) (hb:base=10\/base=16):
  Calls prog 219 #[s,.int .i64 base] w (OptPost w (Km base (QF s) 0)):=by
 obtain⟨R,hR⟩:∃R,Km base ((QF s).drop 0) 0=R:=⟨_,rfl⟩
 rw[show Km base (QF s) 0=R from hR];have HR0:=zh hR;clear hR;go_enter func219,ntmps219;go_wp2
 go_loopg [6,7] s.size (fun gg vn v wr=>∃i n:Nat,gg=s.size-i/\vn= .int .i64 (n:Int)/\v= .int .i64 (i:Int)/\w=wr/\i<=s.size/\(n:Int)<=4611686018427387904/\Hid (Km base ((QF s).drop i) n=R))
 case atStart=>exact⟨0,0,rfl,rfl,rfl,rfl,Nat.zero_le _,by decide,HR0⟩
 case round=>
  obtain⟨i,n,rfl,rfl,rfl,rfl,hi,hn,HI⟩:=hrel;by_cases hlt:i<s.size
  ·have hst:=Pu hb hlt HI.out;have HD:=zh (Z9 w s[i].toNat (Ge _));have hd9:=Z3 s[i].toNat;obtain⟨d,hd⟩:∃d,d=KT s[i].toNat:=⟨_,rfl⟩
   rw[<-hd] at hst hd9;have HDD:=zh hd.symm;clear hd;by_cases hc:(4611686018427387904-(d:Int))/(base:Int)<n
   ·have HN:=zh (hst.1 hc);clear hst;rcases hb with rfl|rfl;all_goals
     go_wp2_with fail
     refine HD.out.mono ?_;rw[HDD.out];rintro e w1 ⟨rfl,rfl⟩;go_wp2
     go_ret2
     exact Pp HN.out rfl
   ·have HN:=zh (hst.2 (by omega));clear hst;rcases hb with rfl|rfl;all_goals
     go_wp2_with fail
     refine HD.out.mono ?_;rw[HDD.out];rintro e w1 ⟨rfl,rfl⟩;go_wp2
     go_roundg (s.size-(i+1))
     case measure=>omega
     case rel=>exact⟨i+1,_,rfl,(by push_cast;rfl),rfl,rfl,by omega,by push_cast;omega,HN⟩
  ·have HN:=zh (Pt (by omega) HI.out);go_wp2
   go_ret2
   exact Po HN.out rfl
def RunsTo (s:ByteArray) (a:Int) (r:Int):Prop:=∀W,Calls prog 242 #[s,a,.int .i64 10] W fun e w'=>e= .returned (.int .i64 r)/\W=w'
def NumTo (s:ByteArray) (n:Int) (ok:Bool):Prop:=∀W,Calls prog 219 #[s,.int .i64 10] W fun e w'=>e= .returned (.tuple #[.int .i64 n,.bool ok])/\W=w'
def PowTo (k:Int) (q:Int):Prop:=∀W,Calls prog 243 #[k] W fun e w'=>e= .returned (.int .i64 q)/\W=w'
theorem Lk (w:World) (u:Nat) (hu:u<=4294967295) (n:Int) (h1: -2147483647<=n) (h2:n<=2147483647):Calls prog 221 #[.int .i64 u,.int .i64 n] w fun e w'=>e= .returned (.int .i64 (Z4 u n:Nat))/\w=w':=by
 have hc:(32<=n\/n<= -32)\/(n<32/\0<=n)\/(-32<n/\n<0):=by omega
 rcases hc with c|⟨c,c2⟩|⟨c,c2⟩
 ·have HR:=zh (show Z4 u n=0 from by unfold Z4;rw[if_pos c]);rcases c with c|c;all_goals
   go_enter func221,ntmps221;go_wp2
   go_ret
   exact⟨by rw[HR.out];rfl,rfl⟩
 ·have HR:=zh (show((u:Int)*2^n.toNat%4294967296)=(Z4 u n:Nat) from by unfold Z4;rw[if_neg (by omega),if_pos c2];simp);have HB:=zh (show bits .and .i64 (wrap64 ((u:Int)*2^n.toNat)) 4294967295=(u:Int)*2^n.toNat%4294967296 from by
   rw[Zj];unfold wrap64;generalize (u:Int)*2^n.toNat=z;omega)
  go_enter func221,ntmps221;go_wp2
  go_ret
  exact⟨by rw[<-HR.out,<-HB.out];rfl,rfl⟩
 ·have HR:=zh (show((u:Int)/2^(-n).toNat)=(Z4 u n:Nat) from by unfold Z4;rw[if_neg (by omega),if_neg (by omega)];simp);go_enter func221,ntmps221;go_wp2
  go_ret
  exact⟨by rw[<-HR.out];rfl,rfl⟩
theorem Bp (w:World) (o:Int) (u v:Nat) (hu:u<=4294967295) (hv:v<=4294967295) (n:Int) (h1: -2147483647<=n) (h2:n<=2147483647):
  Calls prog 167 #[.int .i64 o,.int .i64 u,.int .i64 v,.int .i64 n] w fun e w'=>e= .returned (.int .i64 (Yq o u v n:Nat))/\w=w':=by
 obtain⟨b1,b2,b3⟩:=Jn (k:= .i64) (.inl rfl) u v hu hv;have b4:=(Jn (k:= .i64) (.inl rfl) u 4294967295 hu (by omega)).2.2;have B1:=zh b1;have B2:=zh b2;have B3:=zh b3;have B4:=zh b4;clear b1 b2 b3 b4;have hc:o=9\/o=10\/o=11\/o=12\/o=13\/(o<9\/13<o):=by omega
 have HS:=zh (fun W n h1 h2=>Lk W u hu n h1 h2);rcases hc with rfl|rfl|rfl|rfl|rfl|hc
 ·go_enter func167,ntmps167;go_wp2
  go_ret
  exact⟨ZB B1.out,rfl⟩
 ·go_enter func167,ntmps167;go_wp2
  go_ret
  exact⟨ZB B2.out,rfl⟩
 ·go_enter func167,ntmps167;go_wp2
  go_ret
  exact⟨ZB B3.out,rfl⟩
 ·go_enter func167,ntmps167;go_wp2_with fail
  refine(HS.out _ _ h1 h2).mono ?_;rintro e w1 ⟨rfl,rfl⟩;go_wp2
  go_ret
  exact⟨rfl,rfl⟩
 ·go_enter func167,ntmps167;go_wp2_with fail
  refine(HS.out _ _ (by omega) (by omega)).mono ?_;rintro e w1 ⟨rfl,rfl⟩;go_wp2
  go_ret
  exact⟨rfl,rfl⟩
 ·have t1:(o==9)=false:=by rw[beq_eq_false_iff_ne];omega
  have t2:(o==10)=false:=by rw[beq_eq_false_iff_ne];omega
  have t3:(o==11)=false:=by rw[beq_eq_false_iff_ne];omega
  have t4:(o==12)=false:=by rw[beq_eq_false_iff_ne];omega
  have t5:(o==13)=false:=by rw[beq_eq_false_iff_ne];omega
  have HR:=zh (show Yq o u v n=u ^^^ 4294967295 from by unfold Yq;rw[if_neg (by omega),if_neg (by omega),if_neg (by omega),if_neg (by omega),if_neg (by omega)]);go_enter func167,ntmps167;go_wp2
  go_ret
  exact⟨ZB (by rw[HR.out];exact B4.out),rfl⟩
theorem Fu (w:World) (k1 p1 q1:Int) (s1:ByteArray) (r1:Int):Calls prog 136 #[.agg #[k1,p1,q1,s1,r1]] w (fun e w'=>e= .returned (.string (Zg k1))/\Below w w w'):=by
 obtain⟨T,hT⟩:∃T,T=Zg k1:=⟨_,rfl⟩
 rw[<-hT];have HT:=zh hT;clear hT;go_enter func136,ntmps136;go_wp2;all_goals
  go_ret
  have h:=HT.out;clear HT;refine⟨?_,Qf _ _⟩;subst h;simp_all[Zg]
theorem L0 (w:World) (nk vk vp vq:Int) (vs:ByteArray) (vr fk fp fq:Int) (fs:ByteArray) (fr:Int) (na:Int) (ns:ByteArray):Calls prog 19 #[.agg #[nk,vk,vp,vq,vs,vr,fk,fp,fq,fs,fr,.slice none 0 0,na,ns],.agg #[nk,vk,vp,vq,vs,vr,fk,fp,fq,fs,fr,.slice none 0 0,na,ns]] w (BoolPost w true):=by
 go_enter func19,ntmps19;go_wp2
 go_loopg [5] 0 (fun gg iv wx=>iv= .int .i64 0/\wx=((w.alloc (.cells #[nk,vk,vp,vq,vs,vr,fk,fp,fq,fs,fr,.slice none 0 0,na,ns] 43)).alloc (.cells #[nk,vk,vp,vq,vs,vr,fk,fp,fq,fs,fr,.slice none 0 0,na,ns] 43)))
 case atStart=>exact⟨rfl,rfl⟩
 obtain⟨rfl,rfl⟩:=hrel;go_wp2
 go_ret
 exact⟨rfl,QE _ _ _⟩
theorem Lz (w:World) (nk vk vp vq:Int) (vs:ByteArray) (vr fk fp fq:Int) (fs:ByteArray) (fr:Int) (na:Int) (ns:ByteArray) (k1 p1 q1:Int) (s1:ByteArray) (r1:Int) (k2 p2 q2:Int) (s2:ByteArray) (r2:Int) (g h:Nat) (hg:w.heap[g]? =some (.cells #[k1,p1,q1,s1,r1,k2,p2,q2,s2,r2] 25)) (hh:w.heap[h]? =some (.cells #[k1,p1,q1,s1,r1,k2,p2,q2,s2,r2] 25)):
  Calls prog 19 #[.agg #[nk,vk,vp,vq,vs,vr,fk,fp,fq,fs,fr,.slice (some g) 2 2,na,ns],.agg #[nk,vk,vp,vq,vs,vr,fk,fp,fq,fs,fr,.slice (some h) 2 2,na,ns]] w (BoolPost w true):=by
 have HG:=zh hg;have HH:=zh hh;clear hg hh;go_enter func19,ntmps19;go_wp2;obtain⟨W0,hW0⟩:∃W0,W0=(w.alloc (.cells #[nk,vk,vp,vq,vs,vr,fk,fp,fq,fs,fr,.slice (some g) 2 2,na,ns] 43)).alloc (.cells #[nk,vk,vp,vq,vs,vr,fk,fp,fq,fs,fr,.slice (some h) 2 2,na,ns] 43):=⟨_,rfl⟩
 rw[<-hW0];have HB0:=zh (show Below w w W0 by rw[hW0];exact QE _ _ _);have HX:=zh (show W0.heap[w.heap.size]? =some (.cells #[nk,vk,vp,vq,vs,vr,fk,fp,fq,fs,fr,.slice (some g) 2 2,na,ns] 43) by rw[hW0];exact Qm _ _ _);have HY:=zh (show W0.heap[w.heap.size+1]? =some (.cells #[nk,vk,vp,vq,vs,vr,fk,fp,fq,fs,fr,.slice (some h) 2 2,na,ns] 43) by rw[hW0];exact QY _ _ _);clear hW0
 go_loopg [5] 2 (fun gg iv wx=>∃j:Nat,iv= .int .i64 (j:Nat)/\2-j=gg/\j<=2/\Below W0 W0 wx)
 case atStart=>exact⟨0,rfl,rfl,Nat.zero_le _,Below.refl _ _⟩
 obtain⟨j,rfl,rfl,hj,hb⟩:=hrel;have HB:=zh hb;have HGr:=hkh hb (QL HB0.out HG.out);have HHr:=hkh hb (QL HB0.out HH.out);have hlx:w.heap.size<wr.heap.size:=(Array.getElem?_eq_some_iff.1 (QL hb HX.out)).1;have hly:w.heap.size+1<wr.heap.size:=(Array.getElem?_eq_some_iff.1 (QL hb HY.out)).1;have hlg:g<wr:=hsz HGr;have hlh:h<wr:=hsz HHr;have x11:wr.cell? ⟨w,11,none⟩=some (.slice (some g) 2 2):=by rw[QA (QL hb HX.out)];rfl
 have y11:wr.cell? ⟨w+1,11,none⟩=some (.slice (some h) 2 2):=by rw[QA (QL hb HY.out)];rfl
 obtain⟨g0,g1,g2,g3,g4,g5,g6,g7,g8,g9⟩:=zc10 HGr;obtain⟨h0,h1,h2,h3,h4,h5,h6,h7,h8,h9⟩:=zc10 HHr;clear hb;obtain rfl|rfl|rfl:j=0\/j=1\/j=2:=by omega
 ·go_wp2
  go_quiet (fail)
  go_wp2
  go_roundg 1
  case measure=>omega
  case rel=>exact⟨1,rfl,rfl,by omega,below_drewN HB.out _⟩
 ·go_wp2
  go_quiet (fail)
  go_wp2
  go_roundg 0
  case measure=>omega
  case rel=>exact⟨2,rfl,rfl,by omega,below_drewN HB.out _⟩
 ·go_wp2
  go_ret
  exact⟨rfl,QC HB0.out HB.out⟩
theorem UY (w:World) (s:ByteArray):Calls prog 189 #[s] w (ValPost w (KR s)):=by
 go_enter func189,ntmps189;go_wp2;refine zr (by simp[results,results189,go_sem]<;>rfl) ?_;exact Qo rfl (Qf _ _)
theorem Nc (w:World) (hv:Value) (k1 p1 q1:Int) (s1:ByteArray) (r1:Int) (s:ByteArray) (h4:(k1 !=4)=true) (h8:(k1 !=8)=true):Calls prog 125 #[hv,.agg #[k1,p1,q1,s1,r1],s] w (ValPost w V.nil):=by
 go_enter func125,ntmps125;go_wp2;refine zr (by simp[results,results125,go_sem]<;>rfl) ?_;exact Qo rfl (by first|exact QE _ _ _|trace_state)
theorem Nb (w:World) (hv:Value) (p1 q1:Int) (s1:ByteArray) (r1:Int) (s:ByteArray) (mk mp mq:Int) (ms:ByteArray) (mr:Int) (h0:(mk !=4)=true) (T:∀W,Below w w W->Calls prog 187 #[hv,.agg #[.int .i64 4,p1,q1,s1,r1]] W (ValPost W ⟨mk,mp,mq,ms,mr⟩)):
  Calls prog 125 #[hv,.agg #[.int .i64 4,p1,q1,s1,r1],s] w (ValPost w V.nil):=by
 have HT:=zh T;clear T;go_enter func125,ntmps125;go_wp2_with fail
 refine(HT.out _ (QE _ _ _)).mono ?_;rintro e w1 ⟨rfl,hb⟩;have Hb1:=hkh hb (QY _ _ _);have HW1:=hbn (QE _ _ _) hb;have hz1:=hb.size;try simp at hz1
 clear hb;have hyb:=hsz Hb1;obtain⟨b0,b1,b2,b3,b4⟩:=zc5 Hb1;obtain⟨fb0,fb1,fb2,fb3,fb4⟩:=zf5 Hb1;go_wp2;refine zr (by simp[results,results125,go_sem,hyb,b0,b1,b2,b3,b4]<;>rfl) ?_;exact Qo rfl ((QG HW1.out (by omega) _ _ _ _ _).alloc (by simp;omega) _)
theorem Na (w:World) (hv:Value) (p1 q1:Int) (s1:ByteArray) (r1:Int) (s:ByteArray) (mk mp mq:Int) (ms:ByteArray) (mr:Int) (h0:(mk !=4)=true) (T:∀W,Below w w W->Calls prog 187 #[hv,.agg #[.int .i64 8,p1,q1,s1,r1]] W (ValPost W ⟨mk,mp,mq,ms,mr⟩)):
  Calls prog 125 #[hv,.agg #[.int .i64 8,p1,q1,s1,r1],s] w (ValPost w V.nil):=by
 have HT:=zh T;clear T;go_enter func125,ntmps125;go_wp2_with fail
 refine(HT.out _ (QE _ _ _)).mono ?_;rintro e w1 ⟨rfl,hb⟩;have Hb1:=hkh hb (QY _ _ _);have HW1:=hbn (QE _ _ _) hb;have hz1:=hb.size;try simp at hz1
 clear hb;have hyb:=hsz Hb1;obtain⟨b0,b1,b2,b3,b4⟩:=zc5 Hb1;obtain⟨fb0,fb1,fb2,fb3,fb4⟩:=zf5 Hb1;go_wp2;refine zr (by simp[results,results125,go_sem,hyb,b0,b1,b2,b3,b4]<;>rfl) ?_;exact Qo rfl ((QG HW1.out (by omega) _ _ _ _ _).alloc (by simp;omega) _)
end Go.Proofs.YthkpckgcgkijbaaGreatDoor
