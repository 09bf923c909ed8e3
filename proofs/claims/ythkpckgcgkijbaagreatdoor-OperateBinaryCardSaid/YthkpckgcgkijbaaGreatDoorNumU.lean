import Derived.Test.YthkpckgcgkijbaaGreatDoorBitPv2
set_option linter.unusedVariables false
set_option linter.unusedSimpArgs false
set_option maxRecDepth 100000
set_option maxHeartbeats 8000000
namespace Go.Proofs.YthkpckgcgkijbaaGreatDoor
open Go.RowKit Go.Proofs.Lexi Go.Proofs.Tryz
theorem LQ {s:ByteArray} {i:Nat} {D:List Nat} (h:i<s.size) (hD:((QF s).drop i).dropWhile ZX=D):
  (ZX s[i].toNat=true->((QF s).drop (i+1)).dropWhile ZX=D)/\(ZX s[i].toNat=false->(QF s).drop i=D):=by
 rw[Q3 s i h] at hD;constructor<;>intro hb
 ·rwa [List.dropWhile_cons_of_pos hb] at hD
 ·rw[List.dropWhile_cons_of_neg (by rw[hb];decide)] at hD;rw[Q3 s i h];exact hD
theorem LP {s:ByteArray} {i:Nat} {D:List Nat} (h:s.size<=i) (hD:((QF s).drop i).dropWhile ZX=D):(QF s).drop i=D:=by
 rw[Zu s i h] at hD ⊢;exact hD
def Yp (s:ByteArray) (i e:Nat):List Nat:=((((QF s).drop i).take (e-i)).reverse.dropWhile ZX).reverse
theorem FX {s:ByteArray} {i:Nat} {D T:List Nat} (hD:(QF s).drop i=D) (hT:T=(D.reverse.dropWhile ZX).reverse):Yp s i s.size=T:=by
 subst hT hD;unfold Yp;rw[List.take_of_length_le (by rw[List.length_drop,Qc];exact Nat.le_refl _)]
theorem C8 {s:ByteArray} {i e:Nat} {T:List Nat} (h1:i<e) (h2:e<=s.size) (he:e-1<s.size) (hT:Yp s i e=T):
  (ZX s[e-1].toNat=true->Yp s i (e-1)=T)/\(ZX s[e-1].toNat=false->QF (s.extract i e)=T):=by
 have hl:e-1-i<((QF s).drop i).length:=by rw[List.length_drop,Qc];omega
 have hx:((QF s).drop i)[e-1-i]=s[e-1].toNat:=by
  have h3:=Q3 s (e-1) he;have h4:((QF s).drop i)[e-1-i]? =some s[e-1].toNat:=by
   rw[List.getElem?_drop,show i+(e-1-i)=e-1+0 by omega,<-List.getElem?_drop,h3];rfl
  rw[List.getElem?_eq_getElem hl] at h4;injection h4
 have ht:((QF s).drop i).take (e-i)=((QF s).drop i).take (e-1-i)++[s[e-1].toNat]:=by
  rw[show e-i=e-1-i+1 by omega,List.take_succ_eq_append_getElem hl,hx]
 have hT2:=hT;unfold Yp at hT2;rw[ht,List.reverse_append,List.reverse_singleton,List.singleton_append] at hT2;constructor<;>intro hb
 ·rw[List.dropWhile_cons_of_pos hb] at hT2;exact hT2
 ·rw[List.dropWhile_cons_of_neg (by rw[hb];decide),List.reverse_cons,List.reverse_reverse,<-ht] at hT2;rw[ZO];exact hT2
theorem P4 {s:ByteArray} {i:Nat} {T:List Nat} (hT:Yp s i i=T):QF ByteArray.empty=T:=by
 subst hT;unfold Yp;rw[Nat.sub_self];rfl
theorem CB {p q:Int} {D:Nat} (hD:D=Int.gcd p q):(q<0->JS p q=KH (-(p/(D:Int))) (-(q/(D:Int))))/\(0<=q->JS p q=KH (p/(D:Int)) (q/(D:Int))):=by
 refine⟨fun h=> ?_,fun h=> ?_⟩
 ·rw[Pa h,Kx (D:=D) (by rw[hD,Int.neg_gcd,Int.gcd_neg])];rw[Int.neg_ediv_of_dvd (by rw[hD];exact Int.gcd_dvd_left ..),Int.neg_ediv_of_dvd (by rw[hD];exact Int.gcd_dvd_right ..)]
 ·rw[PZ h,Kx hD]
theorem CD {q:Int} {D:Nat} (hD:0<D) (hd:(D:Int) ∣ q):(q<0->q/(D:Int)<0)/\(0<q->0<q/(D:Int)):=by
 obtain⟨k,rfl⟩:=hd;rw[Int.mul_ediv_cancel_left _ (show(D:Int)≠0 by omega)];constructor
 ·intro h;apply Classical.byContradiction;intro hk;have h2:0<=(D:Int)*k:=Int.mul_nonneg (by omega) (by omega);omega
 ·intro h;apply Classical.byContradiction;intro hk;have h2:(D:Int)*k<=0:=Int.mul_nonpos_of_nonneg_of_nonpos (by omega) (by omega);omega
def Kq (a:N2):Bool:=QT a&&decide (a.2=1)
def WholePost (w:World) (a:N2) (e:Ending) (w':World):Prop:=e= .returned (.tuple #[.int .i64 (if Kq a then a.1 else 0),.bool (Kq a)])/\Below w w w'
theorem Mw {w w':World} {a:N2} (h:Kq a=true) (hb:Below w w w'):WholePost w a (.returned (.tuple #[.int .i64 a.1,.bool true])) w':=by unfold WholePost;rw[h];exact⟨rfl,hb⟩
theorem Tz {w w':World} {a:N2} (h:Kq a=false) (hb:Below w w w'):WholePost w a (.returned (.tuple #[.int .i64 0,.bool false])) w':=by unfold WholePost;rw[h];exact⟨rfl,hb⟩
theorem NF {s:ByteArray} {i:Nat} {R:Int} (h:i<s.size) (hr:Gp i (ZI ((QF s).drop i))=R):
  (s[i].toNat=47->(i:Int)=R)/\(s[i].toNat≠47->Gp (i+1) (ZI ((QF s).drop (i+1)))=R):=by
 rw[Q3 s i h] at hr;unfold ZI at hr;constructor<;>intro hb
 ·rw[if_pos hb] at hr;exact hr
 ·rw[if_neg hb] at hr;rw[<-hr];cases ZI ((QF s).drop (i+1)) with
  |none=>rfl
  |some k=>show((i+1+k:Nat):Int)=((i+(k+1):Nat):Int);omega
theorem NE {s:ByteArray} {i:Nat} {R:Int} (h:s.size<=i) (hr:Gp i (ZI ((QF s).drop i))=R): -1=R:=by
 rw[Zu s i h] at hr;exact hr
def NumlPost (w:World) (R:Nat×RR) (e:Ending) (w':World):Prop:=e= .returned (.tuple #[.int .i64 (R.1:Int),.agg #[.int .i64 (nP R.2),.int .i64 (nQ R.2)],.int .i64 (nE R.2:Nat)])/\Below w w w'
theorem G3 {w w':World} {R:Nat×RR} {j c:Nat} (h:R=(j,.error c)) (hb:Below w w w'):NumlPost w R (.returned (.tuple #[.int .i64 (j:Int),.agg #[(0:Int),(0:Int)],.int .i64 (c:Int)])) w':=by subst h;exact⟨rfl,hb⟩
theorem Ek {w w':World} {R:Nat×RR} {j:Nat} {M:RR} (h:R=(j,M)) (hb:Below w w w'):NumlPost w R (.returned (.tuple #[.int .i64 (j:Int),.agg #[.int .i64 (nP M),.int .i64 (nQ M)],.int .i64 (nE M:Nat)])) w':=by subst h;exact⟨rfl,hb⟩
def LongWays (s:ByteArray):Prop:=∃h:2<s.size,
  (((s[0].toNat:Int)==48)=false\/(((s[0].toNat:Int)==48)=true/\((((s[1].toNat:Int)==120)=false/\((s[1].toNat:Int)==88)=false)\/
   (¬KT s[2].toNat<16/\(((s[1].toNat:Int)==120)=true\/(((s[1].toNat:Int)==120)=false/\((s[1].toNat:Int)==88)=true))))))
theorem C7 {s:ByteArray} (hx:Zm (QF s)=false):s.size<=2\/LongWays s:=by
 by_cases h:2<s.size
 ·refine .inr ⟨h,?_⟩;rw[XC h] at hx;have e0:=Zi s[0] 48;have e1:=Zi s[1] 120;have e2:=Zi s[1] 88;have g0:((s[0].toNat:Int)==48)=(s[0].toNat==48):=e0.trans (by rw[Bool.eq_iff_iff,beq_iff_eq,decide_eq_true_eq]);have g1:((s[1].toNat:Int)==120)=(s[1].toNat==120):=e1.trans (by rw[Bool.eq_iff_iff,beq_iff_eq,decide_eq_true_eq]);have g2:((s[1].toNat:Int)==88)=(s[1].toNat==88):=e2.trans (by rw[Bool.eq_iff_iff,beq_iff_eq,decide_eq_true_eq]);rw[g0,g1,g2];unfold Jd at hx;by_cases hd:KT s[2].toNat<16
  ·rw[decide_eq_true hd] at hx;revert hx;cases(s[0].toNat==48)<;>cases(s[1].toNat==120)<;>cases(s[1].toNat==88)<;>simp
  ·revert hx;cases(s[0].toNat==48)<;>cases(s[1].toNat==120)<;>cases(s[1].toNat==88)<;>simp[hd]
 ·exact .inl (by omega)
def NoWays (s:ByteArray) (r:Nat):Prop:=s.size<=r+1\/∃h:r+1<s.size,
  (((s[r].toNat:Int)==46)=false\/(((s[r].toNat:Int)==46)=true/\¬KT s[r+1].toNat<10))
theorem Aq {s:ByteArray} {r:Nat} (h:ZQ (QF s) r=0):NoWays s r:=by
 by_cases hl:r+1<s.size
 ·refine .inr ⟨hl,?_⟩;unfold ZQ at h;rw[Ex (by omega)] at h;have e0:=Zi s[r] 46;by_cases hc:s[r].toNat=46
  ·rw[if_pos (by rw[hc])] at h;exact .inr ⟨e0.trans (decide_eq_true hc),(PQ hl).1 h⟩
  ·exact .inl (e0.trans (decide_eq_false hc))
 ·exact .inl (by omega)
theorem PA (s:ByteArray) (b:Int) (j:Nat) (hb:b=j) (h2:j<=s.size) (w:World):Sem.run prog (Instr.slice 9 (.string s) none (some (.int .i64 b)) none) w= .ok (.string (s.extract 0 j)) w:=by
 subst hb;have g2:(j:Int)<=(s.size:Int):=by omega
 simp[Instr.slice,run_underlying underlying9,Instr.sliceBounds,run_sliceBound,g2]
theorem YO (s:ByteArray) (a:Int) (i:Nat) (ha:a=i) (h1:i<=s.size) (w:World):Sem.run prog (Instr.slice 9 (.string s) (some (.int .i64 a)) none none) w= .ok (.string (s.extract i s.size)) w:=by
 subst ha;have g2:(i:Int)<=(s.size:Int):=by omega
 simp[Instr.slice,run_underlying underlying9,Instr.sliceBounds,run_sliceBound,g2]
theorem Un (s:ByteArray) (k:Nat):QF (s.extract k s.size)=(QF s).drop k:=by
 rw[ZO,List.take_of_length_le];rw[List.length_drop,Qc];exact Nat.le_refl _
theorem DF (s:ByteArray) (k:Nat):(s.extract k s.size).size=s.size-k:=by rw[ByteArray.size_extract];omega
theorem Ap (base:Nat) (hb:1<=base):∀(l:List Nat) (n v:Nat),n<=4611686018427387904->Km base l n=some v->v<=4611686018427387904
 |[],n,v,hn,h=>by unfold Km at h;injection h with h;omega
 |c::r,n,v,hn,h=>by
  unfold Km at h;split at h
  ·cases h
  ·rename_i hc
   refine Ap base hb r _ v ?_ h;have hd:KT c<=99:=Z3 c;have h1:n<=(4611686018427387904-KT c)/base:=by omega
   have h2:=Nat.mul_le_mul_right base h1;have h3:=Nat.div_mul_le_self (4611686018427387904-KT c) base;omega
theorem RS {s:ByteArray} {b:Nat} (_:s.size<=2000000000) (h:Km 10 (QF s) 0=some b):b<=4611686018427387904:=Ap 10 (by decide) _ _ _ (by decide) h
theorem RX:(prog.info? 5).map (fun i=>(i.zero,i.size,i.bytes))=some (some (.int .u8 0),1,1):=by kernel_rfl
def bv (c:UInt8):Value:= .int .u8 (c.toNat:Int)
def FZ (v:Nat) (l:List UInt8):List UInt8:=if v=0/\l≠[] then[] else Lib.decDigits v
def YJ (v:Nat):UInt8:=UInt8.ofNat (48+v%10)
theorem Ml (v:Nat):(YJ v).toNat=48+v%10:=by
 unfold YJ;rw[UInt8.toNat_ofNat'];omega
theorem Y5 {v:Nat} {l:List UInt8} (h:0<v\/l=[]):FZ v l=FZ (v/10) (l++[YJ v])++[YJ v]:=by
 have h1:FZ v l=Lib.decDigits v:=by
  unfold FZ;rw[if_neg];rintro⟨h2,h3⟩;rcases h with h|h
  ·omega
  ·exact h3 h
 rw[h1];unfold FZ;by_cases h10:v<10
 ·rw[if_pos ⟨by omega,by simp⟩,Lib.decDigits,dif_pos h10];show _=[]++[YJ v];unfold YJ;rw[show v%10=v by omega];rfl
 ·rw[if_neg (by omega),Lib.decDigits,dif_neg h10];rfl
theorem AA {l:List UInt8} (h:l≠[]):FZ 0 l=[]:=by unfold FZ;rw[if_pos ⟨rfl,h⟩]
def names36:ByteArray:=⟨#[48,49,50,51,52,53,54,55,56,57,97,98,99,100,101,102,103,104,105,106,107,108,109,110,111,112,113,114,115,116,117,118,119,120,121,122]⟩
theorem At:∀d:Fin 10,∀h:d.val<names36.size,(names36[d.val]).toNat=48+d.val:=by decide
theorem Y7 (v:Nat) (h:v%10<names36.size):Value.int .u8 ((names36[v%10]).toNat:Int)=bv (YJ v):=by
 unfold bv;rw[Ml];have:=At ⟨v%10,by omega⟩ h;exact congrArg (fun n:Nat=>Value.int .u8 (n:Int)) this
theorem Y4 {w:World} {base:Nat} (h:base<=w):(w.alloc (.cells #[] 5)).ownsRow base 5 1 (.slice (some w) 0 0) 0 []:=
 ⟨rfl,.inr ⟨w.heap.size,0,#[],rfl,h,Qg _ _,Nat.le_refl _,by unfold maxLen;omega,rfl,rfl⟩⟩
def Aw (v:Nat) (l:List UInt8):Nat:=v+(if l=[] then 1 else 0)
theorem Y8 {v:Nat} {l:List UInt8} (h:0<v\/l=[]):Aw (v/10) (l++[YJ v])<Aw v l:=by
 unfold Aw;rw[if_neg (by simp)];rcases h with h|h
 ·split<;>omega
 ·rw[if_pos h];omega
theorem Bj {n:Int} (h0:n<0) (hn: -9223372036854775807<=n):IntKind.u64.wrap (-IntKind.u64.wrap n)=(n.natAbs:Int):=by
 show(-(n%18446744073709551616))%18446744073709551616=_;omega
theorem KY {w:World} {base g cap:Nat} {l:List UInt8} {c:UInt8} {x:Value} (hx:x=bv c) (h:w.ownsRow base 5 1 (.slice (some g) (l.length+1) cap) (l.length+1) (l.map bv++[x])):
  w.ownsRow base 5 1 (.slice (some g) (l++[c]).length cap) (l++[c]).length ((l++[c]).map bv):=by
 subst hx;rw[List.map_append,List.length_append];exact h
theorem PY {l o:List UInt8} {i:Nat} (hi:l.length=o.length+1+i) (h:o=l.reverse.take o.length) (hl:i<l.length):o++[l[i]]=l.reverse.take (o++[l[i]]).length:=by
 have h1:o.length<l.reverse.length:=by rw[List.length_reverse];omega
 rw[List.length_append,List.length_singleton,List.take_succ_eq_append_getElem h1,<-h,List.getElem_reverse]
 congr 3
 omega
theorem Y9 {v N:Nat} {l U:List UInt8} (hU:U.length<=19) (_:v<=N) (h:FZ (v/10) l++l.reverse=U):l.length<=19:=by
 rw[<-h,List.length_append,List.length_reverse] at hU;omega
def Fa (a b:N2):Nat:=if QT a&&QT b then(if b.1=0 then 7 else 0) else 2
theorem Tt {a b:N2} {X:RR} (h:Fa a b≠0):YI a b (if b.1*a.2=0 then .error 7 else X)= .error (Fa a b):=by
 unfold YI Fa at*;cases hv:QT a with
 |false=>rfl
 |true=>
  cases hv2:QT b with
  |false=>rfl
  |true=>
   rw[hv,hv2] at h;by_cases hz:b.1=0
   ·rw[if_pos hz,hz,Int.zero_mul];rfl
   ·rw[if_neg hz] at h;exact absurd rfl h
theorem LR {a b:N2} (h:Fa a b=0):QT a=true/\QT b=true/\b.1≠0/\∀X:RR,YI a b (if b.1*a.2=0 then .error 7 else X)=X:=by
 unfold Fa at h;cases hv:QT a with
 |false=>rw[hv] at h;cases h
 |true=>
  cases hv2:QT b with
  |false=>rw[hv,hv2] at h;cases h
  |true=>
   rw[hv,hv2] at h;have hz:b.1≠0:=fun e=>by rw[e] at h;cases h
   have hb:=QO hv;refine⟨rfl,rfl,hz,fun X=> ?_⟩;unfold YI;rw[hv,hv2,if_neg (show¬b.1*a.2=0 from Int.mul_ne_zero hz (by omega))];rfl
theorem Tx {a b:ByteArray} {i:Nat} {R:Bool} (h1:i<a.size) (h2:i<b.size) (h:Jw ((QF a).drop i) ((QF b).drop i)=R):
  (a[i].toNat=b[i].toNat->Jw ((QF a).drop (i+1)) ((QF b).drop (i+1))=R)/\(a[i].toNat≠b[i].toNat->decide (a[i].toNat<b[i].toNat)=R):=by
 rw[Q3 a i h1,Q3 b i h2] at h;unfold Jw at h;refine⟨fun hc=> ?_,fun hc=> ?_⟩
 ·rw[if_pos hc] at h;exact h
 ·rw[if_neg hc] at h;exact h
theorem Xt {a b:ByteArray} {i:Nat} {R:Bool} (he:a.size<=i\/b.size<=i) (h1:i<=a.size) (h2:i<=b.size) (h:Jw ((QF a).drop i) ((QF b).drop i)=R):decide (a.size<b.size)=R:=by
 by_cases hb:b.size<=i
 ·rw[Zu b i hb] at h;have:Jw ((QF a).drop i) []=false:=by unfold Jw;cases(QF a).drop i<;>rfl
  rw[<-h,this,decide_eq_false_iff_not];omega
 ·have ha:a.size<=i:=by omega
  rw[Zu a i ha,Q3 b i (by omega)] at h;rw[<-h];show _=true;rw[decide_eq_true_eq];omega
theorem C1 {L:List Sl} {k:V} {i:Nat} {s:Sl} (h:L.findIdx? (Sl.hit k)=some i) (hs:L[i]? =some s):FQ L k=s.v:=by
 unfold FQ;have:L.find? (Sl.hit k)=some s:=by
  rw[List.find?_eq_bind_findIdx?_getElem?,h];exact hs
 rw[this]
theorem FP {L:List Sl} {k:V} (h:L.findIdx? (Sl.hit k)=none):FQ L k=V.nil:=by
 unfold FQ;have:L.find? (Sl.hit k)=none:=by
  rw[List.find?_eq_bind_findIdx?_getElem?,h];rfl
 rw[this]
theorem De {H:List RO} {v:V} (hm:(Jt (rlh H) v).k≠4) (s:ByteArray):ZN (rlh H) v s=V.nil:=by
 unfold ZN UP;rw[Jl];cases hf:Zp H (Jt (rlh H) v) with
 |none=>rfl
 |some x=>
  obtain⟨i,hi,hk,hri,hxm⟩:=Jg hf;show vV (if x.kind=4 then _ else .error 8)=V.nil;rw[if_neg (by omega)];rfl
theorem Nq {w:World} {h:Nat} {av uv:Value} {H:List RO} (hH:RHpAt w h av uv H) {v:V} (h4:v.k≠4) (h8:v.k≠8):(Jt (rlh H) v).k≠4:=by
 unfold Jt;rw[Jl];cases hf:Zp H v with
 |none=>show(0:Int)≠4;decide
 |some x=>
  obtain⟨i,hi,hk,hri,hxm⟩:=Jg hf;have hxo:=hH.one x hxm;have:=hxo.kd;show x.mt.k≠4;rw[(hxo.fm (by omega)).1];show(0:Int)≠4;decide
theorem Bl (w:World) (s:ByteArray) (hs:s.size<=2000000000):Calls prog 159 #[s] w (TrimPost w (Ys (QF s))):=by
 obtain⟨D,hD⟩:∃D,((QF s).drop 0).dropWhile ZX=D:=⟨_,rfl⟩
 obtain⟨T,hT⟩:∃T,T=(D.reverse.dropWhile ZX).reverse:=⟨_,rfl⟩
 rw[show Ys (QF s)=T from by rw[hT,<-hD];rfl];have HD0:=zh hD;have HT:=zh hT;clear hD hT;go_enter func159,ntmps159;go_wp2
 go_loopg [3] s.size (fun gg v wr=>∃i:Nat,gg=s.size-i/\v= .int .i64 (i:Int)/\w=wr/\i<=s.size/\Hid (((QF s).drop i).dropWhile ZX=D))
 case atStart=>exact⟨0,rfl,rfl,rfl,Nat.zero_le _,HD0⟩
 case round=>
  obtain⟨i,rfl,rfl,rfl,hi,HI⟩:=hrel;by_cases hlt:i<s.size
  ·have hst:=LQ hlt HI.out;have HB:=zh (PG w s[i].toNat);cases hb:ZX s[i].toNat with
   |true=>
    have HN:=zh (hst.1 hb);have HBB:=zh hb;clear hst hb;go_wp2_with fail
    refine HB.out.mono ?_;rw[HBB.out];rintro e w1 ⟨rfl,rfl⟩;go_wp2
    go_roundg (s.size-(i+1))
    case measure=>omega
    case rel=>exact⟨i+1,rfl,rfl,rfl,by omega,HN⟩
   |false=>
    have HC:=zh (FX (hst.2 hb) HT.out);have HBB:=zh hb;clear hst hb;go_wp2_with fail
    refine HB.out.mono ?_;rw[HBB.out];rintro e w1 ⟨rfl,rfl⟩;go_wp2;clear HB HBB
    go_loopg [4] (s.size-i) (fun gg v wr=>∃e:Nat,gg=e-i/\v= .int .i64 (e:Int)/\w=wr/\i<=e/\e<=s.size/\Hid (Yp s i e=T))
    case atStart=>exact⟨s.size,rfl,rfl,rfl,hi,Nat.le_refl _,HC⟩
    case round=>
     obtain⟨e,rfl,rfl,rfl,he1,he2,HE⟩:=hrel;by_cases hle:i<e
     ·have he3:e-1<s.size:=by omega
      have hst:=C8 hle he2 he3 HE.out;have HB:=zh (PG w s[e-1].toNat);cases hb:ZX s[e-1].toNat with
      |true=>
       have HN:=zh (hst.1 hb);have HBB:=zh hb;clear hst hb;go_wp2_with fail
       refine HB.out.mono ?_;rw[HBB.out];rintro e w1 ⟨rfl,rfl⟩;go_wp2
       go_roundg (e-1-i)
       case measure=>omega
       case rel=>exact⟨e-1,rfl,by congr;omega,rfl,by omega,by omega,HN⟩
      |false=>
       have HN:=zh (hst.2 hb);have HBB:=zh hb;have hsl:=ZD s (i:Int) (e:Int) i e rfl rfl (by omega) he2;clear hst hb;go_wp2_with fail
       refine HB.out.mono ?_;rw[HBB.out];rintro e w1 ⟨rfl,rfl⟩;go_wp2
       go_ret
       exact⟨⟨_,rfl,HN.out⟩,Below.refl _ _⟩
     ·have hee:e=i:=by omega
      subst hee;have HN:=zh (P4 HE.out);have hsl:=ZD s (e:Int) (e:Int) e e rfl rfl zl he2;go_wp2
      go_ret
      exact⟨⟨_,rfl,HN.out⟩,Below.refl _ _⟩
  ·have hee:i=s.size:=by omega
   have HC:=zh (FX (LP (by omega) HI.out) HT.out);subst hee;have HN:=zh (P4 HC.out);have hsl:=ZD s (s.size:Int) (s.size:Int) s.size s.size rfl rfl zl zl;go_wp2
   go_loopg [4] 0 (fun gg v wr=>v= .int .i64 (s.size:Int)/\w=wr)
   case atStart=>exact⟨rfl,rfl⟩
   case round=>
    obtain⟨rfl,rfl⟩:=hrel;go_wp2
    go_ret
    exact⟨⟨_,rfl,HN.out⟩,Below.refl _ _⟩
theorem Lj (w:World) (s:ByteArray) (hs:s.size<=2000000000):
  Calls prog 216 #[s] w fun e w'=>e= .returned (.int .i64 (Gp 0 (ZI (QF s))))/\w=w':=by
 obtain⟨R,hR⟩:∃R,Gp 0 (ZI ((QF s).drop 0))=R:=⟨_,rfl⟩
 rw[show Gp 0 (ZI (QF s))=R from hR];have HR0:=zh hR;clear hR;go_enter func216,ntmps216;go_wp2
 go_loopg [3] s.size (fun gg v wr=>∃i:Nat,gg=s.size-i/\v= .int .i64 (i:Int)/\w=wr/\i<=s.size/\Hid (Gp i (ZI ((QF s).drop i))=R))
 case atStart=>exact⟨0,rfl,rfl,rfl,Nat.zero_le _,HR0⟩
 case round=>
  obtain⟨i,rfl,rfl,rfl,hi,HI⟩:=hrel;by_cases hlt:i<s.size
  ·have hst:=NF hlt HI.out;by_cases hc:s[i].toNat=47
   ·have HN:=zh (hst.1 hc);have hcc:((s[i].toNat:Int)==47)=true:=by rw[beq_iff_eq];omega
    clear hst hc;go_wp2
    go_ret
    exact⟨ZB HN.out,rfl⟩
   ·have HN:=zh (hst.2 hc);have hcc:((s[i].toNat:Int)==47)=false:=by rw[beq_eq_false_iff_ne];omega
    clear hst hc;go_wp2
    go_roundg (s.size-(i+1))
    case measure=>omega
    case rel=>exact⟨i+1,rfl,rfl,rfl,by omega,HN⟩
  ·have HN:=zh (NE (by omega) HI.out);go_wp2
   go_ret
   exact⟨ZB HN.out,rfl⟩
theorem UV (w:World) (n:Nat) (hn:n<=9):
  Calls prog 243 #[.int .i64 n] w fun e w'=>e= .returned (.int .i64 ((10^n:Nat):Int))/\w=w':=by
 obtain⟨R,hR⟩:∃R,10^n=R:=⟨_,rfl⟩
 rw[hR];have HR:=zh hR;clear hR;go_enter func243,ntmps243;go_wp2
 go_loopg [3,4] n (fun gg vp v wr=>∃i p:Nat,gg=n-i/\vp= .int .i64 (p:Int)/\v= .int .i64 (i:Int)/\w=wr/\i<=n/\p<=1000000000/\Hid (p=10^i))
 case atStart=>exact⟨0,1,rfl,rfl,rfl,rfl,Nat.zero_le _,by decide,zh rfl⟩
 case round=>
  obtain⟨i,p,rfl,rfl,rfl,rfl,hi,hp,HP⟩:=hrel;by_cases hlt:i<n
  ·have HN:=zh (show p*10=10^(i+1) from by rw[HP.out,Nat.pow_succ]);have hp2:p*10<=1000000000:=by rw[HN.out];exact Pg (by omega)
   go_wp2
   go_roundg (n-(i+1))
   case measure=>omega
   case rel=>exact⟨i+1,p*10,rfl,(by push_cast;rfl),rfl,rfl,by omega,hp2,HN⟩
  ·have he:i=n:=by omega
   subst he;have HN:=zh (show((p:Nat):Int)=(R:Int) from by rw[HP.out,HR.out]);go_wp2
   go_ret
   exact⟨ZB HN.out,rfl⟩
theorem OJ (w:World) (s:ByteArray) (hs:s.size<=2000000000):
  Calls prog 218 #[s] w fun e w'=>e= .returned (.bool (JA (QF s)))/\w=w':=by
 by_cases h0:s.size=0
 ·have HR:=zh (Um h0);have hnil:=K5 h0;go_enter func218,ntmps218;go_wp2
  go_ret
  exact⟨Zw HR.out.symm,rfl⟩
 ·have HR:=zh (Yc (s:=s) (by omega));have hne:=Gf (p:=s) (by omega);have HC:=zh (M9 w s hs 0 (by omega) 10 (.inl rfl));have HC2:=zh (show 0+ZT 10 ((QF s).drop 0)=ZT 10 (QF s) from by rw[Nat.zero_add];rfl);have hle:=JH 10 (QF s);rw[Qc] at hle;obtain⟨r,hr⟩:∃r,ZT 10 (QF s)=r:=⟨_,rfl⟩
  rw[hr] at hle HR HC2;clear hr;by_cases hd:r=s.size
  ·have e1:(!s.toList.isEmpty)=true:=by simpa using hne
   have HR2:=zh (show JA (QF s)=(!s.toList.isEmpty) from by rw[HR.out,e1];exact decide_eq_true hd);clear e1;have hdd:((r:Int)==(s.size:Int))=true:=by rw[beq_iff_eq];omega
   clear hd;go_enter func218,ntmps218;go_wp2_with fail
   refine HC.out.mono ?_;rw[HC2.out];rintro e w1 ⟨rfl,rfl⟩;go_wp2
   go_ret
   exact⟨Zw HR2.out.symm,rfl⟩
  ·have HR2:=zh (show JA (QF s)=false from by rw[HR.out];exact decide_eq_false hd);have hdd:((r:Int)==(s.size:Int))=false:=by rw[beq_eq_false_iff_ne];omega
   clear hd;go_enter func218,ntmps218;go_wp2_with fail
   refine HC.out.mono ?_;rw[HC2.out];rintro e w1 ⟨rfl,rfl⟩;go_wp2
   go_ret
   exact⟨Zw HR2.out.symm,rfl⟩
theorem Rl (w:World) (s:ByteArray) (R:Nat×RR) (hs:s.size<=2000000000) (hF:s.size<=2\/LongWays s)
  (hrun:RunsTo s 0 (0:Nat)) (hR:R=(0,.error 4)):Calls prog 217 #[s,(0:Int)] w (NumlPost w R):=by
 have HB:=zh (((Below.refl w.heap.size w).alloc zl (o2 0 0)));have HRUN:=zh hrun;have HR:=zh hR;clear hrun hR;rcases hF with hF|⟨hl,hF|⟨hF,⟨hF2,hF3⟩|⟨hF2,hF3|⟨hF3,hF4⟩⟩⟩⟩;all_goals
  try have hd99:=Z3 s[2].toNat
  go_enter func217,ntmps217;go_wp2_with (first|(go_at_call 241;refine(Z9 _ _ (Ge _)).mono ?_;rintro e w' ⟨rfl,rfl⟩)|(go_at_call 242;refine(HRUN.out _).mono ?_;rintro e w' ⟨rfl,rfl⟩))
  all_goals
   refine zr (by simp[results,results217,go_sem]<;>rfl) ?_;exact G3 HR.out HB.out
theorem Rk (w:World) (s:ByteArray) (r:Nat) (R:Nat×RR) (hs:s.size<=2000000000) (hF:s.size<=2\/LongWays s) (hP:NoWays s r)
  (h0:¬r=0) (hr1:r<=s.size) (hrun:RunsTo s 0 r) (hnum:NumTo (s.extract 0 r) 0 false) (hR:R=(r,.error 6)):Calls prog 217 #[s,(0:Int)] w (NumlPost w R):=by
 have HB:=zh (((Below.refl w.heap.size w).alloc zl (o2 0 0)));have hsl:=ZD s 0 (r:Int) 0 r rfl rfl (by omega) hr1;have HRUN:=zh hrun;have HR:=zh hR;have HNUM:=zh hnum;clear hrun hR hnum;rcases hP with hP|⟨hP,hP2|⟨hP2,hP3⟩⟩;all_goals
  try have hdp:=Z3 s[r+1].toNat
  rcases hF with hF|⟨hl,hF|⟨hF,⟨hF2,hF3⟩|⟨hF2,hF3|⟨hF3,hF4⟩⟩⟩⟩;all_goals
   try have hd99:=Z3 s[2].toNat
   go_enter func217,ntmps217;go_wp2_with (first|(go_at_call 241;refine(Z9 _ _ (Ge _)).mono ?_;rintro e w' ⟨rfl,rfl⟩)|(go_at_call 242;refine(HRUN.out _).mono ?_;rintro e w' ⟨rfl,rfl⟩)|(go_at_call 219;refine(HNUM.out _).mono ?_;rintro e w' ⟨rfl,rfl⟩))
   all_goals
    refine zr (by simp[results,results217,go_sem]<;>rfl) ?_;exact G3 HR.out HB.out
theorem Ri (w:World) (s X:ByteArray) (r e:Nat) (R:Nat×RR) (hs:s.size<=2000000000) (hF:LongWays s)
  (h0:¬r=0) (hr1:r<=s.size) (he1:r+1<=e) (he2:e<=s.size) (hrun:RunsTo s 0 r) (hrun1:RunsTo s ((r:Int)+1) e)
  (hl1:r+1<s.size) (hp1:((s[r].toNat:Int)==46)=true) (hp2:KT s[r+1].toNat<10)
  (had:∀W,(Op.stringOp .add (s.extract 0 r) (s.extract (r+1) e)).run prog W= .ok (.string X) W)
  (hnum:NumTo X 0 false) (hR:R=(e,.error 6)):Calls prog 217 #[s,(0:Int)] w (NumlPost w R):=by
 have HB:=zh (((Below.refl w.heap.size w).alloc zl (o2 0 0)));have hsl:=ZD s 0 (r:Int) 0 r rfl rfl (by omega) hr1;have hsl2:=ZD s ((r:Int)+1) (e:Int) (r+1) e (by omega) rfl (by omega) (by omega);have HRUN:=zh hrun;have HRUN1:=zh hrun1;have HR:=zh hR;have HNUM:=zh hnum;have hdp:=Z3 s[r+1].toNat;clear hrun hrun1 hR hnum;obtain⟨hl,hF|⟨hF,⟨hF2,hF3⟩|⟨hF2,hF3|⟨hF3,hF4⟩⟩⟩⟩:=hF;all_goals
  try have hd99:=Z3 s[2].toNat
  go_enter func217,ntmps217;go_wp2_with (first|(go_at_call 241;refine(Z9 _ _ (Ge _)).mono ?_;rintro e w' ⟨rfl,rfl⟩))
  refine(HRUN.out _).mono ?_;rintro e w' ⟨rfl,rfl⟩;go_wp2_with (first|(go_at_call 241;refine(Z9 _ _ (Ge _)).mono ?_;rintro e w' ⟨rfl,rfl⟩))
  refine(HRUN1.out _).mono ?_;rintro e w' ⟨rfl,rfl⟩;go_wp2_with (first|(go_at_call 219;refine(HNUM.out _).mono ?_;rintro e w' ⟨rfl,rfl⟩))
  refine zr (by simp[results,results217,go_sem]<;>rfl) ?_;exact G3 HR.out HB.out
theorem RT (w:World) (s X:ByteArray) (r e n:Nat) (R:Nat×RR) (hs:s.size<=2000000000) (hF:LongWays s)
  (h0:¬r=0) (hr1:r<=s.size) (he1:r+1<=e) (he2:e<=s.size) (hrun:RunsTo s 0 r) (hrun1:RunsTo s ((r:Int)+1) e)
  (hl1:r+1<s.size) (hp1:((s[r].toNat:Int)==46)=true) (hp2:KT s[r+1].toNat<10)
  (had:∀W,(Op.stringOp .add (s.extract 0 r) (s.extract (r+1) e)).run prog W= .ok (.string X) W)
  (h9:9<(e:Int)-((r:Int)+1)) (hnum:NumTo X n true) (hR:R=(e,.error 6)):Calls prog 217 #[s,(0:Int)] w (NumlPost w R):=by
 have HB:=zh (((Below.refl w.heap.size w).alloc zl (o2 0 0)));have hsl:=ZD s 0 (r:Int) 0 r rfl rfl (by omega) hr1;have hsl2:=ZD s ((r:Int)+1) (e:Int) (r+1) e (by omega) rfl (by omega) (by omega);have HRUN:=zh hrun;have HRUN1:=zh hrun1;have HR:=zh hR;have HNUM:=zh hnum;have hdp:=Z3 s[r+1].toNat;clear hrun hrun1 hR hnum;obtain⟨hl,hF|⟨hF,⟨hF2,hF3⟩|⟨hF2,hF3|⟨hF3,hF4⟩⟩⟩⟩:=hF;all_goals
  try have hd99:=Z3 s[2].toNat
  go_enter func217,ntmps217;go_wp2_with (first|(go_at_call 241;refine(Z9 _ _ (Ge _)).mono ?_;rintro e w' ⟨rfl,rfl⟩))
  refine(HRUN.out _).mono ?_;rintro e w' ⟨rfl,rfl⟩;go_wp2_with (first|(go_at_call 241;refine(Z9 _ _ (Ge _)).mono ?_;rintro e w' ⟨rfl,rfl⟩))
  refine(HRUN1.out _).mono ?_;rintro e w' ⟨rfl,rfl⟩;go_wp2_with (first|(go_at_call 219;refine(HNUM.out _).mono ?_;rintro e w' ⟨rfl,rfl⟩))
  refine zr (by simp[results,results217,go_sem]<;>rfl) ?_;exact G3 HR.out HB.out
theorem ON (w:World) (n:Int) (N:Nat) (U:List UInt8) (hw:n=N) (hN:(N:Int)<=9223372036854775807) (hlen:U.length<=19) (hU:Lib.decDigits N=U):
  Calls prog 240 #[n,.int .i64 10] w (fun e w'=>e= .returned (.tuple #[.string ⟨(U).toArray⟩,.int .i64 0])/\Below w w w'):=by
 have HW:=zh hw;have HL:=zh hlen;have HU:=zh hU;clear hU hlen;subst hw;obtain⟨i5,hi5,hz50,hz51,hz52⟩:=info_parts RX;go_enter func240,ntmps240;go_wp2
 go_loopg [6,8] (Aw N []) (fun gg vu vl wr=>∃(v:Nat) (l:List UInt8) (g cap:Nat),gg=Aw v l/\vu= .int .u64 (v:Int)/\vl= .slice (some g) l.length cap/\v<=N/\l.length<=19/\Below w w wr/\wr.ownsRow w.heap.size 5 1 (.slice (some g) l.length cap) l.length (l.map bv)/\Hid (FZ v l++l.reverse=U))
 case atStart=>
  refine⟨N,[],w.heap.size,0,rfl,?_,rfl,Nat.le_refl _,Nat.zero_le _,(Below.refl _ _).alloc zl _,Y4 zl,?_⟩
  ·rfl
  ·exact zh (by rw[List.reverse_nil,List.append_nil];unfold FZ;rw[if_neg (by simp)];exact HU.out)
 case round=>
  obtain⟨v,l,g,cap,rfl,rfl,rfl,hv,hll,hb,hown,HI⟩:=hrel;have HB:=zh hb;have HO:=zh hown;have hsz:=hb.size;clear hb hown;have hcase:(0<v/\Hid (0<v\/l=[]))\/((¬0<v/\((l.length:Int)==0)=true)/\Hid (0<v\/l=[]))\/(¬0<v/\((l.length:Int)==0)=false/\Hid (v=0/\l≠[])):=by
   rcases Nat.eq_zero_or_pos v with h|h
   ·cases l with
    |nil=>exact .inr (.inl ⟨⟨by omega,rfl⟩,zh (.inr rfl)⟩)
    |cons _ _=>exact .inr (.inr ⟨by omega,by rw[beq_eq_false_iff_ne];simp;omega,zh ⟨h,by simp⟩⟩)
   ·exact .inl ⟨h,zh (.inl h)⟩
  rcases hcase with⟨hc,HC⟩|⟨⟨hc,hc2⟩,HC⟩|⟨hc,hc2,HC⟩
  ·have HN:=zh (show FZ (v/10) (l++[YJ v])++(l++[YJ v]).reverse=U from by rw[List.reverse_append,List.reverse_singleton,<-List.append_assoc,<-Y5 HC.out];exact HI.out);have hlen2:(l++[YJ v]).length<=19:=Y9 HL.out hv HN.out;have HM:=zh (Y8 HC.out);rw[List.length_append,List.length_singleton] at hlen2;clear HI;go_wp2_with (at_builtin;refine wpList_append_own_at _ rfl (.tmp 31) (.tmp 38) 205 rfl w.heap.size 5 i5 _ 1 1 underlying205 hi5 hz50 hz51 hz52 rfl (by decide) (.slice (some g) l.length cap) l.length (l.map bv) rfl ?_ ⟨_,0,none⟩ 1 1 [_] rfl rfl (Zt _ _ _ _ (by simp)) ?_ ?_ ?_ ?_ ?_)
   ·exact QR (QV ((Below.refl _ _).alloc zl _) zl) HO.out
   ·first|rfl|(intro u hu;simp only[List.mem_singleton] at hu;subst hu;rfl)
   ·first|(unfold maxLen;omega)|(unfold maxLen;simp;omega)|(unfold maxLen;simp)
   ·first|omega|(simp;omega)|simp
   ·first|(simp;omega)|omega|simp
   ·intro v' w2 hown hgrow _ hat';obtain⟨g',cap',rfl⟩:=Qh hown (by omega);have HB2:=zh ((HB.out.alloc hsz (.cells #[_] 5)).grown hgrow (by simp;omega) (fun k hk=>by injection hk with hk;subst hk;exact(QS HO.out rfl).1));have HO2:=zh (KY (Y7 v (show v%10<36 by omega)) hown);clear hown hgrow hat';go_wp2
    go_roundg (Aw (v/10) (l++[YJ v]))
    case measure=>exact HM.out
    case rel=>exact⟨v/10,l++[YJ v],g',cap',rfl,(by push_cast;rfl),(by simp),by omega,by simp;omega,HB2.out,HO2.out,HN⟩
  ·have HN:=zh (show FZ (v/10) (l++[YJ v])++(l++[YJ v]).reverse=U from by rw[List.reverse_append,List.reverse_singleton,<-List.append_assoc,<-Y5 HC.out];exact HI.out);have hlen2:(l++[YJ v]).length<=19:=Y9 HL.out hv HN.out;have HM:=zh (Y8 HC.out);rw[List.length_append,List.length_singleton] at hlen2;clear HI;go_wp2_with (at_builtin;refine wpList_append_own_at _ rfl (.tmp 31) (.tmp 38) 205 rfl w.heap.size 5 i5 _ 1 1 underlying205 hi5 hz50 hz51 hz52 rfl (by decide) (.slice (some g) l.length cap) l.length (l.map bv) rfl ?_ ⟨_,0,none⟩ 1 1 [_] rfl rfl (Zt _ _ _ _ (by simp)) ?_ ?_ ?_ ?_ ?_)
   ·exact QR (QV ((Below.refl _ _).alloc zl _) zl) HO.out
   ·first|rfl|(intro u hu;simp only[List.mem_singleton] at hu;subst hu;rfl)
   ·first|(unfold maxLen;omega)|(unfold maxLen;simp;omega)|(unfold maxLen;simp)
   ·first|omega|(simp;omega)|simp
   ·first|(simp;omega)|omega|simp
   ·intro v' w2 hown hgrow _ hat';obtain⟨g',cap',rfl⟩:=Qh hown (by omega);have HB2:=zh ((HB.out.alloc hsz (.cells #[_] 5)).grown hgrow (by simp;omega) (fun k hk=>by injection hk with hk;subst hk;exact(QS HO.out rfl).1));have HO2:=zh (KY (Y7 v (show v%10<36 by omega)) hown);clear hown hgrow hat';go_wp2
    go_roundg (Aw (v/10) (l++[YJ v]))
    case measure=>exact HM.out
    case rel=>exact⟨v/10,l++[YJ v],g',cap',rfl,(by push_cast;rfl),(by simp),by omega,by simp;omega,HB2.out,HO2.out,HN⟩
  ·have HX:=zh (show l.reverse=U from by rw[<-HI.out,HC.out.1,AA HC.out.2];rfl);clear HI HC;obtain⟨W1,hW1⟩:∃W1,W1=wr:=⟨_,rfl⟩
   subst hW1;have HN0:=zh (Y4 (w:=W1) (Nat.le_refl W1.heap.size));go_wp2
   go_loopg [9,10] l.length (fun gg vo vi wr=>∃(o:List UInt8) (g2 cap2:Nat) (x:Int),gg=l.length-o.length/\vo= .slice (some g2) o.length cap2/\vi= .int .i64 x/\x=(l.length:Int)-1-(o.length:Int)/\o.length<=l.length/\Below W1 W1 wr/\wr.ownsRow W1.heap.size 5 1 (.slice (some g2) o.length cap2) o.length (o.map bv)/\Hid (o=l.reverse.take o.length))
   case atStart=>exact⟨[],W1.heap.size,0,(l.length:Int)-1,rfl,rfl,rfl,(by simp),Nat.zero_le _,(Below.refl _ _).alloc zl _,HN0.out,zh rfl⟩
   case round=>
    obtain⟨o,g2,cap2,x,rfl,rfl,rfl,hx,hol,hb2,hown2,HO2⟩:=hrel;have hsz2:=hb2.size;have HB2:=zh hb2;have HR2:=zh hown2;have HR:=zh (QR (QV hb2 zl) HO.out);clear hb2 hown2;by_cases hlt:o.length<l.length
    ·obtain⟨i,hi⟩:∃i,l.length=o.length+1+i:=⟨l.length-o.length-1,by omega⟩
     have hxi:x=(i:Int):=by omega
     subst hxi;have hil:i<l.length:=by omega
     have hil2:i<l.length:=hil;obtain⟨c,hc0⟩:∃c,l[i]=c:=⟨_,rfl⟩
     have hcell:wr.cell? ⟨g,i,none⟩=some (.int .u8 (c.toNat:Int)):=by
      rw[HR.out.cellAt i (by omega),List.getElem?_map,List.getElem?_eq_getElem hil2,hc0];rfl
     have HN2:=zh (PY hi HO2.out hil2);rw[hc0] at HN2;clear hil2 hc0;have HI2:=zh hi;clear HO2 hx hi;go_wp2_with (at_builtin;refine wpList_append_own_at _ rfl (.tmp 57) (.tmp 62) 205 rfl W1.heap.size 5 i5 _ 1 1 underlying205 hi5 hz50 hz51 hz52 rfl (by decide) (.slice (some g2) o.length cap2) o.length (o.map bv) rfl ?_ ⟨_,0,none⟩ 1 1 [_] rfl rfl (Zt _ _ _ _ (by simp)) ?_ ?_ ?_ ?_ ?_)
     ·exact QR (QV ((Below.refl _ _).alloc zl _) zl) HR2.out
     ·first|rfl|(intro u hu;simp only[List.mem_singleton] at hu;subst hu;rfl)
     ·first|(unfold maxLen;omega)|(unfold maxLen;simp;omega)|(unfold maxLen;simp)
     ·first|omega|(simp;omega)|simp
     ·first|(simp;omega)|omega|simp
     ·intro v' w2 hown hgrow _ hat';obtain⟨g',cap',rfl⟩:=Qh hown (by omega);have HB3:=zh ((HB2.out.alloc hsz2 (.cells #[_] 5)).grown hgrow (by simp;omega) (fun k hk=>by injection hk with hk;subst hk;exact(QS HR2.out rfl).1));have HO3:=zh (KY (c:=c) rfl hown);clear hown hgrow hat';go_wp2;have hi:=HI2.out
      go_roundg (l.length-(o.length+1))
      case measure=>omega
      case rel=>exact⟨o++[c],g',cap',_,(by simp),(by simp),rfl,(by simp;omega),(by simp;omega),HB3.out,HO3.out,HN2⟩
    ·have hxm:x= -1:=by omega
     subst hxm;have hoU:o=U:=by rw[<-HX.out];have h1:=HO2.out;rw[h1];exact List.take_of_length_le (by rw[List.length_reverse];omega)
     have HOU:=zh hoU;clear hoU;have hconv:=run_convert_bytes_back wr 205 9 5 ⟨g2,0,none⟩ cap2 o underlying205 underlying5 underlying9 (fun j hj=>by
      rw[show(⟨g2,0,none⟩:Addr).add j=⟨g2,j,none⟩ from by unfold Addr.add;split<;>simp_all,HR2.out.cellAt j (by omega),List.getElem?_map,List.getElem?_eq_getElem hj];rfl)
     go_wp2
     go_ret2
     exact⟨by have h:=HOU.out;subst h;rfl,HB.out.trans (HB2.out.mono hsz)⟩
theorem OO (w:World) (n:Int) (N:Nat) (U:List UInt8) (hw:IntKind.u64.wrap (-IntKind.u64.wrap n)=(N:Int)) (hN:(N:Int)<=9223372036854775807) (hlen:U.length<=19) (hU:Lib.decDigits N=U) (hn:n<0):
  Calls prog 240 #[n,.int .i64 10] w (fun e w'=>e= .returned (.tuple #[.string ⟨(45::U).toArray⟩,.int .i64 0])/\Below w w w'):=by
 have HW:=zh hw;have HL:=zh hlen;have HU:=zh hU;clear hU hw hlen;obtain⟨i5,hi5,hz50,hz51,hz52⟩:=info_parts RX;go_enter func240,ntmps240;go_wp2
 go_loopg [6,8] (Aw N []) (fun gg vu vl wr=>∃(v:Nat) (l:List UInt8) (g cap:Nat),gg=Aw v l/\vu= .int .u64 (v:Int)/\vl= .slice (some g) l.length cap/\v<=N/\l.length<=19/\Below w w wr/\wr.ownsRow w.heap.size 5 1 (.slice (some g) l.length cap) l.length (l.map bv)/\Hid (FZ v l++l.reverse=U))
 case atStart=>
  refine⟨N,[],w.heap.size,0,rfl,?_,rfl,Nat.le_refl _,Nat.zero_le _,(Below.refl _ _).alloc zl _,Y4 zl,?_⟩
  ·first|rfl|(rw[HW.out])
  ·exact zh (by rw[List.reverse_nil,List.append_nil];unfold FZ;rw[if_neg (by simp)];exact HU.out)
 case round=>
  obtain⟨v,l,g,cap,rfl,rfl,rfl,hv,hll,hb,hown,HI⟩:=hrel;have HB:=zh hb;have HO:=zh hown;have hsz:=hb.size;clear hb hown;have hcase:(0<v/\Hid (0<v\/l=[]))\/((¬0<v/\((l.length:Int)==0)=true)/\Hid (0<v\/l=[]))\/(¬0<v/\((l.length:Int)==0)=false/\Hid (v=0/\l≠[])):=by
   rcases Nat.eq_zero_or_pos v with h|h
   ·cases l with
    |nil=>exact .inr (.inl ⟨⟨by omega,rfl⟩,zh (.inr rfl)⟩)
    |cons _ _=>exact .inr (.inr ⟨by omega,by rw[beq_eq_false_iff_ne];simp;omega,zh ⟨h,by simp⟩⟩)
   ·exact .inl ⟨h,zh (.inl h)⟩
  rcases hcase with⟨hc,HC⟩|⟨⟨hc,hc2⟩,HC⟩|⟨hc,hc2,HC⟩
  ·have HN:=zh (show FZ (v/10) (l++[YJ v])++(l++[YJ v]).reverse=U from by rw[List.reverse_append,List.reverse_singleton,<-List.append_assoc,<-Y5 HC.out];exact HI.out);have hlen2:(l++[YJ v]).length<=19:=Y9 HL.out hv HN.out;have HM:=zh (Y8 HC.out);rw[List.length_append,List.length_singleton] at hlen2;clear HI;go_wp2_with (at_builtin;refine wpList_append_own_at _ rfl (.tmp 31) (.tmp 38) 205 rfl w.heap.size 5 i5 _ 1 1 underlying205 hi5 hz50 hz51 hz52 rfl (by decide) (.slice (some g) l.length cap) l.length (l.map bv) rfl ?_ ⟨_,0,none⟩ 1 1 [_] rfl rfl (Zt _ _ _ _ (by simp)) ?_ ?_ ?_ ?_ ?_)
   ·exact QR (QV ((Below.refl _ _).alloc zl _) zl) HO.out
   ·first|rfl|(intro u hu;simp only[List.mem_singleton] at hu;subst hu;rfl)
   ·first|(unfold maxLen;omega)|(unfold maxLen;simp;omega)|(unfold maxLen;simp)
   ·first|omega|(simp;omega)|simp
   ·first|(simp;omega)|omega|simp
   ·intro v' w2 hown hgrow _ hat';obtain⟨g',cap',rfl⟩:=Qh hown (by omega);have HB2:=zh ((HB.out.alloc hsz (.cells #[_] 5)).grown hgrow (by simp;omega) (fun k hk=>by injection hk with hk;subst hk;exact(QS HO.out rfl).1));have HO2:=zh (KY (Y7 v (show v%10<36 by omega)) hown);clear hown hgrow hat';go_wp2
    go_roundg (Aw (v/10) (l++[YJ v]))
    case measure=>exact HM.out
    case rel=>exact⟨v/10,l++[YJ v],g',cap',rfl,(by push_cast;rfl),(by simp),by omega,by simp;omega,HB2.out,HO2.out,HN⟩
  ·have HN:=zh (show FZ (v/10) (l++[YJ v])++(l++[YJ v]).reverse=U from by rw[List.reverse_append,List.reverse_singleton,<-List.append_assoc,<-Y5 HC.out];exact HI.out);have hlen2:(l++[YJ v]).length<=19:=Y9 HL.out hv HN.out;have HM:=zh (Y8 HC.out);rw[List.length_append,List.length_singleton] at hlen2;clear HI;go_wp2_with (at_builtin;refine wpList_append_own_at _ rfl (.tmp 31) (.tmp 38) 205 rfl w.heap.size 5 i5 _ 1 1 underlying205 hi5 hz50 hz51 hz52 rfl (by decide) (.slice (some g) l.length cap) l.length (l.map bv) rfl ?_ ⟨_,0,none⟩ 1 1 [_] rfl rfl (Zt _ _ _ _ (by simp)) ?_ ?_ ?_ ?_ ?_)
   ·exact QR (QV ((Below.refl _ _).alloc zl _) zl) HO.out
   ·first|rfl|(intro u hu;simp only[List.mem_singleton] at hu;subst hu;rfl)
   ·first|(unfold maxLen;omega)|(unfold maxLen;simp;omega)|(unfold maxLen;simp)
   ·first|omega|(simp;omega)|simp
   ·first|(simp;omega)|omega|simp
   ·intro v' w2 hown hgrow _ hat';obtain⟨g',cap',rfl⟩:=Qh hown (by omega);have HB2:=zh ((HB.out.alloc hsz (.cells #[_] 5)).grown hgrow (by simp;omega) (fun k hk=>by injection hk with hk;subst hk;exact(QS HO.out rfl).1));have HO2:=zh (KY (Y7 v (show v%10<36 by omega)) hown);clear hown hgrow hat';go_wp2
    go_roundg (Aw (v/10) (l++[YJ v]))
    case measure=>exact HM.out
    case rel=>exact⟨v/10,l++[YJ v],g',cap',rfl,(by push_cast;rfl),(by simp),by omega,by simp;omega,HB2.out,HO2.out,HN⟩
  ·have HX:=zh (show l.reverse=U from by rw[<-HI.out,HC.out.1,AA HC.out.2];rfl);clear HI HC;go_wp2_with (at_builtin;refine wpList_append_own_at _ rfl (.tmp 46) (.tmp 47) 205 rfl w.heap.size 5 i5 _ 1 1 underlying205 hi5 hz50 hz51 hz52 rfl (by decide) (.slice (some g) l.length cap) l.length (l.map bv) rfl ?_ ⟨_,0,none⟩ 1 1 [_] rfl rfl (Zt _ _ _ _ (by simp)) ?_ ?_ ?_ ?_ ?_)
   ·exact QR (QV ((Below.refl _ _).alloc zl _) zl) HO.out
   ·first|rfl|(intro u hu;simp only[List.mem_singleton] at hu;subst hu;rfl)
   ·first|(unfold maxLen;omega)|(unfold maxLen;simp;omega)|(unfold maxLen;simp)
   ·first|omega|(simp;omega)|simp
   ·first|(simp;omega)|omega|simp
   intro v' w2 hown hgrow _ hat';obtain⟨g',cap',rfl⟩:=Qh hown (by omega);have HB2_:=zh ((HB.out.alloc hsz (.cells #[_] 5)).grown hgrow (by simp;omega) (fun k hk=>by injection hk with hk;subst hk;exact(QS HO.out rfl).1));have HO2_:=zh (KY (c:=45) rfl hown);have hszL:=HB2_.out.size;obtain⟨l2,hl2⟩:∃l2,l2=l++[45]:=⟨_,rfl⟩
   have HX2:=zh (show l2.reverse=45::U from by rw[hl2,List.reverse_append,HX.out];rfl);have hlz:l2.length=l.length+1:=by rw[hl2];simp
   rw[<-hl2,hlz] at HO2_;have HLZ:=zh hlz;clear hown hgrow hat' hl2 HX HO HB hsz hlz;obtain⟨W1,hW1⟩:∃W1,W1=w2:=⟨_,rfl⟩
   subst hW1;have HN0:=zh (Y4 (w:=W1) (Nat.le_refl W1.heap.size));go_wp2
   go_loopg [9,10] (l.length+1) (fun gg vo vi wr=>∃(o:List UInt8) (g2 cap2:Nat) (x:Int),gg=(l.length+1)-o.length/\vo= .slice (some g2) o.length cap2/\vi= .int .i64 x/\x=((l.length+1):Int)-1-(o.length:Int)/\o.length<=(l.length+1)/\Below W1 W1 wr/\wr.ownsRow W1.heap.size 5 1 (.slice (some g2) o.length cap2) o.length (o.map bv)/\Hid (o=l2.reverse.take o.length))
   case atStart=>exact⟨[],W1.heap.size,0,_,rfl,rfl,rfl,(by simp),Nat.zero_le _,(Below.refl _ _).alloc zl _,HN0.out,zh rfl⟩
   case round=>
    obtain⟨o,g2,cap2,x,rfl,rfl,rfl,hx,hol,hb2,hown2,HO2⟩:=hrel;have hsz2:=hb2.size;have HB2:=zh hb2;have HR2:=zh hown2;have HR:=zh (QR (QV hb2 zl) HO2_.out);clear hb2 hown2;by_cases hlt:o.length<(l.length+1)
    ·obtain⟨i,hi⟩:∃i,(l.length+1)=o.length+1+i:=⟨(l.length+1)-o.length-1,by omega⟩
     have hxi:x=(i:Int):=by omega
     subst hxi;have hil:i<(l.length+1):=by omega
     have hil2:i<l2.length:=by rw[HLZ.out];exact hil
     obtain⟨c,hc0⟩:∃c,l2[i]=c:=⟨_,rfl⟩
     have hcell:wr.cell? ⟨g',i,none⟩=some (.int .u8 (c.toNat:Int)):=by
      rw[HR.out.cellAt i (by omega),List.getElem?_map,List.getElem?_eq_getElem hil2,hc0];rfl
     have HN2:=zh (PY (HLZ.out.trans hi) HO2.out hil2);rw[hc0] at HN2;clear hil2 hc0;have HI2:=zh hi;clear HO2 hx hi;go_wp2_with (at_builtin;refine wpList_append_own_at _ rfl (.tmp 57) (.tmp 62) 205 rfl W1.heap.size 5 i5 _ 1 1 underlying205 hi5 hz50 hz51 hz52 rfl (by decide) (.slice (some g2) o.length cap2) o.length (o.map bv) rfl ?_ ⟨_,0,none⟩ 1 1 [_] rfl rfl (Zt _ _ _ _ (by simp)) ?_ ?_ ?_ ?_ ?_)
     ·exact QR (QV ((Below.refl _ _).alloc zl _) zl) HR2.out
     ·first|rfl|(intro u hu;simp only[List.mem_singleton] at hu;subst hu;rfl)
     ·first|(unfold maxLen;omega)|(unfold maxLen;simp;omega)|(unfold maxLen;simp)
     ·first|omega|(simp;omega)|simp
     ·first|(simp;omega)|omega|simp
     ·intro v' w2 hown hgrow _ hat';obtain⟨g',cap',rfl⟩:=Qh hown (by omega);have HB3:=zh ((HB2.out.alloc hsz2 (.cells #[_] 5)).grown hgrow (by simp;omega) (fun k hk=>by injection hk with hk;subst hk;exact(QS HR2.out rfl).1));have HO3:=zh (KY (c:=c) rfl hown);clear hown hgrow hat';go_wp2;have hi:=HI2.out
      go_roundg ((l.length+1)-(o.length+1))
      case measure=>omega
      case rel=>exact⟨o++[c],g',cap',_,(by simp),(by simp),rfl,(by simp;omega),(by simp;omega),HB3.out,HO3.out,HN2⟩
    ·have hxm:x= -1:=by omega
     subst hxm;have hoU:o=45::U:=by rw[<-HX2.out];have h1:=HO2.out;rw[h1];exact List.take_of_length_le (by rw[List.length_reverse,HLZ.out];omega)
     have HOU:=zh hoU;clear hoU;have hconv:=run_convert_bytes_back wr 205 9 5 ⟨g2,0,none⟩ cap2 o underlying205 underlying5 underlying9 (fun j hj=>by
      rw[show(⟨g2,0,none⟩:Addr).add j=⟨g2,j,none⟩ from by unfold Addr.add;split<;>simp_all,HR2.out.cellAt j (by omega),List.getElem?_map,List.getElem?_eq_getElem hj];rfl)
     go_wp2
     go_ret2
     exact⟨by have h:=HOU.out;subst h;rfl,HB2_.out.trans (HB2.out.mono hszL)⟩
theorem Bq (w:World) (n:Int) (h1: -9223372036854775807<=n) (h2:n<=9223372036854775807):Calls prog 240 #[n,.int .i64 10] w (fun e w'=>e= .returned (.tuple #[.string ⟨(Lib.itoa n).toArray⟩,.int .i64 0])/\Below w w w'):=by
 by_cases h:n<0
 ·have hi:Lib.itoa n=45::Lib.decDigits n.natAbs:=by unfold Lib.itoa;rw[if_pos h]
  rw[hi];exact OO w n n.natAbs _ (Bj h h1) (by omega) (Yd _ (by omega)) rfl h
 ·have hi:Lib.itoa n=Lib.decDigits n.natAbs:=by unfold Lib.itoa;rw[if_neg h];congr 1;omega
  rw[hi];exact ON w n n.natAbs _ (by omega) (by omega) (Yd _ (by omega)) rfl
theorem UX (w:World) (n:Int) (h1: -9223372036854775807<=n) (h2:n<=9223372036854775807):Calls prog 213 #[n] w (fun e w'=>e= .returned (.string ⟨(Lib.itoa n).toArray⟩)/\Below w w w'):=by
 have HC:=zh (fun W=>Bq W n h1 h2);obtain⟨S,hS⟩:∃S:ByteArray,S=⟨(Lib.itoa n).toArray⟩:=⟨_,rfl⟩
 rw[<-hS] at HC ⊢;clear hS;go_enter func213,ntmps213;go_wp2_with fail
 refine(HC.out _).mono ?_;rintro e w1 ⟨rfl,hb⟩;go_wp2
 go_ret
 exact⟨rfl,hb⟩
end Go.Proofs.YthkpckgcgkijbaaGreatDoor
