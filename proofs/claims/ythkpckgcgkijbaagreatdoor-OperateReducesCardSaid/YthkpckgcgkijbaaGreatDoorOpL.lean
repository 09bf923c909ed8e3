import Derived.Test.YthkpckgcgkijbaaGreatDoorTabA
import Derived.Test.YthkpckgcgkijbaaGreatDoorLwR
set_option linter.unusedVariables false
set_option linter.unusedSimpArgs false
set_option maxRecDepth 100000
set_option maxHeartbeats 2000000
namespace Go.Proofs.YthkpckgcgkijbaaGreatDoor
def invertM (n:Nd):Nd:=⟨n.k,if n.k=1 then⟨n.v.k,n.v.p,n.v.q,n.v.s,1-n.v.r⟩ else n.v,n.f,n.args,if n.k=2 then 5-n.after else n.after,n.s⟩
theorem bin_bad {hand:V→ByteArray→V} {o:Int} {a b:V} (h:zAi a=false∨zAi b=false):zAw hand o a b=ndErr sBad:=by
 unfold zAw
 rw[if_pos (.inr h)]
theorem bin_eq {hand:V→ByteArray→V} {o:Int} {a b:V} (h:¬(zAi a=false∨zAi b=false)) (ho:o=14∨o=15):zAw hand o a b=equalM hand o a b:=by
 unfold zAw
 rw[if_neg (by rintro(h1|h1);exact h1 (by omega);exact h h1),if_neg (by omega),if_neg (by omega),if_pos ho]
theorem eq_err {hand:V→ByteArray→V} {a b:V} (h:(zAw hand 14 a b).k=3):zAi a=false∨zAi b=false:=by
 by_cases hv:zAi a=false∨zAi b=false
 ·exact hv
 ·rw[bin_eq hv (.inl rfl)] at h
  unfold equalM at h
  split at h
  ·exact absurd h (show¬(1:Int)=3 by decide)
  ·split at h
   ·exact absurd h (show¬(1:Int)=3 by decide)
   ·exact absurd h (show¬(2:Int)=3 by decide)
theorem inv_bool (x:Bool):ndVal (boolV (x==decide ((15:Int)=14)))=invertM (ndVal (boolV (x==decide ((14:Int)=14)))):=by
 cases x<;>rfl
theorem ne_inv {hand:V→ByteArray→V} {a b:V} (h:(zAw hand 14 a b).k≠3):zAw hand 15 a b=invertM (zAw hand 14 a b):=by
 have hv:¬(zAi a=false∨zAi b=false):=fun hv=>h (by rw[bin_bad hv];rfl)
 rw[bin_eq hv (.inl rfl),bin_eq hv (.inr rfl)]
 unfold equalM
 have e:zBK 15=zBK 14:=rfl
 rw[e]
 by_cases c1:eqV a b=true∨a.k≠b.k∨(a.k≠4∧a.k≠8)
 ·rw[if_pos c1,if_pos c1];exact inv_bool _
 ·rw[if_neg c1,if_neg c1]
  by_cases c2:(findH hand (zBK 14) a b).k=0
  ·rw[if_pos c2,if_pos c2];exact inv_bool _
  ·rw[if_neg c2,if_neg c2];rfl
theorem gt_lt {hand:V→ByteArray→V} {a b:V}:zAw hand 18 a b=zAw hand 16 b a:=by
 by_cases hv:zAi a=false∨zAi b=false
 ·rw[bin_bad hv,bin_bad hv.symm]
 ·have hv2:¬(zAi b=false∨zAi a=false):=fun h=>hv h.symm
  unfold zAw
  rw[if_neg (by rintro(h1|h1);exact h1 (by omega);exact hv h1),if_pos rfl,if_neg (by rintro(h1|h1);exact h1 (by omega);exact hv2 h1),if_neg (by omega),if_neg (by omega),if_neg (by omega)]
theorem ge_le {hand:V→ByteArray→V} {a b:V}:zAw hand 19 a b=zAw hand 17 b a:=by
 by_cases hv:zAi a=false∨zAi b=false
 ·rw[bin_bad hv,bin_bad hv.symm]
 ·have hv2:¬(zAi b=false∨zAi a=false):=fun h=>hv h.symm
  unfold zAw
  rw[if_neg (by rintro(h1|h1);exact h1 (by omega);exact hv h1),if_neg (by omega),if_pos rfl,if_neg (by rintro(h1|h1);exact h1 (by omega);exact hv2 h1),if_neg (by omega),if_neg (by omega),if_neg (by omega)]
end Go.Proofs.YthkpckgcgkijbaaGreatDoor
namespace Go.Proofs.YthkpckgcgkijbaaGreatDoor
open Go.RowKit Go.Proofs.Lexi
theorem nd_call_done {w W W':World} {f a b:V} {af:Int} {r:Nat} (hb:Below w.heap.size w W) (hr:w.heap.size≤r) (hW:Mods (· =r) W W') (hsz:W'.heap.size=W.heap.size):
  NdPost w (zBs f [a,b] af) (.returned (ndV (zBs f [a,b] af) (.slice (some ⟨W.heap.size,0,none⟩) 2 2))) (W'.alloc (.cells #[.int .i64 a.k,.int .i64 a.p,.int .i64 a.q,.string a.s,.int .i64 a.r,.int .i64 b.k,.int .i64 b.p,.int .i64 b.q,.string b.s,.int .i64 b.r] 25)):=by
 have hB:Below w.heap.size w W':=⟨hW.os.trans hb.os,hW.tape.trans hb.tape,hW.output.trans hb.output,Nat.le_trans hb.size hW.size,fun k hk=>(hW.block k (Nat.lt_of_lt_of_le hk hb.size) (by omega)).trans (hb.block k hk)⟩
 exact⟨_,rfl,.inr ⟨W.heap.size,a,b,rfl,rfl,hb.size,by rw[←hsz];exact heap1 _ _⟩,hB.alloc hB.size _⟩
theorem eq_val {hand:V→ByteArray→V} {a b:V}:((zAw hand 14 a b).k=1→ -1000≤(zAw hand 14 a b).v.r∧(zAw hand 14 a b).v.r≤1000)∧((zAw hand 14 a b).k=2→(zAw hand 14 a b).after=2):=by
 have hb:∀x:Bool, -1000≤(ndVal (boolV x)).v.r∧(ndVal (boolV x)).v.r≤1000:=fun x=>by cases x<;>exact⟨by decide,by decide⟩
 by_cases hv:zAi a=false∨zAi b=false
 ·rw[bin_bad hv]
  exact⟨fun h=>absurd h (show¬(3:Int)=1 by decide),fun h=>absurd h (show¬(3:Int)=2 by decide)⟩
 ·rw[bin_eq hv (.inl rfl)]
  unfold equalM
  split
  ·exact⟨fun _=>hb _,fun h=>absurd h (show¬(1:Int)=2 by decide)⟩
  ·split
   ·exact⟨fun _=>hb _,fun h=>absurd h (show¬(1:Int)=2 by decide)⟩
   ·exact⟨fun h=>absurd h (show¬(2:Int)=1 by decide),fun _=>rfl⟩
theorem build_no (w:World) (T Dt F:Int) (so:Option Addr) (n cap:Nat) (hno:¬WorldOk T Dt F n):Calls Tryz.prog 18 #[.agg #[.int .i64 T,.int .i64 Dt,.int .i64 F,.slice so n cap]] w (fun e w'=>e= .returned (.tuple #[.pointer none,.pointer none,.bool false])∧Below w.heap.size w w'):=by
 have ways:T<0∨(¬T<0∧20<T)∨(¬T<0∧¬20<T∧Dt<0)∨(¬T<0∧¬20<T∧¬Dt<0∧20<Dt)∨(¬T<0∧¬20<T∧¬Dt<0∧¬20<Dt∧F<0)∨(¬T<0∧¬20<T∧¬Dt<0∧¬20<Dt∧¬F<0∧20<F)∨(¬T<0∧¬20<T∧¬Dt<0∧¬20<Dt∧¬F<0∧¬20<F∧(60:Int)<(n:Nat)):=by
  unfold WorldOk at hno
  omega
 clear hno
 rcases ways with h1|⟨h1,h2⟩|⟨h1,h2,h3⟩|⟨h1,h2,h3,h4⟩|⟨h1,h2,h3,h4,h5⟩|⟨h1,h2,h3,h4,h5,h6⟩|⟨h1,h2,h3,h4,h5,h6,h7⟩
 all_goals
  go_enter Tryz.func18,Tryz.ntmps18
  go_wp2
  refine bodyPost_ret (by simp[results,Tryz.results18,go_sem];first|done|rfl) rfl ?_
  exact⟨rfl,zAm _ _⟩
theorem same_nil (w:World) (nk vk vp vq:Int) (vs:ByteArray) (vr fk fp fq:Int) (fs:ByteArray) (fr:Int) (na:Int) (ns:ByteArray):Calls Tryz.prog 19 #[.agg #[nk,vk,vp,vq,vs,vr,fk,fp,fq,fs,fr,.slice none 0 0,na,ns],.agg #[nk,vk,vp,vq,vs,vr,fk,fp,fq,fs,fr,.slice none 0 0,na,ns]] w (BoolPost w true):=by
 go_enter Tryz.func19,Tryz.ntmps19
 go_wp2
 go_loopg [5] 0 (fun gg iv wx=>iv= .int .i64 0∧wx=((w.alloc (.cells #[nk,vk,vp,vq,vs,vr,fk,fp,fq,fs,fr,.slice none 0 0,na,ns] 43)).alloc (.cells #[nk,vk,vp,vq,vs,vr,fk,fp,fq,fs,fr,.slice none 0 0,na,ns] 43)))
 case atStart=>exact⟨rfl,rfl⟩
 obtain⟨rfl,rfl⟩:=hrel
 go_wp2
 go_ret
 exact⟨rfl,zAF _ _ _⟩
theorem same_two (w:World) (nk vk vp vq:Int) (vs:ByteArray) (vr fk fp fq:Int) (fs:ByteArray) (fr:Int) (na:Int) (ns:ByteArray) (k1 p1 q1:Int) (s1:ByteArray) (r1:Int) (k2 p2 q2:Int) (s2:ByteArray) (r2:Int) (g h:Nat) (hg:w.heap[g]? =some (.cells #[k1,p1,q1,s1,r1,k2,p2,q2,s2,r2] 25)) (hh:w.heap[h]? =some (.cells #[k1,p1,q1,s1,r1,k2,p2,q2,s2,r2] 25)):
  Calls Tryz.prog 19 #[.agg #[nk,vk,vp,vq,vs,vr,fk,fp,fq,fs,fr,.slice (some ⟨g,0,none⟩) 2 2,na,ns],.agg #[nk,vk,vp,vq,vs,vr,fk,fp,fq,fs,fr,.slice (some ⟨h,0,none⟩) 2 2,na,ns]] w (BoolPost w true):=by
 have HG:=Lib.hid hg
 have HH:=Lib.hid hh
 clear hg hh
 go_enter Tryz.func19,Tryz.ntmps19
 go_wp2
 obtain⟨W0,hW0⟩:∃W0,W0=(w.alloc (.cells #[nk,vk,vp,vq,vs,vr,fk,fp,fq,fs,fr,.slice (some ⟨g,0,none⟩) 2 2,na,ns] 43)).alloc (.cells #[nk,vk,vp,vq,vs,vr,fk,fp,fq,fs,fr,.slice (some ⟨h,0,none⟩) 2 2,na,ns] 43):=⟨_,rfl⟩
 rw[←hW0]
 have HB0:=Lib.hid (show Below w.heap.size w W0 by rw[hW0];exact zAF _ _ _)
 have HX:=Lib.hid (show W0.heap[w.heap.size]? =some (.cells #[nk,vk,vp,vq,vs,vr,fk,fp,fq,fs,fr,.slice (some ⟨g,0,none⟩) 2 2,na,ns] 43) by rw[hW0];exact zAf _ _ _)
 have HY:=Lib.hid (show W0.heap[w.heap.size+1]? =some (.cells #[nk,vk,vp,vq,vs,vr,fk,fp,fq,fs,fr,.slice (some ⟨h,0,none⟩) 2 2,na,ns] 43) by rw[hW0];exact zAW _ _ _)
 clear hW0
 go_loopg [5] 2 (fun gg iv wx=>∃j:Nat,iv= .int .i64 (j:Nat)∧2-j=gg∧j≤2∧Below W0.heap.size W0 wx)
 case atStart=>exact⟨0,rfl,rfl,Nat.zero_le _,Below.refl _ _⟩
 obtain⟨j,rfl,rfl,hj,hb⟩:=hrel
 have HB:=Lib.hid hb
 have HGr:=hkh hb (hkeep HB0.out HG.out)
 have HHr:=hkh hb (hkeep HB0.out HH.out)
 have hlx:w.heap.size<wr.heap.size:=(Array.getElem?_eq_some_iff.1 (hkeep hb HX.out)).1
 have hly:w.heap.size+1<wr.heap.size:=(Array.getElem?_eq_some_iff.1 (hkeep hb HY.out)).1
 have hlg:g<wr.heap.size:=hsz HGr
 have hlh:h<wr.heap.size:=hsz HHr
 have x11:wr.cell? ⟨w.heap.size,11,none⟩=some (.slice (some ⟨g,0,none⟩) 2 2):=by rw[zAA (hkeep hb HX.out)];rfl
 have y11:wr.cell? ⟨w.heap.size+1,11,none⟩=some (.slice (some ⟨h,0,none⟩) 2 2):=by rw[zAA (hkeep hb HY.out)];rfl
 obtain⟨g0,g1,g2,g3,g4,g5,g6,g7,g8,g9⟩:=cells10 HGr.out
 obtain⟨h0,h1,h2,h3,h4,h5,h6,h7,h8,h9⟩:=cells10 HHr.out
 clear hb
 obtain rfl|rfl|rfl:j=0∨j=1∨j=2:=by omega
 ·go_wp2
  go_quiet (fail)
  go_wp2
  go_roundg 1
  case measure=>omega
  case rel=>exact⟨1,rfl,rfl,by omega,below_drewN HB.out _⟩
 ·go_wp2
  go_quiet (fail)
  go_wp2
  go_roundg 0
  case measure=>omega
  case rel=>exact⟨2,rfl,rfl,by omega,below_drewN HB.out _⟩
 ·go_wp2
  go_ret
  exact⟨rfl,zAC HB0.out HB.out⟩
theorem inverted_val (w:World) (vk vp vq:Int) (vs:ByteArray) (vr fk fp fq:Int) (fs:ByteArray) (fr:Int) (na:Int) (ns:ByteArray) (so:Option Addr) (m cap:Nat) (hr: -1000≤vr) (hr2:vr≤1000):Calls Tryz.prog 27 #[.agg #[.int .i64 1,vk,vp,vq,vs,vr,fk,fp,fq,fs,fr,.slice so m cap,na,ns]] w (fun e w'=>e= .returned (.agg #[.int .i64 1,vk,vp,vq,vs,.int .i64 (1-vr),fk,fp,fq,fs,fr,.slice so m cap,na,ns])∧Below w.heap.size w w'):=by
 go_enter Tryz.func27,Tryz.ntmps27
 go_wp2
 refine bodyPost_ret (by simp[results,Tryz.results27,go_sem];first|done|rfl) rfl ?_
 refine⟨rfl,?_⟩
 first|exact zAF _ _ _|trace_state
theorem inverted_call (w:World) (vk vp vq:Int) (vs:ByteArray) (vr fk fp fq:Int) (fs:ByteArray) (fr:Int) (na:Int) (ns:ByteArray) (so:Option Addr) (m cap:Nat) (hr: -1000≤na) (hr2:na≤1000):Calls Tryz.prog 27 #[.agg #[.int .i64 2,vk,vp,vq,vs,vr,fk,fp,fq,fs,fr,.slice so m cap,na,ns]] w (fun e w'=>e= .returned (.agg #[.int .i64 2,vk,vp,vq,vs,vr,fk,fp,fq,fs,fr,.slice so m cap,.int .i64 (5-na),ns])∧Below w.heap.size w w'):=by
 go_enter Tryz.func27,Tryz.ntmps27
 go_wp2
 refine bodyPost_ret (by simp[results,Tryz.results27,go_sem];first|done|rfl) rfl ?_
 refine⟨rfl,?_⟩
 first|exact zAF _ _ _|trace_state
theorem inverted_err (w:World) (nk vk vp vq:Int) (vs:ByteArray) (vr fk fp fq:Int) (fs:ByteArray) (fr:Int) (na:Int) (ns:ByteArray) (so:Option Addr) (m cap:Nat) (h1:(nk==1)=false) (h2:(nk==2)=false):Calls Tryz.prog 27 #[.agg #[nk,vk,vp,vq,vs,vr,fk,fp,fq,fs,fr,.slice so m cap,na,ns]] w (fun e w'=>e= .returned (.agg #[nk,vk,vp,vq,vs,vr,fk,fp,fq,fs,fr,.slice so m cap,na,ns])∧Below w.heap.size w w'):=by
 go_enter Tryz.func27,Tryz.ntmps27
 go_wp2
 refine bodyPost_ret (by simp[results,Tryz.results27,go_sem];first|done|rfl) rfl ?_
 refine⟨rfl,?_⟩
 first|exact zAF _ _ _|trace_state
end Go.Proofs.YthkpckgcgkijbaaGreatDoor
