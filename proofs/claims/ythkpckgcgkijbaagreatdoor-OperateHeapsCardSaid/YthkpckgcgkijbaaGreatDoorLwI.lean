import Derived.Test.YthkpckgcgkijbaaGreatDoorOpJe
import Derived.Test.YthkpckgcgkijbaaGreatDoorLwHv2
set_option linter.unusedVariables false
set_option linter.unusedSimpArgs false
set_option maxRecDepth 100000
namespace Go.Proofs.YthkpckgcgkijbaaGreatDoor
open Go.RowKit Go.Proofs.Lexi Go.Proofs.Tryz
variable (w:World)
theorem Glob.mods {w w1 W:World} (hg:Glob w) (hb:Below w w w1) (hm:Mods (Bx w.heap.size) w1 W):Glob W:=
 hg.stays (hb.trans (hm.below hb.size (fun k hk e=>by have:=e.1;omega)))
theorem AJ {base n:Nat} {w:World} {h:Nat} {M:LH} (hP:PHp base n w h M):Calls prog 28 #[h] w (IntPost w (M.length:Nat)):=by
 obtain⟨bo,bt,H,h1,h2,h3,h4⟩:=hP.ex;have e:M.length=H.length:=by rw[<-h2];exact List.length_map ..
 rw[e];exact Cc w h bo bt H h1
theorem Ow {base n:Nat} {w:World} {h:Nat} {M:LH} (hP:RHp base n w h M):Calls prog 29 #[h] w (IntPost w (M.length:Nat)):=by
 obtain⟨av,uv,H,h1,h2,h3,h4⟩:=hP.ex;have e:M.length=H.length:=by rw[<-h2];exact List.length_map ..
 rw[e];exact L7 w h av uv H h1
theorem CM {base n:Nat} {w:World} {h:Nat} {M:LH} (hP:PHp base n w h M) (hn:n<=1000) (hz:JG M<=1000000000):Calls prog 30 #[h] w (IntPost w (JG M)):=by
 obtain⟨bo,bt,H,h1,h2,h3,h4⟩:=hP.ex;rw[<-h2] at hz ⊢;exact Af w h bo bt H h1 (fun x hx=>Nat.le_trans (h3 x hx) hn) hz
theorem CA {base n:Nat} {w:World} {h:Nat} {M:LH} (hP:RHp base n w h M) (hn:n<=1000) (hl:M.length<=1000) (hz:JG M<=1000000000):Calls prog 31 #[h] w (IntPost w (JG M)):=by
 obtain⟨av,uv,H,h1,h2,h3,h4⟩:=hP.ex;have e:M.length=H.length:=by rw[<-h2];exact List.length_map ..
 rw[<-h2] at hz ⊢;exact Og w h av uv H h1 (fun x hx=>Nat.le_trans (h3 x hx) hn) (by omega) hz
theorem CN {base n:Nat} {w:World} {h:Nat} {M:LH} (hP:PHp base n w h M) (k p q:Int) (s:ByteArray) (r:Int) (hr:i64 r):Calls prog 33 #[h,.agg #[k,p,q,s,r]] w (ValPost w (Jt M ⟨k,p,q,s,r⟩)):=by
 obtain⟨bo,bt,H,h1,h2,h3,h4⟩:=hP.ex;rw[<-h2];exact AZ w h bo bt H h1 k p q s r hr
theorem SS {base n:Nat} {w:World} {h:Nat} {M:LH} (hP:PHp base n w h M) (hn:n<=1000) (k p q:Int) (s:ByteArray) (r:Int) (hr:i64 r) (e:ByteArray) (he:e.size<=4096):Calls prog 32 #[h,.agg #[k,p,q,s,r],.agg #[.int .i64 3,(0:Int),(0:Int),e,(0:Int)]] w (TupPost (vV (UP M ⟨k,p,q,s,r⟩ e)) ((vE (UP M ⟨k,p,q,s,r⟩ e):Nat):Int) w):=by
 obtain⟨bo,bt,H,h1,h2,h3,h4⟩:=hP.ex;rw[<-h2];exact BV w h bo bt H h1 (fun x hx=>Nat.le_trans (h3 x hx) hn) k p q s r hr e he
structure HAns (b hp hs:Nat) (w':World) (M:LH):Prop where
 bin:∀(o k1 p1 q1:Int) (s1:ByteArray) (r1 k2 p2 q2:Int) (s2:ByteArray) (r2:Int),WfV ⟨k1,p1,q1,s1,r1⟩->WfV ⟨k2,p2,q2,s2,r2⟩->HCall b 20 #[.pointer (some hp),o,.agg #[k1,p1,q1,s1,r1],.agg #[k2,p2,q2,s2,r2]] w' (fun W=>NdPost W (ZY (ZN M) o ⟨k1,p1,q1,s1,r1⟩ ⟨k2,p2,q2,s2,r2⟩))
 un:∀(o k1 p1 q1:Int) (s1:ByteArray) (r1:Int),WfV ⟨k1,p1,q1,s1,r1⟩->HCall b 22 #[.pointer (some hp),o,.agg #[k1,p1,q1,s1,r1]] w' (fun W=>NdPost W (Kl (ZN M) o ⟨k1,p1,q1,s1,r1⟩))
 ct:HCall b 28 #[.pointer (some hp)] w' (fun W=>IntPost W (M.length:Nat))
 rct:HCall b 29 #[.pointer (some hs)] w' (fun W=>IntPost W (M.length:Nat))
 sz:HCall b 30 #[.pointer (some hp)] w' (fun W=>IntPost W (JG M))
 rsz:HCall b 31 #[.pointer (some hs)] w' (fun W=>IntPost W (JG M))
 mt:∀(k1 p1 q1:Int) (s1:ByteArray) (r1:Int),i64 r1->HCall b 33 #[.pointer (some hp),.agg #[k1,p1,q1,s1,r1]] w' (fun W=>ValPost W (Jt M ⟨k1,p1,q1,s1,r1⟩))
 wf:∀v,WfV (Jt M v)
 get:∀(k1 p1 q1:Int) (s1:ByteArray) (r1:Int) (e:ByteArray),i64 r1->e.size<=4096->HCall b 32 #[.pointer (some hp),.agg #[k1,p1,q1,s1,r1],.agg #[.int .i64 3,(0:Int),(0:Int),e,(0:Int)]] w' (TupPost (vV (UP M ⟨k1,p1,q1,s1,r1⟩ e)) ((vE (UP M ⟨k1,p1,q1,s1,r1⟩ e):Nat):Int))
theorem hans {w w':World} (hg:Glob w) (hb:Below w w w') {base n hp hs:Nat} {M:LH} (hP:PHp base n w' hp M) (hR:RHp base n w' hs M) (hbase:w+1+1+1<=base) (hn:n<=1000) (hl:M.length<=1000):HAns w.heap.size hp hs w' M:=by
 have hz:JG M<=1000000000:=by
  have h1:=PC M (AH hP);have h2:(M.length:Int)*(12+4*(n:Int))<=1000*(12+4*(n:Int)):=Int.mul_le_mul_of_nonneg_right (by omega) (by omega);omega
 exact⟨fun o k1 p1 q1 s1 r1 k2 p2 q2 s2 r2 wa wb W hm=>FF W (hg.mods hb hm) (some ⟨hp,0,none⟩) (ZN M) (Gx (hP.mods hm hbase) hn) o k1 p1 q1 s1 r1 k2 p2 q2 s2 r2 wa.k wa.r wb.k wb.r,
  fun o k1 p1 q1 s1 r1 wa W hm=>ES W (hg.mods hb hm) (some ⟨hp,0,none⟩) (ZN M) (Gx (hP.mods hm hbase) hn) o k1 p1 q1 s1 r1 wa.k wa.r (fun _=>AI (hP.mods hm hbase) k1 p1 q1 s1 r1 wa.r),
  fun W hm=>AJ (hP.mods hm hbase),fun W hm=>Ow (hR.mods hm hbase),fun W hm=>CM (hP.mods hm hbase) hn hz,fun W hm=>CA (hR.mods hm hbase) hn hl hz,
  fun k p q s r hr W hm=>CN (hP.mods hm hbase) k p q s r hr,N5 hP,fun k p q s r e hr he W hm=>SS (hP.mods hm hbase) hn k p q s r hr e he⟩
theorem Cs (hg:Glob w) (T Dt F:Int) (so:Option Addr) (n cap:Nat) (o:Int) (k1 p1 q1:Int) (s1:ByteArray) (r1:Int) (k2 p2 q2:Int) (s2:ByteArray) (r2:Int) (wa:WfV ⟨k1,p1,q1,s1,r1⟩) (wb:WfV ⟨k2,p2,q2,s2,r2⟩) (M:LH)
  (BO:∀W,Below w w W->W.heap.size=w.heap.size+1+1+1->Calls prog 18 #[.agg #[T,Dt,F,.slice so n cap]] W (fun e w'=>∃hp hs:Nat,e= .returned (.tuple #[.pointer (some hp),.pointer (some hs),.bool true])/\HAns w.heap.size hp hs w' M/\Below W W w'))
  (h18:(o==18)=false) (h19:(o==19)=false) (v:V) (na:Int) (ns:ByteArray) (hN:ZY (ZN M) o ⟨k1,p1,q1,s1,r1⟩ ⟨k2,p2,q2,s2,r2⟩=⟨2,v,Zs (ZN M) (Q6 o) ⟨k1,p1,q1,s1,r1⟩ ⟨k2,p2,q2,s2,r2⟩,[⟨k1,p1,q1,s1,r1⟩,⟨k2,p2,q2,s2,r2⟩],na,ns⟩) (hk:(Zs (ZN M) (Q6 o) ⟨k1,p1,q1,s1,r1⟩ ⟨k2,p2,q2,s2,r2⟩).k≠0):
  Calls prog 10 #[.agg #[T,Dt,F,.slice so n cap],o,.agg #[k1,p1,q1,s1,r1],.agg #[k2,p2,q2,s2,r2]] w (BoolPost w true):=by
 have EV:=fun W=>Gy W o;have he:=JD o;obtain⟨E,hE⟩:∃E,Q6 o=E:=⟨_,rfl⟩
 rw[hE] at EV he hN hk;obtain⟨vk,vp,vq,vs,vr⟩:=v;obtain⟨⟨mk,mp,mq,ms,mr⟩,hM⟩:∃m,Jt M ⟨k1,p1,q1,s1,r1⟩=m:=⟨_,rfl⟩
 obtain⟨⟨xk,xp,xq,xs,xr⟩,hx⟩:∃x,vV (UP M ⟨mk,mp,mq,ms,mr⟩ E)=x:=⟨_,rfl⟩
 have hhx:ZN M ⟨k1,p1,q1,s1,r1⟩ E=⟨xk,xp,xq,xs,xr⟩:=by unfold ZN;rw[hM,hx]
 by_cases h0:xk=0
 ·have hfn:Zs (ZN M) E ⟨k1,p1,q1,s1,r1⟩ ⟨k2,p2,q2,s2,r2⟩=ZN M ⟨k2,p2,q2,s2,r2⟩ E:=by unfold Zs;rw[hhx,if_pos h0]
  obtain⟨⟨lk,lp,lq,ls,lr⟩,hL⟩:∃l,Jt M ⟨k2,p2,q2,s2,r2⟩=l:=⟨_,rfl⟩
  obtain⟨⟨yk,yp,yq,ys,yr⟩,hy⟩:∃y,vV (UP M ⟨lk,lp,lq,ls,lr⟩ E)=y:=⟨_,rfl⟩
  have hhy:ZN M ⟨k2,p2,q2,s2,r2⟩ E=⟨yk,yp,yq,ys,yr⟩:=by unfold ZN;rw[hL,hy]
  rw[hfn,hhy] at hN hk;refine Mc w hg T Dt F so n cap o k1 p1 q1 s1 r1 k2 p2 q2 s2 r2 vk vp vq vs vr xk xp xq xs xr yk yp yq ys yr na ns (Kl (ZN M) o ⟨k1,p1,q1,s1,r1⟩) (M.length:Nat) (JG M) mk mp mq ms mr ((vE (UP M ⟨mk,mp,mq,ms,mr⟩ E):Nat):Int) E EV lk lp lq ls lr ((vE (UP M ⟨lk,lp,lq,ls,lr⟩ E):Nat):Int) (beq_iff_eq.2 h0) (opn hk) h18 h19 (fun W hb hz=>(BO W hb hz).mono ?_);rintro e w' ⟨hp,hs,h1,hA,h2⟩;have hB:=hA.bin o k1 p1 q1 s1 r1 k2 p2 q2 s2 r2 wa wb;rw[hN] at hB;have hm1:=hA.mt k1 p1 q1 s1 r1 wa.r;have hm2:=hA.mt k2 p2 q2 s2 r2 wb.r;have w1:=hA.wf ⟨k1,p1,q1,s1,r1⟩;have w2:=hA.wf ⟨k2,p2,q2,s2,r2⟩;rw[hM] at hm1 w1;rw[hL] at hm2 w2;have hg1:=hA.get mk mp mq ms mr E w1.r he;have hg2:=hA.get lk lp lq ls lr E w2.r he;rw[hx] at hg1;rw[hy] at hg2;exact⟨hp,hs,h1,⟨hB,hA.un o k1 p1 q1 s1 r1 wa,hA.ct,hA.rct,hA.sz,hA.rsz,hm1,hg1,hm2,hg2⟩,h2⟩
 ·have hfn:Zs (ZN M) E ⟨k1,p1,q1,s1,r1⟩ ⟨k2,p2,q2,s2,r2⟩=⟨xk,xp,xq,xs,xr⟩:=by unfold Zs;rw[hhx,if_neg h0]
  rw[hfn] at hN hk;refine LJ w hg T Dt F so n cap o k1 p1 q1 s1 r1 k2 p2 q2 s2 r2 vk vp vq vs vr xk xp xq xs xr na ns (Kl (ZN M) o ⟨k1,p1,q1,s1,r1⟩) (M.length:Nat) (JG M) mk mp mq ms mr ((vE (UP M ⟨mk,mp,mq,ms,mr⟩ E):Nat):Int) E EV (opp h0) (opn h0) h18 h19 (fun W hb hz=>(BO W hb hz).mono ?_);rintro e w' ⟨hp,hs,h1,hA,h2⟩;have hB:=hA.bin o k1 p1 q1 s1 r1 k2 p2 q2 s2 r2 wa wb;rw[hN] at hB;have hm1:=hA.mt k1 p1 q1 s1 r1 wa.r;have w1:=hA.wf ⟨k1,p1,q1,s1,r1⟩;rw[hM] at hm1 w1;have hg1:=hA.get mk mp mq ms mr E w1.r he;rw[hx] at hg1;exact⟨hp,hs,h1,⟨hB,hA.un o k1 p1 q1 s1 r1 wa,hA.ct,hA.rct,hA.sz,hA.rsz,hm1,hg1⟩,h2⟩
theorem Cr (hg:Glob w) (T Dt F:Int) (so:Option Addr) (n cap:Nat) (o:Int) (k1 p1 q1:Int) (s1:ByteArray) (r1:Int) (k2 p2 q2:Int) (s2:ByteArray) (r2:Int) (wa:WfV ⟨k1,p1,q1,s1,r1⟩) (wb:WfV ⟨k2,p2,q2,s2,r2⟩) (M:LH)
  (BO:∀W,Below w w W->W.heap.size=w.heap.size+1+1+1->Calls prog 18 #[.agg #[T,Dt,F,.slice so n cap]] W (fun e w'=>∃hp hs:Nat,e= .returned (.tuple #[.pointer (some hp),.pointer (some hs),.bool true])/\HAns w.heap.size hp hs w' M/\Below W W w'))
  (hsw:((o==18)=true)\/((o==18)=false/\(o==19)=true)) (v:V) (na:Int) (ns:ByteArray) (hN:ZY (ZN M) o ⟨k1,p1,q1,s1,r1⟩ ⟨k2,p2,q2,s2,r2⟩=⟨2,v,Zs (ZN M) (Q6 o) ⟨k2,p2,q2,s2,r2⟩ ⟨k1,p1,q1,s1,r1⟩,[⟨k2,p2,q2,s2,r2⟩,⟨k1,p1,q1,s1,r1⟩],na,ns⟩) (hk:(Zs (ZN M) (Q6 o) ⟨k2,p2,q2,s2,r2⟩ ⟨k1,p1,q1,s1,r1⟩).k≠0):
  Calls prog 10 #[.agg #[T,Dt,F,.slice so n cap],o,.agg #[k1,p1,q1,s1,r1],.agg #[k2,p2,q2,s2,r2]] w (BoolPost w true):=by
 have EV:=fun W=>Gy W o;have he:=JD o;obtain⟨E,hE⟩:∃E,Q6 o=E:=⟨_,rfl⟩
 rw[hE] at EV he hN hk;obtain⟨vk,vp,vq,vs,vr⟩:=v;obtain⟨⟨mk,mp,mq,ms,mr⟩,hM⟩:∃m,Jt M ⟨k2,p2,q2,s2,r2⟩=m:=⟨_,rfl⟩
 obtain⟨⟨xk,xp,xq,xs,xr⟩,hx⟩:∃x,vV (UP M ⟨mk,mp,mq,ms,mr⟩ E)=x:=⟨_,rfl⟩
 have hhx:ZN M ⟨k2,p2,q2,s2,r2⟩ E=⟨xk,xp,xq,xs,xr⟩:=by unfold ZN;rw[hM,hx]
 by_cases h0:xk=0
 ·have hfn:Zs (ZN M) E ⟨k2,p2,q2,s2,r2⟩ ⟨k1,p1,q1,s1,r1⟩=ZN M ⟨k1,p1,q1,s1,r1⟩ E:=by unfold Zs;rw[hhx,if_pos h0]
  obtain⟨⟨lk,lp,lq,ls,lr⟩,hL⟩:∃l,Jt M ⟨k1,p1,q1,s1,r1⟩=l:=⟨_,rfl⟩
  obtain⟨⟨yk,yp,yq,ys,yr⟩,hy⟩:∃y,vV (UP M ⟨lk,lp,lq,ls,lr⟩ E)=y:=⟨_,rfl⟩
  have hhy:ZN M ⟨k1,p1,q1,s1,r1⟩ E=⟨yk,yp,yq,ys,yr⟩:=by unfold ZN;rw[hL,hy]
  rw[hfn,hhy] at hN hk;refine Tq w hg T Dt F so n cap o k1 p1 q1 s1 r1 k2 p2 q2 s2 r2 vk vp vq vs vr xk xp xq xs xr yk yp yq ys yr na ns (Kl (ZN M) o ⟨k1,p1,q1,s1,r1⟩) (M.length:Nat) (JG M) mk mp mq ms mr ((vE (UP M ⟨mk,mp,mq,ms,mr⟩ E):Nat):Int) E EV lk lp lq ls lr ((vE (UP M ⟨lk,lp,lq,ls,lr⟩ E):Nat):Int) (beq_iff_eq.2 h0) (opn hk) hsw (fun W hb hz=>(BO W hb hz).mono ?_);rintro e w' ⟨hp,hs,h1,hA,h2⟩;have hB:=hA.bin o k1 p1 q1 s1 r1 k2 p2 q2 s2 r2 wa wb;rw[hN] at hB;have hm1:=hA.mt k2 p2 q2 s2 r2 wb.r;have hm2:=hA.mt k1 p1 q1 s1 r1 wa.r;have w1:=hA.wf ⟨k2,p2,q2,s2,r2⟩;have w2:=hA.wf ⟨k1,p1,q1,s1,r1⟩;rw[hM] at hm1 w1;rw[hL] at hm2 w2;have hg1:=hA.get mk mp mq ms mr E w1.r he;have hg2:=hA.get lk lp lq ls lr E w2.r he;rw[hx] at hg1;rw[hy] at hg2;exact⟨hp,hs,h1,⟨hB,hA.un o k1 p1 q1 s1 r1 wa,hA.ct,hA.rct,hA.sz,hA.rsz,hm1,hg1,hm2,hg2⟩,h2⟩
 ·have hfn:Zs (ZN M) E ⟨k2,p2,q2,s2,r2⟩ ⟨k1,p1,q1,s1,r1⟩=⟨xk,xp,xq,xs,xr⟩:=by unfold Zs;rw[hhx,if_neg h0]
  rw[hfn] at hN hk;refine Me w hg T Dt F so n cap o k1 p1 q1 s1 r1 k2 p2 q2 s2 r2 vk vp vq vs vr xk xp xq xs xr na ns (Kl (ZN M) o ⟨k1,p1,q1,s1,r1⟩) (M.length:Nat) (JG M) mk mp mq ms mr ((vE (UP M ⟨mk,mp,mq,ms,mr⟩ E):Nat):Int) E EV (opp h0) (opn h0) hsw (fun W hb hz=>(BO W hb hz).mono ?_);rintro e w' ⟨hp,hs,h1,hA,h2⟩;have hB:=hA.bin o k1 p1 q1 s1 r1 k2 p2 q2 s2 r2 wa wb;rw[hN] at hB;have hm1:=hA.mt k2 p2 q2 s2 r2 wb.r;have w1:=hA.wf ⟨k2,p2,q2,s2,r2⟩;rw[hM] at hm1 w1;have hg1:=hA.get mk mp mq ms mr E w1.r he;rw[hx] at hg1;exact⟨hp,hs,h1,⟨hB,hA.un o k1 p1 q1 s1 r1 wa,hA.ct,hA.rct,hA.sz,hA.rsz,hm1,hg1⟩,h2⟩
theorem Md (hg:Glob w) (T Dt F:Int) (so:Option Addr) (cap:Nat) (fs:List Fd) (o:Int) (k1 p1 q1:Int) (s1:ByteArray) (r1:Int) (k2 p2 q2:Int) (s2:ByteArray) (r2:Int) (wa:WfV ⟨k1,p1,q1,s1,r1⟩) (wb:WfV ⟨k2,p2,q2,s2,r2⟩) (wf:∀f∈fs,FdWf f)
  (hfa:0<fs.length->∃g o,so=some ⟨g,o,none⟩/\g<w.heap.size/\∀k f,fs[k]? =some f->∀j c,f.cells[j]? =some c->w.cell? ⟨g,o+k*9+j,none⟩=some c):
  Calls prog 10 #[.agg #[T,Dt,F,.slice so fs.length cap],.int .i64 o,.agg #[k1,p1,q1,s1,r1],.agg #[k2,p2,q2,s2,r2]] w (BoolPost w true):=by
 by_cases hok:WorldOk T Dt F fs.length
 rotate_left
 ·exact Ct w hg T Dt F so fs.length cap o k1 p1 q1 s1 r1 k2 p2 q2 s2 r2 (fun W=>Ey W T Dt F so fs.length cap hok)
 obtain⟨t0,t1,d0,d1,f0,f1,hn⟩:=hok;obtain⟨T,rfl⟩:=Int.eq_ofNat_of_zero_le t0;obtain⟨Dt,rfl⟩:=Int.eq_ofNat_of_zero_le d0;obtain⟨F,rfl⟩:=Int.eq_ofNat_of_zero_le f0;have hlen:(JN T Dt F fs).length<=1000:=by
  unfold JN;rw[YD,Gi];omega
 have BO:=fun W (hb:Below w w W) (hz:W.heap.size=w.heap.size+1+1+1)=>(XF W T Dt F (by omega) (by omega) (by omega) fs hn wf so cap (fun h=>by
  obtain⟨g,o,rfl,hgl,hc⟩:=hfa h;exact⟨g,o,rfl,Nat.lt_of_lt_of_le hgl hb.size,fun k f hk j c hj=>(hb.cell (p:=⟨g,o+k*9+j,none⟩) hgl).trans (hc k f hk j c hj)⟩)).mono
   (fun e w' ⟨hp,hs,he,hP,hR,hb'⟩=>(⟨hp,hs,he,hans hg (QC hb hb') hP hR (by omega) (by omega) hlen,hb'⟩:∃hp hs:Nat,e=Ending.returned (.tuple #[.pointer (some hp),.pointer (some hs),.bool true])/\HAns w.heap.size hp hs w' (JN T Dt F fs)/\Below W W w'))
 obtain⟨M,hM⟩:∃M,JN T Dt F fs=M:=⟨_,rfl⟩
 rw[hM] at BO;clear hM hlen hfa wf;obtain⟨l1,l2⟩:=LI (ZN M) o ⟨k1,p1,q1,s1,r1⟩ ⟨k2,p2,q2,s2,r2⟩;obtain⟨⟨nk,⟨vk,vp,vq,vs,vr⟩,⟨fk,fp,fq,ft,fr⟩,nl,na,ns⟩,hN⟩:∃X,ZY (ZN M) o ⟨k1,p1,q1,s1,r1⟩ ⟨k2,p2,q2,s2,r2⟩=X:=⟨_,rfl⟩
 rw[hN] at l1 l2;by_cases h2:nk=2
 ·subst h2;obtain⟨e1,e2,e3⟩:=l2 rfl;change nl=_ at e1;change (⟨fk,fp,fq,ft,fr⟩:V)=_ at e2;by_cases hs:o=18\/o=19
  ·have hsw:Gh o ⟨k1,p1,q1,s1,r1⟩ ⟨k2,p2,q2,s2,r2⟩=(⟨k2,p2,q2,s2,r2⟩,⟨k1,p1,q1,s1,r1⟩):=by unfold Gh;rw[if_pos hs]
   rw[hsw] at e1 e2 e3;rw[e1,e2] at hN;refine Cr w hg T Dt F so fs.length cap o k1 p1 q1 s1 r1 k2 p2 q2 s2 r2 wa wb M BO ?_ ⟨vk,vp,vq,vs,vr⟩ na ns hN e3;rcases hs with h|h
   ·exact .inl (beq_iff_eq.2 h)
   ·exact .inr ⟨opp (by omega),beq_iff_eq.2 h⟩
  ·have hsw:Gh o ⟨k1,p1,q1,s1,r1⟩ ⟨k2,p2,q2,s2,r2⟩=(⟨k1,p1,q1,s1,r1⟩,⟨k2,p2,q2,s2,r2⟩):=by unfold Gh;rw[if_neg hs]
   rw[hsw] at e1 e2 e3;rw[e1,e2] at hN;exact Cs w hg T Dt F so fs.length cap o k1 p1 q1 s1 r1 k2 p2 q2 s2 r2 wa wb M BO (opp (by omega)) (opp (by omega)) ⟨vk,vp,vq,vs,vr⟩ na ns hN e3
 ·obtain⟨e1,e2⟩:=l1 h2;change nl=[] at e2;change nk=1\/nk=3 at e1;subst e2;refine Tp w hg T Dt F so fs.length cap o k1 p1 q1 s1 r1 k2 p2 q2 s2 r2 vk vp vq vs vr fk fp fq ft fr na ns (Kl (ZN M) o ⟨k1,p1,q1,s1,r1⟩) (M.length:Nat) (JG M) nk ?_ (fun W hb hz=>(BO W hb hz).mono ?_)
  ·rcases e1 with rfl|rfl
   ·exact .inl ⟨rfl,rfl⟩
   ·exact .inr ⟨rfl,rfl,rfl⟩
  ·rintro e w' ⟨hp,hs,h1,hA,h3⟩;have hB:=hA.bin o k1 p1 q1 s1 r1 k2 p2 q2 s2 r2 wa wb;rw[hN] at hB;exact⟨hp,hs,h1,⟨hB,hA.un o k1 p1 q1 s1 r1 wa,hA.ct,hA.rct,hA.sz,hA.rsz⟩,h3⟩
end Go.Proofs.YthkpckgcgkijbaaGreatDoor
