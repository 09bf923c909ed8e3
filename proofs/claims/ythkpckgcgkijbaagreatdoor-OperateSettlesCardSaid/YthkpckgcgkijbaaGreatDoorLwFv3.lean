import Derived.Test.YthkpckgcgkijbaaGreatDoorTabA
import Derived.Test.YthkpckgcgkijbaaGreatDoorTexA
set_option linter.unusedVariables false
set_option linter.unusedSimpArgs false
set_option maxRecDepth 100000
set_option maxHeartbeats 2000000
namespace Go.Proofs.YthkpckgcgkijbaaGreatDoor
open Go.RowKit Go.Proofs.Lexi
theorem prj14 {c0 c1 c2 c3 c4 c5 c6 c7 c8 c9 c10 c11 c12 c13 p:Prop} (h:c0∧c1∧c2∧c3∧c4∧c5∧c6∧c7∧c8∧c9∧c10∧c11∧c12∧c13∧Hid p):p:=h.2.2.2.2.2.2.2.2.2.2.2.2.2.2.out
theorem first_stays {w W:World} {so:Option Addr} {n:Nat} {x:V} (hx:0<n→∃g o,so=some ⟨g,o,none⟩∧g<w.heap.size∧w.cell? ⟨g,o,none⟩=some (.int .i64 x.k)∧w.cell? ⟨g,o+1,none⟩=some (.int .i64 x.p)∧w.cell? ⟨g,o+2,none⟩=some (.int .i64 x.q)∧w.cell? ⟨g,o+3,none⟩=some (.string x.s)∧w.cell? ⟨g,o+4,none⟩=some (.int .i64 x.r)) (hb:Below w.heap.size w W):
  0<n→∃g o,so=some ⟨g,o,none⟩∧g<W.heap.size∧W.cell? ⟨g,o,none⟩=some (.int .i64 x.k)∧W.cell? ⟨g,o+1,none⟩=some (.int .i64 x.p)∧W.cell? ⟨g,o+2,none⟩=some (.int .i64 x.q)∧W.cell? ⟨g,o+3,none⟩=some (.string x.s)∧W.cell? ⟨g,o+4,none⟩=some (.int .i64 x.r):=fun h=>by
 obtain⟨g,o,h1,h2,h3,h4,h5,h6,h7⟩:=hx h
 exact⟨g,o,h1,Nat.lt_of_lt_of_le h2 hb.size,(hb.cell (p:=⟨g,o,none⟩) h2).trans h3,(hb.cell (p:=⟨g,o+1,none⟩) h2).trans h4,(hb.cell (p:=⟨g,o+2,none⟩) h2).trans h5,(hb.cell (p:=⟨g,o+3,none⟩) h2).trans h6,(hb.cell (p:=⟨g,o+4,none⟩) h2).trans h7⟩
end Go.Proofs.YthkpckgcgkijbaaGreatDoor
namespace Go.Proofs.YthkpckgcgkijbaaGreatDoor
open Go.ChangeShapes Go.WideShapes Go.ChangeAt Go.WideMaps Go.WideElems Go.RowKit
theorem shapeNeed:∃fs,Tryz.prog.underlying 43=some (.struct fs)∧fs.toList.map (fun f=>(f.type,f.offset))=[(3,0),(25,1),(25,6),(41,11),(3,12),(9,13)]:=under_struct (by kernel_rfl)
theorem cellsNeed:Tryz.prog.cellsOf 43=14:=by kernel_rfl
theorem cellsVals:Tryz.prog.cellsOf 41=1:=by kernel_rfl
theorem underVals:Tryz.prog.underlying 41=some (.slice 25):=by kernel_rfl
theorem list_n14 {α:Type} {l:List α} (h:l.length=14):∃a b c d e f g h i j k m n o,l=[a,b,c,d,e,f,g,h,i,j,k,m,n,o]:=by
 match l,h with
 |[a,b,c,d,e,f,g,h,i,j,k,m,n,o],_=>exact⟨a,b,c,d,e,f,g,h,i,j,k,m,n,o,rfl⟩
theorem open_need {H:Type} {enc:TypeId×Value→H} {w:World} {b0:Nat} {sp:Nat→Bool} {v:Value} {d:DataW H} {ps:List MemPlace} (hval:Value.okWide Tryz.prog w .any b0 43 v) (h:DataW.Trod enc Tryz.prog w 0 sp true 43 v d ps):
  ∃(nk:Int) (x y:V) (ao:Option Addr) (an ac:Nat) (na:Int) (ns:ByteArray),v= .agg #[nk,.int .i64 x.k,.int .i64 x.p,.int .i64 x.q,.string x.s,.int .i64 x.r,.int .i64 y.k,.int .i64 y.p,.int .i64 y.q,.string y.s,.int .i64 y.r,.slice ao an ac,na,ns]:=by
 obtain⟨fs,hfs,_⟩:=shapeNeed
 obtain⟨cs,rfl,_,_⟩:∃cs,v= .agg cs∧cs.size=Tryz.prog.cellsOf 43∧Row.okWide Tryz.prog w .any b0 43 cs:=by
  unfold Value.okWide at hval
  rw[hfs] at hval
  exact hval
 obtain⟨fuel,h⟩:=h
 obtain⟨hl,n,hf⟩:=trod_field shapeNeed h
 rw[cellsNeed] at hl
 obtain⟨y0,h0⟩:=hf 0 3 0 rfl
 obtain⟨y1,h1⟩:=hf 1 25 1 rfl
 obtain⟨y2,h2⟩:=hf 2 25 6 rfl
 obtain⟨y3,h3⟩:=hf 3 41 11 rfl
 obtain⟨y4,h4⟩:=hf 4 3 12 rfl
 obtain⟨y5,h5⟩:=hf 5 9 13 rfl
 rw[celT3] at h0 h4
 rw[cells25] at h1 h2
 rw[cellsVals] at h3
 rw[celT9] at h5
 have hl2:cs.toList.length=14:=hl
 have e0:(Value.cells (.agg cs)).toList=cs.toList:=rfl
 rw[e0] at h0 h1 h2 h3 h4 h5
 obtain⟨a,b,c,d,e,f,g,h,i,j,k,m,n,o,hcs⟩:=list_n14 hl2
 rw[hcs] at h0 h1 h2 h3 h4 h5
 obtain⟨nk,hk,_,_⟩:=DataW.trod_int Tryz.underlying3 h0
 obtain⟨x,hx,_⟩:=open_cells h1
 obtain⟨y,hy,_⟩:=open_cells h2
 obtain⟨na,ha,_,_⟩:=DataW.trod_int Tryz.underlying3 h4
 obtain⟨ns,hs,_,_⟩:=DataW.trod_string Tryz.underlying9 h5
 have h3':∃ao an ac,m= .slice ao an ac:=by
  rcases DataW.trod_slice underVals h3 with⟨e,_⟩|⟨ad,len,cap,elems,rest,q,_,e,_⟩
  ·simp at e
   exact⟨_,_,_,e⟩
  ·simp at e
   exact⟨_,_,_,e⟩
 obtain⟨ao,an,ac,rfl⟩:=h3'
 simp at hk hx hy ha hs
 obtain⟨x1,x2,x3,x4,x5⟩:=hx
 obtain⟨z1,z2,z3,z4,z5⟩:=hy
 subst hk ha hs x1 x2 x3 x4 x5 z1 z2 z3 z4 z5
 exact⟨_,x,y,ao,an,ac,_,_,congrArg Value.agg (Array.toList_inj.1 hcs)⟩
theorem open_vals {H:Type} {enc:TypeId×Value→H} {w:World} {b0:Nat} {sp:Nat→Bool} {v:Value} {d:DataW H} {ps:List MemPlace} (hval:Value.okWide Tryz.prog w .any b0 41 v) (h:DataW.Trod enc Tryz.prog w 0 sp true 41 v d ps):
  ∃(so:Option Addr) (n cap:Nat) (x:V),v= .slice so n cap∧(n=0→x=V.nil)∧(0<n→∃g o,so=some ⟨g,o,none⟩∧g<w.heap.size∧w.cell? ⟨g,o,none⟩=some (.int .i64 x.k)∧w.cell? ⟨g,o+1,none⟩=some (.int .i64 x.p)∧w.cell? ⟨g,o+2,none⟩=some (.int .i64 x.q)∧w.cell? ⟨g,o+3,none⟩=some (.string x.s)∧w.cell? ⟨g,o+4,none⟩=some (.int .i64 x.r)):=by
 obtain⟨a0,l0,c0,rfl⟩:=okWide_slice underVals hval
 obtain⟨fuel,h⟩:=h
 rcases DataW.trod_slice underVals h with⟨e,_⟩|⟨ad,len,cap,elems,rest,m,_,e,_,_,hlc,_,hel,hin,_⟩
 ·simp[Value.cells] at e
  obtain⟨rfl,rfl,rfl⟩:=e
  exact⟨none,0,0,V.nil,rfl,fun _=>rfl,fun h=>by cases h⟩
 ·simp[Value.cells] at e
  obtain⟨rfl,rfl,rfl⟩:=e
  rcases Nat.eq_zero_or_pos l0 with hz|hz
  ·exact⟨_,_,_,V.nil,rfl,fun _=>rfl,fun h=>absurd h (by omega)⟩
  ·have h0:=hin 0 hz
   rw[List.getElem?_eq_getElem (by omega),Option.bind_eq_some_iff,cells25] at h0
   obtain⟨cs,hc,ht⟩:=h0
   obtain⟨x,rfl,_⟩:=open_cells ht
   obtain⟨_,_,hcell⟩:=World.cells?_some hc
   obtain⟨g,o,spot⟩:=ad
   have e0:=hcell 0 (by simp)
   have hspot:spot=none:=by simpa [Addr.add] using World.cell?_spot e0
   subst hspot
   refine⟨_,_,_,x,rfl,fun h=>absurd h (by omega),fun _=>⟨g,o,rfl,?_,?_,?_,?_,?_,?_⟩⟩
   ·simpa [Addr.add] using cell_in e0
   ·simpa [Addr.add] using e0
   ·simpa [Addr.add] using hcell 1 (by simp)
   ·simpa [Addr.add] using hcell 2 (by simp)
   ·simpa [Addr.add] using hcell 3 (by simp)
   ·simpa [Addr.add] using hcell 4 (by simp)
end Go.Proofs.YthkpckgcgkijbaaGreatDoor
namespace Go.Proofs.YthkpckgcgkijbaaGreatDoor
open Go.RowKit Go.Proofs.Lexi
theorem sSettle_val (w:World) (nk vk vp vq:Int) (vs:ByteArray) (vr fk fp fq:Int) (fs:ByteArray) (fr:Int) (av:Value) (na:Int) (ns:ByteArray) (so:Option Addr) (n cap:Nat) (h1:(nk==1)=true):Calls Tryz.prog 25 #[.agg #[nk,vk,vp,vq,vs,vr,fk,fp,fq,fs,fr,av,na,ns],.slice so n cap] w (ValPost w ⟨vk,vp,vq,vs,vr⟩):=by
 go_enter Tryz.func25,Tryz.ntmps25
 go_wp2
 refine bodyPost_ret (by simp[results,Tryz.results25,go_sem];first|done|rfl) rfl ?_
 exact zAo rfl (zAF _ _ _)
theorem sSettle_no0 (w:World) (nk vk vp vq:Int) (vs:ByteArray) (vr fk fp fq:Int) (fs:ByteArray) (fr:Int) (av:Value) (na:Int) (ns:ByteArray) (so:Option Addr) (cap:Nat) (h1:(nk==1)=false) (h2:(nk !=2)=true):Calls Tryz.prog 25 #[.agg #[nk,vk,vp,vq,vs,vr,fk,fp,fq,fs,fr,av,na,ns],.slice so 0 cap] w (ValPost w V.nil):=by
 go_enter Tryz.func25,Tryz.ntmps25
 go_wp2
 refine bodyPost_ret (by simp[results,Tryz.results25,go_sem];first|done|rfl) rfl ?_
 exact zAo rfl (by first|exact zAL _ _ _ _|trace_state)
theorem sSettle_one0 (w:World) (nk vk vp vq:Int) (vs:ByteArray) (vr fk fp fq:Int) (fs:ByteArray) (fr:Int) (av:Value) (na:Int) (ns:ByteArray) (so:Option Addr) (cap:Nat) (h1:(nk==1)=false) (h2:(nk !=2)=false) (h3:(na==1)=true):Calls Tryz.prog 25 #[.agg #[nk,vk,vp,vq,vs,vr,fk,fp,fq,fs,fr,av,na,ns],.slice so 0 cap] w (ValPost w V.nil):=by
 go_enter Tryz.func25,Tryz.ntmps25
 go_wp2
 refine bodyPost_ret (by simp[results,Tryz.results25,go_sem];first|done|rfl) rfl ?_
 exact zAo rfl (by first|exact zAL _ _ _ _|trace_state)
theorem sSettle_other0 (w:World) (nk vk vp vq:Int) (vs:ByteArray) (vr fk fp fq:Int) (fs:ByteArray) (fr:Int) (av:Value) (na:Int) (ns:ByteArray) (so:Option Addr) (cap:Nat) (h1:(nk==1)=false) (h2:(nk !=2)=false) (h3:(na==1)=false) (h4:(na==2)=false) (h5:(na==3)=false):Calls Tryz.prog 25 #[.agg #[nk,vk,vp,vq,vs,vr,fk,fp,fq,fs,fr,av,na,ns],.slice so 0 cap] w (ValPost w V.nil):=by
 go_enter Tryz.func25,Tryz.ntmps25
 go_wp2
 refine bodyPost_ret (by simp[results,Tryz.results25,go_sem];first|done|rfl) rfl ?_
 exact zAo rfl (by first|exact zAL _ _ _ _|trace_state)
theorem sSettle_true0 (w:World) (nk vk vp vq:Int) (vs:ByteArray) (vr fk fp fq:Int) (fs:ByteArray) (fr:Int) (av:Value) (na:Int) (ns:ByteArray) (so:Option Addr) (cap:Nat) (h1:(nk==1)=false) (h2:(nk !=2)=false) (h3:(na==1)=false) (h4:(na==2)=true):Calls Tryz.prog 25 #[.agg #[nk,vk,vp,vq,vs,vr,fk,fp,fq,fs,fr,av,na,ns],.slice so 0 cap] w (ValPost w (boolV (trueV V.nil))):=by
 go_enter Tryz.func25,Tryz.ntmps25
 go_wp2_with fail
 refine(sTrue_c _ 0 0 0 ⟨#[]⟩ 0).mono ?_
 rintro e w1 ⟨rfl,hb⟩
 have Hu1:=hkh hb (zAY _ _ _ _)
 have HW1:=hbn (zAL _ _ _ _) hb
 have hz1:=hb.size
 try simp at hz1
 clear hb
 go_wp2_with fail
 refine(zBR _ _).mono ?_
 rintro e w2 ⟨rfl,hb⟩
 have Hu2:=hkh hb Hu1.out
 have HW2:=hbn HW1.out hb
 have hz2:=hb.size
 try simp at hz2
 clear hb
 have hyu:w.heap.size+1<w2.heap.size:=hsz Hu2
 obtain⟨u0,u1,u2,u3,u4⟩:=cells5 Hu2.out
 obtain⟨fu0,fu1,fu2,fu3,fu4⟩:=froz5 Hu2.out
 go_wp2
 refine bodyPost_ret (by simp[results,Tryz.results25,go_sem,hyu,u0,u1,u2,u3,u4];first|done|rfl) rfl ?_
 exact zAo rfl (zAH HW2.out (by omega) _ _ _ _ _)
theorem sSettle_false0 (w:World) (nk vk vp vq:Int) (vs:ByteArray) (vr fk fp fq:Int) (fs:ByteArray) (fr:Int) (av:Value) (na:Int) (ns:ByteArray) (so:Option Addr) (cap:Nat) (h1:(nk==1)=false) (h2:(nk !=2)=false) (h3:(na==1)=false) (h4:(na==2)=false) (h5:(na==3)=true):Calls Tryz.prog 25 #[.agg #[nk,vk,vp,vq,vs,vr,fk,fp,fq,fs,fr,av,na,ns],.slice so 0 cap] w (ValPost w (boolV (!trueV V.nil))):=by
 go_enter Tryz.func25,Tryz.ntmps25
 go_wp2_with fail
 refine(sTrue_c _ 0 0 0 ⟨#[]⟩ 0).mono ?_
 rintro e w1 ⟨rfl,hb⟩
 have Hu1:=hkh hb (zAY _ _ _ _)
 have HW1:=hbn (zAL _ _ _ _) hb
 have hz1:=hb.size
 try simp at hz1
 clear hb
 go_wp2_with fail
 refine(zBR _ _).mono ?_
 rintro e w2 ⟨rfl,hb⟩
 have Hu2:=hkh hb Hu1.out
 have HW2:=hbn HW1.out hb
 have hz2:=hb.size
 try simp at hz2
 clear hb
 have hyu:w.heap.size+1<w2.heap.size:=hsz Hu2
 obtain⟨u0,u1,u2,u3,u4⟩:=cells5 Hu2.out
 obtain⟨fu0,fu1,fu2,fu3,fu4⟩:=froz5 Hu2.out
 go_wp2
 refine bodyPost_ret (by simp[results,Tryz.results25,go_sem,hyu,u0,u1,u2,u3,u4];first|done|rfl) rfl ?_
 exact zAo rfl (zAH HW2.out (by omega) _ _ _ _ _)
theorem sSettle_nox (w:World) (nk vk vp vq:Int) (vs:ByteArray) (vr fk fp fq:Int) (fs:ByteArray) (fr:Int) (av:Value) (na:Int) (ns:ByteArray) (g o n cap:Nat) (hg:g<w.heap.size) (hn:0<n) (xk xp xq:Int) (xs:ByteArray) (xr:Int) (x0:w.cell? ⟨g,o,none⟩=some (.int .i64 xk)) (x1:w.cell? ⟨g,o+1,none⟩=some (.int .i64 xp)) (x2:w.cell? ⟨g,o+2,none⟩=some (.int .i64 xq)) (x3:w.cell? ⟨g,o+3,none⟩=some (.string xs)) (x4:w.cell? ⟨g,o+4,none⟩=some (.int .i64 xr)) (h1:(nk==1)=false) (h2:(nk !=2)=true):Calls Tryz.prog 25 #[.agg #[nk,vk,vp,vq,vs,vr,fk,fp,fq,fs,fr,av,na,ns],.slice (some ⟨g,o,none⟩) n cap] w (ValPost w V.nil):=by
 have hn1:((n:Nat):Int)>0:=by omega
 have hn2:decide ((0:Int)<(n:Nat))=true:=by rw[decide_eq_true_eq];omega
 have y0:(((w.alloc (.cells #[nk,vk,vp,vq,vs,vr,fk,fp,fq,fs,fr,av,na,ns] 43)).alloc (.cells #[.int .i64 0,.int .i64 0,.int .i64 0,.string ⟨#[]⟩,.int .i64 0] 25)).alloc (.cells #[.int .i64 0,.int .i64 0,.int .i64 0,.string ⟨#[]⟩,.int .i64 0] 25)).cell? ⟨g,o,none⟩=some (.int .i64 xk):=((zAL w _ _ _).cell (p:=⟨g,o,none⟩) hg).trans x0
 have y1:(((w.alloc (.cells #[nk,vk,vp,vq,vs,vr,fk,fp,fq,fs,fr,av,na,ns] 43)).alloc (.cells #[.int .i64 0,.int .i64 0,.int .i64 0,.string ⟨#[]⟩,.int .i64 0] 25)).alloc (.cells #[.int .i64 0,.int .i64 0,.int .i64 0,.string ⟨#[]⟩,.int .i64 0] 25)).cell? ⟨g,o+1,none⟩=some (.int .i64 xp):=((zAL w _ _ _).cell (p:=⟨g,o+1,none⟩) hg).trans x1
 have y2:(((w.alloc (.cells #[nk,vk,vp,vq,vs,vr,fk,fp,fq,fs,fr,av,na,ns] 43)).alloc (.cells #[.int .i64 0,.int .i64 0,.int .i64 0,.string ⟨#[]⟩,.int .i64 0] 25)).alloc (.cells #[.int .i64 0,.int .i64 0,.int .i64 0,.string ⟨#[]⟩,.int .i64 0] 25)).cell? ⟨g,o+2,none⟩=some (.int .i64 xq):=((zAL w _ _ _).cell (p:=⟨g,o+2,none⟩) hg).trans x2
 have y3:(((w.alloc (.cells #[nk,vk,vp,vq,vs,vr,fk,fp,fq,fs,fr,av,na,ns] 43)).alloc (.cells #[.int .i64 0,.int .i64 0,.int .i64 0,.string ⟨#[]⟩,.int .i64 0] 25)).alloc (.cells #[.int .i64 0,.int .i64 0,.int .i64 0,.string ⟨#[]⟩,.int .i64 0] 25)).cell? ⟨g,o+3,none⟩=some (.string xs):=((zAL w _ _ _).cell (p:=⟨g,o+3,none⟩) hg).trans x3
 have y4:(((w.alloc (.cells #[nk,vk,vp,vq,vs,vr,fk,fp,fq,fs,fr,av,na,ns] 43)).alloc (.cells #[.int .i64 0,.int .i64 0,.int .i64 0,.string ⟨#[]⟩,.int .i64 0] 25)).alloc (.cells #[.int .i64 0,.int .i64 0,.int .i64 0,.string ⟨#[]⟩,.int .i64 0] 25)).cell? ⟨g,o+4,none⟩=some (.int .i64 xr):=((zAL w _ _ _).cell (p:=⟨g,o+4,none⟩) hg).trans x4
 go_enter Tryz.func25,Tryz.ntmps25
 go_wp2
 refine bodyPost_ret (by simp[results,Tryz.results25,go_sem];first|done|rfl) rfl ?_
 exact zAo rfl (by first|exact zAL _ _ _ _|trace_state)
theorem sSettle_onex (w:World) (nk vk vp vq:Int) (vs:ByteArray) (vr fk fp fq:Int) (fs:ByteArray) (fr:Int) (av:Value) (na:Int) (ns:ByteArray) (g o n cap:Nat) (hg:g<w.heap.size) (hn:0<n) (xk xp xq:Int) (xs:ByteArray) (xr:Int) (x0:w.cell? ⟨g,o,none⟩=some (.int .i64 xk)) (x1:w.cell? ⟨g,o+1,none⟩=some (.int .i64 xp)) (x2:w.cell? ⟨g,o+2,none⟩=some (.int .i64 xq)) (x3:w.cell? ⟨g,o+3,none⟩=some (.string xs)) (x4:w.cell? ⟨g,o+4,none⟩=some (.int .i64 xr)) (h1:(nk==1)=false) (h2:(nk !=2)=false) (h3:(na==1)=true):Calls Tryz.prog 25 #[.agg #[nk,vk,vp,vq,vs,vr,fk,fp,fq,fs,fr,av,na,ns],.slice (some ⟨g,o,none⟩) n cap] w (ValPost w ⟨xk,xp,xq,xs,xr⟩):=by
 have hn1:((n:Nat):Int)>0:=by omega
 have hn2:decide ((0:Int)<(n:Nat))=true:=by rw[decide_eq_true_eq];omega
 have y0:(((w.alloc (.cells #[nk,vk,vp,vq,vs,vr,fk,fp,fq,fs,fr,av,na,ns] 43)).alloc (.cells #[.int .i64 0,.int .i64 0,.int .i64 0,.string ⟨#[]⟩,.int .i64 0] 25)).alloc (.cells #[.int .i64 0,.int .i64 0,.int .i64 0,.string ⟨#[]⟩,.int .i64 0] 25)).cell? ⟨g,o,none⟩=some (.int .i64 xk):=((zAL w _ _ _).cell (p:=⟨g,o,none⟩) hg).trans x0
 have y1:(((w.alloc (.cells #[nk,vk,vp,vq,vs,vr,fk,fp,fq,fs,fr,av,na,ns] 43)).alloc (.cells #[.int .i64 0,.int .i64 0,.int .i64 0,.string ⟨#[]⟩,.int .i64 0] 25)).alloc (.cells #[.int .i64 0,.int .i64 0,.int .i64 0,.string ⟨#[]⟩,.int .i64 0] 25)).cell? ⟨g,o+1,none⟩=some (.int .i64 xp):=((zAL w _ _ _).cell (p:=⟨g,o+1,none⟩) hg).trans x1
 have y2:(((w.alloc (.cells #[nk,vk,vp,vq,vs,vr,fk,fp,fq,fs,fr,av,na,ns] 43)).alloc (.cells #[.int .i64 0,.int .i64 0,.int .i64 0,.string ⟨#[]⟩,.int .i64 0] 25)).alloc (.cells #[.int .i64 0,.int .i64 0,.int .i64 0,.string ⟨#[]⟩,.int .i64 0] 25)).cell? ⟨g,o+2,none⟩=some (.int .i64 xq):=((zAL w _ _ _).cell (p:=⟨g,o+2,none⟩) hg).trans x2
 have y3:(((w.alloc (.cells #[nk,vk,vp,vq,vs,vr,fk,fp,fq,fs,fr,av,na,ns] 43)).alloc (.cells #[.int .i64 0,.int .i64 0,.int .i64 0,.string ⟨#[]⟩,.int .i64 0] 25)).alloc (.cells #[.int .i64 0,.int .i64 0,.int .i64 0,.string ⟨#[]⟩,.int .i64 0] 25)).cell? ⟨g,o+3,none⟩=some (.string xs):=((zAL w _ _ _).cell (p:=⟨g,o+3,none⟩) hg).trans x3
 have y4:(((w.alloc (.cells #[nk,vk,vp,vq,vs,vr,fk,fp,fq,fs,fr,av,na,ns] 43)).alloc (.cells #[.int .i64 0,.int .i64 0,.int .i64 0,.string ⟨#[]⟩,.int .i64 0] 25)).alloc (.cells #[.int .i64 0,.int .i64 0,.int .i64 0,.string ⟨#[]⟩,.int .i64 0] 25)).cell? ⟨g,o+4,none⟩=some (.int .i64 xr):=((zAL w _ _ _).cell (p:=⟨g,o+4,none⟩) hg).trans x4
 go_enter Tryz.func25,Tryz.ntmps25
 go_wp2
 refine bodyPost_ret (by simp[results,Tryz.results25,go_sem];first|done|rfl) rfl ?_
 exact zAo rfl (by first|exact zAL _ _ _ _|trace_state)
theorem sSettle_otherx (w:World) (nk vk vp vq:Int) (vs:ByteArray) (vr fk fp fq:Int) (fs:ByteArray) (fr:Int) (av:Value) (na:Int) (ns:ByteArray) (g o n cap:Nat) (hg:g<w.heap.size) (hn:0<n) (xk xp xq:Int) (xs:ByteArray) (xr:Int) (x0:w.cell? ⟨g,o,none⟩=some (.int .i64 xk)) (x1:w.cell? ⟨g,o+1,none⟩=some (.int .i64 xp)) (x2:w.cell? ⟨g,o+2,none⟩=some (.int .i64 xq)) (x3:w.cell? ⟨g,o+3,none⟩=some (.string xs)) (x4:w.cell? ⟨g,o+4,none⟩=some (.int .i64 xr)) (h1:(nk==1)=false) (h2:(nk !=2)=false) (h3:(na==1)=false) (h4:(na==2)=false) (h5:(na==3)=false):Calls Tryz.prog 25 #[.agg #[nk,vk,vp,vq,vs,vr,fk,fp,fq,fs,fr,av,na,ns],.slice (some ⟨g,o,none⟩) n cap] w (ValPost w V.nil):=by
 have hn1:((n:Nat):Int)>0:=by omega
 have hn2:decide ((0:Int)<(n:Nat))=true:=by rw[decide_eq_true_eq];omega
 have y0:(((w.alloc (.cells #[nk,vk,vp,vq,vs,vr,fk,fp,fq,fs,fr,av,na,ns] 43)).alloc (.cells #[.int .i64 0,.int .i64 0,.int .i64 0,.string ⟨#[]⟩,.int .i64 0] 25)).alloc (.cells #[.int .i64 0,.int .i64 0,.int .i64 0,.string ⟨#[]⟩,.int .i64 0] 25)).cell? ⟨g,o,none⟩=some (.int .i64 xk):=((zAL w _ _ _).cell (p:=⟨g,o,none⟩) hg).trans x0
 have y1:(((w.alloc (.cells #[nk,vk,vp,vq,vs,vr,fk,fp,fq,fs,fr,av,na,ns] 43)).alloc (.cells #[.int .i64 0,.int .i64 0,.int .i64 0,.string ⟨#[]⟩,.int .i64 0] 25)).alloc (.cells #[.int .i64 0,.int .i64 0,.int .i64 0,.string ⟨#[]⟩,.int .i64 0] 25)).cell? ⟨g,o+1,none⟩=some (.int .i64 xp):=((zAL w _ _ _).cell (p:=⟨g,o+1,none⟩) hg).trans x1
 have y2:(((w.alloc (.cells #[nk,vk,vp,vq,vs,vr,fk,fp,fq,fs,fr,av,na,ns] 43)).alloc (.cells #[.int .i64 0,.int .i64 0,.int .i64 0,.string ⟨#[]⟩,.int .i64 0] 25)).alloc (.cells #[.int .i64 0,.int .i64 0,.int .i64 0,.string ⟨#[]⟩,.int .i64 0] 25)).cell? ⟨g,o+2,none⟩=some (.int .i64 xq):=((zAL w _ _ _).cell (p:=⟨g,o+2,none⟩) hg).trans x2
 have y3:(((w.alloc (.cells #[nk,vk,vp,vq,vs,vr,fk,fp,fq,fs,fr,av,na,ns] 43)).alloc (.cells #[.int .i64 0,.int .i64 0,.int .i64 0,.string ⟨#[]⟩,.int .i64 0] 25)).alloc (.cells #[.int .i64 0,.int .i64 0,.int .i64 0,.string ⟨#[]⟩,.int .i64 0] 25)).cell? ⟨g,o+3,none⟩=some (.string xs):=((zAL w _ _ _).cell (p:=⟨g,o+3,none⟩) hg).trans x3
 have y4:(((w.alloc (.cells #[nk,vk,vp,vq,vs,vr,fk,fp,fq,fs,fr,av,na,ns] 43)).alloc (.cells #[.int .i64 0,.int .i64 0,.int .i64 0,.string ⟨#[]⟩,.int .i64 0] 25)).alloc (.cells #[.int .i64 0,.int .i64 0,.int .i64 0,.string ⟨#[]⟩,.int .i64 0] 25)).cell? ⟨g,o+4,none⟩=some (.int .i64 xr):=((zAL w _ _ _).cell (p:=⟨g,o+4,none⟩) hg).trans x4
 go_enter Tryz.func25,Tryz.ntmps25
 go_wp2
 refine bodyPost_ret (by simp[results,Tryz.results25,go_sem];first|done|rfl) rfl ?_
 exact zAo rfl (by first|exact zAL _ _ _ _|trace_state)
theorem sSettle_truex (w:World) (nk vk vp vq:Int) (vs:ByteArray) (vr fk fp fq:Int) (fs:ByteArray) (fr:Int) (av:Value) (na:Int) (ns:ByteArray) (g o n cap:Nat) (hg:g<w.heap.size) (hn:0<n) (xk xp xq:Int) (xs:ByteArray) (xr:Int) (x0:w.cell? ⟨g,o,none⟩=some (.int .i64 xk)) (x1:w.cell? ⟨g,o+1,none⟩=some (.int .i64 xp)) (x2:w.cell? ⟨g,o+2,none⟩=some (.int .i64 xq)) (x3:w.cell? ⟨g,o+3,none⟩=some (.string xs)) (x4:w.cell? ⟨g,o+4,none⟩=some (.int .i64 xr)) (h1:(nk==1)=false) (h2:(nk !=2)=false) (h3:(na==1)=false) (h4:(na==2)=true):Calls Tryz.prog 25 #[.agg #[nk,vk,vp,vq,vs,vr,fk,fp,fq,fs,fr,av,na,ns],.slice (some ⟨g,o,none⟩) n cap] w (ValPost w (boolV (trueV ⟨xk,xp,xq,xs,xr⟩))):=by
 have hn1:((n:Nat):Int)>0:=by omega
 have hn2:decide ((0:Int)<(n:Nat))=true:=by rw[decide_eq_true_eq];omega
 have y0:(((w.alloc (.cells #[nk,vk,vp,vq,vs,vr,fk,fp,fq,fs,fr,av,na,ns] 43)).alloc (.cells #[.int .i64 0,.int .i64 0,.int .i64 0,.string ⟨#[]⟩,.int .i64 0] 25)).alloc (.cells #[.int .i64 0,.int .i64 0,.int .i64 0,.string ⟨#[]⟩,.int .i64 0] 25)).cell? ⟨g,o,none⟩=some (.int .i64 xk):=((zAL w _ _ _).cell (p:=⟨g,o,none⟩) hg).trans x0
 have y1:(((w.alloc (.cells #[nk,vk,vp,vq,vs,vr,fk,fp,fq,fs,fr,av,na,ns] 43)).alloc (.cells #[.int .i64 0,.int .i64 0,.int .i64 0,.string ⟨#[]⟩,.int .i64 0] 25)).alloc (.cells #[.int .i64 0,.int .i64 0,.int .i64 0,.string ⟨#[]⟩,.int .i64 0] 25)).cell? ⟨g,o+1,none⟩=some (.int .i64 xp):=((zAL w _ _ _).cell (p:=⟨g,o+1,none⟩) hg).trans x1
 have y2:(((w.alloc (.cells #[nk,vk,vp,vq,vs,vr,fk,fp,fq,fs,fr,av,na,ns] 43)).alloc (.cells #[.int .i64 0,.int .i64 0,.int .i64 0,.string ⟨#[]⟩,.int .i64 0] 25)).alloc (.cells #[.int .i64 0,.int .i64 0,.int .i64 0,.string ⟨#[]⟩,.int .i64 0] 25)).cell? ⟨g,o+2,none⟩=some (.int .i64 xq):=((zAL w _ _ _).cell (p:=⟨g,o+2,none⟩) hg).trans x2
 have y3:(((w.alloc (.cells #[nk,vk,vp,vq,vs,vr,fk,fp,fq,fs,fr,av,na,ns] 43)).alloc (.cells #[.int .i64 0,.int .i64 0,.int .i64 0,.string ⟨#[]⟩,.int .i64 0] 25)).alloc (.cells #[.int .i64 0,.int .i64 0,.int .i64 0,.string ⟨#[]⟩,.int .i64 0] 25)).cell? ⟨g,o+3,none⟩=some (.string xs):=((zAL w _ _ _).cell (p:=⟨g,o+3,none⟩) hg).trans x3
 have y4:(((w.alloc (.cells #[nk,vk,vp,vq,vs,vr,fk,fp,fq,fs,fr,av,na,ns] 43)).alloc (.cells #[.int .i64 0,.int .i64 0,.int .i64 0,.string ⟨#[]⟩,.int .i64 0] 25)).alloc (.cells #[.int .i64 0,.int .i64 0,.int .i64 0,.string ⟨#[]⟩,.int .i64 0] 25)).cell? ⟨g,o+4,none⟩=some (.int .i64 xr):=((zAL w _ _ _).cell (p:=⟨g,o+4,none⟩) hg).trans x4
 go_enter Tryz.func25,Tryz.ntmps25
 go_wp2_with fail
 refine(sTrue_c _ xk xp xq xs xr).mono ?_
 rintro e w1 ⟨rfl,hb⟩
 have Hu1:=hkh hb (zAY _ _ _ _)
 have HW1:=hbn (zAL _ _ _ _) hb
 have hz1:=hb.size
 try simp at hz1
 clear hb
 go_wp2_with fail
 refine(zBR _ _).mono ?_
 rintro e w2 ⟨rfl,hb⟩
 have Hu2:=hkh hb Hu1.out
 have HW2:=hbn HW1.out hb
 have hz2:=hb.size
 try simp at hz2
 clear hb
 have hyu:w.heap.size+1<w2.heap.size:=hsz Hu2
 obtain⟨u0,u1,u2,u3,u4⟩:=cells5 Hu2.out
 obtain⟨fu0,fu1,fu2,fu3,fu4⟩:=froz5 Hu2.out
 go_wp2
 refine bodyPost_ret (by simp[results,Tryz.results25,go_sem,hyu,u0,u1,u2,u3,u4];first|done|rfl) rfl ?_
 exact zAo rfl (zAH HW2.out (by omega) _ _ _ _ _)
theorem sSettle_falsex (w:World) (nk vk vp vq:Int) (vs:ByteArray) (vr fk fp fq:Int) (fs:ByteArray) (fr:Int) (av:Value) (na:Int) (ns:ByteArray) (g o n cap:Nat) (hg:g<w.heap.size) (hn:0<n) (xk xp xq:Int) (xs:ByteArray) (xr:Int) (x0:w.cell? ⟨g,o,none⟩=some (.int .i64 xk)) (x1:w.cell? ⟨g,o+1,none⟩=some (.int .i64 xp)) (x2:w.cell? ⟨g,o+2,none⟩=some (.int .i64 xq)) (x3:w.cell? ⟨g,o+3,none⟩=some (.string xs)) (x4:w.cell? ⟨g,o+4,none⟩=some (.int .i64 xr)) (h1:(nk==1)=false) (h2:(nk !=2)=false) (h3:(na==1)=false) (h4:(na==2)=false) (h5:(na==3)=true):Calls Tryz.prog 25 #[.agg #[nk,vk,vp,vq,vs,vr,fk,fp,fq,fs,fr,av,na,ns],.slice (some ⟨g,o,none⟩) n cap] w (ValPost w (boolV (!trueV ⟨xk,xp,xq,xs,xr⟩))):=by
 have hn1:((n:Nat):Int)>0:=by omega
 have hn2:decide ((0:Int)<(n:Nat))=true:=by rw[decide_eq_true_eq];omega
 have y0:(((w.alloc (.cells #[nk,vk,vp,vq,vs,vr,fk,fp,fq,fs,fr,av,na,ns] 43)).alloc (.cells #[.int .i64 0,.int .i64 0,.int .i64 0,.string ⟨#[]⟩,.int .i64 0] 25)).alloc (.cells #[.int .i64 0,.int .i64 0,.int .i64 0,.string ⟨#[]⟩,.int .i64 0] 25)).cell? ⟨g,o,none⟩=some (.int .i64 xk):=((zAL w _ _ _).cell (p:=⟨g,o,none⟩) hg).trans x0
 have y1:(((w.alloc (.cells #[nk,vk,vp,vq,vs,vr,fk,fp,fq,fs,fr,av,na,ns] 43)).alloc (.cells #[.int .i64 0,.int .i64 0,.int .i64 0,.string ⟨#[]⟩,.int .i64 0] 25)).alloc (.cells #[.int .i64 0,.int .i64 0,.int .i64 0,.string ⟨#[]⟩,.int .i64 0] 25)).cell? ⟨g,o+1,none⟩=some (.int .i64 xp):=((zAL w _ _ _).cell (p:=⟨g,o+1,none⟩) hg).trans x1
 have y2:(((w.alloc (.cells #[nk,vk,vp,vq,vs,vr,fk,fp,fq,fs,fr,av,na,ns] 43)).alloc (.cells #[.int .i64 0,.int .i64 0,.int .i64 0,.string ⟨#[]⟩,.int .i64 0] 25)).alloc (.cells #[.int .i64 0,.int .i64 0,.int .i64 0,.string ⟨#[]⟩,.int .i64 0] 25)).cell? ⟨g,o+2,none⟩=some (.int .i64 xq):=((zAL w _ _ _).cell (p:=⟨g,o+2,none⟩) hg).trans x2
 have y3:(((w.alloc (.cells #[nk,vk,vp,vq,vs,vr,fk,fp,fq,fs,fr,av,na,ns] 43)).alloc (.cells #[.int .i64 0,.int .i64 0,.int .i64 0,.string ⟨#[]⟩,.int .i64 0] 25)).alloc (.cells #[.int .i64 0,.int .i64 0,.int .i64 0,.string ⟨#[]⟩,.int .i64 0] 25)).cell? ⟨g,o+3,none⟩=some (.string xs):=((zAL w _ _ _).cell (p:=⟨g,o+3,none⟩) hg).trans x3
 have y4:(((w.alloc (.cells #[nk,vk,vp,vq,vs,vr,fk,fp,fq,fs,fr,av,na,ns] 43)).alloc (.cells #[.int .i64 0,.int .i64 0,.int .i64 0,.string ⟨#[]⟩,.int .i64 0] 25)).alloc (.cells #[.int .i64 0,.int .i64 0,.int .i64 0,.string ⟨#[]⟩,.int .i64 0] 25)).cell? ⟨g,o+4,none⟩=some (.int .i64 xr):=((zAL w _ _ _).cell (p:=⟨g,o+4,none⟩) hg).trans x4
 go_enter Tryz.func25,Tryz.ntmps25
 go_wp2_with fail
 refine(sTrue_c _ xk xp xq xs xr).mono ?_
 rintro e w1 ⟨rfl,hb⟩
 have Hu1:=hkh hb (zAY _ _ _ _)
 have HW1:=hbn (zAL _ _ _ _) hb
 have hz1:=hb.size
 try simp at hz1
 clear hb
 go_wp2_with fail
 refine(zBR _ _).mono ?_
 rintro e w2 ⟨rfl,hb⟩
 have Hu2:=hkh hb Hu1.out
 have HW2:=hbn HW1.out hb
 have hz2:=hb.size
 try simp at hz2
 clear hb
 have hyu:w.heap.size+1<w2.heap.size:=hsz Hu2
 obtain⟨u0,u1,u2,u3,u4⟩:=cells5 Hu2.out
 obtain⟨fu0,fu1,fu2,fu3,fu4⟩:=froz5 Hu2.out
 go_wp2
 refine bodyPost_ret (by simp[results,Tryz.results25,go_sem,hyu,u0,u1,u2,u3,u4];first|done|rfl) rfl ?_
 exact zAo rfl (zAH HW2.out (by omega) _ _ _ _ _)
theorem sSettle_c (w:World) (nk vk vp vq:Int) (vs:ByteArray) (vr fk fp fq:Int) (fs:ByteArray) (fr:Int) (av:Value) (na:Int) (ns:ByteArray) (so:Option Addr) (n cap:Nat) (x:V) (h0:n=0→x=V.nil)
  (hx:0<n→∃g o,so=some ⟨g,o,none⟩∧g<w.heap.size∧w.cell? ⟨g,o,none⟩=some (.int .i64 x.k)∧w.cell? ⟨g,o+1,none⟩=some (.int .i64 x.p)∧w.cell? ⟨g,o+2,none⟩=some (.int .i64 x.q)∧w.cell? ⟨g,o+3,none⟩=some (.string x.s)∧w.cell? ⟨g,o+4,none⟩=some (.int .i64 x.r)):
  Calls Tryz.prog 25 #[.agg #[nk,vk,vp,vq,vs,vr,fk,fp,fq,fs,fr,av,na,ns],.slice so n cap] w (ValPost w (settleR nk na ⟨vk,vp,vq,vs,vr⟩ x)):=by
 unfold settleR
 by_cases h1:nk=1
 ·rw[if_pos h1]
  exact sSettle_val w nk vk vp vq vs vr fk fp fq fs fr av na ns so n cap (beq_iff_eq.2 h1)
 ·rw[if_neg h1]
  have h1':=beq_eq_false_iff_ne.2 h1
  rcases Nat.eq_zero_or_pos n with hn|hn
  ·subst hn
   obtain rfl:=h0 rfl
   by_cases h2:nk=2
   ·have h2':(nk !=2)=false:=by rw[bne_eq_false_iff_eq];exact h2
    rw[if_neg (fun h=>h h2)]
    by_cases h3:na=1
    ·rw[if_pos h3];exact sSettle_one0 w nk vk vp vq vs vr fk fp fq fs fr av na ns so cap h1' h2' (beq_iff_eq.2 h3)
    ·rw[if_neg h3]
     have h3':=beq_eq_false_iff_ne.2 h3
     by_cases h4:na=2
     ·rw[if_pos h4];exact sSettle_true0 w nk vk vp vq vs vr fk fp fq fs fr av na ns so cap h1' h2' h3' (beq_iff_eq.2 h4)
     ·rw[if_neg h4]
      have h4':=beq_eq_false_iff_ne.2 h4
      by_cases h5:na=3
      ·rw[if_pos h5];exact sSettle_false0 w nk vk vp vq vs vr fk fp fq fs fr av na ns so cap h1' h2' h3' h4' (beq_iff_eq.2 h5)
      ·rw[if_neg h5];exact sSettle_other0 w nk vk vp vq vs vr fk fp fq fs fr av na ns so cap h1' h2' h3' h4' (beq_eq_false_iff_ne.2 h5)
   ·rw[if_pos h2]
    exact sSettle_no0 w nk vk vp vq vs vr fk fp fq fs fr av na ns so cap h1' (by rw[bne_iff_ne];exact h2)
  ·obtain⟨g,o,rfl,hg,x0,x1,x2,x3,x4⟩:=hx hn
   obtain⟨xk,xp,xq,xs,xr⟩:=x
   by_cases h2:nk=2
   ·have h2':(nk !=2)=false:=by rw[bne_eq_false_iff_eq];exact h2
    rw[if_neg (fun h=>h h2)]
    by_cases h3:na=1
    ·rw[if_pos h3];exact sSettle_onex w nk vk vp vq vs vr fk fp fq fs fr av na ns g o n cap hg hn xk xp xq xs xr x0 x1 x2 x3 x4 h1' h2' (beq_iff_eq.2 h3)
    ·rw[if_neg h3]
     have h3':=beq_eq_false_iff_ne.2 h3
     by_cases h4:na=2
     ·rw[if_pos h4];exact sSettle_truex w nk vk vp vq vs vr fk fp fq fs fr av na ns g o n cap hg hn xk xp xq xs xr x0 x1 x2 x3 x4 h1' h2' h3' (beq_iff_eq.2 h4)
     ·rw[if_neg h4]
      have h4':=beq_eq_false_iff_ne.2 h4
      by_cases h5:na=3
      ·rw[if_pos h5];exact sSettle_falsex w nk vk vp vq vs vr fk fp fq fs fr av na ns g o n cap hg hn xk xp xq xs xr x0 x1 x2 x3 x4 h1' h2' h3' h4' (beq_iff_eq.2 h5)
      ·rw[if_neg h5];exact sSettle_otherx w nk vk vp vq vs vr fk fp fq fs fr av na ns g o n cap hg hn xk xp xq xs xr x0 x1 x2 x3 x4 h1' h2' h3' h4' (beq_eq_false_iff_ne.2 h5)
   ·rw[if_pos h2]
    exact sSettle_nox w nk vk vp vq vs vr fk fp fq fs fr av na ns g o n cap hg hn xk xp xq xs xr x0 x1 x2 x3 x4 h1' (by rw[bne_iff_ne];exact h2)
end Go.Proofs.YthkpckgcgkijbaaGreatDoor
