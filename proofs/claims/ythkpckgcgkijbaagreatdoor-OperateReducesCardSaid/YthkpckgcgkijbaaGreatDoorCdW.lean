import Derived.Test.YthkpckgcgkijbaaGreatDoorHpC
import Derived.Test.YthkpckgcgkijbaaGreatDoorTexA
import Derived.Test.YthkpckgcgkijbaaGreatDoorOpL
set_option linter.unusedVariables false
set_option linter.unusedSimpArgs false
set_option maxRecDepth 100000
set_option maxHeartbeats 20000000
namespace Go.Proofs.YthkpckgcgkijbaaGreatDoor
open Go.ChangeShapes Go.WideShapes Go.ChangeAt Go.WideMaps Go.WideElems Go.RowKit
theorem shapeWorld:∃fs,Tryz.prog.underlying 35=some (.struct fs)∧fs.toList.map (fun f=>(f.type,f.offset))=[(3,0),(3,1),(3,2),(33,3)]:=under_struct (by kernel_rfl)
theorem shapeField:∃fs,Tryz.prog.underlying 66=some (.struct fs)∧fs.toList.map (fun f=>(f.type,f.offset))=[(3,0),(3,1),(3,2),(9,3),(25,4)]:=under_struct (by kernel_rfl)
theorem cellsWorld:Tryz.prog.cellsOf 35=4:=by kernel_rfl
theorem cellsFields:Tryz.prog.cellsOf 33=1:=by kernel_rfl
theorem cellsField:Tryz.prog.cellsOf 66=9:=by kernel_rfl
theorem underFields:Tryz.prog.underlying 33=some (.slice 66):=by kernel_rfl
theorem list_n4 {α:Type} {l:List α} (h:l.length=4):∃a b c d,l=[a,b,c,d]:=by
 match l,h with
 |[a,b,c,d],_=>exact⟨a,b,c,d,rfl⟩
theorem list_n9 {α:Type} {l:List α} (h:l.length=9):∃a b c d e f g h i,l=[a,b,c,d,e,f,g,h,i]:=by
 match l,h with
 |[a,b,c,d,e,f,g,h,i],_=>exact⟨a,b,c,d,e,f,g,h,i,rfl⟩
theorem list_of {α:Type} {P:Nat→α→Prop}:∀(n:Nat),(∀k,k<n→∃x,P k x)→∃l:List α,l.length=n∧∀k x,l[k]? =some x→P k x:=by
 intro n
 induction n with
 |zero=>exact fun _=>⟨[],rfl,fun k x h=>by simp at h⟩
 |succ n ih=>
  intro h
  obtain⟨l,hl,hp⟩:=ih (fun k hk=>h k (by omega))
  obtain⟨x,hx⟩:=h n (by omega)
  refine⟨l++[x],by simp[hl],fun k y hy=> ?_⟩
  by_cases hk:k<l.length
  ·rw[List.getElem?_append_left hk] at hy
   exact hp k y hy
  ·rw[List.getElem?_append_right (by omega)] at hy
   have hlt:=(List.getElem?_eq_some_iff.1 hy).1
   simp at hlt
   have e:k=n:=by omega
   subst e
   rw[hl,Nat.sub_self] at hy
   simp at hy
   rw[←hy]
   exact hx
theorem open_field {H:Type} {enc:TypeId×Value→H} {w:World} {base:Nat} {sp:Nat→Bool} {held:Bool} {fuel:Nat} {cs:List Value} {x:DataW H×List MemPlace} (h:DataW.trod enc Tryz.prog w base sp held fuel 66 cs=some x):
  ∃f:Fd,cs=f.cells∧FdWf f:=by
 obtain⟨hl,n,hf⟩:=trod_field shapeField h
 rw[cellsField] at hl
 obtain⟨y0,h0⟩:=hf 0 3 0 rfl
 obtain⟨y1,h1⟩:=hf 1 3 1 rfl
 obtain⟨y2,h2⟩:=hf 2 3 2 rfl
 obtain⟨y3,h3⟩:=hf 3 9 3 rfl
 obtain⟨y4,h4⟩:=hf 4 25 4 rfl
 rw[celT3] at h0 h1 h2
 rw[celT9] at h3
 rw[cells25] at h4
 obtain⟨a,b,c,d,e,f,g,h,i,hcs⟩:=list_n9 hl
 rw[hcs] at h0 h1 h2 h3 h4
 obtain⟨k,hk,_,wk⟩:=DataW.trod_int Tryz.underlying3 h0
 obtain⟨t,ht,_,wt⟩:=DataW.trod_int Tryz.underlying3 h1
 obtain⟨m,hm,_,wm⟩:=DataW.trod_int Tryz.underlying3 h2
 obtain⟨s,hs,_,ws⟩:=DataW.trod_string Tryz.underlying9 h3
 obtain⟨v,hv,wv⟩:=open_cells h4
 simp at hk ht hm hs hv
 obtain⟨v1,v2,v3,v4,v5⟩:=hv
 subst hk ht hm hs v1 v2 v3 v4 v5
 exact⟨⟨k,t,m,s,v⟩,hcs,⟨i64_of_wf wt,i64_of_wf wm,wv⟩⟩
theorem open_world {H:Type} {enc:TypeId×Value→H} {w:World} {b0:Nat} {sp:Nat→Bool} {v:Value} {d:DataW H} {ps:List MemPlace} (hval:Value.okWide Tryz.prog w .any b0 35 v) (h:DataW.Trod enc Tryz.prog w 0 sp true 35 v d ps):
  ∃(T D F:Int) (so:Option Addr) (cap:Nat) (fs:List Fd),v= .agg #[.int .i64 T,.int .i64 D,.int .i64 F,.slice so fs.length cap]∧(∀f∈fs,FdWf f)∧
   (0<fs.length→∃g o,so=some ⟨g,o,none⟩∧g<w.heap.size∧∀k f,fs[k]? =some f→∀j c,f.cells[j]? =some c→w.cell? ⟨g,o+k*9+j,none⟩=some c):=by
 obtain⟨fs,hfs,_⟩:=shapeWorld
 obtain⟨cs,rfl,_,_⟩:∃cs,v= .agg cs∧cs.size=Tryz.prog.cellsOf 35∧Row.okWide Tryz.prog w .any b0 35 cs:=by
  unfold Value.okWide at hval
  rw[hfs] at hval
  exact hval
 obtain⟨fuel,h⟩:=h
 obtain⟨hl,n,hf⟩:=trod_field shapeWorld h
 rw[cellsWorld] at hl
 obtain⟨y0,h0⟩:=hf 0 3 0 rfl
 obtain⟨y1,h1⟩:=hf 1 3 1 rfl
 obtain⟨y2,h2⟩:=hf 2 3 2 rfl
 obtain⟨y3,h3⟩:=hf 3 33 3 rfl
 rw[celT3] at h0 h1 h2
 rw[cellsFields] at h3
 have hl2:cs.toList.length=4:=hl
 have e0:(Value.cells (.agg cs)).toList=cs.toList:=rfl
 rw[e0] at h0 h1 h2 h3
 obtain⟨a,b,c,s,hcs⟩:=list_n4 hl2
 rw[hcs] at h0 h1 h2 h3
 obtain⟨T,hT,_,_⟩:=DataW.trod_int Tryz.underlying3 h0
 obtain⟨D,hD,_,_⟩:=DataW.trod_int Tryz.underlying3 h1
 obtain⟨F,hF,_,_⟩:=DataW.trod_int Tryz.underlying3 h2
 simp at hT hD hF
 subst hT hD hF
 have hv:∀x:Value,s=x→Value.agg cs= .agg #[.int .i64 T,.int .i64 D,.int .i64 F,x]:=fun x hx=>congrArg Value.agg (Array.toList_inj.1 (by rw[hcs,hx]))
 rcases DataW.trod_slice underFields h3 with⟨e,_⟩|⟨ad,len,cap,elems,rest,m,_,e,_,_,hlc,_,hel,hin,_⟩
 ·simp at e
  exact⟨T,D,F,none,0,[],hv _ e,fun f hf=>absurd hf (by simp),fun h=>absurd h (by simp)⟩
 ·simp at e
  obtain⟨g,o,spot⟩:=ad
  have hadd:∀a n,(⟨g,a,none⟩:Addr).add n=⟨g,a+n,none⟩:=fun a n=>by
   unfold Addr.add
   split
   ·rename_i h
    subst h
    rfl
   ·rfl
  have hfirst:0<len→spot=none:=by
   intro h
   have h0:=hin 0 h
   rw[List.getElem?_eq_getElem (by omega),Option.bind_eq_some_iff,cellsField] at h0
   obtain⟨cs,hc,ht⟩:=h0
   obtain⟨f,rfl,wf⟩:=open_field ht
   obtain⟨_,_,hcell⟩:=World.cells?_some hc
   have e0:=hcell 0 (by simp)
   simpa [Addr.add] using World.cell?_spot e0
  have each:∀k,k<len→∃f:Fd,FdWf f∧spot=none∧g<w.heap.size∧∀j c,f.cells[j]? =some c→w.cell? ⟨g,o+k*9+j,none⟩=some c:=by
   intro k hk
   have h0:=hin k hk
   rw[List.getElem?_eq_getElem (by omega),Option.bind_eq_some_iff,cellsField] at h0
   obtain⟨cs,hc,ht⟩:=h0
   obtain⟨f,rfl,wf⟩:=open_field ht
   obtain⟨_,_,hcell⟩:=World.cells?_some hc
   have e0:=hcell 0 (by simp)
   have hspot:=hfirst (by omega)
   subst hspot
   rw[hadd,hadd] at e0
   refine⟨f,wf,rfl,cell_in e0,fun j c hj=> ?_⟩
   have hlt:=(List.getElem?_eq_some_iff.1 hj).1
   have h1:=hcell j (by simpa using hlt)
   rw[hadd,hadd] at h1
   rw[h1,←hj]
  obtain⟨fs,hlen,hfs⟩:=list_of len each
  refine⟨T,D,F,some ⟨g,o,spot⟩,cap,fs,hv _ (by rw[e,hlen]),fun f hf=> ?_,fun hpos=> ?_⟩
  ·obtain⟨k,hk⟩:=List.getElem?_of_mem hf
   exact(hfs k f hk).1
  ·obtain⟨f0,_,hs,hg,_⟩:=each 0 (by omega)
   subst hs
   exact⟨g,o,rfl,hg,fun k f hk j c hj=>(hfs k f hk).2.2.2 j c hj⟩
end Go.Proofs.YthkpckgcgkijbaaGreatDoor
namespace Go.Proofs.YthkpckgcgkijbaaGreatDoor
open Go.RowKit Go.Proofs.Lexi
theorem pEqual_hit4 (w:World) (ho:Option Addr) (o:Int) (k1 p1 q1:Int) (s1:ByteArray) (r1:Int) (k2 p2 q2:Int) (s2:ByteArray) (r2:Int) (vk vp vq:Int) (vs:ByteArray) (vr:Int) (PL:∀W,Below w.heap.size w W→Calls Tryz.prog 11 #[o,.agg #[k1,p1,q1,s1,r1],.agg #[k2,p2,q2,s2,r2]] W (VrPost W (.ok ⟨vk,vp,vq,vs,vr⟩))) (eq:Bool) (SM:∀W,Calls Tryz.prog 42 #[.agg #[k1,p1,q1,s1,r1],.agg #[k2,p2,q2,s2,r2]] W (BoolPost W eq)) (xk xp xq:Int) (xs:ByteArray) (xr:Int) (h1:eq=false) (h2:(k1 !=k2)=false) (h3:(k1 !=4)=false) (E:ByteArray) (EV:∀W,Calls Tryz.prog 16 #[.int .i64 o] W (StrPost W E)) (FI:∀W bh be,Below w.heap.size w W→W.heap[bh]? =some (.cells #[.pointer ho] 36)→W.heap[be]? =some (.cells #[.string E] 9)→Calls Tryz.prog 179 #[.agg #[k1,p1,q1,s1,r1],.agg #[k2,p2,q2,s2,r2],.pointer (some ⟨bh,0,none⟩),.pointer (some ⟨be,0,none⟩)] W (ValPost W ⟨xk,xp,xq,xs,xr⟩)) (hx:(xk==0)=false) (af:Int) (hAF:((o==15)=true∧af=3)∨((o==15)=false∧af=2)):Calls Tryz.prog 73 #[.pointer ho,o,.agg #[k1,p1,q1,s1,r1],.agg #[k2,p2,q2,s2,r2]] w (NdPost w (zBs ⟨xk,xp,xq,xs,xr⟩ [⟨k1,p1,q1,s1,r1⟩,⟨k2,p2,q2,s2,r2⟩] af)):=by
 subst h1
 have HPL:=Lib.hid PL
 have HSM:=Lib.hid SM
 have HEV:=Lib.hid EV
 have HFI:=Lib.hid FI
 have HAF:=Lib.hid hAF
 clear PL SM EV FI hAF
 go_enter Tryz.func73,Tryz.ntmps73
 go_wp2_with fail
 refine(HPL.out _ ((zAF _ _ _).alloc (by simp;omega) _)).mono ?_
 rintro e w1 ⟨rfl,hb⟩
 have Ha1:=hkh hb (zAh _ _ _ _)
 have Hb1:=hkh hb (zAY _ _ _ _)
 have Hu1:=hkh hb (zAX _ _ _ _)
 have HW1:=hbn (((zAF _ _ _).alloc (by simp;omega) _)) hb
 have hz1:=hb.size
 try simp at hz1
 clear hb
 have hya:w.heap.size<w1.heap.size:=hsz Ha1
 obtain⟨a0,a1,a2,a3,a4⟩:=cells5 Ha1.out
 have hyb:w.heap.size+1<w1.heap.size:=hsz Hb1
 obtain⟨b0,b1,b2,b3,b4⟩:=cells5 Hb1.out
 go_wp2_with fail
 refine(HSM.out _).mono ?_
 rintro e w2 ⟨rfl,hb⟩
 have Ha2:=hkh hb (zAI Ha1.out _)
 have Hb2:=hkh hb (zAI Hb1.out _)
 have Hu2:=hkh hb (zAI Hu1.out _)
 have Hv2:=hkh hb (heap1 w1 (oV vk vp vq vs vr))
 have HW2:=hbn (HW1.out.alloc HW1.out.size (oV vk vp vq vs vr)) hb
 have hz2:=hb.size
 try simp at hz2
 clear hb
 clear hya a0 a1 a2 a3 a4 hyb b0 b1 b2 b3 b4
 have hya:w.heap.size<w2.heap.size:=hsz Ha2
 obtain⟨a0,a1,a2,a3,a4⟩:=cells5 Ha2.out
 have hyb:w.heap.size+1<w2.heap.size:=hsz Hb2
 obtain⟨b0,b1,b2,b3,b4⟩:=cells5 Hb2.out
 go_wp2
 clear hya a0 a1 a2 a3 a4 hyb b0 b1 b2 b3 b4
 obtain⟨B,hB⟩:∃B,B=w2:=⟨_,rfl⟩
 rw[←hB]
 have HBW:=Lib.hid (show Below w.heap.size w B by rw[hB];exact HW2.out)
 have HBa:=Lib.hid (show B.heap[w.heap.size]? =some (oV k1 p1 q1 s1 r1) by rw[hB];exact Ha2.out)
 have HBb:=Lib.hid (show B.heap[w.heap.size+1]? =some (oV k2 p2 q2 s2 r2) by rw[hB];exact Hb2.out)
 have HBu:=Lib.hid (show B.heap[w.heap.size+1+1]? =some oNd by rw[hB];exact Hu2.out)
 have HBv:=Lib.hid (show B.heap[w1.heap.size]? =some (oV vk vp vq vs vr) by rw[hB];exact Hv2.out)
 clear hB
 have SO:=Lib.hid (fun W (hb:Below B.heap.size B W)=>(show W.cell? ⟨w.heap.size,0,none⟩=some (.int .i64 k1)∧W.cell? ⟨w.heap.size,1,none⟩=some (.int .i64 p1)∧W.cell? ⟨w.heap.size,2,none⟩=some (.int .i64 q1)∧W.cell? ⟨w.heap.size,3,none⟩=some (.string s1)∧W.cell? ⟨w.heap.size,4,none⟩=some (.int .i64 r1)∧W.cell? ⟨w.heap.size+1,0,none⟩=some (.int .i64 k2)∧W.cell? ⟨w.heap.size+1,1,none⟩=some (.int .i64 p2)∧W.cell? ⟨w.heap.size+1,2,none⟩=some (.int .i64 q2)∧W.cell? ⟨w.heap.size+1,3,none⟩=some (.string s2)∧W.cell? ⟨w.heap.size+1,4,none⟩=some (.int .i64 r2)∧Hid (Below B.heap.size B W) from⟨by rw[zAA (hkeep hb HBa.out)];rfl,by rw[zAA (hkeep hb HBa.out)];rfl,by rw[zAA (hkeep hb HBa.out)];rfl,by rw[zAA (hkeep hb HBa.out)];rfl,by rw[zAA (hkeep hb HBa.out)];rfl,by rw[zAA (hkeep hb HBb.out)];rfl,by rw[zAA (hkeep hb HBb.out)];rfl,by rw[zAA (hkeep hb HBb.out)];rfl,by rw[zAA (hkeep hb HBb.out)];rfl,by rw[zAA (hkeep hb HBb.out)];rfl,Lib.hid hb⟩))
 have SO5:=Lib.hid (fun(W:World) (b:Nat) (x y z u v:Value) (hb:Below B.heap.size B W) (hbb:B.heap.size≤b)=>SO.out _ (zAH hb hbb x y z u v))
 have SO1:=Lib.hid (fun(W:World) (o:Obj) (hb:Below B.heap.size B W)=>SO.out _ (hb.alloc hb.size o))
 have SO1D:=Lib.hid (fun(W:World) (o:Obj) (hb:Below B.heap.size B W)=>SO.out _ (hb.alloc hb.size o).drew)
 have hbR:Below B.heap.size B B:=Below.refl _ _
 have hbD:Below B.heap.size B B.drew:=(Below.refl _ _).drew
 go_region_held3 (fun w'=>w'.cell? ⟨w.heap.size,0,none⟩=some (.int .i64 k1)∧w'.cell? ⟨w.heap.size,1,none⟩=some (.int .i64 p1)∧w'.cell? ⟨w.heap.size,2,none⟩=some (.int .i64 q1)∧w'.cell? ⟨w.heap.size,3,none⟩=some (.string s1)∧w'.cell? ⟨w.heap.size,4,none⟩=some (.int .i64 r1)∧w'.cell? ⟨w.heap.size+1,0,none⟩=some (.int .i64 k2)∧w'.cell? ⟨w.heap.size+1,1,none⟩=some (.int .i64 p2)∧w'.cell? ⟨w.heap.size+1,2,none⟩=some (.int .i64 q2)∧w'.cell? ⟨w.heap.size+1,3,none⟩=some (.string s2)∧w'.cell? ⟨w.heap.size+1,4,none⟩=some (.int .i64 r2)∧Hid (Below B.heap.size B w'))
  (first|with_reducible exact SO.out _ (by assumption)|with_reducible exact SO1.out _ _ (by assumption)|with_reducible exact SO1D.out _ _ (by assumption)|with_reducible exact SO5.out _ _ _ _ _ _ _ (by assumption) (by first|with_reducible exact Nat.le_refl _|with_reducible exact Below.size (by assumption)))
  (first|(go_at_call 16;refine(HEV.out _).mono ?_;rintro e nw1 ⟨rfl,hb⟩;have hb1:=zAC (prj10 (by assumption)) hb;(first|(with_reducible have Hz1:=hkh hb (zBC B (oV 0 0 0 ⟨#[]⟩ 0)))|skip);clear hb)|(go_at_call 121;refine(pFinder_c _ _ _).mono ?_;rintro e nw2 ⟨rfl,hbh,hbe,hb⟩;have hb2:=zAC (prj10 (by assumption)) hb;(first|(with_reducible have Hz2:=hkh hb Hz1.out)|(with_reducible have Hz2:=hkh hb (zAg nw1 (oV 0 0 0 ⟨#[]⟩ 0)))|(with_reducible have Hz2:=hkh hb (zBC nw1 (oV 0 0 0 ⟨#[]⟩ 0)))|skip);have HBH:=Lib.hid hbh;have HBE:=Lib.hid hbe;clear hbh hbe;clear hb)|(go_at_call 179;refine(HFI.out _ _ _ (zAC HBW.out (prj10 (by assumption))) (by first|with_reducible exact HBH.out|with_reducible exact zAI HBH.out _|(simpa using HBH.out)) (by first|with_reducible exact HBE.out|with_reducible exact zAI HBE.out _|(simpa using HBE.out))).mono ?_;rintro e nw3 ⟨rfl,hb⟩;have hb3:=zAC (prj10 (by assumption)) hb;(first|((with_reducible have Hz3:=hkh hb Hz2.out);have z0:=(zAA (o:=0) Hz3.out).trans (rfl:_=some (Value.int .i64 0));have z1:=(zAA (o:=1) Hz3.out).trans (rfl:_=some (Value.int .i64 0));have z2:=(zAA (o:=2) Hz3.out).trans (rfl:_=some (Value.int .i64 0));have z3:=(zAA (o:=3) Hz3.out).trans (rfl:_=some (Value.string ⟨#[]⟩));have z4:=(zAA (o:=4) Hz3.out).trans (rfl:_=some (Value.int .i64 0));have fz0:=zAB Hz3.out 0;have fz1:=zAB Hz3.out 1;have fz2:=zAB Hz3.out 2;have fz3:=zAB Hz3.out 3;have fz4:=zAB Hz3.out 4)|((with_reducible have Hz3:=hkh hb (zAg nw2 (oV 0 0 0 ⟨#[]⟩ 0)));have z0:=(zAA (o:=0) Hz3.out).trans (rfl:_=some (Value.int .i64 0));have z1:=(zAA (o:=1) Hz3.out).trans (rfl:_=some (Value.int .i64 0));have z2:=(zAA (o:=2) Hz3.out).trans (rfl:_=some (Value.int .i64 0));have z3:=(zAA (o:=3) Hz3.out).trans (rfl:_=some (Value.string ⟨#[]⟩));have z4:=(zAA (o:=4) Hz3.out).trans (rfl:_=some (Value.int .i64 0));have fz0:=zAB Hz3.out 0;have fz1:=zAB Hz3.out 1;have fz2:=zAB Hz3.out 2;have fz3:=zAB Hz3.out 3;have fz4:=zAB Hz3.out 4)|((with_reducible have Hz3:=hkh hb (zBC nw2 (oV 0 0 0 ⟨#[]⟩ 0)));have z0:=(zAA (o:=0) Hz3.out).trans (rfl:_=some (Value.int .i64 0));have z1:=(zAA (o:=1) Hz3.out).trans (rfl:_=some (Value.int .i64 0));have z2:=(zAA (o:=2) Hz3.out).trans (rfl:_=some (Value.int .i64 0));have z3:=(zAA (o:=3) Hz3.out).trans (rfl:_=some (Value.string ⟨#[]⟩));have z4:=(zAA (o:=4) Hz3.out).trans (rfl:_=some (Value.int .i64 0));have fz0:=zAB Hz3.out 0;have fz1:=zAB Hz3.out 1;have fz2:=zAB Hz3.out 2;have fz3:=zAB Hz3.out 3;have fz4:=zAB Hz3.out 4)|skip);clear hb))
 all_goals have hzB:=HBW.out.size
 all_goals have hzb_a:=hsz HBa
 all_goals have hzb_b:=hsz HBb
 all_goals have hzb_u:=hsz HBu
 all_goals have hzb_v:=hsz HBv
 all_goals have hzc1:=hb1.size
 all_goals have hzc2:=hb2.size
 all_goals have hzc3:=hb3.size
 focus
  have HWB:=Lib.hid (show Below w.heap.size w (nw3.alloc (.cells #[xk,xp,xq,xs,xr] 25)) from(zAC HBW.out hb3).alloc (zAC HBW.out hb3).size _)
  have HWa:=Lib.hid (show(nw3.alloc (.cells #[xk,xp,xq,xs,xr] 25)).heap[w.heap.size]? =some (oV k1 p1 q1 s1 r1) from zAI (hkeep hb3 HBa.out) _)
  have HWb:=Lib.hid (show(nw3.alloc (.cells #[xk,xp,xq,xs,xr] 25)).heap[w.heap.size+1]? =some (oV k2 p2 q2 s2 r2) from zAI (hkeep hb3 HBb.out) _)
  have HWu:=Lib.hid (show(nw3.alloc (.cells #[xk,xp,xq,xs,xr] 25)).heap[w.heap.size+1+1]? =some oNd from zAI (hkeep hb3 HBu.out) _)
  have HWv:=Lib.hid (show(nw3.alloc (.cells #[xk,xp,xq,xs,xr] 25)).heap[w1.heap.size]? =some (oV vk vp vq vs vr) from zAI (hkeep hb3 HBv.out) _)
  have HWx:=Lib.hid (show(nw3.alloc (.cells #[xk,xp,xq,xs,xr] 25)).heap[nw3.heap.size]? =some (oV xk xp xq xs xr) from heap1 nw3 _)
  have hzx:w.heap.size≤nw3.heap.size:=by omega
  generalize (nw3.alloc (.cells #[xk,xp,xq,xs,xr] 25))=W at HWB HWx HWa HWb HWu HWv ⊢
  generalize nw3.heap.size=xb at HWx hzx ⊢
  try clear z0 z1 z2 z3 z4 fz0 fz1 fz2 fz3 fz4
 rotate_left
 focus
  have HWB:=Lib.hid (show Below w.heap.size w (((((nw3.setCell ⟨nw2.heap.size,0,none⟩ (.int .i64 xk)).setCell ⟨nw2.heap.size,1,none⟩ (.int .i64 xp)).setCell ⟨nw2.heap.size,2,none⟩ (.int .i64 xq)).setCell ⟨nw2.heap.size,3,none⟩ (.string xs)).setCell ⟨nw2.heap.size,4,none⟩ (.int .i64 xr)) from zAH (zAC HBW.out hb3) (by omega) _ _ _ _ _)
  have HWa:=Lib.hid (show(((((nw3.setCell ⟨nw2.heap.size,0,none⟩ (.int .i64 xk)).setCell ⟨nw2.heap.size,1,none⟩ (.int .i64 xp)).setCell ⟨nw2.heap.size,2,none⟩ (.int .i64 xq)).setCell ⟨nw2.heap.size,3,none⟩ (.string xs)).setCell ⟨nw2.heap.size,4,none⟩ (.int .i64 xr)).heap[w.heap.size]? =some (oV k1 p1 q1 s1 r1) from zAR (hkeep hb3 HBa.out) (by omega) _ _ _ _ _)
  have HWb:=Lib.hid (show(((((nw3.setCell ⟨nw2.heap.size,0,none⟩ (.int .i64 xk)).setCell ⟨nw2.heap.size,1,none⟩ (.int .i64 xp)).setCell ⟨nw2.heap.size,2,none⟩ (.int .i64 xq)).setCell ⟨nw2.heap.size,3,none⟩ (.string xs)).setCell ⟨nw2.heap.size,4,none⟩ (.int .i64 xr)).heap[w.heap.size+1]? =some (oV k2 p2 q2 s2 r2) from zAR (hkeep hb3 HBb.out) (by omega) _ _ _ _ _)
  have HWu:=Lib.hid (show(((((nw3.setCell ⟨nw2.heap.size,0,none⟩ (.int .i64 xk)).setCell ⟨nw2.heap.size,1,none⟩ (.int .i64 xp)).setCell ⟨nw2.heap.size,2,none⟩ (.int .i64 xq)).setCell ⟨nw2.heap.size,3,none⟩ (.string xs)).setCell ⟨nw2.heap.size,4,none⟩ (.int .i64 xr)).heap[w.heap.size+1+1]? =some oNd from zAR (hkeep hb3 HBu.out) (by omega) _ _ _ _ _)
  have HWv:=Lib.hid (show(((((nw3.setCell ⟨nw2.heap.size,0,none⟩ (.int .i64 xk)).setCell ⟨nw2.heap.size,1,none⟩ (.int .i64 xp)).setCell ⟨nw2.heap.size,2,none⟩ (.int .i64 xq)).setCell ⟨nw2.heap.size,3,none⟩ (.string xs)).setCell ⟨nw2.heap.size,4,none⟩ (.int .i64 xr)).heap[w1.heap.size]? =some (oV vk vp vq vs vr) from zAR (hkeep hb3 HBv.out) (by omega) _ _ _ _ _)
  have HWx:=Lib.hid (show(((((nw3.setCell ⟨nw2.heap.size,0,none⟩ (.int .i64 xk)).setCell ⟨nw2.heap.size,1,none⟩ (.int .i64 xp)).setCell ⟨nw2.heap.size,2,none⟩ (.int .i64 xq)).setCell ⟨nw2.heap.size,3,none⟩ (.string xs)).setCell ⟨nw2.heap.size,4,none⟩ (.int .i64 xr)).heap[nw2.heap.size]? =some (oV xk xp xq xs xr) from zAk Hz3.out _ _ _ _ _)
  have hzx:w.heap.size≤nw2.heap.size:=by omega
  generalize (((((nw3.setCell ⟨nw2.heap.size,0,none⟩ (.int .i64 xk)).setCell ⟨nw2.heap.size,1,none⟩ (.int .i64 xp)).setCell ⟨nw2.heap.size,2,none⟩ (.int .i64 xq)).setCell ⟨nw2.heap.size,3,none⟩ (.string xs)).setCell ⟨nw2.heap.size,4,none⟩ (.int .i64 xr))=W at HWB HWx HWa HWb HWu HWv ⊢
  generalize nw2.heap.size=xb at HWx hzx ⊢
  try clear z0 z1 z2 z3 z4 fz0 fz1 fz2 fz3 fz4
 rotate_left
 focus
  have HWB:=Lib.hid (show Below w.heap.size w (((((nw3.setCell ⟨nw1.heap.size,0,none⟩ (.int .i64 xk)).setCell ⟨nw1.heap.size,1,none⟩ (.int .i64 xp)).setCell ⟨nw1.heap.size,2,none⟩ (.int .i64 xq)).setCell ⟨nw1.heap.size,3,none⟩ (.string xs)).setCell ⟨nw1.heap.size,4,none⟩ (.int .i64 xr)) from zAH (zAC HBW.out hb3) (by omega) _ _ _ _ _)
  have HWa:=Lib.hid (show(((((nw3.setCell ⟨nw1.heap.size,0,none⟩ (.int .i64 xk)).setCell ⟨nw1.heap.size,1,none⟩ (.int .i64 xp)).setCell ⟨nw1.heap.size,2,none⟩ (.int .i64 xq)).setCell ⟨nw1.heap.size,3,none⟩ (.string xs)).setCell ⟨nw1.heap.size,4,none⟩ (.int .i64 xr)).heap[w.heap.size]? =some (oV k1 p1 q1 s1 r1) from zAR (hkeep hb3 HBa.out) (by omega) _ _ _ _ _)
  have HWb:=Lib.hid (show(((((nw3.setCell ⟨nw1.heap.size,0,none⟩ (.int .i64 xk)).setCell ⟨nw1.heap.size,1,none⟩ (.int .i64 xp)).setCell ⟨nw1.heap.size,2,none⟩ (.int .i64 xq)).setCell ⟨nw1.heap.size,3,none⟩ (.string xs)).setCell ⟨nw1.heap.size,4,none⟩ (.int .i64 xr)).heap[w.heap.size+1]? =some (oV k2 p2 q2 s2 r2) from zAR (hkeep hb3 HBb.out) (by omega) _ _ _ _ _)
  have HWu:=Lib.hid (show(((((nw3.setCell ⟨nw1.heap.size,0,none⟩ (.int .i64 xk)).setCell ⟨nw1.heap.size,1,none⟩ (.int .i64 xp)).setCell ⟨nw1.heap.size,2,none⟩ (.int .i64 xq)).setCell ⟨nw1.heap.size,3,none⟩ (.string xs)).setCell ⟨nw1.heap.size,4,none⟩ (.int .i64 xr)).heap[w.heap.size+1+1]? =some oNd from zAR (hkeep hb3 HBu.out) (by omega) _ _ _ _ _)
  have HWv:=Lib.hid (show(((((nw3.setCell ⟨nw1.heap.size,0,none⟩ (.int .i64 xk)).setCell ⟨nw1.heap.size,1,none⟩ (.int .i64 xp)).setCell ⟨nw1.heap.size,2,none⟩ (.int .i64 xq)).setCell ⟨nw1.heap.size,3,none⟩ (.string xs)).setCell ⟨nw1.heap.size,4,none⟩ (.int .i64 xr)).heap[w1.heap.size]? =some (oV vk vp vq vs vr) from zAR (hkeep hb3 HBv.out) (by omega) _ _ _ _ _)
  have HWx:=Lib.hid (show(((((nw3.setCell ⟨nw1.heap.size,0,none⟩ (.int .i64 xk)).setCell ⟨nw1.heap.size,1,none⟩ (.int .i64 xp)).setCell ⟨nw1.heap.size,2,none⟩ (.int .i64 xq)).setCell ⟨nw1.heap.size,3,none⟩ (.string xs)).setCell ⟨nw1.heap.size,4,none⟩ (.int .i64 xr)).heap[nw1.heap.size]? =some (oV xk xp xq xs xr) from zAk Hz3.out _ _ _ _ _)
  have hzx:w.heap.size≤nw1.heap.size:=by omega
  generalize (((((nw3.setCell ⟨nw1.heap.size,0,none⟩ (.int .i64 xk)).setCell ⟨nw1.heap.size,1,none⟩ (.int .i64 xp)).setCell ⟨nw1.heap.size,2,none⟩ (.int .i64 xq)).setCell ⟨nw1.heap.size,3,none⟩ (.string xs)).setCell ⟨nw1.heap.size,4,none⟩ (.int .i64 xr))=W at HWB HWx HWa HWb HWu HWv ⊢
  generalize nw1.heap.size=xb at HWx hzx ⊢
  try clear z0 z1 z2 z3 z4 fz0 fz1 fz2 fz3 fz4
 rotate_left
 focus
  have HWB:=Lib.hid (show Below w.heap.size w (((((nw3.setCell ⟨B.heap.size,0,none⟩ (.int .i64 xk)).setCell ⟨B.heap.size,1,none⟩ (.int .i64 xp)).setCell ⟨B.heap.size,2,none⟩ (.int .i64 xq)).setCell ⟨B.heap.size,3,none⟩ (.string xs)).setCell ⟨B.heap.size,4,none⟩ (.int .i64 xr)) from zAH (zAC HBW.out hb3) (by omega) _ _ _ _ _)
  have HWa:=Lib.hid (show(((((nw3.setCell ⟨B.heap.size,0,none⟩ (.int .i64 xk)).setCell ⟨B.heap.size,1,none⟩ (.int .i64 xp)).setCell ⟨B.heap.size,2,none⟩ (.int .i64 xq)).setCell ⟨B.heap.size,3,none⟩ (.string xs)).setCell ⟨B.heap.size,4,none⟩ (.int .i64 xr)).heap[w.heap.size]? =some (oV k1 p1 q1 s1 r1) from zAR (hkeep hb3 HBa.out) (by omega) _ _ _ _ _)
  have HWb:=Lib.hid (show(((((nw3.setCell ⟨B.heap.size,0,none⟩ (.int .i64 xk)).setCell ⟨B.heap.size,1,none⟩ (.int .i64 xp)).setCell ⟨B.heap.size,2,none⟩ (.int .i64 xq)).setCell ⟨B.heap.size,3,none⟩ (.string xs)).setCell ⟨B.heap.size,4,none⟩ (.int .i64 xr)).heap[w.heap.size+1]? =some (oV k2 p2 q2 s2 r2) from zAR (hkeep hb3 HBb.out) (by omega) _ _ _ _ _)
  have HWu:=Lib.hid (show(((((nw3.setCell ⟨B.heap.size,0,none⟩ (.int .i64 xk)).setCell ⟨B.heap.size,1,none⟩ (.int .i64 xp)).setCell ⟨B.heap.size,2,none⟩ (.int .i64 xq)).setCell ⟨B.heap.size,3,none⟩ (.string xs)).setCell ⟨B.heap.size,4,none⟩ (.int .i64 xr)).heap[w.heap.size+1+1]? =some oNd from zAR (hkeep hb3 HBu.out) (by omega) _ _ _ _ _)
  have HWv:=Lib.hid (show(((((nw3.setCell ⟨B.heap.size,0,none⟩ (.int .i64 xk)).setCell ⟨B.heap.size,1,none⟩ (.int .i64 xp)).setCell ⟨B.heap.size,2,none⟩ (.int .i64 xq)).setCell ⟨B.heap.size,3,none⟩ (.string xs)).setCell ⟨B.heap.size,4,none⟩ (.int .i64 xr)).heap[w1.heap.size]? =some (oV vk vp vq vs vr) from zAR (hkeep hb3 HBv.out) (by omega) _ _ _ _ _)
  have HWx:=Lib.hid (show(((((nw3.setCell ⟨B.heap.size,0,none⟩ (.int .i64 xk)).setCell ⟨B.heap.size,1,none⟩ (.int .i64 xp)).setCell ⟨B.heap.size,2,none⟩ (.int .i64 xq)).setCell ⟨B.heap.size,3,none⟩ (.string xs)).setCell ⟨B.heap.size,4,none⟩ (.int .i64 xr)).heap[B.heap.size]? =some (oV xk xp xq xs xr) from zAk Hz3.out _ _ _ _ _)
  have hzx:w.heap.size≤B.heap.size:=by omega
  generalize (((((nw3.setCell ⟨B.heap.size,0,none⟩ (.int .i64 xk)).setCell ⟨B.heap.size,1,none⟩ (.int .i64 xp)).setCell ⟨B.heap.size,2,none⟩ (.int .i64 xq)).setCell ⟨B.heap.size,3,none⟩ (.string xs)).setCell ⟨B.heap.size,4,none⟩ (.int .i64 xr))=W at HWB HWx HWa HWb HWu HWv ⊢
  generalize B.heap.size=xb at HWx hzx ⊢
  try clear z0 z1 z2 z3 z4 fz0 fz1 fz2 fz3 fz4
 rotate_left
 all_goals
  have hyx:xb<W.heap.size:=hsz HWx
  obtain⟨x0,x1,x2,x3,x4⟩:=cells5 HWx.out
  have hyu:w.heap.size+1+1<W.heap.size:=hsz HWu
  obtain⟨u0,u1,u2,u3,u4,u5,u6,u7,u8,u9,u10,u11,u12,u13⟩:=cells14 HWu.out
  obtain⟨fu0,fu1,fu2,fu3,fu4,fu5,fu6,fu7,fu8,fu9,fu10,fu11,fu12,fu13⟩:=froz14 HWu.out
  have hya:w.heap.size<W.heap.size:=hsz HWa
  have hyb:w.heap.size+1<W.heap.size:=hsz HWb
  obtain⟨a0,a1,a2,a3,a4⟩:=cells5 HWa.out
  obtain⟨b0,b1,b2,b3,b4⟩:=cells5 HWb.out
  rcases HAF.out with⟨h15,rfl⟩|⟨h15,rfl⟩
  all_goals
   go_wp2
   refine bodyPost_ret (by simp[results,Tryz.results73,go_sem,hyu,u0,u1,u2,u3,u4,u5,u6,u7,u8,u9,u10,u11,u12,u13];first|done|rfl) rfl ?_
   exact nd_call_done (r:=w.heap.size+1+1) (f:=⟨xk,xp,xq,xs,xr⟩) (a:=⟨k1,p1,q1,s1,r1⟩) (b:=⟨k2,p2,q2,s2,r2⟩) HWB.out (by omega) (zAM (F:=fun b=>b=w.heap.size+1+1) (Mods.refl _ _) (.inl rfl) _ _ _ _ _ _ _ _ _ _ _ _ _ _) (by simp)
end Go.Proofs.YthkpckgcgkijbaaGreatDoor
