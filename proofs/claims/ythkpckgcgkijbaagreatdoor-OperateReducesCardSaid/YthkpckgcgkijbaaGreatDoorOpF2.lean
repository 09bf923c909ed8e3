import Derived.Test.YthkpckgcgkijbaaGreatDoorHpC
set_option linter.unusedVariables false
set_option linter.unusedSimpArgs false
set_option maxRecDepth 100000
set_option maxHeartbeats 20000000
namespace Go.Proofs.YthkpckgcgkijbaaGreatDoor
open Go.RowKit Go.Proofs.Lexi
theorem pEqual_miss4 (w:World) (ho:Option Addr) (o:Int) (k1 p1 q1:Int) (s1:ByteArray) (r1:Int) (k2 p2 q2:Int) (s2:ByteArray) (r2:Int) (vk vp vq:Int) (vs:ByteArray) (vr:Int) (PL:∀W,Below w.heap.size w W→Calls Tryz.prog 11 #[o,.agg #[k1,p1,q1,s1,r1],.agg #[k2,p2,q2,s2,r2]] W (VrPost W (.ok ⟨vk,vp,vq,vs,vr⟩))) (eq:Bool) (SM:∀W,Calls Tryz.prog 42 #[.agg #[k1,p1,q1,s1,r1],.agg #[k2,p2,q2,s2,r2]] W (BoolPost W eq)) (xk xp xq:Int) (xs:ByteArray) (xr:Int) (h1:eq=false) (h2:(k1 !=k2)=false) (h3:(k1 !=4)=false) (E:ByteArray) (EV:∀W,Calls Tryz.prog 16 #[.int .i64 o] W (StrPost W E)) (FI:∀W bh be,Below w.heap.size w W→W.heap[bh]? =some (.cells #[.pointer ho] 36)→W.heap[be]? =some (.cells #[.string E] 9)→Calls Tryz.prog 179 #[.agg #[k1,p1,q1,s1,r1],.agg #[k2,p2,q2,s2,r2],.pointer (some ⟨bh,0,none⟩),.pointer (some ⟨be,0,none⟩)] W (ValPost W ⟨xk,xp,xq,xs,xr⟩)) (hx:(xk==0)=true):Calls Tryz.prog 73 #[.pointer ho,o,.agg #[k1,p1,q1,s1,r1],.agg #[k2,p2,q2,s2,r2]] w (NdPost w (ndVal ⟨vk,vp,vq,vs,vr⟩)):=by
 subst h1
 have HPL:=Lib.hid PL
 have HSM:=Lib.hid SM
 have HEV:=Lib.hid EV
 have HFI:=Lib.hid FI
 clear PL SM EV FI
 go_enter Tryz.func73,Tryz.ntmps73
 go_wp2_with fail
 refine(HPL.out _ ((zAF _ _ _).alloc (by simp;omega) _)).mono ?_
 rintro e w1 ⟨rfl,hb⟩
 have Ha1:=hkh hb (zAh _ _ _ _)
 have Hb1:=hkh hb (zAY _ _ _ _)
 have Hu1:=hkh hb (zAX _ _ _ _)
 have HW1:=hbn (((zAF _ _ _).alloc (by simp;omega) _)) hb
 have hz1:=hb.size
 try simp at hz1
 clear hb
 have hya:w.heap.size<w1.heap.size:=hsz Ha1
 obtain⟨a0,a1,a2,a3,a4⟩:=cells5 Ha1.out
 have hyb:w.heap.size+1<w1.heap.size:=hsz Hb1
 obtain⟨b0,b1,b2,b3,b4⟩:=cells5 Hb1.out
 go_wp2_with fail
 refine(HSM.out _).mono ?_
 rintro e w2 ⟨rfl,hb⟩
 have Ha2:=hkh hb (zAI Ha1.out _)
 have Hb2:=hkh hb (zAI Hb1.out _)
 have Hu2:=hkh hb (zAI Hu1.out _)
 have Hv2:=hkh hb (heap1 w1 (oV vk vp vq vs vr))
 have HW2:=hbn (HW1.out.alloc HW1.out.size (oV vk vp vq vs vr)) hb
 have hz2:=hb.size
 try simp at hz2
 clear hb
 clear hya a0 a1 a2 a3 a4 hyb b0 b1 b2 b3 b4
 have hya:w.heap.size<w2.heap.size:=hsz Ha2
 obtain⟨a0,a1,a2,a3,a4⟩:=cells5 Ha2.out
 have hyb:w.heap.size+1<w2.heap.size:=hsz Hb2
 obtain⟨b0,b1,b2,b3,b4⟩:=cells5 Hb2.out
 go_wp2
 clear hya a0 a1 a2 a3 a4 hyb b0 b1 b2 b3 b4
 obtain⟨B,hB⟩:∃B,B=w2:=⟨_,rfl⟩
 rw[←hB]
 have HBW:=Lib.hid (show Below w.heap.size w B by rw[hB];exact HW2.out)
 have HBa:=Lib.hid (show B.heap[w.heap.size]? =some (oV k1 p1 q1 s1 r1) by rw[hB];exact Ha2.out)
 have HBb:=Lib.hid (show B.heap[w.heap.size+1]? =some (oV k2 p2 q2 s2 r2) by rw[hB];exact Hb2.out)
 have HBu:=Lib.hid (show B.heap[w.heap.size+1+1]? =some oNd by rw[hB];exact Hu2.out)
 have HBv:=Lib.hid (show B.heap[w1.heap.size]? =some (oV vk vp vq vs vr) by rw[hB];exact Hv2.out)
 clear hB
 have SO:=Lib.hid (fun W (hb:Below B.heap.size B W)=>(show W.cell? ⟨w.heap.size,0,none⟩=some (.int .i64 k1)∧W.cell? ⟨w.heap.size,1,none⟩=some (.int .i64 p1)∧W.cell? ⟨w.heap.size,2,none⟩=some (.int .i64 q1)∧W.cell? ⟨w.heap.size,3,none⟩=some (.string s1)∧W.cell? ⟨w.heap.size,4,none⟩=some (.int .i64 r1)∧W.cell? ⟨w.heap.size+1,0,none⟩=some (.int .i64 k2)∧W.cell? ⟨w.heap.size+1,1,none⟩=some (.int .i64 p2)∧W.cell? ⟨w.heap.size+1,2,none⟩=some (.int .i64 q2)∧W.cell? ⟨w.heap.size+1,3,none⟩=some (.string s2)∧W.cell? ⟨w.heap.size+1,4,none⟩=some (.int .i64 r2)∧Hid (Below B.heap.size B W) from⟨by rw[zAA (hkeep hb HBa.out)];rfl,by rw[zAA (hkeep hb HBa.out)];rfl,by rw[zAA (hkeep hb HBa.out)];rfl,by rw[zAA (hkeep hb HBa.out)];rfl,by rw[zAA (hkeep hb HBa.out)];rfl,by rw[zAA (hkeep hb HBb.out)];rfl,by rw[zAA (hkeep hb HBb.out)];rfl,by rw[zAA (hkeep hb HBb.out)];rfl,by rw[zAA (hkeep hb HBb.out)];rfl,by rw[zAA (hkeep hb HBb.out)];rfl,Lib.hid hb⟩))
 have SO5:=Lib.hid (fun(W:World) (b:Nat) (x y z u v:Value) (hb:Below B.heap.size B W) (hbb:B.heap.size≤b)=>SO.out _ (zAH hb hbb x y z u v))
 have SO1:=Lib.hid (fun(W:World) (o:Obj) (hb:Below B.heap.size B W)=>SO.out _ (hb.alloc hb.size o))
 have SO1D:=Lib.hid (fun(W:World) (o:Obj) (hb:Below B.heap.size B W)=>SO.out _ (hb.alloc hb.size o).drew)
 have hbR:Below B.heap.size B B:=Below.refl _ _
 have hbD:Below B.heap.size B B.drew:=(Below.refl _ _).drew
 go_region_held3 (fun w'=>w'.cell? ⟨w.heap.size,0,none⟩=some (.int .i64 k1)∧w'.cell? ⟨w.heap.size,1,none⟩=some (.int .i64 p1)∧w'.cell? ⟨w.heap.size,2,none⟩=some (.int .i64 q1)∧w'.cell? ⟨w.heap.size,3,none⟩=some (.string s1)∧w'.cell? ⟨w.heap.size,4,none⟩=some (.int .i64 r1)∧w'.cell? ⟨w.heap.size+1,0,none⟩=some (.int .i64 k2)∧w'.cell? ⟨w.heap.size+1,1,none⟩=some (.int .i64 p2)∧w'.cell? ⟨w.heap.size+1,2,none⟩=some (.int .i64 q2)∧w'.cell? ⟨w.heap.size+1,3,none⟩=some (.string s2)∧w'.cell? ⟨w.heap.size+1,4,none⟩=some (.int .i64 r2)∧Hid (Below B.heap.size B w'))
  (first|with_reducible exact SO.out _ (by assumption)|with_reducible exact SO1.out _ _ (by assumption)|with_reducible exact SO1D.out _ _ (by assumption)|with_reducible exact SO5.out _ _ _ _ _ _ _ (by assumption) (by first|with_reducible exact Nat.le_refl _|with_reducible exact Below.size (by assumption)))
  (first|(go_at_call 16;refine(HEV.out _).mono ?_;rintro e nw1 ⟨rfl,hb⟩;have hb1:=zAC (prj10 (by assumption)) hb;(first|(with_reducible have Hz1:=hkh hb (zBC B (oV 0 0 0 ⟨#[]⟩ 0)))|skip);clear hb)|(go_at_call 121;refine(pFinder_c _ _ _).mono ?_;rintro e nw2 ⟨rfl,hbh,hbe,hb⟩;have hb2:=zAC (prj10 (by assumption)) hb;(first|(with_reducible have Hz2:=hkh hb Hz1.out)|(with_reducible have Hz2:=hkh hb (zAg nw1 (oV 0 0 0 ⟨#[]⟩ 0)))|(with_reducible have Hz2:=hkh hb (zBC nw1 (oV 0 0 0 ⟨#[]⟩ 0)))|skip);have HBH:=Lib.hid hbh;have HBE:=Lib.hid hbe;clear hbh hbe;clear hb)|(go_at_call 179;refine(HFI.out _ _ _ (zAC HBW.out (prj10 (by assumption))) (by first|with_reducible exact HBH.out|with_reducible exact zAI HBH.out _|(simpa using HBH.out)) (by first|with_reducible exact HBE.out|with_reducible exact zAI HBE.out _|(simpa using HBE.out))).mono ?_;rintro e nw3 ⟨rfl,hb⟩;have hb3:=zAC (prj10 (by assumption)) hb;(first|((with_reducible have Hz3:=hkh hb Hz2.out);have z0:=(zAA (o:=0) Hz3.out).trans (rfl:_=some (Value.int .i64 0));have z1:=(zAA (o:=1) Hz3.out).trans (rfl:_=some (Value.int .i64 0));have z2:=(zAA (o:=2) Hz3.out).trans (rfl:_=some (Value.int .i64 0));have z3:=(zAA (o:=3) Hz3.out).trans (rfl:_=some (Value.string ⟨#[]⟩));have z4:=(zAA (o:=4) Hz3.out).trans (rfl:_=some (Value.int .i64 0));have fz0:=zAB Hz3.out 0;have fz1:=zAB Hz3.out 1;have fz2:=zAB Hz3.out 2;have fz3:=zAB Hz3.out 3;have fz4:=zAB Hz3.out 4)|((with_reducible have Hz3:=hkh hb (zAg nw2 (oV 0 0 0 ⟨#[]⟩ 0)));have z0:=(zAA (o:=0) Hz3.out).trans (rfl:_=some (Value.int .i64 0));have z1:=(zAA (o:=1) Hz3.out).trans (rfl:_=some (Value.int .i64 0));have z2:=(zAA (o:=2) Hz3.out).trans (rfl:_=some (Value.int .i64 0));have z3:=(zAA (o:=3) Hz3.out).trans (rfl:_=some (Value.string ⟨#[]⟩));have z4:=(zAA (o:=4) Hz3.out).trans (rfl:_=some (Value.int .i64 0));have fz0:=zAB Hz3.out 0;have fz1:=zAB Hz3.out 1;have fz2:=zAB Hz3.out 2;have fz3:=zAB Hz3.out 3;have fz4:=zAB Hz3.out 4)|((with_reducible have Hz3:=hkh hb (zBC nw2 (oV 0 0 0 ⟨#[]⟩ 0)));have z0:=(zAA (o:=0) Hz3.out).trans (rfl:_=some (Value.int .i64 0));have z1:=(zAA (o:=1) Hz3.out).trans (rfl:_=some (Value.int .i64 0));have z2:=(zAA (o:=2) Hz3.out).trans (rfl:_=some (Value.int .i64 0));have z3:=(zAA (o:=3) Hz3.out).trans (rfl:_=some (Value.string ⟨#[]⟩));have z4:=(zAA (o:=4) Hz3.out).trans (rfl:_=some (Value.int .i64 0));have fz0:=zAB Hz3.out 0;have fz1:=zAB Hz3.out 1;have fz2:=zAB Hz3.out 2;have fz3:=zAB Hz3.out 3;have fz4:=zAB Hz3.out 4)|skip);clear hb))
 all_goals have hzB:=HBW.out.size
 all_goals have hzb_a:=hsz HBa
 all_goals have hzb_b:=hsz HBb
 all_goals have hzb_u:=hsz HBu
 all_goals have hzb_v:=hsz HBv
 all_goals have hzc1:=hb1.size
 all_goals have hzc2:=hb2.size
 all_goals have hzc3:=hb3.size
 focus
  have HWB:=Lib.hid (show Below w.heap.size w (nw3.alloc (.cells #[xk,xp,xq,xs,xr] 25)) from(zAC HBW.out hb3).alloc (zAC HBW.out hb3).size _)
  have HWa:=Lib.hid (show(nw3.alloc (.cells #[xk,xp,xq,xs,xr] 25)).heap[w.heap.size]? =some (oV k1 p1 q1 s1 r1) from zAI (hkeep hb3 HBa.out) _)
  have HWb:=Lib.hid (show(nw3.alloc (.cells #[xk,xp,xq,xs,xr] 25)).heap[w.heap.size+1]? =some (oV k2 p2 q2 s2 r2) from zAI (hkeep hb3 HBb.out) _)
  have HWu:=Lib.hid (show(nw3.alloc (.cells #[xk,xp,xq,xs,xr] 25)).heap[w.heap.size+1+1]? =some oNd from zAI (hkeep hb3 HBu.out) _)
  have HWv:=Lib.hid (show(nw3.alloc (.cells #[xk,xp,xq,xs,xr] 25)).heap[w1.heap.size]? =some (oV vk vp vq vs vr) from zAI (hkeep hb3 HBv.out) _)
  have HWx:=Lib.hid (show(nw3.alloc (.cells #[xk,xp,xq,xs,xr] 25)).heap[nw3.heap.size]? =some (oV xk xp xq xs xr) from heap1 nw3 _)
  have hzx:w.heap.size≤nw3.heap.size:=by omega
  generalize (nw3.alloc (.cells #[xk,xp,xq,xs,xr] 25))=W at HWB HWx HWa HWb HWu HWv ⊢
  generalize nw3.heap.size=xb at HWx hzx ⊢
  try clear z0 z1 z2 z3 z4 fz0 fz1 fz2 fz3 fz4
 rotate_left
 focus
  have HWB:=Lib.hid (show Below w.heap.size w (((((nw3.setCell ⟨nw2.heap.size,0,none⟩ (.int .i64 xk)).setCell ⟨nw2.heap.size,1,none⟩ (.int .i64 xp)).setCell ⟨nw2.heap.size,2,none⟩ (.int .i64 xq)).setCell ⟨nw2.heap.size,3,none⟩ (.string xs)).setCell ⟨nw2.heap.size,4,none⟩ (.int .i64 xr)) from zAH (zAC HBW.out hb3) (by omega) _ _ _ _ _)
  have HWa:=Lib.hid (show(((((nw3.setCell ⟨nw2.heap.size,0,none⟩ (.int .i64 xk)).setCell ⟨nw2.heap.size,1,none⟩ (.int .i64 xp)).setCell ⟨nw2.heap.size,2,none⟩ (.int .i64 xq)).setCell ⟨nw2.heap.size,3,none⟩ (.string xs)).setCell ⟨nw2.heap.size,4,none⟩ (.int .i64 xr)).heap[w.heap.size]? =some (oV k1 p1 q1 s1 r1) from zAR (hkeep hb3 HBa.out) (by omega) _ _ _ _ _)
  have HWb:=Lib.hid (show(((((nw3.setCell ⟨nw2.heap.size,0,none⟩ (.int .i64 xk)).setCell ⟨nw2.heap.size,1,none⟩ (.int .i64 xp)).setCell ⟨nw2.heap.size,2,none⟩ (.int .i64 xq)).setCell ⟨nw2.heap.size,3,none⟩ (.string xs)).setCell ⟨nw2.heap.size,4,none⟩ (.int .i64 xr)).heap[w.heap.size+1]? =some (oV k2 p2 q2 s2 r2) from zAR (hkeep hb3 HBb.out) (by omega) _ _ _ _ _)
  have HWu:=Lib.hid (show(((((nw3.setCell ⟨nw2.heap.size,0,none⟩ (.int .i64 xk)).setCell ⟨nw2.heap.size,1,none⟩ (.int .i64 xp)).setCell ⟨nw2.heap.size,2,none⟩ (.int .i64 xq)).setCell ⟨nw2.heap.size,3,none⟩ (.string xs)).setCell ⟨nw2.heap.size,4,none⟩ (.int .i64 xr)).heap[w.heap.size+1+1]? =some oNd from zAR (hkeep hb3 HBu.out) (by omega) _ _ _ _ _)
  have HWv:=Lib.hid (show(((((nw3.setCell ⟨nw2.heap.size,0,none⟩ (.int .i64 xk)).setCell ⟨nw2.heap.size,1,none⟩ (.int .i64 xp)).setCell ⟨nw2.heap.size,2,none⟩ (.int .i64 xq)).setCell ⟨nw2.heap.size,3,none⟩ (.string xs)).setCell ⟨nw2.heap.size,4,none⟩ (.int .i64 xr)).heap[w1.heap.size]? =some (oV vk vp vq vs vr) from zAR (hkeep hb3 HBv.out) (by omega) _ _ _ _ _)
  have HWx:=Lib.hid (show(((((nw3.setCell ⟨nw2.heap.size,0,none⟩ (.int .i64 xk)).setCell ⟨nw2.heap.size,1,none⟩ (.int .i64 xp)).setCell ⟨nw2.heap.size,2,none⟩ (.int .i64 xq)).setCell ⟨nw2.heap.size,3,none⟩ (.string xs)).setCell ⟨nw2.heap.size,4,none⟩ (.int .i64 xr)).heap[nw2.heap.size]? =some (oV xk xp xq xs xr) from zAk Hz3.out _ _ _ _ _)
  have hzx:w.heap.size≤nw2.heap.size:=by omega
  generalize (((((nw3.setCell ⟨nw2.heap.size,0,none⟩ (.int .i64 xk)).setCell ⟨nw2.heap.size,1,none⟩ (.int .i64 xp)).setCell ⟨nw2.heap.size,2,none⟩ (.int .i64 xq)).setCell ⟨nw2.heap.size,3,none⟩ (.string xs)).setCell ⟨nw2.heap.size,4,none⟩ (.int .i64 xr))=W at HWB HWx HWa HWb HWu HWv ⊢
  generalize nw2.heap.size=xb at HWx hzx ⊢
  try clear z0 z1 z2 z3 z4 fz0 fz1 fz2 fz3 fz4
 rotate_left
 focus
  have HWB:=Lib.hid (show Below w.heap.size w (((((nw3.setCell ⟨nw1.heap.size,0,none⟩ (.int .i64 xk)).setCell ⟨nw1.heap.size,1,none⟩ (.int .i64 xp)).setCell ⟨nw1.heap.size,2,none⟩ (.int .i64 xq)).setCell ⟨nw1.heap.size,3,none⟩ (.string xs)).setCell ⟨nw1.heap.size,4,none⟩ (.int .i64 xr)) from zAH (zAC HBW.out hb3) (by omega) _ _ _ _ _)
  have HWa:=Lib.hid (show(((((nw3.setCell ⟨nw1.heap.size,0,none⟩ (.int .i64 xk)).setCell ⟨nw1.heap.size,1,none⟩ (.int .i64 xp)).setCell ⟨nw1.heap.size,2,none⟩ (.int .i64 xq)).setCell ⟨nw1.heap.size,3,none⟩ (.string xs)).setCell ⟨nw1.heap.size,4,none⟩ (.int .i64 xr)).heap[w.heap.size]? =some (oV k1 p1 q1 s1 r1) from zAR (hkeep hb3 HBa.out) (by omega) _ _ _ _ _)
  have HWb:=Lib.hid (show(((((nw3.setCell ⟨nw1.heap.size,0,none⟩ (.int .i64 xk)).setCell ⟨nw1.heap.size,1,none⟩ (.int .i64 xp)).setCell ⟨nw1.heap.size,2,none⟩ (.int .i64 xq)).setCell ⟨nw1.heap.size,3,none⟩ (.string xs)).setCell ⟨nw1.heap.size,4,none⟩ (.int .i64 xr)).heap[w.heap.size+1]? =some (oV k2 p2 q2 s2 r2) from zAR (hkeep hb3 HBb.out) (by omega) _ _ _ _ _)
  have HWu:=Lib.hid (show(((((nw3.setCell ⟨nw1.heap.size,0,none⟩ (.int .i64 xk)).setCell ⟨nw1.heap.size,1,none⟩ (.int .i64 xp)).setCell ⟨nw1.heap.size,2,none⟩ (.int .i64 xq)).setCell ⟨nw1.heap.size,3,none⟩ (.string xs)).setCell ⟨nw1.heap.size,4,none⟩ (.int .i64 xr)).heap[w.heap.size+1+1]? =some oNd from zAR (hkeep hb3 HBu.out) (by omega) _ _ _ _ _)
  have HWv:=Lib.hid (show(((((nw3.setCell ⟨nw1.heap.size,0,none⟩ (.int .i64 xk)).setCell ⟨nw1.heap.size,1,none⟩ (.int .i64 xp)).setCell ⟨nw1.heap.size,2,none⟩ (.int .i64 xq)).setCell ⟨nw1.heap.size,3,none⟩ (.string xs)).setCell ⟨nw1.heap.size,4,none⟩ (.int .i64 xr)).heap[w1.heap.size]? =some (oV vk vp vq vs vr) from zAR (hkeep hb3 HBv.out) (by omega) _ _ _ _ _)
  have HWx:=Lib.hid (show(((((nw3.setCell ⟨nw1.heap.size,0,none⟩ (.int .i64 xk)).setCell ⟨nw1.heap.size,1,none⟩ (.int .i64 xp)).setCell ⟨nw1.heap.size,2,none⟩ (.int .i64 xq)).setCell ⟨nw1.heap.size,3,none⟩ (.string xs)).setCell ⟨nw1.heap.size,4,none⟩ (.int .i64 xr)).heap[nw1.heap.size]? =some (oV xk xp xq xs xr) from zAk Hz3.out _ _ _ _ _)
  have hzx:w.heap.size≤nw1.heap.size:=by omega
  generalize (((((nw3.setCell ⟨nw1.heap.size,0,none⟩ (.int .i64 xk)).setCell ⟨nw1.heap.size,1,none⟩ (.int .i64 xp)).setCell ⟨nw1.heap.size,2,none⟩ (.int .i64 xq)).setCell ⟨nw1.heap.size,3,none⟩ (.string xs)).setCell ⟨nw1.heap.size,4,none⟩ (.int .i64 xr))=W at HWB HWx HWa HWb HWu HWv ⊢
  generalize nw1.heap.size=xb at HWx hzx ⊢
  try clear z0 z1 z2 z3 z4 fz0 fz1 fz2 fz3 fz4
 rotate_left
 focus
  have HWB:=Lib.hid (show Below w.heap.size w (((((nw3.setCell ⟨B.heap.size,0,none⟩ (.int .i64 xk)).setCell ⟨B.heap.size,1,none⟩ (.int .i64 xp)).setCell ⟨B.heap.size,2,none⟩ (.int .i64 xq)).setCell ⟨B.heap.size,3,none⟩ (.string xs)).setCell ⟨B.heap.size,4,none⟩ (.int .i64 xr)) from zAH (zAC HBW.out hb3) (by omega) _ _ _ _ _)
  have HWa:=Lib.hid (show(((((nw3.setCell ⟨B.heap.size,0,none⟩ (.int .i64 xk)).setCell ⟨B.heap.size,1,none⟩ (.int .i64 xp)).setCell ⟨B.heap.size,2,none⟩ (.int .i64 xq)).setCell ⟨B.heap.size,3,none⟩ (.string xs)).setCell ⟨B.heap.size,4,none⟩ (.int .i64 xr)).heap[w.heap.size]? =some (oV k1 p1 q1 s1 r1) from zAR (hkeep hb3 HBa.out) (by omega) _ _ _ _ _)
  have HWb:=Lib.hid (show(((((nw3.setCell ⟨B.heap.size,0,none⟩ (.int .i64 xk)).setCell ⟨B.heap.size,1,none⟩ (.int .i64 xp)).setCell ⟨B.heap.size,2,none⟩ (.int .i64 xq)).setCell ⟨B.heap.size,3,none⟩ (.string xs)).setCell ⟨B.heap.size,4,none⟩ (.int .i64 xr)).heap[w.heap.size+1]? =some (oV k2 p2 q2 s2 r2) from zAR (hkeep hb3 HBb.out) (by omega) _ _ _ _ _)
  have HWu:=Lib.hid (show(((((nw3.setCell ⟨B.heap.size,0,none⟩ (.int .i64 xk)).setCell ⟨B.heap.size,1,none⟩ (.int .i64 xp)).setCell ⟨B.heap.size,2,none⟩ (.int .i64 xq)).setCell ⟨B.heap.size,3,none⟩ (.string xs)).setCell ⟨B.heap.size,4,none⟩ (.int .i64 xr)).heap[w.heap.size+1+1]? =some oNd from zAR (hkeep hb3 HBu.out) (by omega) _ _ _ _ _)
  have HWv:=Lib.hid (show(((((nw3.setCell ⟨B.heap.size,0,none⟩ (.int .i64 xk)).setCell ⟨B.heap.size,1,none⟩ (.int .i64 xp)).setCell ⟨B.heap.size,2,none⟩ (.int .i64 xq)).setCell ⟨B.heap.size,3,none⟩ (.string xs)).setCell ⟨B.heap.size,4,none⟩ (.int .i64 xr)).heap[w1.heap.size]? =some (oV vk vp vq vs vr) from zAR (hkeep hb3 HBv.out) (by omega) _ _ _ _ _)
  have HWx:=Lib.hid (show(((((nw3.setCell ⟨B.heap.size,0,none⟩ (.int .i64 xk)).setCell ⟨B.heap.size,1,none⟩ (.int .i64 xp)).setCell ⟨B.heap.size,2,none⟩ (.int .i64 xq)).setCell ⟨B.heap.size,3,none⟩ (.string xs)).setCell ⟨B.heap.size,4,none⟩ (.int .i64 xr)).heap[B.heap.size]? =some (oV xk xp xq xs xr) from zAk Hz3.out _ _ _ _ _)
  have hzx:w.heap.size≤B.heap.size:=by omega
  generalize (((((nw3.setCell ⟨B.heap.size,0,none⟩ (.int .i64 xk)).setCell ⟨B.heap.size,1,none⟩ (.int .i64 xp)).setCell ⟨B.heap.size,2,none⟩ (.int .i64 xq)).setCell ⟨B.heap.size,3,none⟩ (.string xs)).setCell ⟨B.heap.size,4,none⟩ (.int .i64 xr))=W at HWB HWx HWa HWb HWu HWv ⊢
  generalize B.heap.size=xb at HWx hzx ⊢
  try clear z0 z1 z2 z3 z4 fz0 fz1 fz2 fz3 fz4
 rotate_left
 all_goals
  have hyx:xb<W.heap.size:=hsz HWx
  obtain⟨x0,x1,x2,x3,x4⟩:=cells5 HWx.out
  have hyv:w1.heap.size<W.heap.size:=hsz HWv
  obtain⟨v0,v1,v2,v3,v4⟩:=cells5 HWv.out
  go_wp2_with fail
  refine(pIs_c _ _ _ _ _ _).mono ?_
  rintro e v2 ⟨av,rfl,hA,hb⟩
  have Hu2:=hkh hb HWu.out
  have HV2:=hbn HWB.out hb
  obtain⟨ao,an,ac,rfl⟩:=hA.shape
  have HA:=Lib.hid hA
  have hzW:=hb.size
  clear hb hA
  have hyu:w.heap.size+1+1<v2.heap.size:=hsz Hu2
  obtain⟨u0,u1,u2,u3,u4,u5,u6,u7,u8,u9,u10,u11,u12,u13⟩:=cells14 Hu2.out
  obtain⟨fu0,fu1,fu2,fu3,fu4,fu5,fu6,fu7,fu8,fu9,fu10,fu11,fu12,fu13⟩:=froz14 Hu2.out
  go_wp2
  refine bodyPost_ret (by simp[results,Tryz.results73,go_sem,hyu,u0,u1,u2,u3,u4,u5,u6,u7,u8,u9,u10,u11,u12,u13];first|done|rfl) rfl ?_
  exact zAt (r:=w.heap.size+1+1) HV2.out HA.out HWB.out.size (by omega) (hsz HWu) (zAM (F:=fun b=>b=w.heap.size+1+1) (Mods.refl _ _) (.inl rfl) _ _ _ _ _ _ _ _ _ _ _ _ _ _)
end Go.Proofs.YthkpckgcgkijbaaGreatDoor
