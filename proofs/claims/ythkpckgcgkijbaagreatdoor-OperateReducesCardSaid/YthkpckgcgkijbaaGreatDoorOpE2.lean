import Derived.Test.YthkpckgcgkijbaaGreatDoorHpC
set_option linter.unusedVariables false
set_option linter.unusedSimpArgs false
set_option maxRecDepth 100000
set_option maxHeartbeats 20000000
namespace Go.Proofs.YthkpckgcgkijbaaGreatDoor
open Go.RowKit Go.Proofs.Lexi
theorem pSettled_miss (w:World) (ho:Option Addr) (o:Int) (vk vp vq:Int) (vs:ByteArray) (vr:Int) (c:Int) (base g:Nat) (hbase:base≤g) (k1 p1 q1:Int) (s1:ByteArray) (r1:Int) (k2 p2 q2:Int) (s2:ByteArray) (r2:Int) (hg:w.heap[g]? =some (.cells #[k1,p1,q1,s1,r1,k2,p2,q2,s2,r2] 25)) (xk xp xq:Int) (xs:ByteArray) (xr:Int) (h0:(c==0)=false) (h1:(c==7)=false) (h2:(c==6)=false) (h3:(c==14)=false) (E:ByteArray) (EV:∀W,Calls Tryz.prog 16 #[.int .i64 o] W (StrPost W E)) (FI:∀W bh be,Below w.heap.size w W→W.heap[bh]? =some (.cells #[.pointer ho] 36)→W.heap[be]? =some (.cells #[.string E] 9)→Calls Tryz.prog 179 #[.agg #[k1,p1,q1,s1,r1],.agg #[k2,p2,q2,s2,r2],.pointer (some ⟨bh,0,none⟩),.pointer (some ⟨be,0,none⟩)] W (ValPost W ⟨xk,xp,xq,xs,xr⟩)) (hx:(xk==0)=true) (msg:ByteArray) (WN:∀W,Below w.heap.size w W→Calls Tryz.prog 122 #[o,.agg #[k1,p1,q1,s1,r1],.agg #[k2,p2,q2,s2,r2]] W (StrPost W msg)):Calls Tryz.prog 74 #[.pointer ho,o,.agg #[vk,vp,vq,vs,vr],c,.slice (some ⟨g,0,none⟩) 2 2] w (NdB w base (ndErr msg)):=by
 have HEV:=Lib.hid EV
 have HFI:=Lib.hid FI
 have HG:=Lib.hid hg
 have hgl:g<w.heap.size:=(Array.getElem?_eq_some_iff.1 hg).1
 have HWN:=Lib.hid WN
 clear EV FI hg WN
 go_enter Tryz.func74,Tryz.ntmps74
 go_wp2
 obtain⟨B,hB⟩:∃B,B=(w.alloc (.cells #[vk,vp,vq,vs,vr] 25)).alloc oNd:=⟨_,rfl⟩
 rw[←hB]
 have HBW:=Lib.hid (show Below w.heap.size w B by rw[hB];exact zAF _ _ _)
 have HBg:=Lib.hid (show B.heap[g]? =some (.cells #[k1,p1,q1,s1,r1,k2,p2,q2,s2,r2] 25) by rw[hB];exact zAp HG.out _ _)
 have HBu:=Lib.hid (show B.heap[w.heap.size+1]? =some oNd by rw[hB];exact zAW _ _ _)
 clear hB
 have SO:=Lib.hid (fun W (hb:Below B.heap.size B W)=>(show W.cell? ⟨g,0,none⟩=some (.int .i64 k1)∧W.cell? ⟨g,1,none⟩=some (.int .i64 p1)∧W.cell? ⟨g,2,none⟩=some (.int .i64 q1)∧W.cell? ⟨g,3,none⟩=some (.string s1)∧W.cell? ⟨g,4,none⟩=some (.int .i64 r1)∧W.cell? ⟨g,5,none⟩=some (.int .i64 k2)∧W.cell? ⟨g,6,none⟩=some (.int .i64 p2)∧W.cell? ⟨g,7,none⟩=some (.int .i64 q2)∧W.cell? ⟨g,8,none⟩=some (.string s2)∧W.cell? ⟨g,9,none⟩=some (.int .i64 r2)∧Hid (Below B.heap.size B W) from⟨by rw[zAA (hkeep hb HBg.out)];rfl,by rw[zAA (hkeep hb HBg.out)];rfl,by rw[zAA (hkeep hb HBg.out)];rfl,by rw[zAA (hkeep hb HBg.out)];rfl,by rw[zAA (hkeep hb HBg.out)];rfl,by rw[zAA (hkeep hb HBg.out)];rfl,by rw[zAA (hkeep hb HBg.out)];rfl,by rw[zAA (hkeep hb HBg.out)];rfl,by rw[zAA (hkeep hb HBg.out)];rfl,by rw[zAA (hkeep hb HBg.out)];rfl,Lib.hid hb⟩))
 have SO5:=Lib.hid (fun(W:World) (b:Nat) (x y z u v:Value) (hb:Below B.heap.size B W) (hbb:B.heap.size≤b)=>(show(fun w'=>w'.cell? ⟨g,0,none⟩=some (.int .i64 k1)∧w'.cell? ⟨g,1,none⟩=some (.int .i64 p1)∧w'.cell? ⟨g,2,none⟩=some (.int .i64 q1)∧w'.cell? ⟨g,3,none⟩=some (.string s1)∧w'.cell? ⟨g,4,none⟩=some (.int .i64 r1)∧w'.cell? ⟨g,5,none⟩=some (.int .i64 k2)∧w'.cell? ⟨g,6,none⟩=some (.int .i64 p2)∧w'.cell? ⟨g,7,none⟩=some (.int .i64 q2)∧w'.cell? ⟨g,8,none⟩=some (.string s2)∧w'.cell? ⟨g,9,none⟩=some (.int .i64 r2)∧Hid (Below B.heap.size B w')) (((((W.setCell ⟨b,0,none⟩ x).setCell ⟨b,1,none⟩ y).setCell ⟨b,2,none⟩ z).setCell ⟨b,3,none⟩ u).setCell ⟨b,4,none⟩ v) from SO.out _ (zAH hb hbb x y z u v)))
 have SO1:=Lib.hid (fun(W:World) (o:Obj) (hb:Below B.heap.size B W)=>(show(fun w'=>w'.cell? ⟨g,0,none⟩=some (.int .i64 k1)∧w'.cell? ⟨g,1,none⟩=some (.int .i64 p1)∧w'.cell? ⟨g,2,none⟩=some (.int .i64 q1)∧w'.cell? ⟨g,3,none⟩=some (.string s1)∧w'.cell? ⟨g,4,none⟩=some (.int .i64 r1)∧w'.cell? ⟨g,5,none⟩=some (.int .i64 k2)∧w'.cell? ⟨g,6,none⟩=some (.int .i64 p2)∧w'.cell? ⟨g,7,none⟩=some (.int .i64 q2)∧w'.cell? ⟨g,8,none⟩=some (.string s2)∧w'.cell? ⟨g,9,none⟩=some (.int .i64 r2)∧Hid (Below B.heap.size B w')) (W.alloc o) from SO.out _ (hb.alloc hb.size o)))
 have SO1D:=Lib.hid (fun(W:World) (o:Obj) (hb:Below B.heap.size B W)=>(show(fun w'=>w'.cell? ⟨g,0,none⟩=some (.int .i64 k1)∧w'.cell? ⟨g,1,none⟩=some (.int .i64 p1)∧w'.cell? ⟨g,2,none⟩=some (.int .i64 q1)∧w'.cell? ⟨g,3,none⟩=some (.string s1)∧w'.cell? ⟨g,4,none⟩=some (.int .i64 r1)∧w'.cell? ⟨g,5,none⟩=some (.int .i64 k2)∧w'.cell? ⟨g,6,none⟩=some (.int .i64 p2)∧w'.cell? ⟨g,7,none⟩=some (.int .i64 q2)∧w'.cell? ⟨g,8,none⟩=some (.string s2)∧w'.cell? ⟨g,9,none⟩=some (.int .i64 r2)∧Hid (Below B.heap.size B w')) ((W.alloc o).drew) from SO.out _ (hb.alloc hb.size o).drew))
 have hbR:Below B.heap.size B B:=Below.refl _ _
 have hbD:Below B.heap.size B B.drew:=(Below.refl _ _).drew
 go_region_held3 (fun w'=>w'.cell? ⟨g,0,none⟩=some (.int .i64 k1)∧w'.cell? ⟨g,1,none⟩=some (.int .i64 p1)∧w'.cell? ⟨g,2,none⟩=some (.int .i64 q1)∧w'.cell? ⟨g,3,none⟩=some (.string s1)∧w'.cell? ⟨g,4,none⟩=some (.int .i64 r1)∧w'.cell? ⟨g,5,none⟩=some (.int .i64 k2)∧w'.cell? ⟨g,6,none⟩=some (.int .i64 p2)∧w'.cell? ⟨g,7,none⟩=some (.int .i64 q2)∧w'.cell? ⟨g,8,none⟩=some (.string s2)∧w'.cell? ⟨g,9,none⟩=some (.int .i64 r2)∧Hid (Below B.heap.size B w'))
  (first|with_reducible exact SO.out _ (by assumption)|with_reducible exact SO1.out _ _ (by assumption)|with_reducible exact SO1D.out _ _ (by assumption)|with_reducible exact SO5.out _ _ _ _ _ _ _ (by assumption) (by first|with_reducible exact Nat.le_refl _|with_reducible exact Below.size (by assumption)))
  (first|(go_at_call 16;refine(HEV.out _).mono ?_;rintro e w1 ⟨rfl,hb⟩;have hb1:=zAC (prj10 (by assumption)) hb;(first|(with_reducible have Hz1:=hkh hb (zBC B (oV 0 0 0 ⟨#[]⟩ 0)))|skip);clear hb)|(go_at_call 121;refine(pFinder_c _ _ _).mono ?_;rintro e w2 ⟨rfl,hbh,hbe,hb⟩;have hb2:=zAC (prj10 (by assumption)) hb;(first|(with_reducible have Hz2:=hkh hb Hz1.out)|(with_reducible have Hz2:=hkh hb (zAg w1 (oV 0 0 0 ⟨#[]⟩ 0)))|(with_reducible have Hz2:=hkh hb (zBC w1 (oV 0 0 0 ⟨#[]⟩ 0)))|skip);have HBH:=Lib.hid hbh;have HBE:=Lib.hid hbe;clear hbh hbe;clear hb)|(go_at_call 179;refine(HFI.out _ _ _ (zAC HBW.out (prj10 (by assumption))) (by first|with_reducible exact HBH.out|with_reducible exact zAI HBH.out _|(simpa using HBH.out)) (by first|with_reducible exact HBE.out|with_reducible exact zAI HBE.out _|(simpa using HBE.out))).mono ?_;rintro e w3 ⟨rfl,hb⟩;have hb3:=zAC (prj10 (by assumption)) hb;(first|((with_reducible have Hz3:=hkh hb Hz2.out);have z0:=(zAA (o:=0) Hz3.out).trans (rfl:_=some (Value.int .i64 0));have z1:=(zAA (o:=1) Hz3.out).trans (rfl:_=some (Value.int .i64 0));have z2:=(zAA (o:=2) Hz3.out).trans (rfl:_=some (Value.int .i64 0));have z3:=(zAA (o:=3) Hz3.out).trans (rfl:_=some (Value.string ⟨#[]⟩));have z4:=(zAA (o:=4) Hz3.out).trans (rfl:_=some (Value.int .i64 0));have fz0:=zAB Hz3.out 0;have fz1:=zAB Hz3.out 1;have fz2:=zAB Hz3.out 2;have fz3:=zAB Hz3.out 3;have fz4:=zAB Hz3.out 4)|((with_reducible have Hz3:=hkh hb (zAg w2 (oV 0 0 0 ⟨#[]⟩ 0)));have z0:=(zAA (o:=0) Hz3.out).trans (rfl:_=some (Value.int .i64 0));have z1:=(zAA (o:=1) Hz3.out).trans (rfl:_=some (Value.int .i64 0));have z2:=(zAA (o:=2) Hz3.out).trans (rfl:_=some (Value.int .i64 0));have z3:=(zAA (o:=3) Hz3.out).trans (rfl:_=some (Value.string ⟨#[]⟩));have z4:=(zAA (o:=4) Hz3.out).trans (rfl:_=some (Value.int .i64 0));have fz0:=zAB Hz3.out 0;have fz1:=zAB Hz3.out 1;have fz2:=zAB Hz3.out 2;have fz3:=zAB Hz3.out 3;have fz4:=zAB Hz3.out 4)|((with_reducible have Hz3:=hkh hb (zBC w2 (oV 0 0 0 ⟨#[]⟩ 0)));have z0:=(zAA (o:=0) Hz3.out).trans (rfl:_=some (Value.int .i64 0));have z1:=(zAA (o:=1) Hz3.out).trans (rfl:_=some (Value.int .i64 0));have z2:=(zAA (o:=2) Hz3.out).trans (rfl:_=some (Value.int .i64 0));have z3:=(zAA (o:=3) Hz3.out).trans (rfl:_=some (Value.string ⟨#[]⟩));have z4:=(zAA (o:=4) Hz3.out).trans (rfl:_=some (Value.int .i64 0));have fz0:=zAB Hz3.out 0;have fz1:=zAB Hz3.out 1;have fz2:=zAB Hz3.out 2;have fz3:=zAB Hz3.out 3;have fz4:=zAB Hz3.out 4)|skip);clear hb))
 all_goals have hzB:=HBW.out.size
 all_goals have hzb_g:=hsz HBg
 all_goals have hzb_u:=hsz HBu
 all_goals have hzc1:=hb1.size
 all_goals have hzc2:=hb2.size
 all_goals have hzc3:=hb3.size
 ·have HWB:=Lib.hid (show Below w.heap.size w (w3.alloc (.cells #[xk,xp,xq,xs,xr] 25)) from(zAC HBW.out hb3).alloc (zAC HBW.out hb3).size _)
  have HWg:=Lib.hid (show(w3.alloc (.cells #[xk,xp,xq,xs,xr] 25)).heap[g]? =some (.cells #[k1,p1,q1,s1,r1,k2,p2,q2,s2,r2] 25) from zAI (hkeep hb3 HBg.out) _)
  have HWu:=Lib.hid (show(w3.alloc (.cells #[xk,xp,xq,xs,xr] 25)).heap[w.heap.size+1]? =some oNd from zAI (hkeep hb3 HBu.out) _)
  have HWx:=Lib.hid (show(w3.alloc (.cells #[xk,xp,xq,xs,xr] 25)).heap[w3.heap.size]? =some (oV xk xp xq xs xr) from heap1 w3 _)
  have hzx:w.heap.size≤w3.heap.size:=by omega
  generalize (w3.alloc (.cells #[xk,xp,xq,xs,xr] 25))=W at HWB HWx HWg HWu ⊢
  generalize w3.heap.size=xb at HWx hzx ⊢
  try clear z0 z1 z2 z3 z4 fz0 fz1 fz2 fz3 fz4
  have hyx:xb<W.heap.size:=hsz HWx
  obtain⟨x0,x1,x2,x3,x4⟩:=cells5 HWx.out
  have hyg:g<W.heap.size:=hsz HWg
  obtain⟨g0,g1,g2,g3,g4,g5,g6,g7,g8,g9⟩:=cells10 HWg.out
  go_wp2
  refine zAK mixed (by kernel_rfl) ?_
  go_wp2_with fail
  refine(HWN.out _ HWB.out.drew).mono ?_
  rintro e v1 ⟨rfl,hb⟩
  have Hu1:=hkh hb (show W.drew.heap[w.heap.size+1]? =_ from HWu.out)
  have HV1:=hbn HWB.out.drew hb
  clear hb
  go_wp2_with fail
  refine(zCC _ _).mono ?_
  rintro e v2 ⟨av,rfl,hA,hb⟩
  have Hu2:=hkh hb Hu1.out
  have HV2:=hbn HV1.out hb
  obtain⟨ao,an,ac,rfl⟩:=hA.shape
  have HA:=Lib.hid hA
  clear hb hA
  have hyu:w.heap.size+1<v2.heap.size:=hsz Hu2
  obtain⟨u0,u1,u2,u3,u4,u5,u6,u7,u8,u9,u10,u11,u12,u13⟩:=cells14 Hu2.out
  obtain⟨fu0,fu1,fu2,fu3,fu4,fu5,fu6,fu7,fu8,fu9,fu10,fu11,fu12,fu13⟩:=froz14 Hu2.out
  go_wp2
  refine⟨by kernel_rfl,?_⟩
  go_wp2
  refine bodyPost_ret (by simp[results,Tryz.results74,go_sem,hyu,u0,u1,u2,u3,u4,u5,u6,u7,u8,u9,u10,u11,u12,u13];first|done|rfl) rfl ?_
  exact ndb_nil (r:=w.heap.size+1) rfl HV2.out HA.out (by omega) (zAM (F:=fun b=>b=w.heap.size+1) (Mods.refl _ _) (.inl rfl) _ _ _ _ _ _ _ _ _ _ _ _ _ _)
 ·have HWB:=Lib.hid (show Below w.heap.size w (((((w3.setCell ⟨w2.heap.size,0,none⟩ (.int .i64 xk)).setCell ⟨w2.heap.size,1,none⟩ (.int .i64 xp)).setCell ⟨w2.heap.size,2,none⟩ (.int .i64 xq)).setCell ⟨w2.heap.size,3,none⟩ (.string xs)).setCell ⟨w2.heap.size,4,none⟩ (.int .i64 xr)) from zAH (zAC HBW.out hb3) (by omega) _ _ _ _ _)
  have HWg:=Lib.hid (show(((((w3.setCell ⟨w2.heap.size,0,none⟩ (.int .i64 xk)).setCell ⟨w2.heap.size,1,none⟩ (.int .i64 xp)).setCell ⟨w2.heap.size,2,none⟩ (.int .i64 xq)).setCell ⟨w2.heap.size,3,none⟩ (.string xs)).setCell ⟨w2.heap.size,4,none⟩ (.int .i64 xr)).heap[g]? =some (.cells #[k1,p1,q1,s1,r1,k2,p2,q2,s2,r2] 25) from zAR (hkeep hb3 HBg.out) (by omega) _ _ _ _ _)
  have HWu:=Lib.hid (show(((((w3.setCell ⟨w2.heap.size,0,none⟩ (.int .i64 xk)).setCell ⟨w2.heap.size,1,none⟩ (.int .i64 xp)).setCell ⟨w2.heap.size,2,none⟩ (.int .i64 xq)).setCell ⟨w2.heap.size,3,none⟩ (.string xs)).setCell ⟨w2.heap.size,4,none⟩ (.int .i64 xr)).heap[w.heap.size+1]? =some oNd from zAR (hkeep hb3 HBu.out) (by omega) _ _ _ _ _)
  have HWx:=Lib.hid (show(((((w3.setCell ⟨w2.heap.size,0,none⟩ (.int .i64 xk)).setCell ⟨w2.heap.size,1,none⟩ (.int .i64 xp)).setCell ⟨w2.heap.size,2,none⟩ (.int .i64 xq)).setCell ⟨w2.heap.size,3,none⟩ (.string xs)).setCell ⟨w2.heap.size,4,none⟩ (.int .i64 xr)).heap[w2.heap.size]? =some (oV xk xp xq xs xr) from zAk Hz3.out _ _ _ _ _)
  have hzx:w.heap.size≤w2.heap.size:=by omega
  generalize (((((w3.setCell ⟨w2.heap.size,0,none⟩ (.int .i64 xk)).setCell ⟨w2.heap.size,1,none⟩ (.int .i64 xp)).setCell ⟨w2.heap.size,2,none⟩ (.int .i64 xq)).setCell ⟨w2.heap.size,3,none⟩ (.string xs)).setCell ⟨w2.heap.size,4,none⟩ (.int .i64 xr))=W at HWB HWx HWg HWu ⊢
  generalize w2.heap.size=xb at HWx hzx ⊢
  try clear z0 z1 z2 z3 z4 fz0 fz1 fz2 fz3 fz4
  have hyx:xb<W.heap.size:=hsz HWx
  obtain⟨x0,x1,x2,x3,x4⟩:=cells5 HWx.out
  have hyg:g<W.heap.size:=hsz HWg
  obtain⟨g0,g1,g2,g3,g4,g5,g6,g7,g8,g9⟩:=cells10 HWg.out
  go_wp2
  refine zAK mixed (by kernel_rfl) ?_
  go_wp2_with fail
  refine(HWN.out _ HWB.out.drew).mono ?_
  rintro e v1 ⟨rfl,hb⟩
  have Hu1:=hkh hb (show W.drew.heap[w.heap.size+1]? =_ from HWu.out)
  have HV1:=hbn HWB.out.drew hb
  clear hb
  go_wp2_with fail
  refine(zCC _ _).mono ?_
  rintro e v2 ⟨av,rfl,hA,hb⟩
  have Hu2:=hkh hb Hu1.out
  have HV2:=hbn HV1.out hb
  obtain⟨ao,an,ac,rfl⟩:=hA.shape
  have HA:=Lib.hid hA
  clear hb hA
  have hyu:w.heap.size+1<v2.heap.size:=hsz Hu2
  obtain⟨u0,u1,u2,u3,u4,u5,u6,u7,u8,u9,u10,u11,u12,u13⟩:=cells14 Hu2.out
  obtain⟨fu0,fu1,fu2,fu3,fu4,fu5,fu6,fu7,fu8,fu9,fu10,fu11,fu12,fu13⟩:=froz14 Hu2.out
  go_wp2
  refine⟨by kernel_rfl,?_⟩
  go_wp2
  refine bodyPost_ret (by simp[results,Tryz.results74,go_sem,hyu,u0,u1,u2,u3,u4,u5,u6,u7,u8,u9,u10,u11,u12,u13];first|done|rfl) rfl ?_
  exact ndb_nil (r:=w.heap.size+1) rfl HV2.out HA.out (by omega) (zAM (F:=fun b=>b=w.heap.size+1) (Mods.refl _ _) (.inl rfl) _ _ _ _ _ _ _ _ _ _ _ _ _ _)
 ·have HWB:=Lib.hid (show Below w.heap.size w (((((w3.setCell ⟨w1.heap.size,0,none⟩ (.int .i64 xk)).setCell ⟨w1.heap.size,1,none⟩ (.int .i64 xp)).setCell ⟨w1.heap.size,2,none⟩ (.int .i64 xq)).setCell ⟨w1.heap.size,3,none⟩ (.string xs)).setCell ⟨w1.heap.size,4,none⟩ (.int .i64 xr)) from zAH (zAC HBW.out hb3) (by omega) _ _ _ _ _)
  have HWg:=Lib.hid (show(((((w3.setCell ⟨w1.heap.size,0,none⟩ (.int .i64 xk)).setCell ⟨w1.heap.size,1,none⟩ (.int .i64 xp)).setCell ⟨w1.heap.size,2,none⟩ (.int .i64 xq)).setCell ⟨w1.heap.size,3,none⟩ (.string xs)).setCell ⟨w1.heap.size,4,none⟩ (.int .i64 xr)).heap[g]? =some (.cells #[k1,p1,q1,s1,r1,k2,p2,q2,s2,r2] 25) from zAR (hkeep hb3 HBg.out) (by omega) _ _ _ _ _)
  have HWu:=Lib.hid (show(((((w3.setCell ⟨w1.heap.size,0,none⟩ (.int .i64 xk)).setCell ⟨w1.heap.size,1,none⟩ (.int .i64 xp)).setCell ⟨w1.heap.size,2,none⟩ (.int .i64 xq)).setCell ⟨w1.heap.size,3,none⟩ (.string xs)).setCell ⟨w1.heap.size,4,none⟩ (.int .i64 xr)).heap[w.heap.size+1]? =some oNd from zAR (hkeep hb3 HBu.out) (by omega) _ _ _ _ _)
  have HWx:=Lib.hid (show(((((w3.setCell ⟨w1.heap.size,0,none⟩ (.int .i64 xk)).setCell ⟨w1.heap.size,1,none⟩ (.int .i64 xp)).setCell ⟨w1.heap.size,2,none⟩ (.int .i64 xq)).setCell ⟨w1.heap.size,3,none⟩ (.string xs)).setCell ⟨w1.heap.size,4,none⟩ (.int .i64 xr)).heap[w1.heap.size]? =some (oV xk xp xq xs xr) from zAk Hz3.out _ _ _ _ _)
  have hzx:w.heap.size≤w1.heap.size:=by omega
  generalize (((((w3.setCell ⟨w1.heap.size,0,none⟩ (.int .i64 xk)).setCell ⟨w1.heap.size,1,none⟩ (.int .i64 xp)).setCell ⟨w1.heap.size,2,none⟩ (.int .i64 xq)).setCell ⟨w1.heap.size,3,none⟩ (.string xs)).setCell ⟨w1.heap.size,4,none⟩ (.int .i64 xr))=W at HWB HWx HWg HWu ⊢
  generalize w1.heap.size=xb at HWx hzx ⊢
  try clear z0 z1 z2 z3 z4 fz0 fz1 fz2 fz3 fz4
  have hyx:xb<W.heap.size:=hsz HWx
  obtain⟨x0,x1,x2,x3,x4⟩:=cells5 HWx.out
  have hyg:g<W.heap.size:=hsz HWg
  obtain⟨g0,g1,g2,g3,g4,g5,g6,g7,g8,g9⟩:=cells10 HWg.out
  go_wp2
  refine zAK mixed (by kernel_rfl) ?_
  go_wp2_with fail
  refine(HWN.out _ HWB.out.drew).mono ?_
  rintro e v1 ⟨rfl,hb⟩
  have Hu1:=hkh hb (show W.drew.heap[w.heap.size+1]? =_ from HWu.out)
  have HV1:=hbn HWB.out.drew hb
  clear hb
  go_wp2_with fail
  refine(zCC _ _).mono ?_
  rintro e v2 ⟨av,rfl,hA,hb⟩
  have Hu2:=hkh hb Hu1.out
  have HV2:=hbn HV1.out hb
  obtain⟨ao,an,ac,rfl⟩:=hA.shape
  have HA:=Lib.hid hA
  clear hb hA
  have hyu:w.heap.size+1<v2.heap.size:=hsz Hu2
  obtain⟨u0,u1,u2,u3,u4,u5,u6,u7,u8,u9,u10,u11,u12,u13⟩:=cells14 Hu2.out
  obtain⟨fu0,fu1,fu2,fu3,fu4,fu5,fu6,fu7,fu8,fu9,fu10,fu11,fu12,fu13⟩:=froz14 Hu2.out
  go_wp2
  refine⟨by kernel_rfl,?_⟩
  go_wp2
  refine bodyPost_ret (by simp[results,Tryz.results74,go_sem,hyu,u0,u1,u2,u3,u4,u5,u6,u7,u8,u9,u10,u11,u12,u13];first|done|rfl) rfl ?_
  exact ndb_nil (r:=w.heap.size+1) rfl HV2.out HA.out (by omega) (zAM (F:=fun b=>b=w.heap.size+1) (Mods.refl _ _) (.inl rfl) _ _ _ _ _ _ _ _ _ _ _ _ _ _)
 ·have HWB:=Lib.hid (show Below w.heap.size w (((((w3.setCell ⟨B.heap.size,0,none⟩ (.int .i64 xk)).setCell ⟨B.heap.size,1,none⟩ (.int .i64 xp)).setCell ⟨B.heap.size,2,none⟩ (.int .i64 xq)).setCell ⟨B.heap.size,3,none⟩ (.string xs)).setCell ⟨B.heap.size,4,none⟩ (.int .i64 xr)) from zAH (zAC HBW.out hb3) (by omega) _ _ _ _ _)
  have HWg:=Lib.hid (show(((((w3.setCell ⟨B.heap.size,0,none⟩ (.int .i64 xk)).setCell ⟨B.heap.size,1,none⟩ (.int .i64 xp)).setCell ⟨B.heap.size,2,none⟩ (.int .i64 xq)).setCell ⟨B.heap.size,3,none⟩ (.string xs)).setCell ⟨B.heap.size,4,none⟩ (.int .i64 xr)).heap[g]? =some (.cells #[k1,p1,q1,s1,r1,k2,p2,q2,s2,r2] 25) from zAR (hkeep hb3 HBg.out) (by omega) _ _ _ _ _)
  have HWu:=Lib.hid (show(((((w3.setCell ⟨B.heap.size,0,none⟩ (.int .i64 xk)).setCell ⟨B.heap.size,1,none⟩ (.int .i64 xp)).setCell ⟨B.heap.size,2,none⟩ (.int .i64 xq)).setCell ⟨B.heap.size,3,none⟩ (.string xs)).setCell ⟨B.heap.size,4,none⟩ (.int .i64 xr)).heap[w.heap.size+1]? =some oNd from zAR (hkeep hb3 HBu.out) (by omega) _ _ _ _ _)
  have HWx:=Lib.hid (show(((((w3.setCell ⟨B.heap.size,0,none⟩ (.int .i64 xk)).setCell ⟨B.heap.size,1,none⟩ (.int .i64 xp)).setCell ⟨B.heap.size,2,none⟩ (.int .i64 xq)).setCell ⟨B.heap.size,3,none⟩ (.string xs)).setCell ⟨B.heap.size,4,none⟩ (.int .i64 xr)).heap[B.heap.size]? =some (oV xk xp xq xs xr) from zAk Hz3.out _ _ _ _ _)
  have hzx:w.heap.size≤B.heap.size:=by omega
  generalize (((((w3.setCell ⟨B.heap.size,0,none⟩ (.int .i64 xk)).setCell ⟨B.heap.size,1,none⟩ (.int .i64 xp)).setCell ⟨B.heap.size,2,none⟩ (.int .i64 xq)).setCell ⟨B.heap.size,3,none⟩ (.string xs)).setCell ⟨B.heap.size,4,none⟩ (.int .i64 xr))=W at HWB HWx HWg HWu ⊢
  generalize B.heap.size=xb at HWx hzx ⊢
  try clear z0 z1 z2 z3 z4 fz0 fz1 fz2 fz3 fz4
  have hyx:xb<W.heap.size:=hsz HWx
  obtain⟨x0,x1,x2,x3,x4⟩:=cells5 HWx.out
  have hyg:g<W.heap.size:=hsz HWg
  obtain⟨g0,g1,g2,g3,g4,g5,g6,g7,g8,g9⟩:=cells10 HWg.out
  go_wp2
  refine zAK mixed (by kernel_rfl) ?_
  go_wp2_with fail
  refine(HWN.out _ HWB.out.drew).mono ?_
  rintro e v1 ⟨rfl,hb⟩
  have Hu1:=hkh hb (show W.drew.heap[w.heap.size+1]? =_ from HWu.out)
  have HV1:=hbn HWB.out.drew hb
  clear hb
  go_wp2_with fail
  refine(zCC _ _).mono ?_
  rintro e v2 ⟨av,rfl,hA,hb⟩
  have Hu2:=hkh hb Hu1.out
  have HV2:=hbn HV1.out hb
  obtain⟨ao,an,ac,rfl⟩:=hA.shape
  have HA:=Lib.hid hA
  clear hb hA
  have hyu:w.heap.size+1<v2.heap.size:=hsz Hu2
  obtain⟨u0,u1,u2,u3,u4,u5,u6,u7,u8,u9,u10,u11,u12,u13⟩:=cells14 Hu2.out
  obtain⟨fu0,fu1,fu2,fu3,fu4,fu5,fu6,fu7,fu8,fu9,fu10,fu11,fu12,fu13⟩:=froz14 Hu2.out
  go_wp2
  refine⟨by kernel_rfl,?_⟩
  go_wp2
  refine bodyPost_ret (by simp[results,Tryz.results74,go_sem,hyu,u0,u1,u2,u3,u4,u5,u6,u7,u8,u9,u10,u11,u12,u13];first|done|rfl) rfl ?_
  exact ndb_nil (r:=w.heap.size+1) rfl HV2.out HA.out (by omega) (zAM (F:=fun b=>b=w.heap.size+1) (Mods.refl _ _) (.inl rfl) _ _ _ _ _ _ _ _ _ _ _ _ _ _)
end Go.Proofs.YthkpckgcgkijbaaGreatDoor
