import Derived.Test.YthkpckgcgkijbaaGreatDoorValC
set_option linter.unusedVariables false
set_option linter.unusedSimpArgs false
set_option maxRecDepth 100000
set_option maxHeartbeats 20000000
namespace Go.Proofs.YthkpckgcgkijbaaGreatDoor
open Go.RowKit Go.Proofs.Lexi Go.Proofs.Tryz
theorem Tj (w:World) (ho:Option Addr) (o:Int) (k1 p1 q1:Int) (s1:ByteArray) (r1:Int) (k2 p2 q2:Int) (s2:ByteArray) (r2:Int) (vk vp vq:Int) (vs:ByteArray) (vr:Int) (PL:∀W,Below w w W->Calls prog 11 #[o,.agg #[k1,p1,q1,s1,r1],.agg #[k2,p2,q2,s2,r2]] W (VrPost W (.ok ⟨vk,vp,vq,vs,vr⟩))) (eq:Bool) (SM:∀W,Calls prog 42 #[.agg #[k1,p1,q1,s1,r1],.agg #[k2,p2,q2,s2,r2]] W (BoolPost W eq)) (xk xp xq:Int) (xs:ByteArray) (xr:Int) (h1:eq=false) (h2:(k1 !=k2)=false) (h3:(k1 !=4)=false) (E:ByteArray) (EV:∀W,Calls prog 16 #[o] W (StrPost W E)) (FI:∀W bh be,Below w w W->W.heap[bh]? =some (.cells #[.pointer ho] 36)->W.heap[be]? =some (.cells #[E] 9)->Calls prog 179 #[.agg #[k1,p1,q1,s1,r1],.agg #[k2,p2,q2,s2,r2],.pointer (some ⟨bh,0,none⟩),.pointer (some ⟨be,0,none⟩)] W (ValPost W ⟨xk,xp,xq,xs,xr⟩)) (hx:(xk==0)=false) (af:Int) (hAF:((o==15)=true/\af=3)\/((o==15)=false/\af=2)):Calls prog 73 #[.pointer ho,o,.agg #[k1,p1,q1,s1,r1],.agg #[k2,p2,q2,s2,r2]] w (NdPost w (Zr ⟨xk,xp,xq,xs,xr⟩ [⟨k1,p1,q1,s1,r1⟩,⟨k2,p2,q2,s2,r2⟩] af)):=by
 subst h1;have HPL:=zh PL;have HSM:=zh SM;have HEV:=zh EV;have HFI:=zh FI;have HAF:=zh hAF;clear PL SM EV FI hAF;go_enter func73,ntmps73;go_wp2_with fail
 refine(HPL.out _ ((QE _ _ _).alloc (by simp;omega) _)).mono ?_;rintro e w1 ⟨rfl,hb⟩;have Ha1:=hkh hb (Qi _ _ _ _);have Hb1:=hkh hb (Qa _ _ _ _);have Hu1:=hkh hb (QU _ _ _ _);have HW1:=hbn (((QE _ _ _).alloc (by simp;omega) _)) hb;have hz1:=hb.size;try simp at hz1
 clear hb;have hya:=hsz Ha1;obtain⟨a0,a1,a2,a3,a4⟩:=zc5 Ha1.out;have hyb:=hsz Hb1;obtain⟨b0,b1,b2,b3,b4⟩:=zc5 Hb1.out;go_wp2_with fail
 refine(HSM.out _).mono ?_;rintro e w2 ⟨rfl,hb⟩;have Ha2:=hkh hb (QI Ha1.out _);have Hb2:=hkh hb (QI Hb1.out _);have Hu2:=hkh hb (QI Hu1.out _);have Hv2:=hkh hb (Qy w1 (oV vk vp vq vs vr));have HW2:=hbn (HW1.out.alloc HW1.out.size (oV vk vp vq vs vr)) hb;have hz2:=hb.size;try simp at hz2
 clear hb;clear hya a0 a1 a2 a3 a4 hyb b0 b1 b2 b3 b4;have hya:=hsz Ha2;obtain⟨a0,a1,a2,a3,a4⟩:=zc5 Ha2.out;have hyb:=hsz Hb2;obtain⟨b0,b1,b2,b3,b4⟩:=zc5 Hb2.out;go_wp2;clear hya a0 a1 a2 a3 a4 hyb b0 b1 b2 b3 b4;obtain⟨B,hB⟩:∃B,B=w2:=⟨_,rfl⟩
 rw[<-hB];have HBW:=zh (show Below w w B by rw[hB];exact HW2.out);have HBa:=zh (show B.heap[w.heap.size]? =some (oV k1 p1 q1 s1 r1) by rw[hB];exact Ha2.out);have HBb:=zh (show B.heap[w.heap.size+1]? =some (oV k2 p2 q2 s2 r2) by rw[hB];exact Hb2.out);have HBu:=zh (show B.heap[w.heap.size+1+1]? =some oNd by rw[hB];exact Hu2.out);have HBv:=zh (show B.heap[w1.heap.size]? =some (oV vk vp vq vs vr) by rw[hB];exact Hv2.out);clear hB;have SO:=zh (fun(W:World) (hb:Below B B W)=>(at5 (QL hb HBa.out) ((at5 (QL hb HBb.out) (zh hb)))));have SO5:=zh (fun(W:World) (b:Nat) (x y z u v:Value) (hb:Below B B W) (hbb:B.heap.size<=b)=>SO.out _ (QG hb hbb x y z u v));have SO1:=zh (fun(W:World) (o:Obj) (hb:Below B B W)=>SO.out _ (hb.alloc hb.size o));have SO1D:=zh (fun(W:World) (o:Obj) (hb:Below B B W)=>SO.out _ (hb.alloc hb.size o).drew);have hbR:Below B B B:=Below.refl _ _;have hbD:Below B B B.drew:=(Below.refl _ _).drew
 go_region_held3 (fun w'=>w'.cell? w=some (.int .i64 k1)/\w'.cell? ⟨w,1,none⟩=some (.int .i64 p1)/\w'.cell? ⟨w,2,none⟩=some (.int .i64 q1)/\w'.cell? ⟨w,3,none⟩=some (.string s1)/\w'.cell? ⟨w,4,none⟩=some (.int .i64 r1)/\w'.cell? ⟨w+1,0,none⟩=some (.int .i64 k2)/\w'.cell? ⟨w+1,1,none⟩=some (.int .i64 p2)/\w'.cell? ⟨w+1,2,none⟩=some (.int .i64 q2)/\w'.cell? ⟨w+1,3,none⟩=some (.string s2)/\w'.cell? ⟨w+1,4,none⟩=some (.int .i64 r2)/\Hid (Below B B w'))
  (first|with_reducible exact SO.out _ (by assumption)|with_reducible exact SO1.out _ _ (by assumption)|with_reducible exact SO1D.out _ _ (by assumption)|with_reducible exact SO5.out _ _ _ _ _ _ _ (by assumption) (by first|with_reducible exact Nat.le_refl _|with_reducible exact Below.size (by assumption)))
  (first|(go_at_call 16;refine(HEV.out _).mono ?_;rintro e nw1 ⟨rfl,hb⟩;have hb1:=QC (Z0 (by assumption)) hb;(first|(with_reducible have Hz1:=hkh hb (Qu B (oV 0 0 0 ⟨#[]⟩ 0)))|skip);clear hb)|(go_at_call 121;refine(KK _ _ _).mono ?_;rintro e nw2 ⟨rfl,hbh,hbe,hb⟩;have hb2:=QC (Z0 (by assumption)) hb;(first|(with_reducible have Hz2:=hkh hb Hz1.out)|(with_reducible have Hz2:=hkh hb (Qg nw1 (oV 0 0 0 ⟨#[]⟩ 0)))|(with_reducible have Hz2:=hkh hb (Qu nw1 (oV 0 0 0 ⟨#[]⟩ 0)))|skip);have HBH:=zh hbh;have HBE:=zh hbe;clear hbh hbe;clear hb)|(go_at_call 179;refine(HFI.out _ _ _ (QC HBW.out (Z0 (by assumption))) (by first|with_reducible exact HBH.out|with_reducible exact QI HBH.out _|(simpa using HBH.out)) (by first|with_reducible exact HBE.out|with_reducible exact QI HBE.out _|(simpa using HBE.out))).mono ?_;rintro e nw3 ⟨rfl,hb⟩;have hb3:=QC (Z0 (by assumption)) hb;(first|((with_reducible have Hz3:=hkh hb Hz2.out);have z0:=(QA (o:=0) Hz3.out).trans (rfl:_=some (Value.int .i64 0));have z1:=(QA (o:=1) Hz3.out).trans (rfl:_=some (Value.int .i64 0));have z2:=(QA (o:=2) Hz3.out).trans (rfl:_=some (Value.int .i64 0));have z3:=(QA (o:=3) Hz3.out).trans (rfl:_=some (Value.string ⟨#[]⟩));have z4:=(QA (o:=4) Hz3.out).trans (rfl:_=some (Value.int .i64 0));have fz0:=QB Hz3.out 0;have fz1:=QB Hz3.out 1;have fz2:=QB Hz3.out 2;have fz3:=QB Hz3.out 3;have fz4:=QB Hz3.out 4)|((with_reducible have Hz3:=hkh hb (Qg nw2 (oV 0 0 0 ⟨#[]⟩ 0)));have z0:=(QA (o:=0) Hz3.out).trans (rfl:_=some (Value.int .i64 0));have z1:=(QA (o:=1) Hz3.out).trans (rfl:_=some (Value.int .i64 0));have z2:=(QA (o:=2) Hz3.out).trans (rfl:_=some (Value.int .i64 0));have z3:=(QA (o:=3) Hz3.out).trans (rfl:_=some (Value.string ⟨#[]⟩));have z4:=(QA (o:=4) Hz3.out).trans (rfl:_=some (Value.int .i64 0));have fz0:=QB Hz3.out 0;have fz1:=QB Hz3.out 1;have fz2:=QB Hz3.out 2;have fz3:=QB Hz3.out 3;have fz4:=QB Hz3.out 4)|((with_reducible have Hz3:=hkh hb (Qu nw2 (oV 0 0 0 ⟨#[]⟩ 0)));have z0:=(QA (o:=0) Hz3.out).trans (rfl:_=some (Value.int .i64 0));have z1:=(QA (o:=1) Hz3.out).trans (rfl:_=some (Value.int .i64 0));have z2:=(QA (o:=2) Hz3.out).trans (rfl:_=some (Value.int .i64 0));have z3:=(QA (o:=3) Hz3.out).trans (rfl:_=some (Value.string ⟨#[]⟩));have z4:=(QA (o:=4) Hz3.out).trans (rfl:_=some (Value.int .i64 0));have fz0:=QB Hz3.out 0;have fz1:=QB Hz3.out 1;have fz2:=QB Hz3.out 2;have fz3:=QB Hz3.out 3;have fz4:=QB Hz3.out 4)|skip);clear hb))
 all_goals have hzB:=HBW.out.size
 all_goals have hzb_a:=hsz HBa
 all_goals have hzb_b:=hsz HBb
 all_goals have hzb_u:=hsz HBu
 all_goals have hzb_v:=hsz HBv
 all_goals have hzc1:=hb1.size
 all_goals have hzc2:=hb2.size
 all_goals have hzc3:=hb3.size
 focus
  obtain⟨W,xb,eW,eX,hR⟩:=JX hb3 (.int .i64 xk) (.int .i64 xp) (.int .i64 xq) (.string xs) (.int .i64 xr);rw[eW];try rw[eX]
  clear eW eX;try clear z0 z1 z2 z3 z4 fz0 fz1 fz2 fz3 fz4
 rotate_left
 focus
  obtain⟨W,xb,eW,eX,hR⟩:=ZJ (b:=nw2.heap.size) hb3 (by omega) Hz3.out (.int .i64 xk) (.int .i64 xp) (.int .i64 xq) (.string xs) (.int .i64 xr);rw[eW];try rw[eX]
  clear eW eX;try clear z0 z1 z2 z3 z4 fz0 fz1 fz2 fz3 fz4
 rotate_left
 focus
  obtain⟨W,xb,eW,eX,hR⟩:=ZJ (b:=nw1.heap.size) hb3 (by omega) Hz3.out (.int .i64 xk) (.int .i64 xp) (.int .i64 xq) (.string xs) (.int .i64 xr);rw[eW];try rw[eX]
  clear eW eX;try clear z0 z1 z2 z3 z4 fz0 fz1 fz2 fz3 fz4
 rotate_left
 focus
  obtain⟨W,xb,eW,eX,hR⟩:=ZJ (b:=B.heap.size) hb3 (by omega) Hz3.out (.int .i64 xk) (.int .i64 xp) (.int .i64 xq) (.string xs) (.int .i64 xr);rw[eW];try rw[eX]
  clear eW eX;try clear z0 z1 z2 z3 z4 fz0 fz1 fz2 fz3 fz4
 rotate_left
 all_goals
  obtain⟨HWB,HWx,hzx⟩:=hR.to HBW.out;have HWa:=hR.old HBa;have HWb:=hR.old HBb;have HWu:=hR.old HBu;have HWv:=hR.old HBv;clear hR
 all_goals
  have hyx:=hsz HWx;obtain⟨x0,x1,x2,x3,x4⟩:=zc5 HWx.out;have hyu:=hsz HWu;obtain⟨u0,u1,u2,u3,u4,u5,u6,u7,u8,u9,u10,u11,u12,u13⟩:=zc14 HWu.out;obtain⟨fu0,fu1,fu2,fu3,fu4,fu5,fu6,fu7,fu8,fu9,fu10,fu11,fu12,fu13⟩:=zf14 HWu.out;have hya:=hsz HWa;have hyb:=hsz HWb;obtain⟨a0,a1,a2,a3,a4⟩:=zc5 HWa.out;obtain⟨b0,b1,b2,b3,b4⟩:=zc5 HWb.out;rcases HAF.out with⟨h15,rfl⟩|⟨h15,rfl⟩;all_goals
   go_wp2;refine zr (by simp[results,results73,go_sem,hyu,u0,u1,u2,u3,u4,u5,u6,u7,u8,u9,u10,u11,u12,u13]<;>rfl) ?_;exact J4 (r:=w.heap.size+1+1) (f:=⟨xk,xp,xq,xs,xr⟩) (a:=⟨k1,p1,q1,s1,r1⟩) (b:=⟨k2,p2,q2,s2,r2⟩) HWB.out (by omega) (QP (F:=fun b=>b=w.heap.size+1+1) (Mods.refl _ _) (.inl rfl) _ _ _ _ _ _ _ _ _ _ _ _ _ _) (by simp)
theorem FC (w:World) (ho:Option Addr) (o:Int) (k1 p1 q1:Int) (s1:ByteArray) (r1:Int) (k2 p2 q2:Int) (s2:ByteArray) (r2:Int) (vk vp vq:Int) (vs:ByteArray) (vr:Int) (PL:∀W,Below w w W->Calls prog 11 #[o,.agg #[k1,p1,q1,s1,r1],.agg #[k2,p2,q2,s2,r2]] W (VrPost W (.ok ⟨vk,vp,vq,vs,vr⟩))) (eq:Bool) (SM:∀W,Calls prog 42 #[.agg #[k1,p1,q1,s1,r1],.agg #[k2,p2,q2,s2,r2]] W (BoolPost W eq)) (xk xp xq:Int) (xs:ByteArray) (xr:Int) (h1:eq=false) (h2:(k1 !=k2)=false) (h3:(k1 !=4)=false) (E:ByteArray) (EV:∀W,Calls prog 16 #[o] W (StrPost W E)) (FI:∀W bh be,Below w w W->W.heap[bh]? =some (.cells #[.pointer ho] 36)->W.heap[be]? =some (.cells #[E] 9)->Calls prog 179 #[.agg #[k1,p1,q1,s1,r1],.agg #[k2,p2,q2,s2,r2],.pointer (some ⟨bh,0,none⟩),.pointer (some ⟨be,0,none⟩)] W (ValPost W ⟨xk,xp,xq,xs,xr⟩)) (hx:(xk==0)=true):Calls prog 73 #[.pointer ho,o,.agg #[k1,p1,q1,s1,r1],.agg #[k2,p2,q2,s2,r2]] w (NdPost w (Zz ⟨vk,vp,vq,vs,vr⟩)):=by
 subst h1;have HPL:=zh PL;have HSM:=zh SM;have HEV:=zh EV;have HFI:=zh FI;clear PL SM EV FI;go_enter func73,ntmps73;go_wp2_with fail
 refine(HPL.out _ ((QE _ _ _).alloc (by simp;omega) _)).mono ?_;rintro e w1 ⟨rfl,hb⟩;have Ha1:=hkh hb (Qi _ _ _ _);have Hb1:=hkh hb (Qa _ _ _ _);have Hu1:=hkh hb (QU _ _ _ _);have HW1:=hbn (((QE _ _ _).alloc (by simp;omega) _)) hb;have hz1:=hb.size;try simp at hz1
 clear hb;have hya:=hsz Ha1;obtain⟨a0,a1,a2,a3,a4⟩:=zc5 Ha1.out;have hyb:=hsz Hb1;obtain⟨b0,b1,b2,b3,b4⟩:=zc5 Hb1.out;go_wp2_with fail
 refine(HSM.out _).mono ?_;rintro e w2 ⟨rfl,hb⟩;have Ha2:=hkh hb (QI Ha1.out _);have Hb2:=hkh hb (QI Hb1.out _);have Hu2:=hkh hb (QI Hu1.out _);have Hv2:=hkh hb (Qy w1 (oV vk vp vq vs vr));have HW2:=hbn (HW1.out.alloc HW1.out.size (oV vk vp vq vs vr)) hb;have hz2:=hb.size;try simp at hz2
 clear hb;clear hya a0 a1 a2 a3 a4 hyb b0 b1 b2 b3 b4;have hya:=hsz Ha2;obtain⟨a0,a1,a2,a3,a4⟩:=zc5 Ha2.out;have hyb:=hsz Hb2;obtain⟨b0,b1,b2,b3,b4⟩:=zc5 Hb2.out;go_wp2;clear hya a0 a1 a2 a3 a4 hyb b0 b1 b2 b3 b4;obtain⟨B,hB⟩:∃B,B=w2:=⟨_,rfl⟩
 rw[<-hB];have HBW:=zh (show Below w w B by rw[hB];exact HW2.out);have HBa:=zh (show B.heap[w.heap.size]? =some (oV k1 p1 q1 s1 r1) by rw[hB];exact Ha2.out);have HBb:=zh (show B.heap[w.heap.size+1]? =some (oV k2 p2 q2 s2 r2) by rw[hB];exact Hb2.out);have HBu:=zh (show B.heap[w.heap.size+1+1]? =some oNd by rw[hB];exact Hu2.out);have HBv:=zh (show B.heap[w1.heap.size]? =some (oV vk vp vq vs vr) by rw[hB];exact Hv2.out);clear hB;have SO:=zh (fun(W:World) (hb:Below B B W)=>(at5 (QL hb HBa.out) ((at5 (QL hb HBb.out) (zh hb)))));have SO5:=zh (fun(W:World) (b:Nat) (x y z u v:Value) (hb:Below B B W) (hbb:B.heap.size<=b)=>SO.out _ (QG hb hbb x y z u v));have SO1:=zh (fun(W:World) (o:Obj) (hb:Below B B W)=>SO.out _ (hb.alloc hb.size o));have SO1D:=zh (fun(W:World) (o:Obj) (hb:Below B B W)=>SO.out _ (hb.alloc hb.size o).drew);have hbR:Below B B B:=Below.refl _ _;have hbD:Below B B B.drew:=(Below.refl _ _).drew
 go_region_held3 (fun w'=>w'.cell? w=some (.int .i64 k1)/\w'.cell? ⟨w,1,none⟩=some (.int .i64 p1)/\w'.cell? ⟨w,2,none⟩=some (.int .i64 q1)/\w'.cell? ⟨w,3,none⟩=some (.string s1)/\w'.cell? ⟨w,4,none⟩=some (.int .i64 r1)/\w'.cell? ⟨w+1,0,none⟩=some (.int .i64 k2)/\w'.cell? ⟨w+1,1,none⟩=some (.int .i64 p2)/\w'.cell? ⟨w+1,2,none⟩=some (.int .i64 q2)/\w'.cell? ⟨w+1,3,none⟩=some (.string s2)/\w'.cell? ⟨w+1,4,none⟩=some (.int .i64 r2)/\Hid (Below B B w'))
  (first|with_reducible exact SO.out _ (by assumption)|with_reducible exact SO1.out _ _ (by assumption)|with_reducible exact SO1D.out _ _ (by assumption)|with_reducible exact SO5.out _ _ _ _ _ _ _ (by assumption) (by first|with_reducible exact Nat.le_refl _|with_reducible exact Below.size (by assumption)))
  (first|(go_at_call 16;refine(HEV.out _).mono ?_;rintro e nw1 ⟨rfl,hb⟩;have hb1:=QC (Z0 (by assumption)) hb;(first|(with_reducible have Hz1:=hkh hb (Qu B (oV 0 0 0 ⟨#[]⟩ 0)))|skip);clear hb)|(go_at_call 121;refine(KK _ _ _).mono ?_;rintro e nw2 ⟨rfl,hbh,hbe,hb⟩;have hb2:=QC (Z0 (by assumption)) hb;(first|(with_reducible have Hz2:=hkh hb Hz1.out)|(with_reducible have Hz2:=hkh hb (Qg nw1 (oV 0 0 0 ⟨#[]⟩ 0)))|(with_reducible have Hz2:=hkh hb (Qu nw1 (oV 0 0 0 ⟨#[]⟩ 0)))|skip);have HBH:=zh hbh;have HBE:=zh hbe;clear hbh hbe;clear hb)|(go_at_call 179;refine(HFI.out _ _ _ (QC HBW.out (Z0 (by assumption))) (by first|with_reducible exact HBH.out|with_reducible exact QI HBH.out _|(simpa using HBH.out)) (by first|with_reducible exact HBE.out|with_reducible exact QI HBE.out _|(simpa using HBE.out))).mono ?_;rintro e nw3 ⟨rfl,hb⟩;have hb3:=QC (Z0 (by assumption)) hb;(first|((with_reducible have Hz3:=hkh hb Hz2.out);have z0:=(QA (o:=0) Hz3.out).trans (rfl:_=some (Value.int .i64 0));have z1:=(QA (o:=1) Hz3.out).trans (rfl:_=some (Value.int .i64 0));have z2:=(QA (o:=2) Hz3.out).trans (rfl:_=some (Value.int .i64 0));have z3:=(QA (o:=3) Hz3.out).trans (rfl:_=some (Value.string ⟨#[]⟩));have z4:=(QA (o:=4) Hz3.out).trans (rfl:_=some (Value.int .i64 0));have fz0:=QB Hz3.out 0;have fz1:=QB Hz3.out 1;have fz2:=QB Hz3.out 2;have fz3:=QB Hz3.out 3;have fz4:=QB Hz3.out 4)|((with_reducible have Hz3:=hkh hb (Qg nw2 (oV 0 0 0 ⟨#[]⟩ 0)));have z0:=(QA (o:=0) Hz3.out).trans (rfl:_=some (Value.int .i64 0));have z1:=(QA (o:=1) Hz3.out).trans (rfl:_=some (Value.int .i64 0));have z2:=(QA (o:=2) Hz3.out).trans (rfl:_=some (Value.int .i64 0));have z3:=(QA (o:=3) Hz3.out).trans (rfl:_=some (Value.string ⟨#[]⟩));have z4:=(QA (o:=4) Hz3.out).trans (rfl:_=some (Value.int .i64 0));have fz0:=QB Hz3.out 0;have fz1:=QB Hz3.out 1;have fz2:=QB Hz3.out 2;have fz3:=QB Hz3.out 3;have fz4:=QB Hz3.out 4)|((with_reducible have Hz3:=hkh hb (Qu nw2 (oV 0 0 0 ⟨#[]⟩ 0)));have z0:=(QA (o:=0) Hz3.out).trans (rfl:_=some (Value.int .i64 0));have z1:=(QA (o:=1) Hz3.out).trans (rfl:_=some (Value.int .i64 0));have z2:=(QA (o:=2) Hz3.out).trans (rfl:_=some (Value.int .i64 0));have z3:=(QA (o:=3) Hz3.out).trans (rfl:_=some (Value.string ⟨#[]⟩));have z4:=(QA (o:=4) Hz3.out).trans (rfl:_=some (Value.int .i64 0));have fz0:=QB Hz3.out 0;have fz1:=QB Hz3.out 1;have fz2:=QB Hz3.out 2;have fz3:=QB Hz3.out 3;have fz4:=QB Hz3.out 4)|skip);clear hb))
 all_goals have hzB:=HBW.out.size
 all_goals have hzb_a:=hsz HBa
 all_goals have hzb_b:=hsz HBb
 all_goals have hzb_u:=hsz HBu
 all_goals have hzb_v:=hsz HBv
 all_goals have hzc1:=hb1.size
 all_goals have hzc2:=hb2.size
 all_goals have hzc3:=hb3.size
 focus
  obtain⟨W,xb,eW,eX,hR⟩:=JX hb3 (.int .i64 xk) (.int .i64 xp) (.int .i64 xq) (.string xs) (.int .i64 xr);rw[eW];try rw[eX]
  clear eW eX;try clear z0 z1 z2 z3 z4 fz0 fz1 fz2 fz3 fz4
 rotate_left
 focus
  obtain⟨W,xb,eW,eX,hR⟩:=ZJ (b:=nw2.heap.size) hb3 (by omega) Hz3.out (.int .i64 xk) (.int .i64 xp) (.int .i64 xq) (.string xs) (.int .i64 xr);rw[eW];try rw[eX]
  clear eW eX;try clear z0 z1 z2 z3 z4 fz0 fz1 fz2 fz3 fz4
 rotate_left
 focus
  obtain⟨W,xb,eW,eX,hR⟩:=ZJ (b:=nw1.heap.size) hb3 (by omega) Hz3.out (.int .i64 xk) (.int .i64 xp) (.int .i64 xq) (.string xs) (.int .i64 xr);rw[eW];try rw[eX]
  clear eW eX;try clear z0 z1 z2 z3 z4 fz0 fz1 fz2 fz3 fz4
 rotate_left
 focus
  obtain⟨W,xb,eW,eX,hR⟩:=ZJ (b:=B.heap.size) hb3 (by omega) Hz3.out (.int .i64 xk) (.int .i64 xp) (.int .i64 xq) (.string xs) (.int .i64 xr);rw[eW];try rw[eX]
  clear eW eX;try clear z0 z1 z2 z3 z4 fz0 fz1 fz2 fz3 fz4
 rotate_left
 all_goals
  obtain⟨HWB,HWx,hzx⟩:=hR.to HBW.out;have HWa:=hR.old HBa;have HWb:=hR.old HBb;have HWu:=hR.old HBu;have HWv:=hR.old HBv;clear hR
 all_goals
  have hyx:=hsz HWx;obtain⟨x0,x1,x2,x3,x4⟩:=zc5 HWx.out;have hyv:=hsz HWv;obtain⟨v0,v1,v2,v3,v4⟩:=zc5 HWv.out;go_wp2_with fail
  refine(MK _ _ _ _ _ _).mono ?_;rintro e v2 ⟨av,rfl,hA,hb⟩;have Hu2:=hkh hb HWu.out;have HV2:=hbn HWB.out hb;obtain⟨ao,an,ac,rfl⟩:=hA.shape;have HA:=zh hA;have hzW:=hb.size;clear hb hA;have hyu:=hsz Hu2;obtain⟨u0,u1,u2,u3,u4,u5,u6,u7,u8,u9,u10,u11,u12,u13⟩:=zc14 Hu2.out;obtain⟨fu0,fu1,fu2,fu3,fu4,fu5,fu6,fu7,fu8,fu9,fu10,fu11,fu12,fu13⟩:=zf14 Hu2.out;go_wp2;refine zr (by simp[results,results73,go_sem,hyu,u0,u1,u2,u3,u4,u5,u6,u7,u8,u9,u10,u11,u12,u13]<;>rfl) ?_;exact Qx (r:=w.heap.size+1+1) HV2.out HA.out HWB.out.size (by omega) (hsz HWu) (QP (F:=fun b=>b=w.heap.size+1+1) (Mods.refl _ _) (.inl rfl) _ _ _ _ _ _ _ _ _ _ _ _ _ _)
end Go.Proofs.YthkpckgcgkijbaaGreatDoor
