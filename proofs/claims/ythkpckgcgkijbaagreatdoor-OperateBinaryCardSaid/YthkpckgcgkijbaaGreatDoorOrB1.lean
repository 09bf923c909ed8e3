import Derived.Test.YthkpckgcgkijbaaGreatDoorLwA
import Derived.Test.YthkpckgcgkijbaaGreatDoorBitPv2
set_option linter.unusedVariables false
set_option linter.unusedSimpArgs false
set_option maxRecDepth 100000
set_option maxHeartbeats 20000000
namespace Go.Proofs.YthkpckgcgkijbaaGreatDoor
open Go.RowKit Go.Proofs.Lexi Go.Proofs.Tryz
theorem OZ (w:World) (hp:Value) (o:Int) (k1 p1 q1:Int) (s1:ByteArray) (r1:Int) (k2 p2 q2:Int) (s2:ByteArray) (r2:Int) (af:Int) (R:VR) (PL:∀W,Calls prog 12 #[o,.agg #[k1,p1,q1,s1,r1],.agg #[k2,p2,q2,s2,r2]] W (VrPost W R)) (xk xp xq:Int) (xs:ByteArray) (xr:Int) (h0:(((vE R:Nat):Int)==0)=false) (h8:(((vE R:Nat):Int) !=8)=false) (E:ByteArray) (EV:∀W,Calls prog 17 #[o] W (StrPost W E)) (HN:∀W,Below w w W->Calls prog 77 #[hp,.agg #[k1,p1,q1,s1,r1],.agg #[k2,p2,q2,s2,r2],E] W (ValPost W ⟨xk,xp,xq,xs,xr⟩)) (hx:(xk==0)=false):Calls prog 76 #[hp,o,.agg #[k1,p1,q1,s1,r1],.agg #[k2,p2,q2,s2,r2],af] w (NdPost w (Zr ⟨xk,xp,xq,xs,xr⟩ [⟨k1,p1,q1,s1,r1⟩,⟨k2,p2,q2,s2,r2⟩] af)):=by
 have HPL:=zh PL;have HEV:=zh EV;have HHN:=zh HN;clear PL EV HN;go_enter func76,ntmps76;go_wp2_with fail
 refine(HPL.out _).mono ?_;rintro e w1 ⟨rfl,hb⟩;have Ha1:=hkh hb (Qi _ _ _ _);have Hb1:=hkh hb (Qa _ _ _ _);have Hu1:=hkh hb (QU _ _ _ _);have HW1:=hbn (((QE _ _ _).alloc (by simp;omega) _)) hb;have hz1:=hb.size;try simp at hz1
 clear hb;have hya:=hsz Ha1;obtain⟨a0,a1,a2,a3,a4⟩:=zc5 Ha1.out;go_wp2;clear hya a0 a1 a2 a3 a4;obtain⟨B,hB⟩:∃B,B=w1.alloc (.cells #[.int .i64 (vV R).k,.int .i64 (vV R).p,.int .i64 (vV R).q,.string (vV R).s,.int .i64 (vV R).r] 25):=⟨_,rfl⟩
 rw[<-hB];have HBW:=zh (show Below w w B by rw[hB];exact(HW1.out.alloc HW1.out.size (.cells #[.int .i64 (vV R).k,.int .i64 (vV R).p,.int .i64 (vV R).q,.string (vV R).s,.int .i64 (vV R).r] 25)));have HBa:=zh (show B.heap[w.heap.size]? =some (oV k1 p1 q1 s1 r1) by rw[hB];exact(QI Ha1.out (.cells #[.int .i64 (vV R).k,.int .i64 (vV R).p,.int .i64 (vV R).q,.string (vV R).s,.int .i64 (vV R).r] 25)));have HBb:=zh (show B.heap[w.heap.size+1]? =some (oV k2 p2 q2 s2 r2) by rw[hB];exact(QI Hb1.out (.cells #[.int .i64 (vV R).k,.int .i64 (vV R).p,.int .i64 (vV R).q,.string (vV R).s,.int .i64 (vV R).r] 25)));have HBu:=zh (show B.heap[w.heap.size+1+1]? =some oNd by rw[hB];exact(QI Hu1.out (.cells #[.int .i64 (vV R).k,.int .i64 (vV R).p,.int .i64 (vV R).q,.string (vV R).s,.int .i64 (vV R).r] 25)));clear hB;have SO:=zh (fun(W:World) (hb:Below B B W)=>(at5 (QL hb HBa.out) ((at5 (QL hb HBb.out) (zh hb)))));have SO5:=zh (fun(W:World) (b:Nat) (x y z u v:Value) (hb:Below B B W) (hbb:B.heap.size<=b)=>SO.out _ (QG hb hbb x y z u v));have SO1:=zh (fun(W:World) (o:Obj) (hb:Below B B W)=>SO.out _ (hb.alloc hb.size o));have SO1D:=zh (fun(W:World) (o:Obj) (hb:Below B B W)=>SO.out _ (hb.alloc hb.size o).drew);have hbR:Below B B B:=Below.refl _ _;have hbD:Below B B B.drew:=(Below.refl _ _).drew
 go_region_held3 (fun w'=>w'.cell? w=some (.int .i64 k1)/\w'.cell? ⟨w,1,none⟩=some (.int .i64 p1)/\w'.cell? ⟨w,2,none⟩=some (.int .i64 q1)/\w'.cell? ⟨w,3,none⟩=some (.string s1)/\w'.cell? ⟨w,4,none⟩=some (.int .i64 r1)/\w'.cell? ⟨w+1,0,none⟩=some (.int .i64 k2)/\w'.cell? ⟨w+1,1,none⟩=some (.int .i64 p2)/\w'.cell? ⟨w+1,2,none⟩=some (.int .i64 q2)/\w'.cell? ⟨w+1,3,none⟩=some (.string s2)/\w'.cell? ⟨w+1,4,none⟩=some (.int .i64 r2)/\Hid (Below B B w'))
  (first|with_reducible exact SO.out _ (by assumption)|with_reducible exact SO1.out _ _ (by assumption)|with_reducible exact SO1D.out _ _ (by assumption)|with_reducible exact SO5.out _ _ _ _ _ _ _ (by assumption) (by first|with_reducible exact Nat.le_refl _|with_reducible exact Below.size (by assumption)))
  (first|(go_at_call 17;refine(HEV.out _).mono ?_;rintro e nw1 ⟨rfl,hb⟩;have hb1:=QC (Z0 (by assumption)) hb;(first|(with_reducible have Hz1:=hkh hb (Qu B (oV 0 0 0 ⟨#[]⟩ 0)))|skip);clear hb)|(go_at_call 77;refine(HHN.out _ (QC HBW.out (Z0 (by assumption)))).mono ?_;rintro e nw2 ⟨rfl,hb⟩;have hb2:=QC (Z0 (by assumption)) hb;(first|((with_reducible have Hz2:=hkh hb Hz1.out);have z0:=(QA (o:=0) Hz2.out).trans (rfl:_=some (Value.int .i64 0));have z1:=(QA (o:=1) Hz2.out).trans (rfl:_=some (Value.int .i64 0));have z2:=(QA (o:=2) Hz2.out).trans (rfl:_=some (Value.int .i64 0));have z3:=(QA (o:=3) Hz2.out).trans (rfl:_=some (Value.string ⟨#[]⟩));have z4:=(QA (o:=4) Hz2.out).trans (rfl:_=some (Value.int .i64 0));have fz0:=QB Hz2.out 0;have fz1:=QB Hz2.out 1;have fz2:=QB Hz2.out 2;have fz3:=QB Hz2.out 3;have fz4:=QB Hz2.out 4)|((with_reducible have Hz2:=hkh hb (Qg nw1 (oV 0 0 0 ⟨#[]⟩ 0)));have z0:=(QA (o:=0) Hz2.out).trans (rfl:_=some (Value.int .i64 0));have z1:=(QA (o:=1) Hz2.out).trans (rfl:_=some (Value.int .i64 0));have z2:=(QA (o:=2) Hz2.out).trans (rfl:_=some (Value.int .i64 0));have z3:=(QA (o:=3) Hz2.out).trans (rfl:_=some (Value.string ⟨#[]⟩));have z4:=(QA (o:=4) Hz2.out).trans (rfl:_=some (Value.int .i64 0));have fz0:=QB Hz2.out 0;have fz1:=QB Hz2.out 1;have fz2:=QB Hz2.out 2;have fz3:=QB Hz2.out 3;have fz4:=QB Hz2.out 4)|((with_reducible have Hz2:=hkh hb (Qu nw1 (oV 0 0 0 ⟨#[]⟩ 0)));have z0:=(QA (o:=0) Hz2.out).trans (rfl:_=some (Value.int .i64 0));have z1:=(QA (o:=1) Hz2.out).trans (rfl:_=some (Value.int .i64 0));have z2:=(QA (o:=2) Hz2.out).trans (rfl:_=some (Value.int .i64 0));have z3:=(QA (o:=3) Hz2.out).trans (rfl:_=some (Value.string ⟨#[]⟩));have z4:=(QA (o:=4) Hz2.out).trans (rfl:_=some (Value.int .i64 0));have fz0:=QB Hz2.out 0;have fz1:=QB Hz2.out 1;have fz2:=QB Hz2.out 2;have fz3:=QB Hz2.out 3;have fz4:=QB Hz2.out 4)|skip);clear hb))
 all_goals have hzB:=HBW.out.size
 all_goals have hzb_a:=hsz HBa
 all_goals have hzb_b:=hsz HBb
 all_goals have hzb_u:=hsz HBu
 all_goals have hzc1:=hb1.size
 all_goals have hzc2:=hb2.size
 focus
  obtain⟨W,xb,eW,eX,hR⟩:=JX hb2 (.int .i64 xk) (.int .i64 xp) (.int .i64 xq) (.string xs) (.int .i64 xr);rw[eW];try rw[eX]
  clear eW eX;try clear z0 z1 z2 z3 z4 fz0 fz1 fz2 fz3 fz4
 rotate_left
 focus
  obtain⟨W,xb,eW,eX,hR⟩:=ZJ (b:=nw1.heap.size) hb2 (by omega) Hz2.out (.int .i64 xk) (.int .i64 xp) (.int .i64 xq) (.string xs) (.int .i64 xr);rw[eW];try rw[eX]
  clear eW eX;try clear z0 z1 z2 z3 z4 fz0 fz1 fz2 fz3 fz4
 rotate_left
 focus
  obtain⟨W,xb,eW,eX,hR⟩:=ZJ (b:=B.heap.size) hb2 (by omega) Hz2.out (.int .i64 xk) (.int .i64 xp) (.int .i64 xq) (.string xs) (.int .i64 xr);rw[eW];try rw[eX]
  clear eW eX;try clear z0 z1 z2 z3 z4 fz0 fz1 fz2 fz3 fz4
 rotate_left
 all_goals
  obtain⟨HWB,HWx,hzx⟩:=hR.to HBW.out;have HWa:=hR.old HBa;have HWb:=hR.old HBb;have HWu:=hR.old HBu;clear hR
 all_goals
  have hyx:=hsz HWx;obtain⟨x0,x1,x2,x3,x4⟩:=zc5 HWx.out;have hyu:=hsz HWu;obtain⟨u0,u1,u2,u3,u4,u5,u6,u7,u8,u9,u10,u11,u12,u13⟩:=zc14 HWu.out;obtain⟨fu0,fu1,fu2,fu3,fu4,fu5,fu6,fu7,fu8,fu9,fu10,fu11,fu12,fu13⟩:=zf14 HWu.out;have hya:=hsz HWa;have hyb:=hsz HWb;obtain⟨a0,a1,a2,a3,a4⟩:=zc5 HWa.out;obtain⟨b0,b1,b2,b3,b4⟩:=zc5 HWb.out;go_wp2;refine zr (by simp[results,results76,go_sem,hyu,u0,u1,u2,u3,u4,u5,u6,u7,u8,u9,u10,u11,u12,u13]<;>rfl) ?_;exact J4 (r:=w.heap.size+1+1) (f:=⟨xk,xp,xq,xs,xr⟩) (a:=⟨k1,p1,q1,s1,r1⟩) (b:=⟨k2,p2,q2,s2,r2⟩) HWB.out (by omega) (QP (F:=fun b=>b=w.heap.size+1+1) (Mods.refl _ _) (.inl rfl) _ _ _ _ _ _ _ _ _ _ _ _ _ _) (by simp)
abbrev SameAt (N:Nd):Prop:=∀W base base' av av',ArgsAt W base av N.args->ArgsAt W base' av' N.args->Calls prog 19 #[ndV N av,ndV N av'] W (BoolPost W true)
theorem OR (N:Nd):SameAt N:=by
 obtain⟨nk,⟨vk,vp,vq,vs,vr⟩,⟨fk,fp,fq,fs,fr⟩,nl,na,ns⟩:=N;intro W base base' av av' h1 h2;rcases h1 with⟨e1,rfl⟩|⟨g,a,b,e1,rfl,_,hg⟩
 ·rcases h2 with⟨_,rfl⟩|⟨g,a,b,e2,_⟩
  ·exact L0 W nk vk vp vq vs vr fk fp fq fs fr na ns
  ·rw[e1] at e2;cases e2
 ·rcases h2 with⟨e2,_⟩|⟨g',a',b',e2,rfl,_,hg'⟩
  ·rw[e1] at e2;cases e2
  ·rw[e1] at e2;injection e2 with e3 e4;injection e4 with e4;subst e3 e4;exact Lz W nk vk vp vq vs vr fk fp fq fs fr na ns a.k a.p a.q a.s a.r b.k b.p b.q b.s b.r g g' hg hg'
end Go.Proofs.YthkpckgcgkijbaaGreatDoor
