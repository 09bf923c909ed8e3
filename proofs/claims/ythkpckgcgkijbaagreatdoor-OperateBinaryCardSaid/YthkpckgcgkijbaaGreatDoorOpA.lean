import Derived.Test.YthkpckgcgkijbaaGreatDoorLwA
import Derived.Test.YthkpckgcgkijbaaGreatDoorRefA
import Derived.Test.YthkpckgcgkijbaaGreatDoorTexC
set_option linter.unusedVariables false
set_option linter.unusedSimpArgs false
set_option maxRecDepth 100000
set_option maxHeartbeats 20000000
namespace Go.Proofs.YthkpckgcgkijbaaGreatDoor
open Go.RowKit Go.Proofs.Lexi Go.Proofs.Tryz
theorem J0 (w:World) (s:ByteArray):Calls prog 75 #[s] w (NdPost w (ZZ s)):=by
 go_enter func75,ntmps75;go_wp2;refine zr (by simp[results,results75,go_sem]<;>rfl) ?_;exact⟨.slice none 0 0,rfl,.inl ⟨rfl,rfl⟩,by first|exact Qf _ _|trace_state⟩
theorem NZ (w:World) (k1 p1 q1:Int) (s1:ByteArray) (r1:Int):Calls prog 78 #[.agg #[k1,p1,q1,s1,r1]] w (NdPost w (Zz ⟨k1,p1,q1,s1,r1⟩)):=by
 go_enter func78,ntmps78;go_wp2;refine zr (by simp[results,results78,go_sem]<;>rfl) ?_;exact⟨.slice none 0 0,rfl,.inl ⟨rfl,rfl⟩,by first|exact QE _ _ _|trace_state⟩
theorem Ol (w:World) (a:Int) (m:Nat) (ha:a=(m:Int)+1) (h2:m<=22):Calls prog 17 #[a] w (StrPost w (evL.getD (m+1) ⟨#[]⟩)):=by
 obtain⟨X,hX⟩:∃X,X=evL.getD (m+1) ⟨#[]⟩:=⟨_,rfl⟩
 have hc:(w.alloc (.cells #[.string ⟨#[95,95,97,100,100]⟩,.string ⟨#[95,95,115,117,98]⟩,.string ⟨#[95,95,109,117,108]⟩,.string ⟨#[95,95,100,105,118]⟩,.string ⟨#[95,95,105,100,105,118]⟩,.string ⟨#[95,95,109,111,100]⟩,.string ⟨#[95,95,112,111,119]⟩,.string ⟨#[95,95,99,111,110,99,97,116]⟩,.string ⟨#[95,95,98,97,110,100]⟩,.string ⟨#[95,95,98,111,114]⟩,.string ⟨#[95,95,98,120,111,114]⟩,.string ⟨#[95,95,115,104,108]⟩,.string ⟨#[95,95,115,104,114]⟩,.string ⟨#[95,95,101,113]⟩,.string ⟨#[95,95,101,113]⟩,.string ⟨#[95,95,108,116]⟩,.string ⟨#[95,95,108,101]⟩,.string ⟨#[95,95,108,116]⟩,.string ⟨#[95,95,108,101]⟩,.string ⟨#[95,95,117,110,109]⟩,.string ⟨#[]⟩,.string ⟨#[95,95,108,101,110]⟩,.string ⟨#[95,95,98,110,111,116]⟩] 9)).cell? ⟨w,m,none⟩=some (.string X):=by
  rw[QA (Qy w _),hX];have:m=0\/m=1\/m=2\/m=3\/m=4\/m=5\/m=6\/m=7\/m=8\/m=9\/m=10\/m=11\/m=12\/m=13\/m=14\/m=15\/m=16\/m=17\/m=18\/m=19\/m=20\/m=21\/m=22:=by omega
  rcases this with rfl|rfl|rfl|rfl|rfl|rfl|rfl|rfl|rfl|rfl|rfl|rfl|rfl|rfl|rfl|rfl|rfl|rfl|rfl|rfl|rfl|rfl|rfl;all_goals rfl
 rw[<-hX];have hi0:(0:Int)<=(m:Int):=by omega
 have hi:(m:Int)<23:=by omega
 have t1:decide (a<1)=false:=by rw[decide_eq_false_iff_not];omega
 have t2:decide (23<a)=false:=by rw[decide_eq_false_iff_not];omega
 clear hX;subst ha;go_enter func17,ntmps17;go_wp2
 go_ret
 exact⟨rfl,by first|exact Qf _ _|exact(Qf _ _).drew⟩
theorem Ni (w:World) (o:Int) (h:¬(1<=o/\o<=23)):Calls prog 17 #[o] w (StrPost w ⟨#[]⟩):=by
 have hw:o<1\/(¬o<1/\23<o):=by omega
 clear h;rcases hw with h|⟨h,h2⟩;all_goals
  go_enter func17,ntmps17;go_wp2
  go_ret
  exact⟨rfl,by first|exact Qf _ _|exact Below.refl _ _⟩
theorem L6 (w:World) (o:Int):Calls prog 17 #[o] w (StrPost w (Q6 o)):=by
 by_cases h:1<=o/\o<=23
 ·obtain⟨n,rfl⟩:∃n:Nat,o=(n:Int):=⟨o.toNat,by omega⟩
  rw[P0 (by omega)];exact(by obtain⟨m,rfl⟩:∃m,n=m+1:=⟨n-1,by omega⟩;exact Ol w _ m (by omega) (by omega))
 ·rw[FV h];exact Ni w o h
theorem UZ (w:World) (k1 p1 q1:Int) (s1:ByteArray) (r1:Int) (hs:s1.size<=2000000000):Calls prog 185 #[.agg #[k1,p1,q1,s1,r1]] w (BoolPost w (Ko ⟨k1,p1,q1,s1,r1⟩)):=by
 obtain⟨b,hb0⟩:∃b,b=Ko ⟨k1,p1,q1,s1,r1⟩:=⟨_,rfl⟩
 rw[<-hb0];have HB:=zh ((A6 ⟨k1,p1,q1,s1,r1⟩).trans hb0.symm);clear hb0;go_enter func185,ntmps185;go_wp2_with fail
 refine(DS _ k1 p1 q1 s1 r1 (by exact hs)).mono ?_;rintro e w1 ⟨rfl,hb⟩;have hE:=HB.out;go_wp2
 go_ret
 exact⟨rfl,(QC (Qf _ _) hb).alloc (by have:=hb.size;simp at this;omega) _⟩
theorem L3 (w:World) (k1 p1 q1:Int) (s1:ByteArray) (r1:Int):Calls prog 184 #[.agg #[k1,p1,q1,s1,r1]] w (BoolPost w (Eo ⟨k1,p1,q1,s1,r1⟩)):=by
 obtain⟨b,hb0⟩:∃b,b=Eo ⟨k1,p1,q1,s1,r1⟩:=⟨_,rfl⟩
 rw[<-hb0];have HB:=zh ((A4 ⟨k1,p1,q1,s1,r1⟩).trans hb0.symm);clear hb0;go_enter func184,ntmps184;go_wp2_with fail
 refine(OW _ k1 p1 q1 s1 r1).mono ?_;rintro e w1 ⟨rfl,hb⟩;have hE:=HB.out;go_wp2
 go_ret
 exact⟨rfl,QC (Qf _ _) hb⟩
theorem L5 (w:World) (hp:Value) (o:Int) (k1 p1 q1:Int) (s1:ByteArray) (r1:Int) (k2 p2 q2:Int) (s2:ByteArray) (r2:Int) (af:Int) (R:VR) (PL:∀W,Calls prog 12 #[o,.agg #[k1,p1,q1,s1,r1],.agg #[k2,p2,q2,s2,r2]] W (VrPost W R)) (h0:(((vE R:Nat):Int)==0)=true):Calls prog 76 #[hp,o,.agg #[k1,p1,q1,s1,r1],.agg #[k2,p2,q2,s2,r2],af] w (NdPost w (Zz (vV R))):=by
 have HPL:=zh PL;clear PL;go_enter func76,ntmps76;go_wp2_with fail
 refine(HPL.out _).mono ?_;rintro e w1 ⟨rfl,hb⟩;have Ha1:=hkh hb (Qi _ _ _ _);have Hb1:=hkh hb (Qa _ _ _ _);have Hu1:=hkh hb (QU _ _ _ _);have HW1:=hbn (((QE _ _ _).alloc (by simp;omega) _)) hb;have hz1:=hb.size;try simp at hz1
 clear hb;go_wp2_with fail
 refine(NZ _ _ _ _ _ _).mono ?_;rintro e w2 ⟨av,rfl,hA,hb⟩;obtain⟨ao,an,ac,rfl⟩:=hA.shape;have HA:=zh hA;clear hA;have Ha2:=hkh hb ((QI Ha1.out (.cells #[.int .i64 (vV R).k,.int .i64 (vV R).p,.int .i64 (vV R).q,.string (vV R).s,.int .i64 (vV R).r] 25)));have Hb2:=hkh hb ((QI Hb1.out (.cells #[.int .i64 (vV R).k,.int .i64 (vV R).p,.int .i64 (vV R).q,.string (vV R).s,.int .i64 (vV R).r] 25)));have Hu2:=hkh hb ((QI Hu1.out (.cells #[.int .i64 (vV R).k,.int .i64 (vV R).p,.int .i64 (vV R).q,.string (vV R).s,.int .i64 (vV R).r] 25)));have HW2:=hbn ((HW1.out.alloc HW1.out.size (.cells #[.int .i64 (vV R).k,.int .i64 (vV R).p,.int .i64 (vV R).q,.string (vV R).s,.int .i64 (vV R).r] 25))) hb;have hz2:=hb.size;try simp at hz2
 clear hb;have hyu:=hsz Hu2;obtain⟨u0,u1,u2,u3,u4,u5,u6,u7,u8,u9,u10,u11,u12,u13⟩:=zc14 Hu2;obtain⟨fu0,fu1,fu2,fu3,fu4,fu5,fu6,fu7,fu8,fu9,fu10,fu11,fu12,fu13⟩:=zf14 Hu2;go_wp2;refine zr (by simp[results,results76,go_sem,hyu,u0,u1,u2,u3,u4,u5,u6,u7,u8,u9,u10,u11,u12,u13]<;>rfl) ?_;exact Qx (r:=w.heap.size+1+1) (base:=w1.heap.size+1) HW2.out (by simpa using HA.out) (by omega) (by omega) (by omega) (QP (F:=fun b=>b=w.heap.size+1+1) (Mods.refl _ _) (.inl rfl) _ _ _ _ _ _ _ _ _ _ _ _ _ _)
theorem Oa (w:World) (hp:Value) (o:Int) (k1 p1 q1:Int) (s1:ByteArray) (r1:Int) (k2 p2 q2:Int) (s2:ByteArray) (r2:Int) (af:Int) (R:VR) (PL:∀W,Calls prog 12 #[o,.agg #[k1,p1,q1,s1,r1],.agg #[k2,p2,q2,s2,r2]] W (VrPost W R)) (h0:(((vE R:Nat):Int)==0)=false) (h8:(((vE R:Nat):Int) !=8)=true) (msg:ByteArray) (MS:∀W,Calls prog 123 #[.int .i64 (vE R:Nat)] W fun e w'=>e= .returned (.string msg)/\W=w'):Calls prog 76 #[hp,o,.agg #[k1,p1,q1,s1,r1],.agg #[k2,p2,q2,s2,r2],af] w (NdPost w (ZZ msg)):=by
 have HPL:=zh PL;have HMS:=zh MS;clear PL MS;go_enter func76,ntmps76;go_wp2_with fail
 refine(HPL.out _).mono ?_;rintro e w1 ⟨rfl,hb⟩;have Ha1:=hkh hb (Qi _ _ _ _);have Hb1:=hkh hb (Qa _ _ _ _);have Hu1:=hkh hb (QU _ _ _ _);have HW1:=hbn (((QE _ _ _).alloc (by simp;omega) _)) hb;have hz1:=hb.size;try simp at hz1
 clear hb;have hyu:=hsz Hu1;obtain⟨u0,u1,u2,u3,u4,u5,u6,u7,u8,u9,u10,u11,u12,u13⟩:=zc14 Hu1;obtain⟨fu0,fu1,fu2,fu3,fu4,fu5,fu6,fu7,fu8,fu9,fu10,fu11,fu12,fu13⟩:=zf14 Hu1;go_wp2_with fail
 refine(HMS.out _).mono ?_;rintro e W0 ⟨rfl,rfl⟩;go_wp2_with fail
 refine(J0 _ _).mono ?_;rintro e w2 ⟨av,rfl,hA,hb⟩;obtain⟨ao,an,ac,rfl⟩:=hA.shape;have HA:=zh hA;clear hA;have Ha2:=hkh hb ((QI Ha1.out (.cells #[.int .i64 (vV R).k,.int .i64 (vV R).p,.int .i64 (vV R).q,.string (vV R).s,.int .i64 (vV R).r] 25)));have Hb2:=hkh hb ((QI Hb1.out (.cells #[.int .i64 (vV R).k,.int .i64 (vV R).p,.int .i64 (vV R).q,.string (vV R).s,.int .i64 (vV R).r] 25)));have Hu2:=hkh hb ((QI Hu1.out (.cells #[.int .i64 (vV R).k,.int .i64 (vV R).p,.int .i64 (vV R).q,.string (vV R).s,.int .i64 (vV R).r] 25)));have HW2:=hbn ((HW1.out.alloc HW1.out.size (.cells #[.int .i64 (vV R).k,.int .i64 (vV R).p,.int .i64 (vV R).q,.string (vV R).s,.int .i64 (vV R).r] 25))) hb;have hz2:=hb.size;try simp at hz2
 clear hb;clear hyu u0 fu0 u1 fu1 u2 fu2 u3 fu3 u4 fu4 u5 fu5 u6 fu6 u7 fu7 u8 fu8 u9 fu9 u10 fu10 u11 fu11 u12 fu12 u13 fu13;have hyu:=hsz Hu2;obtain⟨u0,u1,u2,u3,u4,u5,u6,u7,u8,u9,u10,u11,u12,u13⟩:=zc14 Hu2;obtain⟨fu0,fu1,fu2,fu3,fu4,fu5,fu6,fu7,fu8,fu9,fu10,fu11,fu12,fu13⟩:=zf14 Hu2;go_wp2;refine zr (by simp[results,results76,go_sem,hyu,u0,u1,u2,u3,u4,u5,u6,u7,u8,u9,u10,u11,u12,u13]<;>rfl) ?_;exact Qx (r:=w.heap.size+1+1) (base:=w1.heap.size+1) HW2.out (by simpa using HA.out) (by omega) (by omega) (by omega) (QP (F:=fun b=>b=w.heap.size+1+1) (Mods.refl _ _) (.inl rfl) _ _ _ _ _ _ _ _ _ _ _ _ _ _)
theorem NT (w:World) (hp:Value) (o:Int) (k1 p1 q1:Int) (s1:ByteArray) (r1:Int) (k2 p2 q2:Int) (s2:ByteArray) (r2:Int) (af:Int) (R:VR) (PL:∀W,Calls prog 12 #[o,.agg #[k1,p1,q1,s1,r1],.agg #[k2,p2,q2,s2,r2]] W (VrPost W R)) (xk xp xq:Int) (xs:ByteArray) (xr:Int) (h0:(((vE R:Nat):Int)==0)=false) (h8:(((vE R:Nat):Int) !=8)=false) (E:ByteArray) (EV:∀W,Calls prog 17 #[o] W (StrPost W E)) (HN:∀W,Below w w W->Calls prog 77 #[hp,.agg #[k1,p1,q1,s1,r1],.agg #[k2,p2,q2,s2,r2],E] W (ValPost W ⟨xk,xp,xq,xs,xr⟩)) (hx:(xk==0)=true) (msg:ByteArray) (WN:∀W,Calls prog 124 #[o,.agg #[k1,p1,q1,s1,r1],.agg #[k2,p2,q2,s2,r2]] W (StrPost W msg)):Calls prog 76 #[hp,o,.agg #[k1,p1,q1,s1,r1],.agg #[k2,p2,q2,s2,r2],af] w (NdPost w (ZZ msg)):=by
 have HPL:=zh PL;have HEV:=zh EV;have HHN:=zh HN;have HWN:=zh WN;clear PL EV HN WN;go_enter func76,ntmps76;go_wp2_with fail
 refine(HPL.out _).mono ?_;rintro e w1 ⟨rfl,hb⟩;have Ha1:=hkh hb (Qi _ _ _ _);have Hb1:=hkh hb (Qa _ _ _ _);have Hu1:=hkh hb (QU _ _ _ _);have HW1:=hbn (((QE _ _ _).alloc (by simp;omega) _)) hb;have hz1:=hb.size;try simp at hz1
 clear hb;have hya:=hsz Ha1;obtain⟨a0,a1,a2,a3,a4⟩:=zc5 Ha1.out;go_wp2;clear hya a0 a1 a2 a3 a4;obtain⟨B,hB⟩:∃B,B=w1.alloc (.cells #[.int .i64 (vV R).k,.int .i64 (vV R).p,.int .i64 (vV R).q,.string (vV R).s,.int .i64 (vV R).r] 25):=⟨_,rfl⟩
 rw[<-hB];have HBW:=zh (show Below w w B by rw[hB];exact(HW1.out.alloc HW1.out.size (.cells #[.int .i64 (vV R).k,.int .i64 (vV R).p,.int .i64 (vV R).q,.string (vV R).s,.int .i64 (vV R).r] 25)));have HBa:=zh (show B.heap[w.heap.size]? =some (oV k1 p1 q1 s1 r1) by rw[hB];exact(QI Ha1.out (.cells #[.int .i64 (vV R).k,.int .i64 (vV R).p,.int .i64 (vV R).q,.string (vV R).s,.int .i64 (vV R).r] 25)));have HBb:=zh (show B.heap[w.heap.size+1]? =some (oV k2 p2 q2 s2 r2) by rw[hB];exact(QI Hb1.out (.cells #[.int .i64 (vV R).k,.int .i64 (vV R).p,.int .i64 (vV R).q,.string (vV R).s,.int .i64 (vV R).r] 25)));have HBu:=zh (show B.heap[w.heap.size+1+1]? =some oNd by rw[hB];exact(QI Hu1.out (.cells #[.int .i64 (vV R).k,.int .i64 (vV R).p,.int .i64 (vV R).q,.string (vV R).s,.int .i64 (vV R).r] 25)));clear hB;have SO:=zh (fun(W:World) (hb:Below B B W)=>(at5 (QL hb HBa.out) ((at5 (QL hb HBb.out) (zh hb)))));have SO5:=zh (fun(W:World) (b:Nat) (x y z u v:Value) (hb:Below B B W) (hbb:B.heap.size<=b)=>SO.out _ (QG hb hbb x y z u v));have SO1:=zh (fun(W:World) (o:Obj) (hb:Below B B W)=>SO.out _ (hb.alloc hb.size o));have SO1D:=zh (fun(W:World) (o:Obj) (hb:Below B B W)=>SO.out _ (hb.alloc hb.size o).drew);have hbR:Below B B B:=Below.refl _ _;have hbD:Below B B B.drew:=(Below.refl _ _).drew
 go_region_held3 (fun w'=>w'.cell? w=some (.int .i64 k1)/\w'.cell? ⟨w,1,none⟩=some (.int .i64 p1)/\w'.cell? ⟨w,2,none⟩=some (.int .i64 q1)/\w'.cell? ⟨w,3,none⟩=some (.string s1)/\w'.cell? ⟨w,4,none⟩=some (.int .i64 r1)/\w'.cell? ⟨w+1,0,none⟩=some (.int .i64 k2)/\w'.cell? ⟨w+1,1,none⟩=some (.int .i64 p2)/\w'.cell? ⟨w+1,2,none⟩=some (.int .i64 q2)/\w'.cell? ⟨w+1,3,none⟩=some (.string s2)/\w'.cell? ⟨w+1,4,none⟩=some (.int .i64 r2)/\Hid (Below B B w'))
  (first|with_reducible exact SO.out _ (by assumption)|with_reducible exact SO1.out _ _ (by assumption)|with_reducible exact SO1D.out _ _ (by assumption)|with_reducible exact SO5.out _ _ _ _ _ _ _ (by assumption) (by first|with_reducible exact Nat.le_refl _|with_reducible exact Below.size (by assumption)))
  (first|(go_at_call 17;refine(HEV.out _).mono ?_;rintro e nw1 ⟨rfl,hb⟩;have hb1:=QC (Z0 (by assumption)) hb;(first|(with_reducible have Hz1:=hkh hb (Qu B (oV 0 0 0 ⟨#[]⟩ 0)))|skip);clear hb)|(go_at_call 77;refine(HHN.out _ (QC HBW.out (Z0 (by assumption)))).mono ?_;rintro e nw2 ⟨rfl,hb⟩;have hb2:=QC (Z0 (by assumption)) hb;(first|((with_reducible have Hz2:=hkh hb Hz1.out);have z0:=(QA (o:=0) Hz2.out).trans (rfl:_=some (Value.int .i64 0));have z1:=(QA (o:=1) Hz2.out).trans (rfl:_=some (Value.int .i64 0));have z2:=(QA (o:=2) Hz2.out).trans (rfl:_=some (Value.int .i64 0));have z3:=(QA (o:=3) Hz2.out).trans (rfl:_=some (Value.string ⟨#[]⟩));have z4:=(QA (o:=4) Hz2.out).trans (rfl:_=some (Value.int .i64 0));have fz0:=QB Hz2.out 0;have fz1:=QB Hz2.out 1;have fz2:=QB Hz2.out 2;have fz3:=QB Hz2.out 3;have fz4:=QB Hz2.out 4)|((with_reducible have Hz2:=hkh hb (Qg nw1 (oV 0 0 0 ⟨#[]⟩ 0)));have z0:=(QA (o:=0) Hz2.out).trans (rfl:_=some (Value.int .i64 0));have z1:=(QA (o:=1) Hz2.out).trans (rfl:_=some (Value.int .i64 0));have z2:=(QA (o:=2) Hz2.out).trans (rfl:_=some (Value.int .i64 0));have z3:=(QA (o:=3) Hz2.out).trans (rfl:_=some (Value.string ⟨#[]⟩));have z4:=(QA (o:=4) Hz2.out).trans (rfl:_=some (Value.int .i64 0));have fz0:=QB Hz2.out 0;have fz1:=QB Hz2.out 1;have fz2:=QB Hz2.out 2;have fz3:=QB Hz2.out 3;have fz4:=QB Hz2.out 4)|((with_reducible have Hz2:=hkh hb (Qu nw1 (oV 0 0 0 ⟨#[]⟩ 0)));have z0:=(QA (o:=0) Hz2.out).trans (rfl:_=some (Value.int .i64 0));have z1:=(QA (o:=1) Hz2.out).trans (rfl:_=some (Value.int .i64 0));have z2:=(QA (o:=2) Hz2.out).trans (rfl:_=some (Value.int .i64 0));have z3:=(QA (o:=3) Hz2.out).trans (rfl:_=some (Value.string ⟨#[]⟩));have z4:=(QA (o:=4) Hz2.out).trans (rfl:_=some (Value.int .i64 0));have fz0:=QB Hz2.out 0;have fz1:=QB Hz2.out 1;have fz2:=QB Hz2.out 2;have fz3:=QB Hz2.out 3;have fz4:=QB Hz2.out 4)|skip);clear hb))
 all_goals have hzB:=HBW.out.size
 all_goals have hzb_a:=hsz HBa
 all_goals have hzb_b:=hsz HBb
 all_goals have hzb_u:=hsz HBu
 all_goals have hzc1:=hb1.size
 all_goals have hzc2:=hb2.size
 focus
  obtain⟨W,xb,eW,eX,hR⟩:=JX hb2 (.int .i64 xk) (.int .i64 xp) (.int .i64 xq) (.string xs) (.int .i64 xr);rw[eW];try rw[eX]
  clear eW eX;try clear z0 z1 z2 z3 z4 fz0 fz1 fz2 fz3 fz4
 rotate_left
 focus
  obtain⟨W,xb,eW,eX,hR⟩:=ZJ (b:=nw1.heap.size) hb2 (by omega) Hz2.out (.int .i64 xk) (.int .i64 xp) (.int .i64 xq) (.string xs) (.int .i64 xr);rw[eW];try rw[eX]
  clear eW eX;try clear z0 z1 z2 z3 z4 fz0 fz1 fz2 fz3 fz4
 rotate_left
 focus
  obtain⟨W,xb,eW,eX,hR⟩:=ZJ (b:=B.heap.size) hb2 (by omega) Hz2.out (.int .i64 xk) (.int .i64 xp) (.int .i64 xq) (.string xs) (.int .i64 xr);rw[eW];try rw[eX]
  clear eW eX;try clear z0 z1 z2 z3 z4 fz0 fz1 fz2 fz3 fz4
 rotate_left
 all_goals
  obtain⟨HWB,HWx,hzx⟩:=hR.to HBW.out;have HWa:=hR.old HBa;have HWb:=hR.old HBb;have HWu:=hR.old HBu;clear hR
 all_goals
  have hyx:=hsz HWx;obtain⟨x0,x1,x2,x3,x4⟩:=zc5 HWx.out;have hya:=hsz HWa;have hyb:=hsz HWb;obtain⟨a0,a1,a2,a3,a4⟩:=zc5 HWa.out;obtain⟨b0,b1,b2,b3,b4⟩:=zc5 HWb.out;go_wp2_with fail
  refine(HWN.out _).mono ?_;rintro e y1 ⟨rfl,hb⟩;have Hu1:=hkh hb HWu.out;have HV1:=hbn HWB.out hb;clear hb;go_wp2_with fail
  refine(J0 _ _).mono ?_;rintro e y2 ⟨av,rfl,hA,hb⟩;obtain⟨ao,an,ac,rfl⟩:=hA.shape;have Hu2:=hkh hb Hu1.out;have HV2:=hbn HV1.out hb;have HA:=zh hA;clear hb hA;have hyu:=hsz Hu2;obtain⟨u0,u1,u2,u3,u4,u5,u6,u7,u8,u9,u10,u11,u12,u13⟩:=zc14 Hu2.out;obtain⟨fu0,fu1,fu2,fu3,fu4,fu5,fu6,fu7,fu8,fu9,fu10,fu11,fu12,fu13⟩:=zf14 Hu2.out;go_wp2;refine zr (by simp[results,results76,go_sem,hyu,u0,u1,u2,u3,u4,u5,u6,u7,u8,u9,u10,u11,u12,u13]<;>rfl) ?_;exact Qx (r:=w.heap.size+1+1) HV2.out HA.out HV1.out.size (by omega) (hsz Hu1) (QP (F:=fun b=>b=w.heap.size+1+1) (Mods.refl _ _) (.inl rfl) _ _ _ _ _ _ _ _ _ _ _ _ _ _)
end Go.Proofs.YthkpckgcgkijbaaGreatDoor
