import Derived.Test.YthkpckgcgkijbaaGreatDoorOmG
import Derived.Test.YthkpckgcgkijbaaGreatDoorSmE
set_option linter.unusedVariables false
set_option linter.unusedSimpArgs false
set_option maxRecDepth 100000
set_option maxHeartbeats 2000000
namespace Go.Proofs.YthkpckgcgkijbaaGreatDoor
open Go.RowKit Go.Proofs.Lexi Go.Proofs.Tryz
variable (w:World) (h:Nat) (uv:Value) (rb:Nat) (k1 p1 q1:Int) (s1:ByteArray) (r1 k2 p2 q2:Int) (s2:ByteArray) (r2:Int) (cap:Nat)
theorem XN (I4:∀W,Below w w W->Calls prog 113 #[h,.agg #[k1,p1,q1,s1,r1],.int .i64 4] W (BoolPost W false)) (I8:∀W,Below w w W->Calls prog 113 #[h,.agg #[k1,p1,q1,s1,r1],.int .i64 8] W (BoolPost W false)):Calls prog 69 #[h,.agg #[k1,p1,q1,s1,r1],.agg #[k2,p2,q2,s2,r2]] w (IntPost w 8):=by
 have HI4:=zh I4;have HI8:=zh I8;clear I4 I8;go_enter func69,ntmps69;go_wp2_with fail
 refine(HI4.out _ (QE _ _ _)).mono ?_;rintro e w1 ⟨rfl,hb⟩;have Ha1:=hkh hb (Qm _ _ _);have Hb1:=hkh hb (QY _ _ _);have HW1:=hbn (QE _ _ _) hb;have hz1:=hb.size;try simp at hz1
 clear hb;have hya:=hsz Ha1;obtain⟨a0,a1,a2,a3,a4⟩:=zc5 Ha1;have hyb:=hsz Hb1;obtain⟨b0,b1,b2,b3,b4⟩:=zc5 Hb1;go_wp2_with fail
 refine(HI8.out _ HW1.out).mono ?_;rintro e w2 ⟨rfl,hb⟩;have Ha2:=hkh hb Ha1;have Hb2:=hkh hb Hb1;have HW2:=hbn HW1 hb;have hz2:=hb.size;try simp at hz2
 clear hb;clear hya a0 a1 a2 a3 a4 hyb b0 b1 b2 b3 b4;have hya:=hsz Ha2;obtain⟨a0,a1,a2,a3,a4⟩:=zc5 Ha2;have hyb:=hsz Hb2;obtain⟨b0,b1,b2,b3,b4⟩:=zc5 Hb2;go_wp2
 go_ret
 exact Qr rfl HW2.out
theorem EE (I4:∀W,Below w w W->Calls prog 113 #[h,.agg #[k1,p1,q1,s1,r1],.int .i64 4] W (BoolPost W true)) (hne:∀W:World,(binOp .neq 25 (.agg #[k2,p2,q2,s2,r2]) (.agg #[(0:Int),(0:Int),(0:Int),.string ⟨#[]⟩,(0:Int)])).run prog W= .ok (.bool true) W) (IM:∀W,Below w w W->Calls prog 113 #[h,.agg #[k2,p2,q2,s2,r2],.int .i64 4] W (BoolPost W false)):Calls prog 69 #[h,.agg #[k1,p1,q1,s1,r1],.agg #[k2,p2,q2,s2,r2]] w (IntPost w 8):=by
 have HI4:=zh I4;have HIM:=zh IM;clear I4 IM;go_enter func69,ntmps69;go_wp2_with fail
 refine(HI4.out _ (QE _ _ _)).mono ?_;rintro e w1 ⟨rfl,hb⟩;have Ha1:=hkh hb (Qm _ _ _);have Hb1:=hkh hb (QY _ _ _);have HW1:=hbn (QE _ _ _) hb;have hz1:=hb.size;try simp at hz1
 clear hb;have hya:=hsz Ha1;obtain⟨a0,a1,a2,a3,a4⟩:=zc5 Ha1;have hyb:=hsz Hb1;obtain⟨b0,b1,b2,b3,b4⟩:=zc5 Hb1;go_wp2_with fail
 refine(HIM.out _ HW1.out).mono ?_;rintro e w2 ⟨rfl,hb⟩;have Ha2:=hkh hb Ha1;have Hb2:=hkh hb Hb1;have HW2:=hbn HW1 hb;have hz2:=hb.size;try simp at hz2
 clear hb;clear hya a0 a1 a2 a3 a4 hyb b0 b1 b2 b3 b4;have hya:=hsz Ha2;obtain⟨a0,a1,a2,a3,a4⟩:=zc5 Ha2;have hyb:=hsz Hb2;obtain⟨b0,b1,b2,b3,b4⟩:=zc5 Hb2;go_wp2
 go_ret
 exact Qr rfl HW2.out
theorem EC (I4:∀W,Below w w W->Calls prog 113 #[h,.agg #[k1,p1,q1,s1,r1],.int .i64 4] W (BoolPost W false)) (I8:∀W,Below w w W->Calls prog 113 #[h,.agg #[k1,p1,q1,s1,r1],.int .i64 8] W (BoolPost W true)) (hne:∀W:World,(binOp .neq 25 (.agg #[k2,p2,q2,s2,r2]) (.agg #[(0:Int),(0:Int),(0:Int),.string ⟨#[]⟩,(0:Int)])).run prog W= .ok (.bool true) W) (IM:∀W,Below w w W->Calls prog 113 #[h,.agg #[k2,p2,q2,s2,r2],.int .i64 4] W (BoolPost W false)):Calls prog 69 #[h,.agg #[k1,p1,q1,s1,r1],.agg #[k2,p2,q2,s2,r2]] w (IntPost w 8):=by
 have HI4:=zh I4;have HI8:=zh I8;have HIM:=zh IM;clear I4 I8 IM;go_enter func69,ntmps69;go_wp2_with fail
 refine(HI4.out _ (QE _ _ _)).mono ?_;rintro e w1 ⟨rfl,hb⟩;have Ha1:=hkh hb (Qm _ _ _);have Hb1:=hkh hb (QY _ _ _);have HW1:=hbn (QE _ _ _) hb;have hz1:=hb.size;try simp at hz1
 clear hb;have hya:=hsz Ha1;obtain⟨a0,a1,a2,a3,a4⟩:=zc5 Ha1;have hyb:=hsz Hb1;obtain⟨b0,b1,b2,b3,b4⟩:=zc5 Hb1;go_wp2_with fail
 refine(HI8.out _ HW1.out).mono ?_;rintro e w2 ⟨rfl,hb⟩;have Ha2:=hkh hb Ha1;have Hb2:=hkh hb Hb1;have HW2:=hbn HW1 hb;have hz2:=hb.size;try simp at hz2
 clear hb;clear hya a0 a1 a2 a3 a4 hyb b0 b1 b2 b3 b4;have hya:=hsz Ha2;obtain⟨a0,a1,a2,a3,a4⟩:=zc5 Ha2;have hyb:=hsz Hb2;obtain⟨b0,b1,b2,b3,b4⟩:=zc5 Hb2;go_wp2_with fail
 refine(HIM.out _ HW2.out).mono ?_;rintro e w3 ⟨rfl,hb⟩;have Ha3:=hkh hb Ha2;have Hb3:=hkh hb Hb2;have HW3:=hbn HW2 hb;have hz3:=hb.size;try simp at hz3
 clear hb;clear hya a0 a1 a2 a3 a4 hyb b0 b1 b2 b3 b4;have hya:=hsz Ha3;obtain⟨a0,a1,a2,a3,a4⟩:=zc5 Ha3;have hyb:=hsz Hb3;obtain⟨b0,b1,b2,b3,b4⟩:=zc5 Hb3;go_wp2
 go_ret
 exact Qr rfl HW3.out
theorem U9 (H:List RO) (hH:RHpAt w h (.slice (some rb) H.length cap) uv H) (hl:H.length<=1000) (k1 p1 q1:Int) (s1:ByteArray) (i:Nat) (x:RO) (hi:H[i]? =some x) (h5:x.kind≠5) (k2 p2 q2:Int) (s2:ByteArray) (r2:Int) (hw2:WfV ⟨k2,p2,q2,s2,r2⟩) (I4:∀W,Below w w W->Calls prog 113 #[h,.agg #[k1,p1,q1,s1,.int .i64 (((i:Nat):Int)+1)],.int .i64 4] W (BoolPost W true)) (hne:∀W:World,(binOp .neq 25 (.agg #[k2,p2,q2,s2,r2]) (.agg #[(0:Int),(0:Int),(0:Int),.string ⟨#[]⟩,(0:Int)])).run prog W= .ok (.bool true) W) (IM:∀W,Below w w W->Calls prog 113 #[h,.agg #[k2,p2,q2,s2,r2],.int .i64 4] W (BoolPost W true))
  (U:∀W H',RHpAt W h (.slice (some rb) H.length cap) uv H'->i<H'.length->H'.length<=1000->Calls prog 114 #[h,.agg #[k1,p1,q1,s1,.int .i64 (((i:Nat):Int)+1)],(0:Int)] W (RTouchPost W h (.slice (some rb) H.length cap) uv H')):
  Calls prog 69 #[h,.agg #[k1,p1,q1,s1,.int .i64 (((i:Nat):Int)+1)],.agg #[k2,p2,q2,s2,r2]] w (SMetaPost w h (.slice (some rb) H.length cap) uv H i x ⟨k2,p2,q2,s2,r2⟩):=by
 have hil:i<H.length:=(List.getElem?_eq_some_iff.1 hi).1;have hxm:=List.mem_of_getElem? hi;have hx:=hH.one x hxm;obtain⟨bs,hTc⟩:=hH.tch;obtain⟨cs,hcs⟩:=Qd hH.row (b:=rb) rfl;have hrlt:rb<w:=(Array.getElem?_eq_some_iff.1 hcs).1;have hhlt:h<w:=(Array.getElem?_eq_some_iff.1 hH.hh).1;have HUV:=zh (fun b (hb:uv.ownBlock=some b)=>(QS hTc hb).2);have HUH:=zh (fun(e:uv.ownBlock=some h)=>by obtain⟨c2,hc⟩:=Qd hTc e;exact QW hH.hh hc (by decide) rfl);have HUR:=zh (fun(e:uv.ownBlock=some rb)=>by obtain⟨c2,hc⟩:=Qd hTc e;exact QW hcs hc (by decide) rfl);have HRH:=zh (show rb≠h from QW hcs hH.hh (by decide));have HHH:=zh hH;have HI:=zh hi;have HXM:=zh hxm;have HLL:=zh hl;have HROW:=zh hH.row;have HHX:=zh hH.hh;have H5:=zh h5;have HWF:=zh hw2;have HU:=zh U;have HI4:=zh I4;have HIM:=zh IM;clear U hH hi h5 hxm hx hTc hcs hw2 I4 IM;go_enter func69,ntmps69;go_wp2_with fail
 refine(HI4.out _ (QE _ _ _)).mono ?_;rintro e w1 ⟨rfl,hb⟩;have Ha1:=hkh hb (Qm _ _ _);have Hb1:=hkh hb (QY _ _ _);have Hh1:=hkh hb (Qs HHX.out _ _);have HW1:=hbn (QE _ _ _) hb;have hz1:=hb.size;try simp at hz1
 clear hb;have hya:=hsz Ha1;obtain⟨a0,a1,a2,a3,a4⟩:=zc5 Ha1;have hyb:=hsz Hb1;obtain⟨b0,b1,b2,b3,b4⟩:=zc5 Hb1;have hyh:=hsz Hh1;obtain⟨h0,h1,h2⟩:=zc3 Hh1;go_wp2_with fail
 refine(HIM.out _ HW1.out).mono ?_;rintro e w2 ⟨rfl,hb⟩;have Ha2:=hkh hb Ha1;have Hb2:=hkh hb Hb1;have Hh2:=hkh hb Hh1;have HW2:=hbn HW1 hb;have hz2:=hb.size;try simp at hz2
 clear hb;clear hya a0 a1 a2 a3 a4 hyb b0 b1 b2 b3 b4 hyh h0 h1 h2;have hya:=hsz Ha2;obtain⟨a0,a1,a2,a3,a4⟩:=zc5 Ha2;have hyb:=hsz Hb2;obtain⟨b0,b1,b2,b3,b4⟩:=zc5 Hb2;have hyh:=hsz Hh2;obtain⟨h0,h1,h2⟩:=zc3 Hh2;have HTH:=zh (fun W (hW:W.heap=w2.heap)=>JF (Qb (w3:=W) (QR (QV HW2.out zl) HROW.out) (fun g _=>by rw[hW])) (i*11+4) 5 (by omega));go_wp2;refine QK mixed (by kernel_rfl) ?_;go_wp2_with (refine wpList_store_mid rfl 25 _ _ rfl rb (i*11+4) _ rfl rfl (HTH.out _ rfl) Uj (by simp[Value.oneCell']) ?_)
 refine⟨by kernel_rfl,?_⟩;obtain⟨W5,hW5⟩:∃W5,W5=w2.drew.setCells rb (i*11+4) [.int .i64 k2,.int .i64 p2,.int .i64 q2,.string s2,.int .i64 r2]:=⟨_,rfl⟩
 rw[<-hW5];have hW6:W5=setCells w2.drew rb (i*11+4) (ZC ⟨k2,p2,q2,s2,r2⟩):=hW5.trans (ZH (ZC ⟨k2,p2,q2,s2,r2⟩) w2.drew (i*11+4));have hM5:Mods (fun b=>(Value.slice (some rb) H.length cap).ownBlock=some b) w2 W5:=by rw[hW6];exact Zd (F:=fun b=>(Value.slice (some rb) H.length cap).ownBlock=some b) (.inl rfl) _ _ _ (Mods.of_below (Below.refl _ _).drew)
 have hr5:W5.ownsRow 0 97 11 (.slice (some rb) H.length cap) H.length (YP (Zv H) (i*11+4) (ZC ⟨k2,p2,q2,s2,r2⟩)):=by rw[hW6];exact ZG _ _ _ _ (QR (QV HW2.out.drew zl) HROW.out)
 have HM5:=zh hM5;have HH5:=zh ((HHH.out.below HW2.out).setMt (v:=⟨k2,p2,q2,s2,r2⟩) HI.out H5.out HWF.out hr5 hM5);have Ha5:=zh (show W5.heap[w.heap.size]? =some (oV k1 p1 q1 s1 (((i:Nat):Int)+1)) from Qn hM5 Ha2.out (fun e=>by have e2:some rb=some w.heap.size:=e;injection e2 with e2;omega));clear hW5 hW6 hM5 hr5 h0 h1 h2 a0 a1 a2 a3 a4 b0 b1 b2 b3 b4;have hya:=hsz Ha5;obtain⟨a0,a1,a2,a3,a4⟩:=zc5 Ha5;go_wp2_with fail
 refine(HU.out _ _ HH5.out (by rw[List.length_set];exact hil) (by rw[List.length_set];exact HLL.out)).mono ?_;rintro e w6 ⟨rfl,hH6,hM6⟩;have HH6:=zh hH6;have HM6:=zh hM6;clear hH6 hM6;go_wp2
 go_ret
 exact⟨⟨_,rfl⟩,HH6.out,((Mods.of_below HW2.out).trans (HM5.out.mono (fun k _ e=> .inr (.inl e)))).trans (HM6.out.mono (fun k _ e=> .inr (.inr (.inl e))))⟩
theorem EB (H:List RO) (hH:RHpAt w h (.slice (some rb) H.length cap) uv H) (hl:H.length<=1000) (k1 p1 q1:Int) (s1:ByteArray) (i:Nat) (x:RO) (hi:H[i]? =some x) (h5:x.kind≠5) (k2 p2 q2:Int) (s2:ByteArray) (r2:Int) (hw2:WfV ⟨k2,p2,q2,s2,r2⟩) (I4:∀W,Below w w W->Calls prog 113 #[h,.agg #[k1,p1,q1,s1,.int .i64 (((i:Nat):Int)+1)],.int .i64 4] W (BoolPost W true)) (hne:∀W:World,(binOp .neq 25 (.agg #[k2,p2,q2,s2,r2]) (.agg #[(0:Int),(0:Int),(0:Int),.string ⟨#[]⟩,(0:Int)])).run prog W= .ok (.bool false) W)
  (U:∀W H',RHpAt W h (.slice (some rb) H.length cap) uv H'->i<H'.length->H'.length<=1000->Calls prog 114 #[h,.agg #[k1,p1,q1,s1,.int .i64 (((i:Nat):Int)+1)],(0:Int)] W (RTouchPost W h (.slice (some rb) H.length cap) uv H')):
  Calls prog 69 #[h,.agg #[k1,p1,q1,s1,.int .i64 (((i:Nat):Int)+1)],.agg #[k2,p2,q2,s2,r2]] w (SMetaPost w h (.slice (some rb) H.length cap) uv H i x ⟨k2,p2,q2,s2,r2⟩):=by
 have hil:i<H.length:=(List.getElem?_eq_some_iff.1 hi).1;have hxm:=List.mem_of_getElem? hi;have hx:=hH.one x hxm;obtain⟨bs,hTc⟩:=hH.tch;obtain⟨cs,hcs⟩:=Qd hH.row (b:=rb) rfl;have hrlt:rb<w:=(Array.getElem?_eq_some_iff.1 hcs).1;have hhlt:h<w:=(Array.getElem?_eq_some_iff.1 hH.hh).1;have HUV:=zh (fun b (hb:uv.ownBlock=some b)=>(QS hTc hb).2);have HUH:=zh (fun(e:uv.ownBlock=some h)=>by obtain⟨c2,hc⟩:=Qd hTc e;exact QW hH.hh hc (by decide) rfl);have HUR:=zh (fun(e:uv.ownBlock=some rb)=>by obtain⟨c2,hc⟩:=Qd hTc e;exact QW hcs hc (by decide) rfl);have HRH:=zh (show rb≠h from QW hcs hH.hh (by decide));have HHH:=zh hH;have HI:=zh hi;have HXM:=zh hxm;have HLL:=zh hl;have HROW:=zh hH.row;have HHX:=zh hH.hh;have H5:=zh h5;have HWF:=zh hw2;have HU:=zh U;have HI4:=zh I4;clear U hH hi h5 hxm hx hTc hcs hw2 I4;go_enter func69,ntmps69;go_wp2_with fail
 refine(HI4.out _ (QE _ _ _)).mono ?_;rintro e w1 ⟨rfl,hb⟩;have Ha1:=hkh hb (Qm _ _ _);have Hb1:=hkh hb (QY _ _ _);have Hh1:=hkh hb (Qs HHX.out _ _);have HW1:=hbn (QE _ _ _) hb;have hz1:=hb.size;try simp at hz1
 clear hb;have hya:=hsz Ha1;obtain⟨a0,a1,a2,a3,a4⟩:=zc5 Ha1;have hyb:=hsz Hb1;obtain⟨b0,b1,b2,b3,b4⟩:=zc5 Hb1;have hyh:=hsz Hh1;obtain⟨h0,h1,h2⟩:=zc3 Hh1;have HTH:=zh (fun W (hW:W.heap=w1.heap)=>JF (Qb (w3:=W) (QR (QV HW1.out zl) HROW.out) (fun g _=>by rw[hW])) (i*11+4) 5 (by omega));go_wp2;refine QK mixed (by kernel_rfl) ?_;go_wp2_with (refine wpList_store_mid rfl 25 _ _ rfl rb (i*11+4) _ rfl rfl (HTH.out _ rfl) Uj (by simp[Value.oneCell']) ?_)
 refine⟨by kernel_rfl,?_⟩;obtain⟨W5,hW5⟩:∃W5,W5=w1.drew.setCells rb (i*11+4) [.int .i64 k2,.int .i64 p2,.int .i64 q2,.string s2,.int .i64 r2]:=⟨_,rfl⟩
 rw[<-hW5];have hW6:W5=setCells w1.drew rb (i*11+4) (ZC ⟨k2,p2,q2,s2,r2⟩):=hW5.trans (ZH (ZC ⟨k2,p2,q2,s2,r2⟩) w1.drew (i*11+4));have hM5:Mods (fun b=>(Value.slice (some rb) H.length cap).ownBlock=some b) w1 W5:=by rw[hW6];exact Zd (F:=fun b=>(Value.slice (some rb) H.length cap).ownBlock=some b) (.inl rfl) _ _ _ (Mods.of_below (Below.refl _ _).drew)
 have hr5:W5.ownsRow 0 97 11 (.slice (some rb) H.length cap) H.length (YP (Zv H) (i*11+4) (ZC ⟨k2,p2,q2,s2,r2⟩)):=by rw[hW6];exact ZG _ _ _ _ (QR (QV HW1.out.drew zl) HROW.out)
 have HM5:=zh hM5;have HH5:=zh ((HHH.out.below HW1.out).setMt (v:=⟨k2,p2,q2,s2,r2⟩) HI.out H5.out HWF.out hr5 hM5);have Ha5:=zh (show W5.heap[w.heap.size]? =some (oV k1 p1 q1 s1 (((i:Nat):Int)+1)) from Qn hM5 Ha1.out (fun e=>by have e2:some rb=some w.heap.size:=e;injection e2 with e2;omega));clear hW5 hW6 hM5 hr5 h0 h1 h2 a0 a1 a2 a3 a4 b0 b1 b2 b3 b4;have hya:=hsz Ha5;obtain⟨a0,a1,a2,a3,a4⟩:=zc5 Ha5;go_wp2_with fail
 refine(HU.out _ _ HH5.out (by rw[List.length_set];exact hil) (by rw[List.length_set];exact HLL.out)).mono ?_;rintro e w6 ⟨rfl,hH6,hM6⟩;have HH6:=zh hH6;have HM6:=zh hM6;clear hH6 hM6;go_wp2
 go_ret
 exact⟨⟨_,rfl⟩,HH6.out,((Mods.of_below HW1.out).trans (HM5.out.mono (fun k _ e=> .inr (.inl e)))).trans (HM6.out.mono (fun k _ e=> .inr (.inr (.inl e))))⟩
theorem U8 (H:List RO) (hH:RHpAt w h (.slice (some rb) H.length cap) uv H) (hl:H.length<=1000) (k1 p1 q1:Int) (s1:ByteArray) (i:Nat) (x:RO) (hi:H[i]? =some x) (h5:x.kind≠5) (k2 p2 q2:Int) (s2:ByteArray) (r2:Int) (hw2:WfV ⟨k2,p2,q2,s2,r2⟩) (I4:∀W,Below w w W->Calls prog 113 #[h,.agg #[k1,p1,q1,s1,.int .i64 (((i:Nat):Int)+1)],.int .i64 4] W (BoolPost W false)) (I8:∀W,Below w w W->Calls prog 113 #[h,.agg #[k1,p1,q1,s1,.int .i64 (((i:Nat):Int)+1)],.int .i64 8] W (BoolPost W true)) (hne:∀W:World,(binOp .neq 25 (.agg #[k2,p2,q2,s2,r2]) (.agg #[(0:Int),(0:Int),(0:Int),.string ⟨#[]⟩,(0:Int)])).run prog W= .ok (.bool true) W) (IM:∀W,Below w w W->Calls prog 113 #[h,.agg #[k2,p2,q2,s2,r2],.int .i64 4] W (BoolPost W true))
  (U:∀W H',RHpAt W h (.slice (some rb) H.length cap) uv H'->i<H'.length->H'.length<=1000->Calls prog 114 #[h,.agg #[k1,p1,q1,s1,.int .i64 (((i:Nat):Int)+1)],(0:Int)] W (RTouchPost W h (.slice (some rb) H.length cap) uv H')):
  Calls prog 69 #[h,.agg #[k1,p1,q1,s1,.int .i64 (((i:Nat):Int)+1)],.agg #[k2,p2,q2,s2,r2]] w (SMetaPost w h (.slice (some rb) H.length cap) uv H i x ⟨k2,p2,q2,s2,r2⟩):=by
 have hil:i<H.length:=(List.getElem?_eq_some_iff.1 hi).1;have hxm:=List.mem_of_getElem? hi;have hx:=hH.one x hxm;obtain⟨bs,hTc⟩:=hH.tch;obtain⟨cs,hcs⟩:=Qd hH.row (b:=rb) rfl;have hrlt:rb<w:=(Array.getElem?_eq_some_iff.1 hcs).1;have hhlt:h<w:=(Array.getElem?_eq_some_iff.1 hH.hh).1;have HUV:=zh (fun b (hb:uv.ownBlock=some b)=>(QS hTc hb).2);have HUH:=zh (fun(e:uv.ownBlock=some h)=>by obtain⟨c2,hc⟩:=Qd hTc e;exact QW hH.hh hc (by decide) rfl);have HUR:=zh (fun(e:uv.ownBlock=some rb)=>by obtain⟨c2,hc⟩:=Qd hTc e;exact QW hcs hc (by decide) rfl);have HRH:=zh (show rb≠h from QW hcs hH.hh (by decide));have HHH:=zh hH;have HI:=zh hi;have HXM:=zh hxm;have HLL:=zh hl;have HROW:=zh hH.row;have HHX:=zh hH.hh;have H5:=zh h5;have HWF:=zh hw2;have HU:=zh U;have HI4:=zh I4;have HI8:=zh I8;have HIM:=zh IM;clear U hH hi h5 hxm hx hTc hcs hw2 I4 I8 IM;go_enter func69,ntmps69;go_wp2_with fail
 refine(HI4.out _ (QE _ _ _)).mono ?_;rintro e w1 ⟨rfl,hb⟩;have Ha1:=hkh hb (Qm _ _ _);have Hb1:=hkh hb (QY _ _ _);have Hh1:=hkh hb (Qs HHX.out _ _);have HW1:=hbn (QE _ _ _) hb;have hz1:=hb.size;try simp at hz1
 clear hb;have hya:=hsz Ha1;obtain⟨a0,a1,a2,a3,a4⟩:=zc5 Ha1;have hyb:=hsz Hb1;obtain⟨b0,b1,b2,b3,b4⟩:=zc5 Hb1;have hyh:=hsz Hh1;obtain⟨h0,h1,h2⟩:=zc3 Hh1;go_wp2_with fail
 refine(HI8.out _ HW1.out).mono ?_;rintro e w2 ⟨rfl,hb⟩;have Ha2:=hkh hb Ha1;have Hb2:=hkh hb Hb1;have Hh2:=hkh hb Hh1;have HW2:=hbn HW1 hb;have hz2:=hb.size;try simp at hz2
 clear hb;clear hya a0 a1 a2 a3 a4 hyb b0 b1 b2 b3 b4 hyh h0 h1 h2;have hya:=hsz Ha2;obtain⟨a0,a1,a2,a3,a4⟩:=zc5 Ha2;have hyb:=hsz Hb2;obtain⟨b0,b1,b2,b3,b4⟩:=zc5 Hb2;have hyh:=hsz Hh2;obtain⟨h0,h1,h2⟩:=zc3 Hh2;go_wp2_with fail
 refine(HIM.out _ HW2.out).mono ?_;rintro e w3 ⟨rfl,hb⟩;have Ha3:=hkh hb Ha2;have Hb3:=hkh hb Hb2;have Hh3:=hkh hb Hh2;have HW3:=hbn HW2 hb;have hz3:=hb.size;try simp at hz3
 clear hb;clear hya a0 a1 a2 a3 a4 hyb b0 b1 b2 b3 b4 hyh h0 h1 h2;have hya:=hsz Ha3;obtain⟨a0,a1,a2,a3,a4⟩:=zc5 Ha3;have hyb:=hsz Hb3;obtain⟨b0,b1,b2,b3,b4⟩:=zc5 Hb3;have hyh:=hsz Hh3;obtain⟨h0,h1,h2⟩:=zc3 Hh3;have HTH:=zh (fun W (hW:W.heap=w3.heap)=>JF (Qb (w3:=W) (QR (QV HW3.out zl) HROW.out) (fun g _=>by rw[hW])) (i*11+4) 5 (by omega));go_wp2;refine QK mixed (by kernel_rfl) ?_;go_wp2_with (refine wpList_store_mid rfl 25 _ _ rfl rb (i*11+4) _ rfl rfl (HTH.out _ rfl) Uj (by simp[Value.oneCell']) ?_)
 refine⟨by kernel_rfl,?_⟩;obtain⟨W5,hW5⟩:∃W5,W5=w3.drew.setCells rb (i*11+4) [.int .i64 k2,.int .i64 p2,.int .i64 q2,.string s2,.int .i64 r2]:=⟨_,rfl⟩
 rw[<-hW5];have hW6:W5=setCells w3.drew rb (i*11+4) (ZC ⟨k2,p2,q2,s2,r2⟩):=hW5.trans (ZH (ZC ⟨k2,p2,q2,s2,r2⟩) w3.drew (i*11+4));have hM5:Mods (fun b=>(Value.slice (some rb) H.length cap).ownBlock=some b) w3 W5:=by rw[hW6];exact Zd (F:=fun b=>(Value.slice (some rb) H.length cap).ownBlock=some b) (.inl rfl) _ _ _ (Mods.of_below (Below.refl _ _).drew)
 have hr5:W5.ownsRow 0 97 11 (.slice (some rb) H.length cap) H.length (YP (Zv H) (i*11+4) (ZC ⟨k2,p2,q2,s2,r2⟩)):=by rw[hW6];exact ZG _ _ _ _ (QR (QV HW3.out.drew zl) HROW.out)
 have HM5:=zh hM5;have HH5:=zh ((HHH.out.below HW3.out).setMt (v:=⟨k2,p2,q2,s2,r2⟩) HI.out H5.out HWF.out hr5 hM5);have Ha5:=zh (show W5.heap[w.heap.size]? =some (oV k1 p1 q1 s1 (((i:Nat):Int)+1)) from Qn hM5 Ha3.out (fun e=>by have e2:some rb=some w.heap.size:=e;injection e2 with e2;omega));clear hW5 hW6 hM5 hr5 h0 h1 h2 a0 a1 a2 a3 a4 b0 b1 b2 b3 b4;have hya:=hsz Ha5;obtain⟨a0,a1,a2,a3,a4⟩:=zc5 Ha5;go_wp2_with fail
 refine(HU.out _ _ HH5.out (by rw[List.length_set];exact hil) (by rw[List.length_set];exact HLL.out)).mono ?_;rintro e w6 ⟨rfl,hH6,hM6⟩;have HH6:=zh hH6;have HM6:=zh hM6;clear hH6 hM6;go_wp2
 go_ret
 exact⟨⟨_,rfl⟩,HH6.out,((Mods.of_below HW3.out).trans (HM5.out.mono (fun k _ e=> .inr (.inl e)))).trans (HM6.out.mono (fun k _ e=> .inr (.inr (.inl e))))⟩
theorem EA (H:List RO) (hH:RHpAt w h (.slice (some rb) H.length cap) uv H) (hl:H.length<=1000) (k1 p1 q1:Int) (s1:ByteArray) (i:Nat) (x:RO) (hi:H[i]? =some x) (h5:x.kind≠5) (k2 p2 q2:Int) (s2:ByteArray) (r2:Int) (hw2:WfV ⟨k2,p2,q2,s2,r2⟩) (I4:∀W,Below w w W->Calls prog 113 #[h,.agg #[k1,p1,q1,s1,.int .i64 (((i:Nat):Int)+1)],.int .i64 4] W (BoolPost W false)) (I8:∀W,Below w w W->Calls prog 113 #[h,.agg #[k1,p1,q1,s1,.int .i64 (((i:Nat):Int)+1)],.int .i64 8] W (BoolPost W true)) (hne:∀W:World,(binOp .neq 25 (.agg #[k2,p2,q2,s2,r2]) (.agg #[(0:Int),(0:Int),(0:Int),.string ⟨#[]⟩,(0:Int)])).run prog W= .ok (.bool false) W)
  (U:∀W H',RHpAt W h (.slice (some rb) H.length cap) uv H'->i<H'.length->H'.length<=1000->Calls prog 114 #[h,.agg #[k1,p1,q1,s1,.int .i64 (((i:Nat):Int)+1)],(0:Int)] W (RTouchPost W h (.slice (some rb) H.length cap) uv H')):
  Calls prog 69 #[h,.agg #[k1,p1,q1,s1,.int .i64 (((i:Nat):Int)+1)],.agg #[k2,p2,q2,s2,r2]] w (SMetaPost w h (.slice (some rb) H.length cap) uv H i x ⟨k2,p2,q2,s2,r2⟩):=by
 have hil:i<H.length:=(List.getElem?_eq_some_iff.1 hi).1;have hxm:=List.mem_of_getElem? hi;have hx:=hH.one x hxm;obtain⟨bs,hTc⟩:=hH.tch;obtain⟨cs,hcs⟩:=Qd hH.row (b:=rb) rfl;have hrlt:rb<w:=(Array.getElem?_eq_some_iff.1 hcs).1;have hhlt:h<w:=(Array.getElem?_eq_some_iff.1 hH.hh).1;have HUV:=zh (fun b (hb:uv.ownBlock=some b)=>(QS hTc hb).2);have HUH:=zh (fun(e:uv.ownBlock=some h)=>by obtain⟨c2,hc⟩:=Qd hTc e;exact QW hH.hh hc (by decide) rfl);have HUR:=zh (fun(e:uv.ownBlock=some rb)=>by obtain⟨c2,hc⟩:=Qd hTc e;exact QW hcs hc (by decide) rfl);have HRH:=zh (show rb≠h from QW hcs hH.hh (by decide));have HHH:=zh hH;have HI:=zh hi;have HXM:=zh hxm;have HLL:=zh hl;have HROW:=zh hH.row;have HHX:=zh hH.hh;have H5:=zh h5;have HWF:=zh hw2;have HU:=zh U;have HI4:=zh I4;have HI8:=zh I8;clear U hH hi h5 hxm hx hTc hcs hw2 I4 I8;go_enter func69,ntmps69;go_wp2_with fail
 refine(HI4.out _ (QE _ _ _)).mono ?_;rintro e w1 ⟨rfl,hb⟩;have Ha1:=hkh hb (Qm _ _ _);have Hb1:=hkh hb (QY _ _ _);have Hh1:=hkh hb (Qs HHX.out _ _);have HW1:=hbn (QE _ _ _) hb;have hz1:=hb.size;try simp at hz1
 clear hb;have hya:=hsz Ha1;obtain⟨a0,a1,a2,a3,a4⟩:=zc5 Ha1;have hyb:=hsz Hb1;obtain⟨b0,b1,b2,b3,b4⟩:=zc5 Hb1;have hyh:=hsz Hh1;obtain⟨h0,h1,h2⟩:=zc3 Hh1;go_wp2_with fail
 refine(HI8.out _ HW1.out).mono ?_;rintro e w2 ⟨rfl,hb⟩;have Ha2:=hkh hb Ha1;have Hb2:=hkh hb Hb1;have Hh2:=hkh hb Hh1;have HW2:=hbn HW1 hb;have hz2:=hb.size;try simp at hz2
 clear hb;clear hya a0 a1 a2 a3 a4 hyb b0 b1 b2 b3 b4 hyh h0 h1 h2;have hya:=hsz Ha2;obtain⟨a0,a1,a2,a3,a4⟩:=zc5 Ha2;have hyb:=hsz Hb2;obtain⟨b0,b1,b2,b3,b4⟩:=zc5 Hb2;have hyh:=hsz Hh2;obtain⟨h0,h1,h2⟩:=zc3 Hh2;have HTH:=zh (fun W (hW:W.heap=w2.heap)=>JF (Qb (w3:=W) (QR (QV HW2.out zl) HROW.out) (fun g _=>by rw[hW])) (i*11+4) 5 (by omega));go_wp2;refine QK mixed (by kernel_rfl) ?_;go_wp2_with (refine wpList_store_mid rfl 25 _ _ rfl rb (i*11+4) _ rfl rfl (HTH.out _ rfl) Uj (by simp[Value.oneCell']) ?_)
 refine⟨by kernel_rfl,?_⟩;obtain⟨W5,hW5⟩:∃W5,W5=w2.drew.setCells rb (i*11+4) [.int .i64 k2,.int .i64 p2,.int .i64 q2,.string s2,.int .i64 r2]:=⟨_,rfl⟩
 rw[<-hW5];have hW6:W5=setCells w2.drew rb (i*11+4) (ZC ⟨k2,p2,q2,s2,r2⟩):=hW5.trans (ZH (ZC ⟨k2,p2,q2,s2,r2⟩) w2.drew (i*11+4));have hM5:Mods (fun b=>(Value.slice (some rb) H.length cap).ownBlock=some b) w2 W5:=by rw[hW6];exact Zd (F:=fun b=>(Value.slice (some rb) H.length cap).ownBlock=some b) (.inl rfl) _ _ _ (Mods.of_below (Below.refl _ _).drew)
 have hr5:W5.ownsRow 0 97 11 (.slice (some rb) H.length cap) H.length (YP (Zv H) (i*11+4) (ZC ⟨k2,p2,q2,s2,r2⟩)):=by rw[hW6];exact ZG _ _ _ _ (QR (QV HW2.out.drew zl) HROW.out)
 have HM5:=zh hM5;have HH5:=zh ((HHH.out.below HW2.out).setMt (v:=⟨k2,p2,q2,s2,r2⟩) HI.out H5.out HWF.out hr5 hM5);have Ha5:=zh (show W5.heap[w.heap.size]? =some (oV k1 p1 q1 s1 (((i:Nat):Int)+1)) from Qn hM5 Ha2.out (fun e=>by have e2:some rb=some w.heap.size:=e;injection e2 with e2;omega));clear hW5 hW6 hM5 hr5 h0 h1 h2 a0 a1 a2 a3 a4 b0 b1 b2 b3 b4;have hya:=hsz Ha5;obtain⟨a0,a1,a2,a3,a4⟩:=zc5 Ha5;go_wp2_with fail
 refine(HU.out _ _ HH5.out (by rw[List.length_set];exact hil) (by rw[List.length_set];exact HLL.out)).mono ?_;rintro e w6 ⟨rfl,hH6,hM6⟩;have HH6:=zh hH6;have HM6:=zh hM6;clear hH6 hM6;go_wp2
 go_ret
 exact⟨⟨_,rfl⟩,HH6.out,((Mods.of_below HW2.out).trans (HM5.out.mono (fun k _ e=> .inr (.inl e)))).trans (HM6.out.mono (fun k _ e=> .inr (.inr (.inl e))))⟩
theorem NS {base n:Nat} {w:World} {h:Nat} {M:LH} (hP:RHp base n w h M) (hb:base<=w) (hl:M.length<=1000) (k1 p1 q1:Int) (s1:ByteArray) (r1:Int) (k2 p2 q2:Int) (s2:ByteArray) (r2:Int) (hw2:WfV ⟨k2,p2,q2,s2,r2⟩):Calls prog 69 #[.pointer (some ⟨h,0,none⟩),.agg #[k1,p1,q1,s1,r1],.agg #[k2,p2,q2,s2,r2]] w (fun e w'=>(∃v,e= .returned v)/\RHp base n w' h (Zc M ⟨k1,p1,q1,s1,r1⟩ ⟨k2,p2,q2,s2,r2⟩)/\BM base SB w w'):=by
 obtain⟨av,uv,H,h1,h2,h3,h4⟩:=hP.ex;subst h2;have hl1:H.length<=1000:=by unfold rlh at hl;rw[List.length_map] at hl;exact hl
 have I4:=fun W (hb:Below w w W)=>NI W h av uv H (h1.below hb) hl1 k1 p1 q1 s1 r1 4;have I8:=fun W (hb:Below w w W)=>NI W h av uv H (h1.below hb) hl1 k1 p1 q1 s1 r1 8;have IM:=fun W (hb:Below w w W)=>NI W h av uv H (h1.below hb) hl1 k2 p2 q2 s2 r2 4;have N:=fun W=>As W k2 p2 q2 s2 r2 0 0 0 ⟨#[]⟩ 0;rw[show((Zp H ⟨k2,p2,q2,s2,r2⟩).isSome&&k2==4)=E1 (rlh H) ⟨k2,p2,q2,s2,r2⟩ from rtab_find.symm] at IM;cases hf:Zp H ⟨k1,p1,q1,s1,r1⟩ with
 |none=>
  rw[hf] at I4 I8;have hM:Zc (rlh H) ⟨k1,p1,q1,s1,r1⟩ ⟨k2,p2,q2,s2,r2⟩=rlh H:=by unfold Zc;rw[Jl,hf];rfl
  exact(XN w h k1 p1 q1 s1 r1 k2 p2 q2 s2 r2 I4 I8).mono (fun e w' hp=>Jp hP hM hp)
 |some x=>
  rw[hf] at I4 I8;obtain⟨i,hi,hk,hri,hxm⟩:=Jg hf;have hri:r1=((i:Nat):Int)+1:=hri;have hkk:x.kind=k1:=hk;have hil:i<H.length:=(List.getElem?_eq_some_iff.1 hi).1;have hx:=h1.one x hxm;obtain⟨rb,cap,rfl⟩:=Qh h1.row (by omega);have U:=fun W H' (hH':RHpAt W h (.slice (some ⟨rb,0,none⟩) H.length cap) uv H') (ha:i<H'.length) (hb':H'.length<=1000)=>PI W h _ uv H' hH' hb' k1 p1 q1 s1 i ha;have hSM:Zc (rlh H) ⟨k1,p1,q1,s1,r1⟩ ⟨k2,p2,q2,s2,r2⟩=if (x.kind=4\/x.kind=8)/\(eqV ⟨k2,p2,q2,s2,r2⟩ V.nil=true\/E1 (rlh H) ⟨k2,p2,q2,s2,r2⟩=true) then(rlh H).set (r1.toNat-1) ⟨x.kind,⟨k2,p2,q2,s2,r2⟩,x.lo.L⟩ else rlh H:=by unfold Zc;rw[Jl,hf];rfl
  have fin:(x.kind=4\/x.kind=8)->(eqV ⟨k2,p2,q2,s2,r2⟩ V.nil=true\/E1 (rlh H) ⟨k2,p2,q2,s2,r2⟩=true)->∀e w',SMetaPost w h (.slice (some ⟨rb,0,none⟩) H.length cap) uv H i x ⟨k2,p2,q2,s2,r2⟩ e w'->(∃v,e= .returned v)/\RHp base n w' h (Zc (rlh H) ⟨k1,p1,q1,s1,r1⟩ ⟨k2,p2,q2,s2,r2⟩)/\BM base SB w w':=by
   rintro ha hb2 e w' ⟨he,hH',hM'⟩;refine⟨he,⟨_,uv,_,hH',?_,?_,?_⟩,BM.of_mods hM' (fun b hb3=>⟨h4 b hb3,F9 h1 hb3⟩)⟩
   ·rw[hSM,if_pos ⟨ha,hb2⟩];unfold rlh;rw[List.map_set,show r1.toNat-1=i by omega];rfl
   ·intro y hy;rcases JR hy with rfl|⟨j,hj,hjy⟩
    ·exact h3 x hxm
    ·exact h3 y (List.mem_of_getElem? hjy)
   ·rintro b (e|e|e|⟨y,hy,hyb⟩)
    ·exact h4 b (.inl e)
    ·exact h4 b (.inr (.inl e))
    ·exact h4 b (.inr (.inr (.inl e)))
    ·rcases JR hy with rfl|⟨j,hj,hjy⟩
     ·exact h4 b (.inr (.inr (.inr ⟨x,hxm,hyb⟩)))
     ·exact h4 b (.inr (.inr (.inr ⟨y,List.mem_of_getElem? hjy,hyb⟩)))
  have e5:x.kind=5->(k1==4)=false/\(k1==8)=false:=fun h=>by rw[<-hkk,h];exact⟨rfl,rfl⟩
  rcases hx.kd with k4|k5|k8
  rotate_left
  ·rw[show((some x).isSome&&k1==4)=false from(e5 k5).1] at I4;rw[show((some x).isSome&&k1==8)=false from(e5 k5).2] at I8;exact(XN w h k1 p1 q1 s1 r1 k2 p2 q2 s2 r2 I4 I8).mono (fun e w' hp=>Jp hP (by rw[hSM,if_neg (by omega)]) hp)
  ·rw[show((some x).isSome&&k1==4)=false from by rw[<-hkk,k8];rfl] at I4;rw[show((some x).isSome&&k1==8)=true from by rw[<-hkk,k8];rfl] at I8;cases he:eqV ⟨k2,p2,q2,s2,r2⟩ V.nil with
   |true=>
    have N0:∀W:World,(binOp .neq 25 (.agg #[k2,p2,q2,s2,r2]) (.agg #[.int .i64 0,.int .i64 0,.int .i64 0,.string ⟨#[]⟩,.int .i64 0])).run prog W= .ok (.bool false) W:=fun W=>by have:=N W;rw[show eqV ⟨k2,p2,q2,s2,r2⟩ ⟨0,0,0,⟨#[]⟩,0⟩=true from he] at this;exact this
    subst hri;exact(EA w h uv rb cap H h1 hl1 k1 p1 q1 s1 i x hi (by omega) k2 p2 q2 s2 r2 hw2 I4 I8 N0 U).mono (fin (by omega) (.inl he))
   |false=>
    have N1:∀W:World,(binOp .neq 25 (.agg #[k2,p2,q2,s2,r2]) (.agg #[.int .i64 0,.int .i64 0,.int .i64 0,.string ⟨#[]⟩,.int .i64 0])).run prog W= .ok (.bool true) W:=fun W=>by have:=N W;rw[show eqV ⟨k2,p2,q2,s2,r2⟩ ⟨0,0,0,⟨#[]⟩,0⟩=false from he] at this;exact this
    cases ht:E1 (rlh H) ⟨k2,p2,q2,s2,r2⟩ with
    |true=>
     rw[ht] at IM;subst hri;exact(U8 w h uv rb cap H h1 hl1 k1 p1 q1 s1 i x hi (by omega) k2 p2 q2 s2 r2 hw2 I4 I8 N1 IM U).mono (fin (by omega) (.inr ht))
    |false=>
     rw[ht] at IM;exact(EC w h k1 p1 q1 s1 r1 k2 p2 q2 s2 r2 I4 I8 N1 IM).mono (fun e w' hp=>Jp hP (by rw[hSM,if_neg (by rw[he,ht];simp)]) hp)
  ·rw[show((some x).isSome&&k1==4)=true from by rw[<-hkk,k4];rfl] at I4;cases he:eqV ⟨k2,p2,q2,s2,r2⟩ V.nil with
   |true=>
    have N0:∀W:World,(binOp .neq 25 (.agg #[k2,p2,q2,s2,r2]) (.agg #[.int .i64 0,.int .i64 0,.int .i64 0,.string ⟨#[]⟩,.int .i64 0])).run prog W= .ok (.bool false) W:=fun W=>by have:=N W;rw[show eqV ⟨k2,p2,q2,s2,r2⟩ ⟨0,0,0,⟨#[]⟩,0⟩=true from he] at this;exact this
    subst hri;exact(EB w h uv rb cap H h1 hl1 k1 p1 q1 s1 i x hi (by omega) k2 p2 q2 s2 r2 hw2 I4 N0 U).mono (fin (by omega) (.inl he))
   |false=>
    have N1:∀W:World,(binOp .neq 25 (.agg #[k2,p2,q2,s2,r2]) (.agg #[.int .i64 0,.int .i64 0,.int .i64 0,.string ⟨#[]⟩,.int .i64 0])).run prog W= .ok (.bool true) W:=fun W=>by have:=N W;rw[show eqV ⟨k2,p2,q2,s2,r2⟩ ⟨0,0,0,⟨#[]⟩,0⟩=false from he] at this;exact this
    cases ht:E1 (rlh H) ⟨k2,p2,q2,s2,r2⟩ with
    |true=>
     rw[ht] at IM;subst hri;exact(U9 w h uv rb cap H h1 hl1 k1 p1 q1 s1 i x hi (by omega) k2 p2 q2 s2 r2 hw2 I4 N1 IM U).mono (fin (by omega) (.inr ht))
    |false=>
     rw[ht] at IM;exact(EE w h k1 p1 q1 s1 r1 k2 p2 q2 s2 r2 I4 N1 IM).mono (fun e w' hp=>Jp hP (by rw[hSM,if_neg (by rw[he,ht];simp)]) hp)
theorem S7 {base n:Nat} {w:World} {h:Nat} {M:LH} (hP:RHp base n w h M) (hb:base<=w) (hl:M.length<=1000) (hn:n<1000) (k1 p1 q1:Int) (s1:ByteArray) (r1:Int) (s:ByteArray) (k2 p2 q2:Int) (s2:ByteArray) (r2:Int):Calls prog 71 #[.pointer (some ⟨h,0,none⟩),.agg #[k1,p1,q1,s1,r1],.agg #[.int .i64 3,.int .i64 0,.int .i64 0,s,.int .i64 0],.agg #[k2,p2,q2,s2,r2]] w (fun e w'=>(∃v,e= .returned v)/\RHp base (n+1) w' h (Fm M ⟨k1,p1,q1,s1,r1⟩ s ⟨k2,p2,q2,s2,r2⟩)/\BM base SB w w'):=by
 obtain⟨av,uv,H,h1,h2,h3,h4⟩:=hP.ex;subst h2;have hl1:H.length<=1000:=by unfold rlh at hl;rw[List.length_map] at hl;exact hl
 have hP1:=hP.up (Nat.le_succ n);have T:=fun W (hb:Below w w W)=>Gj W h av uv H (h1.below hb) hl1 k1 p1 q1 s1 r1;have V:=fun W=>JW W 3 0 0 s 0;have E:=fun W=>B0 W k2 p2 q2 s2 r2;have nope:Uq H ⟨k1,p1,q1,s1,r1⟩=8->Fm (rlh H) ⟨k1,p1,q1,s1,r1⟩ s ⟨k2,p2,q2,s2,r2⟩=rlh H->Calls prog 71 #[.pointer (some ⟨h,0,none⟩),.agg #[k1,p1,q1,s1,r1],.agg #[.int .i64 3,.int .i64 0,.int .i64 0,s,.int .i64 0],.agg #[k2,p2,q2,s2,r2]] w (fun e w'=>(∃v,e= .returned v)/\RHp base (n+1) w' h (Fm (rlh H) ⟨k1,p1,q1,s1,r1⟩ s ⟨k2,p2,q2,s2,r2⟩)/\BM base SB w w'):=fun hT hM=>by
  rw[hT] at T;exact(OX w h k1 p1 q1 s1 r1 s k2 p2 q2 s2 r2 T).mono (fun e w' hp=>Jp hP1 hM hp)
 cases hf:Zp H ⟨k1,p1,q1,s1,r1⟩ with
 |none=>exact nope (by unfold Uq;rw[hf];rfl) (by unfold Fm;rw[Jl,hf];rfl)
 |some x=>
  obtain⟨i,hi,hk,hri,hxm⟩:=Jg hf;have hri:r1=((i:Nat):Int)+1:=hri;have hkk:x.kind=k1:=hk;have hil:i<H.length:=(List.getElem?_eq_some_iff.1 hi).1;have hx:=h1.one x hxm;have hSM:Fm (rlh H) ⟨k1,p1,q1,s1,r1⟩ s ⟨k2,p2,q2,s2,r2⟩=if x.kind=4/\s.size<=4096/\Qt ⟨k2,p2,q2,s2,r2⟩=true then(rlh H).set (r1.toNat-1) ⟨x.kind,x.mt,Yu x.lo.L (KR s) ⟨k2,p2,q2,s2,r2⟩⟩ else rlh H:=by unfold Fm;rw[Jl,hf];rfl
  by_cases k4:x.kind=4
  rotate_left
  ·exact nope (by unfold Uq;rw[hf];show(if ((some x).isSome&&k1==4)=true then(0:Int) else 8)=8;rw[show(k1==4)=false from by rw[<-hkk];exact beq_eq_false_iff_ne.2 k4];rfl) (by rw[hSM,if_neg (fun h=>k4 h.1)])
  ·have hT0:Uq H ⟨k1,p1,q1,s1,r1⟩=0:=by unfold Uq;rw[hf];show(if ((some x).isSome&&k1==4)=true then(0:Int) else 8)=0;rw[<-hkk,k4];rfl
   rw[hT0] at T;by_cases hs:s.size<=4096
   rotate_left
   ·rw[show Qt ⟨3,0,0,s,0⟩=false from M8 hs] at V;exact(L4 w h k1 p1 q1 s1 r1 s k2 p2 q2 s2 r2 T V).mono (fun e w' hp=>Jp hP1 (by rw[hSM,if_neg (fun h=>hs h.2.1)]) hp)
   ·rw[show Qt ⟨3,0,0,s,0⟩=true from Jo hs] at V;by_cases hv:Qt ⟨k2,p2,q2,s2,r2⟩=true
    rotate_left
    ·exact(OY w h k1 p1 q1 s1 r1 s k2 p2 q2 s2 r2 _ (by rw[bne_iff_ne];exact P1 hv) T V E).mono (fun e w' hp=>Jp hP1 (by rw[hSM,if_neg (fun h=>hv h.2.2)]) hp)
    ·rw[Ul hv] at E;obtain⟨rb,cap,rfl⟩:=Qh h1.row (by omega);have U:=fun W H' (hH':RHpAt W h (.slice (some ⟨rb,0,none⟩) H.length cap) uv H') (ha:i<H'.length) (hb':H'.length<=1000)=>PI W h _ uv H' hH' hb' k1 p1 q1 s1 i ha;have S:=fun W (hb:Below w w W)=>OS W x.t x.m x.sv x.L ((hx.tb k4).below hb) (by have:=h3 x hxm;omega) s hs k2 p2 q2 s2 r2 hv;subst hri;refine(Bs w h uv rb cap H h1 hl1 k1 p1 q1 s1 i x hi k4 _ s k2 p2 q2 s2 r2 T V E S U).mono ?_;rintro e w' ⟨he,sv',hH',hM',hown⟩;have hloL:x.lo.L=x.L:=by unfold RO.lo;exact if_pos k4
     refine⟨he,⟨_,uv,_,hH',?_,?_,?_⟩,BM.of_mods hM' (fun b hb3=>⟨h4 b hb3,F9 h1 hb3⟩)⟩
     ·rw[hSM,if_pos ⟨k4,hs,hv⟩,hloL];unfold rlh;rw[List.map_set,show(((i:Nat):Int)+1).toNat-1=i by omega];unfold RO.lo;simp only[k4,if_true]
     ·intro y hy;rcases JR hy with rfl|⟨j,hj,hjy⟩
      ·have h5:=PE x.L (KR s) ⟨k2,p2,q2,s2,r2⟩;have h6:=h3 x hxm;show(Yu x.L (KR s) ⟨k2,p2,q2,s2,r2⟩).length<=n+1;omega
      ·exact Nat.le_succ_of_le (h3 y (List.mem_of_getElem? hjy))
     ·rintro b (e|e|e|⟨y,hy,hyb⟩)
      ·exact h4 b (.inl e)
      ·exact h4 b (.inr (.inl e))
      ·exact h4 b (.inr (.inr (.inl e)))
      ·rcases JR hy with rfl|⟨j,hj,hjy⟩
       ·rcases hyb with⟨_,e|e|e⟩
        ·exact h4 b (.inr (.inr (.inr ⟨x,hxm,k4,.inl e⟩)))
        ·exact h4 b (.inr (.inr (.inr ⟨x,hxm,k4,.inr (.inl e)⟩)))
        ·rcases hown b e with e|e
         ·exact h4 b (.inr (.inr (.inr ⟨x,hxm,k4,.inr (.inr e)⟩)))
         ·omega
       ·exact h4 b (.inr (.inr (.inr ⟨y,List.mem_of_getElem? hjy,hyb⟩)))
end Go.Proofs.YthkpckgcgkijbaaGreatDoor
