import Derived.Test.YthkpckgcgkijbaaGreatDoorSmD
import Derived.Test.YthkpckgcgkijbaaGreatDoorSHpS
import Derived.Test.YthkpckgcgkijbaaGreatDoorHpT
set_option linter.unusedVariables false
set_option linter.unusedSimpArgs false
set_option maxRecDepth 100000
set_option maxHeartbeats 2000000
namespace Go.Proofs.YthkpckgcgkijbaaGreatDoor
open Go.RowKit Go.Proofs.Lexi
theorem sSetMeta_no (w:World) (h:Nat) (k1 p1 q1:Int) (s1:ByteArray) (r1:Int) (k2 p2 q2:Int) (s2:ByteArray) (r2:Int) (I4:∀W,Below w.heap.size w W→Calls Tryz.prog 113 #[.pointer (some ⟨h,0,none⟩),.agg #[k1,p1,q1,s1,r1],.int .i64 4] W (BoolPost W false)) (I8:∀W,Below w.heap.size w W→Calls Tryz.prog 113 #[.pointer (some ⟨h,0,none⟩),.agg #[k1,p1,q1,s1,r1],.int .i64 8] W (BoolPost W false)):Calls Tryz.prog 69 #[.pointer (some ⟨h,0,none⟩),.agg #[k1,p1,q1,s1,r1],.agg #[k2,p2,q2,s2,r2]] w (IntPost w 8):=by
 have HI4:=Lib.hid I4
 have HI8:=Lib.hid I8
 clear I4 I8
 go_enter Tryz.func69,Tryz.ntmps69
 go_wp2_with fail
 refine(HI4.out _ (zAF _ _ _)).mono ?_
 rintro e w1 ⟨rfl,hb⟩
 have Ha1:=hkh hb (zAf _ _ _)
 have Hb1:=hkh hb (zAW _ _ _)
 have HW1:=hbn (zAF _ _ _) hb
 have hz1:=hb.size
 try simp at hz1
 clear hb
 have hya:w.heap.size<w1.heap.size:=hsz Ha1
 obtain⟨a0,a1,a2,a3,a4⟩:=cells5 Ha1.out
 have hyb:w.heap.size+1<w1.heap.size:=hsz Hb1
 obtain⟨b0,b1,b2,b3,b4⟩:=cells5 Hb1.out
 go_wp2_with fail
 refine(HI8.out _ HW1.out).mono ?_
 rintro e w2 ⟨rfl,hb⟩
 have Ha2:=hkh hb Ha1.out
 have Hb2:=hkh hb Hb1.out
 have HW2:=hbn HW1.out hb
 have hz2:=hb.size
 try simp at hz2
 clear hb
 clear hya a0 a1 a2 a3 a4 hyb b0 b1 b2 b3 b4
 have hya:w.heap.size<w2.heap.size:=hsz Ha2
 obtain⟨a0,a1,a2,a3,a4⟩:=cells5 Ha2.out
 have hyb:w.heap.size+1<w2.heap.size:=hsz Hb2
 obtain⟨b0,b1,b2,b3,b4⟩:=cells5 Hb2.out
 go_wp2
 go_ret
 exact zAq rfl HW2.out
theorem sSetMeta_bad4 (w:World) (h:Nat) (k1 p1 q1:Int) (s1:ByteArray) (r1:Int) (k2 p2 q2:Int) (s2:ByteArray) (r2:Int) (I4:∀W,Below w.heap.size w W→Calls Tryz.prog 113 #[.pointer (some ⟨h,0,none⟩),.agg #[k1,p1,q1,s1,r1],.int .i64 4] W (BoolPost W true)) (hne:∀W:World,(binOp .neq 25 (.agg #[k2,p2,q2,s2,r2]) (.agg #[.int .i64 0,.int .i64 0,.int .i64 0,.string ⟨#[]⟩,.int .i64 0])).run Tryz.prog W= .ok (.bool true) W) (IM:∀W,Below w.heap.size w W→Calls Tryz.prog 113 #[.pointer (some ⟨h,0,none⟩),.agg #[k2,p2,q2,s2,r2],.int .i64 4] W (BoolPost W false)):Calls Tryz.prog 69 #[.pointer (some ⟨h,0,none⟩),.agg #[k1,p1,q1,s1,r1],.agg #[k2,p2,q2,s2,r2]] w (IntPost w 8):=by
 have HI4:=Lib.hid I4
 have HIM:=Lib.hid IM
 clear I4 IM
 go_enter Tryz.func69,Tryz.ntmps69
 go_wp2_with fail
 refine(HI4.out _ (zAF _ _ _)).mono ?_
 rintro e w1 ⟨rfl,hb⟩
 have Ha1:=hkh hb (zAf _ _ _)
 have Hb1:=hkh hb (zAW _ _ _)
 have HW1:=hbn (zAF _ _ _) hb
 have hz1:=hb.size
 try simp at hz1
 clear hb
 have hya:w.heap.size<w1.heap.size:=hsz Ha1
 obtain⟨a0,a1,a2,a3,a4⟩:=cells5 Ha1.out
 have hyb:w.heap.size+1<w1.heap.size:=hsz Hb1
 obtain⟨b0,b1,b2,b3,b4⟩:=cells5 Hb1.out
 go_wp2_with fail
 refine(HIM.out _ HW1.out).mono ?_
 rintro e w2 ⟨rfl,hb⟩
 have Ha2:=hkh hb Ha1.out
 have Hb2:=hkh hb Hb1.out
 have HW2:=hbn HW1.out hb
 have hz2:=hb.size
 try simp at hz2
 clear hb
 clear hya a0 a1 a2 a3 a4 hyb b0 b1 b2 b3 b4
 have hya:w.heap.size<w2.heap.size:=hsz Ha2
 obtain⟨a0,a1,a2,a3,a4⟩:=cells5 Ha2.out
 have hyb:w.heap.size+1<w2.heap.size:=hsz Hb2
 obtain⟨b0,b1,b2,b3,b4⟩:=cells5 Hb2.out
 go_wp2
 go_ret
 exact zAq rfl HW2.out
theorem sSetMeta_bad8 (w:World) (h:Nat) (k1 p1 q1:Int) (s1:ByteArray) (r1:Int) (k2 p2 q2:Int) (s2:ByteArray) (r2:Int) (I4:∀W,Below w.heap.size w W→Calls Tryz.prog 113 #[.pointer (some ⟨h,0,none⟩),.agg #[k1,p1,q1,s1,r1],.int .i64 4] W (BoolPost W false)) (I8:∀W,Below w.heap.size w W→Calls Tryz.prog 113 #[.pointer (some ⟨h,0,none⟩),.agg #[k1,p1,q1,s1,r1],.int .i64 8] W (BoolPost W true)) (hne:∀W:World,(binOp .neq 25 (.agg #[k2,p2,q2,s2,r2]) (.agg #[.int .i64 0,.int .i64 0,.int .i64 0,.string ⟨#[]⟩,.int .i64 0])).run Tryz.prog W= .ok (.bool true) W) (IM:∀W,Below w.heap.size w W→Calls Tryz.prog 113 #[.pointer (some ⟨h,0,none⟩),.agg #[k2,p2,q2,s2,r2],.int .i64 4] W (BoolPost W false)):Calls Tryz.prog 69 #[.pointer (some ⟨h,0,none⟩),.agg #[k1,p1,q1,s1,r1],.agg #[k2,p2,q2,s2,r2]] w (IntPost w 8):=by
 have HI4:=Lib.hid I4
 have HI8:=Lib.hid I8
 have HIM:=Lib.hid IM
 clear I4 I8 IM
 go_enter Tryz.func69,Tryz.ntmps69
 go_wp2_with fail
 refine(HI4.out _ (zAF _ _ _)).mono ?_
 rintro e w1 ⟨rfl,hb⟩
 have Ha1:=hkh hb (zAf _ _ _)
 have Hb1:=hkh hb (zAW _ _ _)
 have HW1:=hbn (zAF _ _ _) hb
 have hz1:=hb.size
 try simp at hz1
 clear hb
 have hya:w.heap.size<w1.heap.size:=hsz Ha1
 obtain⟨a0,a1,a2,a3,a4⟩:=cells5 Ha1.out
 have hyb:w.heap.size+1<w1.heap.size:=hsz Hb1
 obtain⟨b0,b1,b2,b3,b4⟩:=cells5 Hb1.out
 go_wp2_with fail
 refine(HI8.out _ HW1.out).mono ?_
 rintro e w2 ⟨rfl,hb⟩
 have Ha2:=hkh hb Ha1.out
 have Hb2:=hkh hb Hb1.out
 have HW2:=hbn HW1.out hb
 have hz2:=hb.size
 try simp at hz2
 clear hb
 clear hya a0 a1 a2 a3 a4 hyb b0 b1 b2 b3 b4
 have hya:w.heap.size<w2.heap.size:=hsz Ha2
 obtain⟨a0,a1,a2,a3,a4⟩:=cells5 Ha2.out
 have hyb:w.heap.size+1<w2.heap.size:=hsz Hb2
 obtain⟨b0,b1,b2,b3,b4⟩:=cells5 Hb2.out
 go_wp2_with fail
 refine(HIM.out _ HW2.out).mono ?_
 rintro e w3 ⟨rfl,hb⟩
 have Ha3:=hkh hb Ha2.out
 have Hb3:=hkh hb Hb2.out
 have HW3:=hbn HW2.out hb
 have hz3:=hb.size
 try simp at hz3
 clear hb
 clear hya a0 a1 a2 a3 a4 hyb b0 b1 b2 b3 b4
 have hya:w.heap.size<w3.heap.size:=hsz Ha3
 obtain⟨a0,a1,a2,a3,a4⟩:=cells5 Ha3.out
 have hyb:w.heap.size+1<w3.heap.size:=hsz Hb3
 obtain⟨b0,b1,b2,b3,b4⟩:=cells5 Hb3.out
 go_wp2
 go_ret
 exact zAq rfl HW3.out
theorem sSetMeta_tab4 (w:World) (h:Nat) (uv:Value) (rb cap:Nat) (H:List RO) (hH:RHpAt w h (.slice (some ⟨rb,0,none⟩) H.length cap) uv H) (hl:H.length≤1000) (k1 p1 q1:Int) (s1:ByteArray) (i:Nat) (x:RO) (hi:H[i]? =some x) (h5:x.kind≠5) (k2 p2 q2:Int) (s2:ByteArray) (r2:Int) (hw2:WfV ⟨k2,p2,q2,s2,r2⟩) (I4:∀W,Below w.heap.size w W→Calls Tryz.prog 113 #[.pointer (some ⟨h,0,none⟩),.agg #[k1,p1,q1,s1,.int .i64 (((i:Nat):Int)+1)],.int .i64 4] W (BoolPost W true)) (hne:∀W:World,(binOp .neq 25 (.agg #[k2,p2,q2,s2,r2]) (.agg #[.int .i64 0,.int .i64 0,.int .i64 0,.string ⟨#[]⟩,.int .i64 0])).run Tryz.prog W= .ok (.bool true) W) (IM:∀W,Below w.heap.size w W→Calls Tryz.prog 113 #[.pointer (some ⟨h,0,none⟩),.agg #[k2,p2,q2,s2,r2],.int .i64 4] W (BoolPost W true))
  (U:∀W H',RHpAt W h (.slice (some ⟨rb,0,none⟩) H.length cap) uv H'→i<H'.length→H'.length≤1000→Calls Tryz.prog 114 #[.pointer (some ⟨h,0,none⟩),.agg #[k1,p1,q1,s1,.int .i64 (((i:Nat):Int)+1)],.int .i64 0] W (RTouchPost W h (.slice (some ⟨rb,0,none⟩) H.length cap) uv H')):
  Calls Tryz.prog 69 #[.pointer (some ⟨h,0,none⟩),.agg #[k1,p1,q1,s1,.int .i64 (((i:Nat):Int)+1)],.agg #[k2,p2,q2,s2,r2]] w (SMetaPost w h (.slice (some ⟨rb,0,none⟩) H.length cap) uv H i x ⟨k2,p2,q2,s2,r2⟩):=by
 have hil:i<H.length:=(List.getElem?_eq_some_iff.1 hi).1
 have hxm:=List.mem_of_getElem? hi
 have hx:=hH.one x hxm
 obtain⟨bs,hTc⟩:=hH.tch
 obtain⟨cs,hcs⟩:=zAc hH.row (b:=rb) rfl
 have hrlt:rb<w.heap.size:=(Array.getElem?_eq_some_iff.1 hcs).1
 have hhlt:h<w.heap.size:=(Array.getElem?_eq_some_iff.1 hH.hh).1
 have HUV:=Lib.hid (fun b (hb:uv.ownBlock=some b)=>(zAS hTc hb).2)
 have HUH:=Lib.hid (fun(e:uv.ownBlock=some h)=>by obtain⟨c2,hc⟩:=zAc hTc e;exact zAU hH.hh hc (by decide) rfl)
 have HUR:=Lib.hid (fun(e:uv.ownBlock=some rb)=>by obtain⟨c2,hc⟩:=zAc hTc e;exact zAU hcs hc (by decide) rfl)
 have HRH:=Lib.hid (show rb≠h from zAU hcs hH.hh (by decide))
 have HHH:=Lib.hid hH
 have HI:=Lib.hid hi
 have HXM:=Lib.hid hxm
 have HLL:=Lib.hid hl
 have HROW:=Lib.hid hH.row
 have HHX:=Lib.hid hH.hh
 have H5:=Lib.hid h5
 have HWF:=Lib.hid hw2
 have HU:=Lib.hid U
 have HI4:=Lib.hid I4
 have HIM:=Lib.hid IM
 clear U hH hi h5 hxm hx hTc hcs hw2 I4 IM
 go_enter Tryz.func69,Tryz.ntmps69
 go_wp2_with fail
 refine(HI4.out _ (zAF _ _ _)).mono ?_
 rintro e w1 ⟨rfl,hb⟩
 have Ha1:=hkh hb (zAf _ _ _)
 have Hb1:=hkh hb (zAW _ _ _)
 have Hh1:=hkh hb (zAp HHX.out _ _)
 have HW1:=hbn (zAF _ _ _) hb
 have hz1:=hb.size
 try simp at hz1
 clear hb
 have hya:w.heap.size<w1.heap.size:=hsz Ha1
 obtain⟨a0,a1,a2,a3,a4⟩:=cells5 Ha1.out
 have hyb:w.heap.size+1<w1.heap.size:=hsz Hb1
 obtain⟨b0,b1,b2,b3,b4⟩:=cells5 Hb1.out
 have hyh:h<w1.heap.size:=hsz Hh1
 obtain⟨h0,h1,h2⟩:=zBN Hh1.out
 go_wp2_with fail
 refine(HIM.out _ HW1.out).mono ?_
 rintro e w2 ⟨rfl,hb⟩
 have Ha2:=hkh hb Ha1.out
 have Hb2:=hkh hb Hb1.out
 have Hh2:=hkh hb Hh1.out
 have HW2:=hbn HW1.out hb
 have hz2:=hb.size
 try simp at hz2
 clear hb
 clear hya a0 a1 a2 a3 a4 hyb b0 b1 b2 b3 b4 hyh h0 h1 h2
 have hya:w.heap.size<w2.heap.size:=hsz Ha2
 obtain⟨a0,a1,a2,a3,a4⟩:=cells5 Ha2.out
 have hyb:w.heap.size+1<w2.heap.size:=hsz Hb2
 obtain⟨b0,b1,b2,b3,b4⟩:=cells5 Hb2.out
 have hyh:h<w2.heap.size:=hsz Hh2
 obtain⟨h0,h1,h2⟩:=zBN Hh2.out
 have HTH:=Lib.hid (fun W (hW:W.heap=w2.heap)=>zCG (zAZ (w3:=W) (zAQ (zAa HW2.out (Nat.le_refl _)) HROW.out) (fun g _=>by rw[hW])) (i*11+4) 5 (by omega))
 go_wp2
 refine zAK mixed (by kernel_rfl) ?_
 go_wp2_with (refine wpList_store_mid rfl 25 _ _ rfl rb (i*11+4) _ rfl rfl (HTH.out _ rfl) info25 (by simp[Value.oneCell']) ?_)
 refine⟨by kernel_rfl,?_⟩
 obtain⟨W5,hW5⟩:∃W5,W5=w2.drew.setCells rb (i*11+4) [.int .i64 k2,.int .i64 p2,.int .i64 q2,.string s2,.int .i64 r2]:=⟨_,rfl⟩
 rw[←hW5]
 have hW6:W5=setCells w2.drew rb (i*11+4) (zBF ⟨k2,p2,q2,s2,r2⟩):=hW5.trans (zBJ (zBF ⟨k2,p2,q2,s2,r2⟩) w2.drew (i*11+4))
 have hM5:Mods (fun b=>(Value.slice (some ⟨rb,0,none⟩) H.length cap).ownBlock=some b) w2 W5:=by rw[hW6];exact zBd (F:=fun b=>(Value.slice (some ⟨rb,0,none⟩) H.length cap).ownBlock=some b) (.inl rfl) _ _ _ (Mods.of_below (Below.refl _ _).drew)
 have hr5:W5.ownsRow 0 97 11 (.slice (some ⟨rb,0,none⟩) H.length cap) H.length (setAt (rowRO H) (i*11+4) (zBF ⟨k2,p2,q2,s2,r2⟩)):=by rw[hW6];exact zBI _ _ _ _ (zAQ (zAa HW2.out.drew (Nat.le_refl _)) HROW.out)
 have HM5:=Lib.hid hM5
 have HH5:=Lib.hid ((HHH.out.below HW2.out).setMt (v:=⟨k2,p2,q2,s2,r2⟩) HI.out H5.out HWF.out hr5 hM5)
 have Ha5:=Lib.hid (show W5.heap[w.heap.size]? =some (oV k1 p1 q1 s1 (((i:Nat):Int)+1)) from zAj hM5 Ha2.out (fun e=>by have e2:some rb=some w.heap.size:=e;injection e2 with e2;omega))
 clear hW5 hW6 hM5 hr5 h0 h1 h2 a0 a1 a2 a3 a4 b0 b1 b2 b3 b4
 have hya:w.heap.size<W5.heap.size:=hsz Ha5
 obtain⟨a0,a1,a2,a3,a4⟩:=cells5 Ha5.out
 go_wp2_with fail
 refine(HU.out _ _ HH5.out (by rw[List.length_set];exact hil) (by rw[List.length_set];exact HLL.out)).mono ?_
 rintro e w6 ⟨rfl,hH6,hM6⟩
 have HH6:=Lib.hid hH6
 have HM6:=Lib.hid hM6
 clear hH6 hM6
 go_wp2
 go_ret
 exact⟨⟨_,rfl⟩,HH6.out,((Mods.of_below HW2.out).trans (HM5.out.mono (fun k _ e=> .inr (.inl e)))).trans (HM6.out.mono (fun k _ e=> .inr (.inr (.inl e))))⟩
theorem sSetMeta_nil4 (w:World) (h:Nat) (uv:Value) (rb cap:Nat) (H:List RO) (hH:RHpAt w h (.slice (some ⟨rb,0,none⟩) H.length cap) uv H) (hl:H.length≤1000) (k1 p1 q1:Int) (s1:ByteArray) (i:Nat) (x:RO) (hi:H[i]? =some x) (h5:x.kind≠5) (k2 p2 q2:Int) (s2:ByteArray) (r2:Int) (hw2:WfV ⟨k2,p2,q2,s2,r2⟩) (I4:∀W,Below w.heap.size w W→Calls Tryz.prog 113 #[.pointer (some ⟨h,0,none⟩),.agg #[k1,p1,q1,s1,.int .i64 (((i:Nat):Int)+1)],.int .i64 4] W (BoolPost W true)) (hne:∀W:World,(binOp .neq 25 (.agg #[k2,p2,q2,s2,r2]) (.agg #[.int .i64 0,.int .i64 0,.int .i64 0,.string ⟨#[]⟩,.int .i64 0])).run Tryz.prog W= .ok (.bool false) W)
  (U:∀W H',RHpAt W h (.slice (some ⟨rb,0,none⟩) H.length cap) uv H'→i<H'.length→H'.length≤1000→Calls Tryz.prog 114 #[.pointer (some ⟨h,0,none⟩),.agg #[k1,p1,q1,s1,.int .i64 (((i:Nat):Int)+1)],.int .i64 0] W (RTouchPost W h (.slice (some ⟨rb,0,none⟩) H.length cap) uv H')):
  Calls Tryz.prog 69 #[.pointer (some ⟨h,0,none⟩),.agg #[k1,p1,q1,s1,.int .i64 (((i:Nat):Int)+1)],.agg #[k2,p2,q2,s2,r2]] w (SMetaPost w h (.slice (some ⟨rb,0,none⟩) H.length cap) uv H i x ⟨k2,p2,q2,s2,r2⟩):=by
 have hil:i<H.length:=(List.getElem?_eq_some_iff.1 hi).1
 have hxm:=List.mem_of_getElem? hi
 have hx:=hH.one x hxm
 obtain⟨bs,hTc⟩:=hH.tch
 obtain⟨cs,hcs⟩:=zAc hH.row (b:=rb) rfl
 have hrlt:rb<w.heap.size:=(Array.getElem?_eq_some_iff.1 hcs).1
 have hhlt:h<w.heap.size:=(Array.getElem?_eq_some_iff.1 hH.hh).1
 have HUV:=Lib.hid (fun b (hb:uv.ownBlock=some b)=>(zAS hTc hb).2)
 have HUH:=Lib.hid (fun(e:uv.ownBlock=some h)=>by obtain⟨c2,hc⟩:=zAc hTc e;exact zAU hH.hh hc (by decide) rfl)
 have HUR:=Lib.hid (fun(e:uv.ownBlock=some rb)=>by obtain⟨c2,hc⟩:=zAc hTc e;exact zAU hcs hc (by decide) rfl)
 have HRH:=Lib.hid (show rb≠h from zAU hcs hH.hh (by decide))
 have HHH:=Lib.hid hH
 have HI:=Lib.hid hi
 have HXM:=Lib.hid hxm
 have HLL:=Lib.hid hl
 have HROW:=Lib.hid hH.row
 have HHX:=Lib.hid hH.hh
 have H5:=Lib.hid h5
 have HWF:=Lib.hid hw2
 have HU:=Lib.hid U
 have HI4:=Lib.hid I4
 clear U hH hi h5 hxm hx hTc hcs hw2 I4
 go_enter Tryz.func69,Tryz.ntmps69
 go_wp2_with fail
 refine(HI4.out _ (zAF _ _ _)).mono ?_
 rintro e w1 ⟨rfl,hb⟩
 have Ha1:=hkh hb (zAf _ _ _)
 have Hb1:=hkh hb (zAW _ _ _)
 have Hh1:=hkh hb (zAp HHX.out _ _)
 have HW1:=hbn (zAF _ _ _) hb
 have hz1:=hb.size
 try simp at hz1
 clear hb
 have hya:w.heap.size<w1.heap.size:=hsz Ha1
 obtain⟨a0,a1,a2,a3,a4⟩:=cells5 Ha1.out
 have hyb:w.heap.size+1<w1.heap.size:=hsz Hb1
 obtain⟨b0,b1,b2,b3,b4⟩:=cells5 Hb1.out
 have hyh:h<w1.heap.size:=hsz Hh1
 obtain⟨h0,h1,h2⟩:=zBN Hh1.out
 have HTH:=Lib.hid (fun W (hW:W.heap=w1.heap)=>zCG (zAZ (w3:=W) (zAQ (zAa HW1.out (Nat.le_refl _)) HROW.out) (fun g _=>by rw[hW])) (i*11+4) 5 (by omega))
 go_wp2
 refine zAK mixed (by kernel_rfl) ?_
 go_wp2_with (refine wpList_store_mid rfl 25 _ _ rfl rb (i*11+4) _ rfl rfl (HTH.out _ rfl) info25 (by simp[Value.oneCell']) ?_)
 refine⟨by kernel_rfl,?_⟩
 obtain⟨W5,hW5⟩:∃W5,W5=w1.drew.setCells rb (i*11+4) [.int .i64 k2,.int .i64 p2,.int .i64 q2,.string s2,.int .i64 r2]:=⟨_,rfl⟩
 rw[←hW5]
 have hW6:W5=setCells w1.drew rb (i*11+4) (zBF ⟨k2,p2,q2,s2,r2⟩):=hW5.trans (zBJ (zBF ⟨k2,p2,q2,s2,r2⟩) w1.drew (i*11+4))
 have hM5:Mods (fun b=>(Value.slice (some ⟨rb,0,none⟩) H.length cap).ownBlock=some b) w1 W5:=by rw[hW6];exact zBd (F:=fun b=>(Value.slice (some ⟨rb,0,none⟩) H.length cap).ownBlock=some b) (.inl rfl) _ _ _ (Mods.of_below (Below.refl _ _).drew)
 have hr5:W5.ownsRow 0 97 11 (.slice (some ⟨rb,0,none⟩) H.length cap) H.length (setAt (rowRO H) (i*11+4) (zBF ⟨k2,p2,q2,s2,r2⟩)):=by rw[hW6];exact zBI _ _ _ _ (zAQ (zAa HW1.out.drew (Nat.le_refl _)) HROW.out)
 have HM5:=Lib.hid hM5
 have HH5:=Lib.hid ((HHH.out.below HW1.out).setMt (v:=⟨k2,p2,q2,s2,r2⟩) HI.out H5.out HWF.out hr5 hM5)
 have Ha5:=Lib.hid (show W5.heap[w.heap.size]? =some (oV k1 p1 q1 s1 (((i:Nat):Int)+1)) from zAj hM5 Ha1.out (fun e=>by have e2:some rb=some w.heap.size:=e;injection e2 with e2;omega))
 clear hW5 hW6 hM5 hr5 h0 h1 h2 a0 a1 a2 a3 a4 b0 b1 b2 b3 b4
 have hya:w.heap.size<W5.heap.size:=hsz Ha5
 obtain⟨a0,a1,a2,a3,a4⟩:=cells5 Ha5.out
 go_wp2_with fail
 refine(HU.out _ _ HH5.out (by rw[List.length_set];exact hil) (by rw[List.length_set];exact HLL.out)).mono ?_
 rintro e w6 ⟨rfl,hH6,hM6⟩
 have HH6:=Lib.hid hH6
 have HM6:=Lib.hid hM6
 clear hH6 hM6
 go_wp2
 go_ret
 exact⟨⟨_,rfl⟩,HH6.out,((Mods.of_below HW1.out).trans (HM5.out.mono (fun k _ e=> .inr (.inl e)))).trans (HM6.out.mono (fun k _ e=> .inr (.inr (.inl e))))⟩
theorem sSetMeta_tab8 (w:World) (h:Nat) (uv:Value) (rb cap:Nat) (H:List RO) (hH:RHpAt w h (.slice (some ⟨rb,0,none⟩) H.length cap) uv H) (hl:H.length≤1000) (k1 p1 q1:Int) (s1:ByteArray) (i:Nat) (x:RO) (hi:H[i]? =some x) (h5:x.kind≠5) (k2 p2 q2:Int) (s2:ByteArray) (r2:Int) (hw2:WfV ⟨k2,p2,q2,s2,r2⟩) (I4:∀W,Below w.heap.size w W→Calls Tryz.prog 113 #[.pointer (some ⟨h,0,none⟩),.agg #[k1,p1,q1,s1,.int .i64 (((i:Nat):Int)+1)],.int .i64 4] W (BoolPost W false)) (I8:∀W,Below w.heap.size w W→Calls Tryz.prog 113 #[.pointer (some ⟨h,0,none⟩),.agg #[k1,p1,q1,s1,.int .i64 (((i:Nat):Int)+1)],.int .i64 8] W (BoolPost W true)) (hne:∀W:World,(binOp .neq 25 (.agg #[k2,p2,q2,s2,r2]) (.agg #[.int .i64 0,.int .i64 0,.int .i64 0,.string ⟨#[]⟩,.int .i64 0])).run Tryz.prog W= .ok (.bool true) W) (IM:∀W,Below w.heap.size w W→Calls Tryz.prog 113 #[.pointer (some ⟨h,0,none⟩),.agg #[k2,p2,q2,s2,r2],.int .i64 4] W (BoolPost W true))
  (U:∀W H',RHpAt W h (.slice (some ⟨rb,0,none⟩) H.length cap) uv H'→i<H'.length→H'.length≤1000→Calls Tryz.prog 114 #[.pointer (some ⟨h,0,none⟩),.agg #[k1,p1,q1,s1,.int .i64 (((i:Nat):Int)+1)],.int .i64 0] W (RTouchPost W h (.slice (some ⟨rb,0,none⟩) H.length cap) uv H')):
  Calls Tryz.prog 69 #[.pointer (some ⟨h,0,none⟩),.agg #[k1,p1,q1,s1,.int .i64 (((i:Nat):Int)+1)],.agg #[k2,p2,q2,s2,r2]] w (SMetaPost w h (.slice (some ⟨rb,0,none⟩) H.length cap) uv H i x ⟨k2,p2,q2,s2,r2⟩):=by
 have hil:i<H.length:=(List.getElem?_eq_some_iff.1 hi).1
 have hxm:=List.mem_of_getElem? hi
 have hx:=hH.one x hxm
 obtain⟨bs,hTc⟩:=hH.tch
 obtain⟨cs,hcs⟩:=zAc hH.row (b:=rb) rfl
 have hrlt:rb<w.heap.size:=(Array.getElem?_eq_some_iff.1 hcs).1
 have hhlt:h<w.heap.size:=(Array.getElem?_eq_some_iff.1 hH.hh).1
 have HUV:=Lib.hid (fun b (hb:uv.ownBlock=some b)=>(zAS hTc hb).2)
 have HUH:=Lib.hid (fun(e:uv.ownBlock=some h)=>by obtain⟨c2,hc⟩:=zAc hTc e;exact zAU hH.hh hc (by decide) rfl)
 have HUR:=Lib.hid (fun(e:uv.ownBlock=some rb)=>by obtain⟨c2,hc⟩:=zAc hTc e;exact zAU hcs hc (by decide) rfl)
 have HRH:=Lib.hid (show rb≠h from zAU hcs hH.hh (by decide))
 have HHH:=Lib.hid hH
 have HI:=Lib.hid hi
 have HXM:=Lib.hid hxm
 have HLL:=Lib.hid hl
 have HROW:=Lib.hid hH.row
 have HHX:=Lib.hid hH.hh
 have H5:=Lib.hid h5
 have HWF:=Lib.hid hw2
 have HU:=Lib.hid U
 have HI4:=Lib.hid I4
 have HI8:=Lib.hid I8
 have HIM:=Lib.hid IM
 clear U hH hi h5 hxm hx hTc hcs hw2 I4 I8 IM
 go_enter Tryz.func69,Tryz.ntmps69
 go_wp2_with fail
 refine(HI4.out _ (zAF _ _ _)).mono ?_
 rintro e w1 ⟨rfl,hb⟩
 have Ha1:=hkh hb (zAf _ _ _)
 have Hb1:=hkh hb (zAW _ _ _)
 have Hh1:=hkh hb (zAp HHX.out _ _)
 have HW1:=hbn (zAF _ _ _) hb
 have hz1:=hb.size
 try simp at hz1
 clear hb
 have hya:w.heap.size<w1.heap.size:=hsz Ha1
 obtain⟨a0,a1,a2,a3,a4⟩:=cells5 Ha1.out
 have hyb:w.heap.size+1<w1.heap.size:=hsz Hb1
 obtain⟨b0,b1,b2,b3,b4⟩:=cells5 Hb1.out
 have hyh:h<w1.heap.size:=hsz Hh1
 obtain⟨h0,h1,h2⟩:=zBN Hh1.out
 go_wp2_with fail
 refine(HI8.out _ HW1.out).mono ?_
 rintro e w2 ⟨rfl,hb⟩
 have Ha2:=hkh hb Ha1.out
 have Hb2:=hkh hb Hb1.out
 have Hh2:=hkh hb Hh1.out
 have HW2:=hbn HW1.out hb
 have hz2:=hb.size
 try simp at hz2
 clear hb
 clear hya a0 a1 a2 a3 a4 hyb b0 b1 b2 b3 b4 hyh h0 h1 h2
 have hya:w.heap.size<w2.heap.size:=hsz Ha2
 obtain⟨a0,a1,a2,a3,a4⟩:=cells5 Ha2.out
 have hyb:w.heap.size+1<w2.heap.size:=hsz Hb2
 obtain⟨b0,b1,b2,b3,b4⟩:=cells5 Hb2.out
 have hyh:h<w2.heap.size:=hsz Hh2
 obtain⟨h0,h1,h2⟩:=zBN Hh2.out
 go_wp2_with fail
 refine(HIM.out _ HW2.out).mono ?_
 rintro e w3 ⟨rfl,hb⟩
 have Ha3:=hkh hb Ha2.out
 have Hb3:=hkh hb Hb2.out
 have Hh3:=hkh hb Hh2.out
 have HW3:=hbn HW2.out hb
 have hz3:=hb.size
 try simp at hz3
 clear hb
 clear hya a0 a1 a2 a3 a4 hyb b0 b1 b2 b3 b4 hyh h0 h1 h2
 have hya:w.heap.size<w3.heap.size:=hsz Ha3
 obtain⟨a0,a1,a2,a3,a4⟩:=cells5 Ha3.out
 have hyb:w.heap.size+1<w3.heap.size:=hsz Hb3
 obtain⟨b0,b1,b2,b3,b4⟩:=cells5 Hb3.out
 have hyh:h<w3.heap.size:=hsz Hh3
 obtain⟨h0,h1,h2⟩:=zBN Hh3.out
 have HTH:=Lib.hid (fun W (hW:W.heap=w3.heap)=>zCG (zAZ (w3:=W) (zAQ (zAa HW3.out (Nat.le_refl _)) HROW.out) (fun g _=>by rw[hW])) (i*11+4) 5 (by omega))
 go_wp2
 refine zAK mixed (by kernel_rfl) ?_
 go_wp2_with (refine wpList_store_mid rfl 25 _ _ rfl rb (i*11+4) _ rfl rfl (HTH.out _ rfl) info25 (by simp[Value.oneCell']) ?_)
 refine⟨by kernel_rfl,?_⟩
 obtain⟨W5,hW5⟩:∃W5,W5=w3.drew.setCells rb (i*11+4) [.int .i64 k2,.int .i64 p2,.int .i64 q2,.string s2,.int .i64 r2]:=⟨_,rfl⟩
 rw[←hW5]
 have hW6:W5=setCells w3.drew rb (i*11+4) (zBF ⟨k2,p2,q2,s2,r2⟩):=hW5.trans (zBJ (zBF ⟨k2,p2,q2,s2,r2⟩) w3.drew (i*11+4))
 have hM5:Mods (fun b=>(Value.slice (some ⟨rb,0,none⟩) H.length cap).ownBlock=some b) w3 W5:=by rw[hW6];exact zBd (F:=fun b=>(Value.slice (some ⟨rb,0,none⟩) H.length cap).ownBlock=some b) (.inl rfl) _ _ _ (Mods.of_below (Below.refl _ _).drew)
 have hr5:W5.ownsRow 0 97 11 (.slice (some ⟨rb,0,none⟩) H.length cap) H.length (setAt (rowRO H) (i*11+4) (zBF ⟨k2,p2,q2,s2,r2⟩)):=by rw[hW6];exact zBI _ _ _ _ (zAQ (zAa HW3.out.drew (Nat.le_refl _)) HROW.out)
 have HM5:=Lib.hid hM5
 have HH5:=Lib.hid ((HHH.out.below HW3.out).setMt (v:=⟨k2,p2,q2,s2,r2⟩) HI.out H5.out HWF.out hr5 hM5)
 have Ha5:=Lib.hid (show W5.heap[w.heap.size]? =some (oV k1 p1 q1 s1 (((i:Nat):Int)+1)) from zAj hM5 Ha3.out (fun e=>by have e2:some rb=some w.heap.size:=e;injection e2 with e2;omega))
 clear hW5 hW6 hM5 hr5 h0 h1 h2 a0 a1 a2 a3 a4 b0 b1 b2 b3 b4
 have hya:w.heap.size<W5.heap.size:=hsz Ha5
 obtain⟨a0,a1,a2,a3,a4⟩:=cells5 Ha5.out
 go_wp2_with fail
 refine(HU.out _ _ HH5.out (by rw[List.length_set];exact hil) (by rw[List.length_set];exact HLL.out)).mono ?_
 rintro e w6 ⟨rfl,hH6,hM6⟩
 have HH6:=Lib.hid hH6
 have HM6:=Lib.hid hM6
 clear hH6 hM6
 go_wp2
 go_ret
 exact⟨⟨_,rfl⟩,HH6.out,((Mods.of_below HW3.out).trans (HM5.out.mono (fun k _ e=> .inr (.inl e)))).trans (HM6.out.mono (fun k _ e=> .inr (.inr (.inl e))))⟩
theorem sSetMeta_nil8 (w:World) (h:Nat) (uv:Value) (rb cap:Nat) (H:List RO) (hH:RHpAt w h (.slice (some ⟨rb,0,none⟩) H.length cap) uv H) (hl:H.length≤1000) (k1 p1 q1:Int) (s1:ByteArray) (i:Nat) (x:RO) (hi:H[i]? =some x) (h5:x.kind≠5) (k2 p2 q2:Int) (s2:ByteArray) (r2:Int) (hw2:WfV ⟨k2,p2,q2,s2,r2⟩) (I4:∀W,Below w.heap.size w W→Calls Tryz.prog 113 #[.pointer (some ⟨h,0,none⟩),.agg #[k1,p1,q1,s1,.int .i64 (((i:Nat):Int)+1)],.int .i64 4] W (BoolPost W false)) (I8:∀W,Below w.heap.size w W→Calls Tryz.prog 113 #[.pointer (some ⟨h,0,none⟩),.agg #[k1,p1,q1,s1,.int .i64 (((i:Nat):Int)+1)],.int .i64 8] W (BoolPost W true)) (hne:∀W:World,(binOp .neq 25 (.agg #[k2,p2,q2,s2,r2]) (.agg #[.int .i64 0,.int .i64 0,.int .i64 0,.string ⟨#[]⟩,.int .i64 0])).run Tryz.prog W= .ok (.bool false) W)
  (U:∀W H',RHpAt W h (.slice (some ⟨rb,0,none⟩) H.length cap) uv H'→i<H'.length→H'.length≤1000→Calls Tryz.prog 114 #[.pointer (some ⟨h,0,none⟩),.agg #[k1,p1,q1,s1,.int .i64 (((i:Nat):Int)+1)],.int .i64 0] W (RTouchPost W h (.slice (some ⟨rb,0,none⟩) H.length cap) uv H')):
  Calls Tryz.prog 69 #[.pointer (some ⟨h,0,none⟩),.agg #[k1,p1,q1,s1,.int .i64 (((i:Nat):Int)+1)],.agg #[k2,p2,q2,s2,r2]] w (SMetaPost w h (.slice (some ⟨rb,0,none⟩) H.length cap) uv H i x ⟨k2,p2,q2,s2,r2⟩):=by
 have hil:i<H.length:=(List.getElem?_eq_some_iff.1 hi).1
 have hxm:=List.mem_of_getElem? hi
 have hx:=hH.one x hxm
 obtain⟨bs,hTc⟩:=hH.tch
 obtain⟨cs,hcs⟩:=zAc hH.row (b:=rb) rfl
 have hrlt:rb<w.heap.size:=(Array.getElem?_eq_some_iff.1 hcs).1
 have hhlt:h<w.heap.size:=(Array.getElem?_eq_some_iff.1 hH.hh).1
 have HUV:=Lib.hid (fun b (hb:uv.ownBlock=some b)=>(zAS hTc hb).2)
 have HUH:=Lib.hid (fun(e:uv.ownBlock=some h)=>by obtain⟨c2,hc⟩:=zAc hTc e;exact zAU hH.hh hc (by decide) rfl)
 have HUR:=Lib.hid (fun(e:uv.ownBlock=some rb)=>by obtain⟨c2,hc⟩:=zAc hTc e;exact zAU hcs hc (by decide) rfl)
 have HRH:=Lib.hid (show rb≠h from zAU hcs hH.hh (by decide))
 have HHH:=Lib.hid hH
 have HI:=Lib.hid hi
 have HXM:=Lib.hid hxm
 have HLL:=Lib.hid hl
 have HROW:=Lib.hid hH.row
 have HHX:=Lib.hid hH.hh
 have H5:=Lib.hid h5
 have HWF:=Lib.hid hw2
 have HU:=Lib.hid U
 have HI4:=Lib.hid I4
 have HI8:=Lib.hid I8
 clear U hH hi h5 hxm hx hTc hcs hw2 I4 I8
 go_enter Tryz.func69,Tryz.ntmps69
 go_wp2_with fail
 refine(HI4.out _ (zAF _ _ _)).mono ?_
 rintro e w1 ⟨rfl,hb⟩
 have Ha1:=hkh hb (zAf _ _ _)
 have Hb1:=hkh hb (zAW _ _ _)
 have Hh1:=hkh hb (zAp HHX.out _ _)
 have HW1:=hbn (zAF _ _ _) hb
 have hz1:=hb.size
 try simp at hz1
 clear hb
 have hya:w.heap.size<w1.heap.size:=hsz Ha1
 obtain⟨a0,a1,a2,a3,a4⟩:=cells5 Ha1.out
 have hyb:w.heap.size+1<w1.heap.size:=hsz Hb1
 obtain⟨b0,b1,b2,b3,b4⟩:=cells5 Hb1.out
 have hyh:h<w1.heap.size:=hsz Hh1
 obtain⟨h0,h1,h2⟩:=zBN Hh1.out
 go_wp2_with fail
 refine(HI8.out _ HW1.out).mono ?_
 rintro e w2 ⟨rfl,hb⟩
 have Ha2:=hkh hb Ha1.out
 have Hb2:=hkh hb Hb1.out
 have Hh2:=hkh hb Hh1.out
 have HW2:=hbn HW1.out hb
 have hz2:=hb.size
 try simp at hz2
 clear hb
 clear hya a0 a1 a2 a3 a4 hyb b0 b1 b2 b3 b4 hyh h0 h1 h2
 have hya:w.heap.size<w2.heap.size:=hsz Ha2
 obtain⟨a0,a1,a2,a3,a4⟩:=cells5 Ha2.out
 have hyb:w.heap.size+1<w2.heap.size:=hsz Hb2
 obtain⟨b0,b1,b2,b3,b4⟩:=cells5 Hb2.out
 have hyh:h<w2.heap.size:=hsz Hh2
 obtain⟨h0,h1,h2⟩:=zBN Hh2.out
 have HTH:=Lib.hid (fun W (hW:W.heap=w2.heap)=>zCG (zAZ (w3:=W) (zAQ (zAa HW2.out (Nat.le_refl _)) HROW.out) (fun g _=>by rw[hW])) (i*11+4) 5 (by omega))
 go_wp2
 refine zAK mixed (by kernel_rfl) ?_
 go_wp2_with (refine wpList_store_mid rfl 25 _ _ rfl rb (i*11+4) _ rfl rfl (HTH.out _ rfl) info25 (by simp[Value.oneCell']) ?_)
 refine⟨by kernel_rfl,?_⟩
 obtain⟨W5,hW5⟩:∃W5,W5=w2.drew.setCells rb (i*11+4) [.int .i64 k2,.int .i64 p2,.int .i64 q2,.string s2,.int .i64 r2]:=⟨_,rfl⟩
 rw[←hW5]
 have hW6:W5=setCells w2.drew rb (i*11+4) (zBF ⟨k2,p2,q2,s2,r2⟩):=hW5.trans (zBJ (zBF ⟨k2,p2,q2,s2,r2⟩) w2.drew (i*11+4))
 have hM5:Mods (fun b=>(Value.slice (some ⟨rb,0,none⟩) H.length cap).ownBlock=some b) w2 W5:=by rw[hW6];exact zBd (F:=fun b=>(Value.slice (some ⟨rb,0,none⟩) H.length cap).ownBlock=some b) (.inl rfl) _ _ _ (Mods.of_below (Below.refl _ _).drew)
 have hr5:W5.ownsRow 0 97 11 (.slice (some ⟨rb,0,none⟩) H.length cap) H.length (setAt (rowRO H) (i*11+4) (zBF ⟨k2,p2,q2,s2,r2⟩)):=by rw[hW6];exact zBI _ _ _ _ (zAQ (zAa HW2.out.drew (Nat.le_refl _)) HROW.out)
 have HM5:=Lib.hid hM5
 have HH5:=Lib.hid ((HHH.out.below HW2.out).setMt (v:=⟨k2,p2,q2,s2,r2⟩) HI.out H5.out HWF.out hr5 hM5)
 have Ha5:=Lib.hid (show W5.heap[w.heap.size]? =some (oV k1 p1 q1 s1 (((i:Nat):Int)+1)) from zAj hM5 Ha2.out (fun e=>by have e2:some rb=some w.heap.size:=e;injection e2 with e2;omega))
 clear hW5 hW6 hM5 hr5 h0 h1 h2 a0 a1 a2 a3 a4 b0 b1 b2 b3 b4
 have hya:w.heap.size<W5.heap.size:=hsz Ha5
 obtain⟨a0,a1,a2,a3,a4⟩:=cells5 Ha5.out
 go_wp2_with fail
 refine(HU.out _ _ HH5.out (by rw[List.length_set];exact hil) (by rw[List.length_set];exact HLL.out)).mono ?_
 rintro e w6 ⟨rfl,hH6,hM6⟩
 have HH6:=Lib.hid hH6
 have HM6:=Lib.hid hM6
 clear hH6 hM6
 go_wp2
 go_ret
 exact⟨⟨_,rfl⟩,HH6.out,((Mods.of_below HW2.out).trans (HM5.out.mono (fun k _ e=> .inr (.inl e)))).trans (HM6.out.mono (fun k _ e=> .inr (.inr (.inl e))))⟩
theorem sSetMeta_c {base n:Nat} {w:World} {h:Nat} {M:LH} (hP:RHp base n w h M) (hb:base≤w.heap.size) (hl:M.length≤1000) (k1 p1 q1:Int) (s1:ByteArray) (r1:Int) (k2 p2 q2:Int) (s2:ByteArray) (r2:Int) (hw2:WfV ⟨k2,p2,q2,s2,r2⟩):Calls Tryz.prog 69 #[.pointer (some ⟨h,0,none⟩),.agg #[k1,p1,q1,s1,r1],.agg #[k2,p2,q2,s2,r2]] w (fun e w'=>(∃v,e= .returned v)∧RHp base n w' h (zBc M ⟨k1,p1,q1,s1,r1⟩ ⟨k2,p2,q2,s2,r2⟩)∧BM base SB w w'):=by
 obtain⟨av,uv,H,h1,h2,h3,h4⟩:=hP.ex
 subst h2
 have hl1:H.length≤1000:=by unfold rlh at hl;rw[List.length_map] at hl;exact hl
 have I4:=fun W (hb:Below w.heap.size w W)=>sis_c W h av uv H (h1.below hb) hl1 k1 p1 q1 s1 r1 4
 have I8:=fun W (hb:Below w.heap.size w W)=>sis_c W h av uv H (h1.below hb) hl1 k1 p1 q1 s1 r1 8
 have IM:=fun W (hb:Below w.heap.size w W)=>sis_c W h av uv H (h1.below hb) hl1 k2 p2 q2 s2 r2 4
 have N:=fun W=>neq_run W k2 p2 q2 s2 r2 0 0 0 ⟨#[]⟩ 0
 rw[show((zCN H ⟨k2,p2,q2,s2,r2⟩).isSome&&k2==4)=tabH (rlh H) ⟨k2,p2,q2,s2,r2⟩ from rtab_find.symm] at IM
 cases hf:zCN H ⟨k1,p1,q1,s1,r1⟩ with
 |none=>
  rw[hf] at I4 I8
  have hM:zBc (rlh H) ⟨k1,p1,q1,s1,r1⟩ ⟨k2,p2,q2,s2,r2⟩=rlh H:=by unfold zBc;rw[find_rlo,hf];rfl
  exact(sSetMeta_no w h k1 p1 q1 s1 r1 k2 p2 q2 s2 r2 I4 I8).mono (fun e w' hp=>rint_keep hP hM hp)
 |some x=>
  rw[hf] at I4 I8
  obtain⟨i,hi,hk,hri,hxm⟩:=rfind_at hf
  have hri:r1=((i:Nat):Int)+1:=hri
  have hkk:x.kind=k1:=hk
  have hil:i<H.length:=(List.getElem?_eq_some_iff.1 hi).1
  have hx:=h1.one x hxm
  obtain⟨rb,cap,rfl⟩:=zAl h1.row (by omega)
  have U:=fun W H' (hH':RHpAt W h (.slice (some ⟨rb,0,none⟩) H.length cap) uv H') (ha:i<H'.length) (hb':H'.length≤1000)=>sTouch_c W h _ uv H' hH' hb' k1 p1 q1 s1 i ha
  have hSM:zBc (rlh H) ⟨k1,p1,q1,s1,r1⟩ ⟨k2,p2,q2,s2,r2⟩=if (x.kind=4∨x.kind=8)∧(eqV ⟨k2,p2,q2,s2,r2⟩ V.nil=true∨tabH (rlh H) ⟨k2,p2,q2,s2,r2⟩=true) then(rlh H).set (r1.toNat-1) ⟨x.kind,⟨k2,p2,q2,s2,r2⟩,x.lo.L⟩ else rlh H:=by unfold zBc;rw[find_rlo,hf];rfl
  have fin:(x.kind=4∨x.kind=8)→(eqV ⟨k2,p2,q2,s2,r2⟩ V.nil=true∨tabH (rlh H) ⟨k2,p2,q2,s2,r2⟩=true)→∀e w',SMetaPost w h (.slice (some ⟨rb,0,none⟩) H.length cap) uv H i x ⟨k2,p2,q2,s2,r2⟩ e w'→(∃v,e= .returned v)∧RHp base n w' h (zBc (rlh H) ⟨k1,p1,q1,s1,r1⟩ ⟨k2,p2,q2,s2,r2⟩)∧BM base SB w w':=by
   rintro ha hb2 e w' ⟨he,hH',hM'⟩
   refine⟨he,⟨_,uv,_,hH',?_,?_,?_⟩,BM.of_mods hM' (fun b hb3=>⟨h4 b hb3,rf_sb h1 hb3⟩)⟩
   ·rw[hSM,if_pos ⟨ha,hb2⟩]
    unfold rlh
    rw[List.map_set,show r1.toNat-1=i by omega]
    rfl
   ·intro y hy
    rcases rmem_set_at hy with rfl|⟨j,hj,hjy⟩
    ·exact h3 x hxm
    ·exact h3 y (List.mem_of_getElem? hjy)
   ·rintro b (e|e|e|⟨y,hy,hyb⟩)
    ·exact h4 b (.inl e)
    ·exact h4 b (.inr (.inl e))
    ·exact h4 b (.inr (.inr (.inl e)))
    ·rcases rmem_set_at hy with rfl|⟨j,hj,hjy⟩
     ·exact h4 b (.inr (.inr (.inr ⟨x,hxm,hyb⟩)))
     ·exact h4 b (.inr (.inr (.inr ⟨y,List.mem_of_getElem? hjy,hyb⟩)))
  have e5:x.kind=5→(k1==4)=false∧(k1==8)=false:=fun h=>by rw[←hkk,h];exact⟨rfl,rfl⟩
  rcases hx.kd with k4|k5|k8
  rotate_left
  ·rw[show((some x).isSome&&k1==4)=false from(e5 k5).1] at I4
   rw[show((some x).isSome&&k1==8)=false from(e5 k5).2] at I8
   exact(sSetMeta_no w h k1 p1 q1 s1 r1 k2 p2 q2 s2 r2 I4 I8).mono (fun e w' hp=>rint_keep hP (by rw[hSM,if_neg (by omega)]) hp)
  ·rw[show((some x).isSome&&k1==4)=false from by rw[←hkk,k8];rfl] at I4
   rw[show((some x).isSome&&k1==8)=true from by rw[←hkk,k8];rfl] at I8
   cases he:eqV ⟨k2,p2,q2,s2,r2⟩ V.nil with
   |true=>
    have N0:∀W:World,(binOp .neq 25 (.agg #[k2,p2,q2,s2,r2]) (.agg #[.int .i64 0,.int .i64 0,.int .i64 0,.string ⟨#[]⟩,.int .i64 0])).run Tryz.prog W= .ok (.bool false) W:=fun W=>by have:=N W;rw[show eqV ⟨k2,p2,q2,s2,r2⟩ ⟨0,0,0,⟨#[]⟩,0⟩=true from he] at this;exact this
    subst hri
    exact(sSetMeta_nil8 w h uv rb cap H h1 hl1 k1 p1 q1 s1 i x hi (by omega) k2 p2 q2 s2 r2 hw2 I4 I8 N0 U).mono (fin (by omega) (.inl he))
   |false=>
    have N1:∀W:World,(binOp .neq 25 (.agg #[k2,p2,q2,s2,r2]) (.agg #[.int .i64 0,.int .i64 0,.int .i64 0,.string ⟨#[]⟩,.int .i64 0])).run Tryz.prog W= .ok (.bool true) W:=fun W=>by have:=N W;rw[show eqV ⟨k2,p2,q2,s2,r2⟩ ⟨0,0,0,⟨#[]⟩,0⟩=false from he] at this;exact this
    cases ht:tabH (rlh H) ⟨k2,p2,q2,s2,r2⟩ with
    |true=>
     rw[ht] at IM
     subst hri
     exact(sSetMeta_tab8 w h uv rb cap H h1 hl1 k1 p1 q1 s1 i x hi (by omega) k2 p2 q2 s2 r2 hw2 I4 I8 N1 IM U).mono (fin (by omega) (.inr ht))
    |false=>
     rw[ht] at IM
     exact(sSetMeta_bad8 w h k1 p1 q1 s1 r1 k2 p2 q2 s2 r2 I4 I8 N1 IM).mono (fun e w' hp=>rint_keep hP (by rw[hSM,if_neg (by rw[he,ht];simp)]) hp)
  ·rw[show((some x).isSome&&k1==4)=true from by rw[←hkk,k4];rfl] at I4
   cases he:eqV ⟨k2,p2,q2,s2,r2⟩ V.nil with
   |true=>
    have N0:∀W:World,(binOp .neq 25 (.agg #[k2,p2,q2,s2,r2]) (.agg #[.int .i64 0,.int .i64 0,.int .i64 0,.string ⟨#[]⟩,.int .i64 0])).run Tryz.prog W= .ok (.bool false) W:=fun W=>by have:=N W;rw[show eqV ⟨k2,p2,q2,s2,r2⟩ ⟨0,0,0,⟨#[]⟩,0⟩=true from he] at this;exact this
    subst hri
    exact(sSetMeta_nil4 w h uv rb cap H h1 hl1 k1 p1 q1 s1 i x hi (by omega) k2 p2 q2 s2 r2 hw2 I4 N0 U).mono (fin (by omega) (.inl he))
   |false=>
    have N1:∀W:World,(binOp .neq 25 (.agg #[k2,p2,q2,s2,r2]) (.agg #[.int .i64 0,.int .i64 0,.int .i64 0,.string ⟨#[]⟩,.int .i64 0])).run Tryz.prog W= .ok (.bool true) W:=fun W=>by have:=N W;rw[show eqV ⟨k2,p2,q2,s2,r2⟩ ⟨0,0,0,⟨#[]⟩,0⟩=false from he] at this;exact this
    cases ht:tabH (rlh H) ⟨k2,p2,q2,s2,r2⟩ with
    |true=>
     rw[ht] at IM
     subst hri
     exact(sSetMeta_tab4 w h uv rb cap H h1 hl1 k1 p1 q1 s1 i x hi (by omega) k2 p2 q2 s2 r2 hw2 I4 N1 IM U).mono (fin (by omega) (.inr ht))
    |false=>
     rw[ht] at IM
     exact(sSetMeta_bad4 w h k1 p1 q1 s1 r1 k2 p2 q2 s2 r2 I4 N1 IM).mono (fun e w' hp=>rint_keep hP (by rw[hSM,if_neg (by rw[he,ht];simp)]) hp)
theorem sSet_c {base n:Nat} {w:World} {h:Nat} {M:LH} (hP:RHp base n w h M) (hb:base≤w.heap.size) (hl:M.length≤1000) (hn:n<1000) (k1 p1 q1:Int) (s1:ByteArray) (r1:Int) (s:ByteArray) (k2 p2 q2:Int) (s2:ByteArray) (r2:Int):Calls Tryz.prog 71 #[.pointer (some ⟨h,0,none⟩),.agg #[k1,p1,q1,s1,r1],.agg #[.int .i64 3,.int .i64 0,.int .i64 0,s,.int .i64 0],.agg #[k2,p2,q2,s2,r2]] w (fun e w'=>(∃v,e= .returned v)∧RHp base (n+1) w' h (setH M ⟨k1,p1,q1,s1,r1⟩ s ⟨k2,p2,q2,s2,r2⟩)∧BM base SB w w'):=by
 obtain⟨av,uv,H,h1,h2,h3,h4⟩:=hP.ex
 subst h2
 have hl1:H.length≤1000:=by unfold rlh at hl;rw[List.length_map] at hl;exact hl
 have hP1:=hP.up (Nat.le_succ n)
 have T:=fun W (hb:Below w.heap.size w W)=>stable_c W h av uv H (h1.below hb) hl1 k1 p1 q1 s1 r1
 have V:=fun W=>zBj W 3 0 0 s 0
 have E:=fun W=>sElem_c W k2 p2 q2 s2 r2
 have nope:tabE H ⟨k1,p1,q1,s1,r1⟩=8→setH (rlh H) ⟨k1,p1,q1,s1,r1⟩ s ⟨k2,p2,q2,s2,r2⟩=rlh H→Calls Tryz.prog 71 #[.pointer (some ⟨h,0,none⟩),.agg #[k1,p1,q1,s1,r1],.agg #[.int .i64 3,.int .i64 0,.int .i64 0,s,.int .i64 0],.agg #[k2,p2,q2,s2,r2]] w (fun e w'=>(∃v,e= .returned v)∧RHp base (n+1) w' h (setH (rlh H) ⟨k1,p1,q1,s1,r1⟩ s ⟨k2,p2,q2,s2,r2⟩)∧BM base SB w w'):=fun hT hM=>by
  rw[hT] at T
  exact(sSet_none w h k1 p1 q1 s1 r1 s k2 p2 q2 s2 r2 T).mono (fun e w' hp=>rint_keep hP1 hM hp)
 cases hf:zCN H ⟨k1,p1,q1,s1,r1⟩ with
 |none=>exact nope (by unfold tabE;rw[hf];rfl) (by unfold setH;rw[find_rlo,hf];rfl)
 |some x=>
  obtain⟨i,hi,hk,hri,hxm⟩:=rfind_at hf
  have hri:r1=((i:Nat):Int)+1:=hri
  have hkk:x.kind=k1:=hk
  have hil:i<H.length:=(List.getElem?_eq_some_iff.1 hi).1
  have hx:=h1.one x hxm
  have hSM:setH (rlh H) ⟨k1,p1,q1,s1,r1⟩ s ⟨k2,p2,q2,s2,r2⟩=if x.kind=4∧s.size≤4096∧zAi ⟨k2,p2,q2,s2,r2⟩=true then(rlh H).set (r1.toNat-1) ⟨x.kind,x.mt,setM x.lo.L (strV s) ⟨k2,p2,q2,s2,r2⟩⟩ else rlh H:=by unfold setH;rw[find_rlo,hf];rfl
  by_cases k4:x.kind=4
  rotate_left
  ·exact nope (by unfold tabE;rw[hf];show(if ((some x).isSome&&k1==4)=true then(0:Int) else 8)=8;rw[show(k1==4)=false from by rw[←hkk];exact beq_eq_false_iff_ne.2 k4];rfl) (by rw[hSM,if_neg (fun h=>k4 h.1)])
  ·have hT0:tabE H ⟨k1,p1,q1,s1,r1⟩=0:=by unfold tabE;rw[hf];show(if ((some x).isSome&&k1==4)=true then(0:Int) else 8)=0;rw[←hkk,k4];rfl
   rw[hT0] at T
   by_cases hs:s.size≤4096
   rotate_left
   ·rw[show zAi ⟨3,0,0,s,0⟩=false from str_bad hs] at V
    exact(sSet_key w h k1 p1 q1 s1 r1 s k2 p2 q2 s2 r2 T V).mono (fun e w' hp=>rint_keep hP1 (by rw[hSM,if_neg (fun h=>hs h.2.1)]) hp)
   ·rw[show zAi ⟨3,0,0,s,0⟩=true from valid_str hs] at V
    by_cases hv:zAi ⟨k2,p2,q2,s2,r2⟩=true
    rotate_left
    ·exact(sSet_elem w h k1 p1 q1 s1 r1 s k2 p2 q2 s2 r2 _ (by rw[bne_iff_ne];exact elem_bad hv) T V E).mono (fun e w' hp=>rint_keep hP1 (by rw[hSM,if_neg (fun h=>hv h.2.2)]) hp)
    ·rw[elem_valid hv] at E
     obtain⟨rb,cap,rfl⟩:=zAl h1.row (by omega)
     have U:=fun W H' (hH':RHpAt W h (.slice (some ⟨rb,0,none⟩) H.length cap) uv H') (ha:i<H'.length) (hb':H'.length≤1000)=>sTouch_c W h _ uv H' hH' hb' k1 p1 q1 s1 i ha
     have S:=fun W (hb:Below w.heap.size w W)=>sTabSet_c W x.t x.m x.sv x.L ((hx.tb k4).below hb) (by have:=h3 x hxm;omega) s hs k2 p2 q2 s2 r2 hv
     subst hri
     refine(sSet_ok w h uv rb cap H h1 hl1 k1 p1 q1 s1 i x hi k4 _ s k2 p2 q2 s2 r2 T V E S U).mono ?_
     rintro e w' ⟨he,sv',hH',hM',hown⟩
     have hloL:x.lo.L=x.L:=by unfold RO.lo;exact if_pos k4
     refine⟨he,⟨_,uv,_,hH',?_,?_,?_⟩,BM.of_mods hM' (fun b hb3=>⟨h4 b hb3,rf_sb h1 hb3⟩)⟩
     ·rw[hSM,if_pos ⟨k4,hs,hv⟩,hloL]
      unfold rlh
      rw[List.map_set,show(((i:Nat):Int)+1).toNat-1=i by omega]
      unfold RO.lo
      simp only[k4,if_true]
     ·intro y hy
      rcases rmem_set_at hy with rfl|⟨j,hj,hjy⟩
      ·have h5:=setM_len x.L (strV s) ⟨k2,p2,q2,s2,r2⟩
       have h6:=h3 x hxm
       show(setM x.L (strV s) ⟨k2,p2,q2,s2,r2⟩).length≤n+1
       omega
      ·exact Nat.le_succ_of_le (h3 y (List.mem_of_getElem? hjy))
     ·rintro b (e|e|e|⟨y,hy,hyb⟩)
      ·exact h4 b (.inl e)
      ·exact h4 b (.inr (.inl e))
      ·exact h4 b (.inr (.inr (.inl e)))
      ·rcases rmem_set_at hy with rfl|⟨j,hj,hjy⟩
       ·rcases hyb with⟨_,e|e|e⟩
        ·exact h4 b (.inr (.inr (.inr ⟨x,hxm,k4,.inl e⟩)))
        ·exact h4 b (.inr (.inr (.inr ⟨x,hxm,k4,.inr (.inl e)⟩)))
        ·rcases hown b e with e|e
         ·exact h4 b (.inr (.inr (.inr ⟨x,hxm,k4,.inr (.inr e)⟩)))
         ·omega
       ·exact h4 b (.inr (.inr (.inr ⟨y,List.mem_of_getElem? hjy,hyb⟩)))
end Go.Proofs.YthkpckgcgkijbaaGreatDoor
