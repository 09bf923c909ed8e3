import Derived.Test.YthkpckgcgkijbaaGreatDoorHpC
set_option linter.unusedVariables false
set_option linter.unusedSimpArgs false
set_option maxRecDepth 100000
set_option maxHeartbeats 8000000
namespace Go.Proofs.YthkpckgcgkijbaaGreatDoor
open Go.RowKit Go.Proofs.Lexi
theorem sSet_none (w:World) (h:Nat) (k1 p1 q1:Int) (s1:ByteArray) (r1:Int) (s:ByteArray) (k2 p2 q2:Int) (s2:ByteArray) (r2:Int) (T:∀W,Below w.heap.size w W→Calls Tryz.prog 117 #[.pointer (some ⟨h,0,none⟩),.agg #[k1,p1,q1,s1,r1]] W (IntPost W 8)):Calls Tryz.prog 71 #[.pointer (some ⟨h,0,none⟩),.agg #[k1,p1,q1,s1,r1],.agg #[.int .i64 3,.int .i64 0,.int .i64 0,s,.int .i64 0],.agg #[k2,p2,q2,s2,r2]] w (IntPost w 8):=by
 have HT:=Lib.hid T
 clear T
 go_enter Tryz.func71,Tryz.ntmps71
 go_wp2_with fail
 refine(HT.out _ ((zAF _ _ _).alloc (by simp;omega) _)).mono ?_
 rintro e w1 ⟨rfl,hb⟩
 have HW1:=hbn (((zAF _ _ _).alloc (by simp;omega) _)) hb
 have hz1:=hb.size
 try simp at hz1
 clear hb
 go_wp2
 go_ret
 exact zAq rfl HW1.out
theorem sSet_key (w:World) (h:Nat) (k1 p1 q1:Int) (s1:ByteArray) (r1:Int) (s:ByteArray) (k2 p2 q2:Int) (s2:ByteArray) (r2:Int) (T:∀W,Below w.heap.size w W→Calls Tryz.prog 117 #[.pointer (some ⟨h,0,none⟩),.agg #[k1,p1,q1,s1,r1]] W (IntPost W 0)) (V:∀W,Calls Tryz.prog 26 #[.agg #[.int .i64 3,.int .i64 0,.int .i64 0,s,.int .i64 0]] W (BoolPost W false)):Calls Tryz.prog 71 #[.pointer (some ⟨h,0,none⟩),.agg #[k1,p1,q1,s1,r1],.agg #[.int .i64 3,.int .i64 0,.int .i64 0,s,.int .i64 0],.agg #[k2,p2,q2,s2,r2]] w (IntPost w 13):=by
 have HT:=Lib.hid T
 have HV:=Lib.hid V
 clear T V
 go_enter Tryz.func71,Tryz.ntmps71
 go_wp2_with fail
 refine(HT.out _ ((zAF _ _ _).alloc (by simp;omega) _)).mono ?_
 rintro e w1 ⟨rfl,hb⟩
 have Hb1:=hkh hb (zAY _ _ _ _)
 have HW1:=hbn (((zAF _ _ _).alloc (by simp;omega) _)) hb
 have hz1:=hb.size
 try simp at hz1
 clear hb
 have hyb:w.heap.size+1<w1.heap.size:=hsz Hb1
 obtain⟨b0,b1,b2,b3,b4⟩:=cells5 Hb1.out
 go_wp2_with fail
 refine(HV.out _).mono ?_
 rintro e w2 ⟨rfl,hb⟩
 have Hb2:=hkh hb Hb1.out
 have HW2:=hbn HW1.out hb
 have hz2:=hb.size
 try simp at hz2
 clear hb
 clear hyb b0 b1 b2 b3 b4
 have hyb:w.heap.size+1<w2.heap.size:=hsz Hb2
 obtain⟨b0,b1,b2,b3,b4⟩:=cells5 Hb2.out
 go_wp2
 go_ret
 exact zAq rfl HW2.out
theorem sSet_elem (w:World) (h:Nat) (k1 p1 q1:Int) (s1:ByteArray) (r1:Int) (s:ByteArray) (k2 p2 q2:Int) (s2:ByteArray) (r2:Int) (c:Int) (hc:(c !=0)=true) (T:∀W,Below w.heap.size w W→Calls Tryz.prog 117 #[.pointer (some ⟨h,0,none⟩),.agg #[k1,p1,q1,s1,r1]] W (IntPost W 0)) (V:∀W,Calls Tryz.prog 26 #[.agg #[.int .i64 3,.int .i64 0,.int .i64 0,s,.int .i64 0]] W (BoolPost W true)) (E:∀W,Calls Tryz.prog 118 #[.agg #[k2,p2,q2,s2,r2]] W (IntPost W c)):Calls Tryz.prog 71 #[.pointer (some ⟨h,0,none⟩),.agg #[k1,p1,q1,s1,r1],.agg #[.int .i64 3,.int .i64 0,.int .i64 0,s,.int .i64 0],.agg #[k2,p2,q2,s2,r2]] w (IntPost w c):=by
 have HT:=Lib.hid T
 have HV:=Lib.hid V
 have HE:=Lib.hid E
 clear T V E
 go_enter Tryz.func71,Tryz.ntmps71
 go_wp2_with fail
 refine(HT.out _ ((zAF _ _ _).alloc (by simp;omega) _)).mono ?_
 rintro e w1 ⟨rfl,hb⟩
 have Hb1:=hkh hb (zAY _ _ _ _)
 have Hc1:=hkh hb (zAX _ _ _ _)
 have HW1:=hbn (((zAF _ _ _).alloc (by simp;omega) _)) hb
 have hz1:=hb.size
 try simp at hz1
 clear hb
 have hyb:w.heap.size+1<w1.heap.size:=hsz Hb1
 obtain⟨b0,b1,b2,b3,b4⟩:=cells5 Hb1.out
 have hyc:w.heap.size+1+1<w1.heap.size:=hsz Hc1
 obtain⟨c0,c1,c2,c3,c4⟩:=cells5 Hc1.out
 go_wp2_with fail
 refine(HV.out _).mono ?_
 rintro e w2 ⟨rfl,hb⟩
 have Hb2:=hkh hb Hb1.out
 have Hc2:=hkh hb Hc1.out
 have HW2:=hbn HW1.out hb
 have hz2:=hb.size
 try simp at hz2
 clear hb
 clear hyb b0 b1 b2 b3 b4 hyc c0 c1 c2 c3 c4
 have hyb:w.heap.size+1<w2.heap.size:=hsz Hb2
 obtain⟨b0,b1,b2,b3,b4⟩:=cells5 Hb2.out
 have hyc:w.heap.size+1+1<w2.heap.size:=hsz Hc2
 obtain⟨c0,c1,c2,c3,c4⟩:=cells5 Hc2.out
 go_wp2_with fail
 refine(HE.out _).mono ?_
 rintro e w3 ⟨rfl,hb⟩
 have Hb3:=hkh hb Hb2.out
 have Hc3:=hkh hb Hc2.out
 have HW3:=hbn HW2.out hb
 have hz3:=hb.size
 try simp at hz3
 clear hb
 clear hyb b0 b1 b2 b3 b4 hyc c0 c1 c2 c3 c4
 have hyb:w.heap.size+1<w3.heap.size:=hsz Hb3
 obtain⟨b0,b1,b2,b3,b4⟩:=cells5 Hb3.out
 have hyc:w.heap.size+1+1<w3.heap.size:=hsz Hc3
 obtain⟨c0,c1,c2,c3,c4⟩:=cells5 Hc3.out
 go_wp2
 go_ret
 exact zAq rfl HW3.out
theorem sSet_ok (w:World) (h:Nat) (uv:Value) (rb cap:Nat) (H:List RO) (hH:RHpAt w h (.slice (some ⟨rb,0,none⟩) H.length cap) uv H) (hl:H.length≤1000) (k1 p1 q1:Int) (s1:ByteArray) (i:Nat) (x:RO) (hi:H[i]? =some x) (h4:x.kind=4) (L':List Sl) (s:ByteArray) (k2 p2 q2:Int) (s2:ByteArray) (r2:Int) (T:∀W,Below w.heap.size w W→Calls Tryz.prog 117 #[.pointer (some ⟨h,0,none⟩),.agg #[k1,p1,q1,s1,.int .i64 (((i:Nat):Int)+1)]] W (IntPost W 0)) (V:∀W,Calls Tryz.prog 26 #[.agg #[.int .i64 3,.int .i64 0,.int .i64 0,s,.int .i64 0]] W (BoolPost W true)) (E:∀W,Calls Tryz.prog 118 #[.agg #[k2,p2,q2,s2,r2]] W (IntPost W 0))
  (S:∀W,Below w.heap.size w W→Calls Tryz.prog 119 #[.pointer (some ⟨x.t,0,none⟩),.agg #[.int .i64 3,.int .i64 0,.int .i64 0,s,.int .i64 0],.agg #[k2,p2,q2,s2,r2]] W (STabPost W x.t x.m x.sv L'))
  (U:∀W H',RHpAt W h (.slice (some ⟨rb,0,none⟩) H.length cap) uv H'→i<H'.length→H'.length≤1000→Calls Tryz.prog 114 #[.pointer (some ⟨h,0,none⟩),.agg #[k1,p1,q1,s1,.int .i64 (((i:Nat):Int)+1)],.int .i64 0] W (RTouchPost W h (.slice (some ⟨rb,0,none⟩) H.length cap) uv H')):
  Calls Tryz.prog 71 #[.pointer (some ⟨h,0,none⟩),.agg #[k1,p1,q1,s1,.int .i64 (((i:Nat):Int)+1)],.agg #[.int .i64 3,.int .i64 0,.int .i64 0,s,.int .i64 0],.agg #[k2,p2,q2,s2,r2]] w (SSetPost w h (.slice (some ⟨rb,0,none⟩) H.length cap) uv H i x L'):=by
 have hil:i<H.length:=(List.getElem?_eq_some_iff.1 hi).1
 have hxm:=List.mem_of_getElem? hi
 have hx:=hH.one x hxm
 obtain⟨bs,hTc⟩:=hH.tch
 obtain⟨cs,hcs⟩:=zAc hH.row (b:=rb) rfl
 have hrlt:rb<w.heap.size:=(Array.getElem?_eq_some_iff.1 hcs).1
 have hhlt:h<w.heap.size:=(Array.getElem?_eq_some_iff.1 hH.hh).1
 have HUV:=Lib.hid (fun b (hb:uv.ownBlock=some b)=>(zAS hTc hb).2)
 have HUH:=Lib.hid (fun(e:uv.ownBlock=some h)=>by obtain⟨c2,hc⟩:=zAc hTc e;exact zAU hH.hh hc (by decide) rfl)
 have HUR:=Lib.hid (fun(e:uv.ownBlock=some rb)=>by obtain⟨c2,hc⟩:=zAc hTc e;exact zAU hcs hc (by decide) rfl)
 have HRH:=Lib.hid (show rb≠h from zAU hcs hH.hh (by decide))
 have HHH:=Lib.hid hH
 have HI:=Lib.hid hi
 have HXM:=Lib.hid hxm
 have HLL:=Lib.hid hl
 have hSM:=(hx.tb h4).om
 have HX:=Lib.hid (fun b (hb:SmF x.m x.sv b)=>show b<w.heap.size by
  rcases hb with rfl|hb
  ·exact(Array.getElem?_eq_some_iff.1 hSM.hm).1
  ·exact(zAS hSM.row hb).2)
 have HNH:=Lib.hid (not_smF hSM hH.hh (by decide) (by decide))
 have HNR:=Lib.hid (not_smF hSM hcs (by decide) (by decide))
 have HC3:=Lib.hid (show cs[i*11+3]? =some (.pointer (some ⟨x.t,0,none⟩)) by
  have h1:=(hH.row.cellAt (i*11+3) (by omega)).trans (rowRO_at H i 3 x hi (by decide))
  rw[zAA hcs] at h1
  rw[h1]
  show some x.tv=_
  unfold RO.tv
  rw[if_pos h4])
 have HHX:=Lib.hid hH.hh
 have HRX:=Lib.hid hcs
 have H4:=Lib.hid h4
 have HT:=Lib.hid T
 have HV:=Lib.hid V
 have HE:=Lib.hid E
 have HS:=Lib.hid S
 have HU:=Lib.hid U
 clear T V E S U hH hi h4 hxm hx hSM hTc hcs
 go_enter Tryz.func71,Tryz.ntmps71
 go_wp2_with fail
 refine(HT.out _ ((zAF _ _ _).alloc (by simp;omega) _)).mono ?_
 rintro e w1 ⟨rfl,hb⟩
 have Ha1:=hkh hb (zAh _ _ _ _)
 have Hb1:=hkh hb (zAY _ _ _ _)
 have Hc1:=hkh hb (zAX _ _ _ _)
 have HW1:=hbn (((zAF _ _ _).alloc (by simp;omega) _)) hb
 have hz1:=hb.size
 try simp at hz1
 clear hb
 have hyb:w.heap.size+1<w1.heap.size:=hsz Hb1
 obtain⟨b0,b1,b2,b3,b4⟩:=cells5 Hb1.out
 have hyc:w.heap.size+1+1<w1.heap.size:=hsz Hc1
 obtain⟨c0,c1,c2,c3,c4⟩:=cells5 Hc1.out
 go_wp2_with fail
 refine(HV.out _).mono ?_
 rintro e w2 ⟨rfl,hb⟩
 have Ha2:=hkh hb Ha1.out
 have Hb2:=hkh hb Hb1.out
 have Hc2:=hkh hb Hc1.out
 have HW2:=hbn HW1.out hb
 have hz2:=hb.size
 try simp at hz2
 clear hb
 clear hyb b0 b1 b2 b3 b4 hyc c0 c1 c2 c3 c4
 have hyc:w.heap.size+1+1<w2.heap.size:=hsz Hc2
 obtain⟨c0,c1,c2,c3,c4⟩:=cells5 Hc2.out
 go_wp2_with fail
 refine(HE.out _).mono ?_
 rintro e w3 ⟨rfl,hb⟩
 have Ha3:=hkh hb Ha2.out
 have Hb3:=hkh hb Hb2.out
 have Hc3:=hkh hb Hc2.out
 have HW3:=hbn HW2.out hb
 have hz3:=hb.size
 try simp at hz3
 clear hb
 clear hyc c0 c1 c2 c3 c4
 have SO:=Lib.hid (fun(W:World) (ha:W.heap[w.heap.size]? =some (oV k1 p1 q1 s1 (((i:Nat):Int)+1))) (hb:W.heap[w.heap.size+1]? =some (oV 3 0 0 s 0)) (hc:W.heap[w.heap.size+1+1]? =some (oV k2 p2 q2 s2 r2)) (hh:W.heap[h]? =some (.cells #[.slice (some ⟨rb,0,none⟩) H.length cap,.int .i64 (H.length:Nat),uv] 93)) (hr:W.heap[rb]? =some (.cells cs 97))=>(show W.cell? ⟨w.heap.size,0,none⟩=some (.int .i64 k1)∧W.cell? ⟨w.heap.size,1,none⟩=some (.int .i64 p1)∧W.cell? ⟨w.heap.size,2,none⟩=some (.int .i64 q1)∧W.cell? ⟨w.heap.size,3,none⟩=some (.string s1)∧W.cell? ⟨w.heap.size,4,none⟩=some (.int .i64 (((i:Nat):Int)+1))∧W.cell? ⟨w.heap.size+1,0,none⟩=some (.int .i64 3)∧W.cell? ⟨w.heap.size+1,1,none⟩=some (.int .i64 0)∧W.cell? ⟨w.heap.size+1,2,none⟩=some (.int .i64 0)∧W.cell? ⟨w.heap.size+1,3,none⟩=some (.string s)∧W.cell? ⟨w.heap.size+1,4,none⟩=some (.int .i64 0)∧W.cell? ⟨w.heap.size+1+1,0,none⟩=some (.int .i64 k2)∧W.cell? ⟨w.heap.size+1+1,1,none⟩=some (.int .i64 p2)∧W.cell? ⟨w.heap.size+1+1,2,none⟩=some (.int .i64 q2)∧W.cell? ⟨w.heap.size+1+1,3,none⟩=some (.string s2)∧W.cell? ⟨w.heap.size+1+1,4,none⟩=some (.int .i64 r2)∧W.cell? ⟨h,0,none⟩=some (.slice (some ⟨rb,0,none⟩) H.length cap)∧W.cell? ⟨rb,i*11+3,none⟩=some (.pointer (some ⟨x.t,0,none⟩)) from⟨by rw[zAA ha];rfl,by rw[zAA ha];rfl,by rw[zAA ha];rfl,by rw[zAA ha];rfl,by rw[zAA ha];rfl,by rw[zAA hb];rfl,by rw[zAA hb];rfl,by rw[zAA hb];rfl,by rw[zAA hb];rfl,by rw[zAA hb];rfl,by rw[zAA hc];rfl,by rw[zAA hc];rfl,by rw[zAA hc];rfl,by rw[zAA hc];rfl,by rw[zAA hc];rfl,by rw[zAA hh];rfl,by rw[zAA hr];exact HC3.out⟩))
 go_wp2
 have xa:w3.drew.heap[w.heap.size]? =some (oV k1 p1 q1 s1 (((i:Nat):Int)+1)):=Ha3.out
 have xb:w3.drew.heap[w.heap.size+1]? =some (oV 3 0 0 s 0):=Hb3.out
 have xc:w3.drew.heap[w.heap.size+1+1]? =some (oV k2 p2 q2 s2 r2):=Hc3.out
 have xh:w3.drew.heap[h]? =some (.cells #[.slice (some ⟨rb,0,none⟩) H.length cap,.int .i64 (H.length:Nat),uv] 93):=hkeep HW3.out.drew HHX.out
 have xr:w3.drew.heap[rb]? =some (.cells cs 97):=hkeep HW3.out.drew HRX.out
 have hw3:w.heap.size≤w3.heap.size:=HW3.out.size
 have hi0:(0:Int)≤((i:Nat):Int):=by omega
 have hi1:((i:Nat):Int)<((H.length:Nat):Int):=by omega
 have hi2:IntKind.i64.wrap (((i:Nat):Int)+1-1)=((i:Nat):Int):=by rw[IntWalk.i64_in _ (by omega)];omega
 have hi3:((i:Nat):Int)+1-1=((i:Nat):Int):=by omega
 have hi4:IntKind.i64.wrap ((i:Nat):Int)=((i:Nat):Int):=IntWalk.i64_in _ (by omega)
 go_region_held3 (fun w'=>w'.cell? ⟨w.heap.size,0,none⟩=some (.int .i64 k1)∧w'.cell? ⟨w.heap.size,1,none⟩=some (.int .i64 p1)∧w'.cell? ⟨w.heap.size,2,none⟩=some (.int .i64 q1)∧w'.cell? ⟨w.heap.size,3,none⟩=some (.string s1)∧w'.cell? ⟨w.heap.size,4,none⟩=some (.int .i64 (((i:Nat):Int)+1))∧w'.cell? ⟨w.heap.size+1,0,none⟩=some (.int .i64 3)∧w'.cell? ⟨w.heap.size+1,1,none⟩=some (.int .i64 0)∧w'.cell? ⟨w.heap.size+1,2,none⟩=some (.int .i64 0)∧w'.cell? ⟨w.heap.size+1,3,none⟩=some (.string s)∧w'.cell? ⟨w.heap.size+1,4,none⟩=some (.int .i64 0)∧w'.cell? ⟨w.heap.size+1+1,0,none⟩=some (.int .i64 k2)∧w'.cell? ⟨w.heap.size+1+1,1,none⟩=some (.int .i64 p2)∧w'.cell? ⟨w.heap.size+1+1,2,none⟩=some (.int .i64 q2)∧w'.cell? ⟨w.heap.size+1+1,3,none⟩=some (.string s2)∧w'.cell? ⟨w.heap.size+1+1,4,none⟩=some (.int .i64 r2)∧w'.cell? ⟨h,0,none⟩=some (.slice (some ⟨rb,0,none⟩) H.length cap)∧w'.cell? ⟨rb,i*11+3,none⟩=some (.pointer (some ⟨x.t,0,none⟩)))
  (first|with_reducible exact SO.out _ (by assumption) (by assumption) (by assumption) (by assumption) (by assumption))
  (first|(go_at_call 119;refine(HS.out _ HW3.out.drew).mono ?_;rintro e w4 ⟨rfl,sv',hT4,hM4,hown4⟩;have xa4:=zAj hM4 xa (fun e=>by have:=HX.out _ e;omega);have xb4:=zAj hM4 xb (fun e=>by have:=HX.out _ e;omega);have xc4:=zAj hM4 xc (fun e=>by have:=HX.out _ e;omega);have xh4:=zAj hM4 xh HNH.out;have xr4:=zAj hM4 xr HNR.out;have HH4:=Lib.hid (((HHH.out.below HW3.out.drew).setTab HI.out H4.out hT4 hM4 hown4));have HM4:=Lib.hid hM4;have HO4:=Lib.hid hown4;clear hT4 hM4 hown4 xa xb xc xh xr)|(go_at_call 114;refine(HU.out _ _ HH4.out (by rw[List.length_set];exact hil) (by rw[List.length_set];exact HLL.out)).mono ?_;rintro e w5 ⟨rfl,hH5,hM5⟩;have xa5:=zAj hM5 xa4 (fun e=>by have:=HUV.out _ e;omega);have xb5:=zAj hM5 xb4 (fun e=>by have:=HUV.out _ e;omega);have xc5:=zAj hM5 xc4 (fun e=>by have:=HUV.out _ e;omega);have xh5:=zAj hM5 xh4 HUH.out;have xr5:=zAj hM5 xr4 HUR.out;have HH5:=Lib.hid hH5;have HM5:=Lib.hid hM5;clear hH5 hM5 xa4 xb4 xc4 xh4 xr4))
 go_wp2
 go_ret
 have hb3:Below w.heap.size w w3.drew:=HW3.out.drew
 refine⟨⟨_,rfl⟩,sv',HH5.out,((Mods.of_below hb3).trans (HM4.out.mono (fun k _ e=> .inr (.inr (.inr ⟨x,HXM.out,H4.out,.inr e⟩))))).trans (HM5.out.mono (fun k _ e=> .inr (.inr (.inl e)))),fun b hb=> ?_⟩
 rcases HO4.out b hb with e|e
 ·exact .inl e
 ·exact .inr (Nat.le_trans hb3.size e)
end Go.Proofs.YthkpckgcgkijbaaGreatDoor
