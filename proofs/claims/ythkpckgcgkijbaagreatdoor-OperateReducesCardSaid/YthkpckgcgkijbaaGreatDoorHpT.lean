import Derived.Test.YthkpckgcgkijbaaGreatDoorPlnA
set_option linter.unusedVariables false
set_option linter.unusedSimpArgs false
set_option maxRecDepth 100000
set_option maxHeartbeats 2000000
namespace Go.Proofs.YthkpckgcgkijbaaGreatDoor
open Go.RowKit Go.Proofs.Lexi
theorem neq_run (W:World) (k p q:Int) (s:ByteArray) (r:Int) (k2 p2 q2:Int) (s2:ByteArray) (r2:Int):
  (binOp .neq 25 (.agg #[k,p,q,s,r]) (.agg #[k2,p2,q2,s2,r2])).run Tryz.prog W= .ok (.bool (!eqV ⟨k,p,q,s,r⟩ ⟨k2,p2,q2,s2,r2⟩)) W:=by
 by_cases h1:k=k2<;>by_cases h2:p=p2<;>by_cases h3:q=q2<;>by_cases h4:s=s2<;>by_cases h5:r=r2<;>simp[go_sem,eqV,h1,h2,h3,h4,h5]
 have h6:¬s.toList=s2.toList:=fun e=>h4 (ByteArray.ext (Array.toList_inj.1 (by rw[←ByteArray.toList_eq,←ByteArray.toList_eq];exact e)))
 have h7:(zAE s==zAE s2)=false:=beq_eq_false_iff_ne.2 (fun e=>h4 (zCE e))
 first
 |(rw[if_neg h6];simp[h7];done)
 |(simp[h6,h7];done)
 |(have h8:¬zAE s=zAE s2:=fun e=>h4 (zCE e);simp[h6,h8])
theorem pSetMeta_none (w:World) (h:Nat) (k1 p1 q1:Int) (s1:ByteArray) (r1:Int) (k2 p2 q2:Int) (s2:ByteArray) (r2:Int) (F:∀W,Below w.heap.size w W→Calls Tryz.prog 87 #[.pointer (some ⟨h,0,none⟩),.agg #[k1,p1,q1,s1,r1]] W (PtrPost W (.pointer none))):Calls Tryz.prog 67 #[.pointer (some ⟨h,0,none⟩),.agg #[k1,p1,q1,s1,r1],.agg #[k2,p2,q2,s2,r2]] w (IntPost w 8):=by
 have HF:=Lib.hid F
 clear F
 go_enter Tryz.func67,Tryz.ntmps67
 go_wp2_with fail
 refine(HF.out _ (zAF _ _ _)).mono ?_
 rintro e w1 ⟨rfl,hb⟩
 have HW1:=hbn (zAF _ _ _) hb
 have hz1:=hb.size
 try simp at hz1
 clear hb
 go_wp2_with fail
 refine(pmissing_c _ _).mono ?_
 rintro e wm ⟨rfl,rfl⟩
 go_wp2
 go_ret
 exact zAq rfl HW1.out
theorem pSetMeta_func (w:World) (h:Nat) (k1 p1 q1:Int) (s1:ByteArray) (r1:Int) (k2 p2 q2:Int) (s2:ByteArray) (r2:Int) (x:PO) (X:w.heap[x.o]? =some (.cells x.cells 104)) (hk:x.kind=5) (F:∀W,Below w.heap.size w W→Calls Tryz.prog 87 #[.pointer (some ⟨h,0,none⟩),.agg #[k1,p1,q1,s1,r1]] W (PtrPost W (.pointer (some ⟨x.o,0,none⟩)))):Calls Tryz.prog 67 #[.pointer (some ⟨h,0,none⟩),.agg #[k1,p1,q1,s1,r1],.agg #[k2,p2,q2,s2,r2]] w (IntPost w 8):=by
 have HX:=Lib.hid X
 have HF:=Lib.hid F
 clear X F
 go_enter Tryz.func67,Tryz.ntmps67
 go_wp2_with fail
 refine(HF.out _ (zAF _ _ _)).mono ?_
 rintro e w1 ⟨rfl,hb⟩
 have Hx1:=hkh hb (zAp HX.out _ _)
 have HW1:=hbn (zAF _ _ _) hb
 have hz1:=hb.size
 try simp at hz1
 clear hb
 have hyx:x.o<w1.heap.size:=hsz Hx1
 obtain⟨x0,x1,x2,x3,x4,x5,x6,x7,x8,x9⟩:=cells10 Hx1.out
 obtain⟨fx0,fx1,fx2,fx3,fx4,fx5,fx6,fx7,fx8,fx9⟩:=froz10 Hx1.out
 rw[hk] at x0
 clear hk
 go_wp2_with fail
 refine(pmissing_c _ _).mono ?_
 rintro e wm ⟨rfl,rfl⟩
 go_wp2
 go_ret
 exact zAq rfl HW1.out
theorem pSetMeta_bad4 (w:World) (h:Nat) (k1 p1 q1:Int) (s1:ByteArray) (r1:Int) (k2 p2 q2:Int) (s2:ByteArray) (r2:Int) (x:PO) (X:w.heap[x.o]? =some (.cells x.cells 104)) (hk:x.kind=4) (hne:∀W:World,(binOp .neq 25 (.agg #[k2,p2,q2,s2,r2]) (.agg #[.int .i64 0,.int .i64 0,.int .i64 0,.string ⟨#[]⟩,.int .i64 0])).run Tryz.prog W= .ok (.bool true) W) (F:∀W,Below w.heap.size w W→Calls Tryz.prog 87 #[.pointer (some ⟨h,0,none⟩),.agg #[k1,p1,q1,s1,r1]] W (PtrPost W (.pointer (some ⟨x.o,0,none⟩)))) (T:∀W,Below w.heap.size w W→Calls Tryz.prog 84 #[.pointer (some ⟨h,0,none⟩),.agg #[k2,p2,q2,s2,r2]] W (PtrPost W (.pointer none))):Calls Tryz.prog 67 #[.pointer (some ⟨h,0,none⟩),.agg #[k1,p1,q1,s1,r1],.agg #[k2,p2,q2,s2,r2]] w (IntPost w 8):=by
 have HX:=Lib.hid X
 have HF:=Lib.hid F
 have HT:=Lib.hid T
 clear X F T
 go_enter Tryz.func67,Tryz.ntmps67
 go_wp2_with fail
 refine(HF.out _ (zAF _ _ _)).mono ?_
 rintro e w1 ⟨rfl,hb⟩
 have Hx1:=hkh hb (zAp HX.out _ _)
 have Hb1:=hkh hb (zAW _ _ _)
 have HW1:=hbn (zAF _ _ _) hb
 have hz1:=hb.size
 try simp at hz1
 clear hb
 have hyx:x.o<w1.heap.size:=hsz Hx1
 obtain⟨x0,x1,x2,x3,x4,x5,x6,x7,x8,x9⟩:=cells10 Hx1.out
 obtain⟨fx0,fx1,fx2,fx3,fx4,fx5,fx6,fx7,fx8,fx9⟩:=froz10 Hx1.out
 have hyb:w.heap.size+1<w1.heap.size:=hsz Hb1
 obtain⟨b0,b1,b2,b3,b4⟩:=cells5 Hb1.out
 rw[hk] at x0
 go_wp2_with fail
 refine(HT.out _ HW1.out).mono ?_
 rintro e w2 ⟨rfl,hb⟩
 have Hx2:=hkh hb Hx1.out
 have Hb2:=hkh hb Hb1.out
 have HW2:=hbn HW1.out hb
 have hz2:=hb.size
 try simp at hz2
 clear hb
 clear hyx x0 fx0 x1 fx1 x2 fx2 x3 fx3 x4 fx4 x5 fx5 x6 fx6 x7 fx7 x8 fx8 x9 fx9 hyb b0 b1 b2 b3 b4
 clear hk
 go_wp2_with fail
 refine(pmissing_c _ _).mono ?_
 rintro e wm ⟨rfl,rfl⟩
 go_wp2
 go_ret
 exact zAq rfl HW2.out
theorem pSetMeta_bad8 (w:World) (h:Nat) (k1 p1 q1:Int) (s1:ByteArray) (r1:Int) (k2 p2 q2:Int) (s2:ByteArray) (r2:Int) (x:PO) (X:w.heap[x.o]? =some (.cells x.cells 104)) (hk:x.kind=8) (hne:∀W:World,(binOp .neq 25 (.agg #[k2,p2,q2,s2,r2]) (.agg #[.int .i64 0,.int .i64 0,.int .i64 0,.string ⟨#[]⟩,.int .i64 0])).run Tryz.prog W= .ok (.bool true) W) (F:∀W,Below w.heap.size w W→Calls Tryz.prog 87 #[.pointer (some ⟨h,0,none⟩),.agg #[k1,p1,q1,s1,r1]] W (PtrPost W (.pointer (some ⟨x.o,0,none⟩)))) (T:∀W,Below w.heap.size w W→Calls Tryz.prog 84 #[.pointer (some ⟨h,0,none⟩),.agg #[k2,p2,q2,s2,r2]] W (PtrPost W (.pointer none))):Calls Tryz.prog 67 #[.pointer (some ⟨h,0,none⟩),.agg #[k1,p1,q1,s1,r1],.agg #[k2,p2,q2,s2,r2]] w (IntPost w 8):=by
 have HX:=Lib.hid X
 have HF:=Lib.hid F
 have HT:=Lib.hid T
 clear X F T
 go_enter Tryz.func67,Tryz.ntmps67
 go_wp2_with fail
 refine(HF.out _ (zAF _ _ _)).mono ?_
 rintro e w1 ⟨rfl,hb⟩
 have Hx1:=hkh hb (zAp HX.out _ _)
 have Hb1:=hkh hb (zAW _ _ _)
 have HW1:=hbn (zAF _ _ _) hb
 have hz1:=hb.size
 try simp at hz1
 clear hb
 have hyx:x.o<w1.heap.size:=hsz Hx1
 obtain⟨x0,x1,x2,x3,x4,x5,x6,x7,x8,x9⟩:=cells10 Hx1.out
 obtain⟨fx0,fx1,fx2,fx3,fx4,fx5,fx6,fx7,fx8,fx9⟩:=froz10 Hx1.out
 have hyb:w.heap.size+1<w1.heap.size:=hsz Hb1
 obtain⟨b0,b1,b2,b3,b4⟩:=cells5 Hb1.out
 rw[hk] at x0
 go_wp2_with fail
 refine(HT.out _ HW1.out).mono ?_
 rintro e w2 ⟨rfl,hb⟩
 have Hx2:=hkh hb Hx1.out
 have Hb2:=hkh hb Hb1.out
 have HW2:=hbn HW1.out hb
 have hz2:=hb.size
 try simp at hz2
 clear hb
 clear hyx x0 fx0 x1 fx1 x2 fx2 x3 fx3 x4 fx4 x5 fx5 x6 fx6 x7 fx7 x8 fx8 x9 fx9 hyb b0 b1 b2 b3 b4
 clear hk
 go_wp2_with fail
 refine(pmissing_c _ _).mono ?_
 rintro e wm ⟨rfl,rfl⟩
 go_wp2
 go_ret
 exact zAq rfl HW2.out
theorem pSetMeta_tab4 (w:World) (h bo bt:Nat) (H:List PO) (hH:HpAt w h bo bt H) (i:Nat) (x:PO) (hi:H[i]? =some x) (hk:x.kind=4) (k1 p1 q1:Int) (s1:ByteArray) (r1:Int) (k2 p2 q2:Int) (s2:ByteArray) (r2:Int) (hw2:WfV ⟨k2,p2,q2,s2,r2⟩) (hne:∀W:World,(binOp .neq 25 (.agg #[k2,p2,q2,s2,r2]) (.agg #[.int .i64 0,.int .i64 0,.int .i64 0,.string ⟨#[]⟩,.int .i64 0])).run Tryz.prog W= .ok (.bool true) W) (F:∀W,Below w.heap.size w W→Calls Tryz.prog 87 #[.pointer (some ⟨h,0,none⟩),.agg #[k1,p1,q1,s1,r1]] W (PtrPost W (.pointer (some ⟨x.o,0,none⟩)))) (tv:Addr) (T:∀W,Below w.heap.size w W→Calls Tryz.prog 84 #[.pointer (some ⟨h,0,none⟩),.agg #[k2,p2,q2,s2,r2]] W (PtrPost W (.pointer (some tv))))
  (U:∀W H',HpAt W h bo bt H'→Calls Tryz.prog 112 #[.pointer (some ⟨h,0,none⟩),.agg #[k1,p1,q1,s1,r1],.int .i64 0] W (TouchPost W h bo bt H')):
  Calls Tryz.prog 67 #[.pointer (some ⟨h,0,none⟩),.agg #[k1,p1,q1,s1,r1],.agg #[k2,p2,q2,s2,r2]] w (HMetaPost w h bo bt H i x ⟨k2,p2,q2,s2,r2⟩):=by
 have hxm:=List.mem_of_getElem? hi
 have HX:=Lib.hid (hH.one x hxm).ho
 have hxl:x.o<w.heap.size:=hsz HX
 have hxn:x.o≠w.heap.size:=by omega
 have hxn2:w.heap.size≠x.o:=by omega
 have HXM:=Lib.hid hxm
 have HHH:=Lib.hid hH
 have HI:=Lib.hid hi
 have HK:=Lib.hid hk
 have HWF:=Lib.hid hw2
 have HF:=Lib.hid F
 have HU:=Lib.hid U
 have HT:=Lib.hid T
 clear T
 clear F U hH hi hxm hw2
 go_enter Tryz.func67,Tryz.ntmps67
 go_wp2_with fail
 refine(HF.out _ (zAF _ _ _)).mono ?_
 rintro e w1 ⟨rfl,hb⟩
 have Hx1:=hkh hb (zAp HX.out _ _)
 have Ha1:=hkh hb (zAf _ _ _)
 have Hb1:=hkh hb (zAW _ _ _)
 have HW1:=hbn (zAF _ _ _) hb
 have hz1:=hb.size
 try simp at hz1
 clear hb
 have hyx:x.o<w1.heap.size:=hsz Hx1
 obtain⟨x0,x1,x2,x3,x4,x5,x6,x7,x8,x9⟩:=cells10 Hx1.out
 obtain⟨fx0,fx1,fx2,fx3,fx4,fx5,fx6,fx7,fx8,fx9⟩:=froz10 Hx1.out
 have hya:w.heap.size<w1.heap.size:=hsz Ha1
 obtain⟨a0,a1,a2,a3,a4⟩:=cells5 Ha1.out
 have hyb:w.heap.size+1<w1.heap.size:=hsz Hb1
 obtain⟨b0,b1,b2,b3,b4⟩:=cells5 Hb1.out
 rw[hk] at x0
 go_wp2_with fail
 refine(HT.out _ HW1.out).mono ?_
 rintro e w2 ⟨rfl,hb⟩
 have Hx2:=hkh hb Hx1.out
 have Ha2:=hkh hb Ha1.out
 have Hb2:=hkh hb Hb1.out
 have HW2:=hbn HW1.out hb
 have hz2:=hb.size
 try simp at hz2
 clear hb
 clear hyx x0 fx0 x1 fx1 x2 fx2 x3 fx3 x4 fx4 x5 fx5 x6 fx6 x7 fx7 x8 fx8 x9 fx9 hya a0 a1 a2 a3 a4 hyb b0 b1 b2 b3 b4
 have hyx:x.o<w2.heap.size:=hsz Hx2
 obtain⟨x0,x1,x2,x3,x4,x5,x6,x7,x8,x9⟩:=cells10 Hx2.out
 obtain⟨fx0,fx1,fx2,fx3,fx4,fx5,fx6,fx7,fx8,fx9⟩:=froz10 Hx2.out
 have hya:w.heap.size<w2.heap.size:=hsz Ha2
 obtain⟨a0,a1,a2,a3,a4⟩:=cells5 Ha2.out
 have hyb:w.heap.size+1<w2.heap.size:=hsz Hb2
 obtain⟨b0,b1,b2,b3,b4⟩:=cells5 Hb2.out
 clear hk
 go_wp2_with fail
 refine(HU.out _ (H.set i {x with mt:=⟨k2,p2,q2,s2,r2⟩}) ((HHH.out.below HW2.out).setMt HI.out (by rw[HK.out];decide) HWF.out (meta_cells Hx2.out _ _ _ _ _) (zAO (zAO (zAO (zAO (zAO (F:=fun b=>b=x.o) (Mods.refl _ _) (.inl rfl) _) (.inl rfl) _) (.inl rfl) _) (.inl rfl) _) (.inl rfl) _))).mono ?_
 rintro e w5 ⟨rfl,hH5,hM5⟩
 have HH5:=Lib.hid hH5
 have HM5:=Lib.hid hM5
 clear hH5 hM5
 go_wp2
 go_ret
 have h1:=mods_meta w2 x.o (.int .i64 k2) (.int .i64 p2) (.int .i64 q2) (.string s2) (.int .i64 r2)
 exact⟨⟨_,rfl⟩,HH5.out,((Mods.of_below HW2.out).trans (h1.mono (fun k _ e=> .inr (.inr (.inr ⟨x,HXM.out,.inl e⟩))))).trans (HM5.out.mono (fun k _ e=> .inr (.inr (.inl e))))⟩
theorem pSetMeta_nil4 (w:World) (h bo bt:Nat) (H:List PO) (hH:HpAt w h bo bt H) (i:Nat) (x:PO) (hi:H[i]? =some x) (hk:x.kind=4) (k1 p1 q1:Int) (s1:ByteArray) (r1:Int) (k2 p2 q2:Int) (s2:ByteArray) (r2:Int) (hw2:WfV ⟨k2,p2,q2,s2,r2⟩) (hne:∀W:World,(binOp .neq 25 (.agg #[k2,p2,q2,s2,r2]) (.agg #[.int .i64 0,.int .i64 0,.int .i64 0,.string ⟨#[]⟩,.int .i64 0])).run Tryz.prog W= .ok (.bool false) W) (F:∀W,Below w.heap.size w W→Calls Tryz.prog 87 #[.pointer (some ⟨h,0,none⟩),.agg #[k1,p1,q1,s1,r1]] W (PtrPost W (.pointer (some ⟨x.o,0,none⟩))))
  (U:∀W H',HpAt W h bo bt H'→Calls Tryz.prog 112 #[.pointer (some ⟨h,0,none⟩),.agg #[k1,p1,q1,s1,r1],.int .i64 0] W (TouchPost W h bo bt H')):
  Calls Tryz.prog 67 #[.pointer (some ⟨h,0,none⟩),.agg #[k1,p1,q1,s1,r1],.agg #[k2,p2,q2,s2,r2]] w (HMetaPost w h bo bt H i x ⟨k2,p2,q2,s2,r2⟩):=by
 have hxm:=List.mem_of_getElem? hi
 have HX:=Lib.hid (hH.one x hxm).ho
 have hxl:x.o<w.heap.size:=hsz HX
 have hxn:x.o≠w.heap.size:=by omega
 have hxn2:w.heap.size≠x.o:=by omega
 have HXM:=Lib.hid hxm
 have HHH:=Lib.hid hH
 have HI:=Lib.hid hi
 have HK:=Lib.hid hk
 have HWF:=Lib.hid hw2
 have HF:=Lib.hid F
 have HU:=Lib.hid U
 clear F U hH hi hxm hw2
 go_enter Tryz.func67,Tryz.ntmps67
 go_wp2_with fail
 refine(HF.out _ (zAF _ _ _)).mono ?_
 rintro e w1 ⟨rfl,hb⟩
 have Hx1:=hkh hb (zAp HX.out _ _)
 have Ha1:=hkh hb (zAf _ _ _)
 have Hb1:=hkh hb (zAW _ _ _)
 have HW1:=hbn (zAF _ _ _) hb
 have hz1:=hb.size
 try simp at hz1
 clear hb
 have hyx:x.o<w1.heap.size:=hsz Hx1
 obtain⟨x0,x1,x2,x3,x4,x5,x6,x7,x8,x9⟩:=cells10 Hx1.out
 obtain⟨fx0,fx1,fx2,fx3,fx4,fx5,fx6,fx7,fx8,fx9⟩:=froz10 Hx1.out
 have hya:w.heap.size<w1.heap.size:=hsz Ha1
 obtain⟨a0,a1,a2,a3,a4⟩:=cells5 Ha1.out
 have hyb:w.heap.size+1<w1.heap.size:=hsz Hb1
 obtain⟨b0,b1,b2,b3,b4⟩:=cells5 Hb1.out
 rw[hk] at x0
 clear hk
 go_wp2_with fail
 refine(HU.out _ (H.set i {x with mt:=⟨k2,p2,q2,s2,r2⟩}) ((HHH.out.below HW1.out).setMt HI.out (by rw[HK.out];decide) HWF.out (meta_cells Hx1.out _ _ _ _ _) (zAO (zAO (zAO (zAO (zAO (F:=fun b=>b=x.o) (Mods.refl _ _) (.inl rfl) _) (.inl rfl) _) (.inl rfl) _) (.inl rfl) _) (.inl rfl) _))).mono ?_
 rintro e w5 ⟨rfl,hH5,hM5⟩
 have HH5:=Lib.hid hH5
 have HM5:=Lib.hid hM5
 clear hH5 hM5
 go_wp2
 go_ret
 have h1:=mods_meta w1 x.o (.int .i64 k2) (.int .i64 p2) (.int .i64 q2) (.string s2) (.int .i64 r2)
 exact⟨⟨_,rfl⟩,HH5.out,((Mods.of_below HW1.out).trans (h1.mono (fun k _ e=> .inr (.inr (.inr ⟨x,HXM.out,.inl e⟩))))).trans (HM5.out.mono (fun k _ e=> .inr (.inr (.inl e))))⟩
theorem pSetMeta_tab8 (w:World) (h bo bt:Nat) (H:List PO) (hH:HpAt w h bo bt H) (i:Nat) (x:PO) (hi:H[i]? =some x) (hk:x.kind=8) (k1 p1 q1:Int) (s1:ByteArray) (r1:Int) (k2 p2 q2:Int) (s2:ByteArray) (r2:Int) (hw2:WfV ⟨k2,p2,q2,s2,r2⟩) (hne:∀W:World,(binOp .neq 25 (.agg #[k2,p2,q2,s2,r2]) (.agg #[.int .i64 0,.int .i64 0,.int .i64 0,.string ⟨#[]⟩,.int .i64 0])).run Tryz.prog W= .ok (.bool true) W) (F:∀W,Below w.heap.size w W→Calls Tryz.prog 87 #[.pointer (some ⟨h,0,none⟩),.agg #[k1,p1,q1,s1,r1]] W (PtrPost W (.pointer (some ⟨x.o,0,none⟩)))) (tv:Addr) (T:∀W,Below w.heap.size w W→Calls Tryz.prog 84 #[.pointer (some ⟨h,0,none⟩),.agg #[k2,p2,q2,s2,r2]] W (PtrPost W (.pointer (some tv))))
  (U:∀W H',HpAt W h bo bt H'→Calls Tryz.prog 112 #[.pointer (some ⟨h,0,none⟩),.agg #[k1,p1,q1,s1,r1],.int .i64 0] W (TouchPost W h bo bt H')):
  Calls Tryz.prog 67 #[.pointer (some ⟨h,0,none⟩),.agg #[k1,p1,q1,s1,r1],.agg #[k2,p2,q2,s2,r2]] w (HMetaPost w h bo bt H i x ⟨k2,p2,q2,s2,r2⟩):=by
 have hxm:=List.mem_of_getElem? hi
 have HX:=Lib.hid (hH.one x hxm).ho
 have hxl:x.o<w.heap.size:=hsz HX
 have hxn:x.o≠w.heap.size:=by omega
 have hxn2:w.heap.size≠x.o:=by omega
 have HXM:=Lib.hid hxm
 have HHH:=Lib.hid hH
 have HI:=Lib.hid hi
 have HK:=Lib.hid hk
 have HWF:=Lib.hid hw2
 have HF:=Lib.hid F
 have HU:=Lib.hid U
 have HT:=Lib.hid T
 clear T
 clear F U hH hi hxm hw2
 go_enter Tryz.func67,Tryz.ntmps67
 go_wp2_with fail
 refine(HF.out _ (zAF _ _ _)).mono ?_
 rintro e w1 ⟨rfl,hb⟩
 have Hx1:=hkh hb (zAp HX.out _ _)
 have Ha1:=hkh hb (zAf _ _ _)
 have Hb1:=hkh hb (zAW _ _ _)
 have HW1:=hbn (zAF _ _ _) hb
 have hz1:=hb.size
 try simp at hz1
 clear hb
 have hyx:x.o<w1.heap.size:=hsz Hx1
 obtain⟨x0,x1,x2,x3,x4,x5,x6,x7,x8,x9⟩:=cells10 Hx1.out
 obtain⟨fx0,fx1,fx2,fx3,fx4,fx5,fx6,fx7,fx8,fx9⟩:=froz10 Hx1.out
 have hya:w.heap.size<w1.heap.size:=hsz Ha1
 obtain⟨a0,a1,a2,a3,a4⟩:=cells5 Ha1.out
 have hyb:w.heap.size+1<w1.heap.size:=hsz Hb1
 obtain⟨b0,b1,b2,b3,b4⟩:=cells5 Hb1.out
 rw[hk] at x0
 go_wp2_with fail
 refine(HT.out _ HW1.out).mono ?_
 rintro e w2 ⟨rfl,hb⟩
 have Hx2:=hkh hb Hx1.out
 have Ha2:=hkh hb Ha1.out
 have Hb2:=hkh hb Hb1.out
 have HW2:=hbn HW1.out hb
 have hz2:=hb.size
 try simp at hz2
 clear hb
 clear hyx x0 fx0 x1 fx1 x2 fx2 x3 fx3 x4 fx4 x5 fx5 x6 fx6 x7 fx7 x8 fx8 x9 fx9 hya a0 a1 a2 a3 a4 hyb b0 b1 b2 b3 b4
 have hyx:x.o<w2.heap.size:=hsz Hx2
 obtain⟨x0,x1,x2,x3,x4,x5,x6,x7,x8,x9⟩:=cells10 Hx2.out
 obtain⟨fx0,fx1,fx2,fx3,fx4,fx5,fx6,fx7,fx8,fx9⟩:=froz10 Hx2.out
 have hya:w.heap.size<w2.heap.size:=hsz Ha2
 obtain⟨a0,a1,a2,a3,a4⟩:=cells5 Ha2.out
 have hyb:w.heap.size+1<w2.heap.size:=hsz Hb2
 obtain⟨b0,b1,b2,b3,b4⟩:=cells5 Hb2.out
 clear hk
 go_wp2_with fail
 refine(HU.out _ (H.set i {x with mt:=⟨k2,p2,q2,s2,r2⟩}) ((HHH.out.below HW2.out).setMt HI.out (by rw[HK.out];decide) HWF.out (meta_cells Hx2.out _ _ _ _ _) (zAO (zAO (zAO (zAO (zAO (F:=fun b=>b=x.o) (Mods.refl _ _) (.inl rfl) _) (.inl rfl) _) (.inl rfl) _) (.inl rfl) _) (.inl rfl) _))).mono ?_
 rintro e w5 ⟨rfl,hH5,hM5⟩
 have HH5:=Lib.hid hH5
 have HM5:=Lib.hid hM5
 clear hH5 hM5
 go_wp2
 go_ret
 have h1:=mods_meta w2 x.o (.int .i64 k2) (.int .i64 p2) (.int .i64 q2) (.string s2) (.int .i64 r2)
 exact⟨⟨_,rfl⟩,HH5.out,((Mods.of_below HW2.out).trans (h1.mono (fun k _ e=> .inr (.inr (.inr ⟨x,HXM.out,.inl e⟩))))).trans (HM5.out.mono (fun k _ e=> .inr (.inr (.inl e))))⟩
theorem pSetMeta_nil8 (w:World) (h bo bt:Nat) (H:List PO) (hH:HpAt w h bo bt H) (i:Nat) (x:PO) (hi:H[i]? =some x) (hk:x.kind=8) (k1 p1 q1:Int) (s1:ByteArray) (r1:Int) (k2 p2 q2:Int) (s2:ByteArray) (r2:Int) (hw2:WfV ⟨k2,p2,q2,s2,r2⟩) (hne:∀W:World,(binOp .neq 25 (.agg #[k2,p2,q2,s2,r2]) (.agg #[.int .i64 0,.int .i64 0,.int .i64 0,.string ⟨#[]⟩,.int .i64 0])).run Tryz.prog W= .ok (.bool false) W) (F:∀W,Below w.heap.size w W→Calls Tryz.prog 87 #[.pointer (some ⟨h,0,none⟩),.agg #[k1,p1,q1,s1,r1]] W (PtrPost W (.pointer (some ⟨x.o,0,none⟩))))
  (U:∀W H',HpAt W h bo bt H'→Calls Tryz.prog 112 #[.pointer (some ⟨h,0,none⟩),.agg #[k1,p1,q1,s1,r1],.int .i64 0] W (TouchPost W h bo bt H')):
  Calls Tryz.prog 67 #[.pointer (some ⟨h,0,none⟩),.agg #[k1,p1,q1,s1,r1],.agg #[k2,p2,q2,s2,r2]] w (HMetaPost w h bo bt H i x ⟨k2,p2,q2,s2,r2⟩):=by
 have hxm:=List.mem_of_getElem? hi
 have HX:=Lib.hid (hH.one x hxm).ho
 have hxl:x.o<w.heap.size:=hsz HX
 have hxn:x.o≠w.heap.size:=by omega
 have hxn2:w.heap.size≠x.o:=by omega
 have HXM:=Lib.hid hxm
 have HHH:=Lib.hid hH
 have HI:=Lib.hid hi
 have HK:=Lib.hid hk
 have HWF:=Lib.hid hw2
 have HF:=Lib.hid F
 have HU:=Lib.hid U
 clear F U hH hi hxm hw2
 go_enter Tryz.func67,Tryz.ntmps67
 go_wp2_with fail
 refine(HF.out _ (zAF _ _ _)).mono ?_
 rintro e w1 ⟨rfl,hb⟩
 have Hx1:=hkh hb (zAp HX.out _ _)
 have Ha1:=hkh hb (zAf _ _ _)
 have Hb1:=hkh hb (zAW _ _ _)
 have HW1:=hbn (zAF _ _ _) hb
 have hz1:=hb.size
 try simp at hz1
 clear hb
 have hyx:x.o<w1.heap.size:=hsz Hx1
 obtain⟨x0,x1,x2,x3,x4,x5,x6,x7,x8,x9⟩:=cells10 Hx1.out
 obtain⟨fx0,fx1,fx2,fx3,fx4,fx5,fx6,fx7,fx8,fx9⟩:=froz10 Hx1.out
 have hya:w.heap.size<w1.heap.size:=hsz Ha1
 obtain⟨a0,a1,a2,a3,a4⟩:=cells5 Ha1.out
 have hyb:w.heap.size+1<w1.heap.size:=hsz Hb1
 obtain⟨b0,b1,b2,b3,b4⟩:=cells5 Hb1.out
 rw[hk] at x0
 clear hk
 go_wp2_with fail
 refine(HU.out _ (H.set i {x with mt:=⟨k2,p2,q2,s2,r2⟩}) ((HHH.out.below HW1.out).setMt HI.out (by rw[HK.out];decide) HWF.out (meta_cells Hx1.out _ _ _ _ _) (zAO (zAO (zAO (zAO (zAO (F:=fun b=>b=x.o) (Mods.refl _ _) (.inl rfl) _) (.inl rfl) _) (.inl rfl) _) (.inl rfl) _) (.inl rfl) _))).mono ?_
 rintro e w5 ⟨rfl,hH5,hM5⟩
 have HH5:=Lib.hid hH5
 have HM5:=Lib.hid hM5
 clear hH5 hM5
 go_wp2
 go_ret
 have h1:=mods_meta w1 x.o (.int .i64 k2) (.int .i64 p2) (.int .i64 q2) (.string s2) (.int .i64 r2)
 exact⟨⟨_,rfl⟩,HH5.out,((Mods.of_below HW1.out).trans (h1.mono (fun k _ e=> .inr (.inr (.inr ⟨x,HXM.out,.inl e⟩))))).trans (HM5.out.mono (fun k _ e=> .inr (.inr (.inl e))))⟩
theorem pSetMeta_c {base n:Nat} {w:World} {h:Nat} {M:LH} (hP:PHp base n w h M) (hb:base≤w.heap.size) (k1 p1 q1:Int) (s1:ByteArray) (r1:Int) (k2 p2 q2:Int) (s2:ByteArray) (r2:Int) (hr:i64 r1) (hw2:WfV ⟨k2,p2,q2,s2,r2⟩):Calls Tryz.prog 67 #[.pointer (some ⟨h,0,none⟩),.agg #[.int .i64 k1,.int .i64 p1,.int .i64 q1,.string s1,.int .i64 r1],.agg #[.int .i64 k2,.int .i64 p2,.int .i64 q2,.string s2,.int .i64 r2]] w (fun e w'=>(∃v,e= .returned v)∧PHp base n w' h (zBc M ⟨k1,p1,q1,s1,r1⟩ ⟨k2,p2,q2,s2,r2⟩)∧BM base PB w w'):=by
 obtain⟨bo,bt,H,h1,h2,h3,h4⟩:=hP.ex
 subst h2
 have F:=fun W (hb:Below w.heap.size w W)=>phfind_c W h bo bt H (h1.below hb) k1 p1 q1 s1 r1 hr
 have T:=fun W (hb:Below w.heap.size w W)=>ptab_c W h bo bt H (h1.below hb) k2 p2 q2 s2 r2 hw2.r
 have U:=fun W H' (hH':HpAt W h bo bt H')=>pTouch_c W h bo bt H' hH' k1 p1 q1 s1 r1 hr
 have N:=fun W=>neq_run W k2 p2 q2 s2 r2 0 0 0 ⟨#[]⟩ 0
 cases hf:findP H ⟨k1,p1,q1,s1,r1⟩ with
 |none=>
  rw[hf] at F
  have hM:zBc (lh H) ⟨k1,p1,q1,s1,r1⟩ ⟨k2,p2,q2,s2,r2⟩=lh H:=by unfold zBc;rw[zCM,hf];rfl
  exact(pSetMeta_none w h k1 p1 q1 s1 r1 k2 p2 q2 s2 r2 F).mono (fun e w' hp=>int_keep hP hM hp)
 |some x=>
  rw[hf] at F
  obtain⟨i,hi,hk,hri,hxm⟩:=find_at hf
  have hri:r1=((i+1:Nat):Int):=hri
  have hx:=h1.one x hxm
  have hSM:zBc (lh H) ⟨k1,p1,q1,s1,r1⟩ ⟨k2,p2,q2,s2,r2⟩=if (x.kind=4∨x.kind=8)∧(eqV ⟨k2,p2,q2,s2,r2⟩ V.nil=true∨tabH (lh H) ⟨k2,p2,q2,s2,r2⟩=true) then(lh H).set (r1.toNat-1) ⟨x.kind,⟨k2,p2,q2,s2,r2⟩,x.lo.L⟩ else lh H:=by unfold zBc;rw[zCM,hf];rfl
  have fin:(x.kind=4∨x.kind=8)→(eqV ⟨k2,p2,q2,s2,r2⟩ V.nil=true∨tabH (lh H) ⟨k2,p2,q2,s2,r2⟩=true)→∀e w',HMetaPost w h bo bt H i x ⟨k2,p2,q2,s2,r2⟩ e w'→(∃v,e= .returned v)∧PHp base n w' h (zBc (lh H) ⟨k1,p1,q1,s1,r1⟩ ⟨k2,p2,q2,s2,r2⟩)∧BM base PB w w':=by
   rintro ha hb2 e w' ⟨he,hH',hM'⟩
   refine⟨he,⟨bo,bt,_,hH',?_,?_,?_⟩,BM.of_mods hM' (fun b hb3=>⟨h4 b hb3,hp_pb h1 hb3⟩)⟩
   ·rw[hSM,if_pos ⟨ha,hb2⟩]
    unfold lh
    rw[List.map_set,show r1.toNat-1=i by omega]
    rfl
   ·intro y hy
    rcases zCF hy with rfl|⟨j,hj,hjy⟩
    ·exact h3 x hxm
    ·exact h3 y (List.mem_of_getElem? hjy)
   ·rintro b (e|e|e|⟨y,hy,hyb⟩)
    ·exact h4 b (.inl e)
    ·exact h4 b (.inr (.inl e))
    ·exact h4 b (.inr (.inr (.inl e)))
    ·rcases zCF hy with rfl|⟨j,hj,hjy⟩
     ·exact h4 b (.inr (.inr (.inr ⟨x,hxm,hyb⟩)))
     ·exact h4 b (.inr (.inr (.inr ⟨y,List.mem_of_getElem? hjy,hyb⟩)))
  have kinds:=hx.kd
  rcases kinds with k4|k5|k8
  rotate_left
  ·exact(pSetMeta_func w h k1 p1 q1 s1 r1 k2 p2 q2 s2 r2 x hx.ho k5 F).mono (fun e w' hp=>int_keep hP (by rw[hSM,if_neg (by omega)]) hp)
  ·cases he:eqV ⟨k2,p2,q2,s2,r2⟩ V.nil with
   |true=>
    have N0:∀W:World,(binOp .neq 25 (.agg #[.int .i64 k2,.int .i64 p2,.int .i64 q2,.string s2,.int .i64 r2]) (.agg #[.int .i64 0,.int .i64 0,.int .i64 0,.string ⟨#[]⟩,.int .i64 0])).run Tryz.prog W= .ok (.bool false) W:=fun W=>by have:=N W;rw[show eqV ⟨k2,p2,q2,s2,r2⟩ ⟨0,0,0,⟨#[]⟩,0⟩=true from he] at this;exact this
    exact(pSetMeta_nil8 w h bo bt H h1 i x hi k8 k1 p1 q1 s1 r1 k2 p2 q2 s2 r2 hw2 N0 F U).mono (fin (by omega) (.inl he))
   |false=>
    have N1:∀W:World,(binOp .neq 25 (.agg #[.int .i64 k2,.int .i64 p2,.int .i64 q2,.string s2,.int .i64 r2]) (.agg #[.int .i64 0,.int .i64 0,.int .i64 0,.string ⟨#[]⟩,.int .i64 0])).run Tryz.prog W= .ok (.bool true) W:=fun W=>by have:=N W;rw[show eqV ⟨k2,p2,q2,s2,r2⟩ ⟨0,0,0,⟨#[]⟩,0⟩=false from he] at this;exact this
    have bad:(∀W,Below w.heap.size w W→Calls Tryz.prog 84 #[.pointer (some ⟨h,0,none⟩),.agg #[.int .i64 k2,.int .i64 p2,.int .i64 q2,.string s2,.int .i64 r2]] W (PtrPost W (.pointer none)))→tabH (lh H) ⟨k2,p2,q2,s2,r2⟩=false→Calls Tryz.prog 67 #[.pointer (some ⟨h,0,none⟩),.agg #[.int .i64 k1,.int .i64 p1,.int .i64 q1,.string s1,.int .i64 r1],.agg #[.int .i64 k2,.int .i64 p2,.int .i64 q2,.string s2,.int .i64 r2]] w (fun e w'=>(∃v,e= .returned v)∧PHp base n w' h (zBc (lh H) ⟨k1,p1,q1,s1,r1⟩ ⟨k2,p2,q2,s2,r2⟩)∧BM base PB w w'):=fun hT hno=>
     (pSetMeta_bad8 w h k1 p1 q1 s1 r1 k2 p2 q2 s2 r2 x hx.ho k8 N1 F hT).mono (fun e w' hp=>int_keep hP (by rw[hSM,if_neg (by rw[he,hno];simp)]) hp)
    cases hg:findP H ⟨k2,p2,q2,s2,r2⟩ with
    |none=>
     rw[hg] at T
     exact bad T (by unfold tabH;rw[zCM,hg];rfl)
    |some y=>
     rw[hg] at T
     have T:∀W,Below w.heap.size w W→Calls Tryz.prog 84 #[.pointer (some ⟨h,0,none⟩),.agg #[.int .i64 k2,.int .i64 p2,.int .i64 q2,.string s2,.int .i64 r2]] W (PtrPost W y.tabv):=T
     unfold PO.tabv at T
     by_cases hy4:y.kind=4
     ·rw[if_pos hy4] at T
      exact(pSetMeta_tab8 w h bo bt H h1 i x hi k8 k1 p1 q1 s1 r1 k2 p2 q2 s2 r2 hw2 N1 F _ T U).mono (fin (by omega) (.inr (by unfold tabH;rw[zCM,hg];exact beq_iff_eq.2 hy4)))
     ·rw[if_neg hy4] at T
      exact bad T (by unfold tabH;rw[zCM,hg];exact beq_eq_false_iff_ne.2 hy4)
  ·cases he:eqV ⟨k2,p2,q2,s2,r2⟩ V.nil with
   |true=>
    have N0:∀W:World,(binOp .neq 25 (.agg #[.int .i64 k2,.int .i64 p2,.int .i64 q2,.string s2,.int .i64 r2]) (.agg #[.int .i64 0,.int .i64 0,.int .i64 0,.string ⟨#[]⟩,.int .i64 0])).run Tryz.prog W= .ok (.bool false) W:=fun W=>by have:=N W;rw[show eqV ⟨k2,p2,q2,s2,r2⟩ ⟨0,0,0,⟨#[]⟩,0⟩=true from he] at this;exact this
    exact(pSetMeta_nil4 w h bo bt H h1 i x hi k4 k1 p1 q1 s1 r1 k2 p2 q2 s2 r2 hw2 N0 F U).mono (fin (by omega) (.inl he))
   |false=>
    have N1:∀W:World,(binOp .neq 25 (.agg #[.int .i64 k2,.int .i64 p2,.int .i64 q2,.string s2,.int .i64 r2]) (.agg #[.int .i64 0,.int .i64 0,.int .i64 0,.string ⟨#[]⟩,.int .i64 0])).run Tryz.prog W= .ok (.bool true) W:=fun W=>by have:=N W;rw[show eqV ⟨k2,p2,q2,s2,r2⟩ ⟨0,0,0,⟨#[]⟩,0⟩=false from he] at this;exact this
    have bad:(∀W,Below w.heap.size w W→Calls Tryz.prog 84 #[.pointer (some ⟨h,0,none⟩),.agg #[.int .i64 k2,.int .i64 p2,.int .i64 q2,.string s2,.int .i64 r2]] W (PtrPost W (.pointer none)))→tabH (lh H) ⟨k2,p2,q2,s2,r2⟩=false→Calls Tryz.prog 67 #[.pointer (some ⟨h,0,none⟩),.agg #[.int .i64 k1,.int .i64 p1,.int .i64 q1,.string s1,.int .i64 r1],.agg #[.int .i64 k2,.int .i64 p2,.int .i64 q2,.string s2,.int .i64 r2]] w (fun e w'=>(∃v,e= .returned v)∧PHp base n w' h (zBc (lh H) ⟨k1,p1,q1,s1,r1⟩ ⟨k2,p2,q2,s2,r2⟩)∧BM base PB w w'):=fun hT hno=>
     (pSetMeta_bad4 w h k1 p1 q1 s1 r1 k2 p2 q2 s2 r2 x hx.ho k4 N1 F hT).mono (fun e w' hp=>int_keep hP (by rw[hSM,if_neg (by rw[he,hno];simp)]) hp)
    cases hg:findP H ⟨k2,p2,q2,s2,r2⟩ with
    |none=>
     rw[hg] at T
     exact bad T (by unfold tabH;rw[zCM,hg];rfl)
    |some y=>
     rw[hg] at T
     have T:∀W,Below w.heap.size w W→Calls Tryz.prog 84 #[.pointer (some ⟨h,0,none⟩),.agg #[.int .i64 k2,.int .i64 p2,.int .i64 q2,.string s2,.int .i64 r2]] W (PtrPost W y.tabv):=T
     unfold PO.tabv at T
     by_cases hy4:y.kind=4
     ·rw[if_pos hy4] at T
      exact(pSetMeta_tab4 w h bo bt H h1 i x hi k4 k1 p1 q1 s1 r1 k2 p2 q2 s2 r2 hw2 N1 F _ T U).mono (fin (by omega) (.inr (by unfold tabH;rw[zCM,hg];exact beq_iff_eq.2 hy4)))
     ·rw[if_neg hy4] at T
      exact bad T (by unfold tabH;rw[zCM,hg];exact beq_eq_false_iff_ne.2 hy4)
theorem pSet_c {base n:Nat} {w:World} {h:Nat} {M:LH} (hP:PHp base n w h M) (hb:base≤w.heap.size) (hn:n<1000) (k1 p1 q1:Int) (s1:ByteArray) (r1:Int) (s:ByteArray) (k2 p2 q2:Int) (s2:ByteArray) (r2:Int) (hr:i64 r1) (hw2:WfV ⟨k2,p2,q2,s2,r2⟩):Calls Tryz.prog 70 #[.pointer (some ⟨h,0,none⟩),.agg #[k1,p1,q1,s1,r1],.agg #[.int .i64 3,.int .i64 0,.int .i64 0,s,.int .i64 0],.agg #[k2,p2,q2,s2,r2]] w (fun e w'=>(∃v,e= .returned v)∧PHp base (n+1) w' h (setH M ⟨k1,p1,q1,s1,r1⟩ s ⟨k2,p2,q2,s2,r2⟩)∧BM base PB w w'):=by
 obtain⟨bo,bt,H,h1,h2,h3,h4⟩:=hP.ex
 subst h2
 have hP1:=hP.up (Nat.le_succ n)
 have T:=fun W (hb:Below w.heap.size w W)=>ptab_c W h bo bt H (h1.below hb) k1 p1 q1 s1 r1 hr
 have U:=fun W H' (hH':HpAt W h bo bt H')=>pTouch_c W h bo bt H' hH' k1 p1 q1 s1 r1 hr
 have V:=fun W=>pvalidV_c W 3 0 0 s 0
 have E:=fun W=>pElem_c W k2 p2 q2 s2 r2
 have nope:(∀W,Below w.heap.size w W→Calls Tryz.prog 84 #[.pointer (some ⟨h,0,none⟩),.agg #[k1,p1,q1,s1,r1]] W (PtrPost W (.pointer none)))→setH (lh H) ⟨k1,p1,q1,s1,r1⟩ s ⟨k2,p2,q2,s2,r2⟩=lh H→Calls Tryz.prog 70 #[.pointer (some ⟨h,0,none⟩),.agg #[k1,p1,q1,s1,r1],.agg #[.int .i64 3,.int .i64 0,.int .i64 0,s,.int .i64 0],.agg #[k2,p2,q2,s2,r2]] w (fun e w'=>(∃v,e= .returned v)∧PHp base (n+1) w' h (setH (lh H) ⟨k1,p1,q1,s1,r1⟩ s ⟨k2,p2,q2,s2,r2⟩)∧BM base PB w w'):=fun hT hM=>
  (pSet_none w h k1 p1 q1 s1 r1 s k2 p2 q2 s2 r2 hT).mono (fun e w' hp=>int_keep hP1 hM hp)
 cases hf:findP H ⟨k1,p1,q1,s1,r1⟩ with
 |none=>
  rw[hf] at T
  exact nope T (by unfold setH;rw[zCM,hf];rfl)
 |some x=>
  rw[hf] at T
  have T:∀W,Below w.heap.size w W→Calls Tryz.prog 84 #[.pointer (some ⟨h,0,none⟩),.agg #[k1,p1,q1,s1,r1]] W (PtrPost W x.tabv):=T
  unfold PO.tabv at T
  obtain⟨i,hi,hk,hri,hxm⟩:=find_at hf
  have hri:r1=((i+1:Nat):Int):=hri
  have hx:=h1.one x hxm
  have hSM:setH (lh H) ⟨k1,p1,q1,s1,r1⟩ s ⟨k2,p2,q2,s2,r2⟩=if x.kind=4∧s.size≤4096∧zAi ⟨k2,p2,q2,s2,r2⟩=true then(lh H).set (r1.toNat-1) ⟨x.kind,x.mt,setM x.lo.L (strV s) ⟨k2,p2,q2,s2,r2⟩⟩ else lh H:=by unfold setH;rw[zCM,hf];rfl
  by_cases k4:x.kind=4
  rotate_left
  ·rw[if_neg k4] at T
   exact nope T (by rw[hSM,if_neg (fun h=>k4 h.1)])
  ·rw[if_pos k4] at T
   by_cases hs:s.size≤4096
   rotate_left
   ·rw[show zAi ⟨3,0,0,s,0⟩=false from str_bad hs] at V
    exact(pSet_key w h k1 p1 q1 s1 r1 s k2 p2 q2 s2 r2 _ T V).mono (fun e w' hp=>int_keep hP1 (by rw[hSM,if_neg (fun h=>hs h.2.1)]) hp)
   ·rw[show zAi ⟨3,0,0,s,0⟩=true from valid_str hs] at V
    by_cases hv:zAi ⟨k2,p2,q2,s2,r2⟩=true
    rotate_left
    ·exact(pSet_elem w h k1 p1 q1 s1 r1 s k2 p2 q2 s2 r2 _ _ (by rw[bne_iff_ne];exact elem_bad hv) T V E).mono (fun e w' hp=>int_keep hP1 (by rw[hSM,if_neg (fun h=>hv h.2.2)]) hp)
    ·rw[elem_valid hv] at E
     have S:=fun W (hb:Below w.heap.size w W)=>ptabSet_c W x.t x.m x.g x.sv x.L ((hx.tb k4).below hb) (by have:=h3 x hxm;omega) s hs k2 p2 q2 s2 r2 hv hw2
     refine(pSet_ok w h bo bt H h1 i x hi k4 _ k1 p1 q1 s1 r1 s k2 p2 q2 s2 r2 T V E S U).mono ?_
     rintro e w' ⟨he,sv',hH',hM',hown⟩
     have hloL:x.lo.L=x.L:=by unfold PO.lo;exact if_pos k4
     refine⟨he,⟨bo,bt,_,hH',?_,?_,?_⟩,BM.of_mods hM' (fun b hb3=>⟨h4 b hb3,hp_pb h1 hb3⟩)⟩
     ·rw[hSM,if_pos ⟨k4,hs,hv⟩,hloL]
      unfold lh
      rw[List.map_set,show r1.toNat-1=i by omega]
      unfold PO.lo
      simp only[k4,if_true]
     ·intro y hy
      rcases zCF hy with rfl|⟨j,hj,hjy⟩
      ·have h5:=setM_len x.L (strV s) ⟨k2,p2,q2,s2,r2⟩
       have h6:=h3 x hxm
       show(setM x.L (strV s) ⟨k2,p2,q2,s2,r2⟩).length≤n+1
       omega
      ·exact Nat.le_succ_of_le (h3 y (List.mem_of_getElem? hjy))
     ·rintro b (e|e|e|⟨y,hy,hyb⟩)
      ·exact h4 b (.inl e)
      ·exact h4 b (.inr (.inl e))
      ·exact h4 b (.inr (.inr (.inl e)))
      ·rcases zCF hy with rfl|⟨j,hj,hjy⟩
       ·rcases hyb with e|⟨_,e|e|e|e⟩
        ·exact h4 b (.inr (.inr (.inr ⟨x,hxm,.inl e⟩)))
        ·exact h4 b (.inr (.inr (.inr ⟨x,hxm,.inr ⟨k4,.inl e⟩⟩)))
        ·exact h4 b (.inr (.inr (.inr ⟨x,hxm,.inr ⟨k4,.inr (.inl e)⟩⟩)))
        ·exact h4 b (.inr (.inr (.inr ⟨x,hxm,.inr ⟨k4,.inr (.inr (.inl e))⟩⟩)))
        ·rcases hown b e with e|e
         ·exact h4 b (.inr (.inr (.inr ⟨x,hxm,.inr ⟨k4,.inr (.inr (.inr e))⟩⟩)))
         ·omega
       ·exact h4 b (.inr (.inr (.inr ⟨y,List.mem_of_getElem? hjy,hyb⟩)))
end Go.Proofs.YthkpckgcgkijbaaGreatDoor
