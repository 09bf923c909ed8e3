import Derived.Test.YthkpckgcgkijbaaGreatDoorLwB
import Derived.Test.YthkpckgcgkijbaaGreatDoorOpJe
set_option linter.unusedVariables false
set_option linter.unusedSimpArgs false
set_option maxRecDepth 100000
set_option maxHeartbeats 2000000
namespace Go.Proofs.YthkpckgcgkijbaaGreatDoor
open Go.RowKit Go.Proofs.Lexi
abbrev BinAt (hp:Nat) (w:World) (o:Int) (a b:Value) (N:Nd):Prop:=∀W,Below w.heap.size w W→Calls Tryz.prog 20 #[.pointer (some ⟨hp,0,none⟩),o,a,b] W (NdPost W N)
abbrev SameAt (N:Nd):Prop:=∀W base base' av av',ArgsAt W base av N.args→ArgsAt W base' av' N.args→Calls Tryz.prog 19 #[ndV N av,ndV N av'] W (BoolPost W true)
theorem reduces_no (w:World) (hg:Glob w) (T Dt F:Int) (so:Option Addr) (n cap:Nat) (k1 p1 q1:Int) (s1:ByteArray) (r1:Int) (k2 p2 q2:Int) (s2:ByteArray) (r2:Int) (BN:∀W,Calls Tryz.prog 18 #[.agg #[.int .i64 T,.int .i64 Dt,.int .i64 F,.slice so n cap]] W (fun e w'=>e= .returned (.tuple #[.pointer none,.pointer none,.bool false])∧Below W.heap.size W w')):Calls Tryz.prog 8 #[.agg #[.int .i64 T,.int .i64 Dt,.int .i64 F,.slice so n cap],.agg #[k1,p1,q1,s1,r1],.agg #[k2,p2,q2,s2,r2]] w (BoolPost w true):=by
 have HG:=Lib.hid hg
 have HBN:=Lib.hid BN
 clear hg BN
 go_enter Tryz.func8,Tryz.ntmps8
 go_wp2_with fail
 refine(HBN.out _).mono ?_
 rintro e w1 ⟨rfl,hb⟩
 have Hw1:=hkh hb (zAh _ _ _ _)
 have Ha1:=hkh hb (zAY _ _ _ _)
 have Hb1:=hkh hb (zAX _ _ _ _)
 have HW1:=hbn (zAL _ _ _ _) hb
 have hz1:=hb.size
 try simp at hz1
 clear hb
 go_wp2_with fail
 refine(zBf _ (HG.out.stays HW1.out)).mono ?_
 rintro e w9 ⟨rfl,hb⟩
 have HW9:=zAC HW1.out hb
 go_wp2
 go_ret
 exact⟨rfl,HW9⟩
theorem reduces_errA (w:World) (hg:Glob w) (T Dt F:Int) (so:Option Addr) (n cap:Nat) (k1 p1 q1:Int) (s1:ByteArray) (r1:Int) (k2 p2 q2:Int) (s2:ByteArray) (r2:Int) (nk:Int) (vk vp vq:Int) (vs:ByteArray) (vr:Int) (fk fp fq:Int) (fs:ByteArray) (fr:Int) (nl:List V) (na:Int) (ns:ByteArray) (BO:∀W,Below w.heap.size w W→Calls Tryz.prog 18 #[.agg #[.int .i64 T,.int .i64 Dt,.int .i64 F,.slice so n cap]] W (fun e w'=>∃hp hs:Nat,e= .returned (.tuple #[.pointer (some ⟨hp,0,none⟩),.pointer (some ⟨hs,0,none⟩),.bool true])∧(BinAt hp w' 14 (.agg #[k1,p1,q1,s1,r1]) (.agg #[k2,p2,q2,s2,r2]) ⟨3,⟨vk,vp,vq,vs,vr⟩,⟨fk,fp,fq,fs,fr⟩,nl,na,ns⟩)∧Below W.heap.size W w')) (VA:∀W,Calls Tryz.prog 26 #[.agg #[k1,p1,q1,s1,r1]] W (BoolPost W false)):Calls Tryz.prog 8 #[.agg #[.int .i64 T,.int .i64 Dt,.int .i64 F,.slice so n cap],.agg #[k1,p1,q1,s1,r1],.agg #[k2,p2,q2,s2,r2]] w (BoolPost w true):=by
 have HG:=Lib.hid hg
 have HBO:=Lib.hid BO
 have HVA:=Lib.hid VA
 clear hg BO VA
 go_enter Tryz.func8,Tryz.ntmps8
 go_wp2_with fail
 refine(HBO.out _ (zAL _ _ _ _)).mono ?_
 rintro e w1 ⟨hp,hs,rfl,hq,hb⟩
 have hQ14:=hq
 have HQ14:=Lib.hid hQ14
 clear hQ14
 clear hq
 have Hw1:=hkh hb (zAh _ _ _ _)
 have Ha1:=hkh hb (zAY _ _ _ _)
 have Hb1:=hkh hb (zAX _ _ _ _)
 have HW1:=hbn (zAL _ _ _ _) hb
 have hz1:=hb.size
 try simp at hz1
 clear hb
 have hya:w.heap.size+1<w1.heap.size:=hsz Ha1
 obtain⟨a0,a1,a2,a3,a4⟩:=cells5 Ha1.out
 have hyb:w.heap.size+1+1<w1.heap.size:=hsz Hb1
 obtain⟨b0,b1,b2,b3,b4⟩:=cells5 Hb1.out
 go_wp2_with fail
 refine(HQ14.out _ (Below.refl _ _)).mono ?_
 rintro e w2 ⟨av,rfl,hA,hb⟩
 obtain⟨uo,un,uc,rfl⟩:=hA.shape
 clear hA
 have Hw2:=hkh hb Hw1.out
 have Ha2:=hkh hb Ha1.out
 have Hb2:=hkh hb Hb1.out
 have HW2:=hbn HW1.out hb
 have hz2:=hb.size
 try simp at hz2
 have HV2:=hbn (Below.refl _ _) hb
 clear hb
 clear hya a0 a1 a2 a3 a4 hyb b0 b1 b2 b3 b4
 have hya:w.heap.size+1<w2.heap.size:=hsz Ha2
 obtain⟨a0,a1,a2,a3,a4⟩:=cells5 Ha2.out
 have hyb:w.heap.size+1+1<w2.heap.size:=hsz Hb2
 obtain⟨b0,b1,b2,b3,b4⟩:=cells5 Hb2.out
 go_wp2_with fail
 refine(HVA.out _).mono ?_
 rintro e w3 ⟨rfl,hb⟩
 have Hw3:=hkh hb (zAI Hw2.out _)
 have Ha3:=hkh hb (zAI Ha2.out _)
 have Hb3:=hkh hb (zAI Hb2.out _)
 have Hn3:=hkh hb (heap1 w2 (.cells #[.int .i64 3,vk,vp,vq,vs,vr,fk,fp,fq,fs,fr,.slice uo un uc,na,ns] 43))
 have HW3:=hbn (HW2.out.alloc HW2.out.size _) hb
 have hz3:=hb.size
 try simp at hz3
 have HV3:=hbn (HV2.out.alloc HV2.out.size _) hb
 clear hb
 clear hya a0 a1 a2 a3 a4 hyb b0 b1 b2 b3 b4
 have hya:w.heap.size+1<w3.heap.size:=hsz Ha3
 obtain⟨a0,a1,a2,a3,a4⟩:=cells5 Ha3.out
 have hyb:w.heap.size+1+1<w3.heap.size:=hsz Hb3
 obtain⟨b0,b1,b2,b3,b4⟩:=cells5 Hb3.out
 go_wp2_with fail
 refine(zBf _ (HG.out.stays HW3.out)).mono ?_
 rintro e w9 ⟨rfl,hb⟩
 have HW9:=zAC HW3.out hb
 go_wp2
 go_ret
 exact⟨rfl,HW9⟩
theorem reduces_errB (w:World) (hg:Glob w) (T Dt F:Int) (so:Option Addr) (n cap:Nat) (k1 p1 q1:Int) (s1:ByteArray) (r1:Int) (k2 p2 q2:Int) (s2:ByteArray) (r2:Int) (nk:Int) (vk vp vq:Int) (vs:ByteArray) (vr:Int) (fk fp fq:Int) (fs:ByteArray) (fr:Int) (nl:List V) (na:Int) (ns:ByteArray) (BO:∀W,Below w.heap.size w W→Calls Tryz.prog 18 #[.agg #[.int .i64 T,.int .i64 Dt,.int .i64 F,.slice so n cap]] W (fun e w'=>∃hp hs:Nat,e= .returned (.tuple #[.pointer (some ⟨hp,0,none⟩),.pointer (some ⟨hs,0,none⟩),.bool true])∧(BinAt hp w' 14 (.agg #[k1,p1,q1,s1,r1]) (.agg #[k2,p2,q2,s2,r2]) ⟨3,⟨vk,vp,vq,vs,vr⟩,⟨fk,fp,fq,fs,fr⟩,nl,na,ns⟩)∧Below W.heap.size W w')) (VA:∀W,Calls Tryz.prog 26 #[.agg #[k1,p1,q1,s1,r1]] W (BoolPost W true)) (VB:∀W,Calls Tryz.prog 26 #[.agg #[k2,p2,q2,s2,r2]] W (BoolPost W false)):Calls Tryz.prog 8 #[.agg #[.int .i64 T,.int .i64 Dt,.int .i64 F,.slice so n cap],.agg #[k1,p1,q1,s1,r1],.agg #[k2,p2,q2,s2,r2]] w (BoolPost w true):=by
 have HG:=Lib.hid hg
 have HBO:=Lib.hid BO
 have HVA:=Lib.hid VA
 have HVB:=Lib.hid VB
 clear hg BO VA VB
 go_enter Tryz.func8,Tryz.ntmps8
 go_wp2_with fail
 refine(HBO.out _ (zAL _ _ _ _)).mono ?_
 rintro e w1 ⟨hp,hs,rfl,hq,hb⟩
 have hQ14:=hq
 have HQ14:=Lib.hid hQ14
 clear hQ14
 clear hq
 have Hw1:=hkh hb (zAh _ _ _ _)
 have Ha1:=hkh hb (zAY _ _ _ _)
 have Hb1:=hkh hb (zAX _ _ _ _)
 have HW1:=hbn (zAL _ _ _ _) hb
 have hz1:=hb.size
 try simp at hz1
 clear hb
 have hya:w.heap.size+1<w1.heap.size:=hsz Ha1
 obtain⟨a0,a1,a2,a3,a4⟩:=cells5 Ha1.out
 have hyb:w.heap.size+1+1<w1.heap.size:=hsz Hb1
 obtain⟨b0,b1,b2,b3,b4⟩:=cells5 Hb1.out
 go_wp2_with fail
 refine(HQ14.out _ (Below.refl _ _)).mono ?_
 rintro e w2 ⟨av,rfl,hA,hb⟩
 obtain⟨uo,un,uc,rfl⟩:=hA.shape
 clear hA
 have Hw2:=hkh hb Hw1.out
 have Ha2:=hkh hb Ha1.out
 have Hb2:=hkh hb Hb1.out
 have HW2:=hbn HW1.out hb
 have hz2:=hb.size
 try simp at hz2
 have HV2:=hbn (Below.refl _ _) hb
 clear hb
 clear hya a0 a1 a2 a3 a4 hyb b0 b1 b2 b3 b4
 have hya:w.heap.size+1<w2.heap.size:=hsz Ha2
 obtain⟨a0,a1,a2,a3,a4⟩:=cells5 Ha2.out
 have hyb:w.heap.size+1+1<w2.heap.size:=hsz Hb2
 obtain⟨b0,b1,b2,b3,b4⟩:=cells5 Hb2.out
 go_wp2_with fail
 refine(HVA.out _).mono ?_
 rintro e w3 ⟨rfl,hb⟩
 have Hw3:=hkh hb (zAI Hw2.out _)
 have Ha3:=hkh hb (zAI Ha2.out _)
 have Hb3:=hkh hb (zAI Hb2.out _)
 have Hn3:=hkh hb (heap1 w2 (.cells #[.int .i64 3,vk,vp,vq,vs,vr,fk,fp,fq,fs,fr,.slice uo un uc,na,ns] 43))
 have HW3:=hbn (HW2.out.alloc HW2.out.size _) hb
 have hz3:=hb.size
 try simp at hz3
 have HV3:=hbn (HV2.out.alloc HV2.out.size _) hb
 clear hb
 clear hya a0 a1 a2 a3 a4 hyb b0 b1 b2 b3 b4
 have hya:w.heap.size+1<w3.heap.size:=hsz Ha3
 obtain⟨a0,a1,a2,a3,a4⟩:=cells5 Ha3.out
 have hyb:w.heap.size+1+1<w3.heap.size:=hsz Hb3
 obtain⟨b0,b1,b2,b3,b4⟩:=cells5 Hb3.out
 go_wp2_with fail
 refine(HVB.out _).mono ?_
 rintro e w4 ⟨rfl,hb⟩
 have Hw4:=hkh hb Hw3.out
 have Ha4:=hkh hb Ha3.out
 have Hb4:=hkh hb Hb3.out
 have Hn4:=hkh hb Hn3.out
 have HW4:=hbn HW3.out hb
 have hz4:=hb.size
 try simp at hz4
 have HV4:=hbn HV3.out hb
 clear hb
 clear hya a0 a1 a2 a3 a4 hyb b0 b1 b2 b3 b4
 have hya:w.heap.size+1<w4.heap.size:=hsz Ha4
 obtain⟨a0,a1,a2,a3,a4⟩:=cells5 Ha4.out
 have hyb:w.heap.size+1+1<w4.heap.size:=hsz Hb4
 obtain⟨b0,b1,b2,b3,b4⟩:=cells5 Hb4.out
 go_wp2_with fail
 refine(zBf _ (HG.out.stays HW4.out)).mono ?_
 rintro e w9 ⟨rfl,hb⟩
 have HW9:=zAC HW4.out hb
 go_wp2
 go_ret
 exact⟨rfl,HW9⟩
theorem reduces_ok (w:World) (hg:Glob w) (T Dt F:Int) (so:Option Addr) (n cap:Nat) (k1 p1 q1:Int) (s1:ByteArray) (r1:Int) (k2 p2 q2:Int) (s2:ByteArray) (r2:Int) (nk:Int) (vk vp vq:Int) (vs:ByteArray) (vr:Int) (fk fp fq:Int) (fs:ByteArray) (fr:Int) (nl:List V) (na:Int) (ns:ByteArray) (N5 N8 N9:Nd) (BO:∀W,Below w.heap.size w W→Calls Tryz.prog 18 #[.agg #[.int .i64 T,.int .i64 Dt,.int .i64 F,.slice so n cap]] W (fun e w'=>∃hp hs:Nat,e= .returned (.tuple #[.pointer (some ⟨hp,0,none⟩),.pointer (some ⟨hs,0,none⟩),.bool true])∧(BinAt hp w' 14 (.agg #[k1,p1,q1,s1,r1]) (.agg #[k2,p2,q2,s2,r2]) ⟨nk,⟨vk,vp,vq,vs,vr⟩,⟨fk,fp,fq,fs,fr⟩,nl,na,ns⟩∧BinAt hp w' 15 (.agg #[k1,p1,q1,s1,r1]) (.agg #[k2,p2,q2,s2,r2]) N5∧BinAt hp w' 18 (.agg #[k1,p1,q1,s1,r1]) (.agg #[k2,p2,q2,s2,r2]) N8∧BinAt hp w' 16 (.agg #[k2,p2,q2,s2,r2]) (.agg #[k1,p1,q1,s1,r1]) N8∧BinAt hp w' 19 (.agg #[k1,p1,q1,s1,r1]) (.agg #[k2,p2,q2,s2,r2]) N9∧BinAt hp w' 17 (.agg #[k2,p2,q2,s2,r2]) (.agg #[k1,p1,q1,s1,r1]) N9)∧Below W.heap.size W w')) (hn:(nk==3)=false) (IV:∀W uo un uc,Calls Tryz.prog 27 #[.agg #[nk,vk,vp,vq,vs,vr,fk,fp,fq,fs,fr,.slice uo un uc,na,ns]] W (fun e w'=>e= .returned (ndV N5 (.slice uo un uc))∧Below W.heap.size W w')) (hl:nl=N5.args) (S5:SameAt N5) (S8:SameAt N8) (S9:SameAt N9):Calls Tryz.prog 8 #[.agg #[.int .i64 T,.int .i64 Dt,.int .i64 F,.slice so n cap],.agg #[k1,p1,q1,s1,r1],.agg #[k2,p2,q2,s2,r2]] w (BoolPost w true):=by
 have HG:=Lib.hid hg
 have HBO:=Lib.hid BO
 have HIV:=Lib.hid IV
 have HS5:=Lib.hid S5
 have HS8:=Lib.hid S8
 have HS9:=Lib.hid S9
 clear hg BO IV S5 S8 S9
 have HL:=Lib.hid hl
 clear hl
 go_enter Tryz.func8,Tryz.ntmps8
 go_wp2_with fail
 refine(HBO.out _ (zAL _ _ _ _)).mono ?_
 rintro e w1 ⟨hp,hs,rfl,hq,hb⟩
 obtain⟨hQ14,hQ15,hQ18,hQ16,hQ19,hQ17⟩:=hq
 have HQ14:=Lib.hid hQ14
 have HQ15:=Lib.hid hQ15
 have HQ18:=Lib.hid hQ18
 have HQ16:=Lib.hid hQ16
 have HQ19:=Lib.hid hQ19
 have HQ17:=Lib.hid hQ17
 clear hQ14 hQ15 hQ18 hQ16 hQ19 hQ17
 have Hw1:=hkh hb (zAh _ _ _ _)
 have Ha1:=hkh hb (zAY _ _ _ _)
 have Hb1:=hkh hb (zAX _ _ _ _)
 have HW1:=hbn (zAL _ _ _ _) hb
 have hz1:=hb.size
 try simp at hz1
 clear hb
 have hya:w.heap.size+1<w1.heap.size:=hsz Ha1
 obtain⟨a0,a1,a2,a3,a4⟩:=cells5 Ha1.out
 have hyb:w.heap.size+1+1<w1.heap.size:=hsz Hb1
 obtain⟨b0,b1,b2,b3,b4⟩:=cells5 Hb1.out
 go_wp2_with fail
 refine(HQ14.out _ (Below.refl _ _)).mono ?_
 rintro e w2 ⟨av,rfl,hA,hb⟩
 obtain⟨uo,un,uc,rfl⟩:=hA.shape
 have HA2:=Lib.hid hA
 clear hA
 have Hw2:=hkh hb Hw1.out
 have Ha2:=hkh hb Ha1.out
 have Hb2:=hkh hb Hb1.out
 have HW2:=hbn HW1.out hb
 have hz2:=hb.size
 try simp at hz2
 have HV2:=hbn (Below.refl _ _) hb
 clear hb
 clear hya a0 a1 a2 a3 a4 hyb b0 b1 b2 b3 b4
 have hya:w.heap.size+1<w2.heap.size:=hsz Ha2
 obtain⟨a0,a1,a2,a3,a4⟩:=cells5 Ha2.out
 have hyb:w.heap.size+1+1<w2.heap.size:=hsz Hb2
 obtain⟨b0,b1,b2,b3,b4⟩:=cells5 Hb2.out
 go_wp2
 obtain⟨D,hD⟩:∃D,D=w2.alloc (.cells #[nk,vk,vp,vq,vs,vr,fk,fp,fq,fs,fr,.slice uo un uc,na,ns] 43):=⟨_,rfl⟩
 rw[←hD]
 have HBD:=Lib.hid (show Below w.heap.size w D by rw[hD];exact HW2.out.alloc HW2.out.size _)
 have HVD:=Lib.hid (show Below w1.heap.size w1 D by rw[hD];exact HV2.out.alloc HV2.out.size _)
 have HEQ:=Lib.hid (show ArgsAt D w1.heap.size (.slice uo un uc) nl by rw[hD];exact HA2.out.below (zAm _ _))
 have HDa:=Lib.hid (show D.heap[w.heap.size+1]? =some (oV k1 p1 q1 s1 r1) by rw[hD];exact zAI Ha2.out _)
 have HDb:=Lib.hid (show D.heap[w.heap.size+1+1]? =some (oV k2 p2 q2 s2 r2) by rw[hD];exact zAI Hb2.out _)
 have HDn:=Lib.hid (show D.heap[w2.heap.size]? =some (.cells #[nk,vk,vp,vq,vs,vr,fk,fp,fq,fs,fr,.slice uo un uc,na,ns] 43) by rw[hD];exact heap1 w2 (.cells #[nk,vk,vp,vq,vs,vr,fk,fp,fq,fs,fr,.slice uo un uc,na,ns] 43))
 clear hD
 have SOU:=Lib.hid (fun(V:World) (hb:Below D.heap.size D V)=>(show V.cell? ⟨w.heap.size+1,0,none⟩=some (.int .i64 k1)∧V.cell? ⟨w.heap.size+1,1,none⟩=some (.int .i64 p1)∧V.cell? ⟨w.heap.size+1,2,none⟩=some (.int .i64 q1)∧V.cell? ⟨w.heap.size+1,3,none⟩=some (.string s1)∧V.cell? ⟨w.heap.size+1,4,none⟩=some (.int .i64 r1)∧V.cell? ⟨w.heap.size+1+1,0,none⟩=some (.int .i64 k2)∧V.cell? ⟨w.heap.size+1+1,1,none⟩=some (.int .i64 p2)∧V.cell? ⟨w.heap.size+1+1,2,none⟩=some (.int .i64 q2)∧V.cell? ⟨w.heap.size+1+1,3,none⟩=some (.string s2)∧V.cell? ⟨w.heap.size+1+1,4,none⟩=some (.int .i64 r2)∧V.cell? ⟨w2.heap.size,0,none⟩=some (.int .i64 nk)∧V.cell? ⟨w2.heap.size,1,none⟩=some (.int .i64 vk)∧V.cell? ⟨w2.heap.size,2,none⟩=some (.int .i64 vp)∧V.cell? ⟨w2.heap.size,3,none⟩=some (.int .i64 vq)∧V.cell? ⟨w2.heap.size,4,none⟩=some (.string vs)∧V.cell? ⟨w2.heap.size,5,none⟩=some (.int .i64 vr)∧V.cell? ⟨w2.heap.size,6,none⟩=some (.int .i64 fk)∧V.cell? ⟨w2.heap.size,7,none⟩=some (.int .i64 fp)∧V.cell? ⟨w2.heap.size,8,none⟩=some (.int .i64 fq)∧V.cell? ⟨w2.heap.size,9,none⟩=some (.string fs)∧V.cell? ⟨w2.heap.size,10,none⟩=some (.int .i64 fr)∧V.cell? ⟨w2.heap.size,11,none⟩=some (.slice uo un uc)∧V.cell? ⟨w2.heap.size,12,none⟩=some (.int .i64 na)∧V.cell? ⟨w2.heap.size,13,none⟩=some (.string ns)∧Hid (Below D.heap.size D V) from⟨by rw[zAA (hkeep hb HDa.out)];rfl,by rw[zAA (hkeep hb HDa.out)];rfl,by rw[zAA (hkeep hb HDa.out)];rfl,by rw[zAA (hkeep hb HDa.out)];rfl,by rw[zAA (hkeep hb HDa.out)];rfl,by rw[zAA (hkeep hb HDb.out)];rfl,by rw[zAA (hkeep hb HDb.out)];rfl,by rw[zAA (hkeep hb HDb.out)];rfl,by rw[zAA (hkeep hb HDb.out)];rfl,by rw[zAA (hkeep hb HDb.out)];rfl,by rw[zAA (hkeep hb HDn.out)];rfl,by rw[zAA (hkeep hb HDn.out)];rfl,by rw[zAA (hkeep hb HDn.out)];rfl,by rw[zAA (hkeep hb HDn.out)];rfl,by rw[zAA (hkeep hb HDn.out)];rfl,by rw[zAA (hkeep hb HDn.out)];rfl,by rw[zAA (hkeep hb HDn.out)];rfl,by rw[zAA (hkeep hb HDn.out)];rfl,by rw[zAA (hkeep hb HDn.out)];rfl,by rw[zAA (hkeep hb HDn.out)];rfl,by rw[zAA (hkeep hb HDn.out)];rfl,by rw[zAA (hkeep hb HDn.out)];rfl,by rw[zAA (hkeep hb HDn.out)];rfl,by rw[zAA (hkeep hb HDn.out)];rfl,Lib.hid hb⟩))
 have hbRU:Below D.heap.size D D:=Below.refl _ _
 have hbDU:Below D.heap.size D D.drew:=(Below.refl _ _).drew
 go_region_held3 (fun w'=>w'.cell? ⟨w.heap.size+1,0,none⟩=some (.int .i64 k1)∧w'.cell? ⟨w.heap.size+1,1,none⟩=some (.int .i64 p1)∧w'.cell? ⟨w.heap.size+1,2,none⟩=some (.int .i64 q1)∧w'.cell? ⟨w.heap.size+1,3,none⟩=some (.string s1)∧w'.cell? ⟨w.heap.size+1,4,none⟩=some (.int .i64 r1)∧w'.cell? ⟨w.heap.size+1+1,0,none⟩=some (.int .i64 k2)∧w'.cell? ⟨w.heap.size+1+1,1,none⟩=some (.int .i64 p2)∧w'.cell? ⟨w.heap.size+1+1,2,none⟩=some (.int .i64 q2)∧w'.cell? ⟨w.heap.size+1+1,3,none⟩=some (.string s2)∧w'.cell? ⟨w.heap.size+1+1,4,none⟩=some (.int .i64 r2)∧w'.cell? ⟨w2.heap.size,0,none⟩=some (.int .i64 nk)∧w'.cell? ⟨w2.heap.size,1,none⟩=some (.int .i64 vk)∧w'.cell? ⟨w2.heap.size,2,none⟩=some (.int .i64 vp)∧w'.cell? ⟨w2.heap.size,3,none⟩=some (.int .i64 vq)∧w'.cell? ⟨w2.heap.size,4,none⟩=some (.string vs)∧w'.cell? ⟨w2.heap.size,5,none⟩=some (.int .i64 vr)∧w'.cell? ⟨w2.heap.size,6,none⟩=some (.int .i64 fk)∧w'.cell? ⟨w2.heap.size,7,none⟩=some (.int .i64 fp)∧w'.cell? ⟨w2.heap.size,8,none⟩=some (.int .i64 fq)∧w'.cell? ⟨w2.heap.size,9,none⟩=some (.string fs)∧w'.cell? ⟨w2.heap.size,10,none⟩=some (.int .i64 fr)∧w'.cell? ⟨w2.heap.size,11,none⟩=some (.slice uo un uc)∧w'.cell? ⟨w2.heap.size,12,none⟩=some (.int .i64 na)∧w'.cell? ⟨w2.heap.size,13,none⟩=some (.string ns)∧Hid (Below D.heap.size D w'))
  (first|with_reducible exact SOU.out _ (by assumption))
  (first|(go_at_call 20;(with_reducible refine(HQ15.out _ (zAC HVD.out (prj24r (by assumption)))).mono ?_);rintro e n1 ⟨av5,rfl,hA,hb⟩;have hb1:=zAC (prj24r (by assumption)) hb;have HAav5:=Lib.hid hA;clear hA;clear hb)|(go_at_call 27;(with_reducible refine(HIV.out _ _ _ _).mono ?_);rintro e n2 ⟨rfl,hb⟩;have hb2:=zAC (prj24r (by assumption)) hb;have HA5b:=Lib.hid (HAav5.out.below hb);have HE5:=Lib.hid (HEQ.out.below hb2);clear hb)|(go_at_call 19;(with_reducible refine(HS5.out _ _ _ _ _ HA5b.out (HL.out▸HE5.out)).mono ?_);rintro e n3 ⟨rfl,hb⟩;have hb3:=zAC (prj24r (by assumption)) hb;skip;clear hb)|(go_at_call 20;(with_reducible refine(HQ18.out _ (zAC HVD.out (prj24r (by assumption)))).mono ?_);rintro e n4 ⟨av8,rfl,hA,hb⟩;have hb4:=zAC (prj24r (by assumption)) hb;have HAav8:=Lib.hid hA;clear hA;clear hb)|(go_at_call 20;(with_reducible refine(HQ16.out _ (zAC HVD.out (prj24r (by assumption)))).mono ?_);rintro e n5 ⟨av6,rfl,hA,hb⟩;have hb5:=zAC (prj24r (by assumption)) hb;have HA8b:=Lib.hid (HAav8.out.below hb);have HAav6:=Lib.hid hA;clear hA;clear hb)|(go_at_call 19;(with_reducible refine(HS8.out _ _ _ _ _ HA8b.out HAav6.out).mono ?_);rintro e n6 ⟨rfl,hb⟩;have hb6:=zAC (prj24r (by assumption)) hb;skip;clear hb)|(go_at_call 20;(with_reducible refine(HQ19.out _ (zAC HVD.out (prj24r (by assumption)))).mono ?_);rintro e n7 ⟨av9,rfl,hA,hb⟩;have hb7:=zAC (prj24r (by assumption)) hb;have HAav9:=Lib.hid hA;clear hA;clear hb)|(go_at_call 20;(with_reducible refine(HQ17.out _ (zAC HVD.out (prj24r (by assumption)))).mono ?_);rintro e n8 ⟨av7,rfl,hA,hb⟩;have hb8:=zAC (prj24r (by assumption)) hb;have HA9b:=Lib.hid (HAav9.out.below hb);have HAav7:=Lib.hid hA;clear hA;clear hb)|(go_at_call 19;(with_reducible refine(HS9.out _ _ _ _ _ HA9b.out HAav7.out).mono ?_);rintro e n9 ⟨rfl,hb⟩;have hb9:=zAC (prj24r (by assumption)) hb;skip;clear hb)|(go_at_call 13;(with_reducible refine(zBf _ (HG.out.stays (zAC HBD.out (prj24r (by assumption))))).mono ?_);rintro e n10 ⟨rfl,hb⟩;have hb10:=zAC (prj24r (by assumption)) hb;skip;clear hb))
 all_goals go_wp2
 all_goals go_ret
 all_goals exact⟨rfl,zAC HBD.out (by assumption)⟩
theorem same_at (N:Nd):SameAt N:=by
 obtain⟨nk,⟨vk,vp,vq,vs,vr⟩,⟨fk,fp,fq,fs,fr⟩,nl,na,ns⟩:=N
 intro W base base' av av' h1 h2
 rcases h1 with⟨e1,rfl⟩|⟨g,a,b,e1,rfl,_,hg⟩
 ·rcases h2 with⟨_,rfl⟩|⟨g,a,b,e2,_⟩
  ·exact same_nil W nk vk vp vq vs vr fk fp fq fs fr na ns
  ·rw[e1] at e2;cases e2
 ·rcases h2 with⟨e2,_⟩|⟨g',a',b',e2,rfl,_,hg'⟩
  ·rw[e1] at e2;cases e2
  ·rw[e1] at e2
   injection e2 with e3 e4
   injection e4 with e4
   subst e3 e4
   exact same_two W nk vk vp vq vs vr fk fp fq fs fr na ns a.k a.p a.q a.s a.r b.k b.p b.q b.s b.r g g' hg hg'
theorem invert_c (nk vk vp vq:Int) (vs:ByteArray) (vr fk fp fq:Int) (fs:ByteArray) (fr:Int) (nl:List V) (na:Int) (ns:ByteArray) (h1:nk=1→ -1000≤vr∧vr≤1000) (h2:nk=2→na=2) (W:World) (so:Option Addr) (m cap:Nat):
  Calls Tryz.prog 27 #[.agg #[nk,vk,vp,vq,vs,vr,fk,fp,fq,fs,fr,.slice so m cap,na,ns]] W (fun e w'=>e= .returned (ndV (invertM ⟨nk,⟨vk,vp,vq,vs,vr⟩,⟨fk,fp,fq,fs,fr⟩,nl,na,ns⟩) (.slice so m cap))∧Below W.heap.size W w'):=by
 by_cases c1:nk=1
 ·subst c1
  exact inverted_val W vk vp vq vs vr fk fp fq fs fr na ns so m cap (h1 rfl).1 (h1 rfl).2
 by_cases c2:nk=2
 ·subst c2
  have e:=h2 rfl
  exact inverted_call W vk vp vq vs vr fk fp fq fs fr na ns so m cap (by omega) (by omega)
 have e:invertM ⟨nk,⟨vk,vp,vq,vs,vr⟩,⟨fk,fp,fq,fs,fr⟩,nl,na,ns⟩=⟨nk,⟨vk,vp,vq,vs,vr⟩,⟨fk,fp,fq,fs,fr⟩,nl,na,ns⟩:=by
  unfold invertM
  rw[if_neg c1,if_neg c2]
 rw[e]
 exact inverted_err W nk vk vp vq vs vr fk fp fq fs fr na ns so m cap (by rw[beq_eq_false_iff_ne];exact c1) (by rw[beq_eq_false_iff_ne];exact c2)
theorem reduces_law (w:World) (hg:Glob w) (T Dt F:Int) (so:Option Addr) (cap:Nat) (fs:List Fd) (k1 p1 q1:Int) (s1:ByteArray) (r1:Int) (k2 p2 q2:Int) (s2:ByteArray) (r2:Int) (wa:WfV ⟨k1,p1,q1,s1,r1⟩) (wb:WfV ⟨k2,p2,q2,s2,r2⟩) (wf:∀f∈fs,FdWf f)
  (hfa:0<fs.length→∃g o,so=some ⟨g,o,none⟩∧g<w.heap.size∧∀k f,fs[k]? =some f→∀j c,f.cells[j]? =some c→w.cell? ⟨g,o+k*9+j,none⟩=some c):
  Calls Tryz.prog 8 #[.agg #[.int .i64 T,.int .i64 Dt,.int .i64 F,.slice so fs.length cap],.agg #[k1,p1,q1,s1,r1],.agg #[k2,p2,q2,s2,r2]] w (BoolPost w true):=by
 by_cases hok:WorldOk T Dt F fs.length
 rotate_left
 ·exact reduces_no w hg T Dt F so fs.length cap k1 p1 q1 s1 r1 k2 p2 q2 s2 r2 (fun W=>build_no W T Dt F so fs.length cap hok)
 obtain⟨t0,t1,d0,d1,f0,f1,hn⟩:=hok
 obtain⟨T,rfl⟩:=Int.eq_ofNat_of_zero_le t0
 obtain⟨Dt,rfl⟩:=Int.eq_ofNat_of_zero_le d0
 obtain⟨F,rfl⟩:=Int.eq_ofNat_of_zero_le f0
 have BO:=fun W (hb:Below w.heap.size w W)=>build_ok W T Dt F (by omega) (by omega) (by omega) fs hn wf so cap (fun h=>by
  obtain⟨g,o,rfl,hgl,hc⟩:=hfa h
  exact⟨g,o,rfl,Nat.lt_of_lt_of_le hgl hb.size,fun k f hk j c hj=>(hb.cell (p:=⟨g,o+k*9+j,none⟩) hgl).trans (hc k f hk j c hj)⟩)
 obtain⟨M,hM⟩:∃M,buildM T Dt F fs=M:=⟨_,rfl⟩
 rw[hM] at BO
 clear hM
 have QAB:∀(base hp:Nat) (w':World),PHp base fs.length w' hp M→Glob w'→∀o,BinAt hp w' o (.agg #[k1,p1,q1,s1,r1]) (.agg #[k2,p2,q2,s2,r2]) (zAw (handH M) o ⟨k1,p1,q1,s1,r1⟩ ⟨k2,p2,q2,s2,r2⟩):=fun base hp w' hP hg' o W hb=>
  pBinary_c W (hg'.stays hb) (some ⟨hp,0,none⟩) (handH M) ((php_hand hP (by omega)).stays hb) o k1 p1 q1 s1 r1 k2 p2 q2 s2 r2 wa.k wa.r wb.k wb.r
 have QBA:∀(base hp:Nat) (w':World),PHp base fs.length w' hp M→Glob w'→∀o,BinAt hp w' o (.agg #[k2,p2,q2,s2,r2]) (.agg #[k1,p1,q1,s1,r1]) (zAw (handH M) o ⟨k2,p2,q2,s2,r2⟩ ⟨k1,p1,q1,s1,r1⟩):=fun base hp w' hP hg' o W hb=>
  pBinary_c W (hg'.stays hb) (some ⟨hp,0,none⟩) (handH M) ((php_hand hP (by omega)).stays hb) o k2 p2 q2 s2 r2 k1 p1 q1 s1 r1 wb.k wb.r wa.k wa.r
 obtain⟨e1,e2⟩:=eq_val (hand:=handH M) (a:=⟨k1,p1,q1,s1,r1⟩) (b:=⟨k2,p2,q2,s2,r2⟩)
 have en:=eq_err (hand:=handH M) (a:=⟨k1,p1,q1,s1,r1⟩) (b:=⟨k2,p2,q2,s2,r2⟩)
 have ei:=ne_inv (hand:=handH M) (a:=⟨k1,p1,q1,s1,r1⟩) (b:=⟨k2,p2,q2,s2,r2⟩)
 obtain⟨⟨nk,⟨vk,vp,vq,vs,vr⟩,⟨fk,fp,fq,ft,fr⟩,nl,na,ns⟩,hN⟩:∃X,zAw (handH M) 14 ⟨k1,p1,q1,s1,r1⟩ ⟨k2,p2,q2,s2,r2⟩=X:=⟨_,rfl⟩
 rw[hN] at e1 e2 en ei
 have VA:=fun W=>zBj W k1 p1 q1 s1 r1
 have VB:=fun W=>zBj W k2 p2 q2 s2 r2
 by_cases h3:nk=3
 ·subst h3
  have B3:=fun W (hb:Below w.heap.size w W)=>(BO W hb).mono (fun e w' ⟨hp,hs,he,hP,_,hb'⟩=>(⟨hp,hs,he,by have:=QAB _ hp w' hP (hg.stays (zAC hb hb')) 14;rw[hN] at this;exact this,hb'⟩:∃hp hs:Nat,e=Ending.returned (.tuple #[.pointer (some ⟨hp,0,none⟩),.pointer (some ⟨hs,0,none⟩),.bool true])∧BinAt hp w' 14 (.agg #[k1,p1,q1,s1,r1]) (.agg #[k2,p2,q2,s2,r2]) ⟨3,⟨vk,vp,vq,vs,vr⟩,⟨fk,fp,fq,ft,fr⟩,nl,na,ns⟩∧Below W.heap.size W w'))
  cases hv1:zAi ⟨k1,p1,q1,s1,r1⟩ with
  |false=>
   rw[hv1] at VA
   exact reduces_errA w hg T Dt F so fs.length cap k1 p1 q1 s1 r1 k2 p2 q2 s2 r2 0 vk vp vq vs vr fk fp fq ft fr nl na ns B3 VA
  |true=>
   rw[hv1] at VA
   cases hv2:zAi ⟨k2,p2,q2,s2,r2⟩ with
   |false=>
    rw[hv2] at VB
    exact reduces_errB w hg T Dt F so fs.length cap k1 p1 q1 s1 r1 k2 p2 q2 s2 r2 0 vk vp vq vs vr fk fp fq ft fr nl na ns B3 VA VB
   |true=>
    rw[hv1,hv2] at en
    exact absurd (en rfl) (by simp)
 ·have h5:=ei h3
  have B6:=fun W (hb:Below w.heap.size w W)=>(BO W hb).mono (fun e w' ⟨hp,hs,he,hP,_,hb'⟩=>(⟨hp,hs,he,by
    have ab:=QAB _ hp w' hP (hg.stays (zAC hb hb'))
    have ba:=QBA _ hp w' hP (hg.stays (zAC hb hb'))
    have q14:=ab 14
    have q15:=ab 15
    have q18:=ab 18
    have q19:=ab 19
    rw[hN] at q14
    rw[h5] at q15
    rw[gt_lt] at q18
    rw[ge_le] at q19
    exact⟨q14,q15,q18,ba 16,q19,ba 17⟩,hb'⟩:∃hp hs:Nat,e=Ending.returned (.tuple #[.pointer (some ⟨hp,0,none⟩),.pointer (some ⟨hs,0,none⟩),.bool true])∧(BinAt hp w' 14 (.agg #[k1,p1,q1,s1,r1]) (.agg #[k2,p2,q2,s2,r2]) ⟨nk,⟨vk,vp,vq,vs,vr⟩,⟨fk,fp,fq,ft,fr⟩,nl,na,ns⟩∧BinAt hp w' 15 (.agg #[k1,p1,q1,s1,r1]) (.agg #[k2,p2,q2,s2,r2]) (invertM ⟨nk,⟨vk,vp,vq,vs,vr⟩,⟨fk,fp,fq,ft,fr⟩,nl,na,ns⟩)∧BinAt hp w' 18 (.agg #[k1,p1,q1,s1,r1]) (.agg #[k2,p2,q2,s2,r2]) (zAw (handH M) 16 ⟨k2,p2,q2,s2,r2⟩ ⟨k1,p1,q1,s1,r1⟩)∧BinAt hp w' 16 (.agg #[k2,p2,q2,s2,r2]) (.agg #[k1,p1,q1,s1,r1]) (zAw (handH M) 16 ⟨k2,p2,q2,s2,r2⟩ ⟨k1,p1,q1,s1,r1⟩)∧BinAt hp w' 19 (.agg #[k1,p1,q1,s1,r1]) (.agg #[k2,p2,q2,s2,r2]) (zAw (handH M) 17 ⟨k2,p2,q2,s2,r2⟩ ⟨k1,p1,q1,s1,r1⟩)∧BinAt hp w' 17 (.agg #[k2,p2,q2,s2,r2]) (.agg #[k1,p1,q1,s1,r1]) (zAw (handH M) 17 ⟨k2,p2,q2,s2,r2⟩ ⟨k1,p1,q1,s1,r1⟩))∧Below W.heap.size W w'))
  exact reduces_ok w hg T Dt F so fs.length cap k1 p1 q1 s1 r1 k2 p2 q2 s2 r2 nk vk vp vq vs vr fk fp fq ft fr nl na ns _ _ _ B6 (by rw[beq_eq_false_iff_ne];exact h3) (fun W uo un uc=>invert_c nk vk vp vq vs vr fk fp fq ft fr nl na ns e1 e2 W uo un uc) rfl (same_at _) (same_at _) (same_at _)
end Go.Proofs.YthkpckgcgkijbaaGreatDoor
