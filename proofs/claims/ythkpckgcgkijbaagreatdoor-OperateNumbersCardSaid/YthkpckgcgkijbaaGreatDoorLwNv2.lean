import Derived.Test.YthkpckgcgkijbaaGreatDoorLwB
import Derived.Test.YthkpckgcgkijbaaGreatDoorOpA
import Derived.Test.YthkpckgcgkijbaaGreatDoorLwN
import Derived.Test.YthkpckgcgkijbaaGreatDoorLwO
import Derived.Test.YthkpckgcgkijbaaGreatDoorHpCv3
set_option linter.unusedVariables false
set_option linter.unusedSimpArgs false
set_option maxRecDepth 100000
set_option maxHeartbeats 2000000
namespace Go.Proofs.YthkpckgcgkijbaaGreatDoor
open Go.RowKit Go.Proofs.Lexi
theorem numbers_badA (w:World) (hg:Glob w) (o:Int) (k1 p1 q1:Int) (s1:ByteArray) (r1:Int) (k2 p2 q2:Int) (s2:ByteArray) (r2:Int) (VA:∀W,Calls Tryz.prog 26 #[.agg #[k1,p1,q1,s1,r1]] W (BoolPost W false)):Calls Tryz.prog 9 #[o,.agg #[k1,p1,q1,s1,r1],.agg #[k2,p2,q2,s2,r2]] w (BoolPost w true):=by
 have HG:=Lib.hid hg
 have HVA:=Lib.hid VA
 clear hg VA
 go_enter Tryz.func9,Tryz.ntmps9
 go_wp2_with fail
 refine(HVA.out _).mono ?_
 rintro e w1 ⟨rfl,hb⟩
 have Ha1:=hkh hb (zAf _ _ _)
 have Hb1:=hkh hb (zAW _ _ _)
 have HW1:=hbn (zAF _ _ _) hb
 have hz1:=hb.size
 try simp at hz1
 clear hb
 have hya:w.heap.size<w1.heap.size:=hsz Ha1
 obtain⟨a0,a1,a2,a3,a4⟩:=cells5 Ha1.out
 have hyb:w.heap.size+1<w1.heap.size:=hsz Hb1
 obtain⟨b0,b1,b2,b3,b4⟩:=cells5 Hb1.out
 go_wp2_with fail
 refine(zBf _ (HG.out.stays HW1.out)).mono ?_
 rintro e w9 ⟨rfl,hb⟩
 go_wp2
 go_ret
 exact⟨rfl,zAC HW1.out hb⟩
theorem numbers_badB (w:World) (hg:Glob w) (o:Int) (k1 p1 q1:Int) (s1:ByteArray) (r1:Int) (k2 p2 q2:Int) (s2:ByteArray) (r2:Int) (VA:∀W,Calls Tryz.prog 26 #[.agg #[k1,p1,q1,s1,r1]] W (BoolPost W true)) (VB:∀W,Calls Tryz.prog 26 #[.agg #[k2,p2,q2,s2,r2]] W (BoolPost W false)):Calls Tryz.prog 9 #[o,.agg #[k1,p1,q1,s1,r1],.agg #[k2,p2,q2,s2,r2]] w (BoolPost w true):=by
 have HG:=Lib.hid hg
 have HVA:=Lib.hid VA
 have HVB:=Lib.hid VB
 clear hg VA VB
 go_enter Tryz.func9,Tryz.ntmps9
 go_wp2_with fail
 refine(HVA.out _).mono ?_
 rintro e w1 ⟨rfl,hb⟩
 have Ha1:=hkh hb (zAf _ _ _)
 have Hb1:=hkh hb (zAW _ _ _)
 have HW1:=hbn (zAF _ _ _) hb
 have hz1:=hb.size
 try simp at hz1
 clear hb
 have hyb:w.heap.size+1<w1.heap.size:=hsz Hb1
 obtain⟨b0,b1,b2,b3,b4⟩:=cells5 Hb1.out
 go_wp2_with fail
 refine(HVB.out _).mono ?_
 rintro e w2 ⟨rfl,hb⟩
 have Ha2:=hkh hb Ha1.out
 have Hb2:=hkh hb Hb1.out
 have HW2:=hbn HW1.out hb
 have hz2:=hb.size
 try simp at hz2
 clear hb
 clear hyb b0 b1 b2 b3 b4
 have hya:w.heap.size<w2.heap.size:=hsz Ha2
 obtain⟨a0,a1,a2,a3,a4⟩:=cells5 Ha2.out
 have hyb:w.heap.size+1<w2.heap.size:=hsz Hb2
 obtain⟨b0,b1,b2,b3,b4⟩:=cells5 Hb2.out
 go_wp2_with fail
 refine(zBf _ (HG.out.stays HW2.out)).mono ?_
 rintro e w9 ⟨rfl,hb⟩
 go_wp2
 go_ret
 exact⟨rfl,zAC HW2.out hb⟩
theorem numbers_kindA (w:World) (hg:Glob w) (o:Int) (k1 p1 q1:Int) (s1:ByteArray) (r1:Int) (k2 p2 q2:Int) (s2:ByteArray) (r2:Int) (VA:∀W,Calls Tryz.prog 26 #[.agg #[k1,p1,q1,s1,r1]] W (BoolPost W true)) (VB:∀W,Calls Tryz.prog 26 #[.agg #[k2,p2,q2,s2,r2]] W (BoolPost W true)) (h2:(k1 !=2)=true) (h3:(k1 !=3)=true):Calls Tryz.prog 9 #[o,.agg #[k1,p1,q1,s1,r1],.agg #[k2,p2,q2,s2,r2]] w (BoolPost w true):=by
 have HG:=Lib.hid hg
 have HVA:=Lib.hid VA
 have HVB:=Lib.hid VB
 clear hg VA VB
 go_enter Tryz.func9,Tryz.ntmps9
 go_wp2_with fail
 refine(HVA.out _).mono ?_
 rintro e w1 ⟨rfl,hb⟩
 have Ha1:=hkh hb (zAf _ _ _)
 have Hb1:=hkh hb (zAW _ _ _)
 have HW1:=hbn (zAF _ _ _) hb
 have hz1:=hb.size
 try simp at hz1
 clear hb
 have hyb:w.heap.size+1<w1.heap.size:=hsz Hb1
 obtain⟨b0,b1,b2,b3,b4⟩:=cells5 Hb1.out
 go_wp2_with fail
 refine(HVB.out _).mono ?_
 rintro e w2 ⟨rfl,hb⟩
 have Ha2:=hkh hb Ha1.out
 have Hb2:=hkh hb Hb1.out
 have HW2:=hbn HW1.out hb
 have hz2:=hb.size
 try simp at hz2
 clear hb
 clear hyb b0 b1 b2 b3 b4
 have hya:w.heap.size<w2.heap.size:=hsz Ha2
 obtain⟨a0,a1,a2,a3,a4⟩:=cells5 Ha2.out
 have hyb:w.heap.size+1<w2.heap.size:=hsz Hb2
 obtain⟨b0,b1,b2,b3,b4⟩:=cells5 Hb2.out
 go_wp2_with fail
 refine(zBf _ (HG.out.stays HW2.out)).mono ?_
 rintro e w9 ⟨rfl,hb⟩
 go_wp2
 go_ret
 exact⟨rfl,zAC HW2.out hb⟩
theorem numbers_kindB (w:World) (hg:Glob w) (o:Int) (k1 p1 q1:Int) (s1:ByteArray) (r1:Int) (k2 p2 q2:Int) (s2:ByteArray) (r2:Int) (VA:∀W,Calls Tryz.prog 26 #[.agg #[k1,p1,q1,s1,r1]] W (BoolPost W true)) (VB:∀W,Calls Tryz.prog 26 #[.agg #[k2,p2,q2,s2,r2]] W (BoolPost W true)) (ka:((k1 !=2)=false)∨((k1 !=2)=true∧(k1 !=3)=false)) (h4:(k2 !=2)=true) (h5:(k2 !=3)=true):Calls Tryz.prog 9 #[o,.agg #[k1,p1,q1,s1,r1],.agg #[k2,p2,q2,s2,r2]] w (BoolPost w true):=by
 have HG:=Lib.hid hg
 have HVA:=Lib.hid VA
 have HVB:=Lib.hid VB
 clear hg VA VB
 rcases ka with h2|⟨h2,h3⟩
 all_goals
  go_enter Tryz.func9,Tryz.ntmps9
  go_wp2_with fail
  refine(HVA.out _).mono ?_
  rintro e w1 ⟨rfl,hb⟩
  have Ha1:=hkh hb (zAf _ _ _)
  have Hb1:=hkh hb (zAW _ _ _)
  have HW1:=hbn (zAF _ _ _) hb
  have hz1:=hb.size
  try simp at hz1
  clear hb
  have hyb:w.heap.size+1<w1.heap.size:=hsz Hb1
  obtain⟨b0,b1,b2,b3,b4⟩:=cells5 Hb1.out
  go_wp2_with fail
  refine(HVB.out _).mono ?_
  rintro e w2 ⟨rfl,hb⟩
  have Ha2:=hkh hb Ha1.out
  have Hb2:=hkh hb Hb1.out
  have HW2:=hbn HW1.out hb
  have hz2:=hb.size
  try simp at hz2
  clear hb
  clear hyb b0 b1 b2 b3 b4
  have hya:w.heap.size<w2.heap.size:=hsz Ha2
  obtain⟨a0,a1,a2,a3,a4⟩:=cells5 Ha2.out
  have hyb:w.heap.size+1<w2.heap.size:=hsz Hb2
  obtain⟨b0,b1,b2,b3,b4⟩:=cells5 Hb2.out
  go_wp2_with fail
  refine(zBf _ (HG.out.stays HW2.out)).mono ?_
  rintro e w9 ⟨rfl,hb⟩
  go_wp2
  go_ret
  exact⟨rfl,zAC HW2.out hb⟩
theorem numbers_opA (w:World) (hg:Glob w) (o:Int) (k1 p1 q1:Int) (s1:ByteArray) (r1:Int) (k2 p2 q2:Int) (s2:ByteArray) (r2:Int) (VA:∀W,Calls Tryz.prog 26 #[.agg #[k1,p1,q1,s1,r1]] W (BoolPost W true)) (VB:∀W,Calls Tryz.prog 26 #[.agg #[k2,p2,q2,s2,r2]] W (BoolPost W true)) (ka:((k1 !=2)=false)∨((k1 !=2)=true∧(k1 !=3)=false)) (kb:((k2 !=2)=false)∨((k2 !=2)=true∧(k2 !=3)=false)) (h6:o<1):Calls Tryz.prog 9 #[o,.agg #[k1,p1,q1,s1,r1],.agg #[k2,p2,q2,s2,r2]] w (BoolPost w true):=by
 have HG:=Lib.hid hg
 have HVA:=Lib.hid VA
 have HVB:=Lib.hid VB
 clear hg VA VB
 rcases ka with h2|⟨h2,h3⟩<;>rcases kb with h4|⟨h4,h5⟩
 all_goals
  go_enter Tryz.func9,Tryz.ntmps9
  go_wp2_with fail
  refine(HVA.out _).mono ?_
  rintro e w1 ⟨rfl,hb⟩
  have Ha1:=hkh hb (zAf _ _ _)
  have Hb1:=hkh hb (zAW _ _ _)
  have HW1:=hbn (zAF _ _ _) hb
  have hz1:=hb.size
  try simp at hz1
  clear hb
  have hyb:w.heap.size+1<w1.heap.size:=hsz Hb1
  obtain⟨b0,b1,b2,b3,b4⟩:=cells5 Hb1.out
  go_wp2_with fail
  refine(HVB.out _).mono ?_
  rintro e w2 ⟨rfl,hb⟩
  have Ha2:=hkh hb Ha1.out
  have Hb2:=hkh hb Hb1.out
  have HW2:=hbn HW1.out hb
  have hz2:=hb.size
  try simp at hz2
  clear hb
  clear hyb b0 b1 b2 b3 b4
  have hya:w.heap.size<w2.heap.size:=hsz Ha2
  obtain⟨a0,a1,a2,a3,a4⟩:=cells5 Ha2.out
  have hyb:w.heap.size+1<w2.heap.size:=hsz Hb2
  obtain⟨b0,b1,b2,b3,b4⟩:=cells5 Hb2.out
  go_wp2_with fail
  refine(zBf _ (HG.out.stays HW2.out)).mono ?_
  rintro e w9 ⟨rfl,hb⟩
  go_wp2
  go_ret
  exact⟨rfl,zAC HW2.out hb⟩
theorem numbers_opB (w:World) (hg:Glob w) (o:Int) (k1 p1 q1:Int) (s1:ByteArray) (r1:Int) (k2 p2 q2:Int) (s2:ByteArray) (r2:Int) (VA:∀W,Calls Tryz.prog 26 #[.agg #[k1,p1,q1,s1,r1]] W (BoolPost W true)) (VB:∀W,Calls Tryz.prog 26 #[.agg #[k2,p2,q2,s2,r2]] W (BoolPost W true)) (ka:((k1 !=2)=false)∨((k1 !=2)=true∧(k1 !=3)=false)) (kb:((k2 !=2)=false)∨((k2 !=2)=true∧(k2 !=3)=false)) (h6:¬o<1) (h7:23<o):Calls Tryz.prog 9 #[o,.agg #[k1,p1,q1,s1,r1],.agg #[k2,p2,q2,s2,r2]] w (BoolPost w true):=by
 have HG:=Lib.hid hg
 have HVA:=Lib.hid VA
 have HVB:=Lib.hid VB
 clear hg VA VB
 rcases ka with h2|⟨h2,h3⟩<;>rcases kb with h4|⟨h4,h5⟩
 all_goals
  go_enter Tryz.func9,Tryz.ntmps9
  go_wp2_with fail
  refine(HVA.out _).mono ?_
  rintro e w1 ⟨rfl,hb⟩
  have Ha1:=hkh hb (zAf _ _ _)
  have Hb1:=hkh hb (zAW _ _ _)
  have HW1:=hbn (zAF _ _ _) hb
  have hz1:=hb.size
  try simp at hz1
  clear hb
  have hyb:w.heap.size+1<w1.heap.size:=hsz Hb1
  obtain⟨b0,b1,b2,b3,b4⟩:=cells5 Hb1.out
  go_wp2_with fail
  refine(HVB.out _).mono ?_
  rintro e w2 ⟨rfl,hb⟩
  have Ha2:=hkh hb Ha1.out
  have Hb2:=hkh hb Hb1.out
  have HW2:=hbn HW1.out hb
  have hz2:=hb.size
  try simp at hz2
  clear hb
  clear hyb b0 b1 b2 b3 b4
  have hya:w.heap.size<w2.heap.size:=hsz Ha2
  obtain⟨a0,a1,a2,a3,a4⟩:=cells5 Ha2.out
  have hyb:w.heap.size+1<w2.heap.size:=hsz Hb2
  obtain⟨b0,b1,b2,b3,b4⟩:=cells5 Hb2.out
  go_wp2_with fail
  refine(zBf _ (HG.out.stays HW2.out)).mono ?_
  rintro e w9 ⟨rfl,hb⟩
  go_wp2
  go_ret
  exact⟨rfl,zAC HW2.out hb⟩
theorem numbers_lt_ok (w:World) (hg:Glob w) (o:Int) (k1 p1 q1:Int) (s1:ByteArray) (r1:Int) (k2 p2 q2:Int) (s2:ByteArray) (r2:Int) (VA:∀W,Calls Tryz.prog 26 #[.agg #[k1,p1,q1,s1,r1]] W (BoolPost W true)) (VB:∀W,Calls Tryz.prog 26 #[.agg #[k2,p2,q2,s2,r2]] W (BoolPost W true)) (ka:((k1 !=2)=false)∨((k1 !=2)=true∧(k1 !=3)=false)) (kb:((k2 !=2)=false)∨((k2 !=2)=true∧(k2 !=3)=false)) (h6:¬o<1) (h7:¬23<o) (h20:¬20≤o) (h22:(o==22)=false) (nk:Int) (xk xp xq:Int) (xs:ByteArray) (xr:Int) (fk fp fq:Int) (fs:ByteArray) (fr:Int) (nl:List V) (na:Int) (ns:ByteArray) (NB:∀W,Below w.heap.size w W→Calls Tryz.prog 20 #[.pointer none,o,.agg #[k1,p1,q1,s1,r1],.agg #[k2,p2,q2,s2,r2]] W (NdPost W ⟨1,⟨xk,xp,xq,xs,xr⟩,⟨fk,fp,fq,fs,fr⟩,nl,na,ns⟩)) (PL:∀W,Below w.heap.size w W→Calls Tryz.prog 11 #[o,.agg #[k1,p1,q1,s1,r1],.agg #[k2,p2,q2,s2,r2]] W (fun e W'=>e= .returned (.tuple #[.agg #[xk,xp,xq,xs,xr],.int .i64 0])∧Below W.heap.size W W')):Calls Tryz.prog 9 #[o,.agg #[k1,p1,q1,s1,r1],.agg #[k2,p2,q2,s2,r2]] w (BoolPost w true):=by
 have HG:=Lib.hid hg
 have HVA:=Lib.hid VA
 have HVB:=Lib.hid VB
 have HNB:=Lib.hid NB
 have HPL:=Lib.hid PL
 clear hg VA VB NB PL
 rcases ka with h2|⟨h2,h3⟩<;>rcases kb with h4|⟨h4,h5⟩
 all_goals
  go_enter Tryz.func9,Tryz.ntmps9
  go_wp2_with fail
  refine(HVA.out _).mono ?_
  rintro e w1 ⟨rfl,hb⟩
  have Ha1:=hkh hb (zAf _ _ _)
  have Hb1:=hkh hb (zAW _ _ _)
  have HW1:=hbn (zAF _ _ _) hb
  have hz1:=hb.size
  try simp at hz1
  clear hb
  have hyb:w.heap.size+1<w1.heap.size:=hsz Hb1
  obtain⟨b0,b1,b2,b3,b4⟩:=cells5 Hb1.out
  go_wp2_with fail
  refine(HVB.out _).mono ?_
  rintro e w2 ⟨rfl,hb⟩
  have Ha2:=hkh hb Ha1.out
  have Hb2:=hkh hb Hb1.out
  have HW2:=hbn HW1.out hb
  have hz2:=hb.size
  try simp at hz2
  clear hb
  clear hyb b0 b1 b2 b3 b4
  have hya:w.heap.size<w2.heap.size:=hsz Ha2
  obtain⟨a0,a1,a2,a3,a4⟩:=cells5 Ha2.out
  have hyb:w.heap.size+1<w2.heap.size:=hsz Hb2
  obtain⟨b0,b1,b2,b3,b4⟩:=cells5 Hb2.out
  go_wp2_with fail
  refine(HNB.out _ HW2.out).mono ?_
  rintro e w3 ⟨av,rfl,hA,hb⟩
  obtain⟨so,sn,sc,rfl⟩:=hA.shape
  clear hA
  have Ha3:=hkh hb Ha2.out
  have Hb3:=hkh hb Hb2.out
  have HW3:=hbn HW2.out hb
  have hz3:=hb.size
  try simp at hz3
  clear hb
  clear hya a0 a1 a2 a3 a4 hyb b0 b1 b2 b3 b4
  have hya:w.heap.size<w3.heap.size:=hsz Ha3
  obtain⟨a0,a1,a2,a3,a4⟩:=cells5 Ha3.out
  have hyb:w.heap.size+1<w3.heap.size:=hsz Hb3
  obtain⟨b0,b1,b2,b3,b4⟩:=cells5 Hb3.out
  go_wp2_with fail
  refine(HPL.out _ (HW3.out.alloc HW3.out.size _)).mono ?_
  rintro e w4 ⟨rfl,hb⟩
  have Ha4:=hkh hb (zAI Ha3.out _)
  have Hb4:=hkh hb (zAI Hb3.out _)
  have Hn4:=hkh hb (heap1 w3 (.cells #[.int .i64 1,xk,xp,xq,xs,xr,fk,fp,fq,fs,fr,.slice so sn sc,na,ns] 43))
  have HW4:=hbn (HW3.out.alloc HW3.out.size _) hb
  have hz4:=hb.size
  try simp at hz4
  clear hb
  clear hya a0 a1 a2 a3 a4 hyb b0 b1 b2 b3 b4
  have hyn:w3.heap.size<w4.heap.size:=hsz Hn4
  obtain⟨n0,n1,n2,n3,n4,n5,n6,n7,n8,n9,n10,n11,n12,n13⟩:=cells14 Hn4.out
  obtain⟨fn0,fn1,fn2,fn3,fn4,fn5,fn6,fn7,fn8,fn9,fn10,fn11,fn12,fn13⟩:=froz14 Hn4.out
  go_wp2_with fail
  refine(zBf _ (HG.out.stays (HW4.out.alloc HW4.out.size _))).mono ?_
  rintro e w9 ⟨rfl,hb⟩
  have HW9:=zAC (HW4.out.alloc HW4.out.size _) hb
  go_wp2
  go_ret
  exact⟨rfl,HW9⟩
theorem numbers_lt_err (w:World) (hg:Glob w) (o:Int) (k1 p1 q1:Int) (s1:ByteArray) (r1:Int) (k2 p2 q2:Int) (s2:ByteArray) (r2:Int) (VA:∀W,Calls Tryz.prog 26 #[.agg #[k1,p1,q1,s1,r1]] W (BoolPost W true)) (VB:∀W,Calls Tryz.prog 26 #[.agg #[k2,p2,q2,s2,r2]] W (BoolPost W true)) (ka:((k1 !=2)=false)∨((k1 !=2)=true∧(k1 !=3)=false)) (kb:((k2 !=2)=false)∨((k2 !=2)=true∧(k2 !=3)=false)) (h6:¬o<1) (h7:¬23<o) (h20:¬20≤o) (h22:(o==22)=false) (nk:Int) (vk vp vq:Int) (vs:ByteArray) (vr:Int) (fk fp fq:Int) (fs:ByteArray) (fr:Int) (nl:List V) (na:Int) (ns:ByteArray) (NB:∀W,Below w.heap.size w W→Calls Tryz.prog 20 #[.pointer none,o,.agg #[k1,p1,q1,s1,r1],.agg #[k2,p2,q2,s2,r2]] W (NdPost W ⟨3,⟨vk,vp,vq,vs,vr⟩,⟨fk,fp,fq,fs,fr⟩,nl,na,ns⟩)) (c:Nat) (hc:(((c:Nat):Int) !=0)=true) (hns:¬ns.toList=[]) (PL:∀W,Below w.heap.size w W→Calls Tryz.prog 11 #[o,.agg #[k1,p1,q1,s1,r1],.agg #[k2,p2,q2,s2,r2]] W (fun e W'=>e= .returned (.tuple #[.agg #[.int .i64 0,.int .i64 0,.int .i64 0,.string ⟨#[]⟩,.int .i64 0],.int .i64 (c:Nat)])∧Below W.heap.size W W')):Calls Tryz.prog 9 #[o,.agg #[k1,p1,q1,s1,r1],.agg #[k2,p2,q2,s2,r2]] w (BoolPost w true):=by
 have HG:=Lib.hid hg
 have HVA:=Lib.hid VA
 have HVB:=Lib.hid VB
 have HNB:=Lib.hid NB
 have HPL:=Lib.hid PL
 clear hg VA VB NB PL
 have hne:(!ns.toList.isEmpty)=true:=by simpa using hns
 rcases ka with h2|⟨h2,h3⟩<;>rcases kb with h4|⟨h4,h5⟩
 all_goals
  go_enter Tryz.func9,Tryz.ntmps9
  go_wp2_with fail
  refine(HVA.out _).mono ?_
  rintro e w1 ⟨rfl,hb⟩
  have Ha1:=hkh hb (zAf _ _ _)
  have Hb1:=hkh hb (zAW _ _ _)
  have HW1:=hbn (zAF _ _ _) hb
  have hz1:=hb.size
  try simp at hz1
  clear hb
  have hyb:w.heap.size+1<w1.heap.size:=hsz Hb1
  obtain⟨b0,b1,b2,b3,b4⟩:=cells5 Hb1.out
  go_wp2_with fail
  refine(HVB.out _).mono ?_
  rintro e w2 ⟨rfl,hb⟩
  have Ha2:=hkh hb Ha1.out
  have Hb2:=hkh hb Hb1.out
  have HW2:=hbn HW1.out hb
  have hz2:=hb.size
  try simp at hz2
  clear hb
  clear hyb b0 b1 b2 b3 b4
  have hya:w.heap.size<w2.heap.size:=hsz Ha2
  obtain⟨a0,a1,a2,a3,a4⟩:=cells5 Ha2.out
  have hyb:w.heap.size+1<w2.heap.size:=hsz Hb2
  obtain⟨b0,b1,b2,b3,b4⟩:=cells5 Hb2.out
  go_wp2_with fail
  refine(HNB.out _ HW2.out).mono ?_
  rintro e w3 ⟨av,rfl,hA,hb⟩
  obtain⟨so,sn,sc,rfl⟩:=hA.shape
  clear hA
  have Ha3:=hkh hb Ha2.out
  have Hb3:=hkh hb Hb2.out
  have HW3:=hbn HW2.out hb
  have hz3:=hb.size
  try simp at hz3
  clear hb
  clear hya a0 a1 a2 a3 a4 hyb b0 b1 b2 b3 b4
  have hya:w.heap.size<w3.heap.size:=hsz Ha3
  obtain⟨a0,a1,a2,a3,a4⟩:=cells5 Ha3.out
  have hyb:w.heap.size+1<w3.heap.size:=hsz Hb3
  obtain⟨b0,b1,b2,b3,b4⟩:=cells5 Hb3.out
  go_wp2_with fail
  refine(HPL.out _ (HW3.out.alloc HW3.out.size _)).mono ?_
  rintro e w4 ⟨rfl,hb⟩
  have Ha4:=hkh hb (zAI Ha3.out _)
  have Hb4:=hkh hb (zAI Hb3.out _)
  have Hn4:=hkh hb (heap1 w3 (.cells #[.int .i64 3,vk,vp,vq,vs,vr,fk,fp,fq,fs,fr,.slice so sn sc,na,ns] 43))
  have HW4:=hbn (HW3.out.alloc HW3.out.size _) hb
  have hz4:=hb.size
  try simp at hz4
  clear hb
  clear hya a0 a1 a2 a3 a4 hyb b0 b1 b2 b3 b4
  have hyn:w3.heap.size<w4.heap.size:=hsz Hn4
  obtain⟨n0,n1,n2,n3,n4,n5,n6,n7,n8,n9,n10,n11,n12,n13⟩:=cells14 Hn4.out
  obtain⟨fn0,fn1,fn2,fn3,fn4,fn5,fn6,fn7,fn8,fn9,fn10,fn11,fn12,fn13⟩:=froz14 Hn4.out
  go_wp2_with fail
  refine(zBf _ (HG.out.stays (HW4.out.alloc HW4.out.size _))).mono ?_
  rintro e w9 ⟨rfl,hb⟩
  have HW9:=zAC (HW4.out.alloc HW4.out.size _) hb
  go_wp2
  go_ret
  exact⟨rfl,HW9⟩
theorem numbers_ge_ok (w:World) (hg:Glob w) (o:Int) (k1 p1 q1:Int) (s1:ByteArray) (r1:Int) (k2 p2 q2:Int) (s2:ByteArray) (r2:Int) (VA:∀W,Calls Tryz.prog 26 #[.agg #[k1,p1,q1,s1,r1]] W (BoolPost W true)) (VB:∀W,Calls Tryz.prog 26 #[.agg #[k2,p2,q2,s2,r2]] W (BoolPost W true)) (ka:((k1 !=2)=false)∨((k1 !=2)=true∧(k1 !=3)=false)) (kb:((k2 !=2)=false)∨((k2 !=2)=true∧(k2 !=3)=false)) (h6:¬o<1) (h7:¬23<o) (h20:20≤o) (h22:(o==22)=false) (nk:Int) (xk xp xq:Int) (xs:ByteArray) (xr:Int) (fk fp fq:Int) (fs:ByteArray) (fr:Int) (nl:List V) (na:Int) (ns:ByteArray) (bk:Int) (uk up uq:Int) (us:ByteArray) (ur:Int) (yk yp yq:Int) (ys:ByteArray) (yr:Int) (bl:List V) (ba:Int) (bs:ByteArray) (NB:∀W,Below w.heap.size w W→Calls Tryz.prog 20 #[.pointer none,o,.agg #[k1,p1,q1,s1,r1],.agg #[k2,p2,q2,s2,r2]] W (NdPost W ⟨bk,⟨uk,up,uq,us,ur⟩,⟨yk,yp,yq,ys,yr⟩,bl,ba,bs⟩)) (NU:∀W,Below w.heap.size w W→Calls Tryz.prog 22 #[.pointer none,o,.agg #[k1,p1,q1,s1,r1]] W (NdPost W ⟨1,⟨xk,xp,xq,xs,xr⟩,⟨fk,fp,fq,fs,fr⟩,nl,na,ns⟩)) (PL:∀W,Below w.heap.size w W→Calls Tryz.prog 11 #[o,.agg #[k1,p1,q1,s1,r1],.agg #[k2,p2,q2,s2,r2]] W (fun e W'=>e= .returned (.tuple #[.agg #[xk,xp,xq,xs,xr],.int .i64 0])∧Below W.heap.size W W')):Calls Tryz.prog 9 #[o,.agg #[k1,p1,q1,s1,r1],.agg #[k2,p2,q2,s2,r2]] w (BoolPost w true):=by
 have HG:=Lib.hid hg
 have HVA:=Lib.hid VA
 have HVB:=Lib.hid VB
 have HNB:=Lib.hid NB
 have HNU:=Lib.hid NU
 have HPL:=Lib.hid PL
 clear hg VA VB NB NU PL
 rcases ka with h2|⟨h2,h3⟩<;>rcases kb with h4|⟨h4,h5⟩
 all_goals
  go_enter Tryz.func9,Tryz.ntmps9
  go_wp2_with fail
  refine(HVA.out _).mono ?_
  rintro e w1 ⟨rfl,hb⟩
  have Ha1:=hkh hb (zAf _ _ _)
  have Hb1:=hkh hb (zAW _ _ _)
  have HW1:=hbn (zAF _ _ _) hb
  have hz1:=hb.size
  try simp at hz1
  clear hb
  have hyb:w.heap.size+1<w1.heap.size:=hsz Hb1
  obtain⟨b0,b1,b2,b3,b4⟩:=cells5 Hb1.out
  go_wp2_with fail
  refine(HVB.out _).mono ?_
  rintro e w2 ⟨rfl,hb⟩
  have Ha2:=hkh hb Ha1.out
  have Hb2:=hkh hb Hb1.out
  have HW2:=hbn HW1.out hb
  have hz2:=hb.size
  try simp at hz2
  clear hb
  clear hyb b0 b1 b2 b3 b4
  have hya:w.heap.size<w2.heap.size:=hsz Ha2
  obtain⟨a0,a1,a2,a3,a4⟩:=cells5 Ha2.out
  have hyb:w.heap.size+1<w2.heap.size:=hsz Hb2
  obtain⟨b0,b1,b2,b3,b4⟩:=cells5 Hb2.out
  go_wp2_with fail
  refine(HNB.out _ HW2.out).mono ?_
  rintro e w3 ⟨av,rfl,hA,hb⟩
  obtain⟨bo,bn,bc,rfl⟩:=hA.shape
  clear hA
  have Ha3:=hkh hb Ha2.out
  have Hb3:=hkh hb Hb2.out
  have HW3:=hbn HW2.out hb
  have hz3:=hb.size
  try simp at hz3
  clear hb
  clear hya a0 a1 a2 a3 a4 hyb b0 b1 b2 b3 b4
  have hya:w.heap.size<w3.heap.size:=hsz Ha3
  obtain⟨a0,a1,a2,a3,a4⟩:=cells5 Ha3.out
  have hyb:w.heap.size+1<w3.heap.size:=hsz Hb3
  obtain⟨b0,b1,b2,b3,b4⟩:=cells5 Hb3.out
  go_wp2_with fail
  refine(HNU.out _ (HW3.out.alloc HW3.out.size _)).mono ?_
  rintro e w4 ⟨av,rfl,hA,hb⟩
  obtain⟨so,sn,sc,rfl⟩:=hA.shape
  clear hA
  have Ha4:=hkh hb (zAI Ha3.out _)
  have Hb4:=hkh hb (zAI Hb3.out _)
  have Hn4:=hkh hb (heap1 w3 (.cells #[bk,uk,up,uq,us,ur,yk,yp,yq,ys,yr,.slice bo bn bc,ba,bs] 43))
  have HW4:=hbn (HW3.out.alloc HW3.out.size _) hb
  have hz4:=hb.size
  try simp at hz4
  clear hb
  clear hya a0 a1 a2 a3 a4 hyb b0 b1 b2 b3 b4
  have hya:w.heap.size<w4.heap.size:=hsz Ha4
  obtain⟨a0,a1,a2,a3,a4⟩:=cells5 Ha4.out
  have hyb:w.heap.size+1<w4.heap.size:=hsz Hb4
  obtain⟨b0,b1,b2,b3,b4⟩:=cells5 Hb4.out
  have hyn:w3.heap.size<w4.heap.size:=hsz Hn4
  obtain⟨n0,n1,n2,n3,n4,n5,n6,n7,n8,n9,n10,n11,n12,n13⟩:=cells14 Hn4.out
  obtain⟨fn0,fn1,fn2,fn3,fn4,fn5,fn6,fn7,fn8,fn9,fn10,fn11,fn12,fn13⟩:=froz14 Hn4.out
  go_wp2_with fail
  refine(HPL.out _ (zCP HW4.out (by have:=hz3;omega) _ _ _ _ _ _ _ _ _ _ _ _ _ _)).mono ?_
  rintro e w5 ⟨rfl,hb⟩
  have Ha5:=hkh hb (heap14_old Ha4.out (by omega) _ _ _ _ _ _ _ _ _ _ _ _ _ _)
  have Hb5:=hkh hb (heap14_old Hb4.out (by omega) _ _ _ _ _ _ _ _ _ _ _ _ _ _)
  have Hn5:=hkh hb (heap14_new Hn4.out _ _ _ _ _ _ _ _ _ _ _ _ _ _)
  have HW5:=hbn (zCP HW4.out (by have:=hz3;omega) _ _ _ _ _ _ _ _ _ _ _ _ _ _) hb
  have hz5:=hb.size
  try simp at hz5
  clear hb
  clear hya a0 a1 a2 a3 a4 hyb b0 b1 b2 b3 b4 hyn n0 fn0 n1 fn1 n2 fn2 n3 fn3 n4 fn4 n5 fn5 n6 fn6 n7 fn7 n8 fn8 n9 fn9 n10 fn10 n11 fn11 n12 fn12 n13 fn13
  have hyn:w3.heap.size<w5.heap.size:=hsz Hn5
  obtain⟨n0,n1,n2,n3,n4,n5,n6,n7,n8,n9,n10,n11,n12,n13⟩:=cells14 Hn5.out
  obtain⟨fn0,fn1,fn2,fn3,fn4,fn5,fn6,fn7,fn8,fn9,fn10,fn11,fn12,fn13⟩:=froz14 Hn5.out
  go_wp2_with fail
  refine(zBf _ (HG.out.stays (HW5.out.alloc HW5.out.size _))).mono ?_
  rintro e w9 ⟨rfl,hb⟩
  have HW9:=zAC (HW5.out.alloc HW5.out.size _) hb
  go_wp2
  go_ret
  exact⟨rfl,HW9⟩
theorem numbers_ge_err (w:World) (hg:Glob w) (o:Int) (k1 p1 q1:Int) (s1:ByteArray) (r1:Int) (k2 p2 q2:Int) (s2:ByteArray) (r2:Int) (VA:∀W,Calls Tryz.prog 26 #[.agg #[k1,p1,q1,s1,r1]] W (BoolPost W true)) (VB:∀W,Calls Tryz.prog 26 #[.agg #[k2,p2,q2,s2,r2]] W (BoolPost W true)) (ka:((k1 !=2)=false)∨((k1 !=2)=true∧(k1 !=3)=false)) (kb:((k2 !=2)=false)∨((k2 !=2)=true∧(k2 !=3)=false)) (h6:¬o<1) (h7:¬23<o) (h20:20≤o) (h22:(o==22)=false) (nk:Int) (vk vp vq:Int) (vs:ByteArray) (vr:Int) (fk fp fq:Int) (fs:ByteArray) (fr:Int) (nl:List V) (na:Int) (ns:ByteArray) (bk:Int) (uk up uq:Int) (us:ByteArray) (ur:Int) (yk yp yq:Int) (ys:ByteArray) (yr:Int) (bl:List V) (ba:Int) (bs:ByteArray) (NB:∀W,Below w.heap.size w W→Calls Tryz.prog 20 #[.pointer none,o,.agg #[k1,p1,q1,s1,r1],.agg #[k2,p2,q2,s2,r2]] W (NdPost W ⟨bk,⟨uk,up,uq,us,ur⟩,⟨yk,yp,yq,ys,yr⟩,bl,ba,bs⟩)) (NU:∀W,Below w.heap.size w W→Calls Tryz.prog 22 #[.pointer none,o,.agg #[k1,p1,q1,s1,r1]] W (NdPost W ⟨3,⟨vk,vp,vq,vs,vr⟩,⟨fk,fp,fq,fs,fr⟩,nl,na,ns⟩)) (c:Nat) (hc:(((c:Nat):Int) !=0)=true) (hns:¬ns.toList=[]) (PL:∀W,Below w.heap.size w W→Calls Tryz.prog 11 #[o,.agg #[k1,p1,q1,s1,r1],.agg #[k2,p2,q2,s2,r2]] W (fun e W'=>e= .returned (.tuple #[.agg #[.int .i64 0,.int .i64 0,.int .i64 0,.string ⟨#[]⟩,.int .i64 0],.int .i64 (c:Nat)])∧Below W.heap.size W W')):Calls Tryz.prog 9 #[o,.agg #[k1,p1,q1,s1,r1],.agg #[k2,p2,q2,s2,r2]] w (BoolPost w true):=by
 have HG:=Lib.hid hg
 have HVA:=Lib.hid VA
 have HVB:=Lib.hid VB
 have HNB:=Lib.hid NB
 have HNU:=Lib.hid NU
 have HPL:=Lib.hid PL
 clear hg VA VB NB NU PL
 have hne:(!ns.toList.isEmpty)=true:=by simpa using hns
 rcases ka with h2|⟨h2,h3⟩<;>rcases kb with h4|⟨h4,h5⟩
 all_goals
  go_enter Tryz.func9,Tryz.ntmps9
  go_wp2_with fail
  refine(HVA.out _).mono ?_
  rintro e w1 ⟨rfl,hb⟩
  have Ha1:=hkh hb (zAf _ _ _)
  have Hb1:=hkh hb (zAW _ _ _)
  have HW1:=hbn (zAF _ _ _) hb
  have hz1:=hb.size
  try simp at hz1
  clear hb
  have hyb:w.heap.size+1<w1.heap.size:=hsz Hb1
  obtain⟨b0,b1,b2,b3,b4⟩:=cells5 Hb1.out
  go_wp2_with fail
  refine(HVB.out _).mono ?_
  rintro e w2 ⟨rfl,hb⟩
  have Ha2:=hkh hb Ha1.out
  have Hb2:=hkh hb Hb1.out
  have HW2:=hbn HW1.out hb
  have hz2:=hb.size
  try simp at hz2
  clear hb
  clear hyb b0 b1 b2 b3 b4
  have hya:w.heap.size<w2.heap.size:=hsz Ha2
  obtain⟨a0,a1,a2,a3,a4⟩:=cells5 Ha2.out
  have hyb:w.heap.size+1<w2.heap.size:=hsz Hb2
  obtain⟨b0,b1,b2,b3,b4⟩:=cells5 Hb2.out
  go_wp2_with fail
  refine(HNB.out _ HW2.out).mono ?_
  rintro e w3 ⟨av,rfl,hA,hb⟩
  obtain⟨bo,bn,bc,rfl⟩:=hA.shape
  clear hA
  have Ha3:=hkh hb Ha2.out
  have Hb3:=hkh hb Hb2.out
  have HW3:=hbn HW2.out hb
  have hz3:=hb.size
  try simp at hz3
  clear hb
  clear hya a0 a1 a2 a3 a4 hyb b0 b1 b2 b3 b4
  have hya:w.heap.size<w3.heap.size:=hsz Ha3
  obtain⟨a0,a1,a2,a3,a4⟩:=cells5 Ha3.out
  have hyb:w.heap.size+1<w3.heap.size:=hsz Hb3
  obtain⟨b0,b1,b2,b3,b4⟩:=cells5 Hb3.out
  go_wp2_with fail
  refine(HNU.out _ (HW3.out.alloc HW3.out.size _)).mono ?_
  rintro e w4 ⟨av,rfl,hA,hb⟩
  obtain⟨so,sn,sc,rfl⟩:=hA.shape
  clear hA
  have Ha4:=hkh hb (zAI Ha3.out _)
  have Hb4:=hkh hb (zAI Hb3.out _)
  have Hn4:=hkh hb (heap1 w3 (.cells #[bk,uk,up,uq,us,ur,yk,yp,yq,ys,yr,.slice bo bn bc,ba,bs] 43))
  have HW4:=hbn (HW3.out.alloc HW3.out.size _) hb
  have hz4:=hb.size
  try simp at hz4
  clear hb
  clear hya a0 a1 a2 a3 a4 hyb b0 b1 b2 b3 b4
  have hya:w.heap.size<w4.heap.size:=hsz Ha4
  obtain⟨a0,a1,a2,a3,a4⟩:=cells5 Ha4.out
  have hyb:w.heap.size+1<w4.heap.size:=hsz Hb4
  obtain⟨b0,b1,b2,b3,b4⟩:=cells5 Hb4.out
  have hyn:w3.heap.size<w4.heap.size:=hsz Hn4
  obtain⟨n0,n1,n2,n3,n4,n5,n6,n7,n8,n9,n10,n11,n12,n13⟩:=cells14 Hn4.out
  obtain⟨fn0,fn1,fn2,fn3,fn4,fn5,fn6,fn7,fn8,fn9,fn10,fn11,fn12,fn13⟩:=froz14 Hn4.out
  go_wp2_with fail
  refine(HPL.out _ (zCP HW4.out (by have:=hz3;omega) _ _ _ _ _ _ _ _ _ _ _ _ _ _)).mono ?_
  rintro e w5 ⟨rfl,hb⟩
  have Ha5:=hkh hb (heap14_old Ha4.out (by omega) _ _ _ _ _ _ _ _ _ _ _ _ _ _)
  have Hb5:=hkh hb (heap14_old Hb4.out (by omega) _ _ _ _ _ _ _ _ _ _ _ _ _ _)
  have Hn5:=hkh hb (heap14_new Hn4.out _ _ _ _ _ _ _ _ _ _ _ _ _ _)
  have HW5:=hbn (zCP HW4.out (by have:=hz3;omega) _ _ _ _ _ _ _ _ _ _ _ _ _ _) hb
  have hz5:=hb.size
  try simp at hz5
  clear hb
  clear hya a0 a1 a2 a3 a4 hyb b0 b1 b2 b3 b4 hyn n0 fn0 n1 fn1 n2 fn2 n3 fn3 n4 fn4 n5 fn5 n6 fn6 n7 fn7 n8 fn8 n9 fn9 n10 fn10 n11 fn11 n12 fn12 n13 fn13
  have hyn:w3.heap.size<w5.heap.size:=hsz Hn5
  obtain⟨n0,n1,n2,n3,n4,n5,n6,n7,n8,n9,n10,n11,n12,n13⟩:=cells14 Hn5.out
  obtain⟨fn0,fn1,fn2,fn3,fn4,fn5,fn6,fn7,fn8,fn9,fn10,fn11,fn12,fn13⟩:=froz14 Hn5.out
  go_wp2_with fail
  refine(zBf _ (HG.out.stays (HW5.out.alloc HW5.out.size _))).mono ?_
  rintro e w9 ⟨rfl,hb⟩
  have HW9:=zAC (HW5.out.alloc HW5.out.size _) hb
  go_wp2
  go_ret
  exact⟨rfl,HW9⟩
theorem numbers_ge_len (w:World) (hg:Glob w) (o:Int) (k1 p1 q1:Int) (s1:ByteArray) (r1:Int) (k2 p2 q2:Int) (s2:ByteArray) (r2:Int) (VA:∀W,Calls Tryz.prog 26 #[.agg #[k1,p1,q1,s1,r1]] W (BoolPost W true)) (VB:∀W,Calls Tryz.prog 26 #[.agg #[k2,p2,q2,s2,r2]] W (BoolPost W true)) (ka:((k1 !=2)=false)∨((k1 !=2)=true∧(k1 !=3)=false)) (kb:((k2 !=2)=false)∨((k2 !=2)=true∧(k2 !=3)=false)) (h6:¬o<1) (h7:¬23<o) (h20:20≤o) (h22:(o==22)=true) (nk:Int) (vk vp vq:Int) (vs:ByteArray) (vr:Int) (fk fp fq:Int) (fs:ByteArray) (fr:Int) (nl:List V) (na:Int) (ns:ByteArray) (bk:Int) (uk up uq:Int) (us:ByteArray) (ur:Int) (yk yp yq:Int) (ys:ByteArray) (yr:Int) (bl:List V) (ba:Int) (bs:ByteArray) (NB:∀W,Below w.heap.size w W→Calls Tryz.prog 20 #[.pointer none,o,.agg #[k1,p1,q1,s1,r1],.agg #[k2,p2,q2,s2,r2]] W (NdPost W ⟨bk,⟨uk,up,uq,us,ur⟩,⟨yk,yp,yq,ys,yr⟩,bl,ba,bs⟩)) (NU:∀W,Below w.heap.size w W→Calls Tryz.prog 22 #[.pointer none,o,.agg #[k1,p1,q1,s1,r1]] W (NdPost W ⟨nk,⟨vk,vp,vq,vs,vr⟩,⟨fk,fp,fq,fs,fr⟩,nl,na,ns⟩)) (hn2:(nk !=2)=true) (z:Bool) (hn1:(nk==1)=z) (hk3:(k1==3)=z):Calls Tryz.prog 9 #[o,.agg #[k1,p1,q1,s1,r1],.agg #[k2,p2,q2,s2,r2]] w (BoolPost w true):=by
 have HG:=Lib.hid hg
 have HVA:=Lib.hid VA
 have HVB:=Lib.hid VB
 have HNB:=Lib.hid NB
 have HNU:=Lib.hid NU
 clear hg VA VB NB NU
 rcases ka with h2|⟨h2,h3⟩<;>rcases kb with h4|⟨h4,h5⟩
 all_goals
  go_enter Tryz.func9,Tryz.ntmps9
  go_wp2_with fail
  refine(HVA.out _).mono ?_
  rintro e w1 ⟨rfl,hb⟩
  have Ha1:=hkh hb (zAf _ _ _)
  have Hb1:=hkh hb (zAW _ _ _)
  have HW1:=hbn (zAF _ _ _) hb
  have hz1:=hb.size
  try simp at hz1
  clear hb
  have hyb:w.heap.size+1<w1.heap.size:=hsz Hb1
  obtain⟨b0,b1,b2,b3,b4⟩:=cells5 Hb1.out
  go_wp2_with fail
  refine(HVB.out _).mono ?_
  rintro e w2 ⟨rfl,hb⟩
  have Ha2:=hkh hb Ha1.out
  have Hb2:=hkh hb Hb1.out
  have HW2:=hbn HW1.out hb
  have hz2:=hb.size
  try simp at hz2
  clear hb
  clear hyb b0 b1 b2 b3 b4
  have hya:w.heap.size<w2.heap.size:=hsz Ha2
  obtain⟨a0,a1,a2,a3,a4⟩:=cells5 Ha2.out
  have hyb:w.heap.size+1<w2.heap.size:=hsz Hb2
  obtain⟨b0,b1,b2,b3,b4⟩:=cells5 Hb2.out
  go_wp2_with fail
  refine(HNB.out _ HW2.out).mono ?_
  rintro e w3 ⟨av,rfl,hA,hb⟩
  obtain⟨bo,bn,bc,rfl⟩:=hA.shape
  clear hA
  have Ha3:=hkh hb Ha2.out
  have Hb3:=hkh hb Hb2.out
  have HW3:=hbn HW2.out hb
  have hz3:=hb.size
  try simp at hz3
  clear hb
  clear hya a0 a1 a2 a3 a4 hyb b0 b1 b2 b3 b4
  have hya:w.heap.size<w3.heap.size:=hsz Ha3
  obtain⟨a0,a1,a2,a3,a4⟩:=cells5 Ha3.out
  have hyb:w.heap.size+1<w3.heap.size:=hsz Hb3
  obtain⟨b0,b1,b2,b3,b4⟩:=cells5 Hb3.out
  go_wp2_with fail
  refine(HNU.out _ (HW3.out.alloc HW3.out.size _)).mono ?_
  rintro e w4 ⟨av,rfl,hA,hb⟩
  obtain⟨so,sn,sc,rfl⟩:=hA.shape
  clear hA
  have Ha4:=hkh hb (zAI Ha3.out _)
  have Hb4:=hkh hb (zAI Hb3.out _)
  have Hn4:=hkh hb (heap1 w3 (.cells #[bk,uk,up,uq,us,ur,yk,yp,yq,ys,yr,.slice bo bn bc,ba,bs] 43))
  have HW4:=hbn (HW3.out.alloc HW3.out.size _) hb
  have hz4:=hb.size
  try simp at hz4
  clear hb
  clear hya a0 a1 a2 a3 a4 hyb b0 b1 b2 b3 b4
  have hya:w.heap.size<w4.heap.size:=hsz Ha4
  obtain⟨a0,a1,a2,a3,a4⟩:=cells5 Ha4.out
  have hyb:w.heap.size+1<w4.heap.size:=hsz Hb4
  obtain⟨b0,b1,b2,b3,b4⟩:=cells5 Hb4.out
  have hyn:w3.heap.size<w4.heap.size:=hsz Hn4
  obtain⟨n0,n1,n2,n3,n4,n5,n6,n7,n8,n9,n10,n11,n12,n13⟩:=cells14 Hn4.out
  obtain⟨fn0,fn1,fn2,fn3,fn4,fn5,fn6,fn7,fn8,fn9,fn10,fn11,fn12,fn13⟩:=froz14 Hn4.out
  go_wp2_with fail
  refine(zBf _ (HG.out.stays (zCP HW4.out (by have:=hz3;omega) _ _ _ _ _ _ _ _ _ _ _ _ _ _))).mono ?_
  rintro e w9 ⟨rfl,hb⟩
  have HW9:=zAC (zCP HW4.out (by have:=hz3;omega) _ _ _ _ _ _ _ _ _ _ _ _ _ _) hb
  go_wp2
  go_ret
  exact⟨rfl,HW9⟩
theorem numbers_law0 (w:World) (hg:Glob w) (o:Int) (k1 p1 q1:Int) (s1:ByteArray) (r1:Int) (k2 p2 q2:Int) (s2:ByteArray) (r2:Int) (wa:WfV ⟨k1,p1,q1,s1,r1⟩) (wb:WfV ⟨k2,p2,q2,s2,r2⟩):
  Calls Tryz.prog 9 #[o,.agg #[k1,p1,q1,s1,r1],.agg #[k2,p2,q2,s2,r2]] w (BoolPost w true):=by
 have VA:=fun W=>zBj W k1 p1 q1 s1 r1
 have VB:=fun W=>zBj W k2 p2 q2 s2 r2
 cases hv1:zAi ⟨k1,p1,q1,s1,r1⟩ with
 |false=>rw[hv1] at VA;exact numbers_badA w hg o k1 p1 q1 s1 r1 k2 p2 q2 s2 r2 VA
 |true=>
 rw[hv1] at VA
 cases hv2:zAi ⟨k2,p2,q2,s2,r2⟩ with
 |false=>rw[hv2] at VB;exact numbers_badB w hg o k1 p1 q1 s1 r1 k2 p2 q2 s2 r2 VA VB
 |true=>
 rw[hv2] at VB
 by_cases a2:k1=2∨k1=3
 rotate_left
 ·exact numbers_kindA w hg o k1 p1 q1 s1 r1 k2 p2 q2 s2 r2 VA VB (by rw[bne_iff_ne];omega) (by rw[bne_iff_ne];omega)
 have ka:=kind_form a2
 by_cases b2:k2=2∨k2=3
 rotate_left
 ·exact numbers_kindB w hg o k1 p1 q1 s1 r1 k2 p2 q2 s2 r2 VA VB ka (by rw[bne_iff_ne];omega) (by rw[bne_iff_ne];omega)
 have kb:=kind_form b2
 by_cases h6:o<1
 ·exact numbers_opA w hg o k1 p1 q1 s1 r1 k2 p2 q2 s2 r2 VA VB ka kb h6
 by_cases h7:23<o
 ·exact numbers_opB w hg o k1 p1 q1 s1 r1 k2 p2 q2 s2 r2 VA VB ka kb h6 h7
 have NB:=fun W (hb:Below w.heap.size w W)=>pBinaryX_c W (hg.stays hb) none hand0 (hand_none W) o k1 p1 q1 s1 r1 k2 p2 q2 s2 r2 wa.k wa.r wb.k wb.r (fun ho2 hv1 hv2 W' hb'=>pEqualX_c W' ((hg.stays hb).stays hb') none hand0 o ho2 k1 p1 q1 s1 r1 k2 p2 q2 s2 r2 hv1 hv2 (by omega) (by omega))
 have NU:=fun W (hb:Below w.heap.size w W)=>pUnary_c W (hg.stays hb) none hand0 (hand_none W) o k1 p1 q1 s1 r1 wa.k wa.r (fun h=>absurd h (by omega))
 have PL:=fun W (hb:Below w.heap.size w W)=>pplain_c W (hg.stays hb) o k1 p1 q1 s1 r1 k2 p2 q2 s2 r2
 obtain⟨L22,Ln⟩:=numbers_law (o:=o) (a:=⟨k1,p1,q1,s1,r1⟩) (b:=⟨k2,p2,q2,s2,r2⟩) ⟨by omega,by omega⟩ hv1 hv2 a2 b2
 by_cases hun:20≤o
 ·have hN:need0 o ⟨k1,p1,q1,s1,r1⟩ ⟨k2,p2,q2,s2,r2⟩=unaryM hand0 o ⟨k1,p1,q1,s1,r1⟩:=if_pos hun
  rw[hN] at L22 Ln
  obtain⟨⟨bk,⟨uk,up,uq,us,ur⟩,⟨yk,yp,yq,ys,yr⟩,bl,ba,bs⟩,hBN⟩:∃X,zAw hand0 o ⟨k1,p1,q1,s1,r1⟩ ⟨k2,p2,q2,s2,r2⟩=X:=⟨_,rfl⟩
  rw[hBN] at NB
  obtain⟨⟨nk,⟨vk,vp,vq,vs,vr⟩,⟨fk,fp,fq,fs,fr⟩,nl,na,ns⟩,hUN⟩:∃X,unaryM hand0 o ⟨k1,p1,q1,s1,r1⟩=X:=⟨_,rfl⟩
  rw[hUN] at NU L22 Ln
  by_cases h22:o=22
  ·obtain⟨l1,l2⟩:=L22 h22
   refine numbers_ge_len w hg o k1 p1 q1 s1 r1 k2 p2 q2 s2 r2 VA VB ka kb h6 h7 hun (by rw[beq_iff_eq];exact h22) nk vk vp vq vs vr fk fp fq fs fr nl na ns bk uk up uq us ur yk yp yq ys yr bl ba bs NB NU (by rw[bne_iff_ne];exact l1) (decide (nk=1)) rfl ?_
   have l3:(nk=1)↔(k1=3):=l2
   by_cases h3:k1=3
   ·rw[decide_eq_true (l3.2 h3),beq_iff_eq];exact h3
   ·rw[decide_eq_false (fun h=>h3 (l3.1 h)),beq_eq_false_iff_ne];exact h3
  ·obtain⟨lo,le⟩:=Ln h22
   have h22':(o==22)=false:=by rw[beq_eq_false_iff_ne];exact h22
   cases hp:zAy o ⟨k1,p1,q1,s1,r1⟩ ⟨k2,p2,q2,s2,r2⟩ with
   |ok v=>
    obtain⟨e1,e2⟩:=lo v hp
    change nk=1 at e1
    change (⟨vk,vp,vq,vs,vr⟩:V)=v at e2
    subst e1 e2
    rw[hp] at PL
    exact numbers_ge_ok w hg o k1 p1 q1 s1 r1 k2 p2 q2 s2 r2 VA VB ka kb h6 h7 hun h22' 0 vk vp vq vs vr fk fp fq fs fr nl na ns bk uk up uq us ur yk yp yq ys yr bl ba bs NB NU PL
   |error c=>
    obtain⟨e0,e1,e2⟩:=le c hp
    change nk=3 at e1
    subst e1
    rw[hp] at PL
    exact numbers_ge_err w hg o k1 p1 q1 s1 r1 k2 p2 q2 s2 r2 VA VB ka kb h6 h7 hun h22' 0 vk vp vq vs vr fk fp fq fs fr nl na ns bk uk up uq us ur yk yp yq ys yr bl ba bs NB NU c (by rw[bne_iff_ne];omega) (fun h=>e2 (str_nil h)) PL
 ·have hN:need0 o ⟨k1,p1,q1,s1,r1⟩ ⟨k2,p2,q2,s2,r2⟩=zAw hand0 o ⟨k1,p1,q1,s1,r1⟩ ⟨k2,p2,q2,s2,r2⟩:=if_neg hun
  rw[hN] at Ln
  have h22:o≠22:=by omega
  obtain⟨⟨nk,⟨vk,vp,vq,vs,vr⟩,⟨fk,fp,fq,fs,fr⟩,nl,na,ns⟩,hBN⟩:∃X,zAw hand0 o ⟨k1,p1,q1,s1,r1⟩ ⟨k2,p2,q2,s2,r2⟩=X:=⟨_,rfl⟩
  rw[hBN] at NB Ln
  obtain⟨lo,le⟩:=Ln h22
  have h22':(o==22)=false:=by rw[beq_eq_false_iff_ne];exact h22
  cases hp:zAy o ⟨k1,p1,q1,s1,r1⟩ ⟨k2,p2,q2,s2,r2⟩ with
  |ok v=>
   obtain⟨e1,e2⟩:=lo v hp
   change nk=1 at e1
   change (⟨vk,vp,vq,vs,vr⟩:V)=v at e2
   subst e1 e2
   rw[hp] at PL
   exact numbers_lt_ok w hg o k1 p1 q1 s1 r1 k2 p2 q2 s2 r2 VA VB ka kb h6 h7 hun h22' 0 vk vp vq vs vr fk fp fq fs fr nl na ns NB PL
  |error c=>
   obtain⟨e0,e1,e2⟩:=le c hp
   change nk=3 at e1
   subst e1
   rw[hp] at PL
   exact numbers_lt_err w hg o k1 p1 q1 s1 r1 k2 p2 q2 s2 r2 VA VB ka kb h6 h7 hun h22' 0 vk vp vq vs vr fk fp fq fs fr nl na ns NB c (by rw[bne_iff_ne];omega) (fun h=>e2 (str_nil h)) PL
end Go.Proofs.YthkpckgcgkijbaaGreatDoor
