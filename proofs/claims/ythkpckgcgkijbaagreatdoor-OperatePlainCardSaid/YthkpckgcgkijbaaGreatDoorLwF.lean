import Derived.Test.YthkpckgcgkijbaaGreatDoorLwB
import Derived.Test.YthkpckgcgkijbaaGreatDoorPlnAv2
set_option linter.unusedVariables false
set_option linter.unusedSimpArgs false
set_option maxRecDepth 100000
set_option maxHeartbeats 2000000
namespace Go.Proofs.YthkpckgcgkijbaaGreatDoor
open Go.RowKit Go.Proofs.Lexi
theorem plain_law (w:World) (hg:Glob w) (o:Int) (k1 p1 q1:Int) (s1:ByteArray) (r1:Int) (k2 p2 q2:Int) (s2:ByteArray) (r2:Int):Calls Tryz.prog 3 #[o,.agg #[k1,p1,q1,s1,r1],.agg #[k2,p2,q2,s2,r2]] w (BoolPost w true):=by
 have HG:=Lib.hid hg
 have HPL:=Lib.hid (fun W (hb:Below w.heap.size w W)=>pplain_c W (hg.stays hb) o k1 p1 q1 s1 r1 k2 p2 q2 s2 r2)
 have HSL:=Lib.hid (fun W=>splain_c W o k1 p1 q1 s1 r1 k2 p2 q2 s2 r2)
 obtain⟨R,hR⟩:∃R,zAy o ⟨k1,p1,q1,s1,r1⟩ ⟨k2,p2,q2,s2,r2⟩=R:=⟨_,rfl⟩
 rw[hR] at HPL HSL
 clear hg hR
 go_enter Tryz.func3,Tryz.ntmps3
 go_wp2_with fail
 refine(HPL.out _ (zAF _ _ _)).mono ?_
 rintro e w1 ⟨rfl,hb⟩
 have Ha1:=hkh hb (zAf _ _ _)
 have Hb1:=hkh hb (zAW _ _ _)
 have HW1:=hbn ((zAF w (oV k1 p1 q1 s1 r1) (oV k2 p2 q2 s2 r2))) hb
 have hz1:=hb.size
 try simp at hz1
 clear hb
 have hya:w.heap.size<w1.heap.size:=hsz Ha1
 obtain⟨a0,a1,a2,a3,a4⟩:=cells5 Ha1.out
 have hyb:w.heap.size+1<w1.heap.size:=hsz Hb1
 obtain⟨b0,b1,b2,b3,b4⟩:=cells5 Hb1.out
 go_wp2_with fail
 refine(HSL.out _).mono ?_
 rintro e w2 ⟨rfl,hb⟩
 have Ha2:=hkh hb ((zAI Ha1.out (.cells #[.int .i64 (vV R).k,.int .i64 (vV R).p,.int .i64 (vV R).q,.string (vV R).s,.int .i64 (vV R).r] 25)))
 have Hb2:=hkh hb ((zAI Hb1.out (.cells #[.int .i64 (vV R).k,.int .i64 (vV R).p,.int .i64 (vV R).q,.string (vV R).s,.int .i64 (vV R).r] 25)))
 have Hv2:=hkh hb ((heap1 w1 (.cells #[.int .i64 (vV R).k,.int .i64 (vV R).p,.int .i64 (vV R).q,.string (vV R).s,.int .i64 (vV R).r] 25)))
 have HW2:=hbn ((HW1.out.alloc HW1.out.size (.cells #[.int .i64 (vV R).k,.int .i64 (vV R).p,.int .i64 (vV R).q,.string (vV R).s,.int .i64 (vV R).r] 25))) hb
 have hz2:=hb.size
 try simp at hz2
 clear hb
 clear hya a0 a1 a2 a3 a4 hyb b0 b1 b2 b3 b4
 have hyv:w1.heap.size<w2.heap.size:=hsz Hv2
 obtain⟨v0,v1,v2,v3,v4⟩:=cells5 Hv2.out
 go_wp2_with fail
 refine(zBf _ (HG.out.stays (HW2.out.alloc HW2.out.size (.cells #[.int .i64 (vV R).k,.int .i64 (vV R).p,.int .i64 (vV R).q,.string (vV R).s,.int .i64 (vV R).r] 25)))).mono ?_
 rintro e w3 ⟨rfl,hb⟩
 have Ha3:=hkh hb ((zAI Ha2.out (.cells #[.int .i64 (vV R).k,.int .i64 (vV R).p,.int .i64 (vV R).q,.string (vV R).s,.int .i64 (vV R).r] 25)))
 have Hb3:=hkh hb ((zAI Hb2.out (.cells #[.int .i64 (vV R).k,.int .i64 (vV R).p,.int .i64 (vV R).q,.string (vV R).s,.int .i64 (vV R).r] 25)))
 have Hv3:=hkh hb ((zAI Hv2.out (.cells #[.int .i64 (vV R).k,.int .i64 (vV R).p,.int .i64 (vV R).q,.string (vV R).s,.int .i64 (vV R).r] 25)))
 have Hu3:=hkh hb ((heap1 w2 (.cells #[.int .i64 (vV R).k,.int .i64 (vV R).p,.int .i64 (vV R).q,.string (vV R).s,.int .i64 (vV R).r] 25)))
 have HW3:=hbn ((HW2.out.alloc HW2.out.size (.cells #[.int .i64 (vV R).k,.int .i64 (vV R).p,.int .i64 (vV R).q,.string (vV R).s,.int .i64 (vV R).r] 25))) hb
 have hz3:=hb.size
 try simp at hz3
 clear hb
 clear hyv v0 v1 v2 v3 v4
 go_wp2
 go_ret
 exact⟨rfl,HW3.out⟩
end Go.Proofs.YthkpckgcgkijbaaGreatDoor
