import Derived.Test.YthkpckgcgkijbaaGreatDoorLwB
import Derived.Test.YthkpckgcgkijbaaGreatDoorNam
set_option linter.unusedVariables false
set_option linter.unusedSimpArgs false
set_option maxRecDepth 100000
set_option maxHeartbeats 2000000
namespace Go.Proofs.YthkpckgcgkijbaaGreatDoor
open Go.RowKit Go.Proofs.Lexi
theorem names_law (w:World) (hg:Glob w) (o:Int):Calls Tryz.prog 4 #[.int .i64 o] w (BoolPost w true):=by
 have HG:=Lib.hid hg
 have HA:=Lib.hid (fun W=>pName_c W o)
 have HB:=Lib.hid (fun W=>sName_c W o)
 have HC:=Lib.hid (fun W=>pEvent_c W o)
 have HD:=Lib.hid (fun W=>sEvent_c W o)
 obtain⟨N,hN⟩:∃N,nameM o=N:=⟨_,rfl⟩
 obtain⟨E,hE⟩:∃E,zBK o=E:=⟨_,rfl⟩
 rw[hN] at HA HB
 rw[hE] at HC HD
 clear hg hN hE
 go_enter Tryz.func4,Tryz.ntmps4
 go_wp2_with fail
 refine(HA.out _).mono ?_
 rintro e w1 ⟨rfl,hb⟩
 have HW1:=hbn ((Below.refl w.heap.size w)) hb
 have hz1:=hb.size
 try simp at hz1
 clear hb
 go_wp2_with fail
 refine(HB.out _).mono ?_
 rintro e w2 ⟨rfl,hb⟩
 have HW2:=hbn HW1.out hb
 have hz2:=hb.size
 try simp at hz2
 clear hb
 go_wp2_with fail
 refine(HC.out _).mono ?_
 rintro e w3 ⟨rfl,hb⟩
 have HW3:=hbn HW2.out hb
 have hz3:=hb.size
 try simp at hz3
 clear hb
 go_wp2_with fail
 refine(HD.out _).mono ?_
 rintro e w4 ⟨rfl,hb⟩
 have HW4:=hbn HW3.out hb
 have hz4:=hb.size
 try simp at hz4
 clear hb
 go_wp2_with fail
 refine(zBf _ (HG.out.stays HW4.out)).mono ?_
 rintro e w5 ⟨rfl,hb⟩
 have HW5:=hbn HW4.out hb
 have hz5:=hb.size
 try simp at hz5
 clear hb
 go_wp2
 go_ret
 exact⟨rfl,HW5.out⟩
end Go.Proofs.YthkpckgcgkijbaaGreatDoor
