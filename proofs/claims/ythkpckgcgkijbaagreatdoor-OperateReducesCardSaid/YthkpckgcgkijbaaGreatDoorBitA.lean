import Derived.Test.YthkpckgcgkijbaaGreatDoorValB
set_option linter.unusedVariables false
set_option linter.unusedSimpArgs false
set_option maxRecDepth 100000
set_option maxHeartbeats 2000000
namespace Go.Proofs.YthkpckgcgkijbaaGreatDoor
open Go.RowKit Go.Proofs.Lexi
theorem rshift_c (w:World) (u:Nat) (hu:u≤4294967295) (n:Int) (h1: -2147483647≤n) (h2:n≤2147483647):Calls Tryz.prog 210 #[.int .u32 u,.int .i64 n] w fun e w'=>e= .returned (.int .u32 (zBx u n:Nat))∧w=w':=by
 have hc:(32≤n∨n≤ -32)∨(n<32∧0≤n)∨(-32<n∧n<0):=by omega
 rcases hc with c|⟨c,c2⟩|⟨c,c2⟩
 ·have HR:=Lib.hid (show zBx u n=0 from by unfold zBx;rw[if_pos c])
  rcases c with c|c
  all_goals
   go_enter Tryz.func210,Tryz.ntmps210
   go_wp2
   go_ret
   exact⟨by rw[HR.out];rfl,rfl⟩
 ·have HR:=Lib.hid (show((u:Int)*2^n.toNat%4294967296)=(zBx u n:Nat) from by unfold zBx;rw[if_neg (by omega),if_pos c2];simp)
  go_enter Tryz.func210,Tryz.ntmps210
  go_wp2
  go_ret
  exact⟨by rw[←HR.out];rfl,rfl⟩
 ·have HR:=Lib.hid (show((u:Int)/2^(-n).toNat)=(zBx u n:Nat) from by unfold zBx;rw[if_neg (by omega),if_neg (by omega)];simp)
  go_enter Tryz.func210,Tryz.ntmps210
  go_wp2
  go_ret
  exact⟨by rw[←HR.out];rfl,rfl⟩
def PureTo (f:Nat) (o:Int) (b:Bool):Prop:=∀W,Calls Tryz.prog f #[.int .i64 o] W fun e w'=>e= .returned (.bool b)∧W=w'
theorem pplain_bad (w:World) (o:Int) (k1 p1 q1:Int) (s1:ByteArray) (r1:Int) (k2 p2 q2:Int) (s2:ByteArray) (r2:Int) (R:VR) (hunary:PureTo 34 o false) (hbinary:PureTo 35 o false) (harithmetic:PureTo 37 o false) (hbitwise:PureTo 38 o false) (hR:R= .error 2):Calls Tryz.prog 11 #[o,.agg #[k1,p1,q1,s1,r1],.agg #[k2,p2,q2,s2,r2]] w (VrPost w R):=by
 have HPunary:=Lib.hid hunary
 clear hunary
 have HPbinary:=Lib.hid hbinary
 clear hbinary
 have HParithmetic:=Lib.hid harithmetic
 clear harithmetic
 have HPbitwise:=Lib.hid hbitwise
 clear hbitwise
 go_enter Tryz.func11,Tryz.ntmps11
 go_wp2_with (first|(go_at_call 34;refine(HPunary.out _).mono ?_;rintro e w' ⟨rfl,rfl⟩)|(go_at_call 35;refine(HPbinary.out _).mono ?_;rintro e w' ⟨rfl,rfl⟩)|(go_at_call 37;refine(HParithmetic.out _).mono ?_;rintro e w' ⟨rfl,rfl⟩)|(go_at_call 38;refine(HPbitwise.out _).mono ?_;rintro e w' ⟨rfl,rfl⟩))
 refine bodyPost_ret (by simp[results,Tryz.results11,go_sem];first|done|rfl) rfl ?_
 exact zBM hR (by first|exact zAL _ _ _ _|exact zAH (zAL _ _ _ _) (by simp<;>omega) _ _ _ _ _)
theorem pplain_badA_un (w:World) (o:Int) (k1 p1 q1:Int) (s1:ByteArray) (r1:Int) (k2 p2 q2:Int) (s2:ByteArray) (r2:Int) (R:VR) (hunary:PureTo 34 o true) (hbinary:PureTo 35 o false)
  (hv1:∀W,Calls Tryz.prog 36 #[.agg #[k1,p1,q1,s1,r1]] W (BoolPost W false)) (hR:R= .error 2):Calls Tryz.prog 11 #[o,.agg #[k1,p1,q1,s1,r1],.agg #[k2,p2,q2,s2,r2]] w (VrPost w R):=by
 have HPunary:=Lib.hid hunary
 clear hunary
 have HPbinary:=Lib.hid hbinary
 clear hbinary
 have HV1:=Lib.hid hv1
 clear hv1
 go_enter Tryz.func11,Tryz.ntmps11
 go_wp2_with (first|(go_at_call 34;refine(HPunary.out _).mono ?_;rintro e w' ⟨rfl,rfl⟩)|(go_at_call 35;refine(HPbinary.out _).mono ?_;rintro e w' ⟨rfl,rfl⟩))
 refine(HV1.out _).mono ?_
 rintro e w1 ⟨rfl,hb⟩
 have HA1:=hkh hb (zAh _ _ _ _)
 have HB1:=hkh hb (zAY _ _ _ _)
 have HC1:=hkh hb (zAX _ _ _ _)
 have HW1:=hbn (zAL _ _ _ _) hb
 have hz1:=hb.size
 simp at hz1
 clear hb
 obtain⟨c0,c1,c2,c3,c4⟩:=cells5 HC1.out
 obtain⟨fc0,fc1,fc2,fc3,fc4⟩:=froz5 HC1.out
 go_wp2_with (first|(go_at_call 34;refine(HPunary.out _).mono ?_;rintro e w' ⟨rfl,rfl⟩)|(go_at_call 35;refine(HPbinary.out _).mono ?_;rintro e w' ⟨rfl,rfl⟩))
 refine bodyPost_ret (by simp[results,Tryz.results11,go_sem,c0,c1,c2,c3,c4];first|done|rfl) rfl ?_
 exact zBM hR (zAH HW1.out (by omega) _ _ _ _ _)
theorem pplain_badA_bin (w:World) (o:Int) (k1 p1 q1:Int) (s1:ByteArray) (r1:Int) (k2 p2 q2:Int) (s2:ByteArray) (r2:Int) (R:VR) (hunary:PureTo 34 o false) (hbinary:PureTo 35 o true)
  (hv1:∀W,Calls Tryz.prog 36 #[.agg #[k1,p1,q1,s1,r1]] W (BoolPost W false)) (hR:R= .error 2):Calls Tryz.prog 11 #[o,.agg #[k1,p1,q1,s1,r1],.agg #[k2,p2,q2,s2,r2]] w (VrPost w R):=by
 have HPunary:=Lib.hid hunary
 clear hunary
 have HPbinary:=Lib.hid hbinary
 clear hbinary
 have HV1:=Lib.hid hv1
 clear hv1
 go_enter Tryz.func11,Tryz.ntmps11
 go_wp2_with (first|(go_at_call 34;refine(HPunary.out _).mono ?_;rintro e w' ⟨rfl,rfl⟩)|(go_at_call 35;refine(HPbinary.out _).mono ?_;rintro e w' ⟨rfl,rfl⟩))
 refine(HV1.out _).mono ?_
 rintro e w1 ⟨rfl,hb⟩
 have HA1:=hkh hb (zAh _ _ _ _)
 have HB1:=hkh hb (zAY _ _ _ _)
 have HC1:=hkh hb (zAX _ _ _ _)
 have HW1:=hbn (zAL _ _ _ _) hb
 have hz1:=hb.size
 simp at hz1
 clear hb
 obtain⟨c0,c1,c2,c3,c4⟩:=cells5 HC1.out
 obtain⟨fc0,fc1,fc2,fc3,fc4⟩:=froz5 HC1.out
 go_wp2_with (first|(go_at_call 34;refine(HPunary.out _).mono ?_;rintro e w' ⟨rfl,rfl⟩)|(go_at_call 35;refine(HPbinary.out _).mono ?_;rintro e w' ⟨rfl,rfl⟩))
 refine bodyPost_ret (by simp[results,Tryz.results11,go_sem,c0,c1,c2,c3,c4];first|done|rfl) rfl ?_
 exact zBM hR (zAH HW1.out (by omega) _ _ _ _ _)
theorem pplain_badB (w:World) (o:Int) (k1 p1 q1:Int) (s1:ByteArray) (r1:Int) (k2 p2 q2:Int) (s2:ByteArray) (r2:Int) (R:VR) (hunary:PureTo 34 o false) (hbinary:PureTo 35 o true)
  (hv1:∀W,Calls Tryz.prog 36 #[.agg #[k1,p1,q1,s1,r1]] W (BoolPost W true)) (hv2:∀W,Calls Tryz.prog 36 #[.agg #[k2,p2,q2,s2,r2]] W (BoolPost W false)) (hR:R= .error 2):Calls Tryz.prog 11 #[o,.agg #[k1,p1,q1,s1,r1],.agg #[k2,p2,q2,s2,r2]] w (VrPost w R):=by
 have HPunary:=Lib.hid hunary
 clear hunary
 have HPbinary:=Lib.hid hbinary
 clear hbinary
 have HV1:=Lib.hid hv1
 clear hv1
 have HV2:=Lib.hid hv2
 clear hv2
 go_enter Tryz.func11,Tryz.ntmps11
 go_wp2_with (first|(go_at_call 34;refine(HPunary.out _).mono ?_;rintro e w' ⟨rfl,rfl⟩)|(go_at_call 35;refine(HPbinary.out _).mono ?_;rintro e w' ⟨rfl,rfl⟩))
 refine(HV1.out _).mono ?_
 rintro e w1 ⟨rfl,hb⟩
 have HA1:=hkh hb (zAh _ _ _ _)
 have HB1:=hkh hb (zAY _ _ _ _)
 have HC1:=hkh hb (zAX _ _ _ _)
 have HW1:=hbn (zAL _ _ _ _) hb
 have hz1:=hb.size
 simp at hz1
 clear hb
 obtain⟨b0,b1,b2,b3,b4⟩:=cells5 HB1.out
 go_wp2_with (first|(go_at_call 34;refine(HPunary.out _).mono ?_;rintro e w' ⟨rfl,rfl⟩)|(go_at_call 35;refine(HPbinary.out _).mono ?_;rintro e w' ⟨rfl,rfl⟩))
 refine(HV2.out _).mono ?_
 rintro e w2 ⟨rfl,hb⟩
 have HA2:=hkh hb HA1.out
 have HB2:=hkh hb HB1.out
 have HC2:=hkh hb HC1.out
 have HW2:=hbn HW1.out hb
 have hz2:=hb.size
 clear hb b0 b1 b2 b3 b4
 obtain⟨c0,c1,c2,c3,c4⟩:=cells5 HC2.out
 obtain⟨fc0,fc1,fc2,fc3,fc4⟩:=froz5 HC2.out
 go_wp2_with (first|(go_at_call 34;refine(HPunary.out _).mono ?_;rintro e w' ⟨rfl,rfl⟩)|(go_at_call 35;refine(HPbinary.out _).mono ?_;rintro e w' ⟨rfl,rfl⟩))
 refine bodyPost_ret (by simp[results,Tryz.results11,go_sem,c0,c1,c2,c3,c4];first|done|rfl) rfl ?_
 exact zBM hR (zAH HW2.out (by omega) _ _ _ _ _)
theorem pplain_arith (w:World) (o:Int) (k1 p1 q1:Int) (s1:ByteArray) (r1:Int) (k2 p2 q2:Int) (s2:ByteArray) (r2:Int) (R:VR) (hunary:PureTo 34 o false) (hbinary:PureTo 35 o true) (harithmetic:PureTo 37 o true) (hbitwise:PureTo 38 o false)
  (hv1:∀W,Calls Tryz.prog 36 #[.agg #[k1,p1,q1,s1,r1]] W (BoolPost W true)) (hv2:∀W,Calls Tryz.prog 36 #[.agg #[k2,p2,q2,s2,r2]] W (BoolPost W true)) (hc:∀W,Below w.heap.size w W→Calls Tryz.prog 39 #[o,.agg #[k1,p1,q1,s1,r1],.agg #[k2,p2,q2,s2,r2]] W (VrPost W R)):Calls Tryz.prog 11 #[o,.agg #[k1,p1,q1,s1,r1],.agg #[k2,p2,q2,s2,r2]] w (VrPost w R):=by
 have HPunary:=Lib.hid hunary
 clear hunary
 have HPbinary:=Lib.hid hbinary
 clear hbinary
 have HParithmetic:=Lib.hid harithmetic
 clear harithmetic
 have HPbitwise:=Lib.hid hbitwise
 clear hbitwise
 have HV1:=Lib.hid hv1
 clear hv1
 have HV2:=Lib.hid hv2
 clear hv2
 go_enter Tryz.func11,Tryz.ntmps11
 go_wp2_with (first|(go_at_call 34;refine(HPunary.out _).mono ?_;rintro e w' ⟨rfl,rfl⟩)|(go_at_call 35;refine(HPbinary.out _).mono ?_;rintro e w' ⟨rfl,rfl⟩)|(go_at_call 37;refine(HParithmetic.out _).mono ?_;rintro e w' ⟨rfl,rfl⟩)|(go_at_call 38;refine(HPbitwise.out _).mono ?_;rintro e w' ⟨rfl,rfl⟩))
 refine(HV1.out _).mono ?_
 rintro e w1 ⟨rfl,hb⟩
 have HA1:=hkh hb (zAh _ _ _ _)
 have HB1:=hkh hb (zAY _ _ _ _)
 have HC1:=hkh hb (zAX _ _ _ _)
 have HW1:=hbn (zAL _ _ _ _) hb
 have hz1:=hb.size
 simp at hz1
 clear hb
 obtain⟨b0,b1,b2,b3,b4⟩:=cells5 HB1.out
 go_wp2_with (first|(go_at_call 34;refine(HPunary.out _).mono ?_;rintro e w' ⟨rfl,rfl⟩)|(go_at_call 35;refine(HPbinary.out _).mono ?_;rintro e w' ⟨rfl,rfl⟩)|(go_at_call 37;refine(HParithmetic.out _).mono ?_;rintro e w' ⟨rfl,rfl⟩)|(go_at_call 38;refine(HPbitwise.out _).mono ?_;rintro e w' ⟨rfl,rfl⟩))
 refine(HV2.out _).mono ?_
 rintro e w2 ⟨rfl,hb⟩
 have HA2:=hkh hb HA1.out
 have HB2:=hkh hb HB1.out
 have HC2:=hkh hb HC1.out
 have HW2:=hbn HW1.out hb
 have hz2:=hb.size
 clear hb b0 b1 b2 b3 b4
 obtain⟨a0,a1,a2,a3,a4⟩:=cells5 HA2.out
 obtain⟨b0,b1,b2,b3,b4⟩:=cells5 HB2.out
 go_wp2_with (first|(go_at_call 34;refine(HPunary.out _).mono ?_;rintro e w' ⟨rfl,rfl⟩)|(go_at_call 35;refine(HPbinary.out _).mono ?_;rintro e w' ⟨rfl,rfl⟩)|(go_at_call 37;refine(HParithmetic.out _).mono ?_;rintro e w' ⟨rfl,rfl⟩)|(go_at_call 38;refine(HPbitwise.out _).mono ?_;rintro e w' ⟨rfl,rfl⟩))
 refine(hc _ HW2.out).mono ?_
 rintro e w9 ⟨rfl,hb⟩
 have HC9:=hkh hb HC2.out
 have HW9:=hbn HW2.out hb
 have hz9:=hb.size
 clear hb a0 a1 a2 a3 a4 b0 b1 b2 b3 b4
 obtain⟨c0,c1,c2,c3,c4⟩:=cells5 HC9.out
 obtain⟨fc0,fc1,fc2,fc3,fc4⟩:=froz5 HC9.out
 go_wp2
 refine bodyPost_ret (by simp[results,Tryz.results11,go_sem,c0,c1,c2,c3,c4];first|done|rfl) rfl ?_
 exact vr_any rfl (zAH HW9.out (by omega) _ _ _ _ _)
theorem pplain_bitwise (w:World) (o:Int) (k1 p1 q1:Int) (s1:ByteArray) (r1:Int) (k2 p2 q2:Int) (s2:ByteArray) (r2:Int) (R:VR) (hunary:PureTo 34 o false) (hbinary:PureTo 35 o true) (harithmetic:PureTo 37 o false) (hbitwise:PureTo 38 o true)
  (hv1:∀W,Calls Tryz.prog 36 #[.agg #[k1,p1,q1,s1,r1]] W (BoolPost W true)) (hv2:∀W,Calls Tryz.prog 36 #[.agg #[k2,p2,q2,s2,r2]] W (BoolPost W true)) (hc:∀W,Below w.heap.size w W→Calls Tryz.prog 39 #[o,.agg #[k1,p1,q1,s1,r1],.agg #[k2,p2,q2,s2,r2]] W (VrPost W R)):Calls Tryz.prog 11 #[o,.agg #[k1,p1,q1,s1,r1],.agg #[k2,p2,q2,s2,r2]] w (VrPost w R):=by
 have HPunary:=Lib.hid hunary
 clear hunary
 have HPbinary:=Lib.hid hbinary
 clear hbinary
 have HParithmetic:=Lib.hid harithmetic
 clear harithmetic
 have HPbitwise:=Lib.hid hbitwise
 clear hbitwise
 have HV1:=Lib.hid hv1
 clear hv1
 have HV2:=Lib.hid hv2
 clear hv2
 go_enter Tryz.func11,Tryz.ntmps11
 go_wp2_with (first|(go_at_call 34;refine(HPunary.out _).mono ?_;rintro e w' ⟨rfl,rfl⟩)|(go_at_call 35;refine(HPbinary.out _).mono ?_;rintro e w' ⟨rfl,rfl⟩)|(go_at_call 37;refine(HParithmetic.out _).mono ?_;rintro e w' ⟨rfl,rfl⟩)|(go_at_call 38;refine(HPbitwise.out _).mono ?_;rintro e w' ⟨rfl,rfl⟩))
 refine(HV1.out _).mono ?_
 rintro e w1 ⟨rfl,hb⟩
 have HA1:=hkh hb (zAh _ _ _ _)
 have HB1:=hkh hb (zAY _ _ _ _)
 have HC1:=hkh hb (zAX _ _ _ _)
 have HW1:=hbn (zAL _ _ _ _) hb
 have hz1:=hb.size
 simp at hz1
 clear hb
 obtain⟨b0,b1,b2,b3,b4⟩:=cells5 HB1.out
 go_wp2_with (first|(go_at_call 34;refine(HPunary.out _).mono ?_;rintro e w' ⟨rfl,rfl⟩)|(go_at_call 35;refine(HPbinary.out _).mono ?_;rintro e w' ⟨rfl,rfl⟩)|(go_at_call 37;refine(HParithmetic.out _).mono ?_;rintro e w' ⟨rfl,rfl⟩)|(go_at_call 38;refine(HPbitwise.out _).mono ?_;rintro e w' ⟨rfl,rfl⟩))
 refine(HV2.out _).mono ?_
 rintro e w2 ⟨rfl,hb⟩
 have HA2:=hkh hb HA1.out
 have HB2:=hkh hb HB1.out
 have HC2:=hkh hb HC1.out
 have HW2:=hbn HW1.out hb
 have hz2:=hb.size
 clear hb b0 b1 b2 b3 b4
 obtain⟨a0,a1,a2,a3,a4⟩:=cells5 HA2.out
 obtain⟨b0,b1,b2,b3,b4⟩:=cells5 HB2.out
 go_wp2_with (first|(go_at_call 34;refine(HPunary.out _).mono ?_;rintro e w' ⟨rfl,rfl⟩)|(go_at_call 35;refine(HPbinary.out _).mono ?_;rintro e w' ⟨rfl,rfl⟩)|(go_at_call 37;refine(HParithmetic.out _).mono ?_;rintro e w' ⟨rfl,rfl⟩)|(go_at_call 38;refine(HPbitwise.out _).mono ?_;rintro e w' ⟨rfl,rfl⟩))
 refine(hc _ HW2.out).mono ?_
 rintro e w9 ⟨rfl,hb⟩
 have HC9:=hkh hb HC2.out
 have HW9:=hbn HW2.out hb
 have hz9:=hb.size
 clear hb a0 a1 a2 a3 a4 b0 b1 b2 b3 b4
 obtain⟨c0,c1,c2,c3,c4⟩:=cells5 HC9.out
 obtain⟨fc0,fc1,fc2,fc3,fc4⟩:=froz5 HC9.out
 go_wp2
 refine bodyPost_ret (by simp[results,Tryz.results11,go_sem,c0,c1,c2,c3,c4];first|done|rfl) rfl ?_
 exact vr_any rfl (zAH HW9.out (by omega) _ _ _ _ _)
theorem pplain_neg (w:World) (o:Int) (k1 p1 q1:Int) (s1:ByteArray) (r1:Int) (k2 p2 q2:Int) (s2:ByteArray) (r2:Int) (R:VR) (hunary:PureTo 34 o true) (hbinary:PureTo 35 o false) (harithmetic:PureTo 37 o false) (hbitwise:PureTo 38 o false)
  (hv1:∀W,Calls Tryz.prog 36 #[.agg #[k1,p1,q1,s1,r1]] W (BoolPost W true)) (t20:(o==20)=true) (hc:∀W,Below w.heap.size w W→Calls Tryz.prog 39 #[o,.agg #[k1,p1,q1,s1,r1],.agg #[k2,p2,q2,s2,r2]] W (VrPost W R)):Calls Tryz.prog 11 #[o,.agg #[k1,p1,q1,s1,r1],.agg #[k2,p2,q2,s2,r2]] w (VrPost w R):=by
 have HPunary:=Lib.hid hunary
 clear hunary
 have HPbinary:=Lib.hid hbinary
 clear hbinary
 have HParithmetic:=Lib.hid harithmetic
 clear harithmetic
 have HPbitwise:=Lib.hid hbitwise
 clear hbitwise
 have HV1:=Lib.hid hv1
 clear hv1
 go_enter Tryz.func11,Tryz.ntmps11
 go_wp2_with (first|(go_at_call 34;refine(HPunary.out _).mono ?_;rintro e w' ⟨rfl,rfl⟩)|(go_at_call 35;refine(HPbinary.out _).mono ?_;rintro e w' ⟨rfl,rfl⟩)|(go_at_call 37;refine(HParithmetic.out _).mono ?_;rintro e w' ⟨rfl,rfl⟩)|(go_at_call 38;refine(HPbitwise.out _).mono ?_;rintro e w' ⟨rfl,rfl⟩))
 refine(HV1.out _).mono ?_
 rintro e w1 ⟨rfl,hb⟩
 have HA1:=hkh hb (zAh _ _ _ _)
 have HB1:=hkh hb (zAY _ _ _ _)
 have HC1:=hkh hb (zAX _ _ _ _)
 have HW1:=hbn (zAL _ _ _ _) hb
 have hz1:=hb.size
 simp at hz1
 clear hb
 obtain⟨a0,a1,a2,a3,a4⟩:=cells5 HA1.out
 obtain⟨b0,b1,b2,b3,b4⟩:=cells5 HB1.out
 go_wp2_with (first|(go_at_call 34;refine(HPunary.out _).mono ?_;rintro e w' ⟨rfl,rfl⟩)|(go_at_call 35;refine(HPbinary.out _).mono ?_;rintro e w' ⟨rfl,rfl⟩)|(go_at_call 37;refine(HParithmetic.out _).mono ?_;rintro e w' ⟨rfl,rfl⟩)|(go_at_call 38;refine(HPbitwise.out _).mono ?_;rintro e w' ⟨rfl,rfl⟩))
 refine(hc _ HW1.out).mono ?_
 rintro e w9 ⟨rfl,hb⟩
 have HC9:=hkh hb HC1.out
 have HW9:=hbn HW1.out hb
 have hz9:=hb.size
 clear hb a0 a1 a2 a3 a4 b0 b1 b2 b3 b4
 obtain⟨c0,c1,c2,c3,c4⟩:=cells5 HC9.out
 obtain⟨fc0,fc1,fc2,fc3,fc4⟩:=froz5 HC9.out
 go_wp2
 refine bodyPost_ret (by simp[results,Tryz.results11,go_sem,c0,c1,c2,c3,c4];first|done|rfl) rfl ?_
 exact vr_any rfl (zAH HW9.out (by omega) _ _ _ _ _)
theorem pplain_bnot (w:World) (o:Int) (k1 p1 q1:Int) (s1:ByteArray) (r1:Int) (k2 p2 q2:Int) (s2:ByteArray) (r2:Int) (R:VR) (hunary:PureTo 34 o true) (hbinary:PureTo 35 o false) (harithmetic:PureTo 37 o false) (hbitwise:PureTo 38 o true)
  (hv1:∀W,Calls Tryz.prog 36 #[.agg #[k1,p1,q1,s1,r1]] W (BoolPost W true)) (hc:∀W,Below w.heap.size w W→Calls Tryz.prog 39 #[o,.agg #[k1,p1,q1,s1,r1],.agg #[k2,p2,q2,s2,r2]] W (VrPost W R)):Calls Tryz.prog 11 #[o,.agg #[k1,p1,q1,s1,r1],.agg #[k2,p2,q2,s2,r2]] w (VrPost w R):=by
 have HPunary:=Lib.hid hunary
 clear hunary
 have HPbinary:=Lib.hid hbinary
 clear hbinary
 have HParithmetic:=Lib.hid harithmetic
 clear harithmetic
 have HPbitwise:=Lib.hid hbitwise
 clear hbitwise
 have HV1:=Lib.hid hv1
 clear hv1
 go_enter Tryz.func11,Tryz.ntmps11
 go_wp2_with (first|(go_at_call 34;refine(HPunary.out _).mono ?_;rintro e w' ⟨rfl,rfl⟩)|(go_at_call 35;refine(HPbinary.out _).mono ?_;rintro e w' ⟨rfl,rfl⟩)|(go_at_call 37;refine(HParithmetic.out _).mono ?_;rintro e w' ⟨rfl,rfl⟩)|(go_at_call 38;refine(HPbitwise.out _).mono ?_;rintro e w' ⟨rfl,rfl⟩))
 refine(HV1.out _).mono ?_
 rintro e w1 ⟨rfl,hb⟩
 have HA1:=hkh hb (zAh _ _ _ _)
 have HB1:=hkh hb (zAY _ _ _ _)
 have HC1:=hkh hb (zAX _ _ _ _)
 have HW1:=hbn (zAL _ _ _ _) hb
 have hz1:=hb.size
 simp at hz1
 clear hb
 obtain⟨a0,a1,a2,a3,a4⟩:=cells5 HA1.out
 obtain⟨b0,b1,b2,b3,b4⟩:=cells5 HB1.out
 go_wp2_with (first|(go_at_call 34;refine(HPunary.out _).mono ?_;rintro e w' ⟨rfl,rfl⟩)|(go_at_call 35;refine(HPbinary.out _).mono ?_;rintro e w' ⟨rfl,rfl⟩)|(go_at_call 37;refine(HParithmetic.out _).mono ?_;rintro e w' ⟨rfl,rfl⟩)|(go_at_call 38;refine(HPbitwise.out _).mono ?_;rintro e w' ⟨rfl,rfl⟩))
 refine(hc _ HW1.out).mono ?_
 rintro e w9 ⟨rfl,hb⟩
 have HC9:=hkh hb HC1.out
 have HW9:=hbn HW1.out hb
 have hz9:=hb.size
 clear hb a0 a1 a2 a3 a4 b0 b1 b2 b3 b4
 obtain⟨c0,c1,c2,c3,c4⟩:=cells5 HC9.out
 obtain⟨fc0,fc1,fc2,fc3,fc4⟩:=froz5 HC9.out
 go_wp2
 refine bodyPost_ret (by simp[results,Tryz.results11,go_sem,c0,c1,c2,c3,c4];first|done|rfl) rfl ?_
 exact vr_any rfl (zAH HW9.out (by omega) _ _ _ _ _)
theorem pplain_concat (w:World) (o:Int) (k1 p1 q1:Int) (s1:ByteArray) (r1:Int) (k2 p2 q2:Int) (s2:ByteArray) (r2:Int) (R:VR) (hunary:PureTo 34 o false) (hbinary:PureTo 35 o true) (harithmetic:PureTo 37 o false) (hbitwise:PureTo 38 o false)
  (hv1:∀W,Calls Tryz.prog 36 #[.agg #[k1,p1,q1,s1,r1]] W (BoolPost W true)) (hv2:∀W,Calls Tryz.prog 36 #[.agg #[k2,p2,q2,s2,r2]] W (BoolPost W true)) (t20:(o==20)=false) (t8:(o==8)=true) (hc:∀W,Below w.heap.size w W→Calls Tryz.prog 40 #[.agg #[k1,p1,q1,s1,r1],.agg #[k2,p2,q2,s2,r2]] W (VrPost W R)):Calls Tryz.prog 11 #[o,.agg #[k1,p1,q1,s1,r1],.agg #[k2,p2,q2,s2,r2]] w (VrPost w R):=by
 have HPunary:=Lib.hid hunary
 clear hunary
 have HPbinary:=Lib.hid hbinary
 clear hbinary
 have HParithmetic:=Lib.hid harithmetic
 clear harithmetic
 have HPbitwise:=Lib.hid hbitwise
 clear hbitwise
 have HV1:=Lib.hid hv1
 clear hv1
 have HV2:=Lib.hid hv2
 clear hv2
 go_enter Tryz.func11,Tryz.ntmps11
 go_wp2_with (first|(go_at_call 34;refine(HPunary.out _).mono ?_;rintro e w' ⟨rfl,rfl⟩)|(go_at_call 35;refine(HPbinary.out _).mono ?_;rintro e w' ⟨rfl,rfl⟩)|(go_at_call 37;refine(HParithmetic.out _).mono ?_;rintro e w' ⟨rfl,rfl⟩)|(go_at_call 38;refine(HPbitwise.out _).mono ?_;rintro e w' ⟨rfl,rfl⟩))
 refine(HV1.out _).mono ?_
 rintro e w1 ⟨rfl,hb⟩
 have HA1:=hkh hb (zAh _ _ _ _)
 have HB1:=hkh hb (zAY _ _ _ _)
 have HC1:=hkh hb (zAX _ _ _ _)
 have HW1:=hbn (zAL _ _ _ _) hb
 have hz1:=hb.size
 simp at hz1
 clear hb
 obtain⟨b0,b1,b2,b3,b4⟩:=cells5 HB1.out
 go_wp2_with (first|(go_at_call 34;refine(HPunary.out _).mono ?_;rintro e w' ⟨rfl,rfl⟩)|(go_at_call 35;refine(HPbinary.out _).mono ?_;rintro e w' ⟨rfl,rfl⟩)|(go_at_call 37;refine(HParithmetic.out _).mono ?_;rintro e w' ⟨rfl,rfl⟩)|(go_at_call 38;refine(HPbitwise.out _).mono ?_;rintro e w' ⟨rfl,rfl⟩))
 refine(HV2.out _).mono ?_
 rintro e w2 ⟨rfl,hb⟩
 have HA2:=hkh hb HA1.out
 have HB2:=hkh hb HB1.out
 have HC2:=hkh hb HC1.out
 have HW2:=hbn HW1.out hb
 have hz2:=hb.size
 clear hb b0 b1 b2 b3 b4
 obtain⟨a0,a1,a2,a3,a4⟩:=cells5 HA2.out
 obtain⟨b0,b1,b2,b3,b4⟩:=cells5 HB2.out
 go_wp2_with (first|(go_at_call 34;refine(HPunary.out _).mono ?_;rintro e w' ⟨rfl,rfl⟩)|(go_at_call 35;refine(HPbinary.out _).mono ?_;rintro e w' ⟨rfl,rfl⟩)|(go_at_call 37;refine(HParithmetic.out _).mono ?_;rintro e w' ⟨rfl,rfl⟩)|(go_at_call 38;refine(HPbitwise.out _).mono ?_;rintro e w' ⟨rfl,rfl⟩))
 refine(hc _ HW2.out).mono ?_
 rintro e w9 ⟨rfl,hb⟩
 have HC9:=hkh hb HC2.out
 have HW9:=hbn HW2.out hb
 have hz9:=hb.size
 clear hb a0 a1 a2 a3 a4 b0 b1 b2 b3 b4
 obtain⟨c0,c1,c2,c3,c4⟩:=cells5 HC9.out
 obtain⟨fc0,fc1,fc2,fc3,fc4⟩:=froz5 HC9.out
 go_wp2
 refine bodyPost_ret (by simp[results,Tryz.results11,go_sem,c0,c1,c2,c3,c4];first|done|rfl) rfl ?_
 exact vr_any rfl (zAH HW9.out (by omega) _ _ _ _ _)
theorem pplain_compare (w:World) (o:Int) (k1 p1 q1:Int) (s1:ByteArray) (r1:Int) (k2 p2 q2:Int) (s2:ByteArray) (r2:Int) (R:VR) (hunary:PureTo 34 o false) (hbinary:PureTo 35 o true) (harithmetic:PureTo 37 o false) (hbitwise:PureTo 38 o false)
  (hv1:∀W,Calls Tryz.prog 36 #[.agg #[k1,p1,q1,s1,r1]] W (BoolPost W true)) (hv2:∀W,Calls Tryz.prog 36 #[.agg #[k2,p2,q2,s2,r2]] W (BoolPost W true)) (t20:(o==20)=false) (t8:(o==8)=false) (t14:(o==14)=false) (t15:(o==15)=false) (t21:(o==21)=false) (t22:(o==22)=false) (hc:∀W,Below w.heap.size w W→Calls Tryz.prog 45 #[o,.agg #[k1,p1,q1,s1,r1],.agg #[k2,p2,q2,s2,r2]] W (VrPost W R)):Calls Tryz.prog 11 #[o,.agg #[k1,p1,q1,s1,r1],.agg #[k2,p2,q2,s2,r2]] w (VrPost w R):=by
 have HPunary:=Lib.hid hunary
 clear hunary
 have HPbinary:=Lib.hid hbinary
 clear hbinary
 have HParithmetic:=Lib.hid harithmetic
 clear harithmetic
 have HPbitwise:=Lib.hid hbitwise
 clear hbitwise
 have HV1:=Lib.hid hv1
 clear hv1
 have HV2:=Lib.hid hv2
 clear hv2
 go_enter Tryz.func11,Tryz.ntmps11
 go_wp2_with (first|(go_at_call 34;refine(HPunary.out _).mono ?_;rintro e w' ⟨rfl,rfl⟩)|(go_at_call 35;refine(HPbinary.out _).mono ?_;rintro e w' ⟨rfl,rfl⟩)|(go_at_call 37;refine(HParithmetic.out _).mono ?_;rintro e w' ⟨rfl,rfl⟩)|(go_at_call 38;refine(HPbitwise.out _).mono ?_;rintro e w' ⟨rfl,rfl⟩))
 refine(HV1.out _).mono ?_
 rintro e w1 ⟨rfl,hb⟩
 have HA1:=hkh hb (zAh _ _ _ _)
 have HB1:=hkh hb (zAY _ _ _ _)
 have HC1:=hkh hb (zAX _ _ _ _)
 have HW1:=hbn (zAL _ _ _ _) hb
 have hz1:=hb.size
 simp at hz1
 clear hb
 obtain⟨b0,b1,b2,b3,b4⟩:=cells5 HB1.out
 go_wp2_with (first|(go_at_call 34;refine(HPunary.out _).mono ?_;rintro e w' ⟨rfl,rfl⟩)|(go_at_call 35;refine(HPbinary.out _).mono ?_;rintro e w' ⟨rfl,rfl⟩)|(go_at_call 37;refine(HParithmetic.out _).mono ?_;rintro e w' ⟨rfl,rfl⟩)|(go_at_call 38;refine(HPbitwise.out _).mono ?_;rintro e w' ⟨rfl,rfl⟩))
 refine(HV2.out _).mono ?_
 rintro e w2 ⟨rfl,hb⟩
 have HA2:=hkh hb HA1.out
 have HB2:=hkh hb HB1.out
 have HC2:=hkh hb HC1.out
 have HW2:=hbn HW1.out hb
 have hz2:=hb.size
 clear hb b0 b1 b2 b3 b4
 obtain⟨a0,a1,a2,a3,a4⟩:=cells5 HA2.out
 obtain⟨b0,b1,b2,b3,b4⟩:=cells5 HB2.out
 go_wp2_with (first|(go_at_call 34;refine(HPunary.out _).mono ?_;rintro e w' ⟨rfl,rfl⟩)|(go_at_call 35;refine(HPbinary.out _).mono ?_;rintro e w' ⟨rfl,rfl⟩)|(go_at_call 37;refine(HParithmetic.out _).mono ?_;rintro e w' ⟨rfl,rfl⟩)|(go_at_call 38;refine(HPbitwise.out _).mono ?_;rintro e w' ⟨rfl,rfl⟩))
 refine(hc _ HW2.out).mono ?_
 rintro e w9 ⟨rfl,hb⟩
 have HC9:=hkh hb HC2.out
 have HW9:=hbn HW2.out hb
 have hz9:=hb.size
 clear hb a0 a1 a2 a3 a4 b0 b1 b2 b3 b4
 obtain⟨c0,c1,c2,c3,c4⟩:=cells5 HC9.out
 obtain⟨fc0,fc1,fc2,fc3,fc4⟩:=froz5 HC9.out
 go_wp2
 refine bodyPost_ret (by simp[results,Tryz.results11,go_sem,c0,c1,c2,c3,c4];first|done|rfl) rfl ?_
 exact vr_any rfl (zAH HW9.out (by omega) _ _ _ _ _)
end Go.Proofs.YthkpckgcgkijbaaGreatDoor
