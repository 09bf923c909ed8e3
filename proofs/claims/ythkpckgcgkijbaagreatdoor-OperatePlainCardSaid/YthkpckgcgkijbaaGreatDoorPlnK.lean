import Derived.Test.YthkpckgcgkijbaaGreatDoorTexC
set_option linter.unusedVariables false
set_option linter.unusedSimpArgs false
set_option maxRecDepth 100000
set_option maxHeartbeats 2000000
namespace Go.Proofs.YthkpckgcgkijbaaGreatDoor
open Go.RowKit Go.Proofs.Lexi
theorem splain_num_bin_err1 (w:World) (o:Int) (k1 p1 q1:Int) (s1:ByteArray) (r1:Int) (k2 p2 q2:Int) (s2:ByteArray) (r2:Int) (X Y Z:RR) (R:VR) (g1:1≤o) (g2:o≤23) (hun:∀W,Calls Tryz.prog 46 #[.int .i64 o] W fun e w'=>e= .returned (.bool false)∧W=w') (hv1:∀W,Calls Tryz.prog 26 #[.agg #[k1,p1,q1,s1,r1]] W (BoolPost W true)) (hv2:∀W,Calls Tryz.prog 26 #[.agg #[k2,p2,q2,s2,r2]] W (BoolPost W true))
  (t8:(o==8)=false) (t14:(o==14)=false) (t15:(o==15)=false) (t16:(o==16)=false) (t17:(o==17)=false) (t18:(o==18)=false) (t19:(o==19)=false) (t21:(o==21)=false) (t22:(o==22)=false) (hx:∀W,Calls Tryz.prog 52 #[.agg #[k1,p1,q1,s1,r1]] W (NumPost W X)) (hy:∀W,Calls Tryz.prog 52 #[.agg #[k2,p2,q2,s2,r2]] W (NumPost W Y)) (hzz:∀W,Calls Tryz.prog 53 #[o,.agg #[.int .i64 (nP X),.int .i64 (nQ X)],.agg #[.int .i64 (nP Y),.int .i64 (nQ Y)]] W (NumPost W Z)) (eX:((((nE X:Nat):Int) !=0)=true)) (hR:R= .error 8):Calls Tryz.prog 12 #[o,.agg #[k1,p1,q1,s1,r1],.agg #[k2,p2,q2,s2,r2]] w (VrPost w R):=by
 have HX:=Lib.hid hx
 have HY:=Lib.hid hy
 have HZ:=Lib.hid hzz
 clear hx hy hzz
 have HPU:=Lib.hid hun
 clear hun
 have HV1:=Lib.hid hv1
 clear hv1
 have HV2:=Lib.hid hv2
 clear hv2
 go_enter Tryz.func12,Tryz.ntmps12
 go_wp2_with (first|(go_at_call 46;refine(HPU.out _).mono ?_;rintro e w' ⟨rfl,rfl⟩))
 refine(HV1.out _).mono ?_
 rintro e w1 ⟨rfl,hb⟩
 have HA1:=hkh hb (zAh _ _ _ _)
 have HB1:=hkh hb (zAY _ _ _ _)
 have HC1:=hkh hb (zAX _ _ _ _)
 have HW1:=hbn (zAL _ _ _ _) hb
 have hz1:=hb.size
 simp at hz1
 clear hb
 obtain⟨b0,b1,b2,b3,b4⟩:=cells5 HB1.out
 go_wp2_with (first|(go_at_call 46;refine(HPU.out _).mono ?_;rintro e w' ⟨rfl,rfl⟩))
 refine(HV2.out _).mono ?_
 rintro e w2 ⟨rfl,hb⟩
 have HA2:=hkh hb HA1.out
 have HB2:=hkh hb HB1.out
 have HC2:=hkh hb HC1.out
 have HW2:=hbn HW1.out hb
 have hz2:=hb.size
 clear hb b0 b1 b2 b3 b4
 obtain⟨a0,a1,a2,a3,a4⟩:=cells5 HA2.out
 go_wp2_with (first|(go_at_call 46;refine(HPU.out _).mono ?_;rintro e w' ⟨rfl,rfl⟩))
 refine(HX.out _).mono ?_
 rintro e w3 ⟨rfl,hb⟩
 have HB3:=Lib.hid (hgrow hb (.cells #[.int .i64 (nP X),.int .i64 (nQ X)] 23) HB2.out)
 have HC3:=Lib.hid (hgrow hb (.cells #[.int .i64 (nP X),.int .i64 (nQ X)] 23) HC2.out)
 have HX3:=Lib.hid (zAg w3 (.cells #[.int .i64 (nP X),.int .i64 (nQ X)] 23))
 have HW3:=Lib.hid ((zAC HW2.out hb).alloc (by have:=hb.size;omega) (.cells #[.int .i64 (nP X),.int .i64 (nQ X)] 23))
 have hz3:=hb.size
 clear hb a0 a1 a2 a3 a4
 obtain⟨b0,b1,b2,b3,b4⟩:=cells5 HB3.out
 go_wp2_with fail
 refine(HY.out _).mono ?_
 rintro e w4 ⟨rfl,hb⟩
 have HX4:=Lib.hid (hgrow hb (.cells #[.int .i64 (nP Y),.int .i64 (nQ Y)] 23) HX3.out)
 have HC4:=Lib.hid (hgrow hb (.cells #[.int .i64 (nP Y),.int .i64 (nQ Y)] 23) HC3.out)
 have HY4:=Lib.hid (zAg w4 (.cells #[.int .i64 (nP Y),.int .i64 (nQ Y)] 23))
 have HW4:=Lib.hid ((zAC HW3.out hb).alloc (by have:=hb.size;simp at this;omega) (.cells #[.int .i64 (nP Y),.int .i64 (nQ Y)] 23))
 have hz4:=hb.size
 simp at hz4
 clear hb b0 b1 b2 b3 b4
 obtain⟨c0,c1,c2,c3,c4⟩:=cells5 HC4.out
 obtain⟨fc0,fc1,fc2,fc3,fc4⟩:=froz5 HC4.out
 go_wp2
 refine bodyPost_ret (by simp[results,Tryz.results12,go_sem,c0,c1,c2,c3,c4];first|done|rfl) rfl ?_
 exact zBM hR (zAH HW4.out (by omega) _ _ _ _ _)
theorem splain_num_bin_err2 (w:World) (o:Int) (k1 p1 q1:Int) (s1:ByteArray) (r1:Int) (k2 p2 q2:Int) (s2:ByteArray) (r2:Int) (X Y Z:RR) (R:VR) (g1:1≤o) (g2:o≤23) (hun:∀W,Calls Tryz.prog 46 #[.int .i64 o] W fun e w'=>e= .returned (.bool false)∧W=w') (hv1:∀W,Calls Tryz.prog 26 #[.agg #[k1,p1,q1,s1,r1]] W (BoolPost W true)) (hv2:∀W,Calls Tryz.prog 26 #[.agg #[k2,p2,q2,s2,r2]] W (BoolPost W true))
  (t8:(o==8)=false) (t14:(o==14)=false) (t15:(o==15)=false) (t16:(o==16)=false) (t17:(o==17)=false) (t18:(o==18)=false) (t19:(o==19)=false) (t21:(o==21)=false) (t22:(o==22)=false) (hx:∀W,Calls Tryz.prog 52 #[.agg #[k1,p1,q1,s1,r1]] W (NumPost W X)) (hy:∀W,Calls Tryz.prog 52 #[.agg #[k2,p2,q2,s2,r2]] W (NumPost W Y)) (hzz:∀W,Calls Tryz.prog 53 #[o,.agg #[.int .i64 (nP X),.int .i64 (nQ X)],.agg #[.int .i64 (nP Y),.int .i64 (nQ Y)]] W (NumPost W Z)) (eX:((((nE X:Nat):Int) !=0)=false)) (eY:((((nE Y:Nat):Int) !=0)=true)) (hR:R= .error 8):Calls Tryz.prog 12 #[o,.agg #[k1,p1,q1,s1,r1],.agg #[k2,p2,q2,s2,r2]] w (VrPost w R):=by
 have HX:=Lib.hid hx
 have HY:=Lib.hid hy
 have HZ:=Lib.hid hzz
 clear hx hy hzz
 have HPU:=Lib.hid hun
 clear hun
 have HV1:=Lib.hid hv1
 clear hv1
 have HV2:=Lib.hid hv2
 clear hv2
 go_enter Tryz.func12,Tryz.ntmps12
 go_wp2_with (first|(go_at_call 46;refine(HPU.out _).mono ?_;rintro e w' ⟨rfl,rfl⟩))
 refine(HV1.out _).mono ?_
 rintro e w1 ⟨rfl,hb⟩
 have HA1:=hkh hb (zAh _ _ _ _)
 have HB1:=hkh hb (zAY _ _ _ _)
 have HC1:=hkh hb (zAX _ _ _ _)
 have HW1:=hbn (zAL _ _ _ _) hb
 have hz1:=hb.size
 simp at hz1
 clear hb
 obtain⟨b0,b1,b2,b3,b4⟩:=cells5 HB1.out
 go_wp2_with (first|(go_at_call 46;refine(HPU.out _).mono ?_;rintro e w' ⟨rfl,rfl⟩))
 refine(HV2.out _).mono ?_
 rintro e w2 ⟨rfl,hb⟩
 have HA2:=hkh hb HA1.out
 have HB2:=hkh hb HB1.out
 have HC2:=hkh hb HC1.out
 have HW2:=hbn HW1.out hb
 have hz2:=hb.size
 clear hb b0 b1 b2 b3 b4
 obtain⟨a0,a1,a2,a3,a4⟩:=cells5 HA2.out
 go_wp2_with (first|(go_at_call 46;refine(HPU.out _).mono ?_;rintro e w' ⟨rfl,rfl⟩))
 refine(HX.out _).mono ?_
 rintro e w3 ⟨rfl,hb⟩
 have HB3:=Lib.hid (hgrow hb (.cells #[.int .i64 (nP X),.int .i64 (nQ X)] 23) HB2.out)
 have HC3:=Lib.hid (hgrow hb (.cells #[.int .i64 (nP X),.int .i64 (nQ X)] 23) HC2.out)
 have HX3:=Lib.hid (zAg w3 (.cells #[.int .i64 (nP X),.int .i64 (nQ X)] 23))
 have HW3:=Lib.hid ((zAC HW2.out hb).alloc (by have:=hb.size;omega) (.cells #[.int .i64 (nP X),.int .i64 (nQ X)] 23))
 have hz3:=hb.size
 clear hb a0 a1 a2 a3 a4
 obtain⟨b0,b1,b2,b3,b4⟩:=cells5 HB3.out
 go_wp2_with fail
 refine(HY.out _).mono ?_
 rintro e w4 ⟨rfl,hb⟩
 have HX4:=Lib.hid (hgrow hb (.cells #[.int .i64 (nP Y),.int .i64 (nQ Y)] 23) HX3.out)
 have HC4:=Lib.hid (hgrow hb (.cells #[.int .i64 (nP Y),.int .i64 (nQ Y)] 23) HC3.out)
 have HY4:=Lib.hid (zAg w4 (.cells #[.int .i64 (nP Y),.int .i64 (nQ Y)] 23))
 have HW4:=Lib.hid ((zAC HW3.out hb).alloc (by have:=hb.size;simp at this;omega) (.cells #[.int .i64 (nP Y),.int .i64 (nQ Y)] 23))
 have hz4:=hb.size
 simp at hz4
 clear hb b0 b1 b2 b3 b4
 obtain⟨c0,c1,c2,c3,c4⟩:=cells5 HC4.out
 obtain⟨fc0,fc1,fc2,fc3,fc4⟩:=froz5 HC4.out
 go_wp2
 refine bodyPost_ret (by simp[results,Tryz.results12,go_sem,c0,c1,c2,c3,c4];first|done|rfl) rfl ?_
 exact zBM hR (zAH HW4.out (by omega) _ _ _ _ _)
theorem splain_num_bin_zerr (w:World) (o:Int) (k1 p1 q1:Int) (s1:ByteArray) (r1:Int) (k2 p2 q2:Int) (s2:ByteArray) (r2:Int) (X Y Z:RR) (R:VR) (g1:1≤o) (g2:o≤23) (hun:∀W,Calls Tryz.prog 46 #[.int .i64 o] W fun e w'=>e= .returned (.bool false)∧W=w') (hv1:∀W,Calls Tryz.prog 26 #[.agg #[k1,p1,q1,s1,r1]] W (BoolPost W true)) (hv2:∀W,Calls Tryz.prog 26 #[.agg #[k2,p2,q2,s2,r2]] W (BoolPost W true))
  (t8:(o==8)=false) (t14:(o==14)=false) (t15:(o==15)=false) (t16:(o==16)=false) (t17:(o==17)=false) (t18:(o==18)=false) (t19:(o==19)=false) (t21:(o==21)=false) (t22:(o==22)=false) (hx:∀W,Calls Tryz.prog 52 #[.agg #[k1,p1,q1,s1,r1]] W (NumPost W X)) (hy:∀W,Calls Tryz.prog 52 #[.agg #[k2,p2,q2,s2,r2]] W (NumPost W Y)) (hzz:∀W,Calls Tryz.prog 53 #[o,.agg #[.int .i64 (nP X),.int .i64 (nQ X)],.agg #[.int .i64 (nP Y),.int .i64 (nQ Y)]] W (NumPost W Z)) (eX:((((nE X:Nat):Int) !=0)=false)) (eY:((((nE Y:Nat):Int) !=0)=false)) (eZ:((((nE Z:Nat):Int) !=0)=true)) (hR:R= .error (nE Z)):Calls Tryz.prog 12 #[o,.agg #[k1,p1,q1,s1,r1],.agg #[k2,p2,q2,s2,r2]] w (VrPost w R):=by
 have HX:=Lib.hid hx
 have HY:=Lib.hid hy
 have HZ:=Lib.hid hzz
 clear hx hy hzz
 have HPU:=Lib.hid hun
 clear hun
 have HV1:=Lib.hid hv1
 clear hv1
 have HV2:=Lib.hid hv2
 clear hv2
 go_enter Tryz.func12,Tryz.ntmps12
 go_wp2_with (first|(go_at_call 46;refine(HPU.out _).mono ?_;rintro e w' ⟨rfl,rfl⟩))
 refine(HV1.out _).mono ?_
 rintro e w1 ⟨rfl,hb⟩
 have HA1:=hkh hb (zAh _ _ _ _)
 have HB1:=hkh hb (zAY _ _ _ _)
 have HC1:=hkh hb (zAX _ _ _ _)
 have HW1:=hbn (zAL _ _ _ _) hb
 have hz1:=hb.size
 simp at hz1
 clear hb
 obtain⟨b0,b1,b2,b3,b4⟩:=cells5 HB1.out
 go_wp2_with (first|(go_at_call 46;refine(HPU.out _).mono ?_;rintro e w' ⟨rfl,rfl⟩))
 refine(HV2.out _).mono ?_
 rintro e w2 ⟨rfl,hb⟩
 have HA2:=hkh hb HA1.out
 have HB2:=hkh hb HB1.out
 have HC2:=hkh hb HC1.out
 have HW2:=hbn HW1.out hb
 have hz2:=hb.size
 clear hb b0 b1 b2 b3 b4
 obtain⟨a0,a1,a2,a3,a4⟩:=cells5 HA2.out
 go_wp2_with (first|(go_at_call 46;refine(HPU.out _).mono ?_;rintro e w' ⟨rfl,rfl⟩))
 refine(HX.out _).mono ?_
 rintro e w3 ⟨rfl,hb⟩
 have HB3:=Lib.hid (hgrow hb (.cells #[.int .i64 (nP X),.int .i64 (nQ X)] 23) HB2.out)
 have HC3:=Lib.hid (hgrow hb (.cells #[.int .i64 (nP X),.int .i64 (nQ X)] 23) HC2.out)
 have HX3:=Lib.hid (zAg w3 (.cells #[.int .i64 (nP X),.int .i64 (nQ X)] 23))
 have HW3:=Lib.hid ((zAC HW2.out hb).alloc (by have:=hb.size;omega) (.cells #[.int .i64 (nP X),.int .i64 (nQ X)] 23))
 have hz3:=hb.size
 clear hb a0 a1 a2 a3 a4
 obtain⟨b0,b1,b2,b3,b4⟩:=cells5 HB3.out
 go_wp2_with fail
 refine(HY.out _).mono ?_
 rintro e w4 ⟨rfl,hb⟩
 have HX4:=Lib.hid (hgrow hb (.cells #[.int .i64 (nP Y),.int .i64 (nQ Y)] 23) HX3.out)
 have HC4:=Lib.hid (hgrow hb (.cells #[.int .i64 (nP Y),.int .i64 (nQ Y)] 23) HC3.out)
 have HY4:=Lib.hid (zAg w4 (.cells #[.int .i64 (nP Y),.int .i64 (nQ Y)] 23))
 have HW4:=Lib.hid ((zAC HW3.out hb).alloc (by have:=hb.size;simp at this;omega) (.cells #[.int .i64 (nP Y),.int .i64 (nQ Y)] 23))
 have hz4:=hb.size
 simp at hz4
 clear hb b0 b1 b2 b3 b4
 have x0:(w4.alloc (.cells #[.int .i64 (nP Y),.int .i64 (nQ Y)] 23)).cell? ⟨w3.heap.size,0,none⟩=some (.int .i64 (nP X)):=by rw[zAA HX4.out];rfl
 have x1:(w4.alloc (.cells #[.int .i64 (nP Y),.int .i64 (nQ Y)] 23)).cell? ⟨w3.heap.size,1,none⟩=some (.int .i64 (nQ X)):=by rw[zAA HX4.out];rfl
 have y0:(w4.alloc (.cells #[.int .i64 (nP Y),.int .i64 (nQ Y)] 23)).cell? ⟨w4.heap.size,0,none⟩=some (.int .i64 (nP Y)):=by rw[zAA HY4.out];rfl
 have y1:(w4.alloc (.cells #[.int .i64 (nP Y),.int .i64 (nQ Y)] 23)).cell? ⟨w4.heap.size,1,none⟩=some (.int .i64 (nQ Y)):=by rw[zAA HY4.out];rfl
 go_wp2_with fail
 refine(HZ.out _).mono ?_
 rintro e w5 ⟨rfl,hb⟩
 have HC5:=Lib.hid (hgrow hb (.cells #[.int .i64 (nP Z),.int .i64 (nQ Z)] 23) HC4.out)
 have HZ5:=Lib.hid (zAg w5 (.cells #[.int .i64 (nP Z),.int .i64 (nQ Z)] 23))
 have HW5:=Lib.hid ((zAC HW4.out hb).alloc (by have:=hb.size;simp at this;omega) (.cells #[.int .i64 (nP Z),.int .i64 (nQ Z)] 23))
 have hz5:=hb.size
 simp at hz5
 clear hb x0 x1 y0 y1
 obtain⟨c0,c1,c2,c3,c4⟩:=cells5 HC5.out
 obtain⟨fc0,fc1,fc2,fc3,fc4⟩:=froz5 HC5.out
 go_wp2
 refine bodyPost_ret (by simp[results,Tryz.results12,go_sem,c0,c1,c2,c3,c4];first|done|rfl) rfl ?_
 exact zBM hR (zAH HW5.out (by omega) _ _ _ _ _)
theorem splain_num_bin_ok (w:World) (o:Int) (k1 p1 q1:Int) (s1:ByteArray) (r1:Int) (k2 p2 q2:Int) (s2:ByteArray) (r2:Int) (X Y Z:RR) (R:VR) (g1:1≤o) (g2:o≤23) (hun:∀W,Calls Tryz.prog 46 #[.int .i64 o] W fun e w'=>e= .returned (.bool false)∧W=w') (hv1:∀W,Calls Tryz.prog 26 #[.agg #[k1,p1,q1,s1,r1]] W (BoolPost W true)) (hv2:∀W,Calls Tryz.prog 26 #[.agg #[k2,p2,q2,s2,r2]] W (BoolPost W true))
  (t8:(o==8)=false) (t14:(o==14)=false) (t15:(o==15)=false) (t16:(o==16)=false) (t17:(o==17)=false) (t18:(o==18)=false) (t19:(o==19)=false) (t21:(o==21)=false) (t22:(o==22)=false) (hx:∀W,Calls Tryz.prog 52 #[.agg #[k1,p1,q1,s1,r1]] W (NumPost W X)) (hy:∀W,Calls Tryz.prog 52 #[.agg #[k2,p2,q2,s2,r2]] W (NumPost W Y)) (hzz:∀W,Calls Tryz.prog 53 #[o,.agg #[.int .i64 (nP X),.int .i64 (nQ X)],.agg #[.int .i64 (nP Y),.int .i64 (nQ Y)]] W (NumPost W Z)) (eX:((((nE X:Nat):Int) !=0)=false)) (eY:((((nE Y:Nat):Int) !=0)=false)) (eZ:((((nE Z:Nat):Int) !=0)=false)) (hR:R= .ok (numVal (nP Z,nQ Z))):Calls Tryz.prog 12 #[o,.agg #[k1,p1,q1,s1,r1],.agg #[k2,p2,q2,s2,r2]] w (VrPost w R):=by
 have HX:=Lib.hid hx
 have HY:=Lib.hid hy
 have HZ:=Lib.hid hzz
 clear hx hy hzz
 have HPU:=Lib.hid hun
 clear hun
 have HV1:=Lib.hid hv1
 clear hv1
 have HV2:=Lib.hid hv2
 clear hv2
 go_enter Tryz.func12,Tryz.ntmps12
 go_wp2_with (first|(go_at_call 46;refine(HPU.out _).mono ?_;rintro e w' ⟨rfl,rfl⟩))
 refine(HV1.out _).mono ?_
 rintro e w1 ⟨rfl,hb⟩
 have HA1:=hkh hb (zAh _ _ _ _)
 have HB1:=hkh hb (zAY _ _ _ _)
 have HC1:=hkh hb (zAX _ _ _ _)
 have HW1:=hbn (zAL _ _ _ _) hb
 have hz1:=hb.size
 simp at hz1
 clear hb
 obtain⟨b0,b1,b2,b3,b4⟩:=cells5 HB1.out
 go_wp2_with (first|(go_at_call 46;refine(HPU.out _).mono ?_;rintro e w' ⟨rfl,rfl⟩))
 refine(HV2.out _).mono ?_
 rintro e w2 ⟨rfl,hb⟩
 have HA2:=hkh hb HA1.out
 have HB2:=hkh hb HB1.out
 have HC2:=hkh hb HC1.out
 have HW2:=hbn HW1.out hb
 have hz2:=hb.size
 clear hb b0 b1 b2 b3 b4
 obtain⟨a0,a1,a2,a3,a4⟩:=cells5 HA2.out
 go_wp2_with (first|(go_at_call 46;refine(HPU.out _).mono ?_;rintro e w' ⟨rfl,rfl⟩))
 refine(HX.out _).mono ?_
 rintro e w3 ⟨rfl,hb⟩
 have HB3:=Lib.hid (hgrow hb (.cells #[.int .i64 (nP X),.int .i64 (nQ X)] 23) HB2.out)
 have HC3:=Lib.hid (hgrow hb (.cells #[.int .i64 (nP X),.int .i64 (nQ X)] 23) HC2.out)
 have HX3:=Lib.hid (zAg w3 (.cells #[.int .i64 (nP X),.int .i64 (nQ X)] 23))
 have HW3:=Lib.hid ((zAC HW2.out hb).alloc (by have:=hb.size;omega) (.cells #[.int .i64 (nP X),.int .i64 (nQ X)] 23))
 have hz3:=hb.size
 clear hb a0 a1 a2 a3 a4
 obtain⟨b0,b1,b2,b3,b4⟩:=cells5 HB3.out
 go_wp2_with fail
 refine(HY.out _).mono ?_
 rintro e w4 ⟨rfl,hb⟩
 have HX4:=Lib.hid (hgrow hb (.cells #[.int .i64 (nP Y),.int .i64 (nQ Y)] 23) HX3.out)
 have HC4:=Lib.hid (hgrow hb (.cells #[.int .i64 (nP Y),.int .i64 (nQ Y)] 23) HC3.out)
 have HY4:=Lib.hid (zAg w4 (.cells #[.int .i64 (nP Y),.int .i64 (nQ Y)] 23))
 have HW4:=Lib.hid ((zAC HW3.out hb).alloc (by have:=hb.size;simp at this;omega) (.cells #[.int .i64 (nP Y),.int .i64 (nQ Y)] 23))
 have hz4:=hb.size
 simp at hz4
 clear hb b0 b1 b2 b3 b4
 have x0:(w4.alloc (.cells #[.int .i64 (nP Y),.int .i64 (nQ Y)] 23)).cell? ⟨w3.heap.size,0,none⟩=some (.int .i64 (nP X)):=by rw[zAA HX4.out];rfl
 have x1:(w4.alloc (.cells #[.int .i64 (nP Y),.int .i64 (nQ Y)] 23)).cell? ⟨w3.heap.size,1,none⟩=some (.int .i64 (nQ X)):=by rw[zAA HX4.out];rfl
 have y0:(w4.alloc (.cells #[.int .i64 (nP Y),.int .i64 (nQ Y)] 23)).cell? ⟨w4.heap.size,0,none⟩=some (.int .i64 (nP Y)):=by rw[zAA HY4.out];rfl
 have y1:(w4.alloc (.cells #[.int .i64 (nP Y),.int .i64 (nQ Y)] 23)).cell? ⟨w4.heap.size,1,none⟩=some (.int .i64 (nQ Y)):=by rw[zAA HY4.out];rfl
 go_wp2_with fail
 refine(HZ.out _).mono ?_
 rintro e w5 ⟨rfl,hb⟩
 have HC5:=Lib.hid (hgrow hb (.cells #[.int .i64 (nP Z),.int .i64 (nQ Z)] 23) HC4.out)
 have HZ5:=Lib.hid (zAg w5 (.cells #[.int .i64 (nP Z),.int .i64 (nQ Z)] 23))
 have HW5:=Lib.hid ((zAC HW4.out hb).alloc (by have:=hb.size;simp at this;omega) (.cells #[.int .i64 (nP Z),.int .i64 (nQ Z)] 23))
 have hz5:=hb.size
 simp at hz5
 clear hb x0 x1 y0 y1
 have z0:(w5.alloc (.cells #[.int .i64 (nP Z),.int .i64 (nQ Z)] 23)).cell? ⟨w5.heap.size,0,none⟩=some (.int .i64 (nP Z)):=by rw[zAA HZ5.out];rfl
 have z1:(w5.alloc (.cells #[.int .i64 (nP Z),.int .i64 (nQ Z)] 23)).cell? ⟨w5.heap.size,1,none⟩=some (.int .i64 (nQ Z)):=by rw[zAA HZ5.out];rfl
 go_wp2_with fail
 refine(sOfNum_c _ _ _).mono ?_
 rintro e w6 ⟨rfl,hb⟩
 have HC6:=hkh hb HC5.out
 have HW6:=hbn HW5.out hb
 clear hb
 obtain⟨c0,c1,c2,c3,c4⟩:=cells5 HC6.out
 obtain⟨fc0,fc1,fc2,fc3,fc4⟩:=froz5 HC6.out
 go_wp2
 refine bodyPost_ret (by simp[results,Tryz.results12,go_sem,c0,c1,c2,c3,c4];first|done|rfl) rfl ?_
 exact vr_ok hR rfl (zAH HW6.out (by omega) _ _ _ _ _)
theorem splain_num_un_err1 (w:World) (o:Int) (k1 p1 q1:Int) (s1:ByteArray) (r1:Int) (k2 p2 q2:Int) (s2:ByteArray) (r2:Int) (X Y Z:RR) (R:VR) (g1:1≤o) (g2:o≤23) (hun:∀W,Calls Tryz.prog 46 #[.int .i64 o] W fun e w'=>e= .returned (.bool true)∧W=w') (hv1:∀W,Calls Tryz.prog 26 #[.agg #[k1,p1,q1,s1,r1]] W (BoolPost W true)) (hv2:∀W,Calls Tryz.prog 26 #[.agg #[k1,p1,q1,s1,r1]] W (BoolPost W true))
  (t8:(o==8)=false) (t14:(o==14)=false) (t15:(o==15)=false) (t16:(o==16)=false) (t17:(o==17)=false) (t18:(o==18)=false) (t19:(o==19)=false) (t21:(o==21)=false) (t22:(o==22)=false) (hx:∀W,Calls Tryz.prog 52 #[.agg #[k1,p1,q1,s1,r1]] W (NumPost W X)) (hy:∀W,Calls Tryz.prog 52 #[.agg #[k1,p1,q1,s1,r1]] W (NumPost W Y)) (hzz:∀W,Calls Tryz.prog 53 #[o,.agg #[.int .i64 (nP X),.int .i64 (nQ X)],.agg #[.int .i64 (nP Y),.int .i64 (nQ Y)]] W (NumPost W Z)) (eX:((((nE X:Nat):Int) !=0)=true)) (hR:R= .error 8):Calls Tryz.prog 12 #[o,.agg #[k1,p1,q1,s1,r1],.agg #[k2,p2,q2,s2,r2]] w (VrPost w R):=by
 have HX:=Lib.hid hx
 have HY:=Lib.hid hy
 have HZ:=Lib.hid hzz
 clear hx hy hzz
 have HPU:=Lib.hid hun
 clear hun
 have HV1:=Lib.hid hv1
 clear hv1
 have HV2:=Lib.hid hv2
 clear hv2
 go_enter Tryz.func12,Tryz.ntmps12
 go_wp2_with (first|(go_at_call 46;refine(HPU.out _).mono ?_;rintro e w' ⟨rfl,rfl⟩))
 refine(HV1.out _).mono ?_
 rintro e w1 ⟨rfl,hb⟩
 have HA1:=hkh hb (zAh _ _ _ _)
 have HB1:=hkh hb (zAY _ _ _ _)
 have HC1:=hkh hb (zAX _ _ _ _)
 have HW1:=hbn (zAL _ _ _ _) hb
 have hz1:=hb.size
 simp at hz1
 clear hb
 obtain⟨b0,b1,b2,b3,b4⟩:=cells5 HB1.out
 go_wp2_with (first|(go_at_call 46;refine(HPU.out _).mono ?_;rintro e w' ⟨rfl,rfl⟩))
 refine(HV2.out _).mono ?_
 rintro e w2 ⟨rfl,hb⟩
 have HA2:=hkh hb HA1.out
 have HB2:=hkh hb HB1.out
 have HC2:=hkh hb HC1.out
 have HW2:=hbn HW1.out hb
 have hz2:=hb.size
 clear hb b0 b1 b2 b3 b4
 obtain⟨a0,a1,a2,a3,a4⟩:=cells5 HA2.out
 go_wp2_with (first|(go_at_call 46;refine(HPU.out _).mono ?_;rintro e w' ⟨rfl,rfl⟩))
 refine(HX.out _).mono ?_
 rintro e w3 ⟨rfl,hb⟩
 have HB3:=Lib.hid (hgrow hb (.cells #[.int .i64 (nP X),.int .i64 (nQ X)] 23) HB2.out)
 have HC3:=Lib.hid (hgrow hb (.cells #[.int .i64 (nP X),.int .i64 (nQ X)] 23) HC2.out)
 have HX3:=Lib.hid (zAg w3 (.cells #[.int .i64 (nP X),.int .i64 (nQ X)] 23))
 have HW3:=Lib.hid ((zAC HW2.out hb).alloc (by have:=hb.size;omega) (.cells #[.int .i64 (nP X),.int .i64 (nQ X)] 23))
 have hz3:=hb.size
 clear hb a0 a1 a2 a3 a4
 obtain⟨b0,b1,b2,b3,b4⟩:=cells5 HB3.out
 go_wp2_with fail
 refine(HY.out _).mono ?_
 rintro e w4 ⟨rfl,hb⟩
 have HX4:=Lib.hid (hgrow hb (.cells #[.int .i64 (nP Y),.int .i64 (nQ Y)] 23) HX3.out)
 have HC4:=Lib.hid (hgrow hb (.cells #[.int .i64 (nP Y),.int .i64 (nQ Y)] 23) HC3.out)
 have HY4:=Lib.hid (zAg w4 (.cells #[.int .i64 (nP Y),.int .i64 (nQ Y)] 23))
 have HW4:=Lib.hid ((zAC HW3.out hb).alloc (by have:=hb.size;simp at this;omega) (.cells #[.int .i64 (nP Y),.int .i64 (nQ Y)] 23))
 have hz4:=hb.size
 simp at hz4
 clear hb b0 b1 b2 b3 b4
 obtain⟨c0,c1,c2,c3,c4⟩:=cells5 HC4.out
 obtain⟨fc0,fc1,fc2,fc3,fc4⟩:=froz5 HC4.out
 go_wp2
 refine bodyPost_ret (by simp[results,Tryz.results12,go_sem,c0,c1,c2,c3,c4];first|done|rfl) rfl ?_
 exact zBM hR (zAH HW4.out (by omega) _ _ _ _ _)
theorem splain_num_un_err2 (w:World) (o:Int) (k1 p1 q1:Int) (s1:ByteArray) (r1:Int) (k2 p2 q2:Int) (s2:ByteArray) (r2:Int) (X Y Z:RR) (R:VR) (g1:1≤o) (g2:o≤23) (hun:∀W,Calls Tryz.prog 46 #[.int .i64 o] W fun e w'=>e= .returned (.bool true)∧W=w') (hv1:∀W,Calls Tryz.prog 26 #[.agg #[k1,p1,q1,s1,r1]] W (BoolPost W true)) (hv2:∀W,Calls Tryz.prog 26 #[.agg #[k1,p1,q1,s1,r1]] W (BoolPost W true))
  (t8:(o==8)=false) (t14:(o==14)=false) (t15:(o==15)=false) (t16:(o==16)=false) (t17:(o==17)=false) (t18:(o==18)=false) (t19:(o==19)=false) (t21:(o==21)=false) (t22:(o==22)=false) (hx:∀W,Calls Tryz.prog 52 #[.agg #[k1,p1,q1,s1,r1]] W (NumPost W X)) (hy:∀W,Calls Tryz.prog 52 #[.agg #[k1,p1,q1,s1,r1]] W (NumPost W Y)) (hzz:∀W,Calls Tryz.prog 53 #[o,.agg #[.int .i64 (nP X),.int .i64 (nQ X)],.agg #[.int .i64 (nP Y),.int .i64 (nQ Y)]] W (NumPost W Z)) (eX:((((nE X:Nat):Int) !=0)=false)) (eY:((((nE Y:Nat):Int) !=0)=true)) (hR:R= .error 8):Calls Tryz.prog 12 #[o,.agg #[k1,p1,q1,s1,r1],.agg #[k2,p2,q2,s2,r2]] w (VrPost w R):=by
 have HX:=Lib.hid hx
 have HY:=Lib.hid hy
 have HZ:=Lib.hid hzz
 clear hx hy hzz
 have HPU:=Lib.hid hun
 clear hun
 have HV1:=Lib.hid hv1
 clear hv1
 have HV2:=Lib.hid hv2
 clear hv2
 go_enter Tryz.func12,Tryz.ntmps12
 go_wp2_with (first|(go_at_call 46;refine(HPU.out _).mono ?_;rintro e w' ⟨rfl,rfl⟩))
 refine(HV1.out _).mono ?_
 rintro e w1 ⟨rfl,hb⟩
 have HA1:=hkh hb (zAh _ _ _ _)
 have HB1:=hkh hb (zAY _ _ _ _)
 have HC1:=hkh hb (zAX _ _ _ _)
 have HW1:=hbn (zAL _ _ _ _) hb
 have hz1:=hb.size
 simp at hz1
 clear hb
 obtain⟨b0,b1,b2,b3,b4⟩:=cells5 HB1.out
 go_wp2_with (first|(go_at_call 46;refine(HPU.out _).mono ?_;rintro e w' ⟨rfl,rfl⟩))
 refine(HV2.out _).mono ?_
 rintro e w2 ⟨rfl,hb⟩
 have HA2:=hkh hb HA1.out
 have HB2:=hkh hb HB1.out
 have HC2:=hkh hb HC1.out
 have HW2:=hbn HW1.out hb
 have hz2:=hb.size
 clear hb b0 b1 b2 b3 b4
 obtain⟨a0,a1,a2,a3,a4⟩:=cells5 HA2.out
 go_wp2_with (first|(go_at_call 46;refine(HPU.out _).mono ?_;rintro e w' ⟨rfl,rfl⟩))
 refine(HX.out _).mono ?_
 rintro e w3 ⟨rfl,hb⟩
 have HB3:=Lib.hid (hgrow hb (.cells #[.int .i64 (nP X),.int .i64 (nQ X)] 23) HB2.out)
 have HC3:=Lib.hid (hgrow hb (.cells #[.int .i64 (nP X),.int .i64 (nQ X)] 23) HC2.out)
 have HX3:=Lib.hid (zAg w3 (.cells #[.int .i64 (nP X),.int .i64 (nQ X)] 23))
 have HW3:=Lib.hid ((zAC HW2.out hb).alloc (by have:=hb.size;omega) (.cells #[.int .i64 (nP X),.int .i64 (nQ X)] 23))
 have hz3:=hb.size
 clear hb a0 a1 a2 a3 a4
 obtain⟨b0,b1,b2,b3,b4⟩:=cells5 HB3.out
 go_wp2_with fail
 refine(HY.out _).mono ?_
 rintro e w4 ⟨rfl,hb⟩
 have HX4:=Lib.hid (hgrow hb (.cells #[.int .i64 (nP Y),.int .i64 (nQ Y)] 23) HX3.out)
 have HC4:=Lib.hid (hgrow hb (.cells #[.int .i64 (nP Y),.int .i64 (nQ Y)] 23) HC3.out)
 have HY4:=Lib.hid (zAg w4 (.cells #[.int .i64 (nP Y),.int .i64 (nQ Y)] 23))
 have HW4:=Lib.hid ((zAC HW3.out hb).alloc (by have:=hb.size;simp at this;omega) (.cells #[.int .i64 (nP Y),.int .i64 (nQ Y)] 23))
 have hz4:=hb.size
 simp at hz4
 clear hb b0 b1 b2 b3 b4
 obtain⟨c0,c1,c2,c3,c4⟩:=cells5 HC4.out
 obtain⟨fc0,fc1,fc2,fc3,fc4⟩:=froz5 HC4.out
 go_wp2
 refine bodyPost_ret (by simp[results,Tryz.results12,go_sem,c0,c1,c2,c3,c4];first|done|rfl) rfl ?_
 exact zBM hR (zAH HW4.out (by omega) _ _ _ _ _)
theorem splain_num_un_zerr (w:World) (o:Int) (k1 p1 q1:Int) (s1:ByteArray) (r1:Int) (k2 p2 q2:Int) (s2:ByteArray) (r2:Int) (X Y Z:RR) (R:VR) (g1:1≤o) (g2:o≤23) (hun:∀W,Calls Tryz.prog 46 #[.int .i64 o] W fun e w'=>e= .returned (.bool true)∧W=w') (hv1:∀W,Calls Tryz.prog 26 #[.agg #[k1,p1,q1,s1,r1]] W (BoolPost W true)) (hv2:∀W,Calls Tryz.prog 26 #[.agg #[k1,p1,q1,s1,r1]] W (BoolPost W true))
  (t8:(o==8)=false) (t14:(o==14)=false) (t15:(o==15)=false) (t16:(o==16)=false) (t17:(o==17)=false) (t18:(o==18)=false) (t19:(o==19)=false) (t21:(o==21)=false) (t22:(o==22)=false) (hx:∀W,Calls Tryz.prog 52 #[.agg #[k1,p1,q1,s1,r1]] W (NumPost W X)) (hy:∀W,Calls Tryz.prog 52 #[.agg #[k1,p1,q1,s1,r1]] W (NumPost W Y)) (hzz:∀W,Calls Tryz.prog 53 #[o,.agg #[.int .i64 (nP X),.int .i64 (nQ X)],.agg #[.int .i64 (nP Y),.int .i64 (nQ Y)]] W (NumPost W Z)) (eX:((((nE X:Nat):Int) !=0)=false)) (eY:((((nE Y:Nat):Int) !=0)=false)) (eZ:((((nE Z:Nat):Int) !=0)=true)) (hR:R= .error (nE Z)):Calls Tryz.prog 12 #[o,.agg #[k1,p1,q1,s1,r1],.agg #[k2,p2,q2,s2,r2]] w (VrPost w R):=by
 have HX:=Lib.hid hx
 have HY:=Lib.hid hy
 have HZ:=Lib.hid hzz
 clear hx hy hzz
 have HPU:=Lib.hid hun
 clear hun
 have HV1:=Lib.hid hv1
 clear hv1
 have HV2:=Lib.hid hv2
 clear hv2
 go_enter Tryz.func12,Tryz.ntmps12
 go_wp2_with (first|(go_at_call 46;refine(HPU.out _).mono ?_;rintro e w' ⟨rfl,rfl⟩))
 refine(HV1.out _).mono ?_
 rintro e w1 ⟨rfl,hb⟩
 have HA1:=hkh hb (zAh _ _ _ _)
 have HB1:=hkh hb (zAY _ _ _ _)
 have HC1:=hkh hb (zAX _ _ _ _)
 have HW1:=hbn (zAL _ _ _ _) hb
 have hz1:=hb.size
 simp at hz1
 clear hb
 obtain⟨b0,b1,b2,b3,b4⟩:=cells5 HB1.out
 go_wp2_with (first|(go_at_call 46;refine(HPU.out _).mono ?_;rintro e w' ⟨rfl,rfl⟩))
 refine(HV2.out _).mono ?_
 rintro e w2 ⟨rfl,hb⟩
 have HA2:=hkh hb HA1.out
 have HB2:=hkh hb HB1.out
 have HC2:=hkh hb HC1.out
 have HW2:=hbn HW1.out hb
 have hz2:=hb.size
 clear hb b0 b1 b2 b3 b4
 obtain⟨a0,a1,a2,a3,a4⟩:=cells5 HA2.out
 go_wp2_with (first|(go_at_call 46;refine(HPU.out _).mono ?_;rintro e w' ⟨rfl,rfl⟩))
 refine(HX.out _).mono ?_
 rintro e w3 ⟨rfl,hb⟩
 have HB3:=Lib.hid (hgrow hb (.cells #[.int .i64 (nP X),.int .i64 (nQ X)] 23) HB2.out)
 have HC3:=Lib.hid (hgrow hb (.cells #[.int .i64 (nP X),.int .i64 (nQ X)] 23) HC2.out)
 have HX3:=Lib.hid (zAg w3 (.cells #[.int .i64 (nP X),.int .i64 (nQ X)] 23))
 have HW3:=Lib.hid ((zAC HW2.out hb).alloc (by have:=hb.size;omega) (.cells #[.int .i64 (nP X),.int .i64 (nQ X)] 23))
 have hz3:=hb.size
 clear hb a0 a1 a2 a3 a4
 obtain⟨b0,b1,b2,b3,b4⟩:=cells5 HB3.out
 go_wp2_with fail
 refine(HY.out _).mono ?_
 rintro e w4 ⟨rfl,hb⟩
 have HX4:=Lib.hid (hgrow hb (.cells #[.int .i64 (nP Y),.int .i64 (nQ Y)] 23) HX3.out)
 have HC4:=Lib.hid (hgrow hb (.cells #[.int .i64 (nP Y),.int .i64 (nQ Y)] 23) HC3.out)
 have HY4:=Lib.hid (zAg w4 (.cells #[.int .i64 (nP Y),.int .i64 (nQ Y)] 23))
 have HW4:=Lib.hid ((zAC HW3.out hb).alloc (by have:=hb.size;simp at this;omega) (.cells #[.int .i64 (nP Y),.int .i64 (nQ Y)] 23))
 have hz4:=hb.size
 simp at hz4
 clear hb b0 b1 b2 b3 b4
 have x0:(w4.alloc (.cells #[.int .i64 (nP Y),.int .i64 (nQ Y)] 23)).cell? ⟨w3.heap.size,0,none⟩=some (.int .i64 (nP X)):=by rw[zAA HX4.out];rfl
 have x1:(w4.alloc (.cells #[.int .i64 (nP Y),.int .i64 (nQ Y)] 23)).cell? ⟨w3.heap.size,1,none⟩=some (.int .i64 (nQ X)):=by rw[zAA HX4.out];rfl
 have y0:(w4.alloc (.cells #[.int .i64 (nP Y),.int .i64 (nQ Y)] 23)).cell? ⟨w4.heap.size,0,none⟩=some (.int .i64 (nP Y)):=by rw[zAA HY4.out];rfl
 have y1:(w4.alloc (.cells #[.int .i64 (nP Y),.int .i64 (nQ Y)] 23)).cell? ⟨w4.heap.size,1,none⟩=some (.int .i64 (nQ Y)):=by rw[zAA HY4.out];rfl
 go_wp2_with fail
 refine(HZ.out _).mono ?_
 rintro e w5 ⟨rfl,hb⟩
 have HC5:=Lib.hid (hgrow hb (.cells #[.int .i64 (nP Z),.int .i64 (nQ Z)] 23) HC4.out)
 have HZ5:=Lib.hid (zAg w5 (.cells #[.int .i64 (nP Z),.int .i64 (nQ Z)] 23))
 have HW5:=Lib.hid ((zAC HW4.out hb).alloc (by have:=hb.size;simp at this;omega) (.cells #[.int .i64 (nP Z),.int .i64 (nQ Z)] 23))
 have hz5:=hb.size
 simp at hz5
 clear hb x0 x1 y0 y1
 obtain⟨c0,c1,c2,c3,c4⟩:=cells5 HC5.out
 obtain⟨fc0,fc1,fc2,fc3,fc4⟩:=froz5 HC5.out
 go_wp2
 refine bodyPost_ret (by simp[results,Tryz.results12,go_sem,c0,c1,c2,c3,c4];first|done|rfl) rfl ?_
 exact zBM hR (zAH HW5.out (by omega) _ _ _ _ _)
theorem splain_num_un_ok (w:World) (o:Int) (k1 p1 q1:Int) (s1:ByteArray) (r1:Int) (k2 p2 q2:Int) (s2:ByteArray) (r2:Int) (X Y Z:RR) (R:VR) (g1:1≤o) (g2:o≤23) (hun:∀W,Calls Tryz.prog 46 #[.int .i64 o] W fun e w'=>e= .returned (.bool true)∧W=w') (hv1:∀W,Calls Tryz.prog 26 #[.agg #[k1,p1,q1,s1,r1]] W (BoolPost W true)) (hv2:∀W,Calls Tryz.prog 26 #[.agg #[k1,p1,q1,s1,r1]] W (BoolPost W true))
  (t8:(o==8)=false) (t14:(o==14)=false) (t15:(o==15)=false) (t16:(o==16)=false) (t17:(o==17)=false) (t18:(o==18)=false) (t19:(o==19)=false) (t21:(o==21)=false) (t22:(o==22)=false) (hx:∀W,Calls Tryz.prog 52 #[.agg #[k1,p1,q1,s1,r1]] W (NumPost W X)) (hy:∀W,Calls Tryz.prog 52 #[.agg #[k1,p1,q1,s1,r1]] W (NumPost W Y)) (hzz:∀W,Calls Tryz.prog 53 #[o,.agg #[.int .i64 (nP X),.int .i64 (nQ X)],.agg #[.int .i64 (nP Y),.int .i64 (nQ Y)]] W (NumPost W Z)) (eX:((((nE X:Nat):Int) !=0)=false)) (eY:((((nE Y:Nat):Int) !=0)=false)) (eZ:((((nE Z:Nat):Int) !=0)=false)) (hR:R= .ok (numVal (nP Z,nQ Z))):Calls Tryz.prog 12 #[o,.agg #[k1,p1,q1,s1,r1],.agg #[k2,p2,q2,s2,r2]] w (VrPost w R):=by
 have HX:=Lib.hid hx
 have HY:=Lib.hid hy
 have HZ:=Lib.hid hzz
 clear hx hy hzz
 have HPU:=Lib.hid hun
 clear hun
 have HV1:=Lib.hid hv1
 clear hv1
 have HV2:=Lib.hid hv2
 clear hv2
 go_enter Tryz.func12,Tryz.ntmps12
 go_wp2_with (first|(go_at_call 46;refine(HPU.out _).mono ?_;rintro e w' ⟨rfl,rfl⟩))
 refine(HV1.out _).mono ?_
 rintro e w1 ⟨rfl,hb⟩
 have HA1:=hkh hb (zAh _ _ _ _)
 have HB1:=hkh hb (zAY _ _ _ _)
 have HC1:=hkh hb (zAX _ _ _ _)
 have HW1:=hbn (zAL _ _ _ _) hb
 have hz1:=hb.size
 simp at hz1
 clear hb
 obtain⟨b0,b1,b2,b3,b4⟩:=cells5 HB1.out
 go_wp2_with (first|(go_at_call 46;refine(HPU.out _).mono ?_;rintro e w' ⟨rfl,rfl⟩))
 refine(HV2.out _).mono ?_
 rintro e w2 ⟨rfl,hb⟩
 have HA2:=hkh hb HA1.out
 have HB2:=hkh hb HB1.out
 have HC2:=hkh hb HC1.out
 have HW2:=hbn HW1.out hb
 have hz2:=hb.size
 clear hb b0 b1 b2 b3 b4
 obtain⟨a0,a1,a2,a3,a4⟩:=cells5 HA2.out
 go_wp2_with (first|(go_at_call 46;refine(HPU.out _).mono ?_;rintro e w' ⟨rfl,rfl⟩))
 refine(HX.out _).mono ?_
 rintro e w3 ⟨rfl,hb⟩
 have HB3:=Lib.hid (hgrow hb (.cells #[.int .i64 (nP X),.int .i64 (nQ X)] 23) HB2.out)
 have HC3:=Lib.hid (hgrow hb (.cells #[.int .i64 (nP X),.int .i64 (nQ X)] 23) HC2.out)
 have HX3:=Lib.hid (zAg w3 (.cells #[.int .i64 (nP X),.int .i64 (nQ X)] 23))
 have HW3:=Lib.hid ((zAC HW2.out hb).alloc (by have:=hb.size;omega) (.cells #[.int .i64 (nP X),.int .i64 (nQ X)] 23))
 have hz3:=hb.size
 clear hb a0 a1 a2 a3 a4
 obtain⟨b0,b1,b2,b3,b4⟩:=cells5 HB3.out
 go_wp2_with fail
 refine(HY.out _).mono ?_
 rintro e w4 ⟨rfl,hb⟩
 have HX4:=Lib.hid (hgrow hb (.cells #[.int .i64 (nP Y),.int .i64 (nQ Y)] 23) HX3.out)
 have HC4:=Lib.hid (hgrow hb (.cells #[.int .i64 (nP Y),.int .i64 (nQ Y)] 23) HC3.out)
 have HY4:=Lib.hid (zAg w4 (.cells #[.int .i64 (nP Y),.int .i64 (nQ Y)] 23))
 have HW4:=Lib.hid ((zAC HW3.out hb).alloc (by have:=hb.size;simp at this;omega) (.cells #[.int .i64 (nP Y),.int .i64 (nQ Y)] 23))
 have hz4:=hb.size
 simp at hz4
 clear hb b0 b1 b2 b3 b4
 have x0:(w4.alloc (.cells #[.int .i64 (nP Y),.int .i64 (nQ Y)] 23)).cell? ⟨w3.heap.size,0,none⟩=some (.int .i64 (nP X)):=by rw[zAA HX4.out];rfl
 have x1:(w4.alloc (.cells #[.int .i64 (nP Y),.int .i64 (nQ Y)] 23)).cell? ⟨w3.heap.size,1,none⟩=some (.int .i64 (nQ X)):=by rw[zAA HX4.out];rfl
 have y0:(w4.alloc (.cells #[.int .i64 (nP Y),.int .i64 (nQ Y)] 23)).cell? ⟨w4.heap.size,0,none⟩=some (.int .i64 (nP Y)):=by rw[zAA HY4.out];rfl
 have y1:(w4.alloc (.cells #[.int .i64 (nP Y),.int .i64 (nQ Y)] 23)).cell? ⟨w4.heap.size,1,none⟩=some (.int .i64 (nQ Y)):=by rw[zAA HY4.out];rfl
 go_wp2_with fail
 refine(HZ.out _).mono ?_
 rintro e w5 ⟨rfl,hb⟩
 have HC5:=Lib.hid (hgrow hb (.cells #[.int .i64 (nP Z),.int .i64 (nQ Z)] 23) HC4.out)
 have HZ5:=Lib.hid (zAg w5 (.cells #[.int .i64 (nP Z),.int .i64 (nQ Z)] 23))
 have HW5:=Lib.hid ((zAC HW4.out hb).alloc (by have:=hb.size;simp at this;omega) (.cells #[.int .i64 (nP Z),.int .i64 (nQ Z)] 23))
 have hz5:=hb.size
 simp at hz5
 clear hb x0 x1 y0 y1
 have z0:(w5.alloc (.cells #[.int .i64 (nP Z),.int .i64 (nQ Z)] 23)).cell? ⟨w5.heap.size,0,none⟩=some (.int .i64 (nP Z)):=by rw[zAA HZ5.out];rfl
 have z1:(w5.alloc (.cells #[.int .i64 (nP Z),.int .i64 (nQ Z)] 23)).cell? ⟨w5.heap.size,1,none⟩=some (.int .i64 (nQ Z)):=by rw[zAA HZ5.out];rfl
 go_wp2_with fail
 refine(sOfNum_c _ _ _).mono ?_
 rintro e w6 ⟨rfl,hb⟩
 have HC6:=hkh hb HC5.out
 have HW6:=hbn HW5.out hb
 clear hb
 obtain⟨c0,c1,c2,c3,c4⟩:=cells5 HC6.out
 obtain⟨fc0,fc1,fc2,fc3,fc4⟩:=froz5 HC6.out
 go_wp2
 refine bodyPost_ret (by simp[results,Tryz.results12,go_sem,c0,c1,c2,c3,c4];first|done|rfl) rfl ?_
 exact vr_ok hR rfl (zAH HW6.out (by omega) _ _ _ _ _)
end Go.Proofs.YthkpckgcgkijbaaGreatDoor
