import Derived.Test.YthkpckgcgkijbaaGreatDoorHpC
import Derived.Test.YthkpckgcgkijbaaGreatDoorBitA
set_option linter.unusedVariables false
set_option linter.unusedSimpArgs false
set_option maxRecDepth 100000
set_option maxHeartbeats 2000000
namespace Go.Proofs.YthkpckgcgkijbaaGreatDoor
open Go.RowKit Go.Proofs.Lexi
theorem pBinary_bad (w:World) (hp:Value) (o:Int) (k1 p1 q1:Int) (s1:ByteArray) (r1:Int) (k2 p2 q2:Int) (s2:ByteArray) (r2:Int) (hbi:PureTo 35 o false):Calls Tryz.prog 20 #[hp,o,.agg #[k1,p1,q1,s1,r1],.agg #[k2,p2,q2,s2,r2]] w (NdPost w (ndErr sBad)):=by
 have Hhbi:=Lib.hid hbi
 clear hbi
 go_enter Tryz.func20,Tryz.ntmps20
 go_wp2_with fail
 refine(Hhbi.out _).mono ?_
 rintro e W0 ⟨rfl,rfl⟩
 go_wp2_with fail
 refine(zCC _ _).mono ?_
 rintro e w1 ⟨av,rfl,hA,hb⟩
 obtain⟨ao,an,ac,rfl⟩:=hA.shape
 have HA:=Lib.hid hA
 clear hA
 have Ha1:=hkh hb (zAh _ _ _ _)
 have Hb1:=hkh hb (zAY _ _ _ _)
 have Hu1:=hkh hb (zAX _ _ _ _)
 have HW1:=hbn (((zAF _ _ _).alloc (by simp;omega) _)) hb
 have hz1:=hb.size
 try simp at hz1
 clear hb
 have hyu:w.heap.size+1+1<w1.heap.size:=hsz Hu1
 obtain⟨u0,u1,u2,u3,u4,u5,u6,u7,u8,u9,u10,u11,u12,u13⟩:=cells14 Hu1.out
 obtain⟨fu0,fu1,fu2,fu3,fu4,fu5,fu6,fu7,fu8,fu9,fu10,fu11,fu12,fu13⟩:=froz14 Hu1.out
 go_wp2
 refine bodyPost_ret (by simp[results,Tryz.results20,go_sem,hyu,u0,u1,u2,u3,u4,u5,u6,u7,u8,u9,u10,u11,u12,u13];first|done|rfl) rfl ?_
 exact zAt (r:=w.heap.size+1+1) (base:=w.heap.size+1+1+1) HW1.out (by simpa using HA.out) (by omega) (by omega) (by omega) (zAM (F:=fun b=>b=w.heap.size+1+1) (Mods.refl _ _) (.inl rfl) _ _ _ _ _ _ _ _ _ _ _ _ _ _)
theorem pBinary_badA (w:World) (hp:Value) (o:Int) (k1 p1 q1:Int) (s1:ByteArray) (r1:Int) (k2 p2 q2:Int) (s2:ByteArray) (r2:Int) (hbi:PureTo 35 o true) (VA:∀W,Calls Tryz.prog 36 #[.agg #[k1,p1,q1,s1,r1]] W (BoolPost W false)):Calls Tryz.prog 20 #[hp,o,.agg #[k1,p1,q1,s1,r1],.agg #[k2,p2,q2,s2,r2]] w (NdPost w (ndErr sBad)):=by
 have Hhbi:=Lib.hid hbi
 have HVA:=Lib.hid VA
 clear hbi VA
 go_enter Tryz.func20,Tryz.ntmps20
 go_wp2_with fail
 refine(Hhbi.out _).mono ?_
 rintro e W0 ⟨rfl,rfl⟩
 go_wp2_with fail
 refine(HVA.out _).mono ?_
 rintro e w1 ⟨rfl,hb⟩
 have Ha1:=hkh hb (zAh _ _ _ _)
 have Hb1:=hkh hb (zAY _ _ _ _)
 have Hu1:=hkh hb (zAX _ _ _ _)
 have HW1:=hbn (((zAF _ _ _).alloc (by simp;omega) _)) hb
 have hz1:=hb.size
 try simp at hz1
 clear hb
 have hyu:w.heap.size+1+1<w1.heap.size:=hsz Hu1
 obtain⟨u0,u1,u2,u3,u4,u5,u6,u7,u8,u9,u10,u11,u12,u13⟩:=cells14 Hu1.out
 obtain⟨fu0,fu1,fu2,fu3,fu4,fu5,fu6,fu7,fu8,fu9,fu10,fu11,fu12,fu13⟩:=froz14 Hu1.out
 go_wp2_with fail
 refine(zCC _ _).mono ?_
 rintro e w2 ⟨av,rfl,hA,hb⟩
 obtain⟨ao,an,ac,rfl⟩:=hA.shape
 have HA:=Lib.hid hA
 clear hA
 have Ha2:=hkh hb Ha1.out
 have Hb2:=hkh hb Hb1.out
 have Hu2:=hkh hb Hu1.out
 have HW2:=hbn HW1.out hb
 have hz2:=hb.size
 try simp at hz2
 clear hb
 clear hyu u0 fu0 u1 fu1 u2 fu2 u3 fu3 u4 fu4 u5 fu5 u6 fu6 u7 fu7 u8 fu8 u9 fu9 u10 fu10 u11 fu11 u12 fu12 u13 fu13
 have hyu:w.heap.size+1+1<w2.heap.size:=hsz Hu2
 obtain⟨u0,u1,u2,u3,u4,u5,u6,u7,u8,u9,u10,u11,u12,u13⟩:=cells14 Hu2.out
 obtain⟨fu0,fu1,fu2,fu3,fu4,fu5,fu6,fu7,fu8,fu9,fu10,fu11,fu12,fu13⟩:=froz14 Hu2.out
 go_wp2
 refine bodyPost_ret (by simp[results,Tryz.results20,go_sem,hyu,u0,u1,u2,u3,u4,u5,u6,u7,u8,u9,u10,u11,u12,u13];first|done|rfl) rfl ?_
 exact zAt (r:=w.heap.size+1+1) (base:=w1.heap.size) HW2.out HA.out HW1.out.size (by omega) (by omega) (zAM (F:=fun b=>b=w.heap.size+1+1) (Mods.refl _ _) (.inl rfl) _ _ _ _ _ _ _ _ _ _ _ _ _ _)
theorem pBinary_badB (w:World) (hp:Value) (o:Int) (k1 p1 q1:Int) (s1:ByteArray) (r1:Int) (k2 p2 q2:Int) (s2:ByteArray) (r2:Int) (hbi:PureTo 35 o true) (VA:∀W,Calls Tryz.prog 36 #[.agg #[k1,p1,q1,s1,r1]] W (BoolPost W true)) (VB:∀W,Calls Tryz.prog 36 #[.agg #[k2,p2,q2,s2,r2]] W (BoolPost W false)):Calls Tryz.prog 20 #[hp,o,.agg #[k1,p1,q1,s1,r1],.agg #[k2,p2,q2,s2,r2]] w (NdPost w (ndErr sBad)):=by
 have Hhbi:=Lib.hid hbi
 have HVA:=Lib.hid VA
 have HVB:=Lib.hid VB
 clear hbi VA VB
 go_enter Tryz.func20,Tryz.ntmps20
 go_wp2_with fail
 refine(Hhbi.out _).mono ?_
 rintro e W0 ⟨rfl,rfl⟩
 go_wp2_with fail
 refine(HVA.out _).mono ?_
 rintro e w1 ⟨rfl,hb⟩
 have Ha1:=hkh hb (zAh _ _ _ _)
 have Hb1:=hkh hb (zAY _ _ _ _)
 have Hu1:=hkh hb (zAX _ _ _ _)
 have HW1:=hbn (((zAF _ _ _).alloc (by simp;omega) _)) hb
 have hz1:=hb.size
 try simp at hz1
 clear hb
 have hyb:w.heap.size+1<w1.heap.size:=hsz Hb1
 obtain⟨b0,b1,b2,b3,b4⟩:=cells5 Hb1.out
 go_wp2_with fail
 refine(HVB.out _).mono ?_
 rintro e w2 ⟨rfl,hb⟩
 have Ha2:=hkh hb Ha1.out
 have Hb2:=hkh hb Hb1.out
 have Hu2:=hkh hb Hu1.out
 have HW2:=hbn HW1.out hb
 have hz2:=hb.size
 try simp at hz2
 clear hb
 clear hyb b0 b1 b2 b3 b4
 have hyu:w.heap.size+1+1<w2.heap.size:=hsz Hu2
 obtain⟨u0,u1,u2,u3,u4,u5,u6,u7,u8,u9,u10,u11,u12,u13⟩:=cells14 Hu2.out
 obtain⟨fu0,fu1,fu2,fu3,fu4,fu5,fu6,fu7,fu8,fu9,fu10,fu11,fu12,fu13⟩:=froz14 Hu2.out
 go_wp2_with fail
 refine(zCC _ _).mono ?_
 rintro e w3 ⟨av,rfl,hA,hb⟩
 obtain⟨ao,an,ac,rfl⟩:=hA.shape
 have HA:=Lib.hid hA
 clear hA
 have Ha3:=hkh hb Ha2.out
 have Hb3:=hkh hb Hb2.out
 have Hu3:=hkh hb Hu2.out
 have HW3:=hbn HW2.out hb
 have hz3:=hb.size
 try simp at hz3
 clear hb
 clear hyu u0 fu0 u1 fu1 u2 fu2 u3 fu3 u4 fu4 u5 fu5 u6 fu6 u7 fu7 u8 fu8 u9 fu9 u10 fu10 u11 fu11 u12 fu12 u13 fu13
 have hyu:w.heap.size+1+1<w3.heap.size:=hsz Hu3
 obtain⟨u0,u1,u2,u3,u4,u5,u6,u7,u8,u9,u10,u11,u12,u13⟩:=cells14 Hu3.out
 obtain⟨fu0,fu1,fu2,fu3,fu4,fu5,fu6,fu7,fu8,fu9,fu10,fu11,fu12,fu13⟩:=froz14 Hu3.out
 go_wp2
 refine bodyPost_ret (by simp[results,Tryz.results20,go_sem,hyu,u0,u1,u2,u3,u4,u5,u6,u7,u8,u9,u10,u11,u12,u13];first|done|rfl) rfl ?_
 exact zAt (r:=w.heap.size+1+1) (base:=w2.heap.size) HW3.out HA.out HW2.out.size (by omega) (by omega) (zAM (F:=fun b=>b=w.heap.size+1+1) (Mods.refl _ _) (.inl rfl) _ _ _ _ _ _ _ _ _ _ _ _ _ _)
theorem pBinary_eq (w:World) (hp:Value) (o:Int) (k1 p1 q1:Int) (s1:ByteArray) (r1:Int) (k2 p2 q2:Int) (s2:ByteArray) (r2:Int) (hbi:PureTo 35 o true) (VA:∀W,Calls Tryz.prog 36 #[.agg #[k1,p1,q1,s1,r1]] W (BoolPost W true)) (VB:∀W,Calls Tryz.prog 36 #[.agg #[k2,p2,q2,s2,r2]] W (BoolPost W true)) (h18:(o==18)=false) (h19:(o==19)=false) (h14:(o==14)=true) (n:Nd) (EQ:∀W,Below w.heap.size w W→Calls Tryz.prog 73 #[hp,o,.agg #[k1,p1,q1,s1,r1],.agg #[k2,p2,q2,s2,r2]] W (NdPost W n)):Calls Tryz.prog 20 #[hp,o,.agg #[k1,p1,q1,s1,r1],.agg #[k2,p2,q2,s2,r2]] w (NdPost w (n)):=by
 have Hhbi:=Lib.hid hbi
 have HVA:=Lib.hid VA
 have HVB:=Lib.hid VB
 have HEQ:=Lib.hid EQ
 clear hbi VA VB EQ
 go_enter Tryz.func20,Tryz.ntmps20
 go_wp2_with fail
 refine(Hhbi.out _).mono ?_
 rintro e W0 ⟨rfl,rfl⟩
 go_wp2_with fail
 refine(HVA.out _).mono ?_
 rintro e w1 ⟨rfl,hb⟩
 have Ha1:=hkh hb (zAh _ _ _ _)
 have Hb1:=hkh hb (zAY _ _ _ _)
 have Hu1:=hkh hb (zAX _ _ _ _)
 have HW1:=hbn (((zAF _ _ _).alloc (by simp;omega) _)) hb
 have hz1:=hb.size
 try simp at hz1
 clear hb
 have hyb:w.heap.size+1<w1.heap.size:=hsz Hb1
 obtain⟨b0,b1,b2,b3,b4⟩:=cells5 Hb1.out
 go_wp2_with fail
 refine(HVB.out _).mono ?_
 rintro e w2 ⟨rfl,hb⟩
 have Ha2:=hkh hb Ha1.out
 have Hb2:=hkh hb Hb1.out
 have Hu2:=hkh hb Hu1.out
 have HW2:=hbn HW1.out hb
 have hz2:=hb.size
 try simp at hz2
 clear hb
 clear hyb b0 b1 b2 b3 b4
 have hya:w.heap.size<w2.heap.size:=hsz Ha2
 obtain⟨a0,a1,a2,a3,a4⟩:=cells5 Ha2.out
 have hyb:w.heap.size+1<w2.heap.size:=hsz Hb2
 obtain⟨b0,b1,b2,b3,b4⟩:=cells5 Hb2.out
 go_wp2_with fail
 refine(HEQ.out _ HW2.out).mono ?_
 rintro e w3 ⟨av,rfl,hA,hb⟩
 obtain⟨ao,an,ac,rfl⟩:=hA.shape
 have HA:=Lib.hid hA
 clear hA
 have Ha3:=hkh hb Ha2.out
 have Hb3:=hkh hb Hb2.out
 have Hu3:=hkh hb Hu2.out
 have HW3:=hbn HW2.out hb
 have hz3:=hb.size
 try simp at hz3
 clear hb
 clear hya a0 a1 a2 a3 a4 hyb b0 b1 b2 b3 b4
 have hyu:w.heap.size+1+1<w3.heap.size:=hsz Hu3
 obtain⟨u0,u1,u2,u3,u4,u5,u6,u7,u8,u9,u10,u11,u12,u13⟩:=cells14 Hu3.out
 obtain⟨fu0,fu1,fu2,fu3,fu4,fu5,fu6,fu7,fu8,fu9,fu10,fu11,fu12,fu13⟩:=froz14 Hu3.out
 go_wp2
 refine bodyPost_ret (by simp[results,Tryz.results20,go_sem,hyu,u0,u1,u2,u3,u4,u5,u6,u7,u8,u9,u10,u11,u12,u13];first|done|rfl) rfl ?_
 exact zAt (r:=w.heap.size+1+1) (base:=w2.heap.size) HW3.out HA.out HW2.out.size (by omega) (by omega) (zAM (F:=fun b=>b=w.heap.size+1+1) (Mods.refl _ _) (.inl rfl) _ _ _ _ _ _ _ _ _ _ _ _ _ _)
theorem pBinary_ne (w:World) (hp:Value) (o:Int) (k1 p1 q1:Int) (s1:ByteArray) (r1:Int) (k2 p2 q2:Int) (s2:ByteArray) (r2:Int) (hbi:PureTo 35 o true) (VA:∀W,Calls Tryz.prog 36 #[.agg #[k1,p1,q1,s1,r1]] W (BoolPost W true)) (VB:∀W,Calls Tryz.prog 36 #[.agg #[k2,p2,q2,s2,r2]] W (BoolPost W true)) (h18:(o==18)=false) (h19:(o==19)=false) (h14:(o==14)=false) (h15:(o==15)=true) (n:Nd) (EQ:∀W,Below w.heap.size w W→Calls Tryz.prog 73 #[hp,o,.agg #[k1,p1,q1,s1,r1],.agg #[k2,p2,q2,s2,r2]] W (NdPost W n)):Calls Tryz.prog 20 #[hp,o,.agg #[k1,p1,q1,s1,r1],.agg #[k2,p2,q2,s2,r2]] w (NdPost w (n)):=by
 have Hhbi:=Lib.hid hbi
 have HVA:=Lib.hid VA
 have HVB:=Lib.hid VB
 have HEQ:=Lib.hid EQ
 clear hbi VA VB EQ
 go_enter Tryz.func20,Tryz.ntmps20
 go_wp2_with fail
 refine(Hhbi.out _).mono ?_
 rintro e W0 ⟨rfl,rfl⟩
 go_wp2_with fail
 refine(HVA.out _).mono ?_
 rintro e w1 ⟨rfl,hb⟩
 have Ha1:=hkh hb (zAh _ _ _ _)
 have Hb1:=hkh hb (zAY _ _ _ _)
 have Hu1:=hkh hb (zAX _ _ _ _)
 have HW1:=hbn (((zAF _ _ _).alloc (by simp;omega) _)) hb
 have hz1:=hb.size
 try simp at hz1
 clear hb
 have hyb:w.heap.size+1<w1.heap.size:=hsz Hb1
 obtain⟨b0,b1,b2,b3,b4⟩:=cells5 Hb1.out
 go_wp2_with fail
 refine(HVB.out _).mono ?_
 rintro e w2 ⟨rfl,hb⟩
 have Ha2:=hkh hb Ha1.out
 have Hb2:=hkh hb Hb1.out
 have Hu2:=hkh hb Hu1.out
 have HW2:=hbn HW1.out hb
 have hz2:=hb.size
 try simp at hz2
 clear hb
 clear hyb b0 b1 b2 b3 b4
 have hya:w.heap.size<w2.heap.size:=hsz Ha2
 obtain⟨a0,a1,a2,a3,a4⟩:=cells5 Ha2.out
 have hyb:w.heap.size+1<w2.heap.size:=hsz Hb2
 obtain⟨b0,b1,b2,b3,b4⟩:=cells5 Hb2.out
 go_wp2_with fail
 refine(HEQ.out _ HW2.out).mono ?_
 rintro e w3 ⟨av,rfl,hA,hb⟩
 obtain⟨ao,an,ac,rfl⟩:=hA.shape
 have HA:=Lib.hid hA
 clear hA
 have Ha3:=hkh hb Ha2.out
 have Hb3:=hkh hb Hb2.out
 have Hu3:=hkh hb Hu2.out
 have HW3:=hbn HW2.out hb
 have hz3:=hb.size
 try simp at hz3
 clear hb
 clear hya a0 a1 a2 a3 a4 hyb b0 b1 b2 b3 b4
 have hyu:w.heap.size+1+1<w3.heap.size:=hsz Hu3
 obtain⟨u0,u1,u2,u3,u4,u5,u6,u7,u8,u9,u10,u11,u12,u13⟩:=cells14 Hu3.out
 obtain⟨fu0,fu1,fu2,fu3,fu4,fu5,fu6,fu7,fu8,fu9,fu10,fu11,fu12,fu13⟩:=froz14 Hu3.out
 go_wp2
 refine bodyPost_ret (by simp[results,Tryz.results20,go_sem,hyu,u0,u1,u2,u3,u4,u5,u6,u7,u8,u9,u10,u11,u12,u13];first|done|rfl) rfl ?_
 exact zAt (r:=w.heap.size+1+1) (base:=w2.heap.size) HW3.out HA.out HW2.out.size (by omega) (by omega) (zAM (F:=fun b=>b=w.heap.size+1+1) (Mods.refl _ _) (.inl rfl) _ _ _ _ _ _ _ _ _ _ _ _ _ _)
theorem pBinary_else (w:World) (hp:Value) (o:Int) (k1 p1 q1:Int) (s1:ByteArray) (r1:Int) (k2 p2 q2:Int) (s2:ByteArray) (r2:Int) (hbi:PureTo 35 o true) (VA:∀W,Calls Tryz.prog 36 #[.agg #[k1,p1,q1,s1,r1]] W (BoolPost W true)) (VB:∀W,Calls Tryz.prog 36 #[.agg #[k2,p2,q2,s2,r2]] W (BoolPost W true)) (h18:(o==18)=false) (h19:(o==19)=false) (h14:(o==14)=false) (h15:(o==15)=false) (R:VR) (n:Nd) (PL:∀W,Below w.heap.size w W→Calls Tryz.prog 11 #[o,.agg #[k1,p1,q1,s1,r1],.agg #[k2,p2,q2,s2,r2]] W (VrPost W R)) (ST:∀W base g,Below w.heap.size w W→base≤g→W.heap[g]? =some (.cells #[k1,p1,q1,s1,r1,k2,p2,q2,s2,r2] 25)→Calls Tryz.prog 74 #[hp,o,.agg #[.int .i64 (vV R).k,.int .i64 (vV R).p,.int .i64 (vV R).q,.string (vV R).s,.int .i64 (vV R).r],.int .i64 (vE R:Nat),.slice (some ⟨g,0,none⟩) 2 2] W (NdB W base n)):Calls Tryz.prog 20 #[hp,o,.agg #[k1,p1,q1,s1,r1],.agg #[k2,p2,q2,s2,r2]] w (NdPost w (n)):=by
 have Hhbi:=Lib.hid hbi
 have HVA:=Lib.hid VA
 have HVB:=Lib.hid VB
 have HPL:=Lib.hid PL
 have HST:=Lib.hid ST
 clear hbi VA VB PL ST
 go_enter Tryz.func20,Tryz.ntmps20
 go_wp2_with fail
 refine(Hhbi.out _).mono ?_
 rintro e W0 ⟨rfl,rfl⟩
 go_wp2_with fail
 refine(HVA.out _).mono ?_
 rintro e w1 ⟨rfl,hb⟩
 have Ha1:=hkh hb (zAh _ _ _ _)
 have Hb1:=hkh hb (zAY _ _ _ _)
 have Hu1:=hkh hb (zAX _ _ _ _)
 have HW1:=hbn (((zAF _ _ _).alloc (by simp;omega) _)) hb
 have hz1:=hb.size
 try simp at hz1
 clear hb
 have hyb:w.heap.size+1<w1.heap.size:=hsz Hb1
 obtain⟨b0,b1,b2,b3,b4⟩:=cells5 Hb1.out
 go_wp2_with fail
 refine(HVB.out _).mono ?_
 rintro e w2 ⟨rfl,hb⟩
 have Ha2:=hkh hb Ha1.out
 have Hb2:=hkh hb Hb1.out
 have Hu2:=hkh hb Hu1.out
 have HW2:=hbn HW1.out hb
 have hz2:=hb.size
 try simp at hz2
 clear hb
 clear hyb b0 b1 b2 b3 b4
 have hya:w.heap.size<w2.heap.size:=hsz Ha2
 obtain⟨a0,a1,a2,a3,a4⟩:=cells5 Ha2.out
 have hyb:w.heap.size+1<w2.heap.size:=hsz Hb2
 obtain⟨b0,b1,b2,b3,b4⟩:=cells5 Hb2.out
 go_wp2_with fail
 refine(HPL.out _ HW2.out).mono ?_
 rintro e w5 ⟨rfl,hb⟩
 have Ha5:=hkh hb Ha2.out
 have Hb5:=hkh hb Hb2.out
 have Hu5:=hkh hb Hu2.out
 have HW5:=hbn HW2.out hb
 have hz5:w.heap.size+1+1<w5.heap.size:=hsz Hu5
 have hyA:w.heap.size<w5.heap.size:=by omega
 have hyB:w.heap.size+1<w5.heap.size:=by omega
 clear hb hya a0 a1 a2 a3 a4 hyb b0 b1 b2 b3 b4
 obtain⟨a0,a1,a2,a3,a4⟩:=cells5 Ha5.out
 obtain⟨b0,b1,b2,b3,b4⟩:=cells5 Hb5.out
 go_wp2_with fail
 refine(HST.out _ (w5.heap.size+1) (w5.heap.size+1) ((HW5.out.alloc HW5.out.size (oV (vV R).k (vV R).p (vV R).q (vV R).s (vV R).r)).alloc (by have:=HW5.out.size;simp;omega) (.cells #[k1,p1,q1,s1,r1,k2,p2,q2,s2,r2] 25)) (Nat.le_refl _) (zAW _ _ _)).mono ?_
 rintro e w6 ⟨av,rfl,hA,hb⟩
 obtain⟨ao,an,ac,rfl⟩:=hA.shape
 have HA:=Lib.hid hA
 have Hu6:=hkh hb (zAp Hu5.out (oV (vV R).k (vV R).p (vV R).q (vV R).s (vV R).r) (.cells #[k1,p1,q1,s1,r1,k2,p2,q2,s2,r2] 25))
 have HW6:=hbn ((HW5.out.alloc HW5.out.size (oV (vV R).k (vV R).p (vV R).q (vV R).s (vV R).r)).alloc (by have:=HW5.out.size;simp;omega) (.cells #[k1,p1,q1,s1,r1,k2,p2,q2,s2,r2] 25)) hb
 have hyu:w.heap.size+1+1<w6.heap.size:=hsz Hu6
 clear hA hb a0 a1 a2 a3 a4 b0 b1 b2 b3 b4
 obtain⟨u0,u1,u2,u3,u4,u5,u6,u7,u8,u9,u10,u11,u12,u13⟩:=cells14 Hu6.out
 obtain⟨fu0,fu1,fu2,fu3,fu4,fu5,fu6,fu7,fu8,fu9,fu10,fu11,fu12,fu13⟩:=froz14 Hu6.out
 go_wp2
 refine bodyPost_ret (by simp[results,Tryz.results20,go_sem,hyu,u0,u1,u2,u3,u4,u5,u6,u7,u8,u9,u10,u11,u12,u13];first|done|rfl) rfl ?_
 exact zAt (r:=w.heap.size+1+1) (base:=w5.heap.size+1) HW6.out HA.out (by omega) (by omega) (by omega) (zAM (F:=fun b=>b=w.heap.size+1+1) (Mods.refl _ _) (.inl rfl) _ _ _ _ _ _ _ _ _ _ _ _ _ _)
theorem pBinary_gt (w:World) (hp:Value) (o:Int) (k1 p1 q1:Int) (s1:ByteArray) (r1:Int) (k2 p2 q2:Int) (s2:ByteArray) (r2:Int) (hbi:PureTo 35 o true) (VA:∀W,Calls Tryz.prog 36 #[.agg #[k1,p1,q1,s1,r1]] W (BoolPost W true)) (VB:∀W,Calls Tryz.prog 36 #[.agg #[k2,p2,q2,s2,r2]] W (BoolPost W true)) (h18:(o==18)=true) (R:VR) (n:Nd) (PL:∀W,Below w.heap.size w W→Calls Tryz.prog 11 #[.int .i64 16,.agg #[k2,p2,q2,s2,r2],.agg #[k1,p1,q1,s1,r1]] W (VrPost W R)) (ST:∀W base g,Below w.heap.size w W→base≤g→W.heap[g]? =some (.cells #[k2,p2,q2,s2,r2,k1,p1,q1,s1,r1] 25)→Calls Tryz.prog 74 #[hp,.int .i64 16,.agg #[.int .i64 (vV R).k,.int .i64 (vV R).p,.int .i64 (vV R).q,.string (vV R).s,.int .i64 (vV R).r],.int .i64 (vE R:Nat),.slice (some ⟨g,0,none⟩) 2 2] W (NdB W base n)):Calls Tryz.prog 20 #[hp,o,.agg #[k1,p1,q1,s1,r1],.agg #[k2,p2,q2,s2,r2]] w (NdPost w (n)):=by
 have Hhbi:=Lib.hid hbi
 have HVA:=Lib.hid VA
 have HVB:=Lib.hid VB
 have HPL:=Lib.hid PL
 have HST:=Lib.hid ST
 clear hbi VA VB PL ST
 go_enter Tryz.func20,Tryz.ntmps20
 go_wp2_with fail
 refine(Hhbi.out _).mono ?_
 rintro e W0 ⟨rfl,rfl⟩
 go_wp2_with fail
 refine(HVA.out _).mono ?_
 rintro e w1 ⟨rfl,hb⟩
 have Ha1:=hkh hb (zAh _ _ _ _)
 have Hb1:=hkh hb (zAY _ _ _ _)
 have Hu1:=hkh hb (zAX _ _ _ _)
 have HW1:=hbn (((zAF _ _ _).alloc (by simp;omega) _)) hb
 have hz1:=hb.size
 try simp at hz1
 clear hb
 have hyb:w.heap.size+1<w1.heap.size:=hsz Hb1
 obtain⟨b0,b1,b2,b3,b4⟩:=cells5 Hb1.out
 go_wp2_with fail
 refine(HVB.out _).mono ?_
 rintro e w2 ⟨rfl,hb⟩
 have Ha2:=hkh hb Ha1.out
 have Hb2:=hkh hb Hb1.out
 have Hu2:=hkh hb Hu1.out
 have HW2:=hbn HW1.out hb
 have hz2:=hb.size
 try simp at hz2
 clear hb
 clear hyb b0 b1 b2 b3 b4
 have hya:w.heap.size<w2.heap.size:=hsz Ha2
 obtain⟨a0,a1,a2,a3,a4⟩:=cells5 Ha2.out
 have hyb:w.heap.size+1<w2.heap.size:=hsz Hb2
 obtain⟨b0,b1,b2,b3,b4⟩:=cells5 Hb2.out
 have fa0:w2.frozen? ⟨w.heap.size,0,none⟩=false:=zAB Ha2.out _
 have fa1:w2.frozen? ⟨w.heap.size,1,none⟩=false:=zAB Ha2.out _
 have fa2:w2.frozen? ⟨w.heap.size,2,none⟩=false:=zAB Ha2.out _
 have fa3:w2.frozen? ⟨w.heap.size,3,none⟩=false:=zAB Ha2.out _
 have fa4:w2.frozen? ⟨w.heap.size,4,none⟩=false:=zAB Ha2.out _
 have fb0:w2.frozen? ⟨w.heap.size+1,0,none⟩=false:=zAB Hb2.out _
 have fb1:w2.frozen? ⟨w.heap.size+1,1,none⟩=false:=zAB Hb2.out _
 have fb2:w2.frozen? ⟨w.heap.size+1,2,none⟩=false:=zAB Hb2.out _
 have fb3:w2.frozen? ⟨w.heap.size+1,3,none⟩=false:=zAB Hb2.out _
 have fb4:w2.frozen? ⟨w.heap.size+1,4,none⟩=false:=zAB Hb2.out _
 go_wp2
 refine zAK mixed (by kernel_rfl) ?_
 go_wp2
 refine⟨by kernel_rfl,?_⟩
 obtain⟨W5,hW5⟩:∃W5,W5=((((((((((w2.setCell ⟨w.heap.size,0,none⟩ (.int .i64 k2)).setCell ⟨w.heap.size,1,none⟩ (.int .i64 p2)).setCell ⟨w.heap.size,2,none⟩ (.int .i64 q2)).setCell ⟨w.heap.size,3,none⟩ (.string s2)).setCell ⟨w.heap.size,4,none⟩ (.int .i64 r2)).setCell ⟨w.heap.size+1,0,none⟩ (.int .i64 k1)).setCell ⟨w.heap.size+1,1,none⟩ (.int .i64 p1)).setCell ⟨w.heap.size+1,2,none⟩ (.int .i64 q1)).setCell ⟨w.heap.size+1,3,none⟩ (.string s1)).setCell ⟨w.heap.size+1,4,none⟩ (.int .i64 r1)).drew:=⟨_,rfl⟩
 rw[←hW5]
 have HWS:=Lib.hid (show Below w.heap.size w W5 by rw[hW5];exact(zAH (zAH HW2.out (Nat.le_refl _) _ _ _ _ _) (by omega) _ _ _ _ _).drew)
 have HaS:=Lib.hid (show W5.heap[w.heap.size]? =some (oV k2 p2 q2 s2 r2) by rw[hW5,drew_heap];exact zAR (zAk Ha2.out _ _ _ _ _) (by omega) _ _ _ _ _)
 have HbS:=Lib.hid (show W5.heap[w.heap.size+1]? =some (oV k1 p1 q1 s1 r1) by rw[hW5,drew_heap];exact zAk (zAR Hb2.out (by omega) _ _ _ _ _) _ _ _ _ _)
 have HuS:=Lib.hid (show W5.heap[w.heap.size+1+1]? =some oNd by rw[hW5,drew_heap];exact zAR (zAR Hu2.out (by omega) _ _ _ _ _) (by omega) _ _ _ _ _)
 clear hW5 hya a0 a1 a2 a3 a4 hyb b0 b1 b2 b3 b4 fa0 fa1 fa2 fa3 fa4 fb0 fb1 fb2 fb3 fb4
 have hyS:w.heap.size+1+1<W5.heap.size:=hsz HuS
 have hya:w.heap.size<W5.heap.size:=by omega
 have hyb:w.heap.size+1<W5.heap.size:=by omega
 obtain⟨a0,a1,a2,a3,a4⟩:=cells5 HaS.out
 obtain⟨b0,b1,b2,b3,b4⟩:=cells5 HbS.out
 go_wp2_with fail
 refine(HPL.out _ HWS.out).mono ?_
 rintro e w5 ⟨rfl,hb⟩
 have Ha5:=hkh hb HaS.out
 have Hb5:=hkh hb HbS.out
 have Hu5:=hkh hb HuS.out
 have HW5:=hbn HWS.out hb
 have hz5:w.heap.size+1+1<w5.heap.size:=hsz Hu5
 have hyA:w.heap.size<w5.heap.size:=by omega
 have hyB:w.heap.size+1<w5.heap.size:=by omega
 clear hb a0 a1 a2 a3 a4 b0 b1 b2 b3 b4
 obtain⟨a0,a1,a2,a3,a4⟩:=cells5 Ha5.out
 obtain⟨b0,b1,b2,b3,b4⟩:=cells5 Hb5.out
 go_wp2_with fail
 refine(HST.out _ (w5.heap.size+1) (w5.heap.size+1) ((HW5.out.alloc HW5.out.size (oV (vV R).k (vV R).p (vV R).q (vV R).s (vV R).r)).alloc (by have:=HW5.out.size;simp;omega) (.cells #[k2,p2,q2,s2,r2,k1,p1,q1,s1,r1] 25)) (Nat.le_refl _) (zAW _ _ _)).mono ?_
 rintro e w6 ⟨av,rfl,hA,hb⟩
 obtain⟨ao,an,ac,rfl⟩:=hA.shape
 have HA:=Lib.hid hA
 have Hu6:=hkh hb (zAp Hu5.out (oV (vV R).k (vV R).p (vV R).q (vV R).s (vV R).r) (.cells #[k2,p2,q2,s2,r2,k1,p1,q1,s1,r1] 25))
 have HW6:=hbn ((HW5.out.alloc HW5.out.size (oV (vV R).k (vV R).p (vV R).q (vV R).s (vV R).r)).alloc (by have:=HW5.out.size;simp;omega) (.cells #[k2,p2,q2,s2,r2,k1,p1,q1,s1,r1] 25)) hb
 have hyu:w.heap.size+1+1<w6.heap.size:=hsz Hu6
 clear hA hb a0 a1 a2 a3 a4 b0 b1 b2 b3 b4
 obtain⟨u0,u1,u2,u3,u4,u5,u6,u7,u8,u9,u10,u11,u12,u13⟩:=cells14 Hu6.out
 obtain⟨fu0,fu1,fu2,fu3,fu4,fu5,fu6,fu7,fu8,fu9,fu10,fu11,fu12,fu13⟩:=froz14 Hu6.out
 go_wp2
 refine bodyPost_ret (by simp[results,Tryz.results20,go_sem,hyu,u0,u1,u2,u3,u4,u5,u6,u7,u8,u9,u10,u11,u12,u13];first|done|rfl) rfl ?_
 exact zAt (r:=w.heap.size+1+1) (base:=w5.heap.size+1) HW6.out HA.out (by omega) (by omega) (by omega) (zAM (F:=fun b=>b=w.heap.size+1+1) (Mods.refl _ _) (.inl rfl) _ _ _ _ _ _ _ _ _ _ _ _ _ _)
theorem pBinary_ge (w:World) (hp:Value) (o:Int) (k1 p1 q1:Int) (s1:ByteArray) (r1:Int) (k2 p2 q2:Int) (s2:ByteArray) (r2:Int) (hbi:PureTo 35 o true) (VA:∀W,Calls Tryz.prog 36 #[.agg #[k1,p1,q1,s1,r1]] W (BoolPost W true)) (VB:∀W,Calls Tryz.prog 36 #[.agg #[k2,p2,q2,s2,r2]] W (BoolPost W true)) (h18:(o==18)=false) (h19:(o==19)=true) (R:VR) (n:Nd) (PL:∀W,Below w.heap.size w W→Calls Tryz.prog 11 #[.int .i64 17,.agg #[k2,p2,q2,s2,r2],.agg #[k1,p1,q1,s1,r1]] W (VrPost W R)) (ST:∀W base g,Below w.heap.size w W→base≤g→W.heap[g]? =some (.cells #[k2,p2,q2,s2,r2,k1,p1,q1,s1,r1] 25)→Calls Tryz.prog 74 #[hp,.int .i64 17,.agg #[.int .i64 (vV R).k,.int .i64 (vV R).p,.int .i64 (vV R).q,.string (vV R).s,.int .i64 (vV R).r],.int .i64 (vE R:Nat),.slice (some ⟨g,0,none⟩) 2 2] W (NdB W base n)):Calls Tryz.prog 20 #[hp,o,.agg #[k1,p1,q1,s1,r1],.agg #[k2,p2,q2,s2,r2]] w (NdPost w (n)):=by
 have Hhbi:=Lib.hid hbi
 have HVA:=Lib.hid VA
 have HVB:=Lib.hid VB
 have HPL:=Lib.hid PL
 have HST:=Lib.hid ST
 clear hbi VA VB PL ST
 go_enter Tryz.func20,Tryz.ntmps20
 go_wp2_with fail
 refine(Hhbi.out _).mono ?_
 rintro e W0 ⟨rfl,rfl⟩
 go_wp2_with fail
 refine(HVA.out _).mono ?_
 rintro e w1 ⟨rfl,hb⟩
 have Ha1:=hkh hb (zAh _ _ _ _)
 have Hb1:=hkh hb (zAY _ _ _ _)
 have Hu1:=hkh hb (zAX _ _ _ _)
 have HW1:=hbn (((zAF _ _ _).alloc (by simp;omega) _)) hb
 have hz1:=hb.size
 try simp at hz1
 clear hb
 have hyb:w.heap.size+1<w1.heap.size:=hsz Hb1
 obtain⟨b0,b1,b2,b3,b4⟩:=cells5 Hb1.out
 go_wp2_with fail
 refine(HVB.out _).mono ?_
 rintro e w2 ⟨rfl,hb⟩
 have Ha2:=hkh hb Ha1.out
 have Hb2:=hkh hb Hb1.out
 have Hu2:=hkh hb Hu1.out
 have HW2:=hbn HW1.out hb
 have hz2:=hb.size
 try simp at hz2
 clear hb
 clear hyb b0 b1 b2 b3 b4
 have hya:w.heap.size<w2.heap.size:=hsz Ha2
 obtain⟨a0,a1,a2,a3,a4⟩:=cells5 Ha2.out
 have hyb:w.heap.size+1<w2.heap.size:=hsz Hb2
 obtain⟨b0,b1,b2,b3,b4⟩:=cells5 Hb2.out
 have fa0:w2.frozen? ⟨w.heap.size,0,none⟩=false:=zAB Ha2.out _
 have fa1:w2.frozen? ⟨w.heap.size,1,none⟩=false:=zAB Ha2.out _
 have fa2:w2.frozen? ⟨w.heap.size,2,none⟩=false:=zAB Ha2.out _
 have fa3:w2.frozen? ⟨w.heap.size,3,none⟩=false:=zAB Ha2.out _
 have fa4:w2.frozen? ⟨w.heap.size,4,none⟩=false:=zAB Ha2.out _
 have fb0:w2.frozen? ⟨w.heap.size+1,0,none⟩=false:=zAB Hb2.out _
 have fb1:w2.frozen? ⟨w.heap.size+1,1,none⟩=false:=zAB Hb2.out _
 have fb2:w2.frozen? ⟨w.heap.size+1,2,none⟩=false:=zAB Hb2.out _
 have fb3:w2.frozen? ⟨w.heap.size+1,3,none⟩=false:=zAB Hb2.out _
 have fb4:w2.frozen? ⟨w.heap.size+1,4,none⟩=false:=zAB Hb2.out _
 go_wp2
 refine zAK mixed (by kernel_rfl) ?_
 go_wp2
 refine⟨by kernel_rfl,?_⟩
 obtain⟨W5,hW5⟩:∃W5,W5=((((((((((w2.setCell ⟨w.heap.size,0,none⟩ (.int .i64 k2)).setCell ⟨w.heap.size,1,none⟩ (.int .i64 p2)).setCell ⟨w.heap.size,2,none⟩ (.int .i64 q2)).setCell ⟨w.heap.size,3,none⟩ (.string s2)).setCell ⟨w.heap.size,4,none⟩ (.int .i64 r2)).setCell ⟨w.heap.size+1,0,none⟩ (.int .i64 k1)).setCell ⟨w.heap.size+1,1,none⟩ (.int .i64 p1)).setCell ⟨w.heap.size+1,2,none⟩ (.int .i64 q1)).setCell ⟨w.heap.size+1,3,none⟩ (.string s1)).setCell ⟨w.heap.size+1,4,none⟩ (.int .i64 r1)).drew:=⟨_,rfl⟩
 rw[←hW5]
 have HWS:=Lib.hid (show Below w.heap.size w W5 by rw[hW5];exact(zAH (zAH HW2.out (Nat.le_refl _) _ _ _ _ _) (by omega) _ _ _ _ _).drew)
 have HaS:=Lib.hid (show W5.heap[w.heap.size]? =some (oV k2 p2 q2 s2 r2) by rw[hW5,drew_heap];exact zAR (zAk Ha2.out _ _ _ _ _) (by omega) _ _ _ _ _)
 have HbS:=Lib.hid (show W5.heap[w.heap.size+1]? =some (oV k1 p1 q1 s1 r1) by rw[hW5,drew_heap];exact zAk (zAR Hb2.out (by omega) _ _ _ _ _) _ _ _ _ _)
 have HuS:=Lib.hid (show W5.heap[w.heap.size+1+1]? =some oNd by rw[hW5,drew_heap];exact zAR (zAR Hu2.out (by omega) _ _ _ _ _) (by omega) _ _ _ _ _)
 clear hW5 hya a0 a1 a2 a3 a4 hyb b0 b1 b2 b3 b4 fa0 fa1 fa2 fa3 fa4 fb0 fb1 fb2 fb3 fb4
 have hyS:w.heap.size+1+1<W5.heap.size:=hsz HuS
 have hya:w.heap.size<W5.heap.size:=by omega
 have hyb:w.heap.size+1<W5.heap.size:=by omega
 obtain⟨a0,a1,a2,a3,a4⟩:=cells5 HaS.out
 obtain⟨b0,b1,b2,b3,b4⟩:=cells5 HbS.out
 go_wp2_with fail
 refine(HPL.out _ HWS.out).mono ?_
 rintro e w5 ⟨rfl,hb⟩
 have Ha5:=hkh hb HaS.out
 have Hb5:=hkh hb HbS.out
 have Hu5:=hkh hb HuS.out
 have HW5:=hbn HWS.out hb
 have hz5:w.heap.size+1+1<w5.heap.size:=hsz Hu5
 have hyA:w.heap.size<w5.heap.size:=by omega
 have hyB:w.heap.size+1<w5.heap.size:=by omega
 clear hb a0 a1 a2 a3 a4 b0 b1 b2 b3 b4
 obtain⟨a0,a1,a2,a3,a4⟩:=cells5 Ha5.out
 obtain⟨b0,b1,b2,b3,b4⟩:=cells5 Hb5.out
 go_wp2_with fail
 refine(HST.out _ (w5.heap.size+1) (w5.heap.size+1) ((HW5.out.alloc HW5.out.size (oV (vV R).k (vV R).p (vV R).q (vV R).s (vV R).r)).alloc (by have:=HW5.out.size;simp;omega) (.cells #[k2,p2,q2,s2,r2,k1,p1,q1,s1,r1] 25)) (Nat.le_refl _) (zAW _ _ _)).mono ?_
 rintro e w6 ⟨av,rfl,hA,hb⟩
 obtain⟨ao,an,ac,rfl⟩:=hA.shape
 have HA:=Lib.hid hA
 have Hu6:=hkh hb (zAp Hu5.out (oV (vV R).k (vV R).p (vV R).q (vV R).s (vV R).r) (.cells #[k2,p2,q2,s2,r2,k1,p1,q1,s1,r1] 25))
 have HW6:=hbn ((HW5.out.alloc HW5.out.size (oV (vV R).k (vV R).p (vV R).q (vV R).s (vV R).r)).alloc (by have:=HW5.out.size;simp;omega) (.cells #[k2,p2,q2,s2,r2,k1,p1,q1,s1,r1] 25)) hb
 have hyu:w.heap.size+1+1<w6.heap.size:=hsz Hu6
 clear hA hb a0 a1 a2 a3 a4 b0 b1 b2 b3 b4
 obtain⟨u0,u1,u2,u3,u4,u5,u6,u7,u8,u9,u10,u11,u12,u13⟩:=cells14 Hu6.out
 obtain⟨fu0,fu1,fu2,fu3,fu4,fu5,fu6,fu7,fu8,fu9,fu10,fu11,fu12,fu13⟩:=froz14 Hu6.out
 go_wp2
 refine bodyPost_ret (by simp[results,Tryz.results20,go_sem,hyu,u0,u1,u2,u3,u4,u5,u6,u7,u8,u9,u10,u11,u12,u13];first|done|rfl) rfl ?_
 exact zAt (r:=w.heap.size+1+1) (base:=w5.heap.size+1) HW6.out HA.out (by omega) (by omega) (by omega) (zAM (F:=fun b=>b=w.heap.size+1+1) (Mods.refl _ _) (.inl rfl) _ _ _ _ _ _ _ _ _ _ _ _ _ _)
end Go.Proofs.YthkpckgcgkijbaaGreatDoor
