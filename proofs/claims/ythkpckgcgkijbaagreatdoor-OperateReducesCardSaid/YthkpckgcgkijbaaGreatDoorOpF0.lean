import Derived.Test.YthkpckgcgkijbaaGreatDoorHpC
set_option linter.unusedVariables false
set_option linter.unusedSimpArgs false
set_option maxRecDepth 100000
set_option maxHeartbeats 2000000
namespace Go.Proofs.YthkpckgcgkijbaaGreatDoor
open Go.RowKit Go.Proofs.Lexi
theorem pEqual_same (w:World) (ho:Option Addr) (o:Int) (k1 p1 q1:Int) (s1:ByteArray) (r1:Int) (k2 p2 q2:Int) (s2:ByteArray) (r2:Int) (vk vp vq:Int) (vs:ByteArray) (vr:Int) (PL:∀W,Below w.heap.size w W→Calls Tryz.prog 11 #[o,.agg #[k1,p1,q1,s1,r1],.agg #[k2,p2,q2,s2,r2]] W (VrPost W (.ok ⟨vk,vp,vq,vs,vr⟩))) (eq:Bool) (SM:∀W,Calls Tryz.prog 42 #[.agg #[k1,p1,q1,s1,r1],.agg #[k2,p2,q2,s2,r2]] W (BoolPost W eq)) (h1:eq=true):Calls Tryz.prog 73 #[.pointer ho,o,.agg #[k1,p1,q1,s1,r1],.agg #[k2,p2,q2,s2,r2]] w (NdPost w (ndVal ⟨vk,vp,vq,vs,vr⟩)):=by
 subst h1
 have HPL:=Lib.hid PL
 have HSM:=Lib.hid SM
 clear PL SM
 go_enter Tryz.func73,Tryz.ntmps73
 go_wp2_with fail
 refine(HPL.out _ ((zAF _ _ _).alloc (by simp;omega) _)).mono ?_
 rintro e w1 ⟨rfl,hb⟩
 have Ha1:=hkh hb (zAh _ _ _ _)
 have Hb1:=hkh hb (zAY _ _ _ _)
 have Hu1:=hkh hb (zAX _ _ _ _)
 have HW1:=hbn (((zAF _ _ _).alloc (by simp;omega) _)) hb
 have hz1:=hb.size
 try simp at hz1
 clear hb
 have hya:w.heap.size<w1.heap.size:=hsz Ha1
 obtain⟨a0,a1,a2,a3,a4⟩:=cells5 Ha1.out
 have hyb:w.heap.size+1<w1.heap.size:=hsz Hb1
 obtain⟨b0,b1,b2,b3,b4⟩:=cells5 Hb1.out
 go_wp2_with fail
 refine(HSM.out _).mono ?_
 rintro e w2 ⟨rfl,hb⟩
 have Ha2:=hkh hb (zAI Ha1.out _)
 have Hb2:=hkh hb (zAI Hb1.out _)
 have Hu2:=hkh hb (zAI Hu1.out _)
 have Hv2:=hkh hb (heap1 w1 (oV vk vp vq vs vr))
 have HW2:=hbn (HW1.out.alloc HW1.out.size (oV vk vp vq vs vr)) hb
 have hz2:=hb.size
 try simp at hz2
 clear hb
 clear hya a0 a1 a2 a3 a4 hyb b0 b1 b2 b3 b4
 have hya:w.heap.size<w2.heap.size:=hsz Ha2
 obtain⟨a0,a1,a2,a3,a4⟩:=cells5 Ha2.out
 have hyb:w.heap.size+1<w2.heap.size:=hsz Hb2
 obtain⟨b0,b1,b2,b3,b4⟩:=cells5 Hb2.out
 have hyv:w1.heap.size<w2.heap.size:=hsz Hv2
 obtain⟨v0,v1,v2,v3,v4⟩:=cells5 Hv2.out
 go_wp2_with fail
 refine(pIs_c _ _ _ _ _ _).mono ?_
 rintro e w3 ⟨av,rfl,hA,hb⟩
 obtain⟨ao,an,ac,rfl⟩:=hA.shape
 have HA:=Lib.hid hA
 clear hA
 have Ha3:=hkh hb Ha2.out
 have Hb3:=hkh hb Hb2.out
 have Hu3:=hkh hb Hu2.out
 have Hv3:=hkh hb Hv2.out
 have HW3:=hbn HW2.out hb
 have hz3:=hb.size
 try simp at hz3
 clear hb
 clear hya a0 a1 a2 a3 a4 hyb b0 b1 b2 b3 b4 hyv v0 v1 v2 v3 v4
 have hyu:w.heap.size+1+1<w3.heap.size:=hsz Hu3
 obtain⟨u0,u1,u2,u3,u4,u5,u6,u7,u8,u9,u10,u11,u12,u13⟩:=cells14 Hu3.out
 obtain⟨fu0,fu1,fu2,fu3,fu4,fu5,fu6,fu7,fu8,fu9,fu10,fu11,fu12,fu13⟩:=froz14 Hu3.out
 go_wp2
 refine bodyPost_ret (by simp[results,Tryz.results73,go_sem,hyu,u0,u1,u2,u3,u4,u5,u6,u7,u8,u9,u10,u11,u12,u13];first|done|rfl) rfl ?_
 exact zAt (r:=w.heap.size+1+1) (base:=w2.heap.size) HW3.out HA.out HW2.out.size (by omega) (by omega) (zAM (F:=fun b=>b=w.heap.size+1+1) (Mods.refl _ _) (.inl rfl) _ _ _ _ _ _ _ _ _ _ _ _ _ _)
theorem pEqual_kinds (w:World) (ho:Option Addr) (o:Int) (k1 p1 q1:Int) (s1:ByteArray) (r1:Int) (k2 p2 q2:Int) (s2:ByteArray) (r2:Int) (vk vp vq:Int) (vs:ByteArray) (vr:Int) (PL:∀W,Below w.heap.size w W→Calls Tryz.prog 11 #[o,.agg #[k1,p1,q1,s1,r1],.agg #[k2,p2,q2,s2,r2]] W (VrPost W (.ok ⟨vk,vp,vq,vs,vr⟩))) (eq:Bool) (SM:∀W,Calls Tryz.prog 42 #[.agg #[k1,p1,q1,s1,r1],.agg #[k2,p2,q2,s2,r2]] W (BoolPost W eq)) (h1:eq=false) (h2:(k1 !=k2)=true):Calls Tryz.prog 73 #[.pointer ho,o,.agg #[k1,p1,q1,s1,r1],.agg #[k2,p2,q2,s2,r2]] w (NdPost w (ndVal ⟨vk,vp,vq,vs,vr⟩)):=by
 subst h1
 have HPL:=Lib.hid PL
 have HSM:=Lib.hid SM
 clear PL SM
 go_enter Tryz.func73,Tryz.ntmps73
 go_wp2_with fail
 refine(HPL.out _ ((zAF _ _ _).alloc (by simp;omega) _)).mono ?_
 rintro e w1 ⟨rfl,hb⟩
 have Ha1:=hkh hb (zAh _ _ _ _)
 have Hb1:=hkh hb (zAY _ _ _ _)
 have Hu1:=hkh hb (zAX _ _ _ _)
 have HW1:=hbn (((zAF _ _ _).alloc (by simp;omega) _)) hb
 have hz1:=hb.size
 try simp at hz1
 clear hb
 have hya:w.heap.size<w1.heap.size:=hsz Ha1
 obtain⟨a0,a1,a2,a3,a4⟩:=cells5 Ha1.out
 have hyb:w.heap.size+1<w1.heap.size:=hsz Hb1
 obtain⟨b0,b1,b2,b3,b4⟩:=cells5 Hb1.out
 go_wp2_with fail
 refine(HSM.out _).mono ?_
 rintro e w2 ⟨rfl,hb⟩
 have Ha2:=hkh hb (zAI Ha1.out _)
 have Hb2:=hkh hb (zAI Hb1.out _)
 have Hu2:=hkh hb (zAI Hu1.out _)
 have Hv2:=hkh hb (heap1 w1 (oV vk vp vq vs vr))
 have HW2:=hbn (HW1.out.alloc HW1.out.size (oV vk vp vq vs vr)) hb
 have hz2:=hb.size
 try simp at hz2
 clear hb
 clear hya a0 a1 a2 a3 a4 hyb b0 b1 b2 b3 b4
 have hya:w.heap.size<w2.heap.size:=hsz Ha2
 obtain⟨a0,a1,a2,a3,a4⟩:=cells5 Ha2.out
 have hyb:w.heap.size+1<w2.heap.size:=hsz Hb2
 obtain⟨b0,b1,b2,b3,b4⟩:=cells5 Hb2.out
 have hyv:w1.heap.size<w2.heap.size:=hsz Hv2
 obtain⟨v0,v1,v2,v3,v4⟩:=cells5 Hv2.out
 go_wp2_with fail
 refine(pIs_c _ _ _ _ _ _).mono ?_
 rintro e w3 ⟨av,rfl,hA,hb⟩
 obtain⟨ao,an,ac,rfl⟩:=hA.shape
 have HA:=Lib.hid hA
 clear hA
 have Ha3:=hkh hb Ha2.out
 have Hb3:=hkh hb Hb2.out
 have Hu3:=hkh hb Hu2.out
 have Hv3:=hkh hb Hv2.out
 have HW3:=hbn HW2.out hb
 have hz3:=hb.size
 try simp at hz3
 clear hb
 clear hya a0 a1 a2 a3 a4 hyb b0 b1 b2 b3 b4 hyv v0 v1 v2 v3 v4
 have hyu:w.heap.size+1+1<w3.heap.size:=hsz Hu3
 obtain⟨u0,u1,u2,u3,u4,u5,u6,u7,u8,u9,u10,u11,u12,u13⟩:=cells14 Hu3.out
 obtain⟨fu0,fu1,fu2,fu3,fu4,fu5,fu6,fu7,fu8,fu9,fu10,fu11,fu12,fu13⟩:=froz14 Hu3.out
 go_wp2
 refine bodyPost_ret (by simp[results,Tryz.results73,go_sem,hyu,u0,u1,u2,u3,u4,u5,u6,u7,u8,u9,u10,u11,u12,u13];first|done|rfl) rfl ?_
 exact zAt (r:=w.heap.size+1+1) (base:=w2.heap.size) HW3.out HA.out HW2.out.size (by omega) (by omega) (zAM (F:=fun b=>b=w.heap.size+1+1) (Mods.refl _ _) (.inl rfl) _ _ _ _ _ _ _ _ _ _ _ _ _ _)
theorem pEqual_plain (w:World) (ho:Option Addr) (o:Int) (k1 p1 q1:Int) (s1:ByteArray) (r1:Int) (k2 p2 q2:Int) (s2:ByteArray) (r2:Int) (vk vp vq:Int) (vs:ByteArray) (vr:Int) (PL:∀W,Below w.heap.size w W→Calls Tryz.prog 11 #[o,.agg #[k1,p1,q1,s1,r1],.agg #[k2,p2,q2,s2,r2]] W (VrPost W (.ok ⟨vk,vp,vq,vs,vr⟩))) (eq:Bool) (SM:∀W,Calls Tryz.prog 42 #[.agg #[k1,p1,q1,s1,r1],.agg #[k2,p2,q2,s2,r2]] W (BoolPost W eq)) (h1:eq=false) (h2:(k1 !=k2)=false) (h3:(k1 !=4)=true) (h4:(k1 !=8)=true):Calls Tryz.prog 73 #[.pointer ho,o,.agg #[k1,p1,q1,s1,r1],.agg #[k2,p2,q2,s2,r2]] w (NdPost w (ndVal ⟨vk,vp,vq,vs,vr⟩)):=by
 subst h1
 have HPL:=Lib.hid PL
 have HSM:=Lib.hid SM
 clear PL SM
 go_enter Tryz.func73,Tryz.ntmps73
 go_wp2_with fail
 refine(HPL.out _ ((zAF _ _ _).alloc (by simp;omega) _)).mono ?_
 rintro e w1 ⟨rfl,hb⟩
 have Ha1:=hkh hb (zAh _ _ _ _)
 have Hb1:=hkh hb (zAY _ _ _ _)
 have Hu1:=hkh hb (zAX _ _ _ _)
 have HW1:=hbn (((zAF _ _ _).alloc (by simp;omega) _)) hb
 have hz1:=hb.size
 try simp at hz1
 clear hb
 have hya:w.heap.size<w1.heap.size:=hsz Ha1
 obtain⟨a0,a1,a2,a3,a4⟩:=cells5 Ha1.out
 have hyb:w.heap.size+1<w1.heap.size:=hsz Hb1
 obtain⟨b0,b1,b2,b3,b4⟩:=cells5 Hb1.out
 go_wp2_with fail
 refine(HSM.out _).mono ?_
 rintro e w2 ⟨rfl,hb⟩
 have Ha2:=hkh hb (zAI Ha1.out _)
 have Hb2:=hkh hb (zAI Hb1.out _)
 have Hu2:=hkh hb (zAI Hu1.out _)
 have Hv2:=hkh hb (heap1 w1 (oV vk vp vq vs vr))
 have HW2:=hbn (HW1.out.alloc HW1.out.size (oV vk vp vq vs vr)) hb
 have hz2:=hb.size
 try simp at hz2
 clear hb
 clear hya a0 a1 a2 a3 a4 hyb b0 b1 b2 b3 b4
 have hya:w.heap.size<w2.heap.size:=hsz Ha2
 obtain⟨a0,a1,a2,a3,a4⟩:=cells5 Ha2.out
 have hyb:w.heap.size+1<w2.heap.size:=hsz Hb2
 obtain⟨b0,b1,b2,b3,b4⟩:=cells5 Hb2.out
 have hyv:w1.heap.size<w2.heap.size:=hsz Hv2
 obtain⟨v0,v1,v2,v3,v4⟩:=cells5 Hv2.out
 go_wp2_with fail
 refine(pIs_c _ _ _ _ _ _).mono ?_
 rintro e w3 ⟨av,rfl,hA,hb⟩
 obtain⟨ao,an,ac,rfl⟩:=hA.shape
 have HA:=Lib.hid hA
 clear hA
 have Ha3:=hkh hb Ha2.out
 have Hb3:=hkh hb Hb2.out
 have Hu3:=hkh hb Hu2.out
 have Hv3:=hkh hb Hv2.out
 have HW3:=hbn HW2.out hb
 have hz3:=hb.size
 try simp at hz3
 clear hb
 clear hya a0 a1 a2 a3 a4 hyb b0 b1 b2 b3 b4 hyv v0 v1 v2 v3 v4
 have hyu:w.heap.size+1+1<w3.heap.size:=hsz Hu3
 obtain⟨u0,u1,u2,u3,u4,u5,u6,u7,u8,u9,u10,u11,u12,u13⟩:=cells14 Hu3.out
 obtain⟨fu0,fu1,fu2,fu3,fu4,fu5,fu6,fu7,fu8,fu9,fu10,fu11,fu12,fu13⟩:=froz14 Hu3.out
 go_wp2
 refine bodyPost_ret (by simp[results,Tryz.results73,go_sem,hyu,u0,u1,u2,u3,u4,u5,u6,u7,u8,u9,u10,u11,u12,u13];first|done|rfl) rfl ?_
 exact zAt (r:=w.heap.size+1+1) (base:=w2.heap.size) HW3.out HA.out HW2.out.size (by omega) (by omega) (zAM (F:=fun b=>b=w.heap.size+1+1) (Mods.refl _ _) (.inl rfl) _ _ _ _ _ _ _ _ _ _ _ _ _ _)
end Go.Proofs.YthkpckgcgkijbaaGreatDoor
