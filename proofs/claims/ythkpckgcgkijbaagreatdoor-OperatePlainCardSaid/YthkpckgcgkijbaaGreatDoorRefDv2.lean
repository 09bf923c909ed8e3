import Derived.Test.YthkpckgcgkijbaaGreatDoorRefA
set_option linter.unusedVariables false
set_option linter.unusedSimpArgs false
set_option maxRecDepth 100000
set_option maxHeartbeats 8000000
namespace Go.Proofs.YthkpckgcgkijbaaGreatDoor
open Go.RowKit Go.Proofs.Lexi
theorem sadd_c (w:World) (p q p' q':Int):Calls Tryz.prog 99 #[.agg #[p,q],.agg #[p',q']] w (NumPost w (addN (p,q) (p',q'))):=by
 have HB:=Lib.hid (zAL w (o2 p q) (o2 p' q') (o2 0 0))
 have HV1:=Lib.hid (zBB (((w.alloc (o2 p q)).alloc (o2 p' q')).alloc (o2 0 0)) p q)
 have HV2:=Lib.hid (fun W=>zBB W p' q')
 obtain⟨R,hR⟩:∃R,R=addN (p,q) (p',q'):=⟨_,rfl⟩
 rw[←hR]
 cases hv:zAT (p,q) with
 |false=>
  have HR:=Lib.hid (show R= .error 2 from by rw[hR];unfold addN twoN;rw[hv];rfl)
  have HVV:=Lib.hid hv
  clear hv hR
  go_enter Tryz.func99,Tryz.ntmps99
  go_wp2_with fail
  refine HV1.out.mono ?_
  rw[HVV.out]
  rintro e w1 ⟨rfl,hb⟩
  have HB1:=hbn HB.out hb
  have HW1:=Lib.hid hb
  obtain⟨hc,hf⟩:=bcell hb
  have hz:=hb.size
  simp at hz
  clear hb
  go_wp2
  refine bodyPost_ret (by simp[results,Tryz.results99,go_sem,hc];first|done|rfl) rfl ?_
  exact zAV HR.out (zAD HB1.out (by omega) _ _)
 |true=>
  cases hv2:zAT (p',q') with
  |false=>
   have HR:=Lib.hid (show R= .error 2 from by rw[hR];unfold addN twoN;rw[hv,hv2];rfl)
   have HVV:=Lib.hid hv
   have HVV2:=Lib.hid hv2
   clear hv hv2 hR
   go_enter Tryz.func99,Tryz.ntmps99
   go_wp2_with fail
   refine HV1.out.mono ?_
   rw[HVV.out]
   rintro e w1 ⟨rfl,hb⟩
   have HB1:=hbn HB.out hb
   have HW1:=Lib.hid hb
   obtain⟨hc,hf⟩:=bcell hb
   have hz:=hb.size
   simp at hz
   clear hb
   go_wp2_with fail
   refine(HV2.out _).mono ?_
   rw[HVV2.out]
   rintro e w2 ⟨rfl,hb⟩
   have HB2:=hbn HB1.out hb
   have HW2:=hbn HW1.out hb
   clear hc hf
   obtain⟨hc,hf⟩:=bcell HW2.out
   have hz2:=hb.size
   clear hb
   go_wp2
   refine bodyPost_ret (by simp[results,Tryz.results99,go_sem,hc];first|done|rfl) rfl ?_
   exact zAV HR.out (zAD HB2.out (by omega) _ _)
  |true=>
   have HR:=Lib.hid (show redN (p*q'+p'*q) (q*q')=R from by rw[hR];unfold addN twoN;rw[hv,hv2];rfl)
   have hb1:=zAN hv
   have hb2:=zAN hv2
   simp only[] at hb1 hb2
   obtain⟨a1,a2,a3,a4⟩:=hb1
   obtain⟨b1,b2,b3,b4⟩:=hb2
   have m1:=zAd a3 a4 (show-2147483647≤q' by omega) b2
   have m2:=zAd b3 b4 (show-2147483647≤q by omega) a2
   have m3:=zAd (show-2147483647≤q by omega) a2 (show-2147483647≤q' by omega) b2
   have m4:=zAd a3 a4 b3 b4
   have m5:0<q*q':=Int.mul_pos (by omega) (by omega)
   have HVV:=Lib.hid hv
   have HVV2:=Lib.hid hv2
   clear hv hv2 hR
   go_enter Tryz.func99,Tryz.ntmps99
   go_wp2_with fail
   refine HV1.out.mono ?_
   rw[HVV.out]
   rintro e w1 ⟨rfl,hb⟩
   have HB1:=hbn HB.out hb
   have HW1:=Lib.hid hb
   obtain⟨hc,hf⟩:=bcell hb
   have hz:=hb.size
   simp at hz
   clear hb
   go_wp2_with fail
   refine(HV2.out _).mono ?_
   rw[HVV2.out]
   rintro e w2 ⟨rfl,hb⟩
   have HB2:=hbn HB1.out hb
   have HW2:=hbn HW1.out hb
   clear hc hf
   obtain⟨hc,hf⟩:=bcell HW2.out
   have hz2:=hb.size
   clear hb
   go_wp2_with fail
   refine(sfrac_c _ _ _ (by omega) (by omega) (by omega) (by omega) (by omega)).mono ?_
   rw[HR.out]
   rintro e w3 ⟨rfl,hb⟩
   have HB3:=hbn HB2.out hb
   clear hc hf
   obtain⟨hc,hf⟩:=bcell (zAC HW2.out hb)
   have hz3:=hb.size
   clear hb
   go_wp2
   refine bodyPost_ret (by simp[results,Tryz.results99,go_sem,hc];first|done|rfl) rfl ?_
   refine zAu (zAD HB3.out ?_ _ _)
   omega
theorem ssub_c (w:World) (p q p' q':Int):Calls Tryz.prog 100 #[.agg #[p,q],.agg #[p',q']] w (NumPost w (subN (p,q) (p',q'))):=by
 have HB:=Lib.hid (zAL w (o2 p q) (o2 p' q') (o2 0 0))
 have HV1:=Lib.hid (zBB (((w.alloc (o2 p q)).alloc (o2 p' q')).alloc (o2 0 0)) p q)
 have HV2:=Lib.hid (fun W=>zBB W p' q')
 obtain⟨R,hR⟩:∃R,R=subN (p,q) (p',q'):=⟨_,rfl⟩
 rw[←hR]
 cases hv:zAT (p,q) with
 |false=>
  have HR:=Lib.hid (show R= .error 2 from by rw[hR];unfold subN twoN;rw[hv];rfl)
  have HVV:=Lib.hid hv
  clear hv hR
  go_enter Tryz.func100,Tryz.ntmps100
  go_wp2_with fail
  refine HV1.out.mono ?_
  rw[HVV.out]
  rintro e w1 ⟨rfl,hb⟩
  have HB1:=hbn HB.out hb
  have HW1:=Lib.hid hb
  obtain⟨hc,hf⟩:=bcell hb
  have hz:=hb.size
  simp at hz
  clear hb
  go_wp2
  refine bodyPost_ret (by simp[results,Tryz.results100,go_sem,hc];first|done|rfl) rfl ?_
  exact zAV HR.out (zAD HB1.out (by omega) _ _)
 |true=>
  cases hv2:zAT (p',q') with
  |false=>
   have HR:=Lib.hid (show R= .error 2 from by rw[hR];unfold subN twoN;rw[hv,hv2];rfl)
   have HVV:=Lib.hid hv
   have HVV2:=Lib.hid hv2
   clear hv hv2 hR
   go_enter Tryz.func100,Tryz.ntmps100
   go_wp2_with fail
   refine HV1.out.mono ?_
   rw[HVV.out]
   rintro e w1 ⟨rfl,hb⟩
   have HB1:=hbn HB.out hb
   have HW1:=Lib.hid hb
   obtain⟨hc,hf⟩:=bcell hb
   have hz:=hb.size
   simp at hz
   clear hb
   go_wp2_with fail
   refine(HV2.out _).mono ?_
   rw[HVV2.out]
   rintro e w2 ⟨rfl,hb⟩
   have HB2:=hbn HB1.out hb
   have HW2:=hbn HW1.out hb
   clear hc hf
   obtain⟨hc,hf⟩:=bcell HW2.out
   have hz2:=hb.size
   clear hb
   go_wp2
   refine bodyPost_ret (by simp[results,Tryz.results100,go_sem,hc];first|done|rfl) rfl ?_
   exact zAV HR.out (zAD HB2.out (by omega) _ _)
  |true=>
   have HR:=Lib.hid (show redN (p*q'-p'*q) (q*q')=R from by rw[hR];unfold subN twoN;rw[hv,hv2];rfl)
   have hb1:=zAN hv
   have hb2:=zAN hv2
   simp only[] at hb1 hb2
   obtain⟨a1,a2,a3,a4⟩:=hb1
   obtain⟨b1,b2,b3,b4⟩:=hb2
   have m1:=zAd a3 a4 (show-2147483647≤q' by omega) b2
   have m2:=zAd b3 b4 (show-2147483647≤q by omega) a2
   have m3:=zAd (show-2147483647≤q by omega) a2 (show-2147483647≤q' by omega) b2
   have m4:=zAd a3 a4 b3 b4
   have m5:0<q*q':=Int.mul_pos (by omega) (by omega)
   have HVV:=Lib.hid hv
   have HVV2:=Lib.hid hv2
   clear hv hv2 hR
   go_enter Tryz.func100,Tryz.ntmps100
   go_wp2_with fail
   refine HV1.out.mono ?_
   rw[HVV.out]
   rintro e w1 ⟨rfl,hb⟩
   have HB1:=hbn HB.out hb
   have HW1:=Lib.hid hb
   obtain⟨hc,hf⟩:=bcell hb
   have hz:=hb.size
   simp at hz
   clear hb
   go_wp2_with fail
   refine(HV2.out _).mono ?_
   rw[HVV2.out]
   rintro e w2 ⟨rfl,hb⟩
   have HB2:=hbn HB1.out hb
   have HW2:=hbn HW1.out hb
   clear hc hf
   obtain⟨hc,hf⟩:=bcell HW2.out
   have hz2:=hb.size
   clear hb
   go_wp2_with fail
   refine(sfrac_c _ _ _ (by omega) (by omega) (by omega) (by omega) (by omega)).mono ?_
   rw[HR.out]
   rintro e w3 ⟨rfl,hb⟩
   have HB3:=hbn HB2.out hb
   clear hc hf
   obtain⟨hc,hf⟩:=bcell (zAC HW2.out hb)
   have hz3:=hb.size
   clear hb
   go_wp2
   refine bodyPost_ret (by simp[results,Tryz.results100,go_sem,hc];first|done|rfl) rfl ?_
   refine zAu (zAD HB3.out ?_ _ _)
   omega
theorem smul_c (w:World) (p q p' q':Int):Calls Tryz.prog 101 #[.agg #[p,q],.agg #[p',q']] w (NumPost w (mulN (p,q) (p',q'))):=by
 have HB:=Lib.hid (zAL w (o2 p q) (o2 p' q') (o2 0 0))
 have HV1:=Lib.hid (zBB (((w.alloc (o2 p q)).alloc (o2 p' q')).alloc (o2 0 0)) p q)
 have HV2:=Lib.hid (fun W=>zBB W p' q')
 obtain⟨R,hR⟩:∃R,R=mulN (p,q) (p',q'):=⟨_,rfl⟩
 rw[←hR]
 cases hv:zAT (p,q) with
 |false=>
  have HR:=Lib.hid (show R= .error 2 from by rw[hR];unfold mulN twoN;rw[hv];rfl)
  have HVV:=Lib.hid hv
  clear hv hR
  go_enter Tryz.func101,Tryz.ntmps101
  go_wp2_with fail
  refine HV1.out.mono ?_
  rw[HVV.out]
  rintro e w1 ⟨rfl,hb⟩
  have HB1:=hbn HB.out hb
  have HW1:=Lib.hid hb
  obtain⟨hc,hf⟩:=bcell hb
  have hz:=hb.size
  simp at hz
  clear hb
  go_wp2
  refine bodyPost_ret (by simp[results,Tryz.results101,go_sem,hc];first|done|rfl) rfl ?_
  exact zAV HR.out (zAD HB1.out (by omega) _ _)
 |true=>
  cases hv2:zAT (p',q') with
  |false=>
   have HR:=Lib.hid (show R= .error 2 from by rw[hR];unfold mulN twoN;rw[hv,hv2];rfl)
   have HVV:=Lib.hid hv
   have HVV2:=Lib.hid hv2
   clear hv hv2 hR
   go_enter Tryz.func101,Tryz.ntmps101
   go_wp2_with fail
   refine HV1.out.mono ?_
   rw[HVV.out]
   rintro e w1 ⟨rfl,hb⟩
   have HB1:=hbn HB.out hb
   have HW1:=Lib.hid hb
   obtain⟨hc,hf⟩:=bcell hb
   have hz:=hb.size
   simp at hz
   clear hb
   go_wp2_with fail
   refine(HV2.out _).mono ?_
   rw[HVV2.out]
   rintro e w2 ⟨rfl,hb⟩
   have HB2:=hbn HB1.out hb
   have HW2:=hbn HW1.out hb
   clear hc hf
   obtain⟨hc,hf⟩:=bcell HW2.out
   have hz2:=hb.size
   clear hb
   go_wp2
   refine bodyPost_ret (by simp[results,Tryz.results101,go_sem,hc];first|done|rfl) rfl ?_
   exact zAV HR.out (zAD HB2.out (by omega) _ _)
  |true=>
   have HR:=Lib.hid (show redN (p*p') (q*q')=R from by rw[hR];unfold mulN twoN;rw[hv,hv2];rfl)
   have hb1:=zAN hv
   have hb2:=zAN hv2
   simp only[] at hb1 hb2
   obtain⟨a1,a2,a3,a4⟩:=hb1
   obtain⟨b1,b2,b3,b4⟩:=hb2
   have m1:=zAd a3 a4 (show-2147483647≤q' by omega) b2
   have m2:=zAd b3 b4 (show-2147483647≤q by omega) a2
   have m3:=zAd (show-2147483647≤q by omega) a2 (show-2147483647≤q' by omega) b2
   have m4:=zAd a3 a4 b3 b4
   have m5:0<q*q':=Int.mul_pos (by omega) (by omega)
   have HVV:=Lib.hid hv
   have HVV2:=Lib.hid hv2
   clear hv hv2 hR
   go_enter Tryz.func101,Tryz.ntmps101
   go_wp2_with fail
   refine HV1.out.mono ?_
   rw[HVV.out]
   rintro e w1 ⟨rfl,hb⟩
   have HB1:=hbn HB.out hb
   have HW1:=Lib.hid hb
   obtain⟨hc,hf⟩:=bcell hb
   have hz:=hb.size
   simp at hz
   clear hb
   go_wp2_with fail
   refine(HV2.out _).mono ?_
   rw[HVV2.out]
   rintro e w2 ⟨rfl,hb⟩
   have HB2:=hbn HB1.out hb
   have HW2:=hbn HW1.out hb
   clear hc hf
   obtain⟨hc,hf⟩:=bcell HW2.out
   have hz2:=hb.size
   clear hb
   go_wp2_with fail
   refine(sfrac_c _ _ _ (by omega) (by omega) (by omega) (by omega) (by omega)).mono ?_
   rw[HR.out]
   rintro e w3 ⟨rfl,hb⟩
   have HB3:=hbn HB2.out hb
   clear hc hf
   obtain⟨hc,hf⟩:=bcell (zAC HW2.out hb)
   have hz3:=hb.size
   clear hb
   go_wp2
   refine bodyPost_ret (by simp[results,Tryz.results101,go_sem,hc];first|done|rfl) rfl ?_
   refine zAu (zAD HB3.out ?_ _ _)
   omega
theorem sdivisor_c (w:World) (p q p' q':Int):Calls Tryz.prog 162 #[.agg #[p,q],.agg #[p',q']] w (IntPost w (divE (p,q) (p',q'):Nat)):=by
 have HB:=Lib.hid (zAF w (o2 p q) (o2 p' q'))
 have HV1:=Lib.hid (zBB ((w.alloc (o2 p q)).alloc (o2 p' q')) p q)
 have HV2:=Lib.hid (fun W=>zBB W p' q')
 obtain⟨R,hR⟩:∃R,R=divE (p,q) (p',q'):=⟨_,rfl⟩
 rw[←hR]
 cases hv:zAT (p,q) with
 |false=>
  have HR:=Lib.hid (show R=2 from by rw[hR];unfold divE;rw[hv];rfl)
  have HVV:=Lib.hid hv
  clear hv hR
  go_enter Tryz.func162,Tryz.ntmps162
  go_wp2_with fail
  refine HV1.out.mono ?_
  rw[HVV.out]
  rintro e w1 ⟨rfl,hb⟩
  have HB1:=hbn HB.out hb
  have HW1:=Lib.hid hb
  obtain⟨hc,hf⟩:=bcell hb
  have hz:=hb.size
  simp at hz
  clear hb
  go_wp2
  go_ret
  exact zAq (by rw[HR.out];rfl) HB1.out
 |true=>
  cases hv2:zAT (p',q') with
  |false=>
   have HR:=Lib.hid (show R=2 from by rw[hR];unfold divE;rw[hv,hv2];rfl)
   have HVV:=Lib.hid hv
   have HVV2:=Lib.hid hv2
   clear hv hv2 hR
   go_enter Tryz.func162,Tryz.ntmps162
   go_wp2_with fail
   refine HV1.out.mono ?_
   rw[HVV.out]
   rintro e w1 ⟨rfl,hb⟩
   have HB1:=hbn HB.out hb
   have HW1:=Lib.hid hb
   obtain⟨hc,hf⟩:=bcell hb
   have hz:=hb.size
   simp at hz
   clear hb
   go_wp2_with fail
   refine(HV2.out _).mono ?_
   rw[HVV2.out]
   rintro e w2 ⟨rfl,hb⟩
   have HB2:=hbn HB1.out hb
   have HW2:=hbn HW1.out hb
   clear hc hf
   obtain⟨hc,hf⟩:=bcell HW2.out
   have hz2:=hb.size
   clear hb
   go_wp2
   go_ret
   exact zAq (by rw[HR.out];rfl) HB2.out
  |true=>
   obtain⟨c,hcc⟩:∃c,(p'==0)=c:=⟨_,rfl⟩
   have HR:=Lib.hid (show R=if c then 7 else 0 from by rw[hR,←hcc];unfold divE;rw[hv,hv2];simp)
   have HVV:=Lib.hid hv
   have HVV2:=Lib.hid hv2
   clear hv hv2 hR
   cases c
   all_goals
    go_enter Tryz.func162,Tryz.ntmps162
    go_wp2_with fail
    refine HV1.out.mono ?_
    rw[HVV.out]
    rintro e w1 ⟨rfl,hb⟩
    have HB1:=hbn HB.out hb
    have HW1:=Lib.hid hb
    obtain⟨hc,hf⟩:=bcell hb
    have hz:=hb.size
    simp at hz
    clear hb
    go_wp2_with fail
    refine(HV2.out _).mono ?_
    rw[HVV2.out]
    rintro e w2 ⟨rfl,hb⟩
    have HB2:=hbn HB1.out hb
    have HW2:=hbn HW1.out hb
    clear hc hf
    obtain⟨hc,hf⟩:=bcell HW2.out
    have hz2:=hb.size
    clear hb
    go_wp2
    go_ret
    exact zAq (by rw[HR.out];rfl) HB2.out
theorem sdiv_c (w:World) (p q p' q':Int):Calls Tryz.prog 102 #[.agg #[p,q],.agg #[p',q']] w (NumPost w (divN (p,q) (p',q'))):=by
 have HB:=Lib.hid (zAL w (o2 p q) (o2 p' q') (o2 0 0))
 have HD:=Lib.hid (sdivisor_c (((w.alloc (o2 p q)).alloc (o2 p' q')).alloc (o2 0 0)) p q p' q')
 obtain⟨R,hR⟩:∃R,R=divN (p,q) (p',q'):=⟨_,rfl⟩
 obtain⟨C,hC⟩:∃C,C=divE (p,q) (p',q'):=⟨_,rfl⟩
 rw[←hR]
 by_cases h0:C=0
 ·obtain⟨hv,hv2,hz0,hX⟩:=div_ok (hC.symm.trans h0)
  have HEE:=Lib.hid (show divE (p,q) (p',q')=0 from hC.symm.trans h0)
  have HR0:=Lib.hid (show R=redN (p*q') (p'*q) from by rw[hR];exact hX _)
  have hb1:=zAN hv
  have hb2:=zAN hv2
  simp only[] at hb1 hb2
  obtain⟨a1,a2,a3,a4⟩:=hb1
  obtain⟨b1,b2,b3,b4⟩:=hb2
  have m1:=zAd a3 a4 (show-2147483647≤q' by omega) b2
  have m2:=zAd b3 b4 (show-2147483647≤q by omega) a2
  have m3:=zAd (show-2147483647≤q by omega) a2 (show-2147483647≤q' by omega) b2
  have m4:=zAd a3 a4 b3 b4
  have m5:0<q*q':=Int.mul_pos (by omega) (by omega)
  have m6:p'*q≠0:=Int.mul_ne_zero hz0 (by omega)
  clear hv hv2 hR hC h0 hX hz0
  have HR:=Lib.hid (show redN (p*q') (p'*q)=R from HR0.out.symm)
  have mc:q*p'=p'*q:=Int.mul_comm q p'
  go_enter Tryz.func102,Tryz.ntmps102
  go_wp2_with fail
  refine HD.out.mono ?_
  rw[HEE.out]
  rintro e w1 ⟨rfl,hb⟩
  have HB1:=hbn HB.out hb
  have HW1:=Lib.hid hb
  obtain⟨hc,hf⟩:=bcell hb
  have hz:=hb.size
  simp at hz
  clear hb
  go_wp2_with fail
  refine(sfrac_c _ (p*q') (p'*q) (by omega) (by omega) (by omega) (by omega) m6).mono ?_
  rw[HR.out]
  rintro e w3 ⟨rfl,hb⟩
  have HB3:=hbn HB1.out hb
  clear hc hf
  obtain⟨hc,hf⟩:=bcell (zAC HW1.out hb)
  have hz3:=hb.size
  clear hb
  go_wp2
  refine bodyPost_ret (by simp[results,Tryz.results102,go_sem,hc];first|done|rfl) rfl ?_
  refine zAu (zAD HB3.out ?_ _ _)
  omega
 ·have HR:=Lib.hid (show R= .error C from by rw[hR,hC];exact div_err (by rw[←hC];exact h0))
  have HEE:=Lib.hid hC.symm
  have t0:((C:Int) !=0)=true:=by rw[bne_iff_ne];omega
  clear hR hC h0
  go_enter Tryz.func102,Tryz.ntmps102
  go_wp2_with fail
  refine HD.out.mono ?_
  rw[HEE.out]
  rintro e w1 ⟨rfl,hb⟩
  have HB1:=hbn HB.out hb
  have HW1:=Lib.hid hb
  obtain⟨hc,hf⟩:=bcell hb
  have hz:=hb.size
  simp at hz
  clear hb
  go_wp2
  refine bodyPost_ret (by simp[results,Tryz.results102,go_sem,hc];first|done|rfl) rfl ?_
  exact zAV HR.out (zAD HB1.out (by omega) _ _)
theorem squot_c (w:World) (p q p' q':Int):Calls Tryz.prog 103 #[.agg #[p,q],.agg #[p',q']] w (NumPost w (quotN (p,q) (p',q'))):=by
 have HB:=Lib.hid (zAL w (o2 p q) (o2 p' q') (o2 0 0))
 have HD:=Lib.hid (sdivisor_c (((w.alloc (o2 p q)).alloc (o2 p' q')).alloc (o2 0 0)) p q p' q')
 obtain⟨R,hR⟩:∃R,R=quotN (p,q) (p',q'):=⟨_,rfl⟩
 obtain⟨C,hC⟩:∃C,C=divE (p,q) (p',q'):=⟨_,rfl⟩
 rw[←hR]
 by_cases h0:C=0
 ·obtain⟨hv,hv2,hz0,hX⟩:=div_ok (hC.symm.trans h0)
  have HEE:=Lib.hid (show divE (p,q) (p',q')=0 from hC.symm.trans h0)
  have HR0:=Lib.hid (show R=intN (Int.fdiv (p*q') (p'*q)) from by rw[hR];exact hX _)
  have hb1:=zAN hv
  have hb2:=zAN hv2
  simp only[] at hb1 hb2
  obtain⟨a1,a2,a3,a4⟩:=hb1
  obtain⟨b1,b2,b3,b4⟩:=hb2
  have m1:=zAd a3 a4 (show-2147483647≤q' by omega) b2
  have m2:=zAd b3 b4 (show-2147483647≤q by omega) a2
  have m3:=zAd (show-2147483647≤q by omega) a2 (show-2147483647≤q' by omega) b2
  have m4:=zAd a3 a4 b3 b4
  have m5:0<q*q':=Int.mul_pos (by omega) (by omega)
  have m6:p'*q≠0:=Int.mul_ne_zero hz0 (by omega)
  clear hv hv2 hR hC h0 hX hz0
  have HR:=Lib.hid (show intN (Int.fdiv (p*q') (p'*q))=R from HR0.out.symm)
  have mc:q*p'=p'*q:=Int.mul_comm q p'
  go_enter Tryz.func103,Tryz.ntmps103
  go_wp2_with fail
  refine HD.out.mono ?_
  rw[HEE.out]
  rintro e w1 ⟨rfl,hb⟩
  have HB1:=hbn HB.out hb
  have HW1:=Lib.hid hb
  obtain⟨hc,hf⟩:=bcell hb
  have hz:=hb.size
  simp at hz
  clear hb
  go_wp2_with fail
  refine(sfloor_c _ (p*q') (p'*q) (by omega) (by omega) (by omega) (by omega) m6).mono ?_
  rintro e w2 ⟨rfl,rfl⟩
  go_wp2_with fail
  refine(sint_c _ _).mono ?_
  rw[HR.out]
  rintro e w3 ⟨rfl,hb⟩
  have HB3:=hbn HB1.out hb
  clear hc hf
  obtain⟨hc,hf⟩:=bcell (zAC HW1.out hb)
  have hz3:=hb.size
  clear hb
  go_wp2
  refine bodyPost_ret (by simp[results,Tryz.results103,go_sem,hc];first|done|rfl) rfl ?_
  refine zAu (zAD HB3.out ?_ _ _)
  omega
 ·have HR:=Lib.hid (show R= .error C from by rw[hR,hC];exact div_err (by rw[←hC];exact h0))
  have HEE:=Lib.hid hC.symm
  have t0:((C:Int) !=0)=true:=by rw[bne_iff_ne];omega
  clear hR hC h0
  go_enter Tryz.func103,Tryz.ntmps103
  go_wp2_with fail
  refine HD.out.mono ?_
  rw[HEE.out]
  rintro e w1 ⟨rfl,hb⟩
  have HB1:=hbn HB.out hb
  have HW1:=Lib.hid hb
  obtain⟨hc,hf⟩:=bcell hb
  have hz:=hb.size
  simp at hz
  clear hb
  go_wp2
  refine bodyPost_ret (by simp[results,Tryz.results103,go_sem,hc];first|done|rfl) rfl ?_
  exact zAV HR.out (zAD HB1.out (by omega) _ _)
theorem smod_c (w:World) (p q p' q':Int):Calls Tryz.prog 104 #[.agg #[p,q],.agg #[p',q']] w (NumPost w (modN (p,q) (p',q'))):=by
 have HB:=Lib.hid (zAL w (o2 p q) (o2 p' q') (o2 0 0))
 have HD:=Lib.hid (sdivisor_c (((w.alloc (o2 p q)).alloc (o2 p' q')).alloc (o2 0 0)) p q p' q')
 obtain⟨R,hR⟩:∃R,R=modN (p,q) (p',q'):=⟨_,rfl⟩
 obtain⟨C,hC⟩:∃C,C=divE (p,q) (p',q'):=⟨_,rfl⟩
 rw[←hR]
 by_cases h0:C=0
 ·obtain⟨hv,hv2,hz0,hX⟩:=div_ok (hC.symm.trans h0)
  have HEE:=Lib.hid (show divE (p,q) (p',q')=0 from hC.symm.trans h0)
  have HR0:=Lib.hid (show R=redN (Int.fmod (p*q') (p'*q)) (q*q') from by rw[hR];exact hX _)
  have hb1:=zAN hv
  have hb2:=zAN hv2
  simp only[] at hb1 hb2
  obtain⟨a1,a2,a3,a4⟩:=hb1
  obtain⟨b1,b2,b3,b4⟩:=hb2
  have m1:=zAd a3 a4 (show-2147483647≤q' by omega) b2
  have m2:=zAd b3 b4 (show-2147483647≤q by omega) a2
  have m3:=zAd (show-2147483647≤q by omega) a2 (show-2147483647≤q' by omega) b2
  have m4:=zAd a3 a4 b3 b4
  have m5:0<q*q':=Int.mul_pos (by omega) (by omega)
  have m6:p'*q≠0:=Int.mul_ne_zero hz0 (by omega)
  clear hv hv2 hR hC h0 hX hz0
  obtain⟨x,hx⟩:∃x,x=p*q':=⟨_,rfl⟩
  obtain⟨y,hy⟩:∃y,y=p'*q:=⟨_,rfl⟩
  rw[←hx] at m1 HR0
  rw[←hy] at m2 m6 HR0
  obtain⟨M,hM⟩:∃M,M=x.tmod y:=⟨_,rfl⟩
  have hm:=tmod_bounds (x:=x) m6
  have HS:=Lib.hid (fun h=>(floor_same (x:=x) (y:=y) h).2)
  have HL:=Lib.hid (fun h k=>(floor_less (x:=x) (y:=y) h k).2)
  rw[←hM] at HS HL
  have HM:=Lib.hid (show x.tmod y=M from hM.symm)
  have HP:=Lib.hid (show 0≤x→x%y=M from fun h=>by rw[hM,Int.tmod_eq_emod_of_nonneg h])
  have hs1:0≤x→0≤M:=fun h=>by rw[hM];exact Int.tmod_nonneg _ h
  have hs2:x<0→M≤0:=fun h=>by
   rw[hM]
   have:=Int.tmod_nonneg y (a:= -x) (by omega)
   rw[Int.neg_tmod] at this
   omega
  rw[←hM] at hm
  have HX:=Lib.hid hx.symm
  have HY:=Lib.hid hy.symm
  obtain⟨x1,x2⟩:=m1
  obtain⟨y1,y2⟩:=m2
  obtain⟨g1,g2⟩:=m3
  have hm1: -4611686014132420609≤M:=by omega
  have hm2:M≤4611686014132420609:=by omega
  have hmy1: -4611686014132420609≤M+y∨¬((0≤M∧y<0)∨(M≤0∧0<y)):=by omega
  have hmy2:M+y≤4611686014132420609∨¬((0≤M∧y<0)∨(M≤0∧0<y)):=by omega
  have hcc:((0≤x∧0<y)∨(0≤x∧y<0)∨(x<0∧0<y)∨(x<0∧y<0))∧((M≤0∧0≤M)∨M<0∨0<M):=by omega
  obtain⟨hcc,hm0⟩:=hcc
  clear hM hm hx hy
  have hfin:(M=0∨(0≤x∧0<y)∨(x<0∧y<0))∨(M≠0∧((0≤x∧y<0)∨(x<0∧0<y))):=by omega
  have HFIN:=Lib.hid hfin
  clear hfin
  clear hmy1 hmy2
  by_cases hg:M=0∨(0≤x∧0<y)∨(x<0∧y<0)
  ·have HR:=Lib.hid (show redN M (q*q')=R from by rw[HR0.out,HS.out hg])
   have u1: -9223372036854775807≤M:=by omega
   have u2:M≤9223372036854775807:=by omega
   rcases hcc with⟨k1,k2⟩|⟨k1,k2⟩|⟨k1,k2⟩|⟨k1,k2⟩
   all_goals
    rcases hm0 with⟨m0,m00⟩|m0|m0
   all_goals
    first
    |(exfalso;omega;done)
    |(exfalso;have:=hs1 (by omega);omega;done)
    |(exfalso;have:=hs2 (by omega);omega;done)
    |skip
   all_goals
    have tm:(M !=0)=decide (M≠0):=by by_cases h:M=0<;>simp[h]
    first|rw[decide_eq_true (show M≠0 by omega)] at tm|rw[decide_eq_false (show¬M≠0 by omega)] at tm
    obtain⟨dm,hdm⟩:∃b,decide (M<0)=b:=⟨_,rfl⟩
    obtain⟨dy,hdy⟩:∃b,decide (y<0)=b:=⟨_,rfl⟩
    clear hs1 hs2 hg
    cases dm<;>cases dy
   all_goals
    have hdm2:=hdm
    have hdy2:=hdy
    simp only[decide_eq_true_eq,decide_eq_false_iff_not] at hdm2 hdy2
    first|(exfalso;omega;done)|skip
   all_goals
    clear hdm2 hdy2
    have ex:=HX.out
    have ey:=HY.out
    have e2:=HM.out
    first|(have e4:=HP.out k1;skip)|skip
    go_enter Tryz.func104,Tryz.ntmps104
    go_wp2_with fail
    refine HD.out.mono ?_
    rw[HEE.out]
    rintro e w1 ⟨rfl,hb⟩
    have HB1:=hbn HB.out hb
    have HW1:=Lib.hid hb
    obtain⟨hc,hf⟩:=bcell hb
    have hz:=hb.size
    simp at hz
    clear hb
    go_wp2_with fail
    refine(sfrac_c _ (M) (q*q') u1 u2 (by omega) (by omega) (by omega)).mono ?_
    rw[HR.out]
    rintro e w3 ⟨rfl,hb⟩
    have HB3:=hbn HB1.out hb
    clear hc hf
    obtain⟨hc,hf⟩:=bcell (zAC HW1.out hb)
    have hz3:=hb.size
    clear hb
    go_wp2
    refine bodyPost_ret (by simp[results,Tryz.results104,go_sem,hc];first|done|rfl) rfl ?_
    refine zAu (zAD HB3.out ?_ _ _)
    omega
  ·have HR:=Lib.hid (show redN (M+y) (q*q')=R from by rw[HR0.out,HL.out (HFIN.out.resolve_left hg).1 (HFIN.out.resolve_left hg).2])
   have u1: -9223372036854775807≤M+y:=by omega
   have u2:M+y≤9223372036854775807:=by omega
   rcases hcc with⟨k1,k2⟩|⟨k1,k2⟩|⟨k1,k2⟩|⟨k1,k2⟩
   all_goals
    rcases hm0 with⟨m0,m00⟩|m0|m0
   all_goals
    first
    |(exfalso;omega;done)
    |(exfalso;have:=hs1 (by omega);omega;done)
    |(exfalso;have:=hs2 (by omega);omega;done)
    |skip
   all_goals
    have tm:(M !=0)=decide (M≠0):=by by_cases h:M=0<;>simp[h]
    first|rw[decide_eq_true (show M≠0 by omega)] at tm|rw[decide_eq_false (show¬M≠0 by omega)] at tm
    obtain⟨dm,hdm⟩:∃b,decide (M<0)=b:=⟨_,rfl⟩
    obtain⟨dy,hdy⟩:∃b,decide (y<0)=b:=⟨_,rfl⟩
    clear hs1 hs2 hg
    cases dm<;>cases dy
   all_goals
    have hdm2:=hdm
    have hdy2:=hdy
    simp only[decide_eq_true_eq,decide_eq_false_iff_not] at hdm2 hdy2
    first|(exfalso;omega;done)|skip
   all_goals
    clear hdm2 hdy2
    have ex:=HX.out
    have ey:=HY.out
    have e2:=HM.out
    first|(have e4:=HP.out k1;skip)|skip
    go_enter Tryz.func104,Tryz.ntmps104
    go_wp2_with fail
    refine HD.out.mono ?_
    rw[HEE.out]
    rintro e w1 ⟨rfl,hb⟩
    have HB1:=hbn HB.out hb
    have HW1:=Lib.hid hb
    obtain⟨hc,hf⟩:=bcell hb
    have hz:=hb.size
    simp at hz
    clear hb
    go_wp2_with fail
    refine(sfrac_c _ (M+y) (q*q') u1 u2 (by omega) (by omega) (by omega)).mono ?_
    rw[HR.out]
    rintro e w3 ⟨rfl,hb⟩
    have HB3:=hbn HB1.out hb
    clear hc hf
    obtain⟨hc,hf⟩:=bcell (zAC HW1.out hb)
    have hz3:=hb.size
    clear hb
    go_wp2
    refine bodyPost_ret (by simp[results,Tryz.results104,go_sem,hc];first|done|rfl) rfl ?_
    refine zAu (zAD HB3.out ?_ _ _)
    omega
 ·have HR:=Lib.hid (show R= .error C from by rw[hR,hC];exact div_err (by rw[←hC];exact h0))
  have HEE:=Lib.hid hC.symm
  have t0:((C:Int) !=0)=true:=by rw[bne_iff_ne];omega
  clear hR hC h0
  go_enter Tryz.func104,Tryz.ntmps104
  go_wp2_with fail
  refine HD.out.mono ?_
  rw[HEE.out]
  rintro e w1 ⟨rfl,hb⟩
  have HB1:=hbn HB.out hb
  have HW1:=Lib.hid hb
  obtain⟨hc,hf⟩:=bcell hb
  have hz:=hb.size
  simp at hz
  clear hb
  go_wp2
  refine bodyPost_ret (by simp[results,Tryz.results104,go_sem,hc];first|done|rfl) rfl ?_
  exact zAV HR.out (zAD HB1.out (by omega) _ _)
end Go.Proofs.YthkpckgcgkijbaaGreatDoor
