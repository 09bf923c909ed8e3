import Derived.Test.YthkpckgcgkijbaaGreatDoorOpCw
import Derived.Test.YthkpckgcgkijbaaGreatDoorBitA
set_option linter.unusedVariables false
set_option linter.unusedSimpArgs false
set_option maxRecDepth 100000
set_option maxHeartbeats 8000000
namespace Go.Proofs.YthkpckgcgkijbaaGreatDoor
open Go.RowKit Go.Proofs.Lexi
theorem rshift_x (w:World) (u:Nat) (hu:u≤4294967295) (n:Int) (h1: -2147483647≤n) (h2:n≤2147483647) (x:Int) (hx:x=u):
  Calls Tryz.prog 210 #[.int .u32 x,.int .i64 n] w fun e w'=>e= .returned (.int .u32 (zBx u n:Nat))∧w=w':=by
 subst hx;exact rshift_c w u hu n h1 h2
theorem rBits9_c (w:World) (p q p' q':Int):Calls Tryz.prog 153 #[.int .i64 9,.agg #[p,q],.agg #[p',q']] w (NumPost w (bitsN 9 (p,q) (p',q'))):=by
 obtain⟨R,hR⟩:∃R,R=bitsN 9 (p,q) (p',q'):=⟨_,rfl⟩
 rw[←hR]
 have HB:=Lib.hid (zAL w (o2 p q) (o2 p' q') (o2 0 0))
 have HV1:=Lib.hid (fun W=>zBA W p q)
 have HV2:=Lib.hid (fun W=>zBA W p' q')
 have hR0:R=if zAT (p,q)&&zAT (p',q') then bitV 9 (p,q) (p',q') else .error 2:=by rw[hR];exact by rw[zCO (by decide)];rfl
 clear hR
 cases hv:zAT (p,q) with
 |false=>
  have HR:=Lib.hid (show R= .error 2 from by rw[hR0,hv];rfl)
  have HVV:=Lib.hid hv
  clear hv hR0
  go_enter Tryz.func153,Tryz.ntmps153
  go_wp2_with fail
  refine(HV1.out _).mono ?_
  rw[HVV.out]
  rintro e w1 ⟨rfl,hb⟩
  have HB1:=hbn HB.out hb
  have HW1:=Lib.hid hb
  obtain⟨hc,hf⟩:=bcell hb
  have hz:=hb.size
  simp at hz
  clear hb
  go_wp2
  refine bodyPost_ret (by simp[results,Tryz.results153,go_sem,hc];first|done|rfl) rfl ?_
  exact zAV HR.out (zAD HB1.out (by omega) _ _)
 |true=>
  cases hv2:zAT (p',q') with
  |false=>
   have HR:=Lib.hid (show R= .error 2 from by rw[hR0,hv,hv2];rfl)
   have HVV:=Lib.hid hv
   have HVV2:=Lib.hid hv2
   clear hv hv2 hR0
   go_enter Tryz.func153,Tryz.ntmps153
   go_wp2_with fail
   refine(HV1.out _).mono ?_
   rw[HVV.out]
   rintro e w1 ⟨rfl,hb⟩
   have HB1:=hbn HB.out hb
   have HW1:=Lib.hid hb
   obtain⟨hc,hf⟩:=bcell hb
   have hz:=hb.size
   simp at hz
   clear hb
   go_wp2_with fail
   refine(HV2.out _).mono ?_
   rw[HVV2.out]
   rintro e w2 ⟨rfl,hb⟩
   have HB2:=hbn HB1.out hb
   have HW2:=hbn HW1.out hb
   clear hc hf
   obtain⟨hc,hf⟩:=bcell HW2.out
   have hz2:=hb.size
   clear hb
   go_wp2
   refine bodyPost_ret (by simp[results,Tryz.results153,go_sem,hc];first|done|rfl) rfl ?_
   exact zAV HR.out (zAD HB2.out (by omega) _ _)
  |true=>
   have hR1:R=bitV 9 (p,q) (p',q'):=by rw[hR0,hv,hv2];rfl
   have hb1:=zAN hv
   have hb2:=zAN hv2
   simp only[] at hb1 hb2
   obtain⟨a1,a2,a3,a4⟩:=hb1
   obtain⟨b1,b2,b3,b4⟩:=hb2
   have HVV:=Lib.hid hv
   have HVV2:=Lib.hid hv2
   clear hv hv2 hR0
   by_cases hq:1<q∨(q≤1∧(1:Int)<q')
   ·have HR:=Lib.hid (show R= .error 8 from by rw[hR1];exact bitV_bad (by simp only[];omega))
    clear hR1
    have tq:(q !=1)=decide (1<q):=by rw[Bool.eq_iff_iff,bne_iff_ne,decide_eq_true_eq];omega
    have tq2:((q':Int) !=1)=decide ((1:Int)<q'):=by first|rfl|(rw[Bool.eq_iff_iff,bne_iff_ne,decide_eq_true_eq];omega)
    rcases hq with c|⟨c,c2⟩
    ·rw[decide_eq_true (show 1<q from c)] at tq
     clear tq2
     go_enter Tryz.func153,Tryz.ntmps153
     go_wp2_with fail
     refine(HV1.out _).mono ?_
     rw[HVV.out]
     rintro e w1 ⟨rfl,hb⟩
     have HB1:=hbn HB.out hb
     have HW1:=Lib.hid hb
     obtain⟨hc,hf⟩:=bcell hb
     have hz:=hb.size
     simp at hz
     clear hb
     go_wp2_with fail
     refine(HV2.out _).mono ?_
     rw[HVV2.out]
     rintro e w2 ⟨rfl,hb⟩
     have HB2:=hbn HB1.out hb
     have HW2:=hbn HW1.out hb
     clear hc hf
     obtain⟨hc,hf⟩:=bcell HW2.out
     have hz2:=hb.size
     clear hb
     go_wp2
     refine bodyPost_ret (by simp[results,Tryz.results153,go_sem,hc];first|done|rfl) rfl ?_
     exact zAV HR.out (zAD HB2.out (by omega) _ _)
    ·rw[decide_eq_false (show¬1<q by omega)] at tq
     rw[decide_eq_true (show 1<q' from c2)] at tq2
     go_enter Tryz.func153,Tryz.ntmps153
     go_wp2_with fail
     refine(HV1.out _).mono ?_
     rw[HVV.out]
     rintro e w1 ⟨rfl,hb⟩
     have HB1:=hbn HB.out hb
     have HW1:=Lib.hid hb
     obtain⟨hc,hf⟩:=bcell hb
     have hz:=hb.size
     simp at hz
     clear hb
     go_wp2_with fail
     refine(HV2.out _).mono ?_
     rw[HVV2.out]
     rintro e w2 ⟨rfl,hb⟩
     have HB2:=hbn HB1.out hb
     have HW2:=hbn HW1.out hb
     clear hc hf
     obtain⟨hc,hf⟩:=bcell HW2.out
     have hz2:=hb.size
     clear hb
     go_wp2
     refine bodyPost_ret (by simp[results,Tryz.results153,go_sem,hc];first|done|rfl) rfl ?_
     exact zAV HR.out (zAD HB2.out (by omega) _ _)
   ·have tq:(q !=1)=false:=by rw[bne_eq_false_iff_eq];omega
    have tq2:((q':Int) !=1)=false:=by first|rfl|(rw[bne_eq_false_iff_eq];omega)
    have hR2:R=intN (zBe (bitR 9 (lo32 p) (lo32 p') p')):=by rw[hR1];exact bitV_good (show q=1 by omega) (show(q':Int)=1 by first|rfl|omega)
    have hu:=zBu p
    have hv:=zBu p'
    have hrl:=bitR_le hu hv 9 p'
    have eu:=zBv p
    have ev:=zBv p'
    obtain⟨u,hu0⟩:∃u,u=lo32 p:=⟨_,rfl⟩
    obtain⟨v,hv0⟩:∃v,v=lo32 p':=⟨_,rfl⟩
    rw[←hu0] at hu eu hR2 hrl
    rw[←hv0] at hv ev hR2 hrl
    obtain⟨r,hr0⟩:∃r,r=bitR 9 u v p':=⟨_,rfl⟩
    rw[←hr0] at hR2 hrl
    have HEU:=Lib.hid eu
    have HEV:=Lib.hid ev
    have HU:=Lib.hid hu
    have HV:=Lib.hid hv
    have HX:=Lib.hid (show intN (wrap64 (wrap32 (bits .and .u32 (u:Int) (v:Int))))=R from by
     rw[hR2,←wrap_signed hrl,hr0]
     exact congrArg (fun n=>intN (wrap64 (wrap32 n))) ((bits_small (k:= .u32) (.inr rfl) u v hu hv).1))
    have HR:=HX
    clear eu ev hu0 hv0 hr0 hR1 hq hu hv hrl hR2 HX
    go_enter Tryz.func153,Tryz.ntmps153
    go_wp2_with fail
    refine(HV1.out _).mono ?_
    rw[HVV.out]
    rintro e w1 ⟨rfl,hb⟩
    have HB1:=hbn HB.out hb
    have HW1:=Lib.hid hb
    obtain⟨hc,hf⟩:=bcell hb
    have hz:=hb.size
    simp at hz
    clear hb
    go_wp2_with fail
    refine(HV2.out _).mono ?_
    rw[HVV2.out]
    rintro e w2 ⟨rfl,hb⟩
    have HB2:=hbn HB1.out hb
    have HW2:=hbn HW1.out hb
    clear hc hf
    obtain⟨hc,hf⟩:=bcell HW2.out
    have hz2:=hb.size
    clear hb
    go_wp2
    go_quiet (fail)
    rw[HEU.out,HEV.out]
    go_wp2_with fail
    refine(rint_c _ _).mono ?_
    rw[HR.out]
    rintro e w4 ⟨rfl,hb⟩
    have hb:=zAC (below_drewN (Below.refl _ _) _) hb
    have HB4:=hbn HB2.out hb
    have HW4:=hbn HW2.out hb
    clear hc hf
    obtain⟨hc,hf⟩:=bcell HW4.out
    have hz4:=hb.size
    try simp at hz4
    clear hb
    go_wp2
    refine bodyPost_ret (by simp[results,Tryz.results153,go_sem,hc];first|done|rfl) rfl ?_
    refine zAu (zAD HB4.out ?_ _ _)
    omega
theorem rBits10_c (w:World) (p q p' q':Int):Calls Tryz.prog 153 #[.int .i64 10,.agg #[p,q],.agg #[p',q']] w (NumPost w (bitsN 10 (p,q) (p',q'))):=by
 obtain⟨R,hR⟩:∃R,R=bitsN 10 (p,q) (p',q'):=⟨_,rfl⟩
 rw[←hR]
 have HB:=Lib.hid (zAL w (o2 p q) (o2 p' q') (o2 0 0))
 have HV1:=Lib.hid (fun W=>zBA W p q)
 have HV2:=Lib.hid (fun W=>zBA W p' q')
 have hR0:R=if zAT (p,q)&&zAT (p',q') then bitV 10 (p,q) (p',q') else .error 2:=by rw[hR];exact by rw[zCO (by decide)];rfl
 clear hR
 cases hv:zAT (p,q) with
 |false=>
  have HR:=Lib.hid (show R= .error 2 from by rw[hR0,hv];rfl)
  have HVV:=Lib.hid hv
  clear hv hR0
  go_enter Tryz.func153,Tryz.ntmps153
  go_wp2_with fail
  refine(HV1.out _).mono ?_
  rw[HVV.out]
  rintro e w1 ⟨rfl,hb⟩
  have HB1:=hbn HB.out hb
  have HW1:=Lib.hid hb
  obtain⟨hc,hf⟩:=bcell hb
  have hz:=hb.size
  simp at hz
  clear hb
  go_wp2
  refine bodyPost_ret (by simp[results,Tryz.results153,go_sem,hc];first|done|rfl) rfl ?_
  exact zAV HR.out (zAD HB1.out (by omega) _ _)
 |true=>
  cases hv2:zAT (p',q') with
  |false=>
   have HR:=Lib.hid (show R= .error 2 from by rw[hR0,hv,hv2];rfl)
   have HVV:=Lib.hid hv
   have HVV2:=Lib.hid hv2
   clear hv hv2 hR0
   go_enter Tryz.func153,Tryz.ntmps153
   go_wp2_with fail
   refine(HV1.out _).mono ?_
   rw[HVV.out]
   rintro e w1 ⟨rfl,hb⟩
   have HB1:=hbn HB.out hb
   have HW1:=Lib.hid hb
   obtain⟨hc,hf⟩:=bcell hb
   have hz:=hb.size
   simp at hz
   clear hb
   go_wp2_with fail
   refine(HV2.out _).mono ?_
   rw[HVV2.out]
   rintro e w2 ⟨rfl,hb⟩
   have HB2:=hbn HB1.out hb
   have HW2:=hbn HW1.out hb
   clear hc hf
   obtain⟨hc,hf⟩:=bcell HW2.out
   have hz2:=hb.size
   clear hb
   go_wp2
   refine bodyPost_ret (by simp[results,Tryz.results153,go_sem,hc];first|done|rfl) rfl ?_
   exact zAV HR.out (zAD HB2.out (by omega) _ _)
  |true=>
   have hR1:R=bitV 10 (p,q) (p',q'):=by rw[hR0,hv,hv2];rfl
   have hb1:=zAN hv
   have hb2:=zAN hv2
   simp only[] at hb1 hb2
   obtain⟨a1,a2,a3,a4⟩:=hb1
   obtain⟨b1,b2,b3,b4⟩:=hb2
   have HVV:=Lib.hid hv
   have HVV2:=Lib.hid hv2
   clear hv hv2 hR0
   by_cases hq:1<q∨(q≤1∧(1:Int)<q')
   ·have HR:=Lib.hid (show R= .error 8 from by rw[hR1];exact bitV_bad (by simp only[];omega))
    clear hR1
    have tq:(q !=1)=decide (1<q):=by rw[Bool.eq_iff_iff,bne_iff_ne,decide_eq_true_eq];omega
    have tq2:((q':Int) !=1)=decide ((1:Int)<q'):=by first|rfl|(rw[Bool.eq_iff_iff,bne_iff_ne,decide_eq_true_eq];omega)
    rcases hq with c|⟨c,c2⟩
    ·rw[decide_eq_true (show 1<q from c)] at tq
     clear tq2
     go_enter Tryz.func153,Tryz.ntmps153
     go_wp2_with fail
     refine(HV1.out _).mono ?_
     rw[HVV.out]
     rintro e w1 ⟨rfl,hb⟩
     have HB1:=hbn HB.out hb
     have HW1:=Lib.hid hb
     obtain⟨hc,hf⟩:=bcell hb
     have hz:=hb.size
     simp at hz
     clear hb
     go_wp2_with fail
     refine(HV2.out _).mono ?_
     rw[HVV2.out]
     rintro e w2 ⟨rfl,hb⟩
     have HB2:=hbn HB1.out hb
     have HW2:=hbn HW1.out hb
     clear hc hf
     obtain⟨hc,hf⟩:=bcell HW2.out
     have hz2:=hb.size
     clear hb
     go_wp2
     refine bodyPost_ret (by simp[results,Tryz.results153,go_sem,hc];first|done|rfl) rfl ?_
     exact zAV HR.out (zAD HB2.out (by omega) _ _)
    ·rw[decide_eq_false (show¬1<q by omega)] at tq
     rw[decide_eq_true (show 1<q' from c2)] at tq2
     go_enter Tryz.func153,Tryz.ntmps153
     go_wp2_with fail
     refine(HV1.out _).mono ?_
     rw[HVV.out]
     rintro e w1 ⟨rfl,hb⟩
     have HB1:=hbn HB.out hb
     have HW1:=Lib.hid hb
     obtain⟨hc,hf⟩:=bcell hb
     have hz:=hb.size
     simp at hz
     clear hb
     go_wp2_with fail
     refine(HV2.out _).mono ?_
     rw[HVV2.out]
     rintro e w2 ⟨rfl,hb⟩
     have HB2:=hbn HB1.out hb
     have HW2:=hbn HW1.out hb
     clear hc hf
     obtain⟨hc,hf⟩:=bcell HW2.out
     have hz2:=hb.size
     clear hb
     go_wp2
     refine bodyPost_ret (by simp[results,Tryz.results153,go_sem,hc];first|done|rfl) rfl ?_
     exact zAV HR.out (zAD HB2.out (by omega) _ _)
   ·have tq:(q !=1)=false:=by rw[bne_eq_false_iff_eq];omega
    have tq2:((q':Int) !=1)=false:=by first|rfl|(rw[bne_eq_false_iff_eq];omega)
    have hR2:R=intN (zBe (bitR 10 (lo32 p) (lo32 p') p')):=by rw[hR1];exact bitV_good (show q=1 by omega) (show(q':Int)=1 by first|rfl|omega)
    have hu:=zBu p
    have hv:=zBu p'
    have hrl:=bitR_le hu hv 10 p'
    have eu:=zBv p
    have ev:=zBv p'
    obtain⟨u,hu0⟩:∃u,u=lo32 p:=⟨_,rfl⟩
    obtain⟨v,hv0⟩:∃v,v=lo32 p':=⟨_,rfl⟩
    rw[←hu0] at hu eu hR2 hrl
    rw[←hv0] at hv ev hR2 hrl
    obtain⟨r,hr0⟩:∃r,r=bitR 10 u v p':=⟨_,rfl⟩
    rw[←hr0] at hR2 hrl
    have HEU:=Lib.hid eu
    have HEV:=Lib.hid ev
    have HU:=Lib.hid hu
    have HV:=Lib.hid hv
    have HX:=Lib.hid (show intN (wrap64 (wrap32 (bits .or .u32 (u:Int) (v:Int))))=R from by
     rw[hR2,←wrap_signed hrl,hr0]
     exact congrArg (fun n=>intN (wrap64 (wrap32 n))) ((bits_small (k:= .u32) (.inr rfl) u v hu hv).2.1))
    have HR:=HX
    clear eu ev hu0 hv0 hr0 hR1 hq hu hv hrl hR2 HX
    go_enter Tryz.func153,Tryz.ntmps153
    go_wp2_with fail
    refine(HV1.out _).mono ?_
    rw[HVV.out]
    rintro e w1 ⟨rfl,hb⟩
    have HB1:=hbn HB.out hb
    have HW1:=Lib.hid hb
    obtain⟨hc,hf⟩:=bcell hb
    have hz:=hb.size
    simp at hz
    clear hb
    go_wp2_with fail
    refine(HV2.out _).mono ?_
    rw[HVV2.out]
    rintro e w2 ⟨rfl,hb⟩
    have HB2:=hbn HB1.out hb
    have HW2:=hbn HW1.out hb
    clear hc hf
    obtain⟨hc,hf⟩:=bcell HW2.out
    have hz2:=hb.size
    clear hb
    go_wp2
    go_quiet (fail)
    rw[HEU.out,HEV.out]
    go_wp2_with fail
    refine(rint_c _ _).mono ?_
    rw[HR.out]
    rintro e w4 ⟨rfl,hb⟩
    have hb:=zAC (below_drewN (Below.refl _ _) _) hb
    have HB4:=hbn HB2.out hb
    have HW4:=hbn HW2.out hb
    clear hc hf
    obtain⟨hc,hf⟩:=bcell HW4.out
    have hz4:=hb.size
    try simp at hz4
    clear hb
    go_wp2
    refine bodyPost_ret (by simp[results,Tryz.results153,go_sem,hc];first|done|rfl) rfl ?_
    refine zAu (zAD HB4.out ?_ _ _)
    omega
theorem rBits11_c (w:World) (p q p' q':Int):Calls Tryz.prog 153 #[.int .i64 11,.agg #[p,q],.agg #[p',q']] w (NumPost w (bitsN 11 (p,q) (p',q'))):=by
 obtain⟨R,hR⟩:∃R,R=bitsN 11 (p,q) (p',q'):=⟨_,rfl⟩
 rw[←hR]
 have HB:=Lib.hid (zAL w (o2 p q) (o2 p' q') (o2 0 0))
 have HV1:=Lib.hid (fun W=>zBA W p q)
 have HV2:=Lib.hid (fun W=>zBA W p' q')
 have hR0:R=if zAT (p,q)&&zAT (p',q') then bitV 11 (p,q) (p',q') else .error 2:=by rw[hR];exact by rw[zCO (by decide)];rfl
 clear hR
 cases hv:zAT (p,q) with
 |false=>
  have HR:=Lib.hid (show R= .error 2 from by rw[hR0,hv];rfl)
  have HVV:=Lib.hid hv
  clear hv hR0
  go_enter Tryz.func153,Tryz.ntmps153
  go_wp2_with fail
  refine(HV1.out _).mono ?_
  rw[HVV.out]
  rintro e w1 ⟨rfl,hb⟩
  have HB1:=hbn HB.out hb
  have HW1:=Lib.hid hb
  obtain⟨hc,hf⟩:=bcell hb
  have hz:=hb.size
  simp at hz
  clear hb
  go_wp2
  refine bodyPost_ret (by simp[results,Tryz.results153,go_sem,hc];first|done|rfl) rfl ?_
  exact zAV HR.out (zAD HB1.out (by omega) _ _)
 |true=>
  cases hv2:zAT (p',q') with
  |false=>
   have HR:=Lib.hid (show R= .error 2 from by rw[hR0,hv,hv2];rfl)
   have HVV:=Lib.hid hv
   have HVV2:=Lib.hid hv2
   clear hv hv2 hR0
   go_enter Tryz.func153,Tryz.ntmps153
   go_wp2_with fail
   refine(HV1.out _).mono ?_
   rw[HVV.out]
   rintro e w1 ⟨rfl,hb⟩
   have HB1:=hbn HB.out hb
   have HW1:=Lib.hid hb
   obtain⟨hc,hf⟩:=bcell hb
   have hz:=hb.size
   simp at hz
   clear hb
   go_wp2_with fail
   refine(HV2.out _).mono ?_
   rw[HVV2.out]
   rintro e w2 ⟨rfl,hb⟩
   have HB2:=hbn HB1.out hb
   have HW2:=hbn HW1.out hb
   clear hc hf
   obtain⟨hc,hf⟩:=bcell HW2.out
   have hz2:=hb.size
   clear hb
   go_wp2
   refine bodyPost_ret (by simp[results,Tryz.results153,go_sem,hc];first|done|rfl) rfl ?_
   exact zAV HR.out (zAD HB2.out (by omega) _ _)
  |true=>
   have hR1:R=bitV 11 (p,q) (p',q'):=by rw[hR0,hv,hv2];rfl
   have hb1:=zAN hv
   have hb2:=zAN hv2
   simp only[] at hb1 hb2
   obtain⟨a1,a2,a3,a4⟩:=hb1
   obtain⟨b1,b2,b3,b4⟩:=hb2
   have HVV:=Lib.hid hv
   have HVV2:=Lib.hid hv2
   clear hv hv2 hR0
   by_cases hq:1<q∨(q≤1∧(1:Int)<q')
   ·have HR:=Lib.hid (show R= .error 8 from by rw[hR1];exact bitV_bad (by simp only[];omega))
    clear hR1
    have tq:(q !=1)=decide (1<q):=by rw[Bool.eq_iff_iff,bne_iff_ne,decide_eq_true_eq];omega
    have tq2:((q':Int) !=1)=decide ((1:Int)<q'):=by first|rfl|(rw[Bool.eq_iff_iff,bne_iff_ne,decide_eq_true_eq];omega)
    rcases hq with c|⟨c,c2⟩
    ·rw[decide_eq_true (show 1<q from c)] at tq
     clear tq2
     go_enter Tryz.func153,Tryz.ntmps153
     go_wp2_with fail
     refine(HV1.out _).mono ?_
     rw[HVV.out]
     rintro e w1 ⟨rfl,hb⟩
     have HB1:=hbn HB.out hb
     have HW1:=Lib.hid hb
     obtain⟨hc,hf⟩:=bcell hb
     have hz:=hb.size
     simp at hz
     clear hb
     go_wp2_with fail
     refine(HV2.out _).mono ?_
     rw[HVV2.out]
     rintro e w2 ⟨rfl,hb⟩
     have HB2:=hbn HB1.out hb
     have HW2:=hbn HW1.out hb
     clear hc hf
     obtain⟨hc,hf⟩:=bcell HW2.out
     have hz2:=hb.size
     clear hb
     go_wp2
     refine bodyPost_ret (by simp[results,Tryz.results153,go_sem,hc];first|done|rfl) rfl ?_
     exact zAV HR.out (zAD HB2.out (by omega) _ _)
    ·rw[decide_eq_false (show¬1<q by omega)] at tq
     rw[decide_eq_true (show 1<q' from c2)] at tq2
     go_enter Tryz.func153,Tryz.ntmps153
     go_wp2_with fail
     refine(HV1.out _).mono ?_
     rw[HVV.out]
     rintro e w1 ⟨rfl,hb⟩
     have HB1:=hbn HB.out hb
     have HW1:=Lib.hid hb
     obtain⟨hc,hf⟩:=bcell hb
     have hz:=hb.size
     simp at hz
     clear hb
     go_wp2_with fail
     refine(HV2.out _).mono ?_
     rw[HVV2.out]
     rintro e w2 ⟨rfl,hb⟩
     have HB2:=hbn HB1.out hb
     have HW2:=hbn HW1.out hb
     clear hc hf
     obtain⟨hc,hf⟩:=bcell HW2.out
     have hz2:=hb.size
     clear hb
     go_wp2
     refine bodyPost_ret (by simp[results,Tryz.results153,go_sem,hc];first|done|rfl) rfl ?_
     exact zAV HR.out (zAD HB2.out (by omega) _ _)
   ·have tq:(q !=1)=false:=by rw[bne_eq_false_iff_eq];omega
    have tq2:((q':Int) !=1)=false:=by first|rfl|(rw[bne_eq_false_iff_eq];omega)
    have hR2:R=intN (zBe (bitR 11 (lo32 p) (lo32 p') p')):=by rw[hR1];exact bitV_good (show q=1 by omega) (show(q':Int)=1 by first|rfl|omega)
    have hu:=zBu p
    have hv:=zBu p'
    have hrl:=bitR_le hu hv 11 p'
    have eu:=zBv p
    have ev:=zBv p'
    obtain⟨u,hu0⟩:∃u,u=lo32 p:=⟨_,rfl⟩
    obtain⟨v,hv0⟩:∃v,v=lo32 p':=⟨_,rfl⟩
    rw[←hu0] at hu eu hR2 hrl
    rw[←hv0] at hv ev hR2 hrl
    obtain⟨r,hr0⟩:∃r,r=bitR 11 u v p':=⟨_,rfl⟩
    rw[←hr0] at hR2 hrl
    have HEU:=Lib.hid eu
    have HEV:=Lib.hid ev
    have HU:=Lib.hid hu
    have HV:=Lib.hid hv
    have HX:=Lib.hid (show intN (wrap64 (wrap32 (bits .xor .u32 (u:Int) (v:Int))))=R from by
     rw[hR2,←wrap_signed hrl,hr0]
     exact congrArg (fun n=>intN (wrap64 (wrap32 n))) ((bits_small (k:= .u32) (.inr rfl) u v hu hv).2.2))
    have HR:=HX
    clear eu ev hu0 hv0 hr0 hR1 hq hu hv hrl hR2 HX
    go_enter Tryz.func153,Tryz.ntmps153
    go_wp2_with fail
    refine(HV1.out _).mono ?_
    rw[HVV.out]
    rintro e w1 ⟨rfl,hb⟩
    have HB1:=hbn HB.out hb
    have HW1:=Lib.hid hb
    obtain⟨hc,hf⟩:=bcell hb
    have hz:=hb.size
    simp at hz
    clear hb
    go_wp2_with fail
    refine(HV2.out _).mono ?_
    rw[HVV2.out]
    rintro e w2 ⟨rfl,hb⟩
    have HB2:=hbn HB1.out hb
    have HW2:=hbn HW1.out hb
    clear hc hf
    obtain⟨hc,hf⟩:=bcell HW2.out
    have hz2:=hb.size
    clear hb
    go_wp2
    go_quiet (fail)
    rw[HEU.out,HEV.out]
    go_wp2_with fail
    refine(rint_c _ _).mono ?_
    rw[HR.out]
    rintro e w4 ⟨rfl,hb⟩
    have hb:=zAC (below_drewN (Below.refl _ _) _) hb
    have HB4:=hbn HB2.out hb
    have HW4:=hbn HW2.out hb
    clear hc hf
    obtain⟨hc,hf⟩:=bcell HW4.out
    have hz4:=hb.size
    try simp at hz4
    clear hb
    go_wp2
    refine bodyPost_ret (by simp[results,Tryz.results153,go_sem,hc];first|done|rfl) rfl ?_
    refine zAu (zAD HB4.out ?_ _ _)
    omega
theorem rBits12_c (w:World) (p q p' q':Int):Calls Tryz.prog 153 #[.int .i64 12,.agg #[p,q],.agg #[p',q']] w (NumPost w (bitsN 12 (p,q) (p',q'))):=by
 obtain⟨R,hR⟩:∃R,R=bitsN 12 (p,q) (p',q'):=⟨_,rfl⟩
 rw[←hR]
 have HB:=Lib.hid (zAL w (o2 p q) (o2 p' q') (o2 0 0))
 have HV1:=Lib.hid (fun W=>zBA W p q)
 have HV2:=Lib.hid (fun W=>zBA W p' q')
 have hR0:R=if zAT (p,q)&&zAT (p',q') then bitV 12 (p,q) (p',q') else .error 2:=by rw[hR];exact by rw[zCO (by decide)];rfl
 clear hR
 cases hv:zAT (p,q) with
 |false=>
  have HR:=Lib.hid (show R= .error 2 from by rw[hR0,hv];rfl)
  have HVV:=Lib.hid hv
  clear hv hR0
  go_enter Tryz.func153,Tryz.ntmps153
  go_wp2_with fail
  refine(HV1.out _).mono ?_
  rw[HVV.out]
  rintro e w1 ⟨rfl,hb⟩
  have HB1:=hbn HB.out hb
  have HW1:=Lib.hid hb
  obtain⟨hc,hf⟩:=bcell hb
  have hz:=hb.size
  simp at hz
  clear hb
  go_wp2
  refine bodyPost_ret (by simp[results,Tryz.results153,go_sem,hc];first|done|rfl) rfl ?_
  exact zAV HR.out (zAD HB1.out (by omega) _ _)
 |true=>
  cases hv2:zAT (p',q') with
  |false=>
   have HR:=Lib.hid (show R= .error 2 from by rw[hR0,hv,hv2];rfl)
   have HVV:=Lib.hid hv
   have HVV2:=Lib.hid hv2
   clear hv hv2 hR0
   go_enter Tryz.func153,Tryz.ntmps153
   go_wp2_with fail
   refine(HV1.out _).mono ?_
   rw[HVV.out]
   rintro e w1 ⟨rfl,hb⟩
   have HB1:=hbn HB.out hb
   have HW1:=Lib.hid hb
   obtain⟨hc,hf⟩:=bcell hb
   have hz:=hb.size
   simp at hz
   clear hb
   go_wp2_with fail
   refine(HV2.out _).mono ?_
   rw[HVV2.out]
   rintro e w2 ⟨rfl,hb⟩
   have HB2:=hbn HB1.out hb
   have HW2:=hbn HW1.out hb
   clear hc hf
   obtain⟨hc,hf⟩:=bcell HW2.out
   have hz2:=hb.size
   clear hb
   go_wp2
   refine bodyPost_ret (by simp[results,Tryz.results153,go_sem,hc];first|done|rfl) rfl ?_
   exact zAV HR.out (zAD HB2.out (by omega) _ _)
  |true=>
   have hR1:R=bitV 12 (p,q) (p',q'):=by rw[hR0,hv,hv2];rfl
   have hb1:=zAN hv
   have hb2:=zAN hv2
   simp only[] at hb1 hb2
   obtain⟨a1,a2,a3,a4⟩:=hb1
   obtain⟨b1,b2,b3,b4⟩:=hb2
   have HVV:=Lib.hid hv
   have HVV2:=Lib.hid hv2
   clear hv hv2 hR0
   by_cases hq:1<q∨(q≤1∧(1:Int)<q')
   ·have HR:=Lib.hid (show R= .error 8 from by rw[hR1];exact bitV_bad (by simp only[];omega))
    clear hR1
    have tq:(q !=1)=decide (1<q):=by rw[Bool.eq_iff_iff,bne_iff_ne,decide_eq_true_eq];omega
    have tq2:((q':Int) !=1)=decide ((1:Int)<q'):=by first|rfl|(rw[Bool.eq_iff_iff,bne_iff_ne,decide_eq_true_eq];omega)
    rcases hq with c|⟨c,c2⟩
    ·rw[decide_eq_true (show 1<q from c)] at tq
     clear tq2
     go_enter Tryz.func153,Tryz.ntmps153
     go_wp2_with fail
     refine(HV1.out _).mono ?_
     rw[HVV.out]
     rintro e w1 ⟨rfl,hb⟩
     have HB1:=hbn HB.out hb
     have HW1:=Lib.hid hb
     obtain⟨hc,hf⟩:=bcell hb
     have hz:=hb.size
     simp at hz
     clear hb
     go_wp2_with fail
     refine(HV2.out _).mono ?_
     rw[HVV2.out]
     rintro e w2 ⟨rfl,hb⟩
     have HB2:=hbn HB1.out hb
     have HW2:=hbn HW1.out hb
     clear hc hf
     obtain⟨hc,hf⟩:=bcell HW2.out
     have hz2:=hb.size
     clear hb
     go_wp2
     refine bodyPost_ret (by simp[results,Tryz.results153,go_sem,hc];first|done|rfl) rfl ?_
     exact zAV HR.out (zAD HB2.out (by omega) _ _)
    ·rw[decide_eq_false (show¬1<q by omega)] at tq
     rw[decide_eq_true (show 1<q' from c2)] at tq2
     go_enter Tryz.func153,Tryz.ntmps153
     go_wp2_with fail
     refine(HV1.out _).mono ?_
     rw[HVV.out]
     rintro e w1 ⟨rfl,hb⟩
     have HB1:=hbn HB.out hb
     have HW1:=Lib.hid hb
     obtain⟨hc,hf⟩:=bcell hb
     have hz:=hb.size
     simp at hz
     clear hb
     go_wp2_with fail
     refine(HV2.out _).mono ?_
     rw[HVV2.out]
     rintro e w2 ⟨rfl,hb⟩
     have HB2:=hbn HB1.out hb
     have HW2:=hbn HW1.out hb
     clear hc hf
     obtain⟨hc,hf⟩:=bcell HW2.out
     have hz2:=hb.size
     clear hb
     go_wp2
     refine bodyPost_ret (by simp[results,Tryz.results153,go_sem,hc];first|done|rfl) rfl ?_
     exact zAV HR.out (zAD HB2.out (by omega) _ _)
   ·have tq:(q !=1)=false:=by rw[bne_eq_false_iff_eq];omega
    have tq2:((q':Int) !=1)=false:=by first|rfl|(rw[bne_eq_false_iff_eq];omega)
    have hR2:R=intN (zBe (bitR 12 (lo32 p) (lo32 p') p')):=by rw[hR1];exact bitV_good (show q=1 by omega) (show(q':Int)=1 by first|rfl|omega)
    have hu:=zBu p
    have hv:=zBu p'
    have hrl:=bitR_le hu hv 12 p'
    have eu:=zBv p
    have ev:=zBv p'
    obtain⟨u,hu0⟩:∃u,u=lo32 p:=⟨_,rfl⟩
    obtain⟨v,hv0⟩:∃v,v=lo32 p':=⟨_,rfl⟩
    rw[←hu0] at hu eu hR2 hrl
    rw[←hv0] at hv ev hR2 hrl
    obtain⟨r,hr0⟩:∃r,r=bitR 12 u v p':=⟨_,rfl⟩
    rw[←hr0] at hR2 hrl
    have HEU:=Lib.hid eu
    have HEV:=Lib.hid ev
    have HU:=Lib.hid hu
    have HV:=Lib.hid hv
    have HX:=Lib.hid (show intN (wrap64 (wrap32 (((zBx u p':Nat):Int))))=R from by
     rw[hR2,←wrap_signed hrl,hr0]
     exact congrArg (fun n=>intN (wrap64 (wrap32 n))) (rfl))
    have HR:=HX
    clear eu ev hu0 hv0 hr0 hR1 hq hu hv hrl hR2 HX
    go_enter Tryz.func153,Tryz.ntmps153
    go_wp2_with fail
    refine(HV1.out _).mono ?_
    rw[HVV.out]
    rintro e w1 ⟨rfl,hb⟩
    have HB1:=hbn HB.out hb
    have HW1:=Lib.hid hb
    obtain⟨hc,hf⟩:=bcell hb
    have hz:=hb.size
    simp at hz
    clear hb
    go_wp2_with fail
    refine(HV2.out _).mono ?_
    rw[HVV2.out]
    rintro e w2 ⟨rfl,hb⟩
    have HB2:=hbn HB1.out hb
    have HW2:=hbn HW1.out hb
    clear hc hf
    obtain⟨hc,hf⟩:=bcell HW2.out
    have hz2:=hb.size
    clear hb
    go_wp2
    go_quiet (fail)
    rw[HEU.out,HEV.out]
    go_wp2_with fail
    refine(rshift_x _ u HU.out _ (by omega) (by omega) _ rfl).mono ?_
    rintro e w3 ⟨rfl,rfl⟩
    go_wp2_with fail
    refine(rint_c _ _).mono ?_
    rw[HR.out]
    rintro e w4 ⟨rfl,hb⟩
    have hb:=zAC (below_drewN (Below.refl _ _) _) hb
    have HB4:=hbn HB2.out hb
    have HW4:=hbn HW2.out hb
    clear hc hf
    obtain⟨hc,hf⟩:=bcell HW4.out
    have hz4:=hb.size
    try simp at hz4
    clear hb
    go_wp2
    refine bodyPost_ret (by simp[results,Tryz.results153,go_sem,hc];first|done|rfl) rfl ?_
    refine zAu (zAD HB4.out ?_ _ _)
    omega
theorem rBits13_c (w:World) (p q p' q':Int):Calls Tryz.prog 153 #[.int .i64 13,.agg #[p,q],.agg #[p',q']] w (NumPost w (bitsN 13 (p,q) (p',q'))):=by
 obtain⟨R,hR⟩:∃R,R=bitsN 13 (p,q) (p',q'):=⟨_,rfl⟩
 rw[←hR]
 have HB:=Lib.hid (zAL w (o2 p q) (o2 p' q') (o2 0 0))
 have HV1:=Lib.hid (fun W=>zBA W p q)
 have HV2:=Lib.hid (fun W=>zBA W p' q')
 have hR0:R=if zAT (p,q)&&zAT (p',q') then bitV 13 (p,q) (p',q') else .error 2:=by rw[hR];exact by rw[zCO (by decide)];rfl
 clear hR
 cases hv:zAT (p,q) with
 |false=>
  have HR:=Lib.hid (show R= .error 2 from by rw[hR0,hv];rfl)
  have HVV:=Lib.hid hv
  clear hv hR0
  go_enter Tryz.func153,Tryz.ntmps153
  go_wp2_with fail
  refine(HV1.out _).mono ?_
  rw[HVV.out]
  rintro e w1 ⟨rfl,hb⟩
  have HB1:=hbn HB.out hb
  have HW1:=Lib.hid hb
  obtain⟨hc,hf⟩:=bcell hb
  have hz:=hb.size
  simp at hz
  clear hb
  go_wp2
  refine bodyPost_ret (by simp[results,Tryz.results153,go_sem,hc];first|done|rfl) rfl ?_
  exact zAV HR.out (zAD HB1.out (by omega) _ _)
 |true=>
  cases hv2:zAT (p',q') with
  |false=>
   have HR:=Lib.hid (show R= .error 2 from by rw[hR0,hv,hv2];rfl)
   have HVV:=Lib.hid hv
   have HVV2:=Lib.hid hv2
   clear hv hv2 hR0
   go_enter Tryz.func153,Tryz.ntmps153
   go_wp2_with fail
   refine(HV1.out _).mono ?_
   rw[HVV.out]
   rintro e w1 ⟨rfl,hb⟩
   have HB1:=hbn HB.out hb
   have HW1:=Lib.hid hb
   obtain⟨hc,hf⟩:=bcell hb
   have hz:=hb.size
   simp at hz
   clear hb
   go_wp2_with fail
   refine(HV2.out _).mono ?_
   rw[HVV2.out]
   rintro e w2 ⟨rfl,hb⟩
   have HB2:=hbn HB1.out hb
   have HW2:=hbn HW1.out hb
   clear hc hf
   obtain⟨hc,hf⟩:=bcell HW2.out
   have hz2:=hb.size
   clear hb
   go_wp2
   refine bodyPost_ret (by simp[results,Tryz.results153,go_sem,hc];first|done|rfl) rfl ?_
   exact zAV HR.out (zAD HB2.out (by omega) _ _)
  |true=>
   have hR1:R=bitV 13 (p,q) (p',q'):=by rw[hR0,hv,hv2];rfl
   have hb1:=zAN hv
   have hb2:=zAN hv2
   simp only[] at hb1 hb2
   obtain⟨a1,a2,a3,a4⟩:=hb1
   obtain⟨b1,b2,b3,b4⟩:=hb2
   have HVV:=Lib.hid hv
   have HVV2:=Lib.hid hv2
   clear hv hv2 hR0
   by_cases hq:1<q∨(q≤1∧(1:Int)<q')
   ·have HR:=Lib.hid (show R= .error 8 from by rw[hR1];exact bitV_bad (by simp only[];omega))
    clear hR1
    have tq:(q !=1)=decide (1<q):=by rw[Bool.eq_iff_iff,bne_iff_ne,decide_eq_true_eq];omega
    have tq2:((q':Int) !=1)=decide ((1:Int)<q'):=by first|rfl|(rw[Bool.eq_iff_iff,bne_iff_ne,decide_eq_true_eq];omega)
    rcases hq with c|⟨c,c2⟩
    ·rw[decide_eq_true (show 1<q from c)] at tq
     clear tq2
     go_enter Tryz.func153,Tryz.ntmps153
     go_wp2_with fail
     refine(HV1.out _).mono ?_
     rw[HVV.out]
     rintro e w1 ⟨rfl,hb⟩
     have HB1:=hbn HB.out hb
     have HW1:=Lib.hid hb
     obtain⟨hc,hf⟩:=bcell hb
     have hz:=hb.size
     simp at hz
     clear hb
     go_wp2_with fail
     refine(HV2.out _).mono ?_
     rw[HVV2.out]
     rintro e w2 ⟨rfl,hb⟩
     have HB2:=hbn HB1.out hb
     have HW2:=hbn HW1.out hb
     clear hc hf
     obtain⟨hc,hf⟩:=bcell HW2.out
     have hz2:=hb.size
     clear hb
     go_wp2
     refine bodyPost_ret (by simp[results,Tryz.results153,go_sem,hc];first|done|rfl) rfl ?_
     exact zAV HR.out (zAD HB2.out (by omega) _ _)
    ·rw[decide_eq_false (show¬1<q by omega)] at tq
     rw[decide_eq_true (show 1<q' from c2)] at tq2
     go_enter Tryz.func153,Tryz.ntmps153
     go_wp2_with fail
     refine(HV1.out _).mono ?_
     rw[HVV.out]
     rintro e w1 ⟨rfl,hb⟩
     have HB1:=hbn HB.out hb
     have HW1:=Lib.hid hb
     obtain⟨hc,hf⟩:=bcell hb
     have hz:=hb.size
     simp at hz
     clear hb
     go_wp2_with fail
     refine(HV2.out _).mono ?_
     rw[HVV2.out]
     rintro e w2 ⟨rfl,hb⟩
     have HB2:=hbn HB1.out hb
     have HW2:=hbn HW1.out hb
     clear hc hf
     obtain⟨hc,hf⟩:=bcell HW2.out
     have hz2:=hb.size
     clear hb
     go_wp2
     refine bodyPost_ret (by simp[results,Tryz.results153,go_sem,hc];first|done|rfl) rfl ?_
     exact zAV HR.out (zAD HB2.out (by omega) _ _)
   ·have tq:(q !=1)=false:=by rw[bne_eq_false_iff_eq];omega
    have tq2:((q':Int) !=1)=false:=by first|rfl|(rw[bne_eq_false_iff_eq];omega)
    have hR2:R=intN (zBe (bitR 13 (lo32 p) (lo32 p') p')):=by rw[hR1];exact bitV_good (show q=1 by omega) (show(q':Int)=1 by first|rfl|omega)
    have hu:=zBu p
    have hv:=zBu p'
    have hrl:=bitR_le hu hv 13 p'
    have eu:=zBv p
    have ev:=zBv p'
    obtain⟨u,hu0⟩:∃u,u=lo32 p:=⟨_,rfl⟩
    obtain⟨v,hv0⟩:∃v,v=lo32 p':=⟨_,rfl⟩
    rw[←hu0] at hu eu hR2 hrl
    rw[←hv0] at hv ev hR2 hrl
    obtain⟨r,hr0⟩:∃r,r=bitR 13 u v p':=⟨_,rfl⟩
    rw[←hr0] at hR2 hrl
    have HEU:=Lib.hid eu
    have HEV:=Lib.hid ev
    have HU:=Lib.hid hu
    have HV:=Lib.hid hv
    have HX:=Lib.hid (show intN (wrap64 (wrap32 (((zBx u (-p'):Nat):Int))))=R from by
     rw[hR2,←wrap_signed hrl,hr0]
     exact congrArg (fun n=>intN (wrap64 (wrap32 n))) (rfl))
    have HR:=HX
    clear eu ev hu0 hv0 hr0 hR1 hq hu hv hrl hR2 HX
    go_enter Tryz.func153,Tryz.ntmps153
    go_wp2_with fail
    refine(HV1.out _).mono ?_
    rw[HVV.out]
    rintro e w1 ⟨rfl,hb⟩
    have HB1:=hbn HB.out hb
    have HW1:=Lib.hid hb
    obtain⟨hc,hf⟩:=bcell hb
    have hz:=hb.size
    simp at hz
    clear hb
    go_wp2_with fail
    refine(HV2.out _).mono ?_
    rw[HVV2.out]
    rintro e w2 ⟨rfl,hb⟩
    have HB2:=hbn HB1.out hb
    have HW2:=hbn HW1.out hb
    clear hc hf
    obtain⟨hc,hf⟩:=bcell HW2.out
    have hz2:=hb.size
    clear hb
    go_wp2
    go_quiet (fail)
    rw[HEU.out,HEV.out]
    go_wp2_with fail
    refine(rshift_x _ u HU.out _ (by omega) (by omega) _ rfl).mono ?_
    rintro e w3 ⟨rfl,rfl⟩
    go_wp2_with fail
    refine(rint_c _ _).mono ?_
    rw[HR.out]
    rintro e w4 ⟨rfl,hb⟩
    have hb:=zAC (below_drewN (Below.refl _ _) _) hb
    have HB4:=hbn HB2.out hb
    have HW4:=hbn HW2.out hb
    clear hc hf
    obtain⟨hc,hf⟩:=bcell HW4.out
    have hz4:=hb.size
    try simp at hz4
    clear hb
    go_wp2
    refine bodyPost_ret (by simp[results,Tryz.results153,go_sem,hc];first|done|rfl) rfl ?_
    refine zAu (zAD HB4.out ?_ _ _)
    omega
theorem rBits23_c (w:World) (p q p' q':Int):Calls Tryz.prog 153 #[.int .i64 23,.agg #[p,q],.agg #[p',q']] w (NumPost w (bitsN 23 (p,q) (p',q'))):=by
 obtain⟨R,hR⟩:∃R,R=bitsN 23 (p,q) (p',q'):=⟨_,rfl⟩
 rw[←hR]
 have HB:=Lib.hid (zAL w (o2 p q) (o2 0 1) (o2 0 0))
 have HV1:=Lib.hid (fun W=>zBA W p q)
 have HV2:=Lib.hid (fun W=>zBA W 0 1)
 have hR0:R=if zAT (p,q)&&zAT (0,1) then bitV 23 (p,q) (0,1) else .error 2:=by rw[hR];exact by rw[zCO (by decide)];rfl
 clear hR
 cases hv:zAT (p,q) with
 |false=>
  have HR:=Lib.hid (show R= .error 2 from by rw[hR0,hv];rfl)
  have HVV:=Lib.hid hv
  clear hv hR0
  go_enter Tryz.func153,Tryz.ntmps153
  go_wp2_with fail
  refine(HV1.out _).mono ?_
  rw[HVV.out]
  rintro e w1 ⟨rfl,hb⟩
  have HB1:=hbn HB.out hb
  have HW1:=Lib.hid hb
  obtain⟨hc,hf⟩:=bcell hb
  have hz:=hb.size
  simp at hz
  clear hb
  go_wp2
  refine bodyPost_ret (by simp[results,Tryz.results153,go_sem,hc];first|done|rfl) rfl ?_
  exact zAV HR.out (zAD HB1.out (by omega) _ _)
 |true=>
  cases hv2:zAT (0,1) with
  |false=>
   have HR:=Lib.hid (show R= .error 2 from by rw[hR0,hv,hv2];rfl)
   have HVV:=Lib.hid hv
   have HVV2:=Lib.hid hv2
   clear hv hv2 hR0
   go_enter Tryz.func153,Tryz.ntmps153
   go_wp2_with fail
   refine(HV1.out _).mono ?_
   rw[HVV.out]
   rintro e w1 ⟨rfl,hb⟩
   have HB1:=hbn HB.out hb
   have HW1:=Lib.hid hb
   obtain⟨hc,hf⟩:=bcell hb
   have hz:=hb.size
   simp at hz
   clear hb
   go_wp2_with fail
   refine(HV2.out _).mono ?_
   rw[HVV2.out]
   rintro e w2 ⟨rfl,hb⟩
   have HB2:=hbn HB1.out hb
   have HW2:=hbn HW1.out hb
   clear hc hf
   obtain⟨hc,hf⟩:=bcell HW2.out
   have hz2:=hb.size
   clear hb
   go_wp2
   refine bodyPost_ret (by simp[results,Tryz.results153,go_sem,hc];first|done|rfl) rfl ?_
   exact zAV HR.out (zAD HB2.out (by omega) _ _)
  |true=>
   have hR1:R=bitV 23 (p,q) (0,1):=by rw[hR0,hv,hv2];rfl
   have hb1:=zAN hv
   have hb2:=zAN hv2
   simp only[] at hb1 hb2
   obtain⟨a1,a2,a3,a4⟩:=hb1
   obtain⟨b1,b2,b3,b4⟩:=hb2
   have HVV:=Lib.hid hv
   have HVV2:=Lib.hid hv2
   clear hv hv2 hR0
   by_cases hq:1<q∨(q≤1∧(1:Int)<1)
   ·have HR:=Lib.hid (show R= .error 8 from by rw[hR1];exact bitV_bad (by simp only[];omega))
    clear hR1
    have tq:(q !=1)=decide (1<q):=by rw[Bool.eq_iff_iff,bne_iff_ne,decide_eq_true_eq];omega
    have tq2:((1:Int) !=1)=decide ((1:Int)<1):=by first|rfl|(rw[Bool.eq_iff_iff,bne_iff_ne,decide_eq_true_eq];omega)
    rcases hq with c|⟨c,c2⟩
    ·rw[decide_eq_true (show 1<q from c)] at tq
     clear tq2
     go_enter Tryz.func153,Tryz.ntmps153
     go_wp2_with fail
     refine(HV1.out _).mono ?_
     rw[HVV.out]
     rintro e w1 ⟨rfl,hb⟩
     have HB1:=hbn HB.out hb
     have HW1:=Lib.hid hb
     obtain⟨hc,hf⟩:=bcell hb
     have hz:=hb.size
     simp at hz
     clear hb
     go_wp2_with fail
     refine(HV2.out _).mono ?_
     rw[HVV2.out]
     rintro e w2 ⟨rfl,hb⟩
     have HB2:=hbn HB1.out hb
     have HW2:=hbn HW1.out hb
     clear hc hf
     obtain⟨hc,hf⟩:=bcell HW2.out
     have hz2:=hb.size
     clear hb
     go_wp2
     refine bodyPost_ret (by simp[results,Tryz.results153,go_sem,hc];first|done|rfl) rfl ?_
     exact zAV HR.out (zAD HB2.out (by omega) _ _)
    ·exact absurd c2 (by omega)
   ·have tq:(q !=1)=false:=by rw[bne_eq_false_iff_eq];omega
    have tq2:((1:Int) !=1)=false:=by first|rfl|(rw[bne_eq_false_iff_eq];omega)
    have hR2:R=intN (zBe (bitR 23 (lo32 p) (lo32 0) 0)):=by rw[hR1];exact bitV_good (show q=1 by omega) (show(1:Int)=1 by first|rfl|omega)
    have hu:=zBu p
    have hv:=zBu 0
    have hrl:=bitR_le hu hv 23 0
    have eu:=zBv p
    have ev:=zBv 0
    obtain⟨u,hu0⟩:∃u,u=lo32 p:=⟨_,rfl⟩
    obtain⟨v,hv0⟩:∃v,v=lo32 0:=⟨_,rfl⟩
    rw[←hu0] at hu eu hR2 hrl
    rw[←hv0] at hv ev hR2 hrl
    obtain⟨r,hr0⟩:∃r,r=bitR 23 u v 0:=⟨_,rfl⟩
    rw[←hr0] at hR2 hrl
    have HEU:=Lib.hid eu
    have HEV:=Lib.hid ev
    have HU:=Lib.hid hu
    have HV:=Lib.hid hv
    have HX:=Lib.hid (show intN (wrap64 (wrap32 (bits .xor .u32 IntKind.u32.max (u:Int))))=R from by
     rw[hR2,←wrap_signed hrl,hr0]
     exact congrArg (fun n=>intN (wrap64 (wrap32 n))) (max_xor hu))
    have HR:=HX
    clear eu ev hu0 hv0 hr0 hR1 hq hu hv hrl hR2 HX
    go_enter Tryz.func153,Tryz.ntmps153
    go_wp2_with fail
    refine(HV1.out _).mono ?_
    rw[HVV.out]
    rintro e w1 ⟨rfl,hb⟩
    have HB1:=hbn HB.out hb
    have HW1:=Lib.hid hb
    obtain⟨hc,hf⟩:=bcell hb
    have hz:=hb.size
    simp at hz
    clear hb
    go_wp2_with fail
    refine(HV2.out _).mono ?_
    rw[HVV2.out]
    rintro e w2 ⟨rfl,hb⟩
    have HB2:=hbn HB1.out hb
    have HW2:=hbn HW1.out hb
    clear hc hf
    obtain⟨hc,hf⟩:=bcell HW2.out
    have hz2:=hb.size
    clear hb
    go_wp2
    go_quiet (fail)
    rw[HEU.out]
    go_wp2_with fail
    refine(rint_c _ _).mono ?_
    rw[HR.out]
    rintro e w4 ⟨rfl,hb⟩
    have hb:=zAC (below_drewN (Below.refl _ _) _) hb
    have HB4:=hbn HB2.out hb
    have HW4:=hbn HW2.out hb
    clear hc hf
    obtain⟨hc,hf⟩:=bcell HW4.out
    have hz4:=hb.size
    try simp at hz4
    clear hb
    go_wp2
    refine bodyPost_ret (by simp[results,Tryz.results153,go_sem,hc];first|done|rfl) rfl ?_
    refine zAu (zAD HB4.out ?_ _ _)
    omega
theorem rBitsBad_c (w:World) (o p q p' q':Int) (ho:o<9∨(13<o∧(o<23∨23<o))):Calls Tryz.prog 153 #[o,.agg #[p,q],.agg #[p',q']] w (NumPost w (bitsN o (p,q) (p',q'))):=by
 obtain⟨R,hR⟩:∃R,R=bitsN o (p,q) (p',q'):=⟨_,rfl⟩
 rw[←hR]
 have HR:=Lib.hid (show R= .error 2 from by rw[hR];exact bits_bad (by unfold isBitOp;rw[decide_eq_false (by omega),decide_eq_false (by omega)];rfl))
 have HB1:=Lib.hid (zAL w (o2 p q) (o2 p' q') (o2 0 0))
 have t1:(o !=23)=true:=by rw[bne_iff_ne];omega
 have t2:(o==23)=false:=by rw[beq_eq_false_iff_ne];omega
 clear hR
 rcases ho with c|⟨c,c2⟩
 all_goals
  go_enter Tryz.func153,Tryz.ntmps153
  go_wp2
  refine bodyPost_ret (by simp[results,Tryz.results153,go_sem];first|done|rfl) rfl ?_
  exact zAV HR.out HB1.out
theorem rBits_c (w:World) (o p q p' q':Int):Calls Tryz.prog 153 #[o,.agg #[p,q],.agg #[p',q']] w (NumPost w (bitsN o (p,q) (p',q'))):=by
 have hc:(o<9∨(13<o∧(o<23∨23<o)))∨o=9∨o=10∨o=11∨o=12∨o=13∨o=23:=by omega
 rcases hc with hc|rfl|rfl|rfl|rfl|rfl|rfl
 ·exact rBitsBad_c w o p q p' q' hc
 ·exact rBits9_c w p q p' q'
 ·exact rBits10_c w p q p' q'
 ·exact rBits11_c w p q p' q'
 ·exact rBits12_c w p q p' q'
 ·exact rBits13_c w p q p' q'
 ·exact rBits23_c w p q p' q'
end Go.Proofs.YthkpckgcgkijbaaGreatDoor
