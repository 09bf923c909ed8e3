import Derived.Test.YthkpckgcgkijbaaGreatDoorRefA
set_option linter.unusedVariables false
set_option linter.unusedSimpArgs false
set_option maxRecDepth 100000
set_option maxHeartbeats 8000000
namespace Go.Proofs.YthkpckgcgkijbaaGreatDoor
open Go.RowKit Go.Proofs.Lexi
theorem sbits_x (w:World) (o:Int) (u v:Nat) (hu:u≤4294967295) (hv:v≤4294967295) (n:Int) (h1: -2147483647≤n) (h2:n≤2147483647) (x y:Int) (hx:x=u) (hy:y=v):
  Calls Tryz.prog 167 #[o,x,y,n] w fun e w'=>e= .returned (.int .i64 (bitR o u v n:Nat))∧w=w':=by
 subst hx hy;exact sbits_c w o u v hu hv n h1 h2
theorem sBits_c (w:World) (o p q p' q':Int):Calls Tryz.prog 107 #[o,.agg #[p,q],.agg #[p',q']] w (NumPost w (bitsN o (p,q) (p',q'))):=by
 obtain⟨R,hR⟩:∃R,R=bitsN o (p,q) (p',q'):=⟨_,rfl⟩
 rw[←hR]
 have hc:(o<9∨(13<o∧(o<23∨23<o)))∨(9≤o∧o≤13)∨o=23:=by omega
 rcases hc with hc|⟨hc1,hc2⟩|rfl
 ·have HR:=Lib.hid (show R= .error 2 from by rw[hR];exact bits_bad (by unfold isBitOp;rw[decide_eq_false (by omega),decide_eq_false (by omega)];rfl))
  have HB1:=Lib.hid (zAL w (o2 p q) (o2 p' q') (o2 0 0))
  have t1:(o !=23)=true:=by rw[bne_iff_ne];omega
  clear hR
  rcases hc with c|⟨c,c2⟩
  all_goals
   go_enter Tryz.func107,Tryz.ntmps107
   go_wp2
   refine bodyPost_ret (by simp[results,Tryz.results107,go_sem];first|done|rfl) rfl ?_
   exact zAV HR.out HB1.out
 ·have t2:(o==23)=false:=by rw[beq_eq_false_iff_ne];omega
  have HB:=Lib.hid (zAL w (o2 p q) (o2 p' q') (o2 0 0))
  have HV1:=Lib.hid (zBB (((w.alloc (o2 p q)).alloc (o2 p' q')).alloc (o2 0 0)) p q)
  have HV2:=Lib.hid (fun W=>zBB W p' q')
  have hR0:R=if zAT (p,q)&&zAT (p',q') then bitV o (p,q) (p',q') else .error 2:=by rw[hR];exact by rw[zCO (by unfold isBitOp;rw[decide_eq_true ⟨hc1,hc2⟩];rfl),bitArg_of (by omega)]
  clear hR
  cases hv:zAT (p,q) with
  |false=>
   have HR:=Lib.hid (show R= .error 2 from by rw[hR0,hv];rfl)
   have HVV:=Lib.hid hv
   clear hv hR0
   go_enter Tryz.func107,Tryz.ntmps107
   go_wp2_with fail
   refine HV1.out.mono ?_
   rw[HVV.out]
   rintro e w1 ⟨rfl,hb⟩
   have HB1:=hbn HB.out hb
   have HW1:=Lib.hid hb
   obtain⟨hc,hf⟩:=bcell hb
   have hz:=hb.size
   simp at hz
   clear hb
   go_wp2
   refine bodyPost_ret (by simp[results,Tryz.results107,go_sem,hc];first|done|rfl) rfl ?_
   exact zAV HR.out (zAD HB1.out (by omega) _ _)
  |true=>
   cases hv2:zAT (p',q') with
   |false=>
    have HR:=Lib.hid (show R= .error 2 from by rw[hR0,hv,hv2];rfl)
    have HVV:=Lib.hid hv
    have HVV2:=Lib.hid hv2
    clear hv hv2 hR0
    go_enter Tryz.func107,Tryz.ntmps107
    go_wp2_with fail
    refine HV1.out.mono ?_
    rw[HVV.out]
    rintro e w1 ⟨rfl,hb⟩
    have HB1:=hbn HB.out hb
    have HW1:=Lib.hid hb
    obtain⟨hc,hf⟩:=bcell hb
    have hz:=hb.size
    simp at hz
    clear hb
    go_wp2_with fail
    refine(HV2.out _).mono ?_
    rw[HVV2.out]
    rintro e w2 ⟨rfl,hb⟩
    have HB2:=hbn HB1.out hb
    have HW2:=hbn HW1.out hb
    clear hc hf
    obtain⟨hc,hf⟩:=bcell HW2.out
    have hz2:=hb.size
    clear hb
    go_wp2
    refine bodyPost_ret (by simp[results,Tryz.results107,go_sem,hc];first|done|rfl) rfl ?_
    exact zAV HR.out (zAD HB2.out (by omega) _ _)
   |true=>
    have hR1:R=bitV o (p,q) (p',q'):=by rw[hR0,hv,hv2];rfl
    have hb1:=zAN hv
    have hb2:=zAN hv2
    simp only[] at hb1 hb2
    obtain⟨a1,a2,a3,a4⟩:=hb1
    obtain⟨b1,b2,b3,b4⟩:=hb2
    have HVV:=Lib.hid hv
    have HVV2:=Lib.hid hv2
    clear hv hv2 hR0
    by_cases hq:1<q∨(q≤1∧(1:Int)<q')
    ·have HR:=Lib.hid (show R= .error 8 from by rw[hR1];exact bitV_bad (by simp only[];omega))
     clear hR1
     have tq:(q !=1)=decide (1<q):=by rw[Bool.eq_iff_iff,bne_iff_ne,decide_eq_true_eq];omega
     have tq2:((q':Int) !=1)=decide ((1:Int)<q'):=by first|rfl|(rw[Bool.eq_iff_iff,bne_iff_ne,decide_eq_true_eq];omega)
     rcases hq with c|⟨c,c2⟩
     ·rw[decide_eq_true (show 1<q from c)] at tq
      clear tq2
      go_enter Tryz.func107,Tryz.ntmps107
      go_wp2_with fail
      refine HV1.out.mono ?_
      rw[HVV.out]
      rintro e w1 ⟨rfl,hb⟩
      have HB1:=hbn HB.out hb
      have HW1:=Lib.hid hb
      obtain⟨hc,hf⟩:=bcell hb
      have hz:=hb.size
      simp at hz
      clear hb
      go_wp2_with fail
      refine(HV2.out _).mono ?_
      rw[HVV2.out]
      rintro e w2 ⟨rfl,hb⟩
      have HB2:=hbn HB1.out hb
      have HW2:=hbn HW1.out hb
      clear hc hf
      obtain⟨hc,hf⟩:=bcell HW2.out
      have hz2:=hb.size
      clear hb
      go_wp2
      refine bodyPost_ret (by simp[results,Tryz.results107,go_sem,hc];first|done|rfl) rfl ?_
      exact zAV HR.out (zAD HB2.out (by omega) _ _)
     ·rw[decide_eq_false (show¬1<q by omega)] at tq
      rw[decide_eq_true (show 1<q' from c2)] at tq2
      go_enter Tryz.func107,Tryz.ntmps107
      go_wp2_with fail
      refine HV1.out.mono ?_
      rw[HVV.out]
      rintro e w1 ⟨rfl,hb⟩
      have HB1:=hbn HB.out hb
      have HW1:=Lib.hid hb
      obtain⟨hc,hf⟩:=bcell hb
      have hz:=hb.size
      simp at hz
      clear hb
      go_wp2_with fail
      refine(HV2.out _).mono ?_
      rw[HVV2.out]
      rintro e w2 ⟨rfl,hb⟩
      have HB2:=hbn HB1.out hb
      have HW2:=hbn HW1.out hb
      clear hc hf
      obtain⟨hc,hf⟩:=bcell HW2.out
      have hz2:=hb.size
      clear hb
      go_wp2
      refine bodyPost_ret (by simp[results,Tryz.results107,go_sem,hc];first|done|rfl) rfl ?_
      exact zAV HR.out (zAD HB2.out (by omega) _ _)
    ·have tq:(q !=1)=false:=by rw[bne_eq_false_iff_eq];omega
     have tq2:((q':Int) !=1)=false:=by first|rfl|(rw[bne_eq_false_iff_eq];omega)
     have hR2:R=intN (zBe (bitR o (lo32 p) (lo32 p') p')):=by rw[hR1];exact bitV_good (show q=1 by omega) (show(q':Int)=1 by first|rfl|omega)
     have hu:=zBu p
     have hv:=zBu p'
     have hrl:=bitR_le hu hv o p'
     have eu:=zBv p
     have ev:=zBv p'
     obtain⟨u,hu0⟩:∃u,u=lo32 p:=⟨_,rfl⟩
     obtain⟨v,hv0⟩:∃v,v=lo32 p':=⟨_,rfl⟩
     rw[←hu0] at hu eu hR2 hrl
     rw[←hv0] at hv ev hR2 hrl
     obtain⟨r,hr0⟩:∃r,r=bitR o u v p':=⟨_,rfl⟩
     rw[←hr0] at hR2 hrl
     have HEU:=Lib.hid eu
     have HEV:=Lib.hid ev
     have HU:=Lib.hid hu
     have HV:=Lib.hid hv
     obtain⟨z,hz⟩:∃z:Int,z=(r:Int):=⟨_,rfl⟩
     have HRR:=Lib.hid (show((bitR o u v p':Nat):Int)=z from by rw[hz,hr0])
     have hz1:0≤z:=by omega
     have hz2:z≤4294967295:=by omega
     have hR3:(2147483648≤z→R=intN (z-4294967296))∧(z<2147483648→R=intN z):=⟨fun h=>by rw[hR2,signed_hi (by omega),hz],fun h=>by rw[hR2,signed_lo (by omega),hz]⟩
     clear eu ev hu0 hv0 hr0 hR1 hq hu hv hrl hR2 hz
     by_cases hs:2147483648≤z
     ·have HR:=Lib.hid (show intN (z-4294967296)=R from(hR3.1 hs).symm)
      clear hR3
      have M1:=Lib.hid (show bits .and .i64 p 4294967295=(u:Int) from(zBi p).trans HEU.out)
      have M2:=Lib.hid (show bits .and .i64 p' 4294967295=(v:Int) from(zBi p').trans HEV.out)
      go_enter Tryz.func107,Tryz.ntmps107
      go_wp2_with fail
      refine HV1.out.mono ?_
      rw[HVV.out]
      rintro e w1 ⟨rfl,hb⟩
      have HB1:=hbn HB.out hb
      have HW1:=Lib.hid hb
      obtain⟨hc,hf⟩:=bcell hb
      have hz:=hb.size
      simp at hz
      clear hb
      go_wp2_with fail
      refine(HV2.out _).mono ?_
      rw[HVV2.out]
      rintro e w2 ⟨rfl,hb⟩
      have HB2:=hbn HB1.out hb
      have HW2:=hbn HW1.out hb
      clear hc hf
      obtain⟨hc,hf⟩:=bcell HW2.out
      have hz2:=hb.size
      clear hb
      go_wp2_with fail
      refine(sbits_x _ o u v HU.out HV.out p' (by omega) (by omega) _ _ M1.out M2.out).mono ?_
      rw[HRR.out]
      rintro e w3 ⟨rfl,rfl⟩
      go_wp2_with fail
      refine(sint_c _ _).mono ?_
      rw[HR.out]
      rintro e w4 ⟨rfl,hb⟩
      have HB4:=hbn HB2.out hb
      have HW4:=hbn HW2.out hb
      clear hc hf
      obtain⟨hc,hf⟩:=bcell HW4.out
      have hz4:=hb.size
      try simp at hz4
      clear hb
      go_wp2
      refine bodyPost_ret (by simp[results,Tryz.results107,go_sem,hc];first|done|rfl) rfl ?_
      refine zAu (zAD HB4.out ?_ _ _)
      omega
     ·have HR:=Lib.hid (show intN z=R from(hR3.2 (by omega)).symm)
      clear hR3
      have M1:=Lib.hid (show bits .and .i64 p 4294967295=(u:Int) from(zBi p).trans HEU.out)
      have M2:=Lib.hid (show bits .and .i64 p' 4294967295=(v:Int) from(zBi p').trans HEV.out)
      go_enter Tryz.func107,Tryz.ntmps107
      go_wp2_with fail
      refine HV1.out.mono ?_
      rw[HVV.out]
      rintro e w1 ⟨rfl,hb⟩
      have HB1:=hbn HB.out hb
      have HW1:=Lib.hid hb
      obtain⟨hc,hf⟩:=bcell hb
      have hz:=hb.size
      simp at hz
      clear hb
      go_wp2_with fail
      refine(HV2.out _).mono ?_
      rw[HVV2.out]
      rintro e w2 ⟨rfl,hb⟩
      have HB2:=hbn HB1.out hb
      have HW2:=hbn HW1.out hb
      clear hc hf
      obtain⟨hc,hf⟩:=bcell HW2.out
      have hz2:=hb.size
      clear hb
      go_wp2_with fail
      refine(sbits_x _ o u v HU.out HV.out p' (by omega) (by omega) _ _ M1.out M2.out).mono ?_
      rw[HRR.out]
      rintro e w3 ⟨rfl,rfl⟩
      go_wp2_with fail
      refine(sint_c _ _).mono ?_
      rw[HR.out]
      rintro e w4 ⟨rfl,hb⟩
      have HB4:=hbn HB2.out hb
      have HW4:=hbn HW2.out hb
      clear hc hf
      obtain⟨hc,hf⟩:=bcell HW4.out
      have hz4:=hb.size
      try simp at hz4
      clear hb
      go_wp2
      refine bodyPost_ret (by simp[results,Tryz.results107,go_sem,hc];first|done|rfl) rfl ?_
      refine zAu (zAD HB4.out ?_ _ _)
      omega
 ·have HB:=Lib.hid (zAL w (o2 p q) (o2 0 1) (o2 0 0))
  have HV1:=Lib.hid (zBB (((w.alloc (o2 p q)).alloc (o2 0 1)).alloc (o2 0 0)) p q)
  have HV2:=Lib.hid (fun W=>zBB W 0 1)
  have hR0:R=if zAT (p,q)&&zAT (0,1) then bitV 23 (p,q) (0,1) else .error 2:=by rw[hR];exact by rw[zCO (by decide)];rfl
  clear hR
  cases hv:zAT (p,q) with
  |false=>
   have HR:=Lib.hid (show R= .error 2 from by rw[hR0,hv];rfl)
   have HVV:=Lib.hid hv
   clear hv hR0
   go_enter Tryz.func107,Tryz.ntmps107
   go_wp2_with fail
   refine HV1.out.mono ?_
   rw[HVV.out]
   rintro e w1 ⟨rfl,hb⟩
   have HB1:=hbn HB.out hb
   have HW1:=Lib.hid hb
   obtain⟨hc,hf⟩:=bcell hb
   have hz:=hb.size
   simp at hz
   clear hb
   go_wp2
   refine bodyPost_ret (by simp[results,Tryz.results107,go_sem,hc];first|done|rfl) rfl ?_
   exact zAV HR.out (zAD HB1.out (by omega) _ _)
  |true=>
   cases hv2:zAT (0,1) with
   |false=>
    have HR:=Lib.hid (show R= .error 2 from by rw[hR0,hv,hv2];rfl)
    have HVV:=Lib.hid hv
    have HVV2:=Lib.hid hv2
    clear hv hv2 hR0
    go_enter Tryz.func107,Tryz.ntmps107
    go_wp2_with fail
    refine HV1.out.mono ?_
    rw[HVV.out]
    rintro e w1 ⟨rfl,hb⟩
    have HB1:=hbn HB.out hb
    have HW1:=Lib.hid hb
    obtain⟨hc,hf⟩:=bcell hb
    have hz:=hb.size
    simp at hz
    clear hb
    go_wp2_with fail
    refine(HV2.out _).mono ?_
    rw[HVV2.out]
    rintro e w2 ⟨rfl,hb⟩
    have HB2:=hbn HB1.out hb
    have HW2:=hbn HW1.out hb
    clear hc hf
    obtain⟨hc,hf⟩:=bcell HW2.out
    have hz2:=hb.size
    clear hb
    go_wp2
    refine bodyPost_ret (by simp[results,Tryz.results107,go_sem,hc];first|done|rfl) rfl ?_
    exact zAV HR.out (zAD HB2.out (by omega) _ _)
   |true=>
    have hR1:R=bitV 23 (p,q) (0,1):=by rw[hR0,hv,hv2];rfl
    have hb1:=zAN hv
    have hb2:=zAN hv2
    simp only[] at hb1 hb2
    obtain⟨a1,a2,a3,a4⟩:=hb1
    obtain⟨b1,b2,b3,b4⟩:=hb2
    have HVV:=Lib.hid hv
    have HVV2:=Lib.hid hv2
    clear hv hv2 hR0
    by_cases hq:1<q∨(q≤1∧(1:Int)<1)
    ·have HR:=Lib.hid (show R= .error 8 from by rw[hR1];exact bitV_bad (by simp only[];omega))
     clear hR1
     have tq:(q !=1)=decide (1<q):=by rw[Bool.eq_iff_iff,bne_iff_ne,decide_eq_true_eq];omega
     have tq2:((1:Int) !=1)=decide ((1:Int)<1):=by first|rfl|(rw[Bool.eq_iff_iff,bne_iff_ne,decide_eq_true_eq];omega)
     rcases hq with c|⟨c,c2⟩
     ·rw[decide_eq_true (show 1<q from c)] at tq
      clear tq2
      go_enter Tryz.func107,Tryz.ntmps107
      go_wp2_with fail
      refine HV1.out.mono ?_
      rw[HVV.out]
      rintro e w1 ⟨rfl,hb⟩
      have HB1:=hbn HB.out hb
      have HW1:=Lib.hid hb
      obtain⟨hc,hf⟩:=bcell hb
      have hz:=hb.size
      simp at hz
      clear hb
      go_wp2_with fail
      refine(HV2.out _).mono ?_
      rw[HVV2.out]
      rintro e w2 ⟨rfl,hb⟩
      have HB2:=hbn HB1.out hb
      have HW2:=hbn HW1.out hb
      clear hc hf
      obtain⟨hc,hf⟩:=bcell HW2.out
      have hz2:=hb.size
      clear hb
      go_wp2
      refine bodyPost_ret (by simp[results,Tryz.results107,go_sem,hc];first|done|rfl) rfl ?_
      exact zAV HR.out (zAD HB2.out (by omega) _ _)
     ·exact absurd c2 (by omega)
    ·have tq:(q !=1)=false:=by rw[bne_eq_false_iff_eq];omega
     have tq2:((1:Int) !=1)=false:=by first|rfl|(rw[bne_eq_false_iff_eq];omega)
     have hR2:R=intN (zBe (bitR 23 (lo32 p) (lo32 0) 0)):=by rw[hR1];exact bitV_good (show q=1 by omega) (show(1:Int)=1 by first|rfl|omega)
     have hu:=zBu p
     have hv:=zBu 0
     have hrl:=bitR_le hu hv 23 0
     have eu:=zBv p
     have ev:=zBv 0
     obtain⟨u,hu0⟩:∃u,u=lo32 p:=⟨_,rfl⟩
     obtain⟨v,hv0⟩:∃v,v=lo32 0:=⟨_,rfl⟩
     rw[←hu0] at hu eu hR2 hrl
     rw[←hv0] at hv ev hR2 hrl
     obtain⟨r,hr0⟩:∃r,r=bitR 23 u v 0:=⟨_,rfl⟩
     rw[←hr0] at hR2 hrl
     have HEU:=Lib.hid eu
     have HEV:=Lib.hid ev
     have HU:=Lib.hid hu
     have HV:=Lib.hid hv
     obtain⟨z,hz⟩:∃z:Int,z=(r:Int):=⟨_,rfl⟩
     have HRR:=Lib.hid (show((bitR 23 u v 0:Nat):Int)=z from by rw[hz,hr0])
     have hz1:0≤z:=by omega
     have hz2:z≤4294967295:=by omega
     have hR3:(2147483648≤z→R=intN (z-4294967296))∧(z<2147483648→R=intN z):=⟨fun h=>by rw[hR2,signed_hi (by omega),hz],fun h=>by rw[hR2,signed_lo (by omega),hz]⟩
     clear eu ev hu0 hv0 hr0 hR1 hq hu hv hrl hR2 hz
     by_cases hs:2147483648≤z
     ·have HR:=Lib.hid (show intN (z-4294967296)=R from(hR3.1 hs).symm)
      clear hR3
      have M1:=Lib.hid (show bits .and .i64 p 4294967295=(u:Int) from(zBi p).trans HEU.out)
      have M2:=Lib.hid (show bits .and .i64 0 4294967295=(v:Int) from(zBi 0).trans HEV.out)
      go_enter Tryz.func107,Tryz.ntmps107
      go_wp2_with fail
      refine HV1.out.mono ?_
      rw[HVV.out]
      rintro e w1 ⟨rfl,hb⟩
      have HB1:=hbn HB.out hb
      have HW1:=Lib.hid hb
      obtain⟨hc,hf⟩:=bcell hb
      have hz:=hb.size
      simp at hz
      clear hb
      go_wp2_with fail
      refine(HV2.out _).mono ?_
      rw[HVV2.out]
      rintro e w2 ⟨rfl,hb⟩
      have HB2:=hbn HB1.out hb
      have HW2:=hbn HW1.out hb
      clear hc hf
      obtain⟨hc,hf⟩:=bcell HW2.out
      have hz2:=hb.size
      clear hb
      go_wp2_with fail
      refine(sbits_x _ 23 u v HU.out HV.out 0 (by omega) (by omega) _ _ M1.out M2.out).mono ?_
      rw[HRR.out]
      rintro e w3 ⟨rfl,rfl⟩
      go_wp2_with fail
      refine(sint_c _ _).mono ?_
      rw[HR.out]
      rintro e w4 ⟨rfl,hb⟩
      have HB4:=hbn HB2.out hb
      have HW4:=hbn HW2.out hb
      clear hc hf
      obtain⟨hc,hf⟩:=bcell HW4.out
      have hz4:=hb.size
      try simp at hz4
      clear hb
      go_wp2
      refine bodyPost_ret (by simp[results,Tryz.results107,go_sem,hc];first|done|rfl) rfl ?_
      refine zAu (zAD HB4.out ?_ _ _)
      omega
     ·have HR:=Lib.hid (show intN z=R from(hR3.2 (by omega)).symm)
      clear hR3
      have M1:=Lib.hid (show bits .and .i64 p 4294967295=(u:Int) from(zBi p).trans HEU.out)
      have M2:=Lib.hid (show bits .and .i64 0 4294967295=(v:Int) from(zBi 0).trans HEV.out)
      go_enter Tryz.func107,Tryz.ntmps107
      go_wp2_with fail
      refine HV1.out.mono ?_
      rw[HVV.out]
      rintro e w1 ⟨rfl,hb⟩
      have HB1:=hbn HB.out hb
      have HW1:=Lib.hid hb
      obtain⟨hc,hf⟩:=bcell hb
      have hz:=hb.size
      simp at hz
      clear hb
      go_wp2_with fail
      refine(HV2.out _).mono ?_
      rw[HVV2.out]
      rintro e w2 ⟨rfl,hb⟩
      have HB2:=hbn HB1.out hb
      have HW2:=hbn HW1.out hb
      clear hc hf
      obtain⟨hc,hf⟩:=bcell HW2.out
      have hz2:=hb.size
      clear hb
      go_wp2_with fail
      refine(sbits_x _ 23 u v HU.out HV.out 0 (by omega) (by omega) _ _ M1.out M2.out).mono ?_
      rw[HRR.out]
      rintro e w3 ⟨rfl,rfl⟩
      go_wp2_with fail
      refine(sint_c _ _).mono ?_
      rw[HR.out]
      rintro e w4 ⟨rfl,hb⟩
      have HB4:=hbn HB2.out hb
      have HW4:=hbn HW2.out hb
      clear hc hf
      obtain⟨hc,hf⟩:=bcell HW4.out
      have hz4:=hb.size
      try simp at hz4
      clear hb
      go_wp2
      refine bodyPost_ret (by simp[results,Tryz.results107,go_sem,hc];first|done|rfl) rfl ?_
      refine zAu (zAD HB4.out ?_ _ _)
      omega
end Go.Proofs.YthkpckgcgkijbaaGreatDoor
