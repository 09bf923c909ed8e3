import Derived.Test.YthkpckgcgkijbaaGreatDoorRefA
import Derived.Test.YthkpckgcgkijbaaGreatDoorTexC
set_option linter.unusedVariables false
set_option linter.unusedSimpArgs false
set_option maxRecDepth 100000
set_option maxHeartbeats 8000000
namespace Go.Proofs.YthkpckgcgkijbaaGreatDoor
open Go.RowKit Go.Proofs.Lexi
theorem qFirst {f:FuncId} {args:Array Value} {w:World} {n:Nat} {v:Value} (h:∀W,Calls Tryz.prog f args W fun e w'=>e= .returned v∧W=w'):
  Calls Tryz.prog f args (w.drewN n) fun e w''=>e= .returned v∧∃m,w''=w.drewN m:=(h _).mono fun _ _ hh=>⟨hh.1,n,hh.2.symm⟩
theorem qNext {f:FuncId} {args:Array Value} {w:World} {a n:Nat} {v:Value} (h:∀W,Calls Tryz.prog f args W fun e w'=>e= .returned v∧W=w'):
  Calls Tryz.prog f args (w.drewN (a+n)) fun e w''=>e= .returned v∧∃m,w''=w.drewN (a+m):=(h _).mono fun _ _ hh=>⟨hh.1,n,hh.2.symm⟩
theorem scmp_c (w:World) (p q p' q':Int):Calls Tryz.prog 157 #[.agg #[p,q],.agg #[p',q']] w (IntPost w (cmpN (p,q) (p',q'))):=by
 have HB:=Lib.hid (zAF w (o2 p q) (o2 p' q'))
 have HV1:=Lib.hid (zBB ((w.alloc (o2 p q)).alloc (o2 p' q')) p q)
 have HV2:=Lib.hid (fun W=>zBB W p' q')
 obtain⟨R,hR⟩:∃R,R=cmpN (p,q) (p',q'):=⟨_,rfl⟩
 rw[←hR]
 have low:(zAT (p,q)&&zAT (p',q'))=false→∃c,(p !=p')=c∧R=if c then zBX p p' else zBX q q':=fun h=>by
  refine⟨_,rfl,?_⟩
  rw[hR];unfold cmpN;rw[h]
  by_cases e:p=p'
  ·simp[e]
  ·simp[e]
 have HL:=Lib.hid low
 have HR0:=Lib.hid hR
 clear low hR
 cases hv:zAT (p,q) with
 |false=>
  have HVV:=Lib.hid hv
  obtain⟨c,hcc,hRR⟩:=HL.out (by rw[hv];rfl)
  have HRR:=Lib.hid hRR
  clear hv HL HR0 hRR
  cases c
  all_goals
   go_enter Tryz.func157,Tryz.ntmps157
   go_wp2_with fail
   refine HV1.out.mono ?_
   rw[HVV.out]
   rintro e w1 ⟨rfl,hb⟩
   have HB1:=hbn HB.out hb
   have HW1:=Lib.hid hb
   obtain⟨hc,hf⟩:=bcell hb
   have hz:=hb.size
   simp at hz
   clear hb
   go_wp2_with fail
   refine(sorder_c _ _ _).mono ?_
   rintro e w3 ⟨rfl,rfl⟩
   go_wp2
   go_ret
   exact zAq HRR.out.symm HB1.out
 |true=>
  cases hv2:zAT (p',q') with
  |false=>
   have HVV:=Lib.hid hv
   have HVV2:=Lib.hid hv2
   obtain⟨c,hcc,hRR⟩:=HL.out (by rw[hv,hv2];rfl)
   have HRR:=Lib.hid hRR
   clear hv hv2 HL HR0 hRR
   cases c
   all_goals
    go_enter Tryz.func157,Tryz.ntmps157
    go_wp2_with fail
    refine HV1.out.mono ?_
    rw[HVV.out]
    rintro e w1 ⟨rfl,hb⟩
    have HB1:=hbn HB.out hb
    have HW1:=Lib.hid hb
    obtain⟨hc,hf⟩:=bcell hb
    have hz:=hb.size
    simp at hz
    clear hb
    go_wp2_with fail
    refine(HV2.out _).mono ?_
    rw[HVV2.out]
    rintro e w2 ⟨rfl,hb⟩
    have HB2:=hbn HB1.out hb
    have HW2:=hbn HW1.out hb
    clear hc hf
    obtain⟨hc,hf⟩:=bcell HW2.out
    have hz2:=hb.size
    clear hb
    go_wp2_with fail
    refine(sorder_c _ _ _).mono ?_
    rintro e w3 ⟨rfl,rfl⟩
    go_wp2
    go_ret
    exact zAq HRR.out.symm HB2.out
  |true=>
   have hb1:=zAN hv
   have hb2:=zAN hv2
   simp only[] at hb1 hb2
   obtain⟨a1,a2,a3,a4⟩:=hb1
   obtain⟨b1,b2,b3,b4⟩:=hb2
   have m1:=zAd a3 a4 (show-2147483647≤q' by omega) b2
   have m2:=zAd b3 b4 (show-2147483647≤q by omega) a2
   have m3:=zAd (show-2147483647≤q by omega) a2 (show-2147483647≤q' by omega) b2
   have m4:=zAd a3 a4 b3 b4
   have m5:0<q*q':=Int.mul_pos (by omega) (by omega)
   have HRR:=Lib.hid (show R=zBX (p*q') (p'*q) from by rw[HR0.out];unfold cmpN;rw[hv,hv2];rfl)
   have HVV:=Lib.hid hv
   have HVV2:=Lib.hid hv2
   clear hv hv2 HL HR0
   go_enter Tryz.func157,Tryz.ntmps157
   go_wp2_with fail
   refine HV1.out.mono ?_
   rw[HVV.out]
   rintro e w1 ⟨rfl,hb⟩
   have HB1:=hbn HB.out hb
   have HW1:=Lib.hid hb
   obtain⟨hc,hf⟩:=bcell hb
   have hz:=hb.size
   simp at hz
   clear hb
   go_wp2_with fail
   refine(HV2.out _).mono ?_
   rw[HVV2.out]
   rintro e w2 ⟨rfl,hb⟩
   have HB2:=hbn HB1.out hb
   have HW2:=hbn HW1.out hb
   clear hc hf
   obtain⟨hc,hf⟩:=bcell HW2.out
   have hz2:=hb.size
   clear hb
   go_wp2_with fail
   refine(sorder_c _ _ _).mono ?_
   rintro e w3 ⟨rfl,rfl⟩
   go_wp2
   go_ret
   exact zAq HRR.out.symm HB2.out
theorem spow_c (w:World) (p q p' q':Int):Calls Tryz.prog 105 #[.agg #[p,q],.agg #[p',q']] w (NumPost w (powN (p,q) (p',q'))):=by
 have HB:=Lib.hid (zAL w (o2 p q) (o2 p' q') (o2 0 0))
 have HV:=Lib.hid (fun W=>zBB W p q)
 obtain⟨R,hR⟩:∃R,R=powN (p,q) (p',q'):=⟨_,rfl⟩
 rw[←hR]
 have hn:=swhole_c (((w.alloc (o2 p q)).alloc (o2 p' q')).alloc (o2 0 0)) p' q'
 unfold WholePost at hn
 cases hw:wholeN (p',q') with
 |false=>
  have HR:=Lib.hid (show R= .error 2 from by
   rw[hR];unfold powN
   rw[if_neg]
   intro h
   simp only[Bool.and_eq_true,decide_eq_true_eq] at h
   unfold wholeN at hw
   rw[h.1.2,h.2.1] at hw
   cases hw)
  rw[hw] at hn
  have HN:=Lib.hid (show Calls Tryz.prog 165 #[.agg #[.int .i64 p',.int .i64 q']] (((w.alloc (o2 p q)).alloc (o2 p' q')).alloc (o2 0 0)) fun e w'=>e= .returned (.tuple #[.int .i64 0,.bool false])∧Below (((w.alloc (o2 p q)).alloc (o2 p' q')).alloc (o2 0 0)).heap.size (((w.alloc (o2 p q)).alloc (o2 p' q')).alloc (o2 0 0)) w' from hn)
  clear hn hw hR
  cases hv:zAT (p,q)
  all_goals
   have HVV:=Lib.hid hv
   clear hv
   go_enter Tryz.func105,Tryz.ntmps105
   go_wp2_with fail
   refine HN.out.mono ?_
   rintro e w1 ⟨rfl,hb⟩
   have HB1:=hbn HB.out hb
   have HW1:=Lib.hid hb
   obtain⟨hc,hf⟩:=bcell hb
   have hz:=hb.size
   simp at hz
   clear hb
   go_wp2_with fail
   refine(HV.out _).mono ?_
   rw[HVV.out]
   rintro e w2 ⟨rfl,hb⟩
   have HB2:=hbn HB1.out hb
   have HW2:=hbn HW1.out hb
   clear hc hf
   obtain⟨hc,hf⟩:=bcell HW2.out
   have hz2:=hb.size
   clear hb
   go_wp2
   refine bodyPost_ret (by simp[results,Tryz.results105,go_sem,hc];first|done|rfl) rfl ?_
   exact zAV HR.out (zAD HB2.out (by omega) _ _)
 |true=>
  rw[hw] at hn
  have HN:=Lib.hid (show Calls Tryz.prog 165 #[.agg #[.int .i64 p',.int .i64 q']] (((w.alloc (o2 p q)).alloc (o2 p' q')).alloc (o2 0 0)) fun e w'=>e= .returned (.tuple #[.int .i64 p',.bool true])∧Below (((w.alloc (o2 p q)).alloc (o2 p' q')).alloc (o2 0 0)).heap.size (((w.alloc (o2 p q)).alloc (o2 p' q')).alloc (o2 0 0)) w' from hn)
  have hw2:zAT (p',q')=true∧q'=1:=by unfold wholeN at hw;simpa using hw
  obtain⟨hv2,hq1⟩:=hw2
  clear hn hw
  cases hv:zAT (p,q) with
  |false=>
   have HR:=Lib.hid (show R= .error 2 from by rw[hR];unfold powN;rw[hv];rfl)
   have HVV:=Lib.hid hv
   clear hv hR hv2 hq1
   go_enter Tryz.func105,Tryz.ntmps105
   go_wp2_with fail
   refine HN.out.mono ?_
   rintro e w1 ⟨rfl,hb⟩
   have HB1:=hbn HB.out hb
   have HW1:=Lib.hid hb
   obtain⟨hc,hf⟩:=bcell hb
   have hz:=hb.size
   simp at hz
   clear hb
   go_wp2_with fail
   refine(HV.out _).mono ?_
   rw[HVV.out]
   rintro e w2 ⟨rfl,hb⟩
   have HB2:=hbn HB1.out hb
   have HW2:=hbn HW1.out hb
   clear hc hf
   obtain⟨hc,hf⟩:=bcell HW2.out
   have hz2:=hb.size
   clear hb
   go_wp2
   refine bodyPost_ret (by simp[results,Tryz.results105,go_sem,hc];first|done|rfl) rfl ?_
   exact zAV HR.out (zAD HB2.out (by omega) _ _)
  |true=>
   have hb1:=zAN hv
   have hb2:=zAN hv2
   simp only[] at hb1 hb2
   obtain⟨a1,a2,a3,a4⟩:=hb1
   obtain⟨b1,b2,b3,b4⟩:=hb2
   have hR2:R=if-64≤p'∧p'≤64 then(if p=0∧p'<0 then .error 7 else powFin (decide (p'<0)) (powG p p'.natAbs 1) (powG q p'.natAbs 1)) else .error 2:=by
    rw[hR];unfold powN;rw[hv,hv2]
    by_cases h: -64≤p'∧p'≤64
    ·rw[if_pos h,decide_eq_true (show(p',q').2=1∧ -64≤(p',q').1∧(p',q').1≤64 from⟨hq1,h⟩)];rfl
    ·rw[if_neg h,decide_eq_false (show¬((p',q').2=1∧ -64≤(p',q').1∧(p',q').1≤64) from fun e=>h e.2)];rfl
   have HVV:=Lib.hid hv
   clear hv hv2 hR hq1 b1 b2
   by_cases hbad:¬(-64≤p'∧p'≤64)
   ·have HR:=Lib.hid (show R= .error 2 from by rw[hR2,if_neg hbad])
    have hcs:p'< -64∨(-64≤p'∧64<p'):=by omega
    clear hbad hR2
    rcases hcs with c1|⟨c1,c2⟩
    all_goals
     go_enter Tryz.func105,Tryz.ntmps105
     go_wp2_with fail
     refine HN.out.mono ?_
     rintro e w1 ⟨rfl,hb⟩
     have HB1:=hbn HB.out hb
     have HW1:=Lib.hid hb
     obtain⟨hc,hf⟩:=bcell hb
     have hz:=hb.size
     simp at hz
     clear hb
     go_wp2_with fail
     refine(HV.out _).mono ?_
     rw[HVV.out]
     rintro e w2 ⟨rfl,hb⟩
     have HB2:=hbn HB1.out hb
     have HW2:=hbn HW1.out hb
     clear hc hf
     obtain⟨hc,hf⟩:=bcell HW2.out
     have hz2:=hb.size
     clear hb
     go_wp2
     refine bodyPost_ret (by simp[results,Tryz.results105,go_sem,hc];first|done|rfl) rfl ?_
     exact zAV HR.out (zAD HB2.out (by omega) _ _)
   ·have hgood: -64≤p'∧p'≤64:=Classical.not_not.1 hbad
    rw[if_pos hgood] at hR2
    obtain⟨g2,g3⟩:=hgood
    clear hbad
    have tp:(p==0)=decide (p≤0∧0≤p):=by rw[Bool.eq_iff_iff,beq_iff_eq,decide_eq_true_eq];omega
    by_cases hz0:p=0∧p'<0
    ·have HR:=Lib.hid (show R= .error 7 from by rw[hR2,if_pos hz0])
     obtain⟨z1,z2⟩:=hz0
     rw[decide_eq_true (show p≤0∧0≤p by omega)] at tp
     clear hR2 z1
     go_enter Tryz.func105,Tryz.ntmps105
     go_wp2_with fail
     refine HN.out.mono ?_
     rintro e w1 ⟨rfl,hb⟩
     have HB1:=hbn HB.out hb
     have HW1:=Lib.hid hb
     obtain⟨hc,hf⟩:=bcell hb
     have hz:=hb.size
     simp at hz
     clear hb
     go_wp2_with fail
     refine(HV.out _).mono ?_
     rw[HVV.out]
     rintro e w2 ⟨rfl,hb⟩
     have HB2:=hbn HB1.out hb
     have HW2:=hbn HW1.out hb
     clear hc hf
     obtain⟨hc,hf⟩:=bcell HW2.out
     have hz2:=hb.size
     clear hb
     go_wp2
     refine bodyPost_ret (by simp[results,Tryz.results105,go_sem,hc];first|done|rfl) rfl ?_
     exact zAV HR.out (zAD HB2.out (by omega) _ _)
    ·rw[if_neg hz0] at hR2
     obtain⟨k,hk⟩:∃k,k=p'.natAbs:=⟨_,rfl⟩
     rw[←hk] at hR2
     have hk2:k≤64:=by omega
     obtain⟨X,hX⟩:∃X,X=powG p k 1:=⟨_,rfl⟩
     obtain⟨Y,hY⟩:∃Y,Y=powG q k 1:=⟨_,rfl⟩
     rw[←hX,←hY] at hR2
     have HA:=Lib.hid (fun W=>((sabs_c W p' (by omega) (by omega)).mono fun _ _ h=>⟨h.1.trans (by rw[←hk]),h.2.symm⟩:Calls Tryz.prog 138 #[.int .i64 p'] W fun e w'=>e= .returned (.int .i64 (k:Int))∧W=w'))
     have hp1:=fun W=>spower_c W p k k rfl (by omega) a3 a4
     have hp2:=fun W=>spower_c W q k k rfl (by omega) (by omega) a2
     unfold PowPost at hp1 hp2
     rw[←hX] at hp1
     rw[←hY] at hp2
     have hzc:(p<0∨0<p)∨(p≤0∧0≤p∧0≤p'):=by omega
     have HR:=Lib.hid hR2
     have HX1:=Lib.hid (fun x (h:X=some x)=>powG_bounds k 1 x (by omega) (by omega) (hX.symm.trans h))
     have HY1:=Lib.hid (fun y (h:Y=some y)=>powG_bounds k 1 y (by omega) (by omega) (hY.symm.trans h))
     have HX2:=Lib.hid (fun x (h:X=some x) (hp:p≠0)=>powG_ne hp k 1 x (by omega) (hX.symm.trans h))
     have HY2:=Lib.hid (fun y (h:Y=some y)=>powG_ne (show q≠0 by omega) k 1 y (by omega) (hY.symm.trans h))
     clear hR2 hk hX hY hz0
     cases X with
     |none=>
      have HP1:=Lib.hid (fun W=>(hp1 W:Calls Tryz.prog 166 #[.int .i64 p,.int .i64 (k:Int)] W fun e w'=>e= .returned (.tuple #[.int .i64 0,.bool false])∧W=w'))
      have HP2:=Lib.hid hp2
      have HE:=Lib.hid (show R= .error 6 from HR.out)
      clear HX1 HX2 HR HY1 HY2 hp1 hp2
      rcases hzc with hp0|⟨hp0,hp3,hp4⟩
      ·rw[decide_eq_false (show¬(p≤0∧0≤p) by omega)] at tp
       go_enter Tryz.func105,Tryz.ntmps105
       go_wp2_with fail
       refine HN.out.mono ?_
       rintro e w1 ⟨rfl,hb⟩
       have HB1:=hbn HB.out hb
       have HW1:=Lib.hid hb
       obtain⟨hc,hf⟩:=bcell hb
       have hz:=hb.size
       simp at hz
       clear hb
       go_wp2_with fail
       refine(HV.out _).mono ?_
       rw[HVV.out]
       rintro e w2 ⟨rfl,hb⟩
       have HB2:=hbn HB1.out hb
       have HW2:=hbn HW1.out hb
       clear hc hf
       obtain⟨hc,hf⟩:=bcell HW2.out
       have hz2:=hb.size
       clear hb
       go_wp2
       go_quiet (first|((go_at_call 138;exact qFirst (fun W=>HA.out W)))|((go_at_call 166;exact qFirst (fun W=>HP1.out W))))
       go_wp2
       go_quiet (first|((go_at_call 138;exact qNext (fun W=>HA.out W)))|((go_at_call 166;exact qNext (fun W=>HP2.out W))))
       go_wp2
       refine bodyPost_ret (by simp[results,Tryz.results105,go_sem,hc];first|done|rfl) rfl ?_
       exact zAV HE.out (zAD (below_drewN HB2.out _) (by omega) _ _)
      ·rw[decide_eq_true (show p≤0∧0≤p from⟨hp0,hp3⟩)] at tp
       go_enter Tryz.func105,Tryz.ntmps105
       go_wp2_with fail
       refine HN.out.mono ?_
       rintro e w1 ⟨rfl,hb⟩
       have HB1:=hbn HB.out hb
       have HW1:=Lib.hid hb
       obtain⟨hc,hf⟩:=bcell hb
       have hz:=hb.size
       simp at hz
       clear hb
       go_wp2_with fail
       refine(HV.out _).mono ?_
       rw[HVV.out]
       rintro e w2 ⟨rfl,hb⟩
       have HB2:=hbn HB1.out hb
       have HW2:=hbn HW1.out hb
       clear hc hf
       obtain⟨hc,hf⟩:=bcell HW2.out
       have hz2:=hb.size
       clear hb
       go_wp2
       go_quiet (first|((go_at_call 138;exact qFirst (fun W=>HA.out W)))|((go_at_call 166;exact qFirst (fun W=>HP1.out W))))
       go_wp2
       go_quiet (first|((go_at_call 138;exact qNext (fun W=>HA.out W)))|((go_at_call 166;exact qNext (fun W=>HP2.out W))))
       go_wp2
       refine bodyPost_ret (by simp[results,Tryz.results105,go_sem,hc];first|done|rfl) rfl ?_
       exact zAV HE.out (zAD (below_drewN HB2.out _) (by omega) _ _)
     |some x=>
      have HP1:=Lib.hid (fun W=>(hp1 W:Calls Tryz.prog 166 #[.int .i64 p,.int .i64 (k:Int)] W fun e w'=>e= .returned (.tuple #[.int .i64 x,.bool true])∧W=w'))
      clear hp1
      cases Y with
      |none=>
       have HP2:=Lib.hid (fun W=>(hp2 W:Calls Tryz.prog 166 #[.int .i64 q,.int .i64 (k:Int)] W fun e w'=>e= .returned (.tuple #[.int .i64 0,.bool false])∧W=w'))
       have HE:=Lib.hid (show R= .error 6 from HR.out)
       clear HX1 HX2 HR HY1 HY2 hp2
       rcases hzc with hp0|⟨hp0,hp3,hp4⟩
       ·rw[decide_eq_false (show¬(p≤0∧0≤p) by omega)] at tp
        go_enter Tryz.func105,Tryz.ntmps105
        go_wp2_with fail
        refine HN.out.mono ?_
        rintro e w1 ⟨rfl,hb⟩
        have HB1:=hbn HB.out hb
        have HW1:=Lib.hid hb
        obtain⟨hc,hf⟩:=bcell hb
        have hz:=hb.size
        simp at hz
        clear hb
        go_wp2_with fail
        refine(HV.out _).mono ?_
        rw[HVV.out]
        rintro e w2 ⟨rfl,hb⟩
        have HB2:=hbn HB1.out hb
        have HW2:=hbn HW1.out hb
        clear hc hf
        obtain⟨hc,hf⟩:=bcell HW2.out
        have hz2:=hb.size
        clear hb
        go_wp2
        go_quiet (first|((go_at_call 138;exact qFirst (fun W=>HA.out W)))|((go_at_call 166;exact qFirst (fun W=>HP1.out W))))
        go_wp2
        go_quiet (first|((go_at_call 138;exact qNext (fun W=>HA.out W)))|((go_at_call 166;exact qNext (fun W=>HP2.out W))))
        go_wp2
        refine bodyPost_ret (by simp[results,Tryz.results105,go_sem,hc];first|done|rfl) rfl ?_
        exact zAV HE.out (zAD (below_drewN HB2.out _) (by omega) _ _)
       ·rw[decide_eq_true (show p≤0∧0≤p from⟨hp0,hp3⟩)] at tp
        go_enter Tryz.func105,Tryz.ntmps105
        go_wp2_with fail
        refine HN.out.mono ?_
        rintro e w1 ⟨rfl,hb⟩
        have HB1:=hbn HB.out hb
        have HW1:=Lib.hid hb
        obtain⟨hc,hf⟩:=bcell hb
        have hz:=hb.size
        simp at hz
        clear hb
        go_wp2_with fail
        refine(HV.out _).mono ?_
        rw[HVV.out]
        rintro e w2 ⟨rfl,hb⟩
        have HB2:=hbn HB1.out hb
        have HW2:=hbn HW1.out hb
        clear hc hf
        obtain⟨hc,hf⟩:=bcell HW2.out
        have hz2:=hb.size
        clear hb
        go_wp2
        go_quiet (first|((go_at_call 138;exact qFirst (fun W=>HA.out W)))|((go_at_call 166;exact qFirst (fun W=>HP1.out W))))
        go_wp2
        go_quiet (first|((go_at_call 138;exact qNext (fun W=>HA.out W)))|((go_at_call 166;exact qNext (fun W=>HP2.out W))))
        go_wp2
        refine bodyPost_ret (by simp[results,Tryz.results105,go_sem,hc];first|done|rfl) rfl ?_
        exact zAV HE.out (zAD (below_drewN HB2.out _) (by omega) _ _)
      |some y=>
       have HP2:=Lib.hid (fun W=>(hp2 W:Calls Tryz.prog 166 #[.int .i64 q,.int .i64 (k:Int)] W fun e w'=>e= .returned (.tuple #[.int .i64 y,.bool true])∧W=w'))
       obtain⟨x1,x2⟩:=HX1.out x rfl
       obtain⟨y1,y2⟩:=HY1.out y rfl
       have yn:=HY2.out y rfl
       clear hp2
       rcases hzc with hp0|⟨hp0,hp3,hp4⟩
       ·rw[decide_eq_false (show¬(p≤0∧0≤p) by omega)] at tp
        have xn:=HX2.out x rfl (by omega)
        by_cases hneg:p'<0
        ·have HE:=Lib.hid (show redN y x=R from by rw[HR.out,decide_eq_true hneg];rfl)
         clear HX1 HX2 HR HY1 HY2
         go_enter Tryz.func105,Tryz.ntmps105
         go_wp2_with fail
         refine HN.out.mono ?_
         rintro e w1 ⟨rfl,hb⟩
         have HB1:=hbn HB.out hb
         have HW1:=Lib.hid hb
         obtain⟨hc,hf⟩:=bcell hb
         have hz:=hb.size
         simp at hz
         clear hb
         go_wp2_with fail
         refine(HV.out _).mono ?_
         rw[HVV.out]
         rintro e w2 ⟨rfl,hb⟩
         have HB2:=hbn HB1.out hb
         have HW2:=hbn HW1.out hb
         clear hc hf
         obtain⟨hc,hf⟩:=bcell HW2.out
         have hz2:=hb.size
         clear hb
         go_wp2
         go_quiet (first|((go_at_call 138;exact qFirst (fun W=>HA.out W)))|((go_at_call 166;exact qFirst (fun W=>HP1.out W))))
         go_wp2
         go_quiet (first|((go_at_call 138;exact qNext (fun W=>HA.out W)))|((go_at_call 166;exact qNext (fun W=>HP2.out W))))
         go_wp2_with fail
         refine(sfrac_c _ y x (by omega) (by omega) (by omega) (by omega) xn).mono ?_
         rw[HE.out]
         rintro e w4 ⟨rfl,hb⟩
         have HB4:=hbn (below_drewN HB2.out _) hb
         have HW4:=hbn (below_drewN HW2.out _) hb
         clear hc hf
         obtain⟨hc,hf⟩:=bcell HW4.out
         have hz4:=hb.size
         simp at hz4
         clear hb
         go_wp2
         refine bodyPost_ret (by simp[results,Tryz.results105,go_sem,hc];first|done|rfl) rfl ?_
         refine zAu (zAD HB4.out ?_ _ _)
         omega
        ·have HE:=Lib.hid (show redN x y=R from by rw[HR.out,decide_eq_false hneg];rfl)
         clear HX1 HX2 HR HY1 HY2
         go_enter Tryz.func105,Tryz.ntmps105
         go_wp2_with fail
         refine HN.out.mono ?_
         rintro e w1 ⟨rfl,hb⟩
         have HB1:=hbn HB.out hb
         have HW1:=Lib.hid hb
         obtain⟨hc,hf⟩:=bcell hb
         have hz:=hb.size
         simp at hz
         clear hb
         go_wp2_with fail
         refine(HV.out _).mono ?_
         rw[HVV.out]
         rintro e w2 ⟨rfl,hb⟩
         have HB2:=hbn HB1.out hb
         have HW2:=hbn HW1.out hb
         clear hc hf
         obtain⟨hc,hf⟩:=bcell HW2.out
         have hz2:=hb.size
         clear hb
         go_wp2
         go_quiet (first|((go_at_call 138;exact qFirst (fun W=>HA.out W)))|((go_at_call 166;exact qFirst (fun W=>HP1.out W))))
         go_wp2
         go_quiet (first|((go_at_call 138;exact qNext (fun W=>HA.out W)))|((go_at_call 166;exact qNext (fun W=>HP2.out W))))
         go_wp2_with fail
         refine(sfrac_c _ x y (by omega) (by omega) (by omega) (by omega) yn).mono ?_
         rw[HE.out]
         rintro e w4 ⟨rfl,hb⟩
         have HB4:=hbn (below_drewN HB2.out _) hb
         have HW4:=hbn (below_drewN HW2.out _) hb
         clear hc hf
         obtain⟨hc,hf⟩:=bcell HW4.out
         have hz4:=hb.size
         simp at hz4
         clear hb
         go_wp2
         refine bodyPost_ret (by simp[results,Tryz.results105,go_sem,hc];first|done|rfl) rfl ?_
         refine zAu (zAD HB4.out ?_ _ _)
         omega
       ·rw[decide_eq_true (show p≤0∧0≤p from⟨hp0,hp3⟩)] at tp
        have HE:=Lib.hid (show redN x y=R from by rw[HR.out,decide_eq_false (by omega)];rfl)
        clear HX1 HX2 HR HY1 HY2
        go_enter Tryz.func105,Tryz.ntmps105
        go_wp2_with fail
        refine HN.out.mono ?_
        rintro e w1 ⟨rfl,hb⟩
        have HB1:=hbn HB.out hb
        have HW1:=Lib.hid hb
        obtain⟨hc,hf⟩:=bcell hb
        have hz:=hb.size
        simp at hz
        clear hb
        go_wp2_with fail
        refine(HV.out _).mono ?_
        rw[HVV.out]
        rintro e w2 ⟨rfl,hb⟩
        have HB2:=hbn HB1.out hb
        have HW2:=hbn HW1.out hb
        clear hc hf
        obtain⟨hc,hf⟩:=bcell HW2.out
        have hz2:=hb.size
        clear hb
        go_wp2
        go_quiet (first|((go_at_call 138;exact qFirst (fun W=>HA.out W)))|((go_at_call 166;exact qFirst (fun W=>HP1.out W))))
        go_wp2
        go_quiet (first|((go_at_call 138;exact qNext (fun W=>HA.out W)))|((go_at_call 166;exact qNext (fun W=>HP2.out W))))
        go_wp2_with fail
        refine(sfrac_c _ x y (by omega) (by omega) (by omega) (by omega) yn).mono ?_
        rw[HE.out]
        rintro e w4 ⟨rfl,hb⟩
        have HB4:=hbn (below_drewN HB2.out _) hb
        have HW4:=hbn (below_drewN HW2.out _) hb
        clear hc hf
        obtain⟨hc,hf⟩:=bcell HW4.out
        have hz4:=hb.size
        simp at hz4
        clear hb
        go_wp2
        refine bodyPost_ret (by simp[results,Tryz.results105,go_sem,hc];first|done|rfl) rfl ?_
        refine zAu (zAD HB4.out ?_ _ _)
        omega
theorem sLess_num (w:World) (p q:Int) (s:ByteArray) (r:Int) (p2 q2:Int) (s2:ByteArray) (r2:Int):Calls Tryz.prog 97 #[.agg #[.int .i64 2,p,q,s,r],.agg #[.int .i64 2,p2,q2,s2,r2]] w (BrPost w (if zAT (p,q)&&zAT (p2,q2) then .ok (decide (cmpN (p,q) (p2,q2)<0)) else .error 8)):=by
 obtain⟨R,hR⟩:∃R:BR,R=if zAT (p,q)&&zAT (p2,q2) then .ok (decide (cmpN (p,q) (p2,q2)<0)) else .error 8:=⟨_,rfl⟩
 rw[←hR]
 cases h1:zAT (p,q)
 ·have HR:=Lib.hid (show R= .error 8 from by rw[hR,h1];rfl)
  have HV:=Lib.hid (fun W=>(h1▸zBB W p q:Calls Tryz.prog 81 #[.agg #[.int .i64 p,.int .i64 q]] W (BoolPost W _)))
  clear h1 hR
  go_enter Tryz.func97,Tryz.ntmps97
  go_wp2_with fail
  refine(HV.out _).mono ?_
  rintro e w1 ⟨rfl,hb⟩
  obtain⟨hc,hf⟩:=bcell hb
  have hz:=hb.size
  simp at hz
  have HB1:=hbn (zAF _ _ _) hb
  have a0:w1.cell? ⟨w.heap.size,0,none⟩=some (.int .i64 2):=(hc _ _ (by simp<;>omega)).trans (by simp[go_sem])
  have a1:w1.cell? ⟨w.heap.size,1,none⟩=some (.int .i64 p):=(hc _ _ (by simp<;>omega)).trans (by simp[go_sem])
  have a2:w1.cell? ⟨w.heap.size,2,none⟩=some (.int .i64 q):=(hc _ _ (by simp<;>omega)).trans (by simp[go_sem])
  have b0:w1.cell? ⟨w.heap.size+1,0,none⟩=some (.int .i64 2):=(hc _ _ (by simp<;>omega)).trans (by simp[go_sem])
  have b1:w1.cell? ⟨w.heap.size+1,1,none⟩=some (.int .i64 p2):=(hc _ _ (by simp<;>omega)).trans (by simp[go_sem])
  have b2:w1.cell? ⟨w.heap.size+1,2,none⟩=some (.int .i64 q2):=(hc _ _ (by simp<;>omega)).trans (by simp[go_sem])
  clear hb hc hf
  go_wp2
  go_ret2
  exact br_err HR.out HB1.out
 ·cases h2:zAT (p2,q2)
  ·have HR:=Lib.hid (show R= .error 8 from by rw[hR,h1,h2];rfl)
   have HV:=Lib.hid (fun W=>(h1▸zBB W p q:Calls Tryz.prog 81 #[.agg #[.int .i64 p,.int .i64 q]] W (BoolPost W _)))
   have HV2:=Lib.hid (fun W=>(h2▸zBB W p2 q2:Calls Tryz.prog 81 #[.agg #[.int .i64 p2,.int .i64 q2]] W (BoolPost W _)))
   clear h1 h2 hR
   go_enter Tryz.func97,Tryz.ntmps97
   go_wp2_with fail
   refine(HV.out _).mono ?_
   rintro e w1 ⟨rfl,hb⟩
   obtain⟨hc,hf⟩:=bcell hb
   have hz:=hb.size
   simp at hz
   have HB1:=hbn (zAF _ _ _) hb
   have a0:w1.cell? ⟨w.heap.size,0,none⟩=some (.int .i64 2):=(hc _ _ (by simp<;>omega)).trans (by simp[go_sem])
   have a1:w1.cell? ⟨w.heap.size,1,none⟩=some (.int .i64 p):=(hc _ _ (by simp<;>omega)).trans (by simp[go_sem])
   have a2:w1.cell? ⟨w.heap.size,2,none⟩=some (.int .i64 q):=(hc _ _ (by simp<;>omega)).trans (by simp[go_sem])
   have b0:w1.cell? ⟨w.heap.size+1,0,none⟩=some (.int .i64 2):=(hc _ _ (by simp<;>omega)).trans (by simp[go_sem])
   have b1:w1.cell? ⟨w.heap.size+1,1,none⟩=some (.int .i64 p2):=(hc _ _ (by simp<;>omega)).trans (by simp[go_sem])
   have b2:w1.cell? ⟨w.heap.size+1,2,none⟩=some (.int .i64 q2):=(hc _ _ (by simp<;>omega)).trans (by simp[go_sem])
   clear hb hc hf
   go_wp2_with fail
   refine(HV2.out _).mono ?_
   rintro e w2 ⟨rfl,hb⟩
   obtain⟨hc,hf⟩:=bcell hb
   have hz2:=hb.size
   have HB2:=hbn HB1.out hb
   have ca0:w2.cell? ⟨w.heap.size,0,none⟩=some (.int .i64 2):=(hc _ _ (by omega)).trans a0
   have ca1:w2.cell? ⟨w.heap.size,1,none⟩=some (.int .i64 p):=(hc _ _ (by omega)).trans a1
   have ca2:w2.cell? ⟨w.heap.size,2,none⟩=some (.int .i64 q):=(hc _ _ (by omega)).trans a2
   have cb0:w2.cell? ⟨w.heap.size+1,0,none⟩=some (.int .i64 2):=(hc _ _ (by omega)).trans b0
   have cb1:w2.cell? ⟨w.heap.size+1,1,none⟩=some (.int .i64 p2):=(hc _ _ (by omega)).trans b1
   have cb2:w2.cell? ⟨w.heap.size+1,2,none⟩=some (.int .i64 q2):=(hc _ _ (by omega)).trans b2
   clear hb hc hf a0 a1 a2 b0 b1 b2
   go_wp2
   go_ret2
   exact br_err HR.out HB2.out
  ·have HR:=Lib.hid (show R= .ok (decide (cmpN (p,q) (p2,q2)<0)) from by rw[hR,h1,h2];rfl)
   have HV:=Lib.hid (fun W=>(h1▸zBB W p q:Calls Tryz.prog 81 #[.agg #[.int .i64 p,.int .i64 q]] W (BoolPost W _)))
   have HV2:=Lib.hid (fun W=>(h2▸zBB W p2 q2:Calls Tryz.prog 81 #[.agg #[.int .i64 p2,.int .i64 q2]] W (BoolPost W _)))
   clear h1 h2 hR
   go_enter Tryz.func97,Tryz.ntmps97
   go_wp2_with fail
   refine(HV.out _).mono ?_
   rintro e w1 ⟨rfl,hb⟩
   obtain⟨hc,hf⟩:=bcell hb
   have hz:=hb.size
   simp at hz
   have HB1:=hbn (zAF _ _ _) hb
   have a0:w1.cell? ⟨w.heap.size,0,none⟩=some (.int .i64 2):=(hc _ _ (by simp<;>omega)).trans (by simp[go_sem])
   have a1:w1.cell? ⟨w.heap.size,1,none⟩=some (.int .i64 p):=(hc _ _ (by simp<;>omega)).trans (by simp[go_sem])
   have a2:w1.cell? ⟨w.heap.size,2,none⟩=some (.int .i64 q):=(hc _ _ (by simp<;>omega)).trans (by simp[go_sem])
   have b0:w1.cell? ⟨w.heap.size+1,0,none⟩=some (.int .i64 2):=(hc _ _ (by simp<;>omega)).trans (by simp[go_sem])
   have b1:w1.cell? ⟨w.heap.size+1,1,none⟩=some (.int .i64 p2):=(hc _ _ (by simp<;>omega)).trans (by simp[go_sem])
   have b2:w1.cell? ⟨w.heap.size+1,2,none⟩=some (.int .i64 q2):=(hc _ _ (by simp<;>omega)).trans (by simp[go_sem])
   clear hb hc hf
   go_wp2_with fail
   refine(HV2.out _).mono ?_
   rintro e w2 ⟨rfl,hb⟩
   obtain⟨hc,hf⟩:=bcell hb
   have hz2:=hb.size
   have HB2:=hbn HB1.out hb
   have ca0:w2.cell? ⟨w.heap.size,0,none⟩=some (.int .i64 2):=(hc _ _ (by omega)).trans a0
   have ca1:w2.cell? ⟨w.heap.size,1,none⟩=some (.int .i64 p):=(hc _ _ (by omega)).trans a1
   have ca2:w2.cell? ⟨w.heap.size,2,none⟩=some (.int .i64 q):=(hc _ _ (by omega)).trans a2
   have cb0:w2.cell? ⟨w.heap.size+1,0,none⟩=some (.int .i64 2):=(hc _ _ (by omega)).trans b0
   have cb1:w2.cell? ⟨w.heap.size+1,1,none⟩=some (.int .i64 p2):=(hc _ _ (by omega)).trans b1
   have cb2:w2.cell? ⟨w.heap.size+1,2,none⟩=some (.int .i64 q2):=(hc _ _ (by omega)).trans b2
   clear hb hc hf a0 a1 a2 b0 b1 b2
   go_wp2_with fail
   refine(scmp_c _ _ _ _ _).mono ?_
   rintro e w3 ⟨rfl,hb⟩
   have HB3:=hbn HB2.out hb
   clear hb
   go_wp2
   go_ret2
   exact br_ok HR.out HB3.out
theorem sLess_str (w:World) (p q:Int) (s:ByteArray) (r:Int) (p2 q2:Int) (s2:ByteArray) (r2:Int) (hs:s.size≤2000000000) (hs2:s2.size≤2000000000):Calls Tryz.prog 97 #[.agg #[.int .i64 3,p,q,s,r],.agg #[.int .i64 3,p2,q2,s2,r2]] w (BrPost w (.ok (beforeB s s2))):=by
 have HBF:=Lib.hid (fun W=>sBefore_c W s s2 hs hs2)
 go_enter Tryz.func97,Tryz.ntmps97
 go_wp2_with fail
 refine(HBF.out _).mono ?_
 rintro e w1 ⟨rfl,n,rfl⟩
 go_wp2
 go_ret2
 exact br_ok rfl (below_drewN (zAF _ _ _) _)
theorem sLess_other (w:World) (k:Int) (k2:Int) (p q:Int) (s:ByteArray) (r:Int) (p2 q2:Int) (s2:ByteArray) (r2:Int) (h:(((k==2)=true∧(k2==2)=false∧(k==3)=false)∨((k==2)=false∧(k==3)=true∧(k2==3)=false)∨((k==2)=false∧(k==3)=false))):Calls Tryz.prog 97 #[.agg #[k,p,q,s,r],.agg #[k2,p2,q2,s2,r2]] w (BrPost w (.error 8)):=by
 rcases h with⟨h,h2,h3⟩|⟨h,h2,h3⟩|⟨h,h2⟩
 all_goals
  go_enter Tryz.func97,Tryz.ntmps97
  go_wp2
  go_ret2
  exact br_err rfl (zAF _ _ _)
theorem sLess_c (w:World) (k:Int) (k2:Int) (p q:Int) (s:ByteArray) (r:Int) (p2 q2:Int) (s2:ByteArray) (r2:Int) (hs:s.size≤2000000000) (hs2:s2.size≤2000000000):Calls Tryz.prog 97 #[.agg #[k,p,q,s,r],.agg #[k2,p2,q2,s2,r2]] w (BrPost w (lessOf ⟨k,p,q,s,r⟩ ⟨k2,p2,q2,s2,r2⟩)):=by
 obtain⟨R,hR⟩:∃R,R=lessOf ⟨k,p,q,s,r⟩ ⟨k2,p2,q2,s2,r2⟩:=⟨_,rfl⟩
 rw[←hR]
 unfold lessOf at hR
 have hR:R=if k=2∧k2=2 then(if zAT (p,q)&&zAT (p2,q2) then .ok (decide (cmpN (p,q) (p2,q2)<0)) else .error 8) else if k=3∧k2=3 then .ok (beforeB s s2) else .error 8:=hR
 have tf:∀a b:Int,a≠b→(a==b)=false:=fun a b h=>by rw[beq_eq_false_iff_ne];exact h
 by_cases h2:k=2
 ·by_cases h22:k2=2
  ·subst h2 h22
   rw[if_pos ⟨rfl,rfl⟩] at hR
   rw[hR]
   exact sLess_num w p q s r p2 q2 s2 r2
  ·rw[if_neg (fun h=>h22 h.2),if_neg (fun h=>by omega)] at hR
   rw[hR]
   exact sLess_other w k k2 p q s r p2 q2 s2 r2 (.inl ⟨by rw[h2];rfl,tf _ _ h22,tf _ _ (by omega)⟩)
 ·rw[if_neg (fun h=>h2 h.1)] at hR
  by_cases h3:k=3
  ·by_cases h33:k2=3
   ·subst h3 h33
    rw[if_pos ⟨rfl,rfl⟩] at hR
    rw[hR]
    exact sLess_str w p q s r p2 q2 s2 r2 hs hs2
   ·rw[if_neg (fun h=>h33 h.2)] at hR
    rw[hR]
    exact sLess_other w k k2 p q s r p2 q2 s2 r2 (.inr (.inl ⟨tf _ _ h2,by rw[h3];rfl,tf _ _ h33⟩))
  ·rw[if_neg (fun h=>h3 h.1)] at hR
   rw[hR]
   exact sLess_other w k k2 p q s r p2 q2 s2 r2 (.inr (.inr ⟨tf _ _ h2,tf _ _ h3⟩))
theorem scompare16_w (w:World) (k1 p1 q1:Int) (s1:ByteArray) (r1:Int) (k2 p2 q2:Int) (s2:ByteArray) (r2:Int) (l:Bool) (c:Nat) (M:BR) (hl:∀W,Calls Tryz.prog 97 #[.agg #[k1,p1,q1,s1,r1],.agg #[k2,p2,q2,s2,r2]] W (fun e w'=>e= .returned (.tuple #[.bool l,.int .i64 (c:Int)])∧Below W.heap.size W w')) (hM:LessOut M l c) (R:VR)
  (hR:R=cmpFin false M):Calls Tryz.prog 49 #[.int .i64 16,.agg #[k1,p1,q1,s1,r1],.agg #[k2,p2,q2,s2,r2]] w (VrPost w R):=by
 have HL:=Lib.hid hl
 clear hl
 rcases hM with⟨e1,rfl⟩|⟨e1,rfl⟩
 all_goals
  have HR:=Lib.hid hR
  clear hR
  go_enter Tryz.func49,Tryz.ntmps49
  go_wp2_with fail
  refine(HL.out _).mono ?_
  rintro e w1 ⟨rfl,hb⟩
  have HB:=hkh hb (zAX _ _ _ _)
  have HW1:=hbn (zAL _ _ _ _) hb
  have hz:=hb.size
  simp at hz
  clear hb
 ·obtain⟨c0,c1,c2,c3,c4⟩:=cells5 HB.out
  obtain⟨fc0,fc1,fc2,fc3,fc4⟩:=froz5 HB.out
  go_wp2
  refine bodyPost_ret (by simp[results,Tryz.results49,go_sem,c0,c1,c2,c3,c4];first|done|rfl) rfl ?_
  exact zBM HR.out (zAH HW1.out (by omega) _ _ _ _ _)
 ·go_wp2_with fail
  refine(zBR _ _).mono ?_
  rintro e w2 ⟨rfl,hb⟩
  have HB2:=hkh hb HB.out
  have HW2:=hbn HW1.out hb
  clear hb
  obtain⟨c0,c1,c2,c3,c4⟩:=cells5 HB2.out
  obtain⟨fc0,fc1,fc2,fc3,fc4⟩:=froz5 HB2.out
  go_wp2
  refine bodyPost_ret (by simp[results,Tryz.results49,go_sem,c0,c1,c2,c3,c4];first|done|rfl) rfl ?_
  exact vr_ok (HR.out.trans (by cases l<;>rfl)) rfl (zAH HW2.out (by omega) _ _ _ _ _)
theorem scompare17_w (w:World) (k1 p1 q1:Int) (s1:ByteArray) (r1:Int) (k2 p2 q2:Int) (s2:ByteArray) (r2:Int) (l:Bool) (c:Nat) (M:BR) (hl:∀W,Calls Tryz.prog 97 #[.agg #[k2,p2,q2,s2,r2],.agg #[k1,p1,q1,s1,r1]] W (fun e w'=>e= .returned (.tuple #[.bool l,.int .i64 (c:Int)])∧Below W.heap.size W w')) (hM:LessOut M l c) (R:VR)
  (hR:R=cmpFin true M):Calls Tryz.prog 49 #[.int .i64 17,.agg #[k1,p1,q1,s1,r1],.agg #[k2,p2,q2,s2,r2]] w (VrPost w R):=by
 have HL:=Lib.hid hl
 clear hl
 rcases hM with⟨e1,rfl⟩|⟨e1,rfl⟩
 all_goals
  have HR:=Lib.hid hR
  clear hR
  go_enter Tryz.func49,Tryz.ntmps49
  go_wp2_with fail
  refine(HL.out _).mono ?_
  rintro e w1 ⟨rfl,hb⟩
  have HB:=hkh hb (zAX _ _ _ _)
  have HW1:=hbn (zAL _ _ _ _) hb
  have hz:=hb.size
  simp at hz
  clear hb
 ·obtain⟨c0,c1,c2,c3,c4⟩:=cells5 HB.out
  obtain⟨fc0,fc1,fc2,fc3,fc4⟩:=froz5 HB.out
  go_wp2
  refine bodyPost_ret (by simp[results,Tryz.results49,go_sem,c0,c1,c2,c3,c4];first|done|rfl) rfl ?_
  exact zBM HR.out (zAH HW1.out (by omega) _ _ _ _ _)
 ·go_wp2_with fail
  refine(zBR _ _).mono ?_
  rintro e w2 ⟨rfl,hb⟩
  have HB2:=hkh hb HB.out
  have HW2:=hbn HW1.out hb
  clear hb
  obtain⟨c0,c1,c2,c3,c4⟩:=cells5 HB2.out
  obtain⟨fc0,fc1,fc2,fc3,fc4⟩:=froz5 HB2.out
  go_wp2
  refine bodyPost_ret (by simp[results,Tryz.results49,go_sem,c0,c1,c2,c3,c4];first|done|rfl) rfl ?_
  exact vr_ok (HR.out.trans (by cases l<;>rfl)) rfl (zAH HW2.out (by omega) _ _ _ _ _)
theorem scompare18_w (w:World) (k1 p1 q1:Int) (s1:ByteArray) (r1:Int) (k2 p2 q2:Int) (s2:ByteArray) (r2:Int) (l:Bool) (c:Nat) (M:BR) (hl:∀W,Calls Tryz.prog 97 #[.agg #[k2,p2,q2,s2,r2],.agg #[k1,p1,q1,s1,r1]] W (fun e w'=>e= .returned (.tuple #[.bool l,.int .i64 (c:Int)])∧Below W.heap.size W w')) (hM:LessOut M l c) (R:VR)
  (hR:R=cmpFin false M):Calls Tryz.prog 49 #[.int .i64 18,.agg #[k1,p1,q1,s1,r1],.agg #[k2,p2,q2,s2,r2]] w (VrPost w R):=by
 have HL:=Lib.hid hl
 clear hl
 rcases hM with⟨e1,rfl⟩|⟨e1,rfl⟩
 all_goals
  have HR:=Lib.hid hR
  clear hR
  go_enter Tryz.func49,Tryz.ntmps49
  go_wp2_with fail
  refine(HL.out _).mono ?_
  rintro e w1 ⟨rfl,hb⟩
  have HB:=hkh hb (zAX _ _ _ _)
  have HW1:=hbn (zAL _ _ _ _) hb
  have hz:=hb.size
  simp at hz
  clear hb
 ·obtain⟨c0,c1,c2,c3,c4⟩:=cells5 HB.out
  obtain⟨fc0,fc1,fc2,fc3,fc4⟩:=froz5 HB.out
  go_wp2
  refine bodyPost_ret (by simp[results,Tryz.results49,go_sem,c0,c1,c2,c3,c4];first|done|rfl) rfl ?_
  exact zBM HR.out (zAH HW1.out (by omega) _ _ _ _ _)
 ·go_wp2_with fail
  refine(zBR _ _).mono ?_
  rintro e w2 ⟨rfl,hb⟩
  have HB2:=hkh hb HB.out
  have HW2:=hbn HW1.out hb
  clear hb
  obtain⟨c0,c1,c2,c3,c4⟩:=cells5 HB2.out
  obtain⟨fc0,fc1,fc2,fc3,fc4⟩:=froz5 HB2.out
  go_wp2
  refine bodyPost_ret (by simp[results,Tryz.results49,go_sem,c0,c1,c2,c3,c4];first|done|rfl) rfl ?_
  exact vr_ok (HR.out.trans (by cases l<;>rfl)) rfl (zAH HW2.out (by omega) _ _ _ _ _)
theorem scompare19_w (w:World) (k1 p1 q1:Int) (s1:ByteArray) (r1:Int) (k2 p2 q2:Int) (s2:ByteArray) (r2:Int) (l:Bool) (c:Nat) (M:BR) (hl:∀W,Calls Tryz.prog 97 #[.agg #[k1,p1,q1,s1,r1],.agg #[k2,p2,q2,s2,r2]] W (fun e w'=>e= .returned (.tuple #[.bool l,.int .i64 (c:Int)])∧Below W.heap.size W w')) (hM:LessOut M l c) (R:VR)
  (hR:R=cmpFin true M):Calls Tryz.prog 49 #[.int .i64 19,.agg #[k1,p1,q1,s1,r1],.agg #[k2,p2,q2,s2,r2]] w (VrPost w R):=by
 have HL:=Lib.hid hl
 clear hl
 rcases hM with⟨e1,rfl⟩|⟨e1,rfl⟩
 all_goals
  have HR:=Lib.hid hR
  clear hR
  go_enter Tryz.func49,Tryz.ntmps49
  go_wp2_with fail
  refine(HL.out _).mono ?_
  rintro e w1 ⟨rfl,hb⟩
  have HB:=hkh hb (zAX _ _ _ _)
  have HW1:=hbn (zAL _ _ _ _) hb
  have hz:=hb.size
  simp at hz
  clear hb
 ·obtain⟨c0,c1,c2,c3,c4⟩:=cells5 HB.out
  obtain⟨fc0,fc1,fc2,fc3,fc4⟩:=froz5 HB.out
  go_wp2
  refine bodyPost_ret (by simp[results,Tryz.results49,go_sem,c0,c1,c2,c3,c4];first|done|rfl) rfl ?_
  exact zBM HR.out (zAH HW1.out (by omega) _ _ _ _ _)
 ·go_wp2_with fail
  refine(zBR _ _).mono ?_
  rintro e w2 ⟨rfl,hb⟩
  have HB2:=hkh hb HB.out
  have HW2:=hbn HW1.out hb
  clear hb
  obtain⟨c0,c1,c2,c3,c4⟩:=cells5 HB2.out
  obtain⟨fc0,fc1,fc2,fc3,fc4⟩:=froz5 HB2.out
  go_wp2
  refine bodyPost_ret (by simp[results,Tryz.results49,go_sem,c0,c1,c2,c3,c4];first|done|rfl) rfl ?_
  exact vr_ok (HR.out.trans (by cases l<;>rfl)) rfl (zAH HW2.out (by omega) _ _ _ _ _)
theorem scompare_c (w:World) (o:Int) (k1 p1 q1:Int) (s1:ByteArray) (r1:Int) (k2 p2 q2:Int) (s2:ByteArray) (r2:Int) (h1:s1.size≤4096) (h2:s2.size≤4096) (ho:16≤o) (ho2:o≤19):
  Calls Tryz.prog 49 #[o,.agg #[k1,p1,q1,s1,r1],.agg #[k2,p2,q2,s2,r2]] w (VrPost w (compareV o ⟨k1,p1,q1,s1,r1⟩ ⟨k2,p2,q2,s2,r2⟩)):=by
 have hc:o=16∨o=17∨o=18∨o=19:=by omega
 rcases hc with rfl|rfl|rfl|rfl
 ·exact scompare16_w w k1 p1 q1 s1 r1 k2 p2 q2 s2 r2 _ _ _ (fun W=>sLess_c W k1 k2 p1 q1 s1 r1 p2 q2 s2 r2 (by omega) (by omega)) (less_out ⟨k1,p1,q1,s1,r1⟩ ⟨k2,p2,q2,s2,r2⟩) _ rfl
 ·exact scompare17_w w k1 p1 q1 s1 r1 k2 p2 q2 s2 r2 _ _ _ (fun W=>sLess_c W k2 k1 p2 q2 s2 r2 p1 q1 s1 r1 (by omega) (by omega)) (less_out ⟨k2,p2,q2,s2,r2⟩ ⟨k1,p1,q1,s1,r1⟩) _ rfl
 ·exact scompare18_w w k1 p1 q1 s1 r1 k2 p2 q2 s2 r2 _ _ _ (fun W=>sLess_c W k2 k1 p2 q2 s2 r2 p1 q1 s1 r1 (by omega) (by omega)) (less_out ⟨k2,p2,q2,s2,r2⟩ ⟨k1,p1,q1,s1,r1⟩) _ rfl
 ·exact scompare19_w w k1 p1 q1 s1 r1 k2 p2 q2 s2 r2 _ _ _ (fun W=>sLess_c W k1 k2 p1 q1 s1 r1 p2 q2 s2 r2 (by omega) (by omega)) (less_out ⟨k1,p1,q1,s1,r1⟩ ⟨k2,p2,q2,s2,r2⟩) _ rfl
end Go.Proofs.YthkpckgcgkijbaaGreatDoor
