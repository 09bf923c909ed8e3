import Derived.Test.YthkpckgcgkijbaaGreatDoorOpCw
import Derived.Test.YthkpckgcgkijbaaGreatDoorNumA
import Derived.Test.YthkpckgcgkijbaaGreatDoorBitA
set_option linter.unusedVariables false
set_option linter.unusedSimpArgs false
set_option maxRecDepth 100000
set_option maxHeartbeats 2000000
namespace Go.Proofs.YthkpckgcgkijbaaGreatDoor
open Go.RowKit Go.Proofs.Lexi
theorem pitoa_c (w:World) (htab:Pow10 w) (n:Int) (h1: -9223372036854775807≤n) (h2:n≤9223372036854775807) (W:World) (hW:Below w.heap.size w W):
  Calls Tryz.prog 211 #[.int .i64 n] W (fun e w'=>e= .returned (.string (itoaB n))∧Below W.heap.size W w'):=by
 refine(Tryz.strconv_Itoa n (by omega) h2 W (htab.stays hW)).mono ?_
 rintro e w' ⟨rfl,k,os,rfl⟩
 exact⟨rfl,below_growN _ _ _⟩
theorem ptext_c (w:World) (p q:Int) (htab:Pow10 w):Calls Tryz.prog 154 #[.agg #[.int .i64 p,.int .i64 q]] w (StrB w (textB (p,q))):=by
 have HB:=Lib.hid (zAe w (o2 p q))
 obtain⟨R,hR⟩:∃R,R=textB (p,q):=⟨_,rfl⟩
 rw[←hR]
 have HV:=Lib.hid (fun W=>zBA W p q)
 obtain⟨V,hV⟩:∃V,zAT (p,q)=V:=⟨_,rfl⟩
 rw[hV] at HV
 cases V with
 |false=>
  have HR:=Lib.hid (show R=⟨#[110,97,110]⟩ from by rw[hR];unfold textB;rw[hV];rfl)
  clear hR hV
  go_enter Tryz.func154,Tryz.ntmps154
  go_wp2_with fail
  refine(HV.out _).mono ?_
  rintro e w1 ⟨rfl,hb⟩
  have HB1:=hbn HB.out hb
  clear hb
  go_wp2
  go_ret
  exact str_done HR.out HB1.out
 |true=>
  obtain⟨b1,b2,b3,b4⟩:=zAN hV
  have HDP:=Lib.hid (fun W hW=>pitoa_c w htab p (by omega) (by omega) W hW)
  have HDQ:=Lib.hid (fun W hW=>pitoa_c w htab q (by omega) (by omega) W hW)
  have hzp:=itoaB_size (n:=p) b3 b4
  have hzq:=itoaB_size (n:=q) (by omega) b2
  by_cases h1:q=1
  ·have HR:=Lib.hid (show R=itoaB p from by rw[hR];unfold textB;rw[hV,if_pos rfl,if_pos h1])
   have hq1:(q==1)=true:=by rw[beq_iff_eq];exact h1
   clear hR hV h1
   go_enter Tryz.func154,Tryz.ntmps154
   go_wp2_with fail
   refine(HV.out _).mono ?_
   rintro e w1 ⟨rfl,hb⟩
   obtain⟨hc,hf⟩:=bcell hb
   have c0:w1.cell? ⟨w.heap.size,0,none⟩=some (.int .i64 p):=(hc _ _ (by simp)).trans (by simp[go_sem])
   have c1:w1.cell? ⟨w.heap.size,1,none⟩=some (.int .i64 q):=(hc _ _ (by simp)).trans (by simp[go_sem])
   have HB1:=hbn HB.out hb
   clear hb hc hf
   go_wp2_with fail
   refine(HDP.out _ HB1.out).mono ?_
   rintro e w2 ⟨rfl,hb⟩
   have HB2:=hbn HB1.out hb
   clear hb
   go_wp2
   go_ret
   exact str_done HR.out HB2.out
  ·have HR:=Lib.hid (show R=itoaB p++slashB++itoaB q from by rw[hR];unfold textB;rw[hV,if_pos rfl,if_neg h1])
   have hq1:(q==1)=false:=by rw[beq_eq_false_iff_ne];exact h1
   have hss:slashB.size=1:=rfl
   have had1:=add_run (itoaB p) slashB (by omega)
   have had2:=add_run (itoaB p++slashB) (itoaB q) (by rw[ByteArray.size_append];omega)
   obtain⟨A,hA⟩:∃A,itoaB p=A:=⟨_,rfl⟩
   obtain⟨B,hB⟩:∃B,itoaB q=B:=⟨_,rfl⟩
   rw[hA] at HDP
   rw[hB] at HDQ
   rw[hA] at had1 had2 HR hzp
   rw[hB] at had2 HR hzq
   obtain⟨X,hX⟩:∃X,A++slashB=X:=⟨_,rfl⟩
   obtain⟨Y,hY⟩:∃Y,X++B=Y:=⟨_,rfl⟩
   rw[hX] at had1 had2 HR
   rw[hY] at had2 HR
   have had1:∀W,(Op.stringOp .add A ⟨#[47]⟩).run Tryz.prog W= .ok (.string X) W:=had1
   clear hR hV h1 hA hB hX hY hss
   go_enter Tryz.func154,Tryz.ntmps154
   go_wp2_with fail
   refine(HV.out _).mono ?_
   rintro e w1 ⟨rfl,hb⟩
   obtain⟨hc,hf⟩:=bcell hb
   have c0:w1.cell? ⟨w.heap.size,0,none⟩=some (.int .i64 p):=(hc _ _ (by simp)).trans (by simp[go_sem])
   have c1:w1.cell? ⟨w.heap.size,1,none⟩=some (.int .i64 q):=(hc _ _ (by simp)).trans (by simp[go_sem])
   have HB1:=hbn HB.out hb
   have SOF:=Lib.hid (fun(W:World) (h:Below w1.heap.size w1 W)=>(⟨keepCell h c0,keepCell h c1⟩:W.cell? ⟨w.heap.size,0,none⟩=some (.int .i64 p)∧W.cell? ⟨w.heap.size,1,none⟩=some (.int .i64 q)))
   have D0:=Lib.hid (show Below w1.heap.size w1 w1.drew from(Below.refl _ _).drew)
   have NXT:=Lib.hid (fun(V W:World) (h1:Below w1.heap.size w1 V) (h2:Below V.heap.size V W)=>h1.trans (h2.mono h1.size))
   have LAST:=Lib.hid (fun(W:World) (h:Below w1.heap.size w1 W)=>zAC HB1.out h)
   clear hb hc hf
   go_wp2
   go_region_held3 (fun W=>W.cell? ⟨w.heap.size,0,none⟩=some (.int .i64 p)∧W.cell? ⟨w.heap.size,1,none⟩=some (.int .i64 q)) (first|exact SOF.out _ (by assumption)|exact SOF.out _ D0.out) (first|((go_at_call 211;(with_reducible refine(HDP.out _ (LAST.out _ (by first|assumption|exact D0.out))).mono ?_);rintro e W ⟨rfl,hbn⟩;have hW:=NXT.out _ _ (by first|assumption|exact D0.out) hbn;clear hbn))|((go_at_call 211;(with_reducible refine(HDQ.out _ (LAST.out _ (by first|assumption|exact D0.out))).mono ?_);rintro e W ⟨rfl,hbn⟩;have hW:=NXT.out _ _ (by first|assumption|exact D0.out) hbn;clear hbn)))
   go_wp2
   go_ret
   exact str_done HR.out (LAST.out _ (by assumption))
theorem zBn (w:World) (b:Bool):Calls Tryz.prog 41 #[.bool b] w (ValPost w (boolV b)):=by
 cases b
 all_goals
  go_enter Tryz.func41,Tryz.ntmps41
  go_wp2
  refine bodyPost_ret (by simp[results,Tryz.results41,go_sem];first|done|rfl) rfl ?_
  exact zAo rfl (zAe _ _)
theorem pOfString_c (w:World) (s:ByteArray):Calls Tryz.prog 93 #[.string s] w (ValPost w (strV s)):=by
 go_enter Tryz.func93,Tryz.ntmps93
 go_wp2
 refine bodyPost_ret (by simp[results,Tryz.results93,go_sem];first|done|rfl) rfl ?_
 exact zAo rfl (zAe _ _)
theorem pOfInt_c (w:World) (n:Int):Calls Tryz.prog 44 #[.int .i64 n] w (ValPost w (intV n)):=by
 have hw:n< -2147483647∨(¬n< -2147483647∧2147483647<n)∨(¬n< -2147483647∧¬2147483647<n):=by omega
 rcases hw with h|⟨h,h2⟩|⟨h,h2⟩
 ·have HR:=Lib.hid (show intV n=V.nil from by unfold intV;rw[if_neg];rw[inTop_iff];omega)
  go_enter Tryz.func44,Tryz.ntmps44
  go_wp2
  refine bodyPost_ret (by simp[results,Tryz.results44,go_sem];first|done|rfl) rfl ?_
  exact zAo HR.out (zAe _ _)
 ·have HR:=Lib.hid (show intV n=V.nil from by unfold intV;rw[if_neg];rw[inTop_iff];omega)
  go_enter Tryz.func44,Tryz.ntmps44
  go_wp2
  refine bodyPost_ret (by simp[results,Tryz.results44,go_sem];first|done|rfl) rfl ?_
  exact zAo HR.out (zAe _ _)
 ·have HR:=Lib.hid (show intV n=⟨2,n,1,⟨#[]⟩,0⟩ from by unfold intV;rw[if_pos];rw[inTop_iff];omega)
  go_enter Tryz.func44,Tryz.ntmps44
  go_wp2
  refine bodyPost_ret (by simp[results,Tryz.results44,go_sem];first|done|rfl) rfl ?_
  exact zAo HR.out (zAe _ _)
theorem pTrue_c (w:World) (k p q:Int) (s:ByteArray) (r:Int):Calls Tryz.prog 43 #[.agg #[k,p,q,s,r]] w (BoolPost w (trueV ⟨k,p,q,s,r⟩)):=by
 obtain⟨R,hR⟩:∃R,R=trueV ⟨k,p,q,s,r⟩:=⟨_,rfl⟩
 rw[←hR]
 have HR:=Lib.hid hR
 clear hR
 go_enter Tryz.func43,Tryz.ntmps43
 go_wp2
 all_goals
  go_ret
  have h:=HR.out
  clear HR
  refine zBD ?_ (by first|exact zAe _ _|exact(zAe _ _).drew|exact below_drewN (zAe _ _) _)
  subst h
  simp_all[trueV,bne]
theorem pOfNum_c (w:World) (p q:Int):Calls Tryz.prog 91 #[.agg #[.int .i64 p,.int .i64 q]] w (ValPost w (numVal (p,q))):=by
 cases hv:zAT (p,q)
 all_goals
  have HV:=Lib.hid (fun W=>(hv▸zBA W p q:Calls Tryz.prog 88 #[.agg #[.int .i64 p,.int .i64 q]] W (BoolPost W _)))
  have HW:=Lib.hid hv
  clear hv
  go_enter Tryz.func91,Tryz.ntmps91
  go_wp2_with fail
  refine(HV.out _).mono ?_
  rintro e w1 ⟨rfl,hb⟩
  obtain⟨hc,hf⟩:=bcell hb
  have hz:=hb.size
  simp at hz
  have c0:w1.cell? ⟨w.heap.size,0,none⟩=some (.int .i64 p):=(hc _ _ (by simp<;>omega)).trans (by simp[go_sem])
  have c1:w1.cell? ⟨w.heap.size,1,none⟩=some (.int .i64 q):=(hc _ _ (by simp<;>omega)).trans (by simp[go_sem])
  have HB1:=hbn (zAF _ _ _) hb
  go_wp2
  refine bodyPost_ret (by simp[results,Tryz.results91,go_sem,hc];first|done|rfl) rfl ?_
  refine zAo (show numVal (p,q)=_ from ?_) ?_
  ·unfold numVal;rw[HW.out];rfl
  ·first|exact HB1.out|exact zAH HB1.out (by simp<;>omega) _ _ _ _ _
theorem pSame_c (w:World) (a b:V):Calls Tryz.prog 42 #[a.v,b.v] w (BoolPost w (eqV a b)):=by
 obtain⟨k,p,q,s,r⟩:=a
 obtain⟨k2,p2,q2,s2,r2⟩:=b
 obtain⟨R,hR⟩:∃R,R=eqV ⟨k,p,q,s,r⟩ ⟨k2,p2,q2,s2,r2⟩:=⟨_,rfl⟩
 rw[←hR]
 have HR:=Lib.hid hR
 clear hR
 go_enter Tryz.func42,Tryz.ntmps42
 go_wp2
 all_goals
  go_ret
  have h:=HR.out
  clear HR
  refine zBD ?_ (zAF _ _ _)
  subst h
  simp_all[eqV,toList_bytes]
theorem pStr_c (w:World) (k p q:Int) (s:ByteArray) (r:Int) (htab:Pow10 w):Calls Tryz.prog 92 #[.agg #[k,p,q,s,r]] w (SrPost w (strOf ⟨k,p,q,s,r⟩)):=by
 have HTAB:=Lib.hid htab
 clear htab
 by_cases h3:k=3
 ·subst h3
  go_enter Tryz.func92,Tryz.ntmps92
  go_wp2
  go_ret2
  exact sr_ok rfl (zAe _ _)
 ·have k3:(k==3)=false:=by rw[beq_eq_false_iff_ne];exact h3
  by_cases h2:k=2
  ·subst h2
   cases hv:zAT (p,q)
   ·have HV:=Lib.hid (fun W=>(hv▸zBA W p q:Calls Tryz.prog 88 #[.agg #[.int .i64 p,.int .i64 q]] W (BoolPost W _)))
    have HR:=Lib.hid (show strOf ⟨2,p,q,s,r⟩= .error 8 from by show(if zAT (p,q) then _ else _)=_;rw[hv];rfl)
    clear hv h3 k3
    go_enter Tryz.func92,Tryz.ntmps92
    go_wp2_with fail
    refine(HV.out _).mono ?_
    rintro e w1 ⟨rfl,hb⟩
    have HB1:=hbn (zAe _ _) hb
    go_wp2
    go_ret2
    exact sr_err HR.out HB1.out
   ·have HV:=Lib.hid (fun W=>(hv▸zBA W p q:Calls Tryz.prog 88 #[.agg #[.int .i64 p,.int .i64 q]] W (BoolPost W _)))
    have HR:=Lib.hid (show strOf ⟨2,p,q,s,r⟩= .ok (textB (p,q)) from by show(if zAT (p,q) then _ else _)=_;rw[hv];rfl)
    clear hv h3 k3
    go_enter Tryz.func92,Tryz.ntmps92
    go_wp2_with fail
    refine(HV.out _).mono ?_
    rintro e w1 ⟨rfl,hb⟩
    obtain⟨hc,hf⟩:=bcell hb
    have HB1:=hbn (zAe _ _) hb
    go_wp2_with fail
    refine(ptext_c w1 p q (HTAB.out.stays HB1.out)).mono ?_
    rintro e w2 ⟨rfl,hb2⟩
    have HB2:=hbn HB1.out hb2
    clear hc hf hb hb2
    go_wp2
    go_ret2
    exact sr_ok HR.out HB2.out
  ·have k2:(k==2)=false:=by rw[beq_eq_false_iff_ne];exact h2
   have HR:=Lib.hid (show strOf ⟨k,p,q,s,r⟩= .error 8 from by unfold strOf;rw[if_neg h3,if_neg h2])
   clear h2 h3
   go_enter Tryz.func92,Tryz.ntmps92
   go_wp2
   go_ret2
   exact sr_err HR.out (zAe _ _)
theorem pLess_num (w:World) (p q:Int) (s:ByteArray) (r:Int) (p2 q2:Int) (s2:ByteArray) (r2:Int):Calls Tryz.prog 94 #[.agg #[.int .i64 2,p,q,s,r],.agg #[.int .i64 2,p2,q2,s2,r2]] w (BrPost w (if zAT (p,q)&&zAT (p2,q2) then .ok (decide (cmpN (p,q) (p2,q2)<0)) else .error 8)):=by
 obtain⟨R,hR⟩:∃R:BR,R=if zAT (p,q)&&zAT (p2,q2) then .ok (decide (cmpN (p,q) (p2,q2)<0)) else .error 8:=⟨_,rfl⟩
 rw[←hR]
 cases h1:zAT (p,q)
 ·have HR:=Lib.hid (show R= .error 8 from by rw[hR,h1];rfl)
  have HV:=Lib.hid (fun W=>(h1▸zBA W p q:Calls Tryz.prog 88 #[.agg #[.int .i64 p,.int .i64 q]] W (BoolPost W _)))
  clear h1 hR
  go_enter Tryz.func94,Tryz.ntmps94
  go_wp2_with fail
  refine(HV.out _).mono ?_
  rintro e w1 ⟨rfl,hb⟩
  obtain⟨hc,hf⟩:=bcell hb
  have hz:=hb.size
  simp at hz
  have HB1:=hbn (zAF _ _ _) hb
  have a0:w1.cell? ⟨w.heap.size,0,none⟩=some (.int .i64 2):=(hc _ _ (by simp<;>omega)).trans (by simp[go_sem])
  have a1:w1.cell? ⟨w.heap.size,1,none⟩=some (.int .i64 p):=(hc _ _ (by simp<;>omega)).trans (by simp[go_sem])
  have a2:w1.cell? ⟨w.heap.size,2,none⟩=some (.int .i64 q):=(hc _ _ (by simp<;>omega)).trans (by simp[go_sem])
  have b0:w1.cell? ⟨w.heap.size+1,0,none⟩=some (.int .i64 2):=(hc _ _ (by simp<;>omega)).trans (by simp[go_sem])
  have b1:w1.cell? ⟨w.heap.size+1,1,none⟩=some (.int .i64 p2):=(hc _ _ (by simp<;>omega)).trans (by simp[go_sem])
  have b2:w1.cell? ⟨w.heap.size+1,2,none⟩=some (.int .i64 q2):=(hc _ _ (by simp<;>omega)).trans (by simp[go_sem])
  clear hb hc hf
  go_wp2
  go_ret2
  exact br_err HR.out HB1.out
 ·cases h2:zAT (p2,q2)
  ·have HR:=Lib.hid (show R= .error 8 from by rw[hR,h1,h2];rfl)
   have HV:=Lib.hid (fun W=>(h1▸zBA W p q:Calls Tryz.prog 88 #[.agg #[.int .i64 p,.int .i64 q]] W (BoolPost W _)))
   have HV2:=Lib.hid (fun W=>(h2▸zBA W p2 q2:Calls Tryz.prog 88 #[.agg #[.int .i64 p2,.int .i64 q2]] W (BoolPost W _)))
   clear h1 h2 hR
   go_enter Tryz.func94,Tryz.ntmps94
   go_wp2_with fail
   refine(HV.out _).mono ?_
   rintro e w1 ⟨rfl,hb⟩
   obtain⟨hc,hf⟩:=bcell hb
   have hz:=hb.size
   simp at hz
   have HB1:=hbn (zAF _ _ _) hb
   have a0:w1.cell? ⟨w.heap.size,0,none⟩=some (.int .i64 2):=(hc _ _ (by simp<;>omega)).trans (by simp[go_sem])
   have a1:w1.cell? ⟨w.heap.size,1,none⟩=some (.int .i64 p):=(hc _ _ (by simp<;>omega)).trans (by simp[go_sem])
   have a2:w1.cell? ⟨w.heap.size,2,none⟩=some (.int .i64 q):=(hc _ _ (by simp<;>omega)).trans (by simp[go_sem])
   have b0:w1.cell? ⟨w.heap.size+1,0,none⟩=some (.int .i64 2):=(hc _ _ (by simp<;>omega)).trans (by simp[go_sem])
   have b1:w1.cell? ⟨w.heap.size+1,1,none⟩=some (.int .i64 p2):=(hc _ _ (by simp<;>omega)).trans (by simp[go_sem])
   have b2:w1.cell? ⟨w.heap.size+1,2,none⟩=some (.int .i64 q2):=(hc _ _ (by simp<;>omega)).trans (by simp[go_sem])
   clear hb hc hf
   go_wp2_with fail
   refine(HV2.out _).mono ?_
   rintro e w2 ⟨rfl,hb⟩
   obtain⟨hc,hf⟩:=bcell hb
   have hz2:=hb.size
   have HB2:=hbn HB1.out hb
   have ca0:w2.cell? ⟨w.heap.size,0,none⟩=some (.int .i64 2):=(hc _ _ (by omega)).trans a0
   have ca1:w2.cell? ⟨w.heap.size,1,none⟩=some (.int .i64 p):=(hc _ _ (by omega)).trans a1
   have ca2:w2.cell? ⟨w.heap.size,2,none⟩=some (.int .i64 q):=(hc _ _ (by omega)).trans a2
   have cb0:w2.cell? ⟨w.heap.size+1,0,none⟩=some (.int .i64 2):=(hc _ _ (by omega)).trans b0
   have cb1:w2.cell? ⟨w.heap.size+1,1,none⟩=some (.int .i64 p2):=(hc _ _ (by omega)).trans b1
   have cb2:w2.cell? ⟨w.heap.size+1,2,none⟩=some (.int .i64 q2):=(hc _ _ (by omega)).trans b2
   clear hb hc hf a0 a1 a2 b0 b1 b2
   go_wp2
   go_ret2
   exact br_err HR.out HB2.out
  ·have HR:=Lib.hid (show R= .ok (decide (cmpN (p,q) (p2,q2)<0)) from by rw[hR,h1,h2];rfl)
   have HV:=Lib.hid (fun W=>(h1▸zBA W p q:Calls Tryz.prog 88 #[.agg #[.int .i64 p,.int .i64 q]] W (BoolPost W _)))
   have HV2:=Lib.hid (fun W=>(h2▸zBA W p2 q2:Calls Tryz.prog 88 #[.agg #[.int .i64 p2,.int .i64 q2]] W (BoolPost W _)))
   clear h1 h2 hR
   go_enter Tryz.func94,Tryz.ntmps94
   go_wp2_with fail
   refine(HV.out _).mono ?_
   rintro e w1 ⟨rfl,hb⟩
   obtain⟨hc,hf⟩:=bcell hb
   have hz:=hb.size
   simp at hz
   have HB1:=hbn (zAF _ _ _) hb
   have a0:w1.cell? ⟨w.heap.size,0,none⟩=some (.int .i64 2):=(hc _ _ (by simp<;>omega)).trans (by simp[go_sem])
   have a1:w1.cell? ⟨w.heap.size,1,none⟩=some (.int .i64 p):=(hc _ _ (by simp<;>omega)).trans (by simp[go_sem])
   have a2:w1.cell? ⟨w.heap.size,2,none⟩=some (.int .i64 q):=(hc _ _ (by simp<;>omega)).trans (by simp[go_sem])
   have b0:w1.cell? ⟨w.heap.size+1,0,none⟩=some (.int .i64 2):=(hc _ _ (by simp<;>omega)).trans (by simp[go_sem])
   have b1:w1.cell? ⟨w.heap.size+1,1,none⟩=some (.int .i64 p2):=(hc _ _ (by simp<;>omega)).trans (by simp[go_sem])
   have b2:w1.cell? ⟨w.heap.size+1,2,none⟩=some (.int .i64 q2):=(hc _ _ (by simp<;>omega)).trans (by simp[go_sem])
   clear hb hc hf
   go_wp2_with fail
   refine(HV2.out _).mono ?_
   rintro e w2 ⟨rfl,hb⟩
   obtain⟨hc,hf⟩:=bcell hb
   have hz2:=hb.size
   have HB2:=hbn HB1.out hb
   have ca0:w2.cell? ⟨w.heap.size,0,none⟩=some (.int .i64 2):=(hc _ _ (by omega)).trans a0
   have ca1:w2.cell? ⟨w.heap.size,1,none⟩=some (.int .i64 p):=(hc _ _ (by omega)).trans a1
   have ca2:w2.cell? ⟨w.heap.size,2,none⟩=some (.int .i64 q):=(hc _ _ (by omega)).trans a2
   have cb0:w2.cell? ⟨w.heap.size+1,0,none⟩=some (.int .i64 2):=(hc _ _ (by omega)).trans b0
   have cb1:w2.cell? ⟨w.heap.size+1,1,none⟩=some (.int .i64 p2):=(hc _ _ (by omega)).trans b1
   have cb2:w2.cell? ⟨w.heap.size+1,2,none⟩=some (.int .i64 q2):=(hc _ _ (by omega)).trans b2
   clear hb hc hf a0 a1 a2 b0 b1 b2
   go_wp2_with fail
   refine(rcmp_c _ _ _ _ _).mono ?_
   rintro e w3 ⟨rfl,hb⟩
   have HB3:=hbn HB2.out hb
   clear hb
   go_wp2
   go_ret2
   exact br_ok HR.out HB3.out
theorem pLess_str (w:World) (p q:Int) (s:ByteArray) (r:Int) (p2 q2:Int) (s2:ByteArray) (r2:Int) (hs:s.size≤2000000000) (hs2:s2.size≤2000000000):Calls Tryz.prog 94 #[.agg #[.int .i64 3,p,q,s,r],.agg #[.int .i64 3,p2,q2,s2,r2]] w (BrPost w (.ok (beforeB s s2))):=by
 go_enter Tryz.func94,Tryz.ntmps94
 go_wp2
 go_ret2
 exact br_ok (congrArg _ (before_less s s2)) (zAF _ _ _)
theorem pLess_other (w:World) (k:Int) (k2:Int) (p q:Int) (s:ByteArray) (r:Int) (p2 q2:Int) (s2:ByteArray) (r2:Int) (h:(((k==2)=true∧(k2==2)=false∧(k==3)=false)∨((k==2)=false∧(k==3)=true∧(k2==3)=false)∨((k==2)=false∧(k==3)=false))):Calls Tryz.prog 94 #[.agg #[k,p,q,s,r],.agg #[k2,p2,q2,s2,r2]] w (BrPost w (.error 8)):=by
 rcases h with⟨h,h2,h3⟩|⟨h,h2,h3⟩|⟨h,h2⟩
 all_goals
  go_enter Tryz.func94,Tryz.ntmps94
  go_wp2
  go_ret2
  exact br_err rfl (zAF _ _ _)
theorem pLess_c (w:World) (k:Int) (k2:Int) (p q:Int) (s:ByteArray) (r:Int) (p2 q2:Int) (s2:ByteArray) (r2:Int) (hs:s.size≤2000000000) (hs2:s2.size≤2000000000):Calls Tryz.prog 94 #[.agg #[k,p,q,s,r],.agg #[k2,p2,q2,s2,r2]] w (BrPost w (lessOf ⟨k,p,q,s,r⟩ ⟨k2,p2,q2,s2,r2⟩)):=by
 obtain⟨R,hR⟩:∃R,R=lessOf ⟨k,p,q,s,r⟩ ⟨k2,p2,q2,s2,r2⟩:=⟨_,rfl⟩
 rw[←hR]
 unfold lessOf at hR
 have hR:R=if k=2∧k2=2 then(if zAT (p,q)&&zAT (p2,q2) then .ok (decide (cmpN (p,q) (p2,q2)<0)) else .error 8) else if k=3∧k2=3 then .ok (beforeB s s2) else .error 8:=hR
 have tf:∀a b:Int,a≠b→(a==b)=false:=fun a b h=>by rw[beq_eq_false_iff_ne];exact h
 by_cases h2:k=2
 ·by_cases h22:k2=2
  ·subst h2 h22
   rw[if_pos ⟨rfl,rfl⟩] at hR
   rw[hR]
   exact pLess_num w p q s r p2 q2 s2 r2
  ·rw[if_neg (fun h=>h22 h.2),if_neg (fun h=>by omega)] at hR
   rw[hR]
   exact pLess_other w k k2 p q s r p2 q2 s2 r2 (.inl ⟨by rw[h2];rfl,tf _ _ h22,tf _ _ (by omega)⟩)
 ·rw[if_neg (fun h=>h2 h.1)] at hR
  by_cases h3:k=3
  ·by_cases h33:k2=3
   ·subst h3 h33
    rw[if_pos ⟨rfl,rfl⟩] at hR
    rw[hR]
    exact pLess_str w p q s r p2 q2 s2 r2 hs hs2
   ·rw[if_neg (fun h=>h33 h.2)] at hR
    rw[hR]
    exact pLess_other w k k2 p q s r p2 q2 s2 r2 (.inr (.inl ⟨tf _ _ h2,by rw[h3];rfl,tf _ _ h33⟩))
  ·rw[if_neg (fun h=>h3 h.1)] at hR
   rw[hR]
   exact pLess_other w k k2 p q s r p2 q2 s2 r2 (.inr (.inr ⟨tf _ _ h2,tf _ _ h3⟩))
theorem pconcat_w (w:World) (k1 p1 q1:Int) (s1:ByteArray) (r1:Int) (k2 p2 q2:Int) (s2:ByteArray) (r2:Int) (x1 x2 X:ByteArray) (c1 c2:Int) (R:VR) (h1:∀W,Below w.heap.size w W→Calls Tryz.prog 92 #[.agg #[k1,p1,q1,s1,r1]] W (fun e w'=>e= .returned (.tuple #[.string x1,.int .i64 c1])∧Below W.heap.size W w')) (h2:∀W,Below w.heap.size w W→Calls Tryz.prog 92 #[.agg #[k2,p2,q2,s2,r2]] W (fun e w'=>e= .returned (.tuple #[.string x2,.int .i64 c2])∧Below W.heap.size W w'))
  (had:∀W,(Op.stringOp .add x1 x2).run Tryz.prog W= .ok (.string X) W) (hx1:x1.size≤2000000000) (hx2:x2.size≤2000000000)
  (hways:((c1 !=0)=true∧R= .error 8)∨((c1 !=0)=false∧(c2 !=0)=true∧R= .error 8)∨((c1 !=0)=false∧(c2 !=0)=false∧4096<x1.size+x2.size∧R= .error 14)∨((c1 !=0)=false∧(c2 !=0)=false∧¬4096<x1.size+x2.size∧R= .ok (strV X))):
  Calls Tryz.prog 40 #[.agg #[k1,p1,q1,s1,r1],.agg #[k2,p2,q2,s2,r2]] w (VrPost w R):=by
 have H1:=Lib.hid h1
 have H2:=Lib.hid h2
 clear h1 h2
 rcases hways with⟨e1,hR⟩|⟨e1,e2,hR⟩|⟨e1,e2,e3,hR⟩|⟨e1,e2,e3,hR⟩
 all_goals
  have HR:=Lib.hid hR
  clear hR
  go_enter Tryz.func40,Tryz.ntmps40
  go_wp2_with fail
  refine(H1.out _ (zAL _ _ _ _)).mono ?_
  rintro e w1 ⟨rfl,hb⟩
  have HA:=hkh hb (zAY _ _ _ _)
  have HB:=hkh hb (zAX _ _ _ _)
  have HW1:=hbn (zAL _ _ _ _) hb
  have hz:=hb.size
  simp at hz
  clear hb
  obtain⟨b0,b1,b2,b3,b4⟩:=cells5 HA.out
  go_wp2_with fail
  refine(H2.out _ HW1.out).mono ?_
  rintro e w2 ⟨rfl,hb⟩
  have HB2:=hkh hb HB.out
  have HW2:=hbn HW1.out hb
  have hz2:=hb.size
  clear hb b0 b1 b2 b3 b4
 ·obtain⟨c0,c1,c2,c3,c4⟩:=cells5 HB2.out
  obtain⟨fc0,fc1,fc2,fc3,fc4⟩:=froz5 HB2.out
  go_wp2
  refine bodyPost_ret (by simp[results,Tryz.results40,go_sem,c0,c1,c2,c3,c4];first|done|rfl) rfl ?_
  exact zBM HR.out (zAH HW2.out (by omega) _ _ _ _ _)
 ·obtain⟨c0,c1,c2,c3,c4⟩:=cells5 HB2.out
  obtain⟨fc0,fc1,fc2,fc3,fc4⟩:=froz5 HB2.out
  go_wp2
  refine bodyPost_ret (by simp[results,Tryz.results40,go_sem,c0,c1,c2,c3,c4];first|done|rfl) rfl ?_
  exact zBM HR.out (zAH HW2.out (by omega) _ _ _ _ _)
 ·obtain⟨c0,c1,c2,c3,c4⟩:=cells5 HB2.out
  obtain⟨fc0,fc1,fc2,fc3,fc4⟩:=froz5 HB2.out
  go_wp2
  refine bodyPost_ret (by simp[results,Tryz.results40,go_sem,c0,c1,c2,c3,c4];first|done|rfl) rfl ?_
  exact zBM HR.out (zAH HW2.out (by omega) _ _ _ _ _)
 ·obtain⟨c0,c1,c2,c3,c4⟩:=cells5 HB2.out
  obtain⟨fc0,fc1,fc2,fc3,fc4⟩:=froz5 HB2.out
  go_wp2_with fail
  refine(pOfString_c _ _).mono ?_
  rintro e w3 ⟨rfl,hb⟩
  have HB3:=hkh hb HB2.out
  have HW3:=hbn HW2.out hb
  clear hb
  clear c0 c1 c2 c3 c4 fc0 fc1 fc2 fc3 fc4
  obtain⟨c0,c1,c2,c3,c4⟩:=cells5 HB3.out
  obtain⟨fc0,fc1,fc2,fc3,fc4⟩:=froz5 HB3.out
  go_wp2
  refine bodyPost_ret (by simp[results,Tryz.results40,go_sem,c0,c1,c2,c3,c4];first|done|rfl) rfl ?_
  exact vr_ok HR.out rfl (zAH HW3.out (by omega) _ _ _ _ _)
theorem pconcat_c (w:World) (htab:Pow10 w) (k1 p1 q1:Int) (s1:ByteArray) (r1:Int) (k2 p2 q2:Int) (s2:ByteArray) (r2:Int) (h1:s1.size≤4096) (h2:s2.size≤4096):
  Calls Tryz.prog 40 #[.agg #[k1,p1,q1,s1,r1],.agg #[k2,p2,q2,s2,r2]] w (VrPost w (concatV (strOf ⟨k1,p1,q1,s1,r1⟩) (strOf ⟨k2,p2,q2,s2,r2⟩))):=by
 have e1:=strOf_err ⟨k1,p1,q1,s1,r1⟩
 have e2:=strOf_err ⟨k2,p2,q2,s2,r2⟩
 have z1:=strOf_size ⟨k1,p1,q1,s1,r1⟩ h1
 have z2:=strOf_size ⟨k2,p2,q2,s2,r2⟩ h2
 refine pconcat_w w k1 p1 q1 s1 r1 k2 p2 q2 s2 r2 _ _ _ _ _ _ (fun W hW=>pStr_c W k1 p1 q1 s1 r1 (htab.stays hW)) (fun W hW=>pStr_c W k2 p2 q2 s2 r2 (htab.stays hW)) (add_run _ _ (by omega)) (by omega) (by omega) ?_
 rcases concat_ways (strOf ⟨k1,p1,q1,s1,r1⟩) (strOf ⟨k2,p2,q2,s2,r2⟩) e1.2 with h|h|h|h|h|h
 ·exact .inl h
 ·exact .inr (.inl h)
 ·exact .inr (.inr (.inl h))
 ·exact .inr (.inr (.inr h))
 ·exact absurd h e1.1
 ·exact absurd h e2.1
theorem pcompare16_w (w:World) (k1 p1 q1:Int) (s1:ByteArray) (r1:Int) (k2 p2 q2:Int) (s2:ByteArray) (r2:Int) (l:Bool) (c:Nat) (M:BR) (hl:∀W,Calls Tryz.prog 94 #[.agg #[k1,p1,q1,s1,r1],.agg #[k2,p2,q2,s2,r2]] W (fun e w'=>e= .returned (.tuple #[.bool l,.int .i64 (c:Int)])∧Below W.heap.size W w')) (hM:LessOut M l c) (R:VR)
  (hR:R=cmpFin false M):Calls Tryz.prog 45 #[.int .i64 16,.agg #[k1,p1,q1,s1,r1],.agg #[k2,p2,q2,s2,r2]] w (VrPost w R):=by
 have HL:=Lib.hid hl
 clear hl
 rcases hM with⟨e1,rfl⟩|⟨e1,rfl⟩
 all_goals
  have HR:=Lib.hid hR
  clear hR
  go_enter Tryz.func45,Tryz.ntmps45
  go_wp2_with fail
  refine(HL.out _).mono ?_
  rintro e w1 ⟨rfl,hb⟩
  have HB:=hkh hb (zAX _ _ _ _)
  have HW1:=hbn (zAL _ _ _ _) hb
  have hz:=hb.size
  simp at hz
  clear hb
 ·obtain⟨c0,c1,c2,c3,c4⟩:=cells5 HB.out
  obtain⟨fc0,fc1,fc2,fc3,fc4⟩:=froz5 HB.out
  go_wp2
  refine bodyPost_ret (by simp[results,Tryz.results45,go_sem,c0,c1,c2,c3,c4];first|done|rfl) rfl ?_
  exact zBM HR.out (zAH HW1.out (by omega) _ _ _ _ _)
 ·go_wp2_with fail
  refine(zBn _ _).mono ?_
  rintro e w2 ⟨rfl,hb⟩
  have HB2:=hkh hb HB.out
  have HW2:=hbn HW1.out hb
  clear hb
  obtain⟨c0,c1,c2,c3,c4⟩:=cells5 HB2.out
  obtain⟨fc0,fc1,fc2,fc3,fc4⟩:=froz5 HB2.out
  go_wp2
  refine bodyPost_ret (by simp[results,Tryz.results45,go_sem,c0,c1,c2,c3,c4];first|done|rfl) rfl ?_
  exact vr_ok (HR.out.trans (by cases l<;>rfl)) rfl (zAH HW2.out (by omega) _ _ _ _ _)
theorem pcompare17_w (w:World) (k1 p1 q1:Int) (s1:ByteArray) (r1:Int) (k2 p2 q2:Int) (s2:ByteArray) (r2:Int) (l:Bool) (c:Nat) (M:BR) (hl:∀W,Calls Tryz.prog 94 #[.agg #[k2,p2,q2,s2,r2],.agg #[k1,p1,q1,s1,r1]] W (fun e w'=>e= .returned (.tuple #[.bool l,.int .i64 (c:Int)])∧Below W.heap.size W w')) (hM:LessOut M l c) (R:VR)
  (hR:R=cmpFin true M):Calls Tryz.prog 45 #[.int .i64 17,.agg #[k1,p1,q1,s1,r1],.agg #[k2,p2,q2,s2,r2]] w (VrPost w R):=by
 have HL:=Lib.hid hl
 clear hl
 rcases hM with⟨e1,rfl⟩|⟨e1,rfl⟩
 all_goals
  have HR:=Lib.hid hR
  clear hR
  go_enter Tryz.func45,Tryz.ntmps45
  go_wp2_with fail
  refine(HL.out _).mono ?_
  rintro e w1 ⟨rfl,hb⟩
  have HB:=hkh hb (zAX _ _ _ _)
  have HW1:=hbn (zAL _ _ _ _) hb
  have hz:=hb.size
  simp at hz
  clear hb
 ·obtain⟨c0,c1,c2,c3,c4⟩:=cells5 HB.out
  obtain⟨fc0,fc1,fc2,fc3,fc4⟩:=froz5 HB.out
  go_wp2
  refine bodyPost_ret (by simp[results,Tryz.results45,go_sem,c0,c1,c2,c3,c4];first|done|rfl) rfl ?_
  exact zBM HR.out (zAH HW1.out (by omega) _ _ _ _ _)
 ·go_wp2_with fail
  refine(zBn _ _).mono ?_
  rintro e w2 ⟨rfl,hb⟩
  have HB2:=hkh hb HB.out
  have HW2:=hbn HW1.out hb
  clear hb
  obtain⟨c0,c1,c2,c3,c4⟩:=cells5 HB2.out
  obtain⟨fc0,fc1,fc2,fc3,fc4⟩:=froz5 HB2.out
  go_wp2
  refine bodyPost_ret (by simp[results,Tryz.results45,go_sem,c0,c1,c2,c3,c4];first|done|rfl) rfl ?_
  exact vr_ok (HR.out.trans (by cases l<;>rfl)) rfl (zAH HW2.out (by omega) _ _ _ _ _)
theorem pcompare18_w (w:World) (k1 p1 q1:Int) (s1:ByteArray) (r1:Int) (k2 p2 q2:Int) (s2:ByteArray) (r2:Int) (l:Bool) (c:Nat) (M:BR) (hl:∀W,Calls Tryz.prog 94 #[.agg #[k2,p2,q2,s2,r2],.agg #[k1,p1,q1,s1,r1]] W (fun e w'=>e= .returned (.tuple #[.bool l,.int .i64 (c:Int)])∧Below W.heap.size W w')) (hM:LessOut M l c) (R:VR)
  (hR:R=cmpFin false M):Calls Tryz.prog 45 #[.int .i64 18,.agg #[k1,p1,q1,s1,r1],.agg #[k2,p2,q2,s2,r2]] w (VrPost w R):=by
 have HL:=Lib.hid hl
 clear hl
 rcases hM with⟨e1,rfl⟩|⟨e1,rfl⟩
 all_goals
  have HR:=Lib.hid hR
  clear hR
  go_enter Tryz.func45,Tryz.ntmps45
  go_wp2_with fail
  refine(HL.out _).mono ?_
  rintro e w1 ⟨rfl,hb⟩
  have HB:=hkh hb (zAX _ _ _ _)
  have HW1:=hbn (zAL _ _ _ _) hb
  have hz:=hb.size
  simp at hz
  clear hb
 ·obtain⟨c0,c1,c2,c3,c4⟩:=cells5 HB.out
  obtain⟨fc0,fc1,fc2,fc3,fc4⟩:=froz5 HB.out
  go_wp2
  refine bodyPost_ret (by simp[results,Tryz.results45,go_sem,c0,c1,c2,c3,c4];first|done|rfl) rfl ?_
  exact zBM HR.out (zAH HW1.out (by omega) _ _ _ _ _)
 ·go_wp2_with fail
  refine(zBn _ _).mono ?_
  rintro e w2 ⟨rfl,hb⟩
  have HB2:=hkh hb HB.out
  have HW2:=hbn HW1.out hb
  clear hb
  obtain⟨c0,c1,c2,c3,c4⟩:=cells5 HB2.out
  obtain⟨fc0,fc1,fc2,fc3,fc4⟩:=froz5 HB2.out
  go_wp2
  refine bodyPost_ret (by simp[results,Tryz.results45,go_sem,c0,c1,c2,c3,c4];first|done|rfl) rfl ?_
  exact vr_ok (HR.out.trans (by cases l<;>rfl)) rfl (zAH HW2.out (by omega) _ _ _ _ _)
theorem pcompare19_w (w:World) (k1 p1 q1:Int) (s1:ByteArray) (r1:Int) (k2 p2 q2:Int) (s2:ByteArray) (r2:Int) (l:Bool) (c:Nat) (M:BR) (hl:∀W,Calls Tryz.prog 94 #[.agg #[k1,p1,q1,s1,r1],.agg #[k2,p2,q2,s2,r2]] W (fun e w'=>e= .returned (.tuple #[.bool l,.int .i64 (c:Int)])∧Below W.heap.size W w')) (hM:LessOut M l c) (R:VR)
  (hR:R=cmpFin true M):Calls Tryz.prog 45 #[.int .i64 19,.agg #[k1,p1,q1,s1,r1],.agg #[k2,p2,q2,s2,r2]] w (VrPost w R):=by
 have HL:=Lib.hid hl
 clear hl
 rcases hM with⟨e1,rfl⟩|⟨e1,rfl⟩
 all_goals
  have HR:=Lib.hid hR
  clear hR
  go_enter Tryz.func45,Tryz.ntmps45
  go_wp2_with fail
  refine(HL.out _).mono ?_
  rintro e w1 ⟨rfl,hb⟩
  have HB:=hkh hb (zAX _ _ _ _)
  have HW1:=hbn (zAL _ _ _ _) hb
  have hz:=hb.size
  simp at hz
  clear hb
 ·obtain⟨c0,c1,c2,c3,c4⟩:=cells5 HB.out
  obtain⟨fc0,fc1,fc2,fc3,fc4⟩:=froz5 HB.out
  go_wp2
  refine bodyPost_ret (by simp[results,Tryz.results45,go_sem,c0,c1,c2,c3,c4];first|done|rfl) rfl ?_
  exact zBM HR.out (zAH HW1.out (by omega) _ _ _ _ _)
 ·go_wp2_with fail
  refine(zBn _ _).mono ?_
  rintro e w2 ⟨rfl,hb⟩
  have HB2:=hkh hb HB.out
  have HW2:=hbn HW1.out hb
  clear hb
  obtain⟨c0,c1,c2,c3,c4⟩:=cells5 HB2.out
  obtain⟨fc0,fc1,fc2,fc3,fc4⟩:=froz5 HB2.out
  go_wp2
  refine bodyPost_ret (by simp[results,Tryz.results45,go_sem,c0,c1,c2,c3,c4];first|done|rfl) rfl ?_
  exact vr_ok (HR.out.trans (by cases l<;>rfl)) rfl (zAH HW2.out (by omega) _ _ _ _ _)
theorem pcompare_c (w:World) (o:Int) (k1 p1 q1:Int) (s1:ByteArray) (r1:Int) (k2 p2 q2:Int) (s2:ByteArray) (r2:Int) (h1:s1.size≤4096) (h2:s2.size≤4096) (ho:16≤o) (ho2:o≤19):
  Calls Tryz.prog 45 #[o,.agg #[k1,p1,q1,s1,r1],.agg #[k2,p2,q2,s2,r2]] w (VrPost w (compareV o ⟨k1,p1,q1,s1,r1⟩ ⟨k2,p2,q2,s2,r2⟩)):=by
 have hc:o=16∨o=17∨o=18∨o=19:=by omega
 rcases hc with rfl|rfl|rfl|rfl
 ·exact pcompare16_w w k1 p1 q1 s1 r1 k2 p2 q2 s2 r2 _ _ _ (fun W=>pLess_c W k1 k2 p1 q1 s1 r1 p2 q2 s2 r2 (by omega) (by omega)) (less_out ⟨k1,p1,q1,s1,r1⟩ ⟨k2,p2,q2,s2,r2⟩) _ rfl
 ·exact pcompare17_w w k1 p1 q1 s1 r1 k2 p2 q2 s2 r2 _ _ _ (fun W=>pLess_c W k2 k1 p2 q2 s2 r2 p1 q1 s1 r1 (by omega) (by omega)) (less_out ⟨k2,p2,q2,s2,r2⟩ ⟨k1,p1,q1,s1,r1⟩) _ rfl
 ·exact pcompare18_w w k1 p1 q1 s1 r1 k2 p2 q2 s2 r2 _ _ _ (fun W=>pLess_c W k2 k1 p2 q2 s2 r2 p1 q1 s1 r1 (by omega) (by omega)) (less_out ⟨k2,p2,q2,s2,r2⟩ ⟨k1,p1,q1,s1,r1⟩) _ rfl
 ·exact pcompare19_w w k1 p1 q1 s1 r1 k2 p2 q2 s2 r2 _ _ _ (fun W=>pLess_c W k1 k2 p1 q1 s1 r1 p2 q2 s2 r2 (by omega) (by omega)) (less_out ⟨k1,p1,q1,s1,r1⟩ ⟨k2,p2,q2,s2,r2⟩) _ rfl
theorem punary_c (w:World) (o:Int):Calls Tryz.prog 34 #[.int .i64 o] w fun e w'=>e= .returned (.bool (decide (20≤o∧o≤23)))∧w=w':=by
 have hw:(¬20≤o)∨(20≤o∧¬o≤23)∨(20≤o∧o≤23):=by omega
 rcases hw with h|⟨h,h2⟩|⟨h,h2⟩
 all_goals
  go_enter Tryz.func34,Tryz.ntmps34
  go_wp2
  go_ret
  exact⟨zBq (by first|rfl|(simp_all;done)|(simp_all;omega)),rfl⟩
theorem pbinary_c (w:World) (o:Int):Calls Tryz.prog 35 #[.int .i64 o] w fun e w'=>e= .returned (.bool (decide (1≤o∧o≤19)))∧w=w':=by
 have hw:(¬1≤o)∨(1≤o∧¬o≤19)∨(1≤o∧o≤19):=by omega
 rcases hw with h|⟨h,h2⟩|⟨h,h2⟩
 all_goals
  go_enter Tryz.func35,Tryz.ntmps35
  go_wp2
  go_ret
  exact⟨zBq (by first|rfl|(simp_all;done)|(simp_all;omega)),rfl⟩
theorem parithmetic_c (w:World) (o:Int):Calls Tryz.prog 37 #[.int .i64 o] w fun e w'=>e= .returned (.bool (decide (1≤o∧o≤7)))∧w=w':=by
 have hw:(¬1≤o)∨(1≤o∧¬o≤7)∨(1≤o∧o≤7):=by omega
 rcases hw with h|⟨h,h2⟩|⟨h,h2⟩
 all_goals
  go_enter Tryz.func37,Tryz.ntmps37
  go_wp2
  go_ret
  exact⟨zBq (by first|rfl|(simp_all;done)|(simp_all;omega)),rfl⟩
theorem pbitwise_c (w:World) (o:Int):Calls Tryz.prog 38 #[.int .i64 o] w fun e w'=>e= .returned (.bool (decide ((9≤o∧o≤13)∨o=23)))∧w=w':=by
 have hw:(¬9≤o∧(o==23)=false)∨(9≤o∧¬o≤13∧(o==23)=false)∨(9≤o∧¬o≤13∧(o==23)=true)∨(9≤o∧o≤13):=by
  by_cases h:o=23
  ·subst h;exact .inr (.inr (.inl ⟨by decide,by decide,rfl⟩))
  ·have h23:(o==23)=false:=by rw[beq_eq_false_iff_ne];exact h
   by_cases h9:9≤o
   ·by_cases h13:o≤13
    ·exact .inr (.inr (.inr ⟨h9,h13⟩))
    ·exact .inr (.inl ⟨h9,h13,h23⟩)
   ·exact .inl ⟨h9,h23⟩
 rcases hw with⟨h,h2⟩|⟨h,h2,h3⟩|⟨h,h2,h3⟩|⟨h,h2⟩
 all_goals
  go_enter Tryz.func38,Tryz.ntmps38
  go_wp2
  go_ret
  refine⟨zBq ?_,rfl⟩
  first|rfl|(simp_all;done)|(simp_all;omega)
theorem pnumbers_bin (w:World) (o:Int) (k1 p1 q1:Int) (s1:ByteArray) (r1:Int) (k2 p2 q2:Int) (s2:ByteArray) (r2:Int) (X Y Z:RR) (R:VR) (hun:∀W,Calls Tryz.prog 34 #[.int .i64 o] W fun e w'=>e= .returned (.bool false)∧W=w')
  (hx:∀W,Below w.heap.size w W→Calls Tryz.prog 89 #[.agg #[k1,p1,q1,s1,r1]] W (NumPost W X)) (hy:∀W,Below w.heap.size w W→Calls Tryz.prog 89 #[.agg #[k2,p2,q2,s2,r2]] W (NumPost W Y)) (hz0:∀W,Calls Tryz.prog 90 #[o,.agg #[.int .i64 (nP X),.int .i64 (nQ X)],.agg #[.int .i64 (nP Y),.int .i64 (nQ Y)]] W (NumPost W Z)) (hw:NWays X Y Z R):
  Calls Tryz.prog 39 #[o,.agg #[k1,p1,q1,s1,r1],.agg #[k2,p2,q2,s2,r2]] w (VrPost w R):=by
 have HUN:=Lib.hid hun
 have HX:=Lib.hid hx
 have HY:=Lib.hid hy
 have HZ:=Lib.hid hz0
 clear hun hx hy hz0
 rcases hw with⟨e1,hR⟩|⟨e1,e2,hR⟩|⟨e1,e2,e3,hR⟩|⟨e1,e2,e3,hR⟩
 all_goals
  have HR:=Lib.hid hR
  clear hR
  go_enter Tryz.func39,Tryz.ntmps39
  go_wp2_with fail
  refine(HUN.out _).mono ?_
  rintro e w0 ⟨rfl,rfl⟩
  go_wp2_with fail
  refine(HX.out _ (zAL _ _ _ _)).mono ?_
  rintro e w1 ⟨rfl,hb⟩
  have HB:=Lib.hid (hgrow hb (.cells #[.int .i64 (nP X),.int .i64 (nQ X)] 23) (zAY _ _ _ _))
  have HC:=Lib.hid (hgrow hb (.cells #[.int .i64 (nP X),.int .i64 (nQ X)] 23) (zAX _ _ _ _))
  have HX1:=Lib.hid (zAg w1 (.cells #[.int .i64 (nP X),.int .i64 (nQ X)] 23))
  have HW1:=Lib.hid ((zAC (zAL _ _ _ _) hb).alloc (by have:=hb.size;simp at this;omega) (.cells #[.int .i64 (nP X),.int .i64 (nQ X)] 23))
  have hz:=hb.size
  simp at hz
  clear hb
  obtain⟨b0,b1,b2,b3,b4⟩:=cells5 HB.out
  go_wp2_with fail
  refine(HY.out _ HW1.out).mono ?_
  rintro e w2 ⟨rfl,hb⟩
  have HX2:=Lib.hid (hgrow hb (.cells #[.int .i64 (nP Y),.int .i64 (nQ Y)] 23) HX1.out)
  have HC2:=Lib.hid (hgrow hb (.cells #[.int .i64 (nP Y),.int .i64 (nQ Y)] 23) HC.out)
  have HY2:=Lib.hid (zAg w2 (.cells #[.int .i64 (nP Y),.int .i64 (nQ Y)] 23))
  have HW2:=Lib.hid ((zAC HW1.out hb).alloc (by have:=hb.size;simp at this;omega) (.cells #[.int .i64 (nP Y),.int .i64 (nQ Y)] 23))
  have hz2:=hb.size
  simp at hz2
  clear hb b0 b1 b2 b3 b4
 ·obtain⟨c0,c1,c2,c3,c4⟩:=cells5 HC2.out
  obtain⟨fc0,fc1,fc2,fc3,fc4⟩:=froz5 HC2.out
  go_wp2
  refine bodyPost_ret (by simp[results,Tryz.results39,go_sem,c0,c1,c2,c3,c4];first|done|rfl) rfl ?_
  exact zBM HR.out (zAH HW2.out (by omega) _ _ _ _ _)
 ·obtain⟨c0,c1,c2,c3,c4⟩:=cells5 HC2.out
  obtain⟨fc0,fc1,fc2,fc3,fc4⟩:=froz5 HC2.out
  go_wp2
  refine bodyPost_ret (by simp[results,Tryz.results39,go_sem,c0,c1,c2,c3,c4];first|done|rfl) rfl ?_
  exact zBM HR.out (zAH HW2.out (by omega) _ _ _ _ _)
 ·have x0:(w2.alloc (.cells #[.int .i64 (nP Y),.int .i64 (nQ Y)] 23)).cell? ⟨w1.heap.size,0,none⟩=some (.int .i64 (nP X)):=by rw[zAA HX2.out];rfl
  have x1:(w2.alloc (.cells #[.int .i64 (nP Y),.int .i64 (nQ Y)] 23)).cell? ⟨w1.heap.size,1,none⟩=some (.int .i64 (nQ X)):=by rw[zAA HX2.out];rfl
  have y0:(w2.alloc (.cells #[.int .i64 (nP Y),.int .i64 (nQ Y)] 23)).cell? ⟨w2.heap.size,0,none⟩=some (.int .i64 (nP Y)):=by rw[zAA HY2.out];rfl
  have y1:(w2.alloc (.cells #[.int .i64 (nP Y),.int .i64 (nQ Y)] 23)).cell? ⟨w2.heap.size,1,none⟩=some (.int .i64 (nQ Y)):=by rw[zAA HY2.out];rfl
  go_wp2_with fail
  refine(HZ.out _).mono ?_
  rintro e w3 ⟨rfl,hb⟩
  have HC3:=Lib.hid (hgrow hb (.cells #[.int .i64 (nP Z),.int .i64 (nQ Z)] 23) HC2.out)
  have HZ3:=Lib.hid (zAg w3 (.cells #[.int .i64 (nP Z),.int .i64 (nQ Z)] 23))
  have HW3:=Lib.hid ((zAC HW2.out hb).alloc (by have:=hb.size;simp at this;omega) (.cells #[.int .i64 (nP Z),.int .i64 (nQ Z)] 23))
  have hz3:=hb.size
  simp at hz3
  clear hb x0 x1 y0 y1
  obtain⟨c0,c1,c2,c3,c4⟩:=cells5 HC3.out
  obtain⟨fc0,fc1,fc2,fc3,fc4⟩:=froz5 HC3.out
  go_wp2
  refine bodyPost_ret (by simp[results,Tryz.results39,go_sem,c0,c1,c2,c3,c4];first|done|rfl) rfl ?_
  exact zBM HR.out (zAH HW3.out (by omega) _ _ _ _ _)
 ·have x0:(w2.alloc (.cells #[.int .i64 (nP Y),.int .i64 (nQ Y)] 23)).cell? ⟨w1.heap.size,0,none⟩=some (.int .i64 (nP X)):=by rw[zAA HX2.out];rfl
  have x1:(w2.alloc (.cells #[.int .i64 (nP Y),.int .i64 (nQ Y)] 23)).cell? ⟨w1.heap.size,1,none⟩=some (.int .i64 (nQ X)):=by rw[zAA HX2.out];rfl
  have y0:(w2.alloc (.cells #[.int .i64 (nP Y),.int .i64 (nQ Y)] 23)).cell? ⟨w2.heap.size,0,none⟩=some (.int .i64 (nP Y)):=by rw[zAA HY2.out];rfl
  have y1:(w2.alloc (.cells #[.int .i64 (nP Y),.int .i64 (nQ Y)] 23)).cell? ⟨w2.heap.size,1,none⟩=some (.int .i64 (nQ Y)):=by rw[zAA HY2.out];rfl
  go_wp2_with fail
  refine(HZ.out _).mono ?_
  rintro e w3 ⟨rfl,hb⟩
  have HC3:=Lib.hid (hgrow hb (.cells #[.int .i64 (nP Z),.int .i64 (nQ Z)] 23) HC2.out)
  have HZ3:=Lib.hid (zAg w3 (.cells #[.int .i64 (nP Z),.int .i64 (nQ Z)] 23))
  have HW3:=Lib.hid ((zAC HW2.out hb).alloc (by have:=hb.size;simp at this;omega) (.cells #[.int .i64 (nP Z),.int .i64 (nQ Z)] 23))
  have hz3:=hb.size
  simp at hz3
  clear hb x0 x1 y0 y1
  have z0:(w3.alloc (.cells #[.int .i64 (nP Z),.int .i64 (nQ Z)] 23)).cell? ⟨w3.heap.size,0,none⟩=some (.int .i64 (nP Z)):=by rw[zAA HZ3.out];rfl
  have z1:(w3.alloc (.cells #[.int .i64 (nP Z),.int .i64 (nQ Z)] 23)).cell? ⟨w3.heap.size,1,none⟩=some (.int .i64 (nQ Z)):=by rw[zAA HZ3.out];rfl
  go_wp2_with fail
  refine(pOfNum_c _ _ _).mono ?_
  rintro e w4 ⟨rfl,hb⟩
  have HC4:=hkh hb HC3.out
  have HW4:=hbn HW3.out hb
  clear hb
  obtain⟨c0,c1,c2,c3,c4⟩:=cells5 HC4.out
  obtain⟨fc0,fc1,fc2,fc3,fc4⟩:=froz5 HC4.out
  go_wp2
  refine bodyPost_ret (by simp[results,Tryz.results39,go_sem,c0,c1,c2,c3,c4];first|done|rfl) rfl ?_
  exact vr_ok HR.out rfl (zAH HW4.out (by omega) _ _ _ _ _)
theorem pOfInt0_c (w:World):Calls Tryz.prog 44 #[.int .i64 0] w (fun e w'=>e= .returned (.agg #[.int .i64 2,.int .i64 0,.int .i64 1,.string ⟨#[]⟩,.int .i64 0])∧Below w.heap.size w w'):=pOfInt_c w 0
theorem pnumbers_un (w:World) (o:Int) (k1 p1 q1:Int) (s1:ByteArray) (r1:Int) (k2 p2 q2:Int) (s2:ByteArray) (r2:Int) (X Y Z:RR) (R:VR) (hun:∀W,Calls Tryz.prog 34 #[.int .i64 o] W fun e w'=>e= .returned (.bool true)∧W=w')
  (hx:∀W,Below w.heap.size w W→Calls Tryz.prog 89 #[.agg #[k1,p1,q1,s1,r1]] W (NumPost W X)) (hy:∀W,Below w.heap.size w W→Calls Tryz.prog 89 #[.agg #[.int .i64 2,.int .i64 0,.int .i64 1,.string ⟨#[]⟩,.int .i64 0]] W (NumPost W Y)) (hz0:∀W,Calls Tryz.prog 90 #[o,.agg #[.int .i64 (nP X),.int .i64 (nQ X)],.agg #[.int .i64 (nP Y),.int .i64 (nQ Y)]] W (NumPost W Z)) (hw:NWays X Y Z R):
  Calls Tryz.prog 39 #[o,.agg #[k1,p1,q1,s1,r1],.agg #[k2,p2,q2,s2,r2]] w (VrPost w R):=by
 have HUN:=Lib.hid hun
 have HX:=Lib.hid hx
 have HY:=Lib.hid hy
 have HZ:=Lib.hid hz0
 clear hun hx hy hz0
 rcases hw with⟨e1,hR⟩|⟨e1,e2,hR⟩|⟨e1,e2,e3,hR⟩|⟨e1,e2,e3,hR⟩
 all_goals
  have HR:=Lib.hid hR
  clear hR
  go_enter Tryz.func39,Tryz.ntmps39
  go_wp2_with fail
  refine(HUN.out _).mono ?_
  rintro e w0 ⟨rfl,rfl⟩
  go_wp2_with fail
  refine(pOfInt0_c _).mono ?_
  rintro e w0 ⟨rfl,hb⟩
  have HA0:=hkh hb (zAh _ _ _ _)
  have HB0:=hkh hb (zAY _ _ _ _)
  have HC0:=hkh hb (zAX _ _ _ _)
  have HW0:=hbn (zAL _ _ _ _) hb
  have hz0:=hb.size
  simp at hz0
  clear hb
  obtain⟨W5,hW5⟩:∃W5,W5=(((((w0.setCell ⟨w.heap.size+1,0,none⟩ (.int .i64 2)).setCell ⟨w.heap.size+1,1,none⟩ (.int .i64 0)).setCell ⟨w.heap.size+1,2,none⟩ (.int .i64 1)).setCell ⟨w.heap.size+1,3,none⟩ (.string ⟨#[]⟩)).setCell ⟨w.heap.size+1,4,none⟩ (.int .i64 0)):=⟨_,rfl⟩
  have HS0:=Lib.hid (show Below w.heap.size w W5 from hW5▸zAH HW0.out (b:=w.heap.size+1) (by omega) (.int .i64 2) (.int .i64 0) (.int .i64 1) (.string ⟨#[]⟩) (.int .i64 0))
  have HC1:=Lib.hid (show W5.heap[w.heap.size+1+1]? =some (.cells #[.int .i64 0,.int .i64 0,.int .i64 0,.string ⟨#[]⟩,.int .i64 0] 25) from hW5▸zAR HC0.out (b:=w.heap.size+1) (by omega) (.int .i64 2) (.int .i64 0) (.int .i64 1) (.string ⟨#[]⟩) (.int .i64 0))
  have HB1:=Lib.hid (show W5.heap[w.heap.size+1]? =some (.cells #[.int .i64 2,.int .i64 0,.int .i64 1,.string ⟨#[]⟩,.int .i64 0] 25) from hW5▸zAk HB0.out (.int .i64 2) (.int .i64 0) (.int .i64 1) (.string ⟨#[]⟩) (.int .i64 0))
  have hz5:w.heap.size+1+1+1≤W5.heap.size:=by rw[hW5];simp;omega
  have HW5:=Lib.hid hW5
  clear hW5
  obtain⟨b0,b1,b2,b3,b4⟩:=cells5 HB0.out
  obtain⟨fb0,fb1,fb2,fb3,fb4⟩:=froz5 HB0.out
  obtain⟨a0,a1,a2,a3,a4⟩:=cells5 HA0.out
  go_wp2_with fail
  rw[←HW5.out]
  refine(HX.out _ HS0.out).mono ?_
  rintro e w1 ⟨rfl,hb⟩
  have HB:=Lib.hid (hgrow hb (.cells #[.int .i64 (nP X),.int .i64 (nQ X)] 23) HB1.out)
  have HC:=Lib.hid (hgrow hb (.cells #[.int .i64 (nP X),.int .i64 (nQ X)] 23) HC1.out)
  have HX1:=Lib.hid (zAg w1 (.cells #[.int .i64 (nP X),.int .i64 (nQ X)] 23))
  have HW1:=Lib.hid ((zAC HS0.out hb).alloc (by have:=hb.size;omega) (.cells #[.int .i64 (nP X),.int .i64 (nQ X)] 23))
  have hz:=hb.size
  clear hb a0 a1 a2 a3 a4 b0 b1 b2 b3 b4 fb0 fb1 fb2 fb3 fb4
  obtain⟨b0,b1,b2,b3,b4⟩:=cells5 HB.out
  go_wp2_with fail
  refine(HY.out _ HW1.out).mono ?_
  rintro e w2 ⟨rfl,hb⟩
  have HX2:=Lib.hid (hgrow hb (.cells #[.int .i64 (nP Y),.int .i64 (nQ Y)] 23) HX1.out)
  have HC2:=Lib.hid (hgrow hb (.cells #[.int .i64 (nP Y),.int .i64 (nQ Y)] 23) HC.out)
  have HY2:=Lib.hid (zAg w2 (.cells #[.int .i64 (nP Y),.int .i64 (nQ Y)] 23))
  have HW2:=Lib.hid ((zAC HW1.out hb).alloc (by have:=hb.size;simp at this;omega) (.cells #[.int .i64 (nP Y),.int .i64 (nQ Y)] 23))
  have hz2:=hb.size
  simp at hz2
  clear hb b0 b1 b2 b3 b4
 ·obtain⟨c0,c1,c2,c3,c4⟩:=cells5 HC2.out
  obtain⟨fc0,fc1,fc2,fc3,fc4⟩:=froz5 HC2.out
  go_wp2
  refine bodyPost_ret (by simp[results,Tryz.results39,go_sem,c0,c1,c2,c3,c4];first|done|rfl) rfl ?_
  exact zBM HR.out (zAH HW2.out (by omega) _ _ _ _ _)
 ·obtain⟨c0,c1,c2,c3,c4⟩:=cells5 HC2.out
  obtain⟨fc0,fc1,fc2,fc3,fc4⟩:=froz5 HC2.out
  go_wp2
  refine bodyPost_ret (by simp[results,Tryz.results39,go_sem,c0,c1,c2,c3,c4];first|done|rfl) rfl ?_
  exact zBM HR.out (zAH HW2.out (by omega) _ _ _ _ _)
 ·have x0:(w2.alloc (.cells #[.int .i64 (nP Y),.int .i64 (nQ Y)] 23)).cell? ⟨w1.heap.size,0,none⟩=some (.int .i64 (nP X)):=by rw[zAA HX2.out];rfl
  have x1:(w2.alloc (.cells #[.int .i64 (nP Y),.int .i64 (nQ Y)] 23)).cell? ⟨w1.heap.size,1,none⟩=some (.int .i64 (nQ X)):=by rw[zAA HX2.out];rfl
  have y0:(w2.alloc (.cells #[.int .i64 (nP Y),.int .i64 (nQ Y)] 23)).cell? ⟨w2.heap.size,0,none⟩=some (.int .i64 (nP Y)):=by rw[zAA HY2.out];rfl
  have y1:(w2.alloc (.cells #[.int .i64 (nP Y),.int .i64 (nQ Y)] 23)).cell? ⟨w2.heap.size,1,none⟩=some (.int .i64 (nQ Y)):=by rw[zAA HY2.out];rfl
  go_wp2_with fail
  refine(HZ.out _).mono ?_
  rintro e w3 ⟨rfl,hb⟩
  have HC3:=Lib.hid (hgrow hb (.cells #[.int .i64 (nP Z),.int .i64 (nQ Z)] 23) HC2.out)
  have HZ3:=Lib.hid (zAg w3 (.cells #[.int .i64 (nP Z),.int .i64 (nQ Z)] 23))
  have HW3:=Lib.hid ((zAC HW2.out hb).alloc (by have:=hb.size;simp at this;omega) (.cells #[.int .i64 (nP Z),.int .i64 (nQ Z)] 23))
  have hz3:=hb.size
  simp at hz3
  clear hb x0 x1 y0 y1
  obtain⟨c0,c1,c2,c3,c4⟩:=cells5 HC3.out
  obtain⟨fc0,fc1,fc2,fc3,fc4⟩:=froz5 HC3.out
  go_wp2
  refine bodyPost_ret (by simp[results,Tryz.results39,go_sem,c0,c1,c2,c3,c4];first|done|rfl) rfl ?_
  exact zBM HR.out (zAH HW3.out (by omega) _ _ _ _ _)
 ·have x0:(w2.alloc (.cells #[.int .i64 (nP Y),.int .i64 (nQ Y)] 23)).cell? ⟨w1.heap.size,0,none⟩=some (.int .i64 (nP X)):=by rw[zAA HX2.out];rfl
  have x1:(w2.alloc (.cells #[.int .i64 (nP Y),.int .i64 (nQ Y)] 23)).cell? ⟨w1.heap.size,1,none⟩=some (.int .i64 (nQ X)):=by rw[zAA HX2.out];rfl
  have y0:(w2.alloc (.cells #[.int .i64 (nP Y),.int .i64 (nQ Y)] 23)).cell? ⟨w2.heap.size,0,none⟩=some (.int .i64 (nP Y)):=by rw[zAA HY2.out];rfl
  have y1:(w2.alloc (.cells #[.int .i64 (nP Y),.int .i64 (nQ Y)] 23)).cell? ⟨w2.heap.size,1,none⟩=some (.int .i64 (nQ Y)):=by rw[zAA HY2.out];rfl
  go_wp2_with fail
  refine(HZ.out _).mono ?_
  rintro e w3 ⟨rfl,hb⟩
  have HC3:=Lib.hid (hgrow hb (.cells #[.int .i64 (nP Z),.int .i64 (nQ Z)] 23) HC2.out)
  have HZ3:=Lib.hid (zAg w3 (.cells #[.int .i64 (nP Z),.int .i64 (nQ Z)] 23))
  have HW3:=Lib.hid ((zAC HW2.out hb).alloc (by have:=hb.size;simp at this;omega) (.cells #[.int .i64 (nP Z),.int .i64 (nQ Z)] 23))
  have hz3:=hb.size
  simp at hz3
  clear hb x0 x1 y0 y1
  have z0:(w3.alloc (.cells #[.int .i64 (nP Z),.int .i64 (nQ Z)] 23)).cell? ⟨w3.heap.size,0,none⟩=some (.int .i64 (nP Z)):=by rw[zAA HZ3.out];rfl
  have z1:(w3.alloc (.cells #[.int .i64 (nP Z),.int .i64 (nQ Z)] 23)).cell? ⟨w3.heap.size,1,none⟩=some (.int .i64 (nQ Z)):=by rw[zAA HZ3.out];rfl
  go_wp2_with fail
  refine(pOfNum_c _ _ _).mono ?_
  rintro e w4 ⟨rfl,hb⟩
  have HC4:=hkh hb HC3.out
  have HW4:=hbn HW3.out hb
  clear hb
  obtain⟨c0,c1,c2,c3,c4⟩:=cells5 HC4.out
  obtain⟨fc0,fc1,fc2,fc3,fc4⟩:=froz5 HC4.out
  go_wp2
  refine bodyPost_ret (by simp[results,Tryz.results39,go_sem,c0,c1,c2,c3,c4];first|done|rfl) rfl ?_
  exact vr_ok HR.out rfl (zAH HW4.out (by omega) _ _ _ _ _)
theorem pplain_eq (w:World) (o:Int) (k1 p1 q1:Int) (s1:ByteArray) (r1:Int) (k2 p2 q2:Int) (s2:ByteArray) (r2:Int) (l:Bool) (R:VR) (hunary:PureTo 34 o false) (hbinary:PureTo 35 o true) (harithmetic:PureTo 37 o false) (hbitwise:PureTo 38 o false)
  (hv1:∀W,Calls Tryz.prog 36 #[.agg #[k1,p1,q1,s1,r1]] W (BoolPost W true)) (hv2:∀W,Calls Tryz.prog 36 #[.agg #[k2,p2,q2,s2,r2]] W (BoolPost W true)) (t20:(o==20)=false) (t8:(o==8)=false) (t14:(o==14)=true) (hs:∀W,Calls Tryz.prog 42 #[.agg #[k1,p1,q1,s1,r1],.agg #[k2,p2,q2,s2,r2]] W (BoolPost W l)) (hR:R= .ok (boolV (l==true))):Calls Tryz.prog 11 #[o,.agg #[k1,p1,q1,s1,r1],.agg #[k2,p2,q2,s2,r2]] w (VrPost w R):=by
 have HPunary:=Lib.hid hunary
 clear hunary
 have HPbinary:=Lib.hid hbinary
 clear hbinary
 have HParithmetic:=Lib.hid harithmetic
 clear harithmetic
 have HPbitwise:=Lib.hid hbitwise
 clear hbitwise
 have HV1:=Lib.hid hv1
 clear hv1
 have HV2:=Lib.hid hv2
 clear hv2
 go_enter Tryz.func11,Tryz.ntmps11
 go_wp2_with (first|(go_at_call 34;refine(HPunary.out _).mono ?_;rintro e w' ⟨rfl,rfl⟩)|(go_at_call 35;refine(HPbinary.out _).mono ?_;rintro e w' ⟨rfl,rfl⟩)|(go_at_call 37;refine(HParithmetic.out _).mono ?_;rintro e w' ⟨rfl,rfl⟩)|(go_at_call 38;refine(HPbitwise.out _).mono ?_;rintro e w' ⟨rfl,rfl⟩))
 refine(HV1.out _).mono ?_
 rintro e w1 ⟨rfl,hb⟩
 have HA1:=hkh hb (zAh _ _ _ _)
 have HB1:=hkh hb (zAY _ _ _ _)
 have HC1:=hkh hb (zAX _ _ _ _)
 have HW1:=hbn (zAL _ _ _ _) hb
 have hz1:=hb.size
 simp at hz1
 clear hb
 obtain⟨b0,b1,b2,b3,b4⟩:=cells5 HB1.out
 go_wp2_with (first|(go_at_call 34;refine(HPunary.out _).mono ?_;rintro e w' ⟨rfl,rfl⟩)|(go_at_call 35;refine(HPbinary.out _).mono ?_;rintro e w' ⟨rfl,rfl⟩)|(go_at_call 37;refine(HParithmetic.out _).mono ?_;rintro e w' ⟨rfl,rfl⟩)|(go_at_call 38;refine(HPbitwise.out _).mono ?_;rintro e w' ⟨rfl,rfl⟩))
 refine(HV2.out _).mono ?_
 rintro e w2 ⟨rfl,hb⟩
 have HA2:=hkh hb HA1.out
 have HB2:=hkh hb HB1.out
 have HC2:=hkh hb HC1.out
 have HW2:=hbn HW1.out hb
 have hz2:=hb.size
 clear hb b0 b1 b2 b3 b4
 obtain⟨a0,a1,a2,a3,a4⟩:=cells5 HA2.out
 obtain⟨b0,b1,b2,b3,b4⟩:=cells5 HB2.out
 go_wp2_with (first|(go_at_call 34;refine(HPunary.out _).mono ?_;rintro e w' ⟨rfl,rfl⟩)|(go_at_call 35;refine(HPbinary.out _).mono ?_;rintro e w' ⟨rfl,rfl⟩)|(go_at_call 37;refine(HParithmetic.out _).mono ?_;rintro e w' ⟨rfl,rfl⟩)|(go_at_call 38;refine(HPbitwise.out _).mono ?_;rintro e w' ⟨rfl,rfl⟩))
 refine(hs _).mono ?_
 rintro e w8 ⟨rfl,hb⟩
 have HC8:=hkh hb HC2.out
 have HW8:=hbn HW2.out hb
 have hz8:=hb.size
 clear hb a0 a1 a2 a3 a4 b0 b1 b2 b3 b4
 go_wp2_with (first|(go_at_call 34;refine(HPunary.out _).mono ?_;rintro e w' ⟨rfl,rfl⟩)|(go_at_call 35;refine(HPbinary.out _).mono ?_;rintro e w' ⟨rfl,rfl⟩)|(go_at_call 37;refine(HParithmetic.out _).mono ?_;rintro e w' ⟨rfl,rfl⟩)|(go_at_call 38;refine(HPbitwise.out _).mono ?_;rintro e w' ⟨rfl,rfl⟩))
 refine(zBn _ _).mono ?_
 rintro e w9 ⟨rfl,hb⟩
 have HC9:=hkh hb HC8.out
 have HW9:=hbn HW8.out hb
 have hz9:=hb.size
 clear hb
 obtain⟨c0,c1,c2,c3,c4⟩:=cells5 HC9.out
 obtain⟨fc0,fc1,fc2,fc3,fc4⟩:=froz5 HC9.out
 go_wp2
 refine bodyPost_ret (by simp[results,Tryz.results11,go_sem,c0,c1,c2,c3,c4];first|done|rfl) rfl ?_
 exact vr_val (by first|exact hR|(revert hR;cases l<;>exact fun h=>h)) (zAH HW9.out (by omega) _ _ _ _ _)
theorem pplain_ne (w:World) (o:Int) (k1 p1 q1:Int) (s1:ByteArray) (r1:Int) (k2 p2 q2:Int) (s2:ByteArray) (r2:Int) (l:Bool) (R:VR) (hunary:PureTo 34 o false) (hbinary:PureTo 35 o true) (harithmetic:PureTo 37 o false) (hbitwise:PureTo 38 o false)
  (hv1:∀W,Calls Tryz.prog 36 #[.agg #[k1,p1,q1,s1,r1]] W (BoolPost W true)) (hv2:∀W,Calls Tryz.prog 36 #[.agg #[k2,p2,q2,s2,r2]] W (BoolPost W true)) (t20:(o==20)=false) (t8:(o==8)=false) (t14:(o==14)=false) (t15:(o==15)=true) (hs:∀W,Calls Tryz.prog 42 #[.agg #[k1,p1,q1,s1,r1],.agg #[k2,p2,q2,s2,r2]] W (BoolPost W l)) (hR:R= .ok (boolV (l==false))):Calls Tryz.prog 11 #[o,.agg #[k1,p1,q1,s1,r1],.agg #[k2,p2,q2,s2,r2]] w (VrPost w R):=by
 have HPunary:=Lib.hid hunary
 clear hunary
 have HPbinary:=Lib.hid hbinary
 clear hbinary
 have HParithmetic:=Lib.hid harithmetic
 clear harithmetic
 have HPbitwise:=Lib.hid hbitwise
 clear hbitwise
 have HV1:=Lib.hid hv1
 clear hv1
 have HV2:=Lib.hid hv2
 clear hv2
 go_enter Tryz.func11,Tryz.ntmps11
 go_wp2_with (first|(go_at_call 34;refine(HPunary.out _).mono ?_;rintro e w' ⟨rfl,rfl⟩)|(go_at_call 35;refine(HPbinary.out _).mono ?_;rintro e w' ⟨rfl,rfl⟩)|(go_at_call 37;refine(HParithmetic.out _).mono ?_;rintro e w' ⟨rfl,rfl⟩)|(go_at_call 38;refine(HPbitwise.out _).mono ?_;rintro e w' ⟨rfl,rfl⟩))
 refine(HV1.out _).mono ?_
 rintro e w1 ⟨rfl,hb⟩
 have HA1:=hkh hb (zAh _ _ _ _)
 have HB1:=hkh hb (zAY _ _ _ _)
 have HC1:=hkh hb (zAX _ _ _ _)
 have HW1:=hbn (zAL _ _ _ _) hb
 have hz1:=hb.size
 simp at hz1
 clear hb
 obtain⟨b0,b1,b2,b3,b4⟩:=cells5 HB1.out
 go_wp2_with (first|(go_at_call 34;refine(HPunary.out _).mono ?_;rintro e w' ⟨rfl,rfl⟩)|(go_at_call 35;refine(HPbinary.out _).mono ?_;rintro e w' ⟨rfl,rfl⟩)|(go_at_call 37;refine(HParithmetic.out _).mono ?_;rintro e w' ⟨rfl,rfl⟩)|(go_at_call 38;refine(HPbitwise.out _).mono ?_;rintro e w' ⟨rfl,rfl⟩))
 refine(HV2.out _).mono ?_
 rintro e w2 ⟨rfl,hb⟩
 have HA2:=hkh hb HA1.out
 have HB2:=hkh hb HB1.out
 have HC2:=hkh hb HC1.out
 have HW2:=hbn HW1.out hb
 have hz2:=hb.size
 clear hb b0 b1 b2 b3 b4
 obtain⟨a0,a1,a2,a3,a4⟩:=cells5 HA2.out
 obtain⟨b0,b1,b2,b3,b4⟩:=cells5 HB2.out
 go_wp2_with (first|(go_at_call 34;refine(HPunary.out _).mono ?_;rintro e w' ⟨rfl,rfl⟩)|(go_at_call 35;refine(HPbinary.out _).mono ?_;rintro e w' ⟨rfl,rfl⟩)|(go_at_call 37;refine(HParithmetic.out _).mono ?_;rintro e w' ⟨rfl,rfl⟩)|(go_at_call 38;refine(HPbitwise.out _).mono ?_;rintro e w' ⟨rfl,rfl⟩))
 refine(hs _).mono ?_
 rintro e w8 ⟨rfl,hb⟩
 have HC8:=hkh hb HC2.out
 have HW8:=hbn HW2.out hb
 have hz8:=hb.size
 clear hb a0 a1 a2 a3 a4 b0 b1 b2 b3 b4
 go_wp2_with (first|(go_at_call 34;refine(HPunary.out _).mono ?_;rintro e w' ⟨rfl,rfl⟩)|(go_at_call 35;refine(HPbinary.out _).mono ?_;rintro e w' ⟨rfl,rfl⟩)|(go_at_call 37;refine(HParithmetic.out _).mono ?_;rintro e w' ⟨rfl,rfl⟩)|(go_at_call 38;refine(HPbitwise.out _).mono ?_;rintro e w' ⟨rfl,rfl⟩))
 refine(zBn _ _).mono ?_
 rintro e w9 ⟨rfl,hb⟩
 have HC9:=hkh hb HC8.out
 have HW9:=hbn HW8.out hb
 have hz9:=hb.size
 clear hb
 obtain⟨c0,c1,c2,c3,c4⟩:=cells5 HC9.out
 obtain⟨fc0,fc1,fc2,fc3,fc4⟩:=froz5 HC9.out
 go_wp2
 refine bodyPost_ret (by simp[results,Tryz.results11,go_sem,c0,c1,c2,c3,c4];first|done|rfl) rfl ?_
 exact vr_val (by first|exact hR|(revert hR;cases l<;>exact fun h=>h)) (zAH HW9.out (by omega) _ _ _ _ _)
theorem pplain_not (w:World) (o:Int) (k1 p1 q1:Int) (s1:ByteArray) (r1:Int) (k2 p2 q2:Int) (s2:ByteArray) (r2:Int) (l:Bool) (R:VR) (hunary:PureTo 34 o true) (hbinary:PureTo 35 o false) (harithmetic:PureTo 37 o false) (hbitwise:PureTo 38 o false)
  (hv1:∀W,Calls Tryz.prog 36 #[.agg #[k1,p1,q1,s1,r1]] W (BoolPost W true)) (t20:(o==20)=false) (t8:(o==8)=false) (t14:(o==14)=false) (t15:(o==15)=false) (t21:(o==21)=true) (hs:∀W,Calls Tryz.prog 43 #[.agg #[k1,p1,q1,s1,r1]] W (BoolPost W l)) (hR:R= .ok (boolV (!l))):Calls Tryz.prog 11 #[o,.agg #[k1,p1,q1,s1,r1],.agg #[k2,p2,q2,s2,r2]] w (VrPost w R):=by
 have HPunary:=Lib.hid hunary
 clear hunary
 have HPbinary:=Lib.hid hbinary
 clear hbinary
 have HParithmetic:=Lib.hid harithmetic
 clear harithmetic
 have HPbitwise:=Lib.hid hbitwise
 clear hbitwise
 have HV1:=Lib.hid hv1
 clear hv1
 go_enter Tryz.func11,Tryz.ntmps11
 go_wp2_with (first|(go_at_call 34;refine(HPunary.out _).mono ?_;rintro e w' ⟨rfl,rfl⟩)|(go_at_call 35;refine(HPbinary.out _).mono ?_;rintro e w' ⟨rfl,rfl⟩)|(go_at_call 37;refine(HParithmetic.out _).mono ?_;rintro e w' ⟨rfl,rfl⟩)|(go_at_call 38;refine(HPbitwise.out _).mono ?_;rintro e w' ⟨rfl,rfl⟩))
 refine(HV1.out _).mono ?_
 rintro e w1 ⟨rfl,hb⟩
 have HA1:=hkh hb (zAh _ _ _ _)
 have HB1:=hkh hb (zAY _ _ _ _)
 have HC1:=hkh hb (zAX _ _ _ _)
 have HW1:=hbn (zAL _ _ _ _) hb
 have hz1:=hb.size
 simp at hz1
 clear hb
 obtain⟨a0,a1,a2,a3,a4⟩:=cells5 HA1.out
 obtain⟨b0,b1,b2,b3,b4⟩:=cells5 HB1.out
 go_wp2_with (first|(go_at_call 34;refine(HPunary.out _).mono ?_;rintro e w' ⟨rfl,rfl⟩)|(go_at_call 35;refine(HPbinary.out _).mono ?_;rintro e w' ⟨rfl,rfl⟩)|(go_at_call 37;refine(HParithmetic.out _).mono ?_;rintro e w' ⟨rfl,rfl⟩)|(go_at_call 38;refine(HPbitwise.out _).mono ?_;rintro e w' ⟨rfl,rfl⟩))
 refine(hs _).mono ?_
 rintro e w8 ⟨rfl,hb⟩
 have HC8:=hkh hb HC1.out
 have HW8:=hbn HW1.out hb
 have hz8:=hb.size
 clear hb a0 a1 a2 a3 a4 b0 b1 b2 b3 b4
 go_wp2_with (first|(go_at_call 34;refine(HPunary.out _).mono ?_;rintro e w' ⟨rfl,rfl⟩)|(go_at_call 35;refine(HPbinary.out _).mono ?_;rintro e w' ⟨rfl,rfl⟩)|(go_at_call 37;refine(HParithmetic.out _).mono ?_;rintro e w' ⟨rfl,rfl⟩)|(go_at_call 38;refine(HPbitwise.out _).mono ?_;rintro e w' ⟨rfl,rfl⟩))
 refine(zBn _ _).mono ?_
 rintro e w9 ⟨rfl,hb⟩
 have HC9:=hkh hb HC8.out
 have HW9:=hbn HW8.out hb
 have hz9:=hb.size
 clear hb
 obtain⟨c0,c1,c2,c3,c4⟩:=cells5 HC9.out
 obtain⟨fc0,fc1,fc2,fc3,fc4⟩:=froz5 HC9.out
 go_wp2
 refine bodyPost_ret (by simp[results,Tryz.results11,go_sem,c0,c1,c2,c3,c4];first|done|rfl) rfl ?_
 exact vr_val (by first|exact hR|(revert hR;cases l<;>exact fun h=>h)) (zAH HW9.out (by omega) _ _ _ _ _)
theorem pplain_len (w:World) (o:Int) (k1 p1 q1:Int) (s1:ByteArray) (r1:Int) (k2 p2 q2:Int) (s2:ByteArray) (r2:Int) (R:VR) (hunary:PureTo 34 o true) (hbinary:PureTo 35 o false) (harithmetic:PureTo 37 o false) (hbitwise:PureTo 38 o false)
  (hv1:∀W,Calls Tryz.prog 36 #[.agg #[k1,p1,q1,s1,r1]] W (BoolPost W true)) (t20:(o==20)=false) (t8:(o==8)=false) (t14:(o==14)=false) (t15:(o==15)=false) (t21:(o==21)=false) (t22:(o==22)=true) (k3:(k1 !=3)=false) (hs:s1.size≤4096) (hR:R= .ok (intV (s1.size:Int))):Calls Tryz.prog 11 #[o,.agg #[k1,p1,q1,s1,r1],.agg #[k2,p2,q2,s2,r2]] w (VrPost w R):=by
 have HPunary:=Lib.hid hunary
 clear hunary
 have HPbinary:=Lib.hid hbinary
 clear hbinary
 have HParithmetic:=Lib.hid harithmetic
 clear harithmetic
 have HPbitwise:=Lib.hid hbitwise
 clear hbitwise
 have HV1:=Lib.hid hv1
 clear hv1
 go_enter Tryz.func11,Tryz.ntmps11
 go_wp2_with (first|(go_at_call 34;refine(HPunary.out _).mono ?_;rintro e w' ⟨rfl,rfl⟩)|(go_at_call 35;refine(HPbinary.out _).mono ?_;rintro e w' ⟨rfl,rfl⟩)|(go_at_call 37;refine(HParithmetic.out _).mono ?_;rintro e w' ⟨rfl,rfl⟩)|(go_at_call 38;refine(HPbitwise.out _).mono ?_;rintro e w' ⟨rfl,rfl⟩))
 refine(HV1.out _).mono ?_
 rintro e w1 ⟨rfl,hb⟩
 have HA1:=hkh hb (zAh _ _ _ _)
 have HB1:=hkh hb (zAY _ _ _ _)
 have HC1:=hkh hb (zAX _ _ _ _)
 have HW1:=hbn (zAL _ _ _ _) hb
 have hz1:=hb.size
 simp at hz1
 clear hb
 obtain⟨a0,a1,a2,a3,a4⟩:=cells5 HA1.out
 obtain⟨b0,b1,b2,b3,b4⟩:=cells5 HB1.out
 go_wp2_with (first|(go_at_call 34;refine(HPunary.out _).mono ?_;rintro e w' ⟨rfl,rfl⟩)|(go_at_call 35;refine(HPbinary.out _).mono ?_;rintro e w' ⟨rfl,rfl⟩)|(go_at_call 37;refine(HParithmetic.out _).mono ?_;rintro e w' ⟨rfl,rfl⟩)|(go_at_call 38;refine(HPbitwise.out _).mono ?_;rintro e w' ⟨rfl,rfl⟩))
 refine(pOfInt_c _ _).mono ?_
 rintro e w9 ⟨rfl,hb⟩
 have HC9:=hkh hb HC1.out
 have HW9:=hbn HW1.out hb
 have hz9:=hb.size
 clear hb a0 a1 a2 a3 a4 b0 b1 b2 b3 b4
 obtain⟨c0,c1,c2,c3,c4⟩:=cells5 HC9.out
 obtain⟨fc0,fc1,fc2,fc3,fc4⟩:=froz5 HC9.out
 go_wp2
 refine bodyPost_ret (by simp[results,Tryz.results11,go_sem,c0,c1,c2,c3,c4];first|done|rfl) rfl ?_
 exact vr_val hR (zAH HW9.out (by omega) _ _ _ _ _)
theorem pplain_lenerr (w:World) (o:Int) (k1 p1 q1:Int) (s1:ByteArray) (r1:Int) (k2 p2 q2:Int) (s2:ByteArray) (r2:Int) (R:VR) (hunary:PureTo 34 o true) (hbinary:PureTo 35 o false) (harithmetic:PureTo 37 o false) (hbitwise:PureTo 38 o false)
  (hv1:∀W,Calls Tryz.prog 36 #[.agg #[k1,p1,q1,s1,r1]] W (BoolPost W true)) (t20:(o==20)=false) (t8:(o==8)=false) (t14:(o==14)=false) (t15:(o==15)=false) (t21:(o==21)=false) (t22:(o==22)=true) (k3:(k1 !=3)=true) (hR:R= .error 8):Calls Tryz.prog 11 #[o,.agg #[k1,p1,q1,s1,r1],.agg #[k2,p2,q2,s2,r2]] w (VrPost w R):=by
 have HPunary:=Lib.hid hunary
 clear hunary
 have HPbinary:=Lib.hid hbinary
 clear hbinary
 have HParithmetic:=Lib.hid harithmetic
 clear harithmetic
 have HPbitwise:=Lib.hid hbitwise
 clear hbitwise
 have HV1:=Lib.hid hv1
 clear hv1
 go_enter Tryz.func11,Tryz.ntmps11
 go_wp2_with (first|(go_at_call 34;refine(HPunary.out _).mono ?_;rintro e w' ⟨rfl,rfl⟩)|(go_at_call 35;refine(HPbinary.out _).mono ?_;rintro e w' ⟨rfl,rfl⟩)|(go_at_call 37;refine(HParithmetic.out _).mono ?_;rintro e w' ⟨rfl,rfl⟩)|(go_at_call 38;refine(HPbitwise.out _).mono ?_;rintro e w' ⟨rfl,rfl⟩))
 refine(HV1.out _).mono ?_
 rintro e w1 ⟨rfl,hb⟩
 have HA1:=hkh hb (zAh _ _ _ _)
 have HB1:=hkh hb (zAY _ _ _ _)
 have HC1:=hkh hb (zAX _ _ _ _)
 have HW1:=hbn (zAL _ _ _ _) hb
 have hz1:=hb.size
 simp at hz1
 clear hb
 obtain⟨a0,a1,a2,a3,a4⟩:=cells5 HA1.out
 obtain⟨c0,c1,c2,c3,c4⟩:=cells5 HC1.out
 obtain⟨fc0,fc1,fc2,fc3,fc4⟩:=froz5 HC1.out
 go_wp2_with (first|(go_at_call 34;refine(HPunary.out _).mono ?_;rintro e w' ⟨rfl,rfl⟩)|(go_at_call 35;refine(HPbinary.out _).mono ?_;rintro e w' ⟨rfl,rfl⟩)|(go_at_call 37;refine(HParithmetic.out _).mono ?_;rintro e w' ⟨rfl,rfl⟩)|(go_at_call 38;refine(HPbitwise.out _).mono ?_;rintro e w' ⟨rfl,rfl⟩))
 refine bodyPost_ret (by simp[results,Tryz.results11,go_sem,c0,c1,c2,c3,c4];first|done|rfl) rfl ?_
 exact zBM hR (zAH HW1.out (by omega) _ _ _ _ _)
end Go.Proofs.YthkpckgcgkijbaaGreatDoor
