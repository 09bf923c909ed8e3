import Derived.Test.YthkpckgcgkijbaaGreatDoorOpCw
import Derived.Test.YthkpckgcgkijbaaGreatDoorNumU
set_option linter.unusedVariables false
set_option linter.unusedSimpArgs false
set_option maxRecDepth 100000
set_option maxHeartbeats 2000000
namespace Go.Proofs.YthkpckgcgkijbaaGreatDoor
open Go.RowKit Go.Proofs.Lexi
theorem stext_c (w:World) (p q:Int):Calls Tryz.prog 156 #[.agg #[.int .i64 p,.int .i64 q]] w (StrB w (textB (p,q))):=by
 have HB:=Lib.hid (zAe w (o2 p q))
 obtain⟨R,hR⟩:∃R,R=textB (p,q):=⟨_,rfl⟩
 rw[←hR]
 have HV:=Lib.hid (fun W=>zBB W p q)
 obtain⟨V,hV⟩:∃V,zAT (p,q)=V:=⟨_,rfl⟩
 rw[hV] at HV
 cases V with
 |false=>
  have HR:=Lib.hid (show R=⟨#[110,97,110]⟩ from by rw[hR];unfold textB;rw[hV];rfl)
  clear hR hV
  go_enter Tryz.func156,Tryz.ntmps156
  go_wp2_with fail
  refine(HV.out _).mono ?_
  rintro e w1 ⟨rfl,hb⟩
  have HB1:=hbn HB.out hb
  clear hb
  go_wp2
  go_ret
  exact str_done HR.out HB1.out
 |true=>
  obtain⟨b1,b2,b3,b4⟩:=zAN hV
  have HDP:=Lib.hid (fun W=>sdecimal_c W p (by omega) (by omega))
  have HDQ:=Lib.hid (fun W=>sdecimal_c W q (by omega) (by omega))
  have hzp:=itoaB_size (n:=p) b3 b4
  have hzq:=itoaB_size (n:=q) (by omega) b2
  by_cases h1:q=1
  ·have HR:=Lib.hid (show R=itoaB p from by rw[hR];unfold textB;rw[hV,if_pos rfl,if_pos h1])
   have hq1:(q==1)=true:=by rw[beq_iff_eq];exact h1
   clear hR hV h1
   go_enter Tryz.func156,Tryz.ntmps156
   go_wp2_with fail
   refine(HV.out _).mono ?_
   rintro e w1 ⟨rfl,hb⟩
   obtain⟨hc,hf⟩:=bcell hb
   have c0:w1.cell? ⟨w.heap.size,0,none⟩=some (.int .i64 p):=(hc _ _ (by simp)).trans (by simp[go_sem])
   have c1:w1.cell? ⟨w.heap.size,1,none⟩=some (.int .i64 q):=(hc _ _ (by simp)).trans (by simp[go_sem])
   have HB1:=hbn HB.out hb
   clear hb hc hf
   go_wp2_with fail
   refine(HDP.out _).mono ?_
   rintro e w2 ⟨rfl,hb⟩
   have HB2:=hbn HB1.out hb
   clear hb
   go_wp2
   go_ret
   exact str_done HR.out HB2.out
  ·have HR:=Lib.hid (show R=itoaB p++slashB++itoaB q from by rw[hR];unfold textB;rw[hV,if_pos rfl,if_neg h1])
   have hq1:(q==1)=false:=by rw[beq_eq_false_iff_ne];exact h1
   have hss:slashB.size=1:=rfl
   have had1:=add_run (itoaB p) slashB (by omega)
   have had2:=add_run (itoaB p++slashB) (itoaB q) (by rw[ByteArray.size_append];omega)
   obtain⟨A,hA⟩:∃A,itoaB p=A:=⟨_,rfl⟩
   obtain⟨B,hB⟩:∃B,itoaB q=B:=⟨_,rfl⟩
   rw[show(⟨(Lib.itoa p).toArray⟩:ByteArray)=A from hA] at HDP
   rw[show(⟨(Lib.itoa q).toArray⟩:ByteArray)=B from hB] at HDQ
   rw[hA] at had1 had2 HR hzp
   rw[hB] at had2 HR hzq
   obtain⟨X,hX⟩:∃X,A++slashB=X:=⟨_,rfl⟩
   obtain⟨Y,hY⟩:∃Y,X++B=Y:=⟨_,rfl⟩
   rw[hX] at had1 had2 HR
   rw[hY] at had2 HR
   have had1:∀W,(Op.stringOp .add A ⟨#[47]⟩).run Tryz.prog W= .ok (.string X) W:=had1
   clear hR hV h1 hA hB hX hY hss
   go_enter Tryz.func156,Tryz.ntmps156
   go_wp2_with fail
   refine(HV.out _).mono ?_
   rintro e w1 ⟨rfl,hb⟩
   obtain⟨hc,hf⟩:=bcell hb
   have c0:w1.cell? ⟨w.heap.size,0,none⟩=some (.int .i64 p):=(hc _ _ (by simp)).trans (by simp[go_sem])
   have c1:w1.cell? ⟨w.heap.size,1,none⟩=some (.int .i64 q):=(hc _ _ (by simp)).trans (by simp[go_sem])
   have HB1:=hbn HB.out hb
   have SOF:=Lib.hid (fun(W:World) (h:Below w1.heap.size w1 W)=>(⟨keepCell h c0,keepCell h c1⟩:W.cell? ⟨w.heap.size,0,none⟩=some (.int .i64 p)∧W.cell? ⟨w.heap.size,1,none⟩=some (.int .i64 q)))
   have D0:=Lib.hid (show Below w1.heap.size w1 w1.drew from(Below.refl _ _).drew)
   have NXT:=Lib.hid (fun(V W:World) (h1:Below w1.heap.size w1 V) (h2:Below V.heap.size V W)=>h1.trans (h2.mono h1.size))
   have LAST:=Lib.hid (fun(W:World) (h:Below w1.heap.size w1 W)=>zAC HB1.out h)
   clear hb hc hf
   go_wp2
   go_region_held3 (fun W=>W.cell? ⟨w.heap.size,0,none⟩=some (.int .i64 p)∧W.cell? ⟨w.heap.size,1,none⟩=some (.int .i64 q)) (first|exact SOF.out _ (by assumption)|exact SOF.out _ D0.out) (first|((go_at_call 213;(with_reducible refine(HDP.out _).mono ?_);rintro e W ⟨rfl,hbn⟩;have hW:=NXT.out _ _ (by first|assumption|exact D0.out) hbn;clear hbn))|((go_at_call 213;(with_reducible refine(HDQ.out _).mono ?_);rintro e W ⟨rfl,hbn⟩;have hW:=NXT.out _ _ (by first|assumption|exact D0.out) hbn;clear hbn)))
   go_wp2
   go_ret
   exact str_done HR.out (LAST.out _ (by assumption))
theorem sOfString_c (w:World) (s:ByteArray):Calls Tryz.prog 96 #[.string s] w (ValPost w (strV s)):=by
 go_enter Tryz.func96,Tryz.ntmps96
 go_wp2
 refine bodyPost_ret (by simp[results,Tryz.results96,go_sem];first|done|rfl) rfl ?_
 exact zAo rfl (zAe _ _)
theorem sOfInt_c (w:World) (n:Int):Calls Tryz.prog 51 #[.int .i64 n] w (ValPost w (intV n)):=by
 have hw:n< -2147483647∨(¬n< -2147483647∧2147483647<n)∨(¬n< -2147483647∧¬2147483647<n):=by omega
 rcases hw with h|⟨h,h2⟩|⟨h,h2⟩
 ·have HR:=Lib.hid (show intV n=V.nil from by unfold intV;rw[if_neg];rw[inTop_iff];omega)
  go_enter Tryz.func51,Tryz.ntmps51
  go_wp2
  refine bodyPost_ret (by simp[results,Tryz.results51,go_sem];first|done|rfl) rfl ?_
  exact zAo HR.out (zAe _ _)
 ·have HR:=Lib.hid (show intV n=V.nil from by unfold intV;rw[if_neg];rw[inTop_iff];omega)
  go_enter Tryz.func51,Tryz.ntmps51
  go_wp2
  refine bodyPost_ret (by simp[results,Tryz.results51,go_sem];first|done|rfl) rfl ?_
  exact zAo HR.out (zAe _ _)
 ·have HR:=Lib.hid (show intV n=⟨2,n,1,⟨#[]⟩,0⟩ from by unfold intV;rw[if_pos];rw[inTop_iff];omega)
  go_enter Tryz.func51,Tryz.ntmps51
  go_wp2
  refine bodyPost_ret (by simp[results,Tryz.results51,go_sem];first|done|rfl) rfl ?_
  exact zAo HR.out (zAe _ _)
theorem sOfNum_c (w:World) (p q:Int):Calls Tryz.prog 54 #[.agg #[.int .i64 p,.int .i64 q]] w (ValPost w (numVal (p,q))):=by
 cases hv:zAT (p,q)
 all_goals
  have HV:=Lib.hid (fun W=>(hv▸zBB W p q:Calls Tryz.prog 81 #[.agg #[.int .i64 p,.int .i64 q]] W (BoolPost W _)))
  have HW:=Lib.hid hv
  clear hv
  go_enter Tryz.func54,Tryz.ntmps54
  go_wp2_with fail
  refine(HV.out _).mono ?_
  rintro e w1 ⟨rfl,hb⟩
  obtain⟨hc,hf⟩:=bcell hb
  have hz:=hb.size
  simp at hz
  have c0:w1.cell? ⟨w.heap.size,0,none⟩=some (.int .i64 p):=(hc _ _ (by simp<;>omega)).trans (by simp[go_sem])
  have c1:w1.cell? ⟨w.heap.size,1,none⟩=some (.int .i64 q):=(hc _ _ (by simp<;>omega)).trans (by simp[go_sem])
  have HB1:=hbn (zAF _ _ _) hb
  go_wp2
  refine bodyPost_ret (by simp[results,Tryz.results54,go_sem,hc];first|done|rfl) rfl ?_
  refine zAo (show numVal (p,q)=_ from ?_) ?_
  ·unfold numVal;rw[HW.out];rfl
  ·first|exact HB1.out|exact zAH HB1.out (by simp<;>omega) _ _ _ _ _
theorem sStr_c (w:World) (k p q:Int) (s:ByteArray) (r:Int):Calls Tryz.prog 95 #[.agg #[k,p,q,s,r]] w (SrPost w (strOf ⟨k,p,q,s,r⟩)):=by
 by_cases h3:k=3
 ·subst h3
  go_enter Tryz.func95,Tryz.ntmps95
  go_wp2
  go_ret2
  exact sr_ok rfl (zAe _ _)
 ·have k3:(k==3)=false:=by rw[beq_eq_false_iff_ne];exact h3
  by_cases h2:k=2
  ·subst h2
   cases hv:zAT (p,q)
   ·have HV:=Lib.hid (fun W=>(hv▸zBB W p q:Calls Tryz.prog 81 #[.agg #[.int .i64 p,.int .i64 q]] W (BoolPost W _)))
    have HR:=Lib.hid (show strOf ⟨2,p,q,s,r⟩= .error 8 from by show(if zAT (p,q) then _ else _)=_;rw[hv];rfl)
    clear hv h3 k3
    go_enter Tryz.func95,Tryz.ntmps95
    go_wp2_with fail
    refine(HV.out _).mono ?_
    rintro e w1 ⟨rfl,hb⟩
    have HB1:=hbn (zAe _ _) hb
    go_wp2
    go_ret2
    exact sr_err HR.out HB1.out
   ·have HV:=Lib.hid (fun W=>(hv▸zBB W p q:Calls Tryz.prog 81 #[.agg #[.int .i64 p,.int .i64 q]] W (BoolPost W _)))
    have HR:=Lib.hid (show strOf ⟨2,p,q,s,r⟩= .ok (textB (p,q)) from by show(if zAT (p,q) then _ else _)=_;rw[hv];rfl)
    clear hv h3 k3
    go_enter Tryz.func95,Tryz.ntmps95
    go_wp2_with fail
    refine(HV.out _).mono ?_
    rintro e w1 ⟨rfl,hb⟩
    obtain⟨hc,hf⟩:=bcell hb
    have HB1:=hbn (zAe _ _) hb
    go_wp2_with fail
    refine(stext_c w1 p q).mono ?_
    rintro e w2 ⟨rfl,hb2⟩
    have HB2:=hbn HB1.out hb2
    clear hc hf hb hb2
    go_wp2
    go_ret2
    exact sr_ok HR.out HB2.out
  ·have k2:(k==2)=false:=by rw[beq_eq_false_iff_ne];exact h2
   have HR:=Lib.hid (show strOf ⟨k,p,q,s,r⟩= .error 8 from by unfold strOf;rw[if_neg h3,if_neg h2])
   clear h2 h3
   go_enter Tryz.func95,Tryz.ntmps95
   go_wp2
   go_ret2
   exact sr_err HR.out (zAe _ _)
theorem sBefore_c (w:World) (a b:ByteArray) (ha:a.size≤2000000000) (hb:b.size≤2000000000):Calls Tryz.prog 158 #[.string a,.string b] w (PureP w (.bool (beforeB a b))):=by
 obtain⟨R,hR⟩:∃R,beforeL ((zAE a).drop 0) ((zAE b).drop 0)=R:=⟨_,rfl⟩
 rw[show beforeB a b=R from hR]
 have HR0:=Lib.hid hR
 clear hR
 go_enter Tryz.func158,Tryz.ntmps158
 go_wp2
 go_loopg [5] a.size (fun gg v wr=>∃i n:Nat,gg=a.size-i∧v= .int .i64 (i:Int)∧wr=w.drewN n∧i≤a.size∧i≤b.size∧Hid (beforeL ((zAE a).drop i) ((zAE b).drop i)=R))
 case atStart=>exact⟨0,0,rfl,rfl,rfl,Nat.zero_le _,Nat.zero_le _,HR0⟩
 case round=>
  obtain⟨i,n,rfl,rfl,rfl,hia,hib,HI⟩:=hrel
  by_cases h1:i<a.size
  ·by_cases h2:i<b.size
   ·have hst:=before_step h1 h2 HI.out
    by_cases hc:a[i].toNat=b[i].toNat
    ·have HN:=Lib.hid (hst.1 hc)
     have hcc:((a[i].toNat:Int) !=(b[i].toNat:Int))=false:=by rw[bne_eq_false_iff_eq];omega
     clear hst hc
     go_wp2
     refine zAK mixed (by kernel_rfl) ?_
     go_wp2
     refine⟨by kernel_rfl,?_⟩
     go_wp2
     go_roundg (a.size-(i+1))
     case measure=>omega
     case rel=>exact⟨i+1,_,rfl,rfl,(by first|rfl|simp),by omega,by omega,HN⟩
    ·have HN:=Lib.hid (hst.2 hc)
     have hcc:((a[i].toNat:Int) !=(b[i].toNat:Int))=true:=by rw[bne_iff_ne];omega
     clear hst hc
     go_wp2
     refine zAK mixed (by kernel_rfl) ?_
     go_wp2
     refine⟨by kernel_rfl,?_⟩
     go_wp2
     refine zAK mixed (by kernel_rfl) ?_
     go_wp2
     refine⟨by kernel_rfl,?_⟩
     go_wp2
     go_ret
     exact⟨zBq HN.out,_,(by first|rfl|simp)⟩
   ·have HN:=Lib.hid (before_stop (.inr (by omega)) hia hib HI.out)
    go_wp2
    go_ret
    exact⟨zBq HN.out,_,(by first|rfl|simp)⟩
  ·have HN:=Lib.hid (before_stop (.inl (by omega)) hia hib HI.out)
   go_wp2
   go_ret
   exact⟨zBq HN.out,_,(by first|rfl|simp)⟩
theorem sconcat_w (w:World) (k1 p1 q1:Int) (s1:ByteArray) (r1:Int) (k2 p2 q2:Int) (s2:ByteArray) (r2:Int) (x1 x2 X:ByteArray) (c1 c2:Int) (R:VR) (h1:∀W,Below w.heap.size w W→Calls Tryz.prog 95 #[.agg #[k1,p1,q1,s1,r1]] W (fun e w'=>e= .returned (.tuple #[.string x1,.int .i64 c1])∧Below W.heap.size W w')) (h2:∀W,Below w.heap.size w W→Calls Tryz.prog 95 #[.agg #[k2,p2,q2,s2,r2]] W (fun e w'=>e= .returned (.tuple #[.string x2,.int .i64 c2])∧Below W.heap.size W w'))
  (had:∀W,(Op.stringOp .add x1 x2).run Tryz.prog W= .ok (.string X) W) (hx1:x1.size≤2000000000) (hx2:x2.size≤2000000000)
  (hways:((c1 !=0)=true∧R= .error 8)∨((c1 !=0)=false∧(c2 !=0)=true∧R= .error 8)∨((c1 !=0)=false∧(c2 !=0)=false∧4096<x1.size+x2.size∧R= .error 14)∨((c1 !=0)=false∧(c2 !=0)=false∧¬4096<x1.size+x2.size∧R= .ok (strV X))):
  Calls Tryz.prog 47 #[.agg #[k1,p1,q1,s1,r1],.agg #[k2,p2,q2,s2,r2]] w (VrPost w R):=by
 have H1:=Lib.hid h1
 have H2:=Lib.hid h2
 clear h1 h2
 rcases hways with⟨e1,hR⟩|⟨e1,e2,hR⟩|⟨e1,e2,e3,hR⟩|⟨e1,e2,e3,hR⟩
 all_goals
  have HR:=Lib.hid hR
  clear hR
  go_enter Tryz.func47,Tryz.ntmps47
  go_wp2_with fail
  refine(H1.out _ (zAL _ _ _ _)).mono ?_
  rintro e w1 ⟨rfl,hb⟩
  have HA:=hkh hb (zAY _ _ _ _)
  have HB:=hkh hb (zAX _ _ _ _)
  have HW1:=hbn (zAL _ _ _ _) hb
  have hz:=hb.size
  simp at hz
  clear hb
  obtain⟨b0,b1,b2,b3,b4⟩:=cells5 HA.out
  go_wp2_with fail
  refine(H2.out _ HW1.out).mono ?_
  rintro e w2 ⟨rfl,hb⟩
  have HB2:=hkh hb HB.out
  have HW2:=hbn HW1.out hb
  have hz2:=hb.size
  clear hb b0 b1 b2 b3 b4
 ·obtain⟨c0,c1,c2,c3,c4⟩:=cells5 HB2.out
  obtain⟨fc0,fc1,fc2,fc3,fc4⟩:=froz5 HB2.out
  go_wp2
  refine bodyPost_ret (by simp[results,Tryz.results47,go_sem,c0,c1,c2,c3,c4];first|done|rfl) rfl ?_
  exact zBM HR.out (zAH HW2.out (by omega) _ _ _ _ _)
 ·obtain⟨c0,c1,c2,c3,c4⟩:=cells5 HB2.out
  obtain⟨fc0,fc1,fc2,fc3,fc4⟩:=froz5 HB2.out
  go_wp2
  refine bodyPost_ret (by simp[results,Tryz.results47,go_sem,c0,c1,c2,c3,c4];first|done|rfl) rfl ?_
  exact zBM HR.out (zAH HW2.out (by omega) _ _ _ _ _)
 ·obtain⟨c0,c1,c2,c3,c4⟩:=cells5 HB2.out
  obtain⟨fc0,fc1,fc2,fc3,fc4⟩:=froz5 HB2.out
  go_wp2
  refine bodyPost_ret (by simp[results,Tryz.results47,go_sem,c0,c1,c2,c3,c4];first|done|rfl) rfl ?_
  exact zBM HR.out (zAH HW2.out (by omega) _ _ _ _ _)
 ·obtain⟨c0,c1,c2,c3,c4⟩:=cells5 HB2.out
  obtain⟨fc0,fc1,fc2,fc3,fc4⟩:=froz5 HB2.out
  go_wp2_with fail
  refine(sOfString_c _ _).mono ?_
  rintro e w3 ⟨rfl,hb⟩
  have HB3:=hkh hb HB2.out
  have HW3:=hbn HW2.out hb
  clear hb
  clear c0 c1 c2 c3 c4 fc0 fc1 fc2 fc3 fc4
  obtain⟨c0,c1,c2,c3,c4⟩:=cells5 HB3.out
  obtain⟨fc0,fc1,fc2,fc3,fc4⟩:=froz5 HB3.out
  go_wp2
  refine bodyPost_ret (by simp[results,Tryz.results47,go_sem,c0,c1,c2,c3,c4];first|done|rfl) rfl ?_
  exact vr_ok HR.out rfl (zAH HW3.out (by omega) _ _ _ _ _)
theorem sconcat_c (w:World) (k1 p1 q1:Int) (s1:ByteArray) (r1:Int) (k2 p2 q2:Int) (s2:ByteArray) (r2:Int) (h1:s1.size≤4096) (h2:s2.size≤4096):
  Calls Tryz.prog 47 #[.agg #[k1,p1,q1,s1,r1],.agg #[k2,p2,q2,s2,r2]] w (VrPost w (concatV (strOf ⟨k1,p1,q1,s1,r1⟩) (strOf ⟨k2,p2,q2,s2,r2⟩))):=by
 have e1:=strOf_err ⟨k1,p1,q1,s1,r1⟩
 have e2:=strOf_err ⟨k2,p2,q2,s2,r2⟩
 have z1:=strOf_size ⟨k1,p1,q1,s1,r1⟩ h1
 have z2:=strOf_size ⟨k2,p2,q2,s2,r2⟩ h2
 refine sconcat_w w k1 p1 q1 s1 r1 k2 p2 q2 s2 r2 _ _ _ _ _ _ (fun W hW=>sStr_c W k1 p1 q1 s1 r1) (fun W hW=>sStr_c W k2 p2 q2 s2 r2) (add_run _ _ (by omega)) (by omega) (by omega) ?_
 rcases concat_ways (strOf ⟨k1,p1,q1,s1,r1⟩) (strOf ⟨k2,p2,q2,s2,r2⟩) e1.2 with h|h|h|h|h|h
 ·exact .inl h
 ·exact .inr (.inl h)
 ·exact .inr (.inr (.inl h))
 ·exact .inr (.inr (.inr h))
 ·exact absurd h e1.1
 ·exact absurd h e2.1
theorem splain_bad_bin (w:World) (o:Int) (k1 p1 q1:Int) (s1:ByteArray) (r1:Int) (k2 p2 q2:Int) (s2:ByteArray) (r2:Int) (R:VR) (g:o<1∨(¬o<1∧23<o)) (hun:∀W,Calls Tryz.prog 46 #[.int .i64 o] W fun e w'=>e= .returned (.bool false)∧W=w') (hR:R= .error 2):Calls Tryz.prog 12 #[o,.agg #[k1,p1,q1,s1,r1],.agg #[k2,p2,q2,s2,r2]] w (VrPost w R):=by
 have HPU:=Lib.hid hun
 clear hun
 rcases g with g|⟨g,g2⟩
 all_goals
  go_enter Tryz.func12,Tryz.ntmps12
  go_wp2_with (first|(go_at_call 46;refine(HPU.out _).mono ?_;rintro e w' ⟨rfl,rfl⟩))
  refine bodyPost_ret (by simp[results,Tryz.results12,go_sem];first|done|rfl) rfl ?_
  exact zBM hR (by first|exact zAL _ _ _ _|exact zAH (zAL _ _ _ _) (by simp<;>omega) _ _ _ _ _)
theorem splain_badA_bin (w : World) (o : Int) (k1 p1 q1 : Int) (s1 : ByteArray) (r1 : Int) (k2 p2 q2 : Int) (s2 : ByteArray) (r2 : Int) (R : VR) (g1 : 1 ≤ o) (g2 : o ≤ 23) (hun : ∀ W, Calls Tryz.prog 46 #[.int .i64 o] W fun e w' => e = .returned (.bool false) ∧ W = w') (hv1 : ∀ W, Calls Tryz.prog 26 #[.agg #[k1, p1, q1, s1, r1]] W (BoolPost W false))
     (hR : R = .error 2) : Calls Tryz.prog 12 #[o, .agg #[k1, p1, q1, s1, r1], .agg #[k2, p2, q2, s2, r2]] w (VrPost w R) := by
  have HPU := Lib.hid hun
  clear hun
  have HV1 := Lib.hid hv1
  clear hv1
  go_enter Tryz.func12, Tryz.ntmps12
  go_wp2_with (first | (go_at_call 46; refine (HPU.out _).mono ?_; rintro e w' ⟨rfl, rfl⟩))
  refine (HV1.out _).mono ?_
  rintro e w1 ⟨rfl, hb⟩
  have HA1 := hkh hb (zAh _ _ _ _)
  have HB1 := hkh hb (zAY _ _ _ _)
  have HC1 := hkh hb (zAX _ _ _ _)
  have HW1 := hbn (zAL _ _ _ _) hb
  have hz1 := hb.size
  simp at hz1
  clear hb
  obtain ⟨c0, c1, c2, c3, c4⟩ := cells5 HC1.out
  obtain ⟨fc0, fc1, fc2, fc3, fc4⟩ := froz5 HC1.out
  go_wp2_with (first | (go_at_call 46; refine (HPU.out _).mono ?_; rintro e w' ⟨rfl, rfl⟩))
  refine bodyPost_ret (by simp [results, Tryz.results12, go_sem, c0, c1, c2, c3, c4]; first | done | rfl) rfl ?_
  exact zBM hR (zAH HW1.out (by omega) _ _ _ _ _)
theorem splain_badA_un (w : World) (o : Int) (k1 p1 q1 : Int) (s1 : ByteArray) (r1 : Int) (k2 p2 q2 : Int) (s2 : ByteArray) (r2 : Int) (R : VR) (g1 : 1 ≤ o) (g2 : o ≤ 23) (hun : ∀ W, Calls Tryz.prog 46 #[.int .i64 o] W fun e w' => e = .returned (.bool true) ∧ W = w') (hv1 : ∀ W, Calls Tryz.prog 26 #[.agg #[k1, p1, q1, s1, r1]] W (BoolPost W false))
     (hR : R = .error 2) : Calls Tryz.prog 12 #[o, .agg #[k1, p1, q1, s1, r1], .agg #[k2, p2, q2, s2, r2]] w (VrPost w R) := by
  have HPU := Lib.hid hun
  clear hun
  have HV1 := Lib.hid hv1
  clear hv1
  go_enter Tryz.func12, Tryz.ntmps12
  go_wp2_with (first | (go_at_call 46; refine (HPU.out _).mono ?_; rintro e w' ⟨rfl, rfl⟩))
  refine (HV1.out _).mono ?_
  rintro e w1 ⟨rfl, hb⟩
  have HA1 := hkh hb (zAh _ _ _ _)
  have HB1 := hkh hb (zAY _ _ _ _)
  have HC1 := hkh hb (zAX _ _ _ _)
  have HW1 := hbn (zAL _ _ _ _) hb
  have hz1 := hb.size
  simp at hz1
  clear hb
  obtain ⟨c0, c1, c2, c3, c4⟩ := cells5 HC1.out
  obtain ⟨fc0, fc1, fc2, fc3, fc4⟩ := froz5 HC1.out
  go_wp2_with (first | (go_at_call 46; refine (HPU.out _).mono ?_; rintro e w' ⟨rfl, rfl⟩))
  refine bodyPost_ret (by simp [results, Tryz.results12, go_sem, c0, c1, c2, c3, c4]; first | done | rfl) rfl ?_
  exact zBM hR (zAH HW1.out (by omega) _ _ _ _ _)
theorem splain_badB (w : World) (o : Int) (k1 p1 q1 : Int) (s1 : ByteArray) (r1 : Int) (k2 p2 q2 : Int) (s2 : ByteArray) (r2 : Int) (R : VR) (g1 : 1 ≤ o) (g2 : o ≤ 23) (hun : ∀ W, Calls Tryz.prog 46 #[.int .i64 o] W fun e w' => e = .returned (.bool false) ∧ W = w') (hv1 : ∀ W, Calls Tryz.prog 26 #[.agg #[k1, p1, q1, s1, r1]] W (BoolPost W true)) (hv2 : ∀ W, Calls Tryz.prog 26 #[.agg #[k2, p2, q2, s2, r2]] W (BoolPost W false))
     (hR : R = .error 2) : Calls Tryz.prog 12 #[o, .agg #[k1, p1, q1, s1, r1], .agg #[k2, p2, q2, s2, r2]] w (VrPost w R) := by
  have HPU := Lib.hid hun
  clear hun
  have HV1 := Lib.hid hv1
  clear hv1
  have HV2 := Lib.hid hv2
  clear hv2
  go_enter Tryz.func12, Tryz.ntmps12
  go_wp2_with (first | (go_at_call 46; refine (HPU.out _).mono ?_; rintro e w' ⟨rfl, rfl⟩))
  refine (HV1.out _).mono ?_
  rintro e w1 ⟨rfl, hb⟩
  have HA1 := hkh hb (zAh _ _ _ _)
  have HB1 := hkh hb (zAY _ _ _ _)
  have HC1 := hkh hb (zAX _ _ _ _)
  have HW1 := hbn (zAL _ _ _ _) hb
  have hz1 := hb.size
  simp at hz1
  clear hb
  obtain ⟨b0, b1, b2, b3, b4⟩ := cells5 HB1.out
  go_wp2_with (first | (go_at_call 46; refine (HPU.out _).mono ?_; rintro e w' ⟨rfl, rfl⟩))
  refine (HV2.out _).mono ?_
  rintro e w2 ⟨rfl, hb⟩
  have HA2 := hkh hb HA1.out
  have HB2 := hkh hb HB1.out
  have HC2 := hkh hb HC1.out
  have HW2 := hbn HW1.out hb
  have hz2 := hb.size
  clear hb b0 b1 b2 b3 b4
  obtain ⟨c0, c1, c2, c3, c4⟩ := cells5 HC2.out
  obtain ⟨fc0, fc1, fc2, fc3, fc4⟩ := froz5 HC2.out
  go_wp2_with (first | (go_at_call 46; refine (HPU.out _).mono ?_; rintro e w' ⟨rfl, rfl⟩))
  refine bodyPost_ret (by simp [results, Tryz.results12, go_sem, c0, c1, c2, c3, c4]; first | done | rfl) rfl ?_
  exact zBM hR (zAH HW2.out (by omega) _ _ _ _ _)
theorem splain_concat (w:World) (o:Int) (k1 p1 q1:Int) (s1:ByteArray) (r1:Int) (k2 p2 q2:Int) (s2:ByteArray) (r2:Int) (R:VR) (g1:1≤o) (g2:o≤23) (hun:∀W,Calls Tryz.prog 46 #[.int .i64 o] W fun e w'=>e= .returned (.bool false)∧W=w') (hv1:∀W,Calls Tryz.prog 26 #[.agg #[k1,p1,q1,s1,r1]] W (BoolPost W true)) (hv2:∀W,Calls Tryz.prog 26 #[.agg #[k2,p2,q2,s2,r2]] W (BoolPost W true))
  (t8:(o==8)=true) (hc:∀W,Calls Tryz.prog 47 #[.agg #[k1,p1,q1,s1,r1],.agg #[k2,p2,q2,s2,r2]] W (VrPost W R)):Calls Tryz.prog 12 #[o,.agg #[k1,p1,q1,s1,r1],.agg #[k2,p2,q2,s2,r2]] w (VrPost w R):=by
 have HPU:=Lib.hid hun
 clear hun
 have HV1:=Lib.hid hv1
 clear hv1
 have HV2:=Lib.hid hv2
 clear hv2
 go_enter Tryz.func12,Tryz.ntmps12
 go_wp2_with (first|(go_at_call 46;refine(HPU.out _).mono ?_;rintro e w' ⟨rfl,rfl⟩))
 refine(HV1.out _).mono ?_
 rintro e w1 ⟨rfl,hb⟩
 have HA1:=hkh hb (zAh _ _ _ _)
 have HB1:=hkh hb (zAY _ _ _ _)
 have HC1:=hkh hb (zAX _ _ _ _)
 have HW1:=hbn (zAL _ _ _ _) hb
 have hz1:=hb.size
 simp at hz1
 clear hb
 obtain⟨b0,b1,b2,b3,b4⟩:=cells5 HB1.out
 go_wp2_with (first|(go_at_call 46;refine(HPU.out _).mono ?_;rintro e w' ⟨rfl,rfl⟩))
 refine(HV2.out _).mono ?_
 rintro e w2 ⟨rfl,hb⟩
 have HA2:=hkh hb HA1.out
 have HB2:=hkh hb HB1.out
 have HC2:=hkh hb HC1.out
 have HW2:=hbn HW1.out hb
 have hz2:=hb.size
 clear hb b0 b1 b2 b3 b4
 obtain⟨a0,a1,a2,a3,a4⟩:=cells5 HA2.out
 obtain⟨b0,b1,b2,b3,b4⟩:=cells5 HB2.out
 go_wp2_with (first|(go_at_call 46;refine(HPU.out _).mono ?_;rintro e w' ⟨rfl,rfl⟩))
 refine(hc _).mono ?_
 rintro e w9 ⟨rfl,hb⟩
 have HC9:=hkh hb HC2.out
 have HW9:=hbn HW2.out hb
 have hz9:=hb.size
 clear hb a0 a1 a2 a3 a4 b0 b1 b2 b3 b4
 obtain⟨c0,c1,c2,c3,c4⟩:=cells5 HC9.out
 obtain⟨fc0,fc1,fc2,fc3,fc4⟩:=froz5 HC9.out
 go_wp2
 refine bodyPost_ret (by simp[results,Tryz.results12,go_sem,c0,c1,c2,c3,c4];first|done|rfl) rfl ?_
 exact vr_any rfl (zAH HW9.out (by omega) _ _ _ _ _)
theorem splain_cmp16 (w:World) (o:Int) (k1 p1 q1:Int) (s1:ByteArray) (r1:Int) (k2 p2 q2:Int) (s2:ByteArray) (r2:Int) (R:VR) (g1:1≤o) (g2:o≤23) (hun:∀W,Calls Tryz.prog 46 #[.int .i64 o] W fun e w'=>e= .returned (.bool false)∧W=w') (hv1:∀W,Calls Tryz.prog 26 #[.agg #[k1,p1,q1,s1,r1]] W (BoolPost W true)) (hv2:∀W,Calls Tryz.prog 26 #[.agg #[k2,p2,q2,s2,r2]] W (BoolPost W true))
  (t8:(o==8)=false) (t14:(o==14)=false) (t15:(o==15)=false) (t16:(o==16)=true) (hc:∀W,Calls Tryz.prog 49 #[o,.agg #[k1,p1,q1,s1,r1],.agg #[k2,p2,q2,s2,r2]] W (VrPost W R)):Calls Tryz.prog 12 #[o,.agg #[k1,p1,q1,s1,r1],.agg #[k2,p2,q2,s2,r2]] w (VrPost w R):=by
 have HPU:=Lib.hid hun
 clear hun
 have HV1:=Lib.hid hv1
 clear hv1
 have HV2:=Lib.hid hv2
 clear hv2
 go_enter Tryz.func12,Tryz.ntmps12
 go_wp2_with (first|(go_at_call 46;refine(HPU.out _).mono ?_;rintro e w' ⟨rfl,rfl⟩))
 refine(HV1.out _).mono ?_
 rintro e w1 ⟨rfl,hb⟩
 have HA1:=hkh hb (zAh _ _ _ _)
 have HB1:=hkh hb (zAY _ _ _ _)
 have HC1:=hkh hb (zAX _ _ _ _)
 have HW1:=hbn (zAL _ _ _ _) hb
 have hz1:=hb.size
 simp at hz1
 clear hb
 obtain⟨b0,b1,b2,b3,b4⟩:=cells5 HB1.out
 go_wp2_with (first|(go_at_call 46;refine(HPU.out _).mono ?_;rintro e w' ⟨rfl,rfl⟩))
 refine(HV2.out _).mono ?_
 rintro e w2 ⟨rfl,hb⟩
 have HA2:=hkh hb HA1.out
 have HB2:=hkh hb HB1.out
 have HC2:=hkh hb HC1.out
 have HW2:=hbn HW1.out hb
 have hz2:=hb.size
 clear hb b0 b1 b2 b3 b4
 obtain⟨a0,a1,a2,a3,a4⟩:=cells5 HA2.out
 obtain⟨b0,b1,b2,b3,b4⟩:=cells5 HB2.out
 go_wp2_with (first|(go_at_call 46;refine(HPU.out _).mono ?_;rintro e w' ⟨rfl,rfl⟩))
 refine(hc _).mono ?_
 rintro e w9 ⟨rfl,hb⟩
 have HC9:=hkh hb HC2.out
 have HW9:=hbn HW2.out hb
 have hz9:=hb.size
 clear hb a0 a1 a2 a3 a4 b0 b1 b2 b3 b4
 obtain⟨c0,c1,c2,c3,c4⟩:=cells5 HC9.out
 obtain⟨fc0,fc1,fc2,fc3,fc4⟩:=froz5 HC9.out
 go_wp2
 refine bodyPost_ret (by simp[results,Tryz.results12,go_sem,c0,c1,c2,c3,c4];first|done|rfl) rfl ?_
 exact vr_any rfl (zAH HW9.out (by omega) _ _ _ _ _)
theorem splain_cmp17 (w:World) (o:Int) (k1 p1 q1:Int) (s1:ByteArray) (r1:Int) (k2 p2 q2:Int) (s2:ByteArray) (r2:Int) (R:VR) (g1:1≤o) (g2:o≤23) (hun:∀W,Calls Tryz.prog 46 #[.int .i64 o] W fun e w'=>e= .returned (.bool false)∧W=w') (hv1:∀W,Calls Tryz.prog 26 #[.agg #[k1,p1,q1,s1,r1]] W (BoolPost W true)) (hv2:∀W,Calls Tryz.prog 26 #[.agg #[k2,p2,q2,s2,r2]] W (BoolPost W true))
  (t8:(o==8)=false) (t14:(o==14)=false) (t15:(o==15)=false) (t16:(o==16)=false) (t17:(o==17)=true) (hc:∀W,Calls Tryz.prog 49 #[o,.agg #[k1,p1,q1,s1,r1],.agg #[k2,p2,q2,s2,r2]] W (VrPost W R)):Calls Tryz.prog 12 #[o,.agg #[k1,p1,q1,s1,r1],.agg #[k2,p2,q2,s2,r2]] w (VrPost w R):=by
 have HPU:=Lib.hid hun
 clear hun
 have HV1:=Lib.hid hv1
 clear hv1
 have HV2:=Lib.hid hv2
 clear hv2
 go_enter Tryz.func12,Tryz.ntmps12
 go_wp2_with (first|(go_at_call 46;refine(HPU.out _).mono ?_;rintro e w' ⟨rfl,rfl⟩))
 refine(HV1.out _).mono ?_
 rintro e w1 ⟨rfl,hb⟩
 have HA1:=hkh hb (zAh _ _ _ _)
 have HB1:=hkh hb (zAY _ _ _ _)
 have HC1:=hkh hb (zAX _ _ _ _)
 have HW1:=hbn (zAL _ _ _ _) hb
 have hz1:=hb.size
 simp at hz1
 clear hb
 obtain⟨b0,b1,b2,b3,b4⟩:=cells5 HB1.out
 go_wp2_with (first|(go_at_call 46;refine(HPU.out _).mono ?_;rintro e w' ⟨rfl,rfl⟩))
 refine(HV2.out _).mono ?_
 rintro e w2 ⟨rfl,hb⟩
 have HA2:=hkh hb HA1.out
 have HB2:=hkh hb HB1.out
 have HC2:=hkh hb HC1.out
 have HW2:=hbn HW1.out hb
 have hz2:=hb.size
 clear hb b0 b1 b2 b3 b4
 obtain⟨a0,a1,a2,a3,a4⟩:=cells5 HA2.out
 obtain⟨b0,b1,b2,b3,b4⟩:=cells5 HB2.out
 go_wp2_with (first|(go_at_call 46;refine(HPU.out _).mono ?_;rintro e w' ⟨rfl,rfl⟩))
 refine(hc _).mono ?_
 rintro e w9 ⟨rfl,hb⟩
 have HC9:=hkh hb HC2.out
 have HW9:=hbn HW2.out hb
 have hz9:=hb.size
 clear hb a0 a1 a2 a3 a4 b0 b1 b2 b3 b4
 obtain⟨c0,c1,c2,c3,c4⟩:=cells5 HC9.out
 obtain⟨fc0,fc1,fc2,fc3,fc4⟩:=froz5 HC9.out
 go_wp2
 refine bodyPost_ret (by simp[results,Tryz.results12,go_sem,c0,c1,c2,c3,c4];first|done|rfl) rfl ?_
 exact vr_any rfl (zAH HW9.out (by omega) _ _ _ _ _)
theorem splain_cmp18 (w:World) (o:Int) (k1 p1 q1:Int) (s1:ByteArray) (r1:Int) (k2 p2 q2:Int) (s2:ByteArray) (r2:Int) (R:VR) (g1:1≤o) (g2:o≤23) (hun:∀W,Calls Tryz.prog 46 #[.int .i64 o] W fun e w'=>e= .returned (.bool false)∧W=w') (hv1:∀W,Calls Tryz.prog 26 #[.agg #[k1,p1,q1,s1,r1]] W (BoolPost W true)) (hv2:∀W,Calls Tryz.prog 26 #[.agg #[k2,p2,q2,s2,r2]] W (BoolPost W true))
  (t8:(o==8)=false) (t14:(o==14)=false) (t15:(o==15)=false) (t16:(o==16)=false) (t17:(o==17)=false) (t18:(o==18)=true) (hc:∀W,Calls Tryz.prog 49 #[o,.agg #[k1,p1,q1,s1,r1],.agg #[k2,p2,q2,s2,r2]] W (VrPost W R)):Calls Tryz.prog 12 #[o,.agg #[k1,p1,q1,s1,r1],.agg #[k2,p2,q2,s2,r2]] w (VrPost w R):=by
 have HPU:=Lib.hid hun
 clear hun
 have HV1:=Lib.hid hv1
 clear hv1
 have HV2:=Lib.hid hv2
 clear hv2
 go_enter Tryz.func12,Tryz.ntmps12
 go_wp2_with (first|(go_at_call 46;refine(HPU.out _).mono ?_;rintro e w' ⟨rfl,rfl⟩))
 refine(HV1.out _).mono ?_
 rintro e w1 ⟨rfl,hb⟩
 have HA1:=hkh hb (zAh _ _ _ _)
 have HB1:=hkh hb (zAY _ _ _ _)
 have HC1:=hkh hb (zAX _ _ _ _)
 have HW1:=hbn (zAL _ _ _ _) hb
 have hz1:=hb.size
 simp at hz1
 clear hb
 obtain⟨b0,b1,b2,b3,b4⟩:=cells5 HB1.out
 go_wp2_with (first|(go_at_call 46;refine(HPU.out _).mono ?_;rintro e w' ⟨rfl,rfl⟩))
 refine(HV2.out _).mono ?_
 rintro e w2 ⟨rfl,hb⟩
 have HA2:=hkh hb HA1.out
 have HB2:=hkh hb HB1.out
 have HC2:=hkh hb HC1.out
 have HW2:=hbn HW1.out hb
 have hz2:=hb.size
 clear hb b0 b1 b2 b3 b4
 obtain⟨a0,a1,a2,a3,a4⟩:=cells5 HA2.out
 obtain⟨b0,b1,b2,b3,b4⟩:=cells5 HB2.out
 go_wp2_with (first|(go_at_call 46;refine(HPU.out _).mono ?_;rintro e w' ⟨rfl,rfl⟩))
 refine(hc _).mono ?_
 rintro e w9 ⟨rfl,hb⟩
 have HC9:=hkh hb HC2.out
 have HW9:=hbn HW2.out hb
 have hz9:=hb.size
 clear hb a0 a1 a2 a3 a4 b0 b1 b2 b3 b4
 obtain⟨c0,c1,c2,c3,c4⟩:=cells5 HC9.out
 obtain⟨fc0,fc1,fc2,fc3,fc4⟩:=froz5 HC9.out
 go_wp2
 refine bodyPost_ret (by simp[results,Tryz.results12,go_sem,c0,c1,c2,c3,c4];first|done|rfl) rfl ?_
 exact vr_any rfl (zAH HW9.out (by omega) _ _ _ _ _)
theorem splain_cmp19 (w:World) (o:Int) (k1 p1 q1:Int) (s1:ByteArray) (r1:Int) (k2 p2 q2:Int) (s2:ByteArray) (r2:Int) (R:VR) (g1:1≤o) (g2:o≤23) (hun:∀W,Calls Tryz.prog 46 #[.int .i64 o] W fun e w'=>e= .returned (.bool false)∧W=w') (hv1:∀W,Calls Tryz.prog 26 #[.agg #[k1,p1,q1,s1,r1]] W (BoolPost W true)) (hv2:∀W,Calls Tryz.prog 26 #[.agg #[k2,p2,q2,s2,r2]] W (BoolPost W true))
  (t8:(o==8)=false) (t14:(o==14)=false) (t15:(o==15)=false) (t16:(o==16)=false) (t17:(o==17)=false) (t18:(o==18)=false) (t19:(o==19)=true) (hc:∀W,Calls Tryz.prog 49 #[o,.agg #[k1,p1,q1,s1,r1],.agg #[k2,p2,q2,s2,r2]] W (VrPost W R)):Calls Tryz.prog 12 #[o,.agg #[k1,p1,q1,s1,r1],.agg #[k2,p2,q2,s2,r2]] w (VrPost w R):=by
 have HPU:=Lib.hid hun
 clear hun
 have HV1:=Lib.hid hv1
 clear hv1
 have HV2:=Lib.hid hv2
 clear hv2
 go_enter Tryz.func12,Tryz.ntmps12
 go_wp2_with (first|(go_at_call 46;refine(HPU.out _).mono ?_;rintro e w' ⟨rfl,rfl⟩))
 refine(HV1.out _).mono ?_
 rintro e w1 ⟨rfl,hb⟩
 have HA1:=hkh hb (zAh _ _ _ _)
 have HB1:=hkh hb (zAY _ _ _ _)
 have HC1:=hkh hb (zAX _ _ _ _)
 have HW1:=hbn (zAL _ _ _ _) hb
 have hz1:=hb.size
 simp at hz1
 clear hb
 obtain⟨b0,b1,b2,b3,b4⟩:=cells5 HB1.out
 go_wp2_with (first|(go_at_call 46;refine(HPU.out _).mono ?_;rintro e w' ⟨rfl,rfl⟩))
 refine(HV2.out _).mono ?_
 rintro e w2 ⟨rfl,hb⟩
 have HA2:=hkh hb HA1.out
 have HB2:=hkh hb HB1.out
 have HC2:=hkh hb HC1.out
 have HW2:=hbn HW1.out hb
 have hz2:=hb.size
 clear hb b0 b1 b2 b3 b4
 obtain⟨a0,a1,a2,a3,a4⟩:=cells5 HA2.out
 obtain⟨b0,b1,b2,b3,b4⟩:=cells5 HB2.out
 go_wp2_with (first|(go_at_call 46;refine(HPU.out _).mono ?_;rintro e w' ⟨rfl,rfl⟩))
 refine(hc _).mono ?_
 rintro e w9 ⟨rfl,hb⟩
 have HC9:=hkh hb HC2.out
 have HW9:=hbn HW2.out hb
 have hz9:=hb.size
 clear hb a0 a1 a2 a3 a4 b0 b1 b2 b3 b4
 obtain⟨c0,c1,c2,c3,c4⟩:=cells5 HC9.out
 obtain⟨fc0,fc1,fc2,fc3,fc4⟩:=froz5 HC9.out
 go_wp2
 refine bodyPost_ret (by simp[results,Tryz.results12,go_sem,c0,c1,c2,c3,c4];first|done|rfl) rfl ?_
 exact vr_any rfl (zAH HW9.out (by omega) _ _ _ _ _)
theorem splain_not (w:World) (o:Int) (k1 p1 q1:Int) (s1:ByteArray) (r1:Int) (k2 p2 q2:Int) (s2:ByteArray) (r2:Int) (l:Bool) (R:VR) (g1:1≤o) (g2:o≤23) (hun:∀W,Calls Tryz.prog 46 #[.int .i64 o] W fun e w'=>e= .returned (.bool true)∧W=w') (hv1:∀W,Calls Tryz.prog 26 #[.agg #[k1,p1,q1,s1,r1]] W (BoolPost W true)) (hv2:∀W,Calls Tryz.prog 26 #[.agg #[k1,p1,q1,s1,r1]] W (BoolPost W true))
  (t8:(o==8)=false) (t14:(o==14)=false) (t15:(o==15)=false) (t16:(o==16)=false) (t17:(o==17)=false) (t18:(o==18)=false) (t19:(o==19)=false) (t21:(o==21)=true) (hs:∀W,Calls Tryz.prog 50 #[.agg #[k1,p1,q1,s1,r1]] W (BoolPost W l)) (hR:R= .ok (boolV (!l))):Calls Tryz.prog 12 #[o,.agg #[k1,p1,q1,s1,r1],.agg #[k2,p2,q2,s2,r2]] w (VrPost w R):=by
 have HPU:=Lib.hid hun
 clear hun
 have HV1:=Lib.hid hv1
 clear hv1
 have HV2:=Lib.hid hv2
 clear hv2
 go_enter Tryz.func12,Tryz.ntmps12
 go_wp2_with (first|(go_at_call 46;refine(HPU.out _).mono ?_;rintro e w' ⟨rfl,rfl⟩))
 refine(HV1.out _).mono ?_
 rintro e w1 ⟨rfl,hb⟩
 have HA1:=hkh hb (zAh _ _ _ _)
 have HB1:=hkh hb (zAY _ _ _ _)
 have HC1:=hkh hb (zAX _ _ _ _)
 have HW1:=hbn (zAL _ _ _ _) hb
 have hz1:=hb.size
 simp at hz1
 clear hb
 obtain⟨b0,b1,b2,b3,b4⟩:=cells5 HB1.out
 go_wp2_with (first|(go_at_call 46;refine(HPU.out _).mono ?_;rintro e w' ⟨rfl,rfl⟩))
 refine(HV2.out _).mono ?_
 rintro e w2 ⟨rfl,hb⟩
 have HA2:=hkh hb HA1.out
 have HB2:=hkh hb HB1.out
 have HC2:=hkh hb HC1.out
 have HW2:=hbn HW1.out hb
 have hz2:=hb.size
 clear hb b0 b1 b2 b3 b4
 obtain⟨a0,a1,a2,a3,a4⟩:=cells5 HA2.out
 obtain⟨b0,b1,b2,b3,b4⟩:=cells5 HB2.out
 go_wp2_with (first|(go_at_call 46;refine(HPU.out _).mono ?_;rintro e w' ⟨rfl,rfl⟩))
 refine(hs _).mono ?_
 rintro e w8 ⟨rfl,hb⟩
 have HC8:=hkh hb HC2.out
 have HW8:=hbn HW2.out hb
 have hz8:=hb.size
 clear hb a0 a1 a2 a3 a4 b0 b1 b2 b3 b4
 go_wp2_with fail
 refine(zBR _ _).mono ?_
 rintro e w9 ⟨rfl,hb⟩
 have HC9:=hkh hb HC8.out
 have HW9:=hbn HW8.out hb
 have hz9:=hb.size
 clear hb
 obtain⟨c0,c1,c2,c3,c4⟩:=cells5 HC9.out
 obtain⟨fc0,fc1,fc2,fc3,fc4⟩:=froz5 HC9.out
 go_wp2
 refine bodyPost_ret (by simp[results,Tryz.results12,go_sem,c0,c1,c2,c3,c4];first|done|rfl) rfl ?_
 exact vr_val (by first|exact hR|(revert hR;cases l<;>exact fun h=>h)) (zAH HW9.out (by omega) _ _ _ _ _)
theorem splain_len (w:World) (o:Int) (k1 p1 q1:Int) (s1:ByteArray) (r1:Int) (k2 p2 q2:Int) (s2:ByteArray) (r2:Int) (R:VR) (g1:1≤o) (g2:o≤23) (hun:∀W,Calls Tryz.prog 46 #[.int .i64 o] W fun e w'=>e= .returned (.bool true)∧W=w') (hv1:∀W,Calls Tryz.prog 26 #[.agg #[k1,p1,q1,s1,r1]] W (BoolPost W true)) (hv2:∀W,Calls Tryz.prog 26 #[.agg #[k1,p1,q1,s1,r1]] W (BoolPost W true))
  (t8:(o==8)=false) (t14:(o==14)=false) (t15:(o==15)=false) (t16:(o==16)=false) (t17:(o==17)=false) (t18:(o==18)=false) (t19:(o==19)=false) (t21:(o==21)=false) (t22:(o==22)=true) (k3:(k1 !=3)=false) (hs:s1.size≤4096) (hR:R= .ok (intV (s1.size:Int))):Calls Tryz.prog 12 #[o,.agg #[k1,p1,q1,s1,r1],.agg #[k2,p2,q2,s2,r2]] w (VrPost w R):=by
 have HPU:=Lib.hid hun
 clear hun
 have HV1:=Lib.hid hv1
 clear hv1
 have HV2:=Lib.hid hv2
 clear hv2
 go_enter Tryz.func12,Tryz.ntmps12
 go_wp2_with (first|(go_at_call 46;refine(HPU.out _).mono ?_;rintro e w' ⟨rfl,rfl⟩))
 refine(HV1.out _).mono ?_
 rintro e w1 ⟨rfl,hb⟩
 have HA1:=hkh hb (zAh _ _ _ _)
 have HB1:=hkh hb (zAY _ _ _ _)
 have HC1:=hkh hb (zAX _ _ _ _)
 have HW1:=hbn (zAL _ _ _ _) hb
 have hz1:=hb.size
 simp at hz1
 clear hb
 obtain⟨b0,b1,b2,b3,b4⟩:=cells5 HB1.out
 go_wp2_with (first|(go_at_call 46;refine(HPU.out _).mono ?_;rintro e w' ⟨rfl,rfl⟩))
 refine(HV2.out _).mono ?_
 rintro e w2 ⟨rfl,hb⟩
 have HA2:=hkh hb HA1.out
 have HB2:=hkh hb HB1.out
 have HC2:=hkh hb HC1.out
 have HW2:=hbn HW1.out hb
 have hz2:=hb.size
 clear hb b0 b1 b2 b3 b4
 obtain⟨a0,a1,a2,a3,a4⟩:=cells5 HA2.out
 obtain⟨b0,b1,b2,b3,b4⟩:=cells5 HB2.out
 go_wp2_with (first|(go_at_call 46;refine(HPU.out _).mono ?_;rintro e w' ⟨rfl,rfl⟩))
 refine(sOfInt_c _ _).mono ?_
 rintro e w9 ⟨rfl,hb⟩
 have HC9:=hkh hb HC2.out
 have HW9:=hbn HW2.out hb
 have hz9:=hb.size
 clear hb a0 a1 a2 a3 a4 b0 b1 b2 b3 b4
 obtain⟨c0,c1,c2,c3,c4⟩:=cells5 HC9.out
 obtain⟨fc0,fc1,fc2,fc3,fc4⟩:=froz5 HC9.out
 go_wp2
 refine bodyPost_ret (by simp[results,Tryz.results12,go_sem,c0,c1,c2,c3,c4];first|done|rfl) rfl ?_
 exact vr_val hR (zAH HW9.out (by omega) _ _ _ _ _)
theorem splain_lenerr (w:World) (o:Int) (k1 p1 q1:Int) (s1:ByteArray) (r1:Int) (k2 p2 q2:Int) (s2:ByteArray) (r2:Int) (R:VR) (g1:1≤o) (g2:o≤23) (hun:∀W,Calls Tryz.prog 46 #[.int .i64 o] W fun e w'=>e= .returned (.bool true)∧W=w') (hv1:∀W,Calls Tryz.prog 26 #[.agg #[k1,p1,q1,s1,r1]] W (BoolPost W true)) (hv2:∀W,Calls Tryz.prog 26 #[.agg #[k1,p1,q1,s1,r1]] W (BoolPost W true))
  (t8:(o==8)=false) (t14:(o==14)=false) (t15:(o==15)=false) (t16:(o==16)=false) (t17:(o==17)=false) (t18:(o==18)=false) (t19:(o==19)=false) (t21:(o==21)=false) (t22:(o==22)=true) (k3:(k1 !=3)=true) (hR:R= .error 8):Calls Tryz.prog 12 #[o,.agg #[k1,p1,q1,s1,r1],.agg #[k2,p2,q2,s2,r2]] w (VrPost w R):=by
 have HPU:=Lib.hid hun
 clear hun
 have HV1:=Lib.hid hv1
 clear hv1
 have HV2:=Lib.hid hv2
 clear hv2
 go_enter Tryz.func12,Tryz.ntmps12
 go_wp2_with (first|(go_at_call 46;refine(HPU.out _).mono ?_;rintro e w' ⟨rfl,rfl⟩))
 refine(HV1.out _).mono ?_
 rintro e w1 ⟨rfl,hb⟩
 have HA1:=hkh hb (zAh _ _ _ _)
 have HB1:=hkh hb (zAY _ _ _ _)
 have HC1:=hkh hb (zAX _ _ _ _)
 have HW1:=hbn (zAL _ _ _ _) hb
 have hz1:=hb.size
 simp at hz1
 clear hb
 obtain⟨b0,b1,b2,b3,b4⟩:=cells5 HB1.out
 go_wp2_with (first|(go_at_call 46;refine(HPU.out _).mono ?_;rintro e w' ⟨rfl,rfl⟩))
 refine(HV2.out _).mono ?_
 rintro e w2 ⟨rfl,hb⟩
 have HA2:=hkh hb HA1.out
 have HB2:=hkh hb HB1.out
 have HC2:=hkh hb HC1.out
 have HW2:=hbn HW1.out hb
 have hz2:=hb.size
 clear hb b0 b1 b2 b3 b4
 obtain⟨a0,a1,a2,a3,a4⟩:=cells5 HA2.out
 obtain⟨c0,c1,c2,c3,c4⟩:=cells5 HC2.out
 obtain⟨fc0,fc1,fc2,fc3,fc4⟩:=froz5 HC2.out
 go_wp2_with (first|(go_at_call 46;refine(HPU.out _).mono ?_;rintro e w' ⟨rfl,rfl⟩))
 refine bodyPost_ret (by simp[results,Tryz.results12,go_sem,c0,c1,c2,c3,c4];first|done|rfl) rfl ?_
 exact zBM hR (zAH HW2.out (by omega) _ _ _ _ _)
end Go.Proofs.YthkpckgcgkijbaaGreatDoor
