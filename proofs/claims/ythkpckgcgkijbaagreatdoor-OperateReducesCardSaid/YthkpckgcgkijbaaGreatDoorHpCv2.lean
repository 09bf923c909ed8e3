import Derived.Test.YthkpckgcgkijbaaGreatDoorTexD
import Derived.Test.YthkpckgcgkijbaaGreatDoorPlnA
import Derived.Test.YthkpckgcgkijbaaGreatDoorSmD
set_option linter.unusedVariables false
set_option linter.unusedSimpArgs false
set_option maxRecDepth 100000
set_option maxHeartbeats 20000000
namespace Go.Proofs.YthkpckgcgkijbaaGreatDoor
open Go.RowKit Go.Proofs.Lexi
theorem pHand_nil (w:World) (hv:Value) (k1 p1 q1:Int) (s1:ByteArray) (r1:Int) (s:ByteArray) (mk mp mq:Int) (ms:ByteArray) (mr:Int) (h0:mk=0) (T:∀W,Below w.heap.size w W→Calls Tryz.prog 33 #[hv,.agg #[k1,p1,q1,s1,r1]] W (ValPost W ⟨mk,mp,mq,ms,mr⟩)):
  Calls Tryz.prog 127 #[hv,.agg #[k1,p1,q1,s1,r1],s] w (ValPost w V.nil):=by
 have HT:=Lib.hid T
 have h0':(mk==0)=true:=beq_iff_eq.2 h0
 clear T h0
 go_enter Tryz.func127,Tryz.ntmps127
 go_wp2_with fail
 refine(HT.out _ (zAF _ _ _)).mono ?_
 rintro e w1 ⟨rfl,hb⟩
 have Hb1:=hkh hb (zAW _ _ _)
 have HW1:=hbn (zAF _ _ _) hb
 have hz1:=hb.size
 try simp at hz1
 clear hb
 have hyb:w.heap.size+1<w1.heap.size:=hsz Hb1
 obtain⟨b0,b1,b2,b3,b4⟩:=cells5 Hb1.out
 obtain⟨fb0,fb1,fb2,fb3,fb4⟩:=froz5 Hb1.out
 go_wp2
 refine bodyPost_ret (by simp[results,Tryz.results127,go_sem,hyb,b0,b1,b2,b3,b4];first|done|rfl) rfl ?_
 exact zAo rfl ((zAH HW1.out (by omega) _ _ _ _ _).alloc (by simp;omega) _)
theorem pHand_get (w:World) (h:Nat) (k1 p1 q1:Int) (s1:ByteArray) (r1:Int) (s:ByteArray) (mk mp mq:Int) (ms:ByteArray) (mr:Int) (h0:mk≠0) (T:∀W,Below w.heap.size w W→Calls Tryz.prog 33 #[.pointer (some ⟨h,0,none⟩),.agg #[k1,p1,q1,s1,r1]] W (ValPost W ⟨mk,mp,mq,ms,mr⟩))
  (R:VR) (G:∀W,Below w.heap.size w W→Calls Tryz.prog 32 #[.pointer (some ⟨h,0,none⟩),.agg #[mk,mp,mq,ms,mr],.agg #[.int .i64 3,.int .i64 0,.int .i64 0,s,.int .i64 0]] W (VrPost W R)):
  Calls Tryz.prog 127 #[.pointer (some ⟨h,0,none⟩),.agg #[k1,p1,q1,s1,r1],s] w (ValPost w (vV R)):=by
 have HT:=Lib.hid T
 have HG:=Lib.hid G
 have HO:=Lib.hid (fun W=>(pOfString_c W s:Calls Tryz.prog 93 #[.string s] W (ValPost W (strV s))))
 have h0':(mk==0)=false:=beq_eq_false_iff_ne.2 h0
 clear T G h0
 go_enter Tryz.func127,Tryz.ntmps127
 go_wp2_with fail
 refine(HT.out _ (zAF _ _ _)).mono ?_
 rintro e w1 ⟨rfl,hb⟩
 have Hb1:=hkh hb (zAW _ _ _)
 have HW1:=hbn (zAF _ _ _) hb
 have hz1:=hb.size
 try simp at hz1
 clear hb
 go_wp2
 have hlw:w.heap.size+1<w1.heap.size:=hsz Hb1
 obtain⟨B,hB⟩:∃B,B=w1.alloc (.cells #[mk,mp,mq,ms,mr] 25):=⟨_,rfl⟩
 rw[←hB]
 have HBW:=Lib.hid (show Below w.heap.size w B by rw[hB];exact HW1.out.alloc (by omega) _)
 have HBb:=Lib.hid (show B.heap[w.heap.size+1]? =some (oV 0 0 0 ⟨#[]⟩ 0) by rw[hB];exact zAI Hb1.out _)
 have HBm:=Lib.hid (show B.heap[w1.heap.size]? =some (oV mk mp mq ms mr) by rw[hB];exact heap1 w1 _)
 clear hB
 have SO:=Lib.hid (fun W (hb:Below B.heap.size B W)=>(show W.cell? ⟨w1.heap.size,0,none⟩=some (.int .i64 mk)∧W.cell? ⟨w1.heap.size,1,none⟩=some (.int .i64 mp)∧W.cell? ⟨w1.heap.size,2,none⟩=some (.int .i64 mq)∧W.cell? ⟨w1.heap.size,3,none⟩=some (.string ms)∧W.cell? ⟨w1.heap.size,4,none⟩=some (.int .i64 mr)∧Hid (Below B.heap.size B W) from⟨by rw[zAA (hkeep hb HBm.out)];rfl,by rw[zAA (hkeep hb HBm.out)];rfl,by rw[zAA (hkeep hb HBm.out)];rfl,by rw[zAA (hkeep hb HBm.out)];rfl,by rw[zAA (hkeep hb HBm.out)];rfl,Lib.hid hb⟩))
 have hbD:Below B.heap.size B B.drew:=(Below.refl _ _).drew
 go_region_held3 (fun w'=>w'.cell? ⟨w1.heap.size,0,none⟩=some (.int .i64 mk)∧w'.cell? ⟨w1.heap.size,1,none⟩=some (.int .i64 mp)∧w'.cell? ⟨w1.heap.size,2,none⟩=some (.int .i64 mq)∧w'.cell? ⟨w1.heap.size,3,none⟩=some (.string ms)∧w'.cell? ⟨w1.heap.size,4,none⟩=some (.int .i64 mr)∧Hid (Below B.heap.size B w'))
  (first|with_reducible exact SO.out _ (by assumption)|with_reducible exact SO.out _ (zAC (by assumption) (zAm _ _))|with_reducible exact SO.out _ (zAH (by assumption) (by first|exact Nat.le_refl _|exact Below.size (by assumption)) _ _ _ _ _))
  (first|(go_at_call 93;refine(HO.out _).mono ?_;rintro e w2 ⟨rfl,hb⟩;have hb2:=zAC (prj6 (by assumption)) hb;(try with_reducible have Hz:=hkh hb (zBC B (oV 0 0 0 ⟨#[]⟩ 0)));clear hb)|(go_at_call 32;refine(HG.out _ (zAC HBW.out (prj6 (by assumption)))).mono ?_;rintro e w3 ⟨rfl,hb⟩;have hb3:=zAC (prj6 (by assumption)) hb;(first|((with_reducible have Hz3:=hkh hb Hz.out);have z0:w3.cell? ⟨B.heap.size,0,none⟩=some (.int .i64 0):=(by rw[zAA Hz3.out];rfl);have z1:w3.cell? ⟨B.heap.size,1,none⟩=some (.int .i64 0):=(by rw[zAA Hz3.out];rfl);have z2:w3.cell? ⟨B.heap.size,2,none⟩=some (.int .i64 0):=(by rw[zAA Hz3.out];rfl);have z3:w3.cell? ⟨B.heap.size,3,none⟩=some (.string ⟨#[]⟩):=(by rw[zAA Hz3.out];rfl);have z4:w3.cell? ⟨B.heap.size,4,none⟩=some (.int .i64 0):=(by rw[zAA Hz3.out];rfl);have fz0:w3.frozen? ⟨B.heap.size,0,none⟩=false:=zAB Hz3.out _;have fz1:w3.frozen? ⟨B.heap.size,1,none⟩=false:=zAB Hz3.out _;have fz2:w3.frozen? ⟨B.heap.size,2,none⟩=false:=zAB Hz3.out _;have fz3:w3.frozen? ⟨B.heap.size,3,none⟩=false:=zAB Hz3.out _;have fz4:w3.frozen? ⟨B.heap.size,4,none⟩=false:=zAB Hz3.out _)|((with_reducible have Hz3:=hkh hb (zAg w2 (oV 0 0 0 ⟨#[]⟩ 0)));have z0:w3.cell? ⟨w2.heap.size,0,none⟩=some (.int .i64 0):=(by rw[zAA Hz3.out];rfl);have z1:w3.cell? ⟨w2.heap.size,1,none⟩=some (.int .i64 0):=(by rw[zAA Hz3.out];rfl);have z2:w3.cell? ⟨w2.heap.size,2,none⟩=some (.int .i64 0):=(by rw[zAA Hz3.out];rfl);have z3:w3.cell? ⟨w2.heap.size,3,none⟩=some (.string ⟨#[]⟩):=(by rw[zAA Hz3.out];rfl);have z4:w3.cell? ⟨w2.heap.size,4,none⟩=some (.int .i64 0):=(by rw[zAA Hz3.out];rfl);have fz0:w3.frozen? ⟨w2.heap.size,0,none⟩=false:=zAB Hz3.out _;have fz1:w3.frozen? ⟨w2.heap.size,1,none⟩=false:=zAB Hz3.out _;have fz2:w3.frozen? ⟨w2.heap.size,2,none⟩=false:=zAB Hz3.out _;have fz3:w3.frozen? ⟨w2.heap.size,3,none⟩=false:=zAB Hz3.out _;have fz4:w3.frozen? ⟨w2.heap.size,4,none⟩=false:=zAB Hz3.out _)|skip);clear hb))
 all_goals have hzB:=HBW.out.size
 all_goals have hzb:=hsz HBb
 all_goals have hzc:=hb2.size
 ·have HWb:=Lib.hid (show(w3.alloc (.cells #[.int .i64 (vV R).k,.int .i64 (vV R).p,.int .i64 (vV R).q,.string (vV R).s,.int .i64 (vV R).r] 25)).heap[w.heap.size+1]? =some (oV 0 0 0 ⟨#[]⟩ 0) from zAI (hkeep hb3 HBb.out) _)
  have HWr:=Lib.hid (show(w3.alloc (.cells #[.int .i64 (vV R).k,.int .i64 (vV R).p,.int .i64 (vV R).q,.string (vV R).s,.int .i64 (vV R).r] 25)).heap[w3.heap.size]? =some (oV (vV R).k (vV R).p (vV R).q (vV R).s (vV R).r) from heap1 w3 _)
  have HWB:=Lib.hid (show Below w.heap.size w (w3.alloc (.cells #[.int .i64 (vV R).k,.int .i64 (vV R).p,.int .i64 (vV R).q,.string (vV R).s,.int .i64 (vV R).r] 25)) from(zAC HBW.out hb3).alloc (zAC HBW.out hb3).size _)
  generalize (w3.alloc (.cells #[.int .i64 (vV R).k,.int .i64 (vV R).p,.int .i64 (vV R).q,.string (vV R).s,.int .i64 (vV R).r] 25))=W at HWb HWr HWB ⊢
  try clear z0 z1 z2 z3 z4 fz0 fz1 fz2 fz3 fz4
  have hyb:w.heap.size+1<W.heap.size:=hsz HWb
  have hyr:w3.heap.size<W.heap.size:=hsz HWr
  obtain⟨r0,r1,r2,r3,r4⟩:=cells5 HWr.out
  obtain⟨b0,b1,b2,b3,b4⟩:=cells5 HWb.out
  obtain⟨fb0,fb1,fb2,fb3,fb4⟩:=froz5 HWb.out
  go_wp2
  refine bodyPost_ret (by simp[results,Tryz.results127,go_sem,hyb,b0,b1,b2,b3,b4];first|done|rfl) rfl ?_
  exact zAo (v:=vV R) rfl (zAH HWB.out (by omega) _ _ _ _ _)
 ·have HWb:=Lib.hid (show(((((w3.setCell ⟨w2.heap.size,0,none⟩ (.int .i64 (vV R).k)).setCell ⟨w2.heap.size,1,none⟩ (.int .i64 (vV R).p)).setCell ⟨w2.heap.size,2,none⟩ (.int .i64 (vV R).q)).setCell ⟨w2.heap.size,3,none⟩ (.string (vV R).s)).setCell ⟨w2.heap.size,4,none⟩ (.int .i64 (vV R).r)).heap[w.heap.size+1]? =some (oV 0 0 0 ⟨#[]⟩ 0) from zAR (hkeep hb3 HBb.out) (by omega) _ _ _ _ _)
  have HWr:=Lib.hid (show(((((w3.setCell ⟨w2.heap.size,0,none⟩ (.int .i64 (vV R).k)).setCell ⟨w2.heap.size,1,none⟩ (.int .i64 (vV R).p)).setCell ⟨w2.heap.size,2,none⟩ (.int .i64 (vV R).q)).setCell ⟨w2.heap.size,3,none⟩ (.string (vV R).s)).setCell ⟨w2.heap.size,4,none⟩ (.int .i64 (vV R).r)).heap[w2.heap.size]? =some (oV (vV R).k (vV R).p (vV R).q (vV R).s (vV R).r) from zAk Hz3.out _ _ _ _ _)
  have HWB:=Lib.hid (show Below w.heap.size w (((((w3.setCell ⟨w2.heap.size,0,none⟩ (.int .i64 (vV R).k)).setCell ⟨w2.heap.size,1,none⟩ (.int .i64 (vV R).p)).setCell ⟨w2.heap.size,2,none⟩ (.int .i64 (vV R).q)).setCell ⟨w2.heap.size,3,none⟩ (.string (vV R).s)).setCell ⟨w2.heap.size,4,none⟩ (.int .i64 (vV R).r)) from zAH (zAC HBW.out hb3) (by omega) _ _ _ _ _)
  generalize (((((w3.setCell ⟨w2.heap.size,0,none⟩ (.int .i64 (vV R).k)).setCell ⟨w2.heap.size,1,none⟩ (.int .i64 (vV R).p)).setCell ⟨w2.heap.size,2,none⟩ (.int .i64 (vV R).q)).setCell ⟨w2.heap.size,3,none⟩ (.string (vV R).s)).setCell ⟨w2.heap.size,4,none⟩ (.int .i64 (vV R).r))=W at HWb HWr HWB ⊢
  try clear z0 z1 z2 z3 z4 fz0 fz1 fz2 fz3 fz4
  have hyb:w.heap.size+1<W.heap.size:=hsz HWb
  have hyr:w2.heap.size<W.heap.size:=hsz HWr
  obtain⟨r0,r1,r2,r3,r4⟩:=cells5 HWr.out
  obtain⟨b0,b1,b2,b3,b4⟩:=cells5 HWb.out
  obtain⟨fb0,fb1,fb2,fb3,fb4⟩:=froz5 HWb.out
  go_wp2
  refine bodyPost_ret (by simp[results,Tryz.results127,go_sem,hyb,b0,b1,b2,b3,b4];first|done|rfl) rfl ?_
  exact zAo (v:=vV R) rfl (zAH HWB.out (by omega) _ _ _ _ _)
 ·have HWb:=Lib.hid (show(((((w3.setCell ⟨B.heap.size,0,none⟩ (.int .i64 (vV R).k)).setCell ⟨B.heap.size,1,none⟩ (.int .i64 (vV R).p)).setCell ⟨B.heap.size,2,none⟩ (.int .i64 (vV R).q)).setCell ⟨B.heap.size,3,none⟩ (.string (vV R).s)).setCell ⟨B.heap.size,4,none⟩ (.int .i64 (vV R).r)).heap[w.heap.size+1]? =some (oV 0 0 0 ⟨#[]⟩ 0) from zAR (hkeep hb3 HBb.out) (by omega) _ _ _ _ _)
  have HWr:=Lib.hid (show(((((w3.setCell ⟨B.heap.size,0,none⟩ (.int .i64 (vV R).k)).setCell ⟨B.heap.size,1,none⟩ (.int .i64 (vV R).p)).setCell ⟨B.heap.size,2,none⟩ (.int .i64 (vV R).q)).setCell ⟨B.heap.size,3,none⟩ (.string (vV R).s)).setCell ⟨B.heap.size,4,none⟩ (.int .i64 (vV R).r)).heap[B.heap.size]? =some (oV (vV R).k (vV R).p (vV R).q (vV R).s (vV R).r) from zAk Hz3.out _ _ _ _ _)
  have HWB:=Lib.hid (show Below w.heap.size w (((((w3.setCell ⟨B.heap.size,0,none⟩ (.int .i64 (vV R).k)).setCell ⟨B.heap.size,1,none⟩ (.int .i64 (vV R).p)).setCell ⟨B.heap.size,2,none⟩ (.int .i64 (vV R).q)).setCell ⟨B.heap.size,3,none⟩ (.string (vV R).s)).setCell ⟨B.heap.size,4,none⟩ (.int .i64 (vV R).r)) from zAH (zAC HBW.out hb3) (by omega) _ _ _ _ _)
  generalize (((((w3.setCell ⟨B.heap.size,0,none⟩ (.int .i64 (vV R).k)).setCell ⟨B.heap.size,1,none⟩ (.int .i64 (vV R).p)).setCell ⟨B.heap.size,2,none⟩ (.int .i64 (vV R).q)).setCell ⟨B.heap.size,3,none⟩ (.string (vV R).s)).setCell ⟨B.heap.size,4,none⟩ (.int .i64 (vV R).r))=W at HWb HWr HWB ⊢
  try clear z0 z1 z2 z3 z4 fz0 fz1 fz2 fz3 fz4
  have hyb:w.heap.size+1<W.heap.size:=hsz HWb
  have hyr:B.heap.size<W.heap.size:=hsz HWr
  obtain⟨r0,r1,r2,r3,r4⟩:=cells5 HWr.out
  obtain⟨b0,b1,b2,b3,b4⟩:=cells5 HWb.out
  obtain⟨fb0,fb1,fb2,fb3,fb4⟩:=froz5 HWb.out
  go_wp2
  refine bodyPost_ret (by simp[results,Tryz.results127,go_sem,hyb,b0,b1,b2,b3,b4];first|done|rfl) rfl ?_
  exact zAo (v:=vV R) rfl (zAH HWB.out (by omega) _ _ _ _ _)
theorem pHand_c (w:World) (h bo bt:Nat) (H:List PO) (hH:HpAt w h bo bt H) (hS:Small 1000 H) (k1 p1 q1:Int) (s1:ByteArray) (r1:Int) (hr:i64 r1) (s:ByteArray) (hs:s.size≤4096):Calls Tryz.prog 127 #[.pointer (some ⟨h,0,none⟩),.agg #[k1,p1,q1,s1,r1],s] w (ValPost w (handH (lh H) ⟨k1,p1,q1,s1,r1⟩ s)):=by
 have hm:=fun W (hb:Below w.heap.size w W)=>pMeta_c W h bo bt H (hH.below hb) k1 p1 q1 s1 r1 hr
 obtain⟨⟨mk,mp,mq,ms,mr⟩,hM⟩:∃M,metaH (lh H) ⟨k1,p1,q1,s1,r1⟩=M:=⟨_,rfl⟩
 rw[hM] at hm
 by_cases h0:mk=0
 ·rw[hand_nil hH (by rw[hM];exact h0)]
  exact pHand_nil w _ k1 p1 q1 s1 r1 s mk mp mq ms mr h0 hm
 ·unfold handH
  have hw:=meta_wf hH ⟨k1,p1,q1,s1,r1⟩
  rw[hM] at hw ⊢
  exact pHand_get w h k1 p1 q1 s1 r1 s mk mp mq ms mr h0 hm _ (fun W hb=>pGet_c W h bo bt H (hH.below hb) hS mk mp mq ms mr hw.r s hs)
theorem object_4 (w:World) (T Dt F:Int) (fv:Value) (i:Int) (hT0:0≤T) (hT:T≤20) (hD0:0≤Dt) (hD:Dt≤20) (h1:decide (i≤T+Dt)=true) (h2:decide (i≤T)=true):Calls Tryz.prog 68 #[.agg #[.int .i64 T,.int .i64 Dt,.int .i64 F,fv],i] w (ValPost w ⟨4,0,0,⟨#[]⟩,i⟩):=by
 go_enter Tryz.func68,Tryz.ntmps68
 go_wp2
 refine bodyPost_ret (by simp[results,Tryz.results68,go_sem];first|done|rfl) rfl ?_
 exact zAo rfl (zAF _ _ _)
theorem object_8 (w:World) (T Dt F:Int) (fv:Value) (i:Int) (hT0:0≤T) (hT:T≤20) (hD0:0≤Dt) (hD:Dt≤20) (h1:decide (i≤T+Dt)=true) (h2:decide (i≤T)=false):Calls Tryz.prog 68 #[.agg #[.int .i64 T,.int .i64 Dt,.int .i64 F,fv],i] w (ValPost w ⟨8,0,0,⟨#[]⟩,i⟩):=by
 go_enter Tryz.func68,Tryz.ntmps68
 go_wp2
 refine bodyPost_ret (by simp[results,Tryz.results68,go_sem];first|done|rfl) rfl ?_
 exact zAo rfl (zAF _ _ _)
theorem object_5 (w:World) (T Dt F:Int) (fv:Value) (i:Int) (hT0:0≤T) (hT:T≤20) (hD0:0≤Dt) (hD:Dt≤20) (h1:decide (i≤T+Dt)=false) (h2:decide (i≤T)=false):Calls Tryz.prog 68 #[.agg #[.int .i64 T,.int .i64 Dt,.int .i64 F,fv],i] w (ValPost w ⟨5,0,0,⟨#[]⟩,i⟩):=by
 go_enter Tryz.func68,Tryz.ntmps68
 go_wp2
 refine bodyPost_ret (by simp[results,Tryz.results68,go_sem];first|done|rfl) rfl ?_
 exact zAo rfl (zAF _ _ _)
theorem object_c (w:World) (T Dt F:Int) (fv:Value) (i:Int) (hT0:0≤T) (hT:T≤20) (hD0:0≤Dt) (hD:Dt≤20):Calls Tryz.prog 68 #[.agg #[.int .i64 T,.int .i64 Dt,.int .i64 F,fv],i] w (ValPost w (objM T Dt i)):=by
 unfold objM
 by_cases h2:i≤T
 ·rw[if_pos h2]
  exact object_4 w T Dt F fv i hT0 hT hD0 hD (by rw[decide_eq_true_eq];omega) (by rw[decide_eq_true_eq];exact h2)
 ·rw[if_neg h2]
  by_cases h1:i≤T+Dt
  ·rw[if_pos h1]
   exact object_8 w T Dt F fv i hT0 hT hD0 hD (by rw[decide_eq_true_eq];exact h1) (by rw[decide_eq_false_iff_not];exact h2)
  ·rw[if_neg h1]
   exact object_5 w T Dt F fv i hT0 hT hD0 hD (by rw[decide_eq_false_iff_not];exact h1) (by rw[decide_eq_false_iff_not];exact h2)
theorem pNT {base n:Nat} {w:World} {h:Nat} {M:LH} (hP:PHp base n w h M) (hb:base≤w.heap.size) (hl:M.length≤60):Calls Tryz.prog 61 #[.pointer (some ⟨h,0,none⟩)] w (fun e w'=>(∃v,e= .returned v)∧PHp base n w' h (M++[⟨4,V.nil,[]⟩])∧BM base PB w w'):=
 grow_php hP hb hl (fun bo bt H hH hl2=>pNewTable_c w h bo bt H hH hl2)
theorem pNF {base n:Nat} {w:World} {h:Nat} {M:LH} (hP:PHp base n w h M) (hb:base≤w.heap.size) (hl:M.length≤60) (tag:Int):Calls Tryz.prog 65 #[.pointer (some ⟨h,0,none⟩),tag] w (fun e w'=>(∃v,e= .returned v)∧PHp base n w' h (M++[⟨5,V.nil,[]⟩])∧BM base PB w w'):=
 grow_php hP hb hl (fun bo bt H hH hl2=>pNewFunc_c w h bo bt H hH hl2 tag)
theorem pND {base n:Nat} {w:World} {h:Nat} {M:LH} (hP:PHp base n w h M) (hb:base≤w.heap.size) (hl:M.length≤60):Calls Tryz.prog 63 #[.pointer (some ⟨h,0,none⟩),.string ⟨#[100]⟩] w (fun e w'=>(∃v,e= .returned v)∧PHp base n w' h (M++[⟨8,V.nil,[]⟩])∧BM base PB w w'):=
 grow_php hP hb hl (fun bo bt H hH hl2=>pNewData_c w h bo bt H hH hl2)
theorem sNT {base n:Nat} {w:World} {h:Nat} {M:LH} (hP:RHp base n w h M) (hb:base≤w.heap.size) (hl:M.length≤60):Calls Tryz.prog 62 #[.pointer (some ⟨h,0,none⟩)] w (fun e w'=>(∃v,e= .returned v)∧RHp base n w' h (M++[⟨4,V.nil,[]⟩])∧BM base SB w w'):=
 grow_rhp hP hb hl (fun av uv H hH hl2=>sNewTable_c w h av uv H hH hl2)
theorem sNF {base n:Nat} {w:World} {h:Nat} {M:LH} (hP:RHp base n w h M) (hb:base≤w.heap.size) (hl:M.length≤60) (tag:Int):Calls Tryz.prog 66 #[.pointer (some ⟨h,0,none⟩),tag] w (fun e w'=>(∃v,e= .returned v)∧RHp base n w' h (M++[⟨5,V.nil,[]⟩])∧BM base SB w w'):=
 grow_rhp hP hb hl (fun av uv H hH hl2=>sNewFunc_c w h av uv H hH hl2 tag)
theorem sND {base n:Nat} {w:World} {h:Nat} {M:LH} (hP:RHp base n w h M) (hb:base≤w.heap.size) (hl:M.length≤60):Calls Tryz.prog 64 #[.pointer (some ⟨h,0,none⟩),.string ⟨#[100]⟩] w (fun e w'=>(∃v,e= .returned v)∧RHp base n w' h (M++[⟨8,V.nil,[]⟩])∧BM base SB w w'):=
 grow_rhp hP hb hl (fun av uv H hH hl2=>sNewData_c w h av uv H hH hl2)
end Go.Proofs.YthkpckgcgkijbaaGreatDoor
