import Derived.Test.YthkpckgcgkijbaaGreatDoorOpD
import Derived.Test.YthkpckgcgkijbaaGreatDoorMapL
set_option linter.unusedVariables false
set_option linter.unusedSimpArgs false
set_option maxRecDepth 100000
set_option maxHeartbeats 2000000
namespace Go.Proofs.YthkpckgcgkijbaaGreatDoor
open Go.RowKit Go.Proofs.Lexi Go.Proofs.Tryz
theorem U6 (w:World) (m cap:Nat) (so:Option Addr) (L:List Sl) (hm:w.heap[m]? =some (.cells #[.slice so L.length cap] 181)) (hrow:w.ownsRow 0 186 11 (.slice so L.length cap) L.length (ZA L)) (hL:L.length<=1000) (k1 p1 q1:Int) (s1:ByteArray) (r1:Int) (k2 p2 q2:Int) (s2:ByteArray) (r2:Int) (hvk:∀W,Calls prog 26 #[.agg #[k1,p1,q1,s1,r1]] W (BoolPost W true)) (hvv:∀W,Calls prog 26 #[.agg #[k2,p2,q2,s2,r2]] W (BoolPost W true)) (hk0:(k1==0)=false) (i:Nat) (sl:Sl) (hsl:L[i]? =some sl) (hg:sl.g=false) (hfi:∀W,Below w w W->Calls prog 226 #[m,.agg #[k1,p1,q1,s1,r1]] W (IntPost W ((i:Nat):Int))) (hv0:(k2==0)=true):Calls prog 175 #[m,.agg #[k1,p1,q1,s1,r1],.agg #[k2,p2,q2,s2,r2]] w (fun e w'=>e= .returned (.int .i64 0)/\∃w2 rb,so=some ⟨rb,0,none⟩/\Below w w w2/\w'=setCells w2 rb (i*11) (ZP ⟨⟨k1,p1,q1,s1,r1⟩,V.nil,true⟩)):=by
 have hml:m<w:=(Array.getElem?_eq_some_iff.1 hm).1;have hl2:=ZR L;have hnl:i<L.length:=(List.getElem?_eq_some_iff.1 hsl).1;have hge:(0:Int)<=((i:Nat):Int):=by omega
 have hge2:decide ((0:Int)<=((i:Nat):Int))=true:=by rw[decide_eq_true_eq];exact hge
 obtain⟨rb,cap',he⟩:=Qh hrow (by omega);injection he with he1 he2 he3;subst he1;subst he3;have hrl:rb<w.heap.size:=(QS hrow rfl).2;have HSL:=zh hsl;clear hsl;have HM:=zh hm;have HROW:=zh hrow;have HVK:=zh hvk;have HVV:=zh hvv;have HF:=zh hfi;clear hvk hvv hfi hm hrow;go_enter func175,ntmps175;go_wp2_with fail
 refine(HVK.out _).mono ?_;rintro e w1 ⟨rfl,hb⟩;have Ha1:=hkh hb (Qm _ _ _);have Hb1:=hkh hb (QY _ _ _);have Hm1:=hkh hb (Qs HM.out _ _);have HW1:=hbn (QE _ _ _) hb;have hz1:=hb.size;try simp at hz1
 clear hb;have hyb:=hsz Hb1;obtain⟨b0,b1,b2,b3,b4⟩:=zc5 Hb1;go_wp2_with fail
 refine(HVV.out _).mono ?_;rintro e w2 ⟨rfl,hb⟩;have Ha2:=hkh hb Ha1;have Hb2:=hkh hb Hb1;have Hm2:=hkh hb Hm1;have HW2:=hbn HW1 hb;have hz2:=hb.size;try simp at hz2
 clear hb;clear hyb b0 b1 b2 b3 b4;have hya:=hsz Ha2;obtain⟨a0,a1,a2,a3,a4⟩:=zc5 Ha2;go_wp2_with fail
 refine(HF.out _ HW2.out).mono ?_;rintro e w3 ⟨rfl,hb⟩;have Ha3:=hkh hb Ha2;have Hb3:=hkh hb Hb2;have Hm3:=hkh hb Hm2;have HW3:=hbn HW2 hb;have hz3:=hb.size;try simp at hz3
 clear hb;clear hya a0 a1 a2 a3 a4;have hya:=hsz Ha3;obtain⟨a0,a1,a2,a3,a4⟩:=zc5 Ha3;have hyb:=hsz Hb3;obtain⟨b0,b1,b2,b3,b4⟩:=zc5 Hb3;have hym:=hsz Hm3;have m0:w3.cell? m=some (.slice (some ⟨rb,0,none⟩) L.length cap):=by rw[QA Hm3.out];rfl
 have fm0:w3.frozen? m=false:=QB Hm3.out _;have HROW3:=zh (QR (QV HW3.out zl) HROW.out);have rc10:w3.cell? ⟨rb,i*11+10,none⟩=some (.bool sl.g):=(HROW3.out.cellAt (i*11+10) (by omega)).trans (Qk L i 10 sl HSL.out (by decide));rw[hg] at rc10;go_wp2;have HTH:=zh (fun W (hW:W.heap=w3.heap)=>JF (Qb (w3:=W) HROW3.out (fun g _=>by rw[hW])) (i*11) 11 (by omega));refine QK mixed (by kernel_rfl) ?_;go_wp2_with (refine wpList_store_mid rfl 186 _ _ rfl rb (i*11) _ rfl rfl (HTH.out _ rfl) LB (by simp[Value.oneCell']) ?_)
 refine⟨by kernel_rfl,?_⟩;go_wp2
 go_ret
 exact⟨rfl,w3.drew,rb,rfl,HW3.out.drew,ZH (ZP ⟨⟨k1,p1,q1,s1,r1⟩,V.nil,true⟩) w3.drew (i*11)⟩
theorem U7 (w:World) (m cap:Nat) (so:Option Addr) (L:List Sl) (hm:w.heap[m]? =some (.cells #[.slice so L.length cap] 181)) (hrow:w.ownsRow 0 186 11 (.slice so L.length cap) L.length (ZA L)) (hL:L.length<=1000) (k1 p1 q1:Int) (s1:ByteArray) (r1:Int) (k2 p2 q2:Int) (s2:ByteArray) (r2:Int) (hvk:∀W,Calls prog 26 #[.agg #[k1,p1,q1,s1,r1]] W (BoolPost W true)) (hvv:∀W,Calls prog 26 #[.agg #[k2,p2,q2,s2,r2]] W (BoolPost W true)) (hk0:(k1==0)=false) (i:Nat) (sl:Sl) (hsl:L[i]? =some sl) (hg:sl.g=true) (hfi:∀W,Below w w W->Calls prog 226 #[m,.agg #[k1,p1,q1,s1,r1]] W (IntPost W ((i:Nat):Int))) (hv0:(k2==0)=true):Calls prog 175 #[m,.agg #[k1,p1,q1,s1,r1],.agg #[k2,p2,q2,s2,r2]] w (fun e w'=>e= .returned (.int .i64 0)/\∃w2 rb,so=some ⟨rb,0,none⟩/\Below w w w2/\w'=setCells w2 rb (i*11) (ZP ⟨⟨k1,p1,q1,s1,r1⟩,V.nil,true⟩)):=by
 have hml:m<w:=(Array.getElem?_eq_some_iff.1 hm).1;have hl2:=ZR L;have hnl:i<L.length:=(List.getElem?_eq_some_iff.1 hsl).1;have hge:(0:Int)<=((i:Nat):Int):=by omega
 have hge2:decide ((0:Int)<=((i:Nat):Int))=true:=by rw[decide_eq_true_eq];exact hge
 obtain⟨rb,cap',he⟩:=Qh hrow (by omega);injection he with he1 he2 he3;subst he1;subst he3;have hrl:rb<w.heap.size:=(QS hrow rfl).2;have HSL:=zh hsl;clear hsl;have HM:=zh hm;have HROW:=zh hrow;have HVK:=zh hvk;have HVV:=zh hvv;have HF:=zh hfi;clear hvk hvv hfi hm hrow;go_enter func175,ntmps175;go_wp2_with fail
 refine(HVK.out _).mono ?_;rintro e w1 ⟨rfl,hb⟩;have Ha1:=hkh hb (Qm _ _ _);have Hb1:=hkh hb (QY _ _ _);have Hm1:=hkh hb (Qs HM.out _ _);have HW1:=hbn (QE _ _ _) hb;have hz1:=hb.size;try simp at hz1
 clear hb;have hyb:=hsz Hb1;obtain⟨b0,b1,b2,b3,b4⟩:=zc5 Hb1;go_wp2_with fail
 refine(HVV.out _).mono ?_;rintro e w2 ⟨rfl,hb⟩;have Ha2:=hkh hb Ha1;have Hb2:=hkh hb Hb1;have Hm2:=hkh hb Hm1;have HW2:=hbn HW1 hb;have hz2:=hb.size;try simp at hz2
 clear hb;clear hyb b0 b1 b2 b3 b4;have hya:=hsz Ha2;obtain⟨a0,a1,a2,a3,a4⟩:=zc5 Ha2;go_wp2_with fail
 refine(HF.out _ HW2.out).mono ?_;rintro e w3 ⟨rfl,hb⟩;have Ha3:=hkh hb Ha2;have Hb3:=hkh hb Hb2;have Hm3:=hkh hb Hm2;have HW3:=hbn HW2 hb;have hz3:=hb.size;try simp at hz3
 clear hb;clear hya a0 a1 a2 a3 a4;have hya:=hsz Ha3;obtain⟨a0,a1,a2,a3,a4⟩:=zc5 Ha3;have hyb:=hsz Hb3;obtain⟨b0,b1,b2,b3,b4⟩:=zc5 Hb3;have hym:=hsz Hm3;have m0:w3.cell? m=some (.slice (some ⟨rb,0,none⟩) L.length cap):=by rw[QA Hm3.out];rfl
 have fm0:w3.frozen? m=false:=QB Hm3.out _;have HROW3:=zh (QR (QV HW3.out zl) HROW.out);have rc10:w3.cell? ⟨rb,i*11+10,none⟩=some (.bool sl.g):=(HROW3.out.cellAt (i*11+10) (by omega)).trans (Qk L i 10 sl HSL.out (by decide));rw[hg] at rc10;go_wp2;have HTH:=zh (fun W (hW:W.heap=w3.heap)=>JF (Qb (w3:=W) HROW3.out (fun g _=>by rw[hW])) (i*11) 11 (by omega));refine QK mixed (by kernel_rfl) ?_;go_wp2_with (refine wpList_store_mid rfl 186 _ _ rfl rb (i*11) _ rfl rfl (HTH.out _ rfl) LB (by simp[Value.oneCell']) ?_)
 refine⟨by kernel_rfl,?_⟩;go_wp2
 go_ret
 exact⟨rfl,w3.drew,rb,rfl,HW3.out.drew,ZH (ZP ⟨⟨k1,p1,q1,s1,r1⟩,V.nil,true⟩) w3.drew (i*11)⟩
theorem U5 (w:World) (m cap:Nat) (so:Option Addr) (L:List Sl) (hm:w.heap[m]? =some (.cells #[.slice so L.length cap] 181)) (hrow:w.ownsRow 0 186 11 (.slice so L.length cap) L.length (ZA L)) (hL:L.length<=1000) (k1 p1 q1:Int) (s1:ByteArray) (r1:Int) (k2 p2 q2:Int) (s2:ByteArray) (r2:Int) (hvk:∀W,Calls prog 26 #[.agg #[k1,p1,q1,s1,r1]] W (BoolPost W true)) (hvv:∀W,Calls prog 26 #[.agg #[k2,p2,q2,s2,r2]] W (BoolPost W true)) (hk0:(k1==0)=false) (hfi:∀W,Below w w W->Calls prog 226 #[m,.agg #[k1,p1,q1,s1,r1]] W (IntPost W (-1))) (hv0:(k2==0)=true):Calls prog 175 #[m,.agg #[k1,p1,q1,s1,r1],.agg #[k2,p2,q2,s2,r2]] w (fun e w'=>e= .returned (.int .i64 0)/\Below w w w'):=by
 have hml:m<w:=(Array.getElem?_eq_some_iff.1 hm).1;have hl2:=ZR L;have HM:=zh hm;have HROW:=zh hrow;have HVK:=zh hvk;have HVV:=zh hvv;have HF:=zh hfi;clear hvk hvv hfi hm hrow;go_enter func175,ntmps175;go_wp2_with fail
 refine(HVK.out _).mono ?_;rintro e w1 ⟨rfl,hb⟩;have Ha1:=hkh hb (Qm _ _ _);have Hb1:=hkh hb (QY _ _ _);have Hm1:=hkh hb (Qs HM.out _ _);have HW1:=hbn (QE _ _ _) hb;have hz1:=hb.size;try simp at hz1
 clear hb;have hyb:=hsz Hb1;obtain⟨b0,b1,b2,b3,b4⟩:=zc5 Hb1;go_wp2_with fail
 refine(HVV.out _).mono ?_;rintro e w2 ⟨rfl,hb⟩;have Ha2:=hkh hb Ha1;have Hb2:=hkh hb Hb1;have Hm2:=hkh hb Hm1;have HW2:=hbn HW1 hb;have hz2:=hb.size;try simp at hz2
 clear hb;clear hyb b0 b1 b2 b3 b4;have hya:=hsz Ha2;obtain⟨a0,a1,a2,a3,a4⟩:=zc5 Ha2;go_wp2_with fail
 refine(HF.out _ HW2.out).mono ?_;rintro e w3 ⟨rfl,hb⟩;have Ha3:=hkh hb Ha2;have Hb3:=hkh hb Hb2;have Hm3:=hkh hb Hm2;have HW3:=hbn HW2 hb;have hz3:=hb.size;try simp at hz3
 clear hb;clear hya a0 a1 a2 a3 a4;have hya:=hsz Ha3;obtain⟨a0,a1,a2,a3,a4⟩:=zc5 Ha3;have hyb:=hsz Hb3;obtain⟨b0,b1,b2,b3,b4⟩:=zc5 Hb3;have hym:=hsz Hm3;have m0:w3.cell? m=some (.slice so L.length cap):=by rw[QA Hm3.out];rfl
 have fm0:w3.frozen? m=false:=QB Hm3.out _;have HROW3:=zh (QR (QV HW3.out zl) HROW.out);go_wp2
 go_ret
 exact⟨rfl,HW3.out⟩
theorem NR (w:World) (m cap:Nat) (so:Option Addr) (L:List Sl) (hm:w.heap[m]? =some (.cells #[.slice so L.length cap] 181)) (hrow:w.ownsRow 0 186 11 (.slice so L.length cap) L.length (ZA L)) (hL:L.length<=1000) (k1 p1 q1:Int) (s1:ByteArray) (r1:Int) (k2 p2 q2:Int) (s2:ByteArray) (r2:Int) (hvk:∀W,Calls prog 26 #[.agg #[k1,p1,q1,s1,r1]] W (BoolPost W true)) (hvv:∀W,Calls prog 26 #[.agg #[k2,p2,q2,s2,r2]] W (BoolPost W true)) (hk0:(k1==0)=false) (i:Nat) (sl:Sl) (hsl:L[i]? =some sl) (hg:sl.g=false) (hfi:∀W,Below w w W->Calls prog 226 #[m,.agg #[k1,p1,q1,s1,r1]] W (IntPost W ((i:Nat):Int))) (hv0:(k2==0)=false):Calls prog 175 #[m,.agg #[k1,p1,q1,s1,r1],.agg #[k2,p2,q2,s2,r2]] w (fun e w'=>e= .returned (.int .i64 0)/\∃w2 rb,so=some ⟨rb,0,none⟩/\Below w w w2/\w'=setCells w2 rb (i*11+5) (ZC ⟨k2,p2,q2,s2,r2⟩)):=by
 have hml:m<w:=(Array.getElem?_eq_some_iff.1 hm).1;have hl2:=ZR L;have hnl:i<L.length:=(List.getElem?_eq_some_iff.1 hsl).1;have hge:(0:Int)<=((i:Nat):Int):=by omega
 have hge2:decide ((0:Int)<=((i:Nat):Int))=true:=by rw[decide_eq_true_eq];exact hge
 obtain⟨rb,cap',he⟩:=Qh hrow (by omega);injection he with he1 he2 he3;subst he1;subst he3;have hrl:rb<w.heap.size:=(QS hrow rfl).2;have HSL:=zh hsl;clear hsl;have HM:=zh hm;have HROW:=zh hrow;have HVK:=zh hvk;have HVV:=zh hvv;have HF:=zh hfi;clear hvk hvv hfi hm hrow;go_enter func175,ntmps175;go_wp2_with fail
 refine(HVK.out _).mono ?_;rintro e w1 ⟨rfl,hb⟩;have Ha1:=hkh hb (Qm _ _ _);have Hb1:=hkh hb (QY _ _ _);have Hm1:=hkh hb (Qs HM.out _ _);have HW1:=hbn (QE _ _ _) hb;have hz1:=hb.size;try simp at hz1
 clear hb;have hyb:=hsz Hb1;obtain⟨b0,b1,b2,b3,b4⟩:=zc5 Hb1;go_wp2_with fail
 refine(HVV.out _).mono ?_;rintro e w2 ⟨rfl,hb⟩;have Ha2:=hkh hb Ha1;have Hb2:=hkh hb Hb1;have Hm2:=hkh hb Hm1;have HW2:=hbn HW1 hb;have hz2:=hb.size;try simp at hz2
 clear hb;clear hyb b0 b1 b2 b3 b4;have hya:=hsz Ha2;obtain⟨a0,a1,a2,a3,a4⟩:=zc5 Ha2;go_wp2_with fail
 refine(HF.out _ HW2.out).mono ?_;rintro e w3 ⟨rfl,hb⟩;have Ha3:=hkh hb Ha2;have Hb3:=hkh hb Hb2;have Hm3:=hkh hb Hm2;have HW3:=hbn HW2 hb;have hz3:=hb.size;try simp at hz3
 clear hb;clear hya a0 a1 a2 a3 a4;have hya:=hsz Ha3;obtain⟨a0,a1,a2,a3,a4⟩:=zc5 Ha3;have hyb:=hsz Hb3;obtain⟨b0,b1,b2,b3,b4⟩:=zc5 Hb3;have hym:=hsz Hm3;have m0:w3.cell? m=some (.slice (some ⟨rb,0,none⟩) L.length cap):=by rw[QA Hm3.out];rfl
 have fm0:w3.frozen? m=false:=QB Hm3.out _;have HROW3:=zh (QR (QV HW3.out zl) HROW.out);have rc10:w3.cell? ⟨rb,i*11+10,none⟩=some (.bool sl.g):=(HROW3.out.cellAt (i*11+10) (by omega)).trans (Qk L i 10 sl HSL.out (by decide));rw[hg] at rc10;go_wp2;have HTH:=zh (fun W (hW:W.heap=w3.heap)=>JF (Qb (w3:=W) HROW3.out (fun g _=>by rw[hW])) (i*11+5) 5 (by omega));refine QK mixed (by kernel_rfl) ?_;go_wp2_with (refine wpList_store_mid rfl 25 _ _ rfl rb (i*11+5) _ rfl rfl (HTH.out _ rfl) Uj (by simp[Value.oneCell']) ?_)
 refine⟨by kernel_rfl,?_⟩;go_wp2
 go_ret
 exact⟨rfl,w3.drew,rb,rfl,HW3.out.drew,ZH (ZC ⟨k2,p2,q2,s2,r2⟩) w3.drew (i*11+5)⟩
theorem X9 (w:World) (m cap:Nat) (so:Option Addr) (L:List Sl) (hm:w.heap[m]? =some (.cells #[.slice so L.length cap] 181)) (hrow:w.ownsRow 0 186 11 (.slice so L.length cap) L.length (ZA L)) (hL:L.length<=1000) (k1 p1 q1:Int) (s1:ByteArray) (r1:Int) (k2 p2 q2:Int) (s2:ByteArray) (r2:Int) (hvk:∀W,Calls prog 26 #[.agg #[k1,p1,q1,s1,r1]] W (BoolPost W true)) (hvv:∀W,Calls prog 26 #[.agg #[k2,p2,q2,s2,r2]] W (BoolPost W true)) (hk0:(k1==0)=false) (hfi:∀W,Below w w W->Calls prog 226 #[m,.agg #[k1,p1,q1,s1,r1]] W (IntPost W (-1))) (hv0:(k2==0)=false) (hgn:∀s∈L,s.g=true->s.v=V.nil) (hroom:¬Q1 L+8<L.length-Q1 L):Calls prog 175 #[m,.agg #[k1,p1,q1,s1,r1],.agg #[k2,p2,q2,s2,r2]] w (SmPost w m (.slice so L.length cap) (L++[⟨⟨k1,p1,q1,s1,r1⟩,⟨k2,p2,q2,s2,r2⟩,false⟩])):=by
 have HGN:=zh hgn;clear hgn;have hml:m<w:=(Array.getElem?_eq_some_iff.1 hm).1;have hl2:=ZR L;have hroomI:¬(((Q1 L:Nat):Int)+8<((L.length:Nat):Int)-((Q1 L:Nat):Int)):=by omega
 have HM:=zh hm;have HROW:=zh hrow;have HVK:=zh hvk;have HVV:=zh hvv;have HF:=zh hfi;clear hvk hvv hfi hm hrow;go_enter func175,ntmps175;go_wp2_with fail
 refine(HVK.out _).mono ?_;rintro e w1 ⟨rfl,hb⟩;have Ha1:=hkh hb (Qm _ _ _);have Hb1:=hkh hb (QY _ _ _);have Hm1:=hkh hb (Qs HM.out _ _);have HW1:=hbn (QE _ _ _) hb;have hz1:=hb.size;try simp at hz1
 clear hb;have hyb:=hsz Hb1;obtain⟨b0,b1,b2,b3,b4⟩:=zc5 Hb1;go_wp2_with fail
 refine(HVV.out _).mono ?_;rintro e w2 ⟨rfl,hb⟩;have Ha2:=hkh hb Ha1;have Hb2:=hkh hb Hb1;have Hm2:=hkh hb Hm1;have HW2:=hbn HW1 hb;have hz2:=hb.size;try simp at hz2
 clear hb;clear hyb b0 b1 b2 b3 b4;have hya:=hsz Ha2;obtain⟨a0,a1,a2,a3,a4⟩:=zc5 Ha2;go_wp2_with fail
 refine(HF.out _ HW2.out).mono ?_;rintro e w3 ⟨rfl,hb⟩;have Ha3:=hkh hb Ha2;have Hb3:=hkh hb Hb2;have Hm3:=hkh hb Hm2;have HW3:=hbn HW2 hb;have hz3:=hb.size;try simp at hz3
 clear hb;clear hya a0 a1 a2 a3 a4;have hya:=hsz Ha3;obtain⟨a0,a1,a2,a3,a4⟩:=zc5 Ha3;have hyb:=hsz Hb3;obtain⟨b0,b1,b2,b3,b4⟩:=zc5 Hb3;have hym:=hsz Hm3;have m0:w3.cell? m=some (.slice so L.length cap):=by rw[QA Hm3.out];rfl
 have fm0:w3.frozen? m=false:=QB Hm3.out _;have HROW3:=zh (QR (QV HW3.out zl) HROW.out);go_wp2_with fail
 refine(PM w3 m cap so L Hm3.out HROW3.out hL).mono ?_;rintro e w4 ⟨rfl,rfl⟩;go_wp2;obtain⟨i6,hi6,hi6a,hi6b,hi6c⟩:=info_parts GF;refine QK mixed (by kernel_rfl) ?_;go_wp2_with (at_builtin;refine wpList_append_own_at _ rfl (.tmp 109) (.tmp 113) 179 rfl 0 186 i6 _ 11 104 underlying179 hi6 hi6a hi6b hi6c rfl (by decide) (.slice so L.length cap) L.length (ZA L) rfl ?A _ 1 1 [.int .i64 k1,.int .i64 p1,.int .i64 q1,.string s1,.int .i64 r1,.int .i64 k2,.int .i64 p2,.int .i64 q2,.string s2,.int .i64 r2,.bool false] rfl rfl ?B ?C ?D ?E ?F ?G)
 case A=>exact QR (QV ((Below.refl _ _).alloc zl _).drew zl) HROW3.out
 case B=>exact ZM _ _ _ _ _ _ _ _ _ _ _ _ _ _ rfl
 case C=>
  intro u hu;simp only[List.mem_cons,List.not_mem_nil,or_false] at hu;rcases hu with rfl|rfl|rfl|rfl|rfl|rfl|rfl|rfl|rfl|rfl|rfl<;>simp[Value.oneCell']
 case D=>unfold maxLen;omega
 case E=>omega
 case F=>exact Nat.zero_le _
 case G=>
  intro v' w5 hown hgrow _ hat;obtain⟨rb',cap',rfl⟩:=Qh hown (by omega);have hne:∀b,(Value.slice so L.length cap).ownBlock=some b->b≠m:=fun b hb=>by
   obtain⟨c2,hc⟩:=Qd HROW3.out hb;exact QW hc Hm3.out (by decide)
  have HM5:=zh (show w5.heap[m]? =_ from(hgrow.block m (by simp;omega) (fun e=>hne m e.symm rfl)).trans ((Below.heap_alloc w3 _ m (by omega)).trans Hm3.out));have HOWN:=zh hown;have HAT:=zh hat;have HGR:=zh hgrow;clear hown hat hgrow hne a0 a1 a2 a3 a4 b0 b1 b2 b3 b4 m0 fm0;have m0:w5.cell? m=some (.slice so L.length cap):=by rw[QA HM5.out];rfl
  have fm0:w5.frozen? m=false:=QB HM5.out _;go_wp2;refine⟨by kernel_rfl,?_⟩;go_wp2
  go_ret
  refine⟨rfl,.slice (some rb') (L.length+1) cap',Uv HM5.out HOWN.out HGN.out,QQ (KN (Mods.of_below ((HW3.out.alloc HW3.out.size _).drew)) HGR.out (fun b hb=> .inl (.inr hb))) (.inl (.inl rfl)) _,fun b hb=> ?_⟩;rcases HAT.out with h|h
  ·exact .inl (h.symm.trans hb)
  ·rw[h] at hb;injection hb with hb;subst hb;have:=HW3.out.size;exact .inr (by first|omega|(simp;omega))
theorem UA (w:World) (m cap:Nat) (so:Option Addr) (L:List Sl) (hm:w.heap[m]? =some (.cells #[.slice so L.length cap] 181)) (hrow:w.ownsRow 0 186 11 (.slice so L.length cap) L.length (ZA L)) (hL:L.length<=1000) (k1 p1 q1:Int) (s1:ByteArray) (r1:Int) (k2 p2 q2:Int) (s2:ByteArray) (r2:Int) (hvk:∀W,Calls prog 26 #[.agg #[k1,p1,q1,s1,r1]] W (BoolPost W true)) (hvv:∀W,Calls prog 26 #[.agg #[k2,p2,q2,s2,r2]] W (BoolPost W true)) (hk0:(k1==0)=false) (i:Nat) (sl:Sl) (hsl:L[i]? =some sl) (hg:sl.g=true) (hfi:∀W,Below w w W->Calls prog 226 #[m,.agg #[k1,p1,q1,s1,r1]] W (IntPost W ((i:Nat):Int))) (hv0:(k2==0)=false) (hgn:∀s∈L,s.g=true->s.v=V.nil) (hroom:¬Q1 L+8<L.length-Q1 L):Calls prog 175 #[m,.agg #[k1,p1,q1,s1,r1],.agg #[k2,p2,q2,s2,r2]] w (SmPost w m (.slice so L.length cap) (L++[⟨⟨k1,p1,q1,s1,r1⟩,⟨k2,p2,q2,s2,r2⟩,false⟩])):=by
 have HGN:=zh hgn;clear hgn;have hml:m<w:=(Array.getElem?_eq_some_iff.1 hm).1;have hl2:=ZR L;have hnl:i<L.length:=(List.getElem?_eq_some_iff.1 hsl).1;have hge:(0:Int)<=((i:Nat):Int):=by omega
 have hge2:decide ((0:Int)<=((i:Nat):Int))=true:=by rw[decide_eq_true_eq];exact hge
 obtain⟨rb,cap',he⟩:=Qh hrow (by omega);injection he with he1 he2 he3;subst he1;subst he3;have hrl:rb<w:=(QS hrow rfl).2;have HSL:=zh hsl;clear hsl;have hroomI:¬(((Q1 L:Nat):Int)+8<((L.length:Nat):Int)-((Q1 L:Nat):Int)):=by omega
 have HM:=zh hm;have HROW:=zh hrow;have HVK:=zh hvk;have HVV:=zh hvv;have HF:=zh hfi;clear hvk hvv hfi hm hrow;go_enter func175,ntmps175;go_wp2_with fail
 refine(HVK.out _).mono ?_;rintro e w1 ⟨rfl,hb⟩;have Ha1:=hkh hb (Qm _ _ _);have Hb1:=hkh hb (QY _ _ _);have Hm1:=hkh hb (Qs HM.out _ _);have HW1:=hbn (QE _ _ _) hb;have hz1:=hb.size;try simp at hz1
 clear hb;have hyb:=hsz Hb1;obtain⟨b0,b1,b2,b3,b4⟩:=zc5 Hb1;go_wp2_with fail
 refine(HVV.out _).mono ?_;rintro e w2 ⟨rfl,hb⟩;have Ha2:=hkh hb Ha1;have Hb2:=hkh hb Hb1;have Hm2:=hkh hb Hm1;have HW2:=hbn HW1 hb;have hz2:=hb.size;try simp at hz2
 clear hb;clear hyb b0 b1 b2 b3 b4;have hya:=hsz Ha2;obtain⟨a0,a1,a2,a3,a4⟩:=zc5 Ha2;go_wp2_with fail
 refine(HF.out _ HW2.out).mono ?_;rintro e w3 ⟨rfl,hb⟩;have Ha3:=hkh hb Ha2;have Hb3:=hkh hb Hb2;have Hm3:=hkh hb Hm2;have HW3:=hbn HW2 hb;have hz3:=hb.size;try simp at hz3
 clear hb;clear hya a0 a1 a2 a3 a4;have hya:=hsz Ha3;obtain⟨a0,a1,a2,a3,a4⟩:=zc5 Ha3;have hyb:=hsz Hb3;obtain⟨b0,b1,b2,b3,b4⟩:=zc5 Hb3;have hym:=hsz Hm3;have m0:w3.cell? m=some (.slice (some rb) L.length cap):=by rw[QA Hm3.out];rfl
 have fm0:w3.frozen? m=false:=QB Hm3.out _;have HROW3:=zh (QR (QV HW3.out zl) HROW.out);have rc10:w3.cell? ⟨rb,i*11+10,none⟩=some (.bool sl.g):=(HROW3.out.cellAt (i*11+10) (by omega)).trans (Qk L i 10 sl HSL.out (by decide));rw[hg] at rc10;go_wp2_with fail
 refine(PM w3 m cap (some ⟨rb,0,none⟩) L Hm3.out HROW3.out hL).mono ?_;rintro e w4 ⟨rfl,rfl⟩;go_wp2;obtain⟨i6,hi6,hi6a,hi6b,hi6c⟩:=info_parts GF;refine QK mixed (by kernel_rfl) ?_;go_wp2_with (at_builtin;refine wpList_append_own_at _ rfl (.tmp 109) (.tmp 113) 179 rfl 0 186 i6 _ 11 104 underlying179 hi6 hi6a hi6b hi6c rfl (by decide) (.slice (some rb) L.length cap) L.length (ZA L) rfl ?A _ 1 1 [.int .i64 k1,.int .i64 p1,.int .i64 q1,.string s1,.int .i64 r1,.int .i64 k2,.int .i64 p2,.int .i64 q2,.string s2,.int .i64 r2,.bool false] rfl rfl ?B ?C ?D ?E ?F ?G)
 case A=>exact QR (QV ((Below.refl _ _).alloc zl _).drew zl) HROW3.out
 case B=>exact ZM _ _ _ _ _ _ _ _ _ _ _ _ _ _ rfl
 case C=>
  intro u hu;simp only[List.mem_cons,List.not_mem_nil,or_false] at hu;rcases hu with rfl|rfl|rfl|rfl|rfl|rfl|rfl|rfl|rfl|rfl|rfl<;>simp[Value.oneCell']
 case D=>unfold maxLen;omega
 case E=>omega
 case F=>exact Nat.zero_le _
 case G=>
  intro v' w5 hown hgrow _ hat;obtain⟨rb',cap',rfl⟩:=Qh hown (by omega);have hne:∀b,(Value.slice (some rb) L.length cap).ownBlock=some b->b≠m:=fun b hb=>by
   obtain⟨c2,hc⟩:=Qd HROW3.out hb;exact QW hc Hm3.out (by decide)
  have HM5:=zh (show w5.heap[m]? =_ from(hgrow.block m (by simp;omega) (fun e=>hne m e.symm rfl)).trans ((Below.heap_alloc w3 _ m (by omega)).trans Hm3.out));have HOWN:=zh hown;have HAT:=zh hat;have HGR:=zh hgrow;clear hown hat hgrow hne a0 a1 a2 a3 a4 b0 b1 b2 b3 b4 m0 fm0;have m0:w5.cell? m=some (.slice (some rb) L.length cap):=by rw[QA HM5.out];rfl
  have fm0:w5.frozen? m=false:=QB HM5.out _;go_wp2;refine⟨by kernel_rfl,?_⟩;go_wp2
  go_ret
  refine⟨rfl,.slice (some rb') (L.length+1) cap',Uv HM5.out HOWN.out HGN.out,QQ (KN (Mods.of_below ((HW3.out.alloc HW3.out.size _).drew)) HGR.out (fun b hb=> .inl (.inr hb))) (.inl (.inl rfl)) _,fun b hb=> ?_⟩;rcases HAT.out with h|h
  ·exact .inl (h.symm.trans hb)
  ·rw[h] at hb;injection hb with hb;subst hb;have:=HW3.out.size;exact .inr (by first|omega|(simp;omega))
end Go.Proofs.YthkpckgcgkijbaaGreatDoor
