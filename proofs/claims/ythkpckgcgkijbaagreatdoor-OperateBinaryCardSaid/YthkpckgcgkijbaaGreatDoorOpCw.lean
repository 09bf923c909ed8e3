import Derived.Test.YthkpckgcgkijbaaGreatDoorLwA
import Derived.Test.YthkpckgcgkijbaaGreatDoorBitA
set_option linter.unusedVariables false
set_option linter.unusedSimpArgs false
set_option maxRecDepth 100000
set_option maxHeartbeats 2000000
namespace Go.Proofs.YthkpckgcgkijbaaGreatDoor
open Go.RowKit Go.Proofs.Lexi Go.Proofs.Tryz
theorem D1 (w:World) (o:Int) (k1 p1 q1:Int) (s1:ByteArray) (r1:Int) (k2 p2 q2:Int) (s2:ByteArray) (r2:Int) (T:ByteArray) (hT:T.size<=8) (FN:∀W ba bb,Below w w W->W.heap[ba]? =some (oV k1 p1 q1 s1 r1)->W.heap[bb]? =some (oV k2 p2 q2 s2 r2)->Calls prog 180 #[.func (.func 182) #[] #[],.pointer (some ⟨ba,0,none⟩),.pointer (some ⟨bb,0,none⟩)] W (StrPost W T)) (har:PureTo 37 o true):Calls prog 122 #[o,.agg #[k1,p1,q1,s1,r1],.agg #[k2,p2,q2,s2,r2]] w (StrPost w (sArith++T++sValue)):=by
 have hmf:∀fn first cap (W:World),(Instr.makeFunc fn first cap).run prog W= .ok (.func fn first cap) W:=fun _ _ _ _=>rfl
 have HFN:=zh FN;have Hhar:=zh har;clear FN har;go_enter func122,ntmps122;go_wp2_with fail
 refine(Hhar.out _).mono ?_;rintro e W0 ⟨rfl,rfl⟩;go_wp2_with fail
 refine(HFN.out _ w.heap.size (w.heap.size+1) (QE _ _ _) (Qm _ _ _) (QY _ _ _)).mono ?_;rintro e w9 ⟨rfl,hb⟩;go_wp2
 go_ret
 exact⟨rfl,QC (QE _ _ _) hb⟩
theorem MC (w:World) (o:Int) (k1 p1 q1:Int) (s1:ByteArray) (r1:Int) (k2 p2 q2:Int) (s2:ByteArray) (r2:Int) (ho:(o==20)=true) (T:ByteArray) (hT:T.size<=8) (FN:∀W ba bb,Below w w W->W.heap[ba]? =some (oV k1 p1 q1 s1 r1)->W.heap[bb]? =some (oV k2 p2 q2 s2 r2)->Calls prog 180 #[.func (.func 182) #[] #[],.pointer (some ⟨ba,0,none⟩),.pointer (some ⟨bb,0,none⟩)] W (StrPost W T)) (har:PureTo 37 o false):Calls prog 122 #[o,.agg #[k1,p1,q1,s1,r1],.agg #[k2,p2,q2,s2,r2]] w (StrPost w (sArith++T++sValue)):=by
 have hmf:∀fn first cap (W:World),(Instr.makeFunc fn first cap).run prog W= .ok (.func fn first cap) W:=fun _ _ _ _=>rfl
 have HFN:=zh FN;have Hhar:=zh har;clear FN har;go_enter func122,ntmps122;go_wp2_with fail
 refine(Hhar.out _).mono ?_;rintro e W0 ⟨rfl,rfl⟩;go_wp2_with fail
 refine(HFN.out _ w.heap.size (w.heap.size+1) (QE _ _ _) (Qm _ _ _) (QY _ _ _)).mono ?_;rintro e w9 ⟨rfl,hb⟩;go_wp2
 go_ret
 exact⟨rfl,QC (QE _ _ _) hb⟩
theorem EP (w:World) (o:Int) (k1 p1 q1:Int) (s1:ByteArray) (r1:Int) (k2 p2 q2:Int) (s2:ByteArray) (r2:Int) (NA:∀W,Below w w W->Calls prog 182 #[.agg #[k1,p1,q1,s1,r1]] W (BoolPost W true)) (NB:∀W,Below w w W->Calls prog 182 #[.agg #[k2,p2,q2,s2,r2]] W (BoolPost W true)) (ho:(o==20)=false) (har:PureTo 37 o false) (hbw:PureTo 38 o true):Calls prog 122 #[o,.agg #[k1,p1,q1,s1,r1],.agg #[k2,p2,q2,s2,r2]] w (StrPost w (sNoInt)):=by
 have hmf:∀fn first cap (W:World),(Instr.makeFunc fn first cap).run prog W= .ok (.func fn first cap) W:=fun _ _ _ _=>rfl
 have HNA:=zh NA;have HNB:=zh NB;have Hhar:=zh har;have Hhbw:=zh hbw;clear NA NB har hbw;go_enter func122,ntmps122;go_wp2_with fail
 refine(Hhar.out _).mono ?_;rintro e W0 ⟨rfl,rfl⟩;go_wp2_with fail
 refine(Hhbw.out _).mono ?_;rintro e W0 ⟨rfl,rfl⟩;go_wp2_with fail
 refine(HNA.out _ (QE _ _ _)).mono ?_;rintro e w1 ⟨rfl,hb⟩;have Ha1:=hkh hb (Qm _ _ _);have Hb1:=hkh hb (QY _ _ _);have HW1:=hbn (QE _ _ _) hb;have hz1:=hb.size;try simp at hz1
 clear hb;have hyb:=hsz Hb1;obtain⟨b0,b1,b2,b3,b4⟩:=zc5 Hb1;go_wp2_with fail
 refine(HNB.out _ HW1.out).mono ?_;rintro e w2 ⟨rfl,hb⟩;have Ha2:=hkh hb Ha1;have Hb2:=hkh hb Hb1;have HW2:=hbn HW1 hb;have hz2:=hb.size;try simp at hz2
 clear hb;clear hyb b0 b1 b2 b3 b4;go_wp2
 go_ret
 exact⟨rfl,HW2.out⟩
theorem ER (w:World) (o:Int) (k1 p1 q1:Int) (s1:ByteArray) (r1:Int) (k2 p2 q2:Int) (s2:ByteArray) (r2:Int) (NA:∀W,Below w w W->Calls prog 182 #[.agg #[k1,p1,q1,s1,r1]] W (BoolPost W true)) (NB:∀W,Below w w W->Calls prog 182 #[.agg #[k2,p2,q2,s2,r2]] W (BoolPost W false)) (ho:(o==20)=false) (har:PureTo 37 o false) (hbw:PureTo 38 o true) (T:ByteArray) (hT:T.size<=8) (FN:∀W ba bb,Below w w W->W.heap[ba]? =some (oV k1 p1 q1 s1 r1)->W.heap[bb]? =some (oV k2 p2 q2 s2 r2)->Calls prog 180 #[.func (.func 182) #[] #[],.pointer (some ⟨ba,0,none⟩),.pointer (some ⟨bb,0,none⟩)] W (StrPost W T)):Calls prog 122 #[o,.agg #[k1,p1,q1,s1,r1],.agg #[k2,p2,q2,s2,r2]] w (StrPost w (sBitw++T++sValue)):=by
 have hmf:∀fn first cap (W:World),(Instr.makeFunc fn first cap).run prog W= .ok (.func fn first cap) W:=fun _ _ _ _=>rfl
 have HNA:=zh NA;have HNB:=zh NB;have Hhar:=zh har;have Hhbw:=zh hbw;have HFN:=zh FN;clear NA NB har hbw FN;go_enter func122,ntmps122;go_wp2_with fail
 refine(Hhar.out _).mono ?_;rintro e W0 ⟨rfl,rfl⟩;go_wp2_with fail
 refine(Hhbw.out _).mono ?_;rintro e W0 ⟨rfl,rfl⟩;go_wp2_with fail
 refine(HNA.out _ (QE _ _ _)).mono ?_;rintro e w1 ⟨rfl,hb⟩;have Ha1:=hkh hb (Qm _ _ _);have Hb1:=hkh hb (QY _ _ _);have HW1:=hbn (QE _ _ _) hb;have hz1:=hb.size;try simp at hz1
 clear hb;have hyb:=hsz Hb1;obtain⟨b0,b1,b2,b3,b4⟩:=zc5 Hb1;go_wp2_with fail
 refine(HNB.out _ HW1.out).mono ?_;rintro e w2 ⟨rfl,hb⟩;have Ha2:=hkh hb Ha1;have Hb2:=hkh hb Hb1;have HW2:=hbn HW1 hb;have hz2:=hb.size;try simp at hz2
 clear hb;clear hyb b0 b1 b2 b3 b4;go_wp2_with fail
 refine(Hhbw.out _).mono ?_;rintro e W0 ⟨rfl,rfl⟩;go_wp2_with fail
 refine(HFN.out _ w.heap.size (w.heap.size+1) HW2.out Ha2.out Hb2.out).mono ?_;rintro e w9 ⟨rfl,hb⟩;go_wp2
 go_ret
 exact⟨rfl,QC HW2.out hb⟩
theorem Dz (w:World) (o:Int) (k1 p1 q1:Int) (s1:ByteArray) (r1:Int) (k2 p2 q2:Int) (s2:ByteArray) (r2:Int) (NA:∀W,Below w w W->Calls prog 182 #[.agg #[k1,p1,q1,s1,r1]] W (BoolPost W false)) (ho:(o==20)=false) (har:PureTo 37 o false) (hbw:PureTo 38 o true) (T:ByteArray) (hT:T.size<=8) (FN:∀W ba bb,Below w w W->W.heap[ba]? =some (oV k1 p1 q1 s1 r1)->W.heap[bb]? =some (oV k2 p2 q2 s2 r2)->Calls prog 180 #[.func (.func 182) #[] #[],.pointer (some ⟨ba,0,none⟩),.pointer (some ⟨bb,0,none⟩)] W (StrPost W T)):Calls prog 122 #[o,.agg #[k1,p1,q1,s1,r1],.agg #[k2,p2,q2,s2,r2]] w (StrPost w (sBitw++T++sValue)):=by
 have hmf:∀fn first cap (W:World),(Instr.makeFunc fn first cap).run prog W= .ok (.func fn first cap) W:=fun _ _ _ _=>rfl
 have HNA:=zh NA;have Hhar:=zh har;have Hhbw:=zh hbw;have HFN:=zh FN;clear NA har hbw FN;go_enter func122,ntmps122;go_wp2_with fail
 refine(Hhar.out _).mono ?_;rintro e W0 ⟨rfl,rfl⟩;go_wp2_with fail
 refine(Hhbw.out _).mono ?_;rintro e W0 ⟨rfl,rfl⟩;go_wp2_with fail
 refine(HNA.out _ (QE _ _ _)).mono ?_;rintro e w1 ⟨rfl,hb⟩;have Ha1:=hkh hb (Qm _ _ _);have Hb1:=hkh hb (QY _ _ _);have HW1:=hbn (QE _ _ _) hb;have hz1:=hb.size;try simp at hz1
 clear hb;have hyb:=hsz Hb1;obtain⟨b0,b1,b2,b3,b4⟩:=zc5 Hb1;clear hyb b0 b1 b2 b3 b4;go_wp2_with fail
 refine(Hhbw.out _).mono ?_;rintro e W0 ⟨rfl,rfl⟩;go_wp2_with fail
 refine(HFN.out _ w.heap.size (w.heap.size+1) HW1.out Ha1.out Hb1.out).mono ?_;rintro e w9 ⟨rfl,hb⟩;go_wp2
 go_ret
 exact⟨rfl,QC HW1.out hb⟩
theorem TR (w:World) (o:Int) (k1 p1 q1:Int) (s1:ByteArray) (r1:Int) (k2 p2 q2:Int) (s2:ByteArray) (r2:Int) (ho:(o==8)=true) (T:ByteArray) (hT:T.size<=8) (FN:∀W ba bb,Below w w W->W.heap[ba]? =some (oV k1 p1 q1 s1 r1)->W.heap[bb]? =some (oV k2 p2 q2 s2 r2)->Calls prog 180 #[.func (.func 183) #[] #[],.pointer (some ⟨ba,0,none⟩),.pointer (some ⟨bb,0,none⟩)] W (StrPost W T)) (ho2:(o==20)=false) (har:PureTo 37 o false) (hbw:PureTo 38 o false):Calls prog 122 #[o,.agg #[k1,p1,q1,s1,r1],.agg #[k2,p2,q2,s2,r2]] w (StrPost w (sConc++T++sValue)):=by
 have hmf:∀fn first cap (W:World),(Instr.makeFunc fn first cap).run prog W= .ok (.func fn first cap) W:=fun _ _ _ _=>rfl
 have HFN:=zh FN;have Hhar:=zh har;have Hhbw:=zh hbw;clear FN har hbw;go_enter func122,ntmps122;go_wp2_with fail
 refine(Hhar.out _).mono ?_;rintro e W0 ⟨rfl,rfl⟩;go_wp2_with fail
 refine(Hhbw.out _).mono ?_;rintro e W0 ⟨rfl,rfl⟩;go_wp2_with fail
 refine(Hhbw.out _).mono ?_;rintro e W0 ⟨rfl,rfl⟩;go_wp2_with fail
 refine(HFN.out _ w.heap.size (w.heap.size+1) (QE _ _ _) (Qm _ _ _) (QY _ _ _)).mono ?_;rintro e w9 ⟨rfl,hb⟩;go_wp2
 go_ret
 exact⟨rfl,QC (QE _ _ _) hb⟩
theorem MB (w:World) (o:Int) (k1 p1 q1:Int) (s1:ByteArray) (r1:Int) (k2 p2 q2:Int) (s2:ByteArray) (r2:Int) (T1 T2:ByteArray) (h1:T1.size<=8) (h2:T2.size<=8) (TA:∀W,Calls prog 181 #[.agg #[k1,p1,q1,s1,r1]] W (StrPost W T1)) (TB:∀W,Calls prog 181 #[.agg #[k2,p2,q2,s2,r2]] W (StrPost W T2)) (ho:(o==8)=false) (ho2:(o==20)=false) (har:PureTo 37 o false) (hbw:PureTo 38 o false) (heq:(T1.toList==T2.toList)=true):Calls prog 122 #[o,.agg #[k1,p1,q1,s1,r1],.agg #[k2,p2,q2,s2,r2]] w (StrPost w (sTwo++T1++sValues)):=by
 have hmf:∀fn first cap (W:World),(Instr.makeFunc fn first cap).run prog W= .ok (.func fn first cap) W:=fun _ _ _ _=>rfl
 have HTA:=zh TA;have HTB:=zh TB;have Hhar:=zh har;have Hhbw:=zh hbw;clear TA TB har hbw;go_enter func122,ntmps122;go_wp2_with fail
 refine(Hhar.out _).mono ?_;rintro e W0 ⟨rfl,rfl⟩;go_wp2_with fail
 refine(Hhbw.out _).mono ?_;rintro e W0 ⟨rfl,rfl⟩;go_wp2_with fail
 refine(Hhbw.out _).mono ?_;rintro e W0 ⟨rfl,rfl⟩;go_wp2;obtain⟨B,hB⟩:∃B,B=(w.alloc (oV k1 p1 q1 s1 r1)).alloc (oV k2 p2 q2 s2 r2):=⟨_,rfl⟩
 rw[<-hB];have HBB1:=zh (show Below w w B by rw[hB];exact QE _ _ _);have HBa:=zh (show B.heap[w.heap.size]? =some (oV k1 p1 q1 s1 r1) by rw[hB];exact Qm _ _ _);have HBb:=zh (show B.heap[w.heap.size+1]? =some (oV k2 p2 q2 s2 r2) by rw[hB];exact QY _ _ _);clear hB;have SO:=zh (fun(W:World) (hb:Below B B W)=>(show W.cell? w=some (.int .i64 k1)/\W.cell? ⟨w,1,none⟩=some (.int .i64 p1)/\W.cell? ⟨w,2,none⟩=some (.int .i64 q1)/\W.cell? ⟨w,3,none⟩=some (.string s1)/\W.cell? ⟨w,4,none⟩=some (.int .i64 r1)/\W.cell? ⟨w+1,0,none⟩=some (.int .i64 k2)/\W.cell? ⟨w+1,1,none⟩=some (.int .i64 p2)/\W.cell? ⟨w+1,2,none⟩=some (.int .i64 q2)/\W.cell? ⟨w+1,3,none⟩=some (.string s2)/\W.cell? ⟨w+1,4,none⟩=some (.int .i64 r2)/\Hid (Below B B W) from⟨by rw[QA (QL hb HBa.out)];rfl,by rw[QA (QL hb HBa.out)];rfl,by rw[QA (QL hb HBa.out)];rfl,by rw[QA (QL hb HBa.out)];rfl,by rw[QA (QL hb HBa.out)];rfl,by rw[QA (QL hb HBb.out)];rfl,by rw[QA (QL hb HBb.out)];rfl,by rw[QA (QL hb HBb.out)];rfl,by rw[QA (QL hb HBb.out)];rfl,by rw[QA (QL hb HBb.out)];rfl,zh hb⟩));have hbD:Below B B B.drew:=(Below.refl _ _).drew
 go_region_held3 (fun w'=>w'.cell? w=some (.int .i64 k1)/\w'.cell? ⟨w,1,none⟩=some (.int .i64 p1)/\w'.cell? ⟨w,2,none⟩=some (.int .i64 q1)/\w'.cell? ⟨w,3,none⟩=some (.string s1)/\w'.cell? ⟨w,4,none⟩=some (.int .i64 r1)/\w'.cell? ⟨w+1,0,none⟩=some (.int .i64 k2)/\w'.cell? ⟨w+1,1,none⟩=some (.int .i64 p2)/\w'.cell? ⟨w+1,2,none⟩=some (.int .i64 q2)/\w'.cell? ⟨w+1,3,none⟩=some (.string s2)/\w'.cell? ⟨w+1,4,none⟩=some (.int .i64 r2)/\Hid (Below B B w'))
  (first|with_reducible exact SO.out _ (by assumption))
  (first|(go_at_call 181;(first|(with_reducible refine(HTA.out _).mono ?_)|(with_reducible refine(HTB.out _).mono ?_));rintro e v1 ⟨rfl,hb⟩;have hbv1:=QC (Z0 (by assumption)) hb;clear hb))
 have HV1:=hbn HBB1.out hbv1;have Ha1:=hkh hbv1 HBa.out;have hya:=hsz Ha1;clear hbv1;obtain⟨a0,a1,a2,a3,a4⟩:=zc5 Ha1.out;go_wp2_with fail
 refine(HTA.out _).mono ?_;rintro e v2 ⟨rfl,hb⟩;go_wp2
 go_ret
 exact⟨rfl,QC HV1.out hb⟩
theorem TQ (w:World) (o:Int) (k1 p1 q1:Int) (s1:ByteArray) (r1:Int) (k2 p2 q2:Int) (s2:ByteArray) (r2:Int) (T1 T2:ByteArray) (h1:T1.size<=8) (h2:T2.size<=8) (TA:∀W,Calls prog 181 #[.agg #[k1,p1,q1,s1,r1]] W (StrPost W T1)) (TB:∀W,Calls prog 181 #[.agg #[k2,p2,q2,s2,r2]] W (StrPost W T2)) (ho:(o==8)=false) (ho2:(o==20)=false) (har:PureTo 37 o false) (hbw:PureTo 38 o false) (heq:(T1.toList==T2.toList)=false):Calls prog 122 #[o,.agg #[k1,p1,q1,s1,r1],.agg #[k2,p2,q2,s2,r2]] w (StrPost w (sComp++T1++sWith++T2)):=by
 have hmf:∀fn first cap (W:World),(Instr.makeFunc fn first cap).run prog W= .ok (.func fn first cap) W:=fun _ _ _ _=>rfl
 have HTA:=zh TA;have HTB:=zh TB;have Hhar:=zh har;have Hhbw:=zh hbw;clear TA TB har hbw;go_enter func122,ntmps122;have had1:=fun W=>Jx sComp T1 (by have:sComp.size=19:=rfl;omega) W;have had2:=fun W=>Jx (sComp++T1) sWith (by rw[ByteArray.size_append];have:sComp.size=19:=rfl;have:sWith.size=6:=rfl;omega) W;have had3:=fun W=>Jx (sComp++T1++sWith) T2 (by rw[ByteArray.size_append,ByteArray.size_append];have:sComp.size=19:=rfl;have:sWith.size=6:=rfl;omega) W;go_wp2_with fail
 refine(Hhar.out _).mono ?_;rintro e W0 ⟨rfl,rfl⟩;go_wp2_with fail
 refine(Hhbw.out _).mono ?_;rintro e W0 ⟨rfl,rfl⟩;go_wp2_with fail
 refine(Hhbw.out _).mono ?_;rintro e W0 ⟨rfl,rfl⟩;go_wp2;obtain⟨B,hB⟩:∃B,B=(w.alloc (oV k1 p1 q1 s1 r1)).alloc (oV k2 p2 q2 s2 r2):=⟨_,rfl⟩
 rw[<-hB];have HBB1:=zh (show Below w w B by rw[hB];exact QE _ _ _);have HBa:=zh (show B.heap[w.heap.size]? =some (oV k1 p1 q1 s1 r1) by rw[hB];exact Qm _ _ _);have HBb:=zh (show B.heap[w.heap.size+1]? =some (oV k2 p2 q2 s2 r2) by rw[hB];exact QY _ _ _);clear hB;have SO:=zh (fun(W:World) (hb:Below B B W)=>(show W.cell? w=some (.int .i64 k1)/\W.cell? ⟨w,1,none⟩=some (.int .i64 p1)/\W.cell? ⟨w,2,none⟩=some (.int .i64 q1)/\W.cell? ⟨w,3,none⟩=some (.string s1)/\W.cell? ⟨w,4,none⟩=some (.int .i64 r1)/\W.cell? ⟨w+1,0,none⟩=some (.int .i64 k2)/\W.cell? ⟨w+1,1,none⟩=some (.int .i64 p2)/\W.cell? ⟨w+1,2,none⟩=some (.int .i64 q2)/\W.cell? ⟨w+1,3,none⟩=some (.string s2)/\W.cell? ⟨w+1,4,none⟩=some (.int .i64 r2)/\Hid (Below B B W) from⟨by rw[QA (QL hb HBa.out)];rfl,by rw[QA (QL hb HBa.out)];rfl,by rw[QA (QL hb HBa.out)];rfl,by rw[QA (QL hb HBa.out)];rfl,by rw[QA (QL hb HBa.out)];rfl,by rw[QA (QL hb HBb.out)];rfl,by rw[QA (QL hb HBb.out)];rfl,by rw[QA (QL hb HBb.out)];rfl,by rw[QA (QL hb HBb.out)];rfl,by rw[QA (QL hb HBb.out)];rfl,zh hb⟩));have hbD:Below B B B.drew:=(Below.refl _ _).drew
 go_region_held3 (fun w'=>w'.cell? w=some (.int .i64 k1)/\w'.cell? ⟨w,1,none⟩=some (.int .i64 p1)/\w'.cell? ⟨w,2,none⟩=some (.int .i64 q1)/\w'.cell? ⟨w,3,none⟩=some (.string s1)/\w'.cell? ⟨w,4,none⟩=some (.int .i64 r1)/\w'.cell? ⟨w+1,0,none⟩=some (.int .i64 k2)/\w'.cell? ⟨w+1,1,none⟩=some (.int .i64 p2)/\w'.cell? ⟨w+1,2,none⟩=some (.int .i64 q2)/\w'.cell? ⟨w+1,3,none⟩=some (.string s2)/\w'.cell? ⟨w+1,4,none⟩=some (.int .i64 r2)/\Hid (Below B B w'))
  (first|with_reducible exact SO.out _ (by assumption))
  (first|(go_at_call 181;(first|(with_reducible refine(HTA.out _).mono ?_)|(with_reducible refine(HTB.out _).mono ?_));rintro e v1 ⟨rfl,hb⟩;have hbv1:=QC (Z0 (by assumption)) hb;clear hb))
 have HV1:=hbn HBB1.out hbv1;have Ha1:=hkh hbv1 HBa.out;have Hb1:=hkh hbv1 HBb.out;clear hbv1 hbD SO HBa HBb;go_wp2;obtain⟨B,hB⟩:∃B,B=v1:=⟨_,rfl⟩
 rw[<-hB];have HBB2:=zh (show Below w w B by rw[hB];exact HV1.out);have HBa:=zh (show B.heap[w.heap.size]? =some (oV k1 p1 q1 s1 r1) by rw[hB];exact Ha1.out);have HBb:=zh (show B.heap[w.heap.size+1]? =some (oV k2 p2 q2 s2 r2) by rw[hB];exact Hb1.out);clear hB;have SO:=zh (fun(W:World) (hb:Below B B W)=>(show W.cell? w=some (.int .i64 k1)/\W.cell? ⟨w,1,none⟩=some (.int .i64 p1)/\W.cell? ⟨w,2,none⟩=some (.int .i64 q1)/\W.cell? ⟨w,3,none⟩=some (.string s1)/\W.cell? ⟨w,4,none⟩=some (.int .i64 r1)/\W.cell? ⟨w+1,0,none⟩=some (.int .i64 k2)/\W.cell? ⟨w+1,1,none⟩=some (.int .i64 p2)/\W.cell? ⟨w+1,2,none⟩=some (.int .i64 q2)/\W.cell? ⟨w+1,3,none⟩=some (.string s2)/\W.cell? ⟨w+1,4,none⟩=some (.int .i64 r2)/\Hid (Below B B W) from⟨by rw[QA (QL hb HBa.out)];rfl,by rw[QA (QL hb HBa.out)];rfl,by rw[QA (QL hb HBa.out)];rfl,by rw[QA (QL hb HBa.out)];rfl,by rw[QA (QL hb HBa.out)];rfl,by rw[QA (QL hb HBb.out)];rfl,by rw[QA (QL hb HBb.out)];rfl,by rw[QA (QL hb HBb.out)];rfl,by rw[QA (QL hb HBb.out)];rfl,by rw[QA (QL hb HBb.out)];rfl,zh hb⟩));have hbD:Below B B B.drew:=(Below.refl _ _).drew
 go_region_held3 (fun w'=>w'.cell? w=some (.int .i64 k1)/\w'.cell? ⟨w,1,none⟩=some (.int .i64 p1)/\w'.cell? ⟨w,2,none⟩=some (.int .i64 q1)/\w'.cell? ⟨w,3,none⟩=some (.string s1)/\w'.cell? ⟨w,4,none⟩=some (.int .i64 r1)/\w'.cell? ⟨w+1,0,none⟩=some (.int .i64 k2)/\w'.cell? ⟨w+1,1,none⟩=some (.int .i64 p2)/\w'.cell? ⟨w+1,2,none⟩=some (.int .i64 q2)/\w'.cell? ⟨w+1,3,none⟩=some (.string s2)/\w'.cell? ⟨w+1,4,none⟩=some (.int .i64 r2)/\Hid (Below B B w'))
  (first|with_reducible exact SO.out _ (by assumption))
  (first|(go_at_call 181;(first|(with_reducible refine(HTA.out _).mono ?_)|(with_reducible refine(HTB.out _).mono ?_));rintro e v2 ⟨rfl,hb⟩;have hbv2:=QC (Z0 (by assumption)) hb;clear hb))
 go_wp2
 go_ret
 exact⟨rfl,QC HBB2.out (by assumption)⟩
theorem TU (w:World) (ho:Option Addr) (o:Int) (vk vp vq:Int) (vs:ByteArray) (vr:Int) (c:Int) (base g:Nat) (hbase:base<=g) (k1 p1 q1:Int) (s1:ByteArray) (r1:Int) (k2 p2 q2:Int) (s2:ByteArray) (r2:Int) (hg:w.heap[g]? =some (.cells #[k1,p1,q1,s1,r1,k2,p2,q2,s2,r2] 25)) (h0:(c==0)=true):Calls prog 74 #[.pointer ho,o,.agg #[vk,vp,vq,vs,vr],c,.slice (some g) 2 2] w (NdB w base (Zz ⟨vk,vp,vq,vs,vr⟩)):=by
 clear hg;go_enter func74,ntmps74;go_wp2_with fail
 refine(MK _ _ _ _ _ _).mono ?_;rintro e w1 ⟨av,rfl,hA,hb⟩;obtain⟨ao,an,ac,rfl⟩:=hA.shape;have HA:=zh hA;clear hA;have Hu1:=hkh hb (QY _ _ _);have HW1:=hbn (QE _ _ _) hb;have hz1:=hb.size;try simp at hz1
 clear hb;have hyu:=hsz Hu1;obtain⟨u0,u1,u2,u3,u4,u5,u6,u7,u8,u9,u10,u11,u12,u13⟩:=zc14 Hu1;obtain⟨fu0,fu1,fu2,fu3,fu4,fu5,fu6,fu7,fu8,fu9,fu10,fu11,fu12,fu13⟩:=zf14 Hu1;go_wp2;refine zr (by simp[results,results74,go_sem,hyu,u0,u1,u2,u3,u4,u5,u6,u7,u8,u9,u10,u11,u12,u13]<;>rfl) ?_;exact Xi (r:=w.heap.size+1) rfl HW1.out HA.out (by omega) (QP (F:=fun b=>b=w.heap.size+1) (Mods.refl _ _) (.inl rfl) _ _ _ _ _ _ _ _ _ _ _ _ _ _)
theorem ET (w:World) (ho:Option Addr) (o:Int) (vk vp vq:Int) (vs:ByteArray) (vr:Int) (c:Int) (base g:Nat) (hbase:base<=g) (k1 p1 q1:Int) (s1:ByteArray) (r1:Int) (k2 p2 q2:Int) (s2:ByteArray) (r2:Int) (hg:w.heap[g]? =some (.cells #[k1,p1,q1,s1,r1,k2,p2,q2,s2,r2] 25)) (h0:(c==0)=false) (h1:(c==7)=true):Calls prog 74 #[.pointer ho,o,.agg #[vk,vp,vq,vs,vr],c,.slice (some g) 2 2] w (NdB w base (ZZ sZero)):=by
 clear hg;go_enter func74,ntmps74;go_wp2_with fail
 refine(Ji _ _).mono ?_;rintro e w1 ⟨av,rfl,hA,hb⟩;obtain⟨ao,an,ac,rfl⟩:=hA.shape;have HA:=zh hA;clear hA;have Hu1:=hkh hb (QY _ _ _);have HW1:=hbn (QE _ _ _) hb;have hz1:=hb.size;try simp at hz1
 clear hb;have hyu:=hsz Hu1;obtain⟨u0,u1,u2,u3,u4,u5,u6,u7,u8,u9,u10,u11,u12,u13⟩:=zc14 Hu1;obtain⟨fu0,fu1,fu2,fu3,fu4,fu5,fu6,fu7,fu8,fu9,fu10,fu11,fu12,fu13⟩:=zf14 Hu1;go_wp2;refine zr (by simp[results,results74,go_sem,hyu,u0,u1,u2,u3,u4,u5,u6,u7,u8,u9,u10,u11,u12,u13]<;>rfl) ?_;exact Xi (r:=w.heap.size+1) rfl HW1.out HA.out (by omega) (QP (F:=fun b=>b=w.heap.size+1) (Mods.refl _ _) (.inl rfl) _ _ _ _ _ _ _ _ _ _ _ _ _ _)
theorem UH (w:World) (ho:Option Addr) (o:Int) (vk vp vq:Int) (vs:ByteArray) (vr:Int) (c:Int) (base g:Nat) (hbase:base<=g) (k1 p1 q1:Int) (s1:ByteArray) (r1:Int) (k2 p2 q2:Int) (s2:ByteArray) (r2:Int) (hg:w.heap[g]? =some (.cells #[k1,p1,q1,s1,r1,k2,p2,q2,s2,r2] 25)) (h0:(c==0)=false) (h1:(c==7)=false) (h2:(c==6)=true):Calls prog 74 #[.pointer ho,o,.agg #[vk,vp,vq,vs,vr],c,.slice (some g) 2 2] w (NdB w base (ZZ sRange)):=by
 clear hg;go_enter func74,ntmps74;go_wp2_with fail
 refine(Ji _ _).mono ?_;rintro e w1 ⟨av,rfl,hA,hb⟩;obtain⟨ao,an,ac,rfl⟩:=hA.shape;have HA:=zh hA;clear hA;have Hu1:=hkh hb (QY _ _ _);have HW1:=hbn (QE _ _ _) hb;have hz1:=hb.size;try simp at hz1
 clear hb;have hyu:=hsz Hu1;obtain⟨u0,u1,u2,u3,u4,u5,u6,u7,u8,u9,u10,u11,u12,u13⟩:=zc14 Hu1;obtain⟨fu0,fu1,fu2,fu3,fu4,fu5,fu6,fu7,fu8,fu9,fu10,fu11,fu12,fu13⟩:=zf14 Hu1;go_wp2;refine zr (by simp[results,results74,go_sem,hyu,u0,u1,u2,u3,u4,u5,u6,u7,u8,u9,u10,u11,u12,u13]<;>rfl) ?_;exact Xi (r:=w.heap.size+1) rfl HW1.out HA.out (by omega) (QP (F:=fun b=>b=w.heap.size+1) (Mods.refl _ _) (.inl rfl) _ _ _ _ _ _ _ _ _ _ _ _ _ _)
theorem EW (w:World) (ho:Option Addr) (o:Int) (vk vp vq:Int) (vs:ByteArray) (vr:Int) (c:Int) (base g:Nat) (hbase:base<=g) (k1 p1 q1:Int) (s1:ByteArray) (r1:Int) (k2 p2 q2:Int) (s2:ByteArray) (r2:Int) (hg:w.heap[g]? =some (.cells #[k1,p1,q1,s1,r1,k2,p2,q2,s2,r2] 25)) (h0:(c==0)=false) (h1:(c==7)=false) (h2:(c==6)=false) (h3:(c==14)=true):Calls prog 74 #[.pointer ho,o,.agg #[vk,vp,vq,vs,vr],c,.slice (some g) 2 2] w (NdB w base (ZZ sLong)):=by
 clear hg;go_enter func74,ntmps74;go_wp2_with fail
 refine(Ji _ _).mono ?_;rintro e w1 ⟨av,rfl,hA,hb⟩;obtain⟨ao,an,ac,rfl⟩:=hA.shape;have HA:=zh hA;clear hA;have Hu1:=hkh hb (QY _ _ _);have HW1:=hbn (QE _ _ _) hb;have hz1:=hb.size;try simp at hz1
 clear hb;have hyu:=hsz Hu1;obtain⟨u0,u1,u2,u3,u4,u5,u6,u7,u8,u9,u10,u11,u12,u13⟩:=zc14 Hu1;obtain⟨fu0,fu1,fu2,fu3,fu4,fu5,fu6,fu7,fu8,fu9,fu10,fu11,fu12,fu13⟩:=zf14 Hu1;go_wp2;refine zr (by simp[results,results74,go_sem,hyu,u0,u1,u2,u3,u4,u5,u6,u7,u8,u9,u10,u11,u12,u13]<;>rfl) ?_;exact Xi (r:=w.heap.size+1) rfl HW1.out HA.out (by omega) (QP (F:=fun b=>b=w.heap.size+1) (Mods.refl _ _) (.inl rfl) _ _ _ _ _ _ _ _ _ _ _ _ _ _)
end Go.Proofs.YthkpckgcgkijbaaGreatDoor
