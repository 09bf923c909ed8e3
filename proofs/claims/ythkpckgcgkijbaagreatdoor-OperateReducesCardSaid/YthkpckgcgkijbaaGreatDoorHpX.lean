import Derived.Test.YthkpckgcgkijbaaGreatDoorOpCw
import Derived.Test.YthkpckgcgkijbaaGreatDoorMapL
import Derived.Test.YthkpckgcgkijbaaGreatDoorBitA
set_option linter.unusedVariables false
set_option linter.unusedSimpArgs false
set_option maxRecDepth 100000
set_option maxHeartbeats 2000000
namespace Go.Proofs.YthkpckgcgkijbaaGreatDoor
open Go.RowKit Go.Proofs.Lexi
theorem pElem_c (w:World) (k1 p1 q1:Int) (s1:ByteArray) (r1:Int):Calls Tryz.prog 115 #[.agg #[k1,p1,q1,s1,r1]] w (IntPost w (elemM ⟨k1,p1,q1,s1,r1⟩)):=by
 have HV:=Lib.hid (fun W=>pvalidV_c W k1 p1 q1 s1 r1)
 by_cases hb:k1=3∧4096<s1.size
 ·have HC:=Lib.hid (show 14=elemM ⟨k1,p1,q1,s1,r1⟩ from(if_pos hb).symm)
  have t3:(k1==3)=true:=by rw[beq_iff_eq];exact hb.1
  have ts:decide ((4096:Int)<(s1.size:Int))=true:=by rw[decide_eq_true_eq];omega
  have ts2:(4096:Int)<(s1.size:Int):=by omega
  clear hb
  go_enter Tryz.func115,Tryz.ntmps115
  go_wp2
  go_ret
  exact zAq HC.out (zAm _ _)
 ·have tt:(k1==3)=false∨((k1==3)=true∧¬4096<s1.size):=by
   by_cases h3:k1=3
   ·exact .inr ⟨by rw[beq_iff_eq];exact h3,fun h=>hb ⟨h3,h⟩⟩
   ·exact .inl (by rw[beq_eq_false_iff_ne];exact h3)
  cases hv:zAi ⟨k1,p1,q1,s1,r1⟩ with
  |true=>
   have HC:=Lib.hid (show 0=elemM ⟨k1,p1,q1,s1,r1⟩ from by unfold elemM;rw[if_neg hb,if_pos hv])
   have HVT:=Lib.hid (fun W=>(hv▸HV.out W:Calls Tryz.prog 36 #[.agg #[k1,p1,q1,s1,r1]] W (BoolPost W true)))
   clear hb hv HV
   rcases tt with t3|⟨t3,ts⟩
   ·go_enter Tryz.func115,Tryz.ntmps115
    go_wp2_with (first|(go_at_call 36;refine(HVT.out _).mono ?_;rintro e w1 ⟨rfl,hb⟩))
    go_ret
    exact zAq HC.out (zAC (zAm _ _) (by assumption))
   ·have ts1:decide ((4096:Int)<(s1.size:Int))=false:=by rw[decide_eq_false_iff_not];omega
    have ts2:¬(4096:Int)<(s1.size:Int):=by omega
    go_enter Tryz.func115,Tryz.ntmps115
    go_wp2_with (first|(go_at_call 36;refine(HVT.out _).mono ?_;rintro e w1 ⟨rfl,hb⟩))
    go_ret
    exact zAq HC.out (zAC (zAm _ _) (by assumption))
  |false=>
   have HC:=Lib.hid (show 2=elemM ⟨k1,p1,q1,s1,r1⟩ from by unfold elemM;rw[if_neg hb,if_neg (by rw[hv];decide)])
   have HVT:=Lib.hid (fun W=>(hv▸HV.out W:Calls Tryz.prog 36 #[.agg #[k1,p1,q1,s1,r1]] W (BoolPost W false)))
   clear hb hv HV
   rcases tt with t3|⟨t3,ts⟩
   ·go_enter Tryz.func115,Tryz.ntmps115
    go_wp2_with (first|(go_at_call 36;refine(HVT.out _).mono ?_;rintro e w1 ⟨rfl,hb⟩))
    go_ret
    exact zAq HC.out (zAC (zAm _ _) (by assumption))
   ·have ts1:decide ((4096:Int)<(s1.size:Int))=false:=by rw[decide_eq_false_iff_not];omega
    have ts2:¬(4096:Int)<(s1.size:Int):=by omega
    go_enter Tryz.func115,Tryz.ntmps115
    go_wp2_with (first|(go_at_call 36;refine(HVT.out _).mono ?_;rintro e w1 ⟨rfl,hb⟩))
    go_ret
    exact zAq HC.out (zAC (zAm _ _) (by assumption))
theorem pTouch_c (w:World) (h bo bt:Nat) (H:List PO) (hH:HpAt w h bo bt H) (k1 p1 q1:Int) (s1:ByteArray) (r1:Int) (hr:i64 r1):Calls Tryz.prog 112 #[.pointer (some ⟨h,0,none⟩),.agg #[k1,p1,q1,s1,r1],.int .i64 0] w (TouchPost w h bo bt H):=by
 have hlt:h<w.heap.size:=(Array.getElem?_eq_some_iff.1 hH.hh).1
 have hbt:bt<w.heap.size:=by obtain⟨E,hE⟩:=hH.touched;exact hE.lt
 have HST:=Lib.hid (touch_at hH.touched hr)
 have HHH:=Lib.hid hH
 have hh:=hH.hh
 have h0:(w.alloc (oV k1 p1 q1 s1 r1)).cell? ⟨h,0,none⟩=some (.map (some bo)):=by rw[zAA (zAI hh _)];rfl
 have h1:(w.alloc (oV k1 p1 q1 s1 r1)).cell? ⟨h,1,none⟩=some (.int .i64 (H.length:Nat)):=by rw[zAA (zAI hh _)];rfl
 have h2:(w.alloc (oV k1 p1 q1 s1 r1)).cell? ⟨h,2,none⟩=some (.map (some bt)):=by rw[zAA (zAI hh _)];rfl
 clear hH hr hh
 go_enter Tryz.func112,Tryz.ntmps112
 go_wp2
 refine zAK mixed (by kernel_rfl) ?_
 go_wp2_with (at_mapUpdate;refine zBH _ rfl _ _ _ _ rfl _ _ _ rfl rfl rfl _ (HST.out _ (Below.heap_alloc w _ bt (by omega))) ?_;intro w3 hw3)
 refine⟨by kernel_rfl,?_⟩
 have HX:=Lib.hid hw3
 clear hw3 h0 h1 h2
 go_wp2
 go_ret
 obtain⟨h1,h2,h3⟩:=HX.out
 have hb:=(zAm w (oV k1 p1 q1 s1 r1)).drew
 exact⟨rfl,(HHH.out.below hb).touch h2 h1,(Mods.of_below hb).trans h2⟩
theorem pCreate_c (w:World) (h bo bt:Nat) (H:List PO) (hH:HpAt w h bo bt H) (hl:H.length≤1000) (x:PO) (hx:PObj w x) (hsep:∀y∈H,PSep y x) (hg:x.kind=4→x.g≠bo∧x.g≠bt):Calls Tryz.prog 108 #[.pointer (some ⟨h,0,none⟩),.pointer (some ⟨x.o,0,none⟩)] w (AddPost w h bo bt H x):=by
 have hlt:h<w.heap.size:=(Array.getElem?_eq_some_iff.1 hH.hh).1
 have hot:bo≠bt:=hH.ot
 obtain⟨E0,hE0⟩:=hH.touched
 have hbt:bt<w.heap.size:=hE0.lt
 have hbo:bo<w.heap.size:=hH.objs.lt
 obtain⟨es,c,hbt0⟩:=hE0.obj
 obtain⟨es2,c2,hbo0⟩:=hH.objs.obj
 have hho:h≠bo:=ne_map hH.hh hbo0
 have hht:h≠bt:=ne_map hH.hh hbt0
 have hxl:x.o<w.heap.size:=(Array.getElem?_eq_some_iff.1 hx.ho).1
 have hxh:x.o≠h:=zAU hx.ho hH.hh (by decide)
 have hxo:x.o≠bo:=ne_map hx.ho hbo0
 have hxt:x.o≠bt:=ne_map hx.ho hbt0
 clear hbt0 hbo0 es c es2 c2
 have HLN:=Lib.hid (len_at hH.objs)
 have hlen:∀ty,(Builtin.len_ #[86] ty #[.map (some bo)]).run Tryz.prog (w.alloc (oV 0 0 0 ⟨#[]⟩ 0))= .ok (.int .i64 ((objE H).length:Nat)) (w.alloc (oV 0 0 0 ⟨#[]⟩ 0)):=HLN.out _ (Below.heap_alloc w _ bo (by omega))
 rw[objE_len] at hlen
 have HPO:=Lib.hid (putO_at hH.objs hl x.o)
 have HTO:=Lib.hid (touch_at hH.touched (show i64 ((H.length:Int)+1) from⟨by omega,by omega⟩))
 have HHH:=Lib.hid hH
 have HXX:=Lib.hid hx
 have HSP:=Lib.hid hsep
 have HGG:=Lib.hid hg
 have hh:=hH.hh
 have h0:(w.alloc (oV 0 0 0 ⟨#[]⟩ 0)).cell? ⟨h,0,none⟩=some (.map (some bo)):=by rw[zAA (zAI hh _)];rfl
 have h1:(w.alloc (oV 0 0 0 ⟨#[]⟩ 0)).cell? ⟨h,1,none⟩=some (.int .i64 (H.length:Nat)):=by rw[zAA (zAI hh _)];rfl
 have h2:(w.alloc (oV 0 0 0 ⟨#[]⟩ 0)).cell? ⟨h,2,none⟩=some (.map (some bt)):=by rw[zAA (zAI hh _)];rfl
 have fh0:(w.alloc (oV 0 0 0 ⟨#[]⟩ 0)).frozen? ⟨h,0,none⟩=false:=zAB (zAI hh _) _
 have fh1:(w.alloc (oV 0 0 0 ⟨#[]⟩ 0)).frozen? ⟨h,1,none⟩=false:=zAB (zAI hh _) _
 have fh2:(w.alloc (oV 0 0 0 ⟨#[]⟩ 0)).frozen? ⟨h,2,none⟩=false:=zAB (zAI hh _) _
 have hq1:¬(65536:Int)≤(H.length:Int):=by omega
 have hq2:decide ((65536:Int)≤(H.length:Int))=false:=by rw[decide_eq_false_iff_not];exact hq1
 clear hH hx hsep hg hh hE0
 go_enter Tryz.func108,Tryz.ntmps108
 go_wp2
 clear hlen
 obtain⟨W1,hW1⟩:∃W1,W1=(w.setCell ⟨h,1,none⟩ (.int .i64 ((H.length:Int)+1))).alloc (oV 0 0 0 ⟨#[]⟩ 0):=⟨_,rfl⟩
 rw[←hW1]
 have HM1:=Lib.hid (show Mods (fun b=>b=h∨b=bo∨b=bt) w W1 by rw[hW1];exact(zAO (Mods.refl _ w) (.inl (.inl rfl)) _).trans (Mods.of_below (zAm _ _)))
 have HH1:=Lib.hid (show W1.heap[h]? =some (.cells #[.map (some bo),.int .i64 ((H.length:Int)+1),.map (some bt)] 89) by rw[hW1];exact zAI (zAP HHH.out.hh 1 _) _)
 have HO1:=Lib.hid (show W1.heap[bo]? =w.heap[bo]? by rw[hW1,Below.heap_alloc _ _ bo (by simp;omega)];exact Below.heap_setCell _ _ _ _ (fun e=>hho e.symm))
 have HT1:=Lib.hid (show W1.heap[bt]? =w.heap[bt]? by rw[hW1,Below.heap_alloc _ _ bt (by simp;omega)];exact Below.heap_setCell _ _ _ _ (fun e=>hht e.symm))
 have HR1:=Lib.hid (show W1.heap[w.heap.size]? =some (oV 0 0 0 ⟨#[]⟩ 0) by rw[hW1];simpa using heap1 (w.setCell ⟨h,1,none⟩ (.int .i64 ((H.length:Int)+1))) (oV 0 0 0 ⟨#[]⟩ 0))
 have hz1:W1.heap.size=w.heap.size+1:=by rw[hW1];simp
 clear hW1 h0 h1 h2 fh0 fh1 fh2
 obtain⟨h0,h1,h2⟩:=zBN HH1.out
 refine zAK mixed (by kernel_rfl) ?_
 go_wp2_with (at_mapUpdate;refine zBH _ rfl _ _ _ _ rfl _ _ _ rfl rfl rfl _ (HPO.out _ HO1.out) ?_;intro w2 hw2)
 refine⟨by kernel_rfl,?_⟩
 have HX2:=Lib.hid hw2
 have hz2:W1.heap.size≤w2.heap.size:=hw2.2.2
 have HH2:=Lib.hid (zAj hw2.2.1 (show W1.drew.heap[h]? =_ from HH1.out) hho)
 have HR2:=Lib.hid (zAj hw2.2.1 (show W1.drew.heap[w.heap.size]? =_ from HR1.out) (by omega))
 have HT2:=Lib.hid (show w2.heap[bt]? =w.heap[bt]? from(hw2.2.1.block bt (show bt<W1.heap.size by omega) (fun e=>hot e.symm)).trans HT1.out)
 clear hw2 h0 h1 h2
 obtain⟨h0,h1,h2⟩:=zBN HH2.out
 go_wp2
 refine zAK mixed (by kernel_rfl) ?_
 go_wp2_with (at_mapUpdate;refine zBH _ rfl _ _ _ _ rfl _ _ _ rfl rfl rfl _ (HTO.out _ HT2.out) ?_;intro w3 hw3)
 refine⟨by kernel_rfl,?_⟩
 have HX3:=Lib.hid hw3
 have hz3:w2.heap.size≤w3.heap.size:=hw3.2.2
 have HH3:=Lib.hid (zAj hw3.2.1 (show w2.drew.heap[h]? =_ from HH2.out) hht)
 have HR3:=Lib.hid (zAj hw3.2.1 (show w2.drew.heap[w.heap.size]? =_ from HR2.out) (by omega))
 have HM3:=Lib.hid (show Mods (fun b=>b=h∨b=bo∨b=bt) w w3 from(HM1.out.trans ((Mods.of_below (Below.refl _ _).drew).trans (HX2.out.2.1.mono (fun k _ e=> .inr (.inl e))))).trans ((Mods.of_below (Below.refl _ _).drew).trans (hw3.2.1.mono (fun k _ e=> .inr (.inr e)))))
 have HXO:=Lib.hid (show w3.heap[x.o]? =some (.cells x.cells 104) from zAj HM3.out HXX.out.ho (by omega))
 clear hw3 h0 h1 h2
 obtain⟨h0,h1,h2⟩:=zBN HH3.out
 have x0:w3.cell? ⟨x.o,0,none⟩=some (.int .i64 x.kind):=by rw[zAA HXO.out];rfl
 have hlr:w.heap.size<w3.heap.size:=by omega
 have hlh:h<w3.heap.size:=by omega
 have hlx:x.o<w3.heap.size:=by omega
 obtain⟨r0,r1,r2,r3,r4⟩:=cells5 HR3.out
 obtain⟨fr0,fr1,fr2,fr3,fr4⟩:=froz5 HR3.out
 go_wp2
 refine zAK mixed (by kernel_rfl) ?_
 go_wp2
 refine⟨by kernel_rfl,?_⟩
 go_wp2
 refine bodyPost_ret (by simp[results,Tryz.results108,go_sem,hlr,r0,r1,r2,r3,r4];first|done|rfl) rfl ?_
 have fin:∀W:World,Below w.heap.size w3 W→HpAt W h bo bt (H++[x])∧Mods (fun b=>b=h∨b=bo∨b=bt) w W:=fun W hb=>by
  have hMW:Mods (fun b=>b=h∨b=bo∨b=bt) w W:=⟨hb.os.trans HM3.out.os,hb.tape.trans HM3.out.tape,hb.output.trans HM3.out.output,Nat.le_trans HM3.out.size hb.size,fun k hk hF=>(hb.block k hk).trans (HM3.out.block k hk hF)⟩
  refine⟨HHH.out.add hMW ((hb.block h hlt).trans HH3.out) (MapAt.keep (HX2.out.1.keep ?_) (hb.block bo hbo)) ?_ HXX.out HSP.out HGG.out,hMW⟩
  ·exact(HX3.out.2.1.block bo (show bo<w2.heap.size by omega) hot)
  ·obtain⟨E',h4⟩:=HX3.out.1
   exact⟨E',h4.keep (hb.block bt hbt)⟩
 exact⟨rfl,fin _ (zAH (Below.refl _ _).drew (Nat.le_refl _) _ _ _ _ _)⟩
theorem pWrong_arith (w:World) (o:Int) (k1 p1 q1:Int) (s1:ByteArray) (r1:Int) (k2 p2 q2:Int) (s2:ByteArray) (r2:Int) (T:ByteArray) (hT:T.size≤8) (FN:∀W ba bb,Below w.heap.size w W→W.heap[ba]? =some (oV k1 p1 q1 s1 r1)→W.heap[bb]? =some (oV k2 p2 q2 s2 r2)→Calls Tryz.prog 180 #[.func (.func 182) #[] #[],.pointer (some ⟨ba,0,none⟩),.pointer (some ⟨bb,0,none⟩)] W (StrPost W T)) (har:PureTo 37 o true):Calls Tryz.prog 122 #[o,.agg #[k1,p1,q1,s1,r1],.agg #[k2,p2,q2,s2,r2]] w (StrPost w (sArith++T++sValue)):=by
 have hmf:∀fn first cap (W:World),(Instr.makeFunc fn first cap).run Tryz.prog W= .ok (.func fn first cap) W:=fun _ _ _ _=>rfl
 have HFN:=Lib.hid FN
 have Hhar:=Lib.hid har
 clear FN har
 go_enter Tryz.func122,Tryz.ntmps122
 go_wp2_with fail
 refine(Hhar.out _).mono ?_
 rintro e W0 ⟨rfl,rfl⟩
 go_wp2_with fail
 refine(HFN.out _ w.heap.size (w.heap.size+1) (zAF _ _ _) (zAf _ _ _) (zAW _ _ _)).mono ?_
 rintro e w9 ⟨rfl,hb⟩
 go_wp2
 go_ret
 exact⟨rfl,zAC (zAF _ _ _) hb⟩
theorem pWrong_neg (w:World) (o:Int) (k1 p1 q1:Int) (s1:ByteArray) (r1:Int) (k2 p2 q2:Int) (s2:ByteArray) (r2:Int) (ho:(o==20)=true) (T:ByteArray) (hT:T.size≤8) (FN:∀W ba bb,Below w.heap.size w W→W.heap[ba]? =some (oV k1 p1 q1 s1 r1)→W.heap[bb]? =some (oV k2 p2 q2 s2 r2)→Calls Tryz.prog 180 #[.func (.func 182) #[] #[],.pointer (some ⟨ba,0,none⟩),.pointer (some ⟨bb,0,none⟩)] W (StrPost W T)) (har:PureTo 37 o false):Calls Tryz.prog 122 #[o,.agg #[k1,p1,q1,s1,r1],.agg #[k2,p2,q2,s2,r2]] w (StrPost w (sArith++T++sValue)):=by
 have hmf:∀fn first cap (W:World),(Instr.makeFunc fn first cap).run Tryz.prog W= .ok (.func fn first cap) W:=fun _ _ _ _=>rfl
 have HFN:=Lib.hid FN
 have Hhar:=Lib.hid har
 clear FN har
 go_enter Tryz.func122,Tryz.ntmps122
 go_wp2_with fail
 refine(Hhar.out _).mono ?_
 rintro e W0 ⟨rfl,rfl⟩
 go_wp2_with fail
 refine(HFN.out _ w.heap.size (w.heap.size+1) (zAF _ _ _) (zAf _ _ _) (zAW _ _ _)).mono ?_
 rintro e w9 ⟨rfl,hb⟩
 go_wp2
 go_ret
 exact⟨rfl,zAC (zAF _ _ _) hb⟩
theorem pWrong_bit_tt (w:World) (o:Int) (k1 p1 q1:Int) (s1:ByteArray) (r1:Int) (k2 p2 q2:Int) (s2:ByteArray) (r2:Int) (NA:∀W,Below w.heap.size w W→Calls Tryz.prog 182 #[.agg #[k1,p1,q1,s1,r1]] W (BoolPost W true)) (NB:∀W,Below w.heap.size w W→Calls Tryz.prog 182 #[.agg #[k2,p2,q2,s2,r2]] W (BoolPost W true)) (ho:(o==20)=false) (har:PureTo 37 o false) (hbw:PureTo 38 o true):Calls Tryz.prog 122 #[o,.agg #[k1,p1,q1,s1,r1],.agg #[k2,p2,q2,s2,r2]] w (StrPost w (sNoInt)):=by
 have hmf:∀fn first cap (W:World),(Instr.makeFunc fn first cap).run Tryz.prog W= .ok (.func fn first cap) W:=fun _ _ _ _=>rfl
 have HNA:=Lib.hid NA
 have HNB:=Lib.hid NB
 have Hhar:=Lib.hid har
 have Hhbw:=Lib.hid hbw
 clear NA NB har hbw
 go_enter Tryz.func122,Tryz.ntmps122
 go_wp2_with fail
 refine(Hhar.out _).mono ?_
 rintro e W0 ⟨rfl,rfl⟩
 go_wp2_with fail
 refine(Hhbw.out _).mono ?_
 rintro e W0 ⟨rfl,rfl⟩
 go_wp2_with fail
 refine(HNA.out _ (zAF _ _ _)).mono ?_
 rintro e w1 ⟨rfl,hb⟩
 have Ha1:=hkh hb (zAf _ _ _)
 have Hb1:=hkh hb (zAW _ _ _)
 have HW1:=hbn (zAF _ _ _) hb
 have hz1:=hb.size
 try simp at hz1
 clear hb
 have hyb:w.heap.size+1<w1.heap.size:=hsz Hb1
 obtain⟨b0,b1,b2,b3,b4⟩:=cells5 Hb1.out
 go_wp2_with fail
 refine(HNB.out _ HW1.out).mono ?_
 rintro e w2 ⟨rfl,hb⟩
 have Ha2:=hkh hb Ha1.out
 have Hb2:=hkh hb Hb1.out
 have HW2:=hbn HW1.out hb
 have hz2:=hb.size
 try simp at hz2
 clear hb
 clear hyb b0 b1 b2 b3 b4
 go_wp2
 go_ret
 exact⟨rfl,HW2.out⟩
theorem pWrong_bit_tf (w:World) (o:Int) (k1 p1 q1:Int) (s1:ByteArray) (r1:Int) (k2 p2 q2:Int) (s2:ByteArray) (r2:Int) (NA:∀W,Below w.heap.size w W→Calls Tryz.prog 182 #[.agg #[k1,p1,q1,s1,r1]] W (BoolPost W true)) (NB:∀W,Below w.heap.size w W→Calls Tryz.prog 182 #[.agg #[k2,p2,q2,s2,r2]] W (BoolPost W false)) (ho:(o==20)=false) (har:PureTo 37 o false) (hbw:PureTo 38 o true) (T:ByteArray) (hT:T.size≤8) (FN:∀W ba bb,Below w.heap.size w W→W.heap[ba]? =some (oV k1 p1 q1 s1 r1)→W.heap[bb]? =some (oV k2 p2 q2 s2 r2)→Calls Tryz.prog 180 #[.func (.func 182) #[] #[],.pointer (some ⟨ba,0,none⟩),.pointer (some ⟨bb,0,none⟩)] W (StrPost W T)):Calls Tryz.prog 122 #[o,.agg #[k1,p1,q1,s1,r1],.agg #[k2,p2,q2,s2,r2]] w (StrPost w (sBitw++T++sValue)):=by
 have hmf:∀fn first cap (W:World),(Instr.makeFunc fn first cap).run Tryz.prog W= .ok (.func fn first cap) W:=fun _ _ _ _=>rfl
 have HNA:=Lib.hid NA
 have HNB:=Lib.hid NB
 have Hhar:=Lib.hid har
 have Hhbw:=Lib.hid hbw
 have HFN:=Lib.hid FN
 clear NA NB har hbw FN
 go_enter Tryz.func122,Tryz.ntmps122
 go_wp2_with fail
 refine(Hhar.out _).mono ?_
 rintro e W0 ⟨rfl,rfl⟩
 go_wp2_with fail
 refine(Hhbw.out _).mono ?_
 rintro e W0 ⟨rfl,rfl⟩
 go_wp2_with fail
 refine(HNA.out _ (zAF _ _ _)).mono ?_
 rintro e w1 ⟨rfl,hb⟩
 have Ha1:=hkh hb (zAf _ _ _)
 have Hb1:=hkh hb (zAW _ _ _)
 have HW1:=hbn (zAF _ _ _) hb
 have hz1:=hb.size
 try simp at hz1
 clear hb
 have hyb:w.heap.size+1<w1.heap.size:=hsz Hb1
 obtain⟨b0,b1,b2,b3,b4⟩:=cells5 Hb1.out
 go_wp2_with fail
 refine(HNB.out _ HW1.out).mono ?_
 rintro e w2 ⟨rfl,hb⟩
 have Ha2:=hkh hb Ha1.out
 have Hb2:=hkh hb Hb1.out
 have HW2:=hbn HW1.out hb
 have hz2:=hb.size
 try simp at hz2
 clear hb
 clear hyb b0 b1 b2 b3 b4
 go_wp2_with fail
 refine(Hhbw.out _).mono ?_
 rintro e W0 ⟨rfl,rfl⟩
 go_wp2_with fail
 refine(HFN.out _ w.heap.size (w.heap.size+1) HW2.out Ha2.out Hb2.out).mono ?_
 rintro e w9 ⟨rfl,hb⟩
 go_wp2
 go_ret
 exact⟨rfl,zAC HW2.out hb⟩
theorem pWrong_bit_f (w:World) (o:Int) (k1 p1 q1:Int) (s1:ByteArray) (r1:Int) (k2 p2 q2:Int) (s2:ByteArray) (r2:Int) (NA:∀W,Below w.heap.size w W→Calls Tryz.prog 182 #[.agg #[k1,p1,q1,s1,r1]] W (BoolPost W false)) (ho:(o==20)=false) (har:PureTo 37 o false) (hbw:PureTo 38 o true) (T:ByteArray) (hT:T.size≤8) (FN:∀W ba bb,Below w.heap.size w W→W.heap[ba]? =some (oV k1 p1 q1 s1 r1)→W.heap[bb]? =some (oV k2 p2 q2 s2 r2)→Calls Tryz.prog 180 #[.func (.func 182) #[] #[],.pointer (some ⟨ba,0,none⟩),.pointer (some ⟨bb,0,none⟩)] W (StrPost W T)):Calls Tryz.prog 122 #[o,.agg #[k1,p1,q1,s1,r1],.agg #[k2,p2,q2,s2,r2]] w (StrPost w (sBitw++T++sValue)):=by
 have hmf:∀fn first cap (W:World),(Instr.makeFunc fn first cap).run Tryz.prog W= .ok (.func fn first cap) W:=fun _ _ _ _=>rfl
 have HNA:=Lib.hid NA
 have Hhar:=Lib.hid har
 have Hhbw:=Lib.hid hbw
 have HFN:=Lib.hid FN
 clear NA har hbw FN
 go_enter Tryz.func122,Tryz.ntmps122
 go_wp2_with fail
 refine(Hhar.out _).mono ?_
 rintro e W0 ⟨rfl,rfl⟩
 go_wp2_with fail
 refine(Hhbw.out _).mono ?_
 rintro e W0 ⟨rfl,rfl⟩
 go_wp2_with fail
 refine(HNA.out _ (zAF _ _ _)).mono ?_
 rintro e w1 ⟨rfl,hb⟩
 have Ha1:=hkh hb (zAf _ _ _)
 have Hb1:=hkh hb (zAW _ _ _)
 have HW1:=hbn (zAF _ _ _) hb
 have hz1:=hb.size
 try simp at hz1
 clear hb
 have hyb:w.heap.size+1<w1.heap.size:=hsz Hb1
 obtain⟨b0,b1,b2,b3,b4⟩:=cells5 Hb1.out
 clear hyb b0 b1 b2 b3 b4
 go_wp2_with fail
 refine(Hhbw.out _).mono ?_
 rintro e W0 ⟨rfl,rfl⟩
 go_wp2_with fail
 refine(HFN.out _ w.heap.size (w.heap.size+1) HW1.out Ha1.out Hb1.out).mono ?_
 rintro e w9 ⟨rfl,hb⟩
 go_wp2
 go_ret
 exact⟨rfl,zAC HW1.out hb⟩
theorem pWrong_conc (w:World) (o:Int) (k1 p1 q1:Int) (s1:ByteArray) (r1:Int) (k2 p2 q2:Int) (s2:ByteArray) (r2:Int) (ho:(o==8)=true) (T:ByteArray) (hT:T.size≤8) (FN:∀W ba bb,Below w.heap.size w W→W.heap[ba]? =some (oV k1 p1 q1 s1 r1)→W.heap[bb]? =some (oV k2 p2 q2 s2 r2)→Calls Tryz.prog 180 #[.func (.func 183) #[] #[],.pointer (some ⟨ba,0,none⟩),.pointer (some ⟨bb,0,none⟩)] W (StrPost W T)) (ho2:(o==20)=false) (har:PureTo 37 o false) (hbw:PureTo 38 o false):Calls Tryz.prog 122 #[o,.agg #[k1,p1,q1,s1,r1],.agg #[k2,p2,q2,s2,r2]] w (StrPost w (sConc++T++sValue)):=by
 have hmf:∀fn first cap (W:World),(Instr.makeFunc fn first cap).run Tryz.prog W= .ok (.func fn first cap) W:=fun _ _ _ _=>rfl
 have HFN:=Lib.hid FN
 have Hhar:=Lib.hid har
 have Hhbw:=Lib.hid hbw
 clear FN har hbw
 go_enter Tryz.func122,Tryz.ntmps122
 go_wp2_with fail
 refine(Hhar.out _).mono ?_
 rintro e W0 ⟨rfl,rfl⟩
 go_wp2_with fail
 refine(Hhbw.out _).mono ?_
 rintro e W0 ⟨rfl,rfl⟩
 go_wp2_with fail
 refine(Hhbw.out _).mono ?_
 rintro e W0 ⟨rfl,rfl⟩
 go_wp2_with fail
 refine(HFN.out _ w.heap.size (w.heap.size+1) (zAF _ _ _) (zAf _ _ _) (zAW _ _ _)).mono ?_
 rintro e w9 ⟨rfl,hb⟩
 go_wp2
 go_ret
 exact⟨rfl,zAC (zAF _ _ _) hb⟩
theorem pWrong_two (w:World) (o:Int) (k1 p1 q1:Int) (s1:ByteArray) (r1:Int) (k2 p2 q2:Int) (s2:ByteArray) (r2:Int) (T1 T2:ByteArray) (h1:T1.size≤8) (h2:T2.size≤8) (TA:∀W,Calls Tryz.prog 181 #[.agg #[k1,p1,q1,s1,r1]] W (StrPost W T1)) (TB:∀W,Calls Tryz.prog 181 #[.agg #[k2,p2,q2,s2,r2]] W (StrPost W T2)) (ho:(o==8)=false) (ho2:(o==20)=false) (har:PureTo 37 o false) (hbw:PureTo 38 o false) (heq:(T1.toList==T2.toList)=true):Calls Tryz.prog 122 #[o,.agg #[k1,p1,q1,s1,r1],.agg #[k2,p2,q2,s2,r2]] w (StrPost w (sTwo++T1++sValues)):=by
 have hmf:∀fn first cap (W:World),(Instr.makeFunc fn first cap).run Tryz.prog W= .ok (.func fn first cap) W:=fun _ _ _ _=>rfl
 have HTA:=Lib.hid TA
 have HTB:=Lib.hid TB
 have Hhar:=Lib.hid har
 have Hhbw:=Lib.hid hbw
 clear TA TB har hbw
 go_enter Tryz.func122,Tryz.ntmps122
 go_wp2_with fail
 refine(Hhar.out _).mono ?_
 rintro e W0 ⟨rfl,rfl⟩
 go_wp2_with fail
 refine(Hhbw.out _).mono ?_
 rintro e W0 ⟨rfl,rfl⟩
 go_wp2_with fail
 refine(Hhbw.out _).mono ?_
 rintro e W0 ⟨rfl,rfl⟩
 go_wp2
 obtain⟨B,hB⟩:∃B,B=(w.alloc (oV k1 p1 q1 s1 r1)).alloc (oV k2 p2 q2 s2 r2):=⟨_,rfl⟩
 rw[←hB]
 have HBB1:=Lib.hid (show Below w.heap.size w B by rw[hB];exact zAF _ _ _)
 have HBa:=Lib.hid (show B.heap[w.heap.size]? =some (oV k1 p1 q1 s1 r1) by rw[hB];exact zAf _ _ _)
 have HBb:=Lib.hid (show B.heap[w.heap.size+1]? =some (oV k2 p2 q2 s2 r2) by rw[hB];exact zAW _ _ _)
 clear hB
 have SO:=Lib.hid (fun(W:World) (hb:Below B.heap.size B W)=>(show W.cell? ⟨w.heap.size,0,none⟩=some (.int .i64 k1)∧W.cell? ⟨w.heap.size,1,none⟩=some (.int .i64 p1)∧W.cell? ⟨w.heap.size,2,none⟩=some (.int .i64 q1)∧W.cell? ⟨w.heap.size,3,none⟩=some (.string s1)∧W.cell? ⟨w.heap.size,4,none⟩=some (.int .i64 r1)∧W.cell? ⟨w.heap.size+1,0,none⟩=some (.int .i64 k2)∧W.cell? ⟨w.heap.size+1,1,none⟩=some (.int .i64 p2)∧W.cell? ⟨w.heap.size+1,2,none⟩=some (.int .i64 q2)∧W.cell? ⟨w.heap.size+1,3,none⟩=some (.string s2)∧W.cell? ⟨w.heap.size+1,4,none⟩=some (.int .i64 r2)∧Hid (Below B.heap.size B W) from⟨by rw[zAA (hkeep hb HBa.out)];rfl,by rw[zAA (hkeep hb HBa.out)];rfl,by rw[zAA (hkeep hb HBa.out)];rfl,by rw[zAA (hkeep hb HBa.out)];rfl,by rw[zAA (hkeep hb HBa.out)];rfl,by rw[zAA (hkeep hb HBb.out)];rfl,by rw[zAA (hkeep hb HBb.out)];rfl,by rw[zAA (hkeep hb HBb.out)];rfl,by rw[zAA (hkeep hb HBb.out)];rfl,by rw[zAA (hkeep hb HBb.out)];rfl,Lib.hid hb⟩))
 have hbD:Below B.heap.size B B.drew:=(Below.refl _ _).drew
 go_region_held3 (fun w'=>w'.cell? ⟨w.heap.size,0,none⟩=some (.int .i64 k1)∧w'.cell? ⟨w.heap.size,1,none⟩=some (.int .i64 p1)∧w'.cell? ⟨w.heap.size,2,none⟩=some (.int .i64 q1)∧w'.cell? ⟨w.heap.size,3,none⟩=some (.string s1)∧w'.cell? ⟨w.heap.size,4,none⟩=some (.int .i64 r1)∧w'.cell? ⟨w.heap.size+1,0,none⟩=some (.int .i64 k2)∧w'.cell? ⟨w.heap.size+1,1,none⟩=some (.int .i64 p2)∧w'.cell? ⟨w.heap.size+1,2,none⟩=some (.int .i64 q2)∧w'.cell? ⟨w.heap.size+1,3,none⟩=some (.string s2)∧w'.cell? ⟨w.heap.size+1,4,none⟩=some (.int .i64 r2)∧Hid (Below B.heap.size B w'))
  (first|with_reducible exact SO.out _ (by assumption))
  (first|(go_at_call 181;(first|(with_reducible refine(HTA.out _).mono ?_)|(with_reducible refine(HTB.out _).mono ?_));rintro e v1 ⟨rfl,hb⟩;have hbv1:=zAC (prj10 (by assumption)) hb;clear hb))
 have HV1:=hbn HBB1.out hbv1
 have Ha1:=hkh hbv1 HBa.out
 have hya:w.heap.size<v1.heap.size:=hsz Ha1
 clear hbv1
 obtain⟨a0,a1,a2,a3,a4⟩:=cells5 Ha1.out
 go_wp2_with fail
 refine(HTA.out _).mono ?_
 rintro e v2 ⟨rfl,hb⟩
 go_wp2
 go_ret
 exact⟨rfl,zAC HV1.out hb⟩
theorem pWrong_more (w:World) (o:Int) (k1 p1 q1:Int) (s1:ByteArray) (r1:Int) (k2 p2 q2:Int) (s2:ByteArray) (r2:Int) (T1 T2:ByteArray) (h1:T1.size≤8) (h2:T2.size≤8) (TA:∀W,Calls Tryz.prog 181 #[.agg #[k1,p1,q1,s1,r1]] W (StrPost W T1)) (TB:∀W,Calls Tryz.prog 181 #[.agg #[k2,p2,q2,s2,r2]] W (StrPost W T2)) (ho:(o==8)=false) (ho2:(o==20)=false) (har:PureTo 37 o false) (hbw:PureTo 38 o false) (heq:(T1.toList==T2.toList)=false):Calls Tryz.prog 122 #[o,.agg #[k1,p1,q1,s1,r1],.agg #[k2,p2,q2,s2,r2]] w (StrPost w (sComp++T1++sWith++T2)):=by
 have hmf:∀fn first cap (W:World),(Instr.makeFunc fn first cap).run Tryz.prog W= .ok (.func fn first cap) W:=fun _ _ _ _=>rfl
 have HTA:=Lib.hid TA
 have HTB:=Lib.hid TB
 have Hhar:=Lib.hid har
 have Hhbw:=Lib.hid hbw
 clear TA TB har hbw
 go_enter Tryz.func122,Tryz.ntmps122
 have had1:=fun W=>add_run sComp T1 (by have:sComp.size=19:=rfl;omega) W
 have had2:=fun W=>add_run (sComp++T1) sWith (by rw[ByteArray.size_append];have:sComp.size=19:=rfl;have:sWith.size=6:=rfl;omega) W
 have had3:=fun W=>add_run (sComp++T1++sWith) T2 (by rw[ByteArray.size_append,ByteArray.size_append];have:sComp.size=19:=rfl;have:sWith.size=6:=rfl;omega) W
 go_wp2_with fail
 refine(Hhar.out _).mono ?_
 rintro e W0 ⟨rfl,rfl⟩
 go_wp2_with fail
 refine(Hhbw.out _).mono ?_
 rintro e W0 ⟨rfl,rfl⟩
 go_wp2_with fail
 refine(Hhbw.out _).mono ?_
 rintro e W0 ⟨rfl,rfl⟩
 go_wp2
 obtain⟨B,hB⟩:∃B,B=(w.alloc (oV k1 p1 q1 s1 r1)).alloc (oV k2 p2 q2 s2 r2):=⟨_,rfl⟩
 rw[←hB]
 have HBB1:=Lib.hid (show Below w.heap.size w B by rw[hB];exact zAF _ _ _)
 have HBa:=Lib.hid (show B.heap[w.heap.size]? =some (oV k1 p1 q1 s1 r1) by rw[hB];exact zAf _ _ _)
 have HBb:=Lib.hid (show B.heap[w.heap.size+1]? =some (oV k2 p2 q2 s2 r2) by rw[hB];exact zAW _ _ _)
 clear hB
 have SO:=Lib.hid (fun(W:World) (hb:Below B.heap.size B W)=>(show W.cell? ⟨w.heap.size,0,none⟩=some (.int .i64 k1)∧W.cell? ⟨w.heap.size,1,none⟩=some (.int .i64 p1)∧W.cell? ⟨w.heap.size,2,none⟩=some (.int .i64 q1)∧W.cell? ⟨w.heap.size,3,none⟩=some (.string s1)∧W.cell? ⟨w.heap.size,4,none⟩=some (.int .i64 r1)∧W.cell? ⟨w.heap.size+1,0,none⟩=some (.int .i64 k2)∧W.cell? ⟨w.heap.size+1,1,none⟩=some (.int .i64 p2)∧W.cell? ⟨w.heap.size+1,2,none⟩=some (.int .i64 q2)∧W.cell? ⟨w.heap.size+1,3,none⟩=some (.string s2)∧W.cell? ⟨w.heap.size+1,4,none⟩=some (.int .i64 r2)∧Hid (Below B.heap.size B W) from⟨by rw[zAA (hkeep hb HBa.out)];rfl,by rw[zAA (hkeep hb HBa.out)];rfl,by rw[zAA (hkeep hb HBa.out)];rfl,by rw[zAA (hkeep hb HBa.out)];rfl,by rw[zAA (hkeep hb HBa.out)];rfl,by rw[zAA (hkeep hb HBb.out)];rfl,by rw[zAA (hkeep hb HBb.out)];rfl,by rw[zAA (hkeep hb HBb.out)];rfl,by rw[zAA (hkeep hb HBb.out)];rfl,by rw[zAA (hkeep hb HBb.out)];rfl,Lib.hid hb⟩))
 have hbD:Below B.heap.size B B.drew:=(Below.refl _ _).drew
 go_region_held3 (fun w'=>w'.cell? ⟨w.heap.size,0,none⟩=some (.int .i64 k1)∧w'.cell? ⟨w.heap.size,1,none⟩=some (.int .i64 p1)∧w'.cell? ⟨w.heap.size,2,none⟩=some (.int .i64 q1)∧w'.cell? ⟨w.heap.size,3,none⟩=some (.string s1)∧w'.cell? ⟨w.heap.size,4,none⟩=some (.int .i64 r1)∧w'.cell? ⟨w.heap.size+1,0,none⟩=some (.int .i64 k2)∧w'.cell? ⟨w.heap.size+1,1,none⟩=some (.int .i64 p2)∧w'.cell? ⟨w.heap.size+1,2,none⟩=some (.int .i64 q2)∧w'.cell? ⟨w.heap.size+1,3,none⟩=some (.string s2)∧w'.cell? ⟨w.heap.size+1,4,none⟩=some (.int .i64 r2)∧Hid (Below B.heap.size B w'))
  (first|with_reducible exact SO.out _ (by assumption))
  (first|(go_at_call 181;(first|(with_reducible refine(HTA.out _).mono ?_)|(with_reducible refine(HTB.out _).mono ?_));rintro e v1 ⟨rfl,hb⟩;have hbv1:=zAC (prj10 (by assumption)) hb;clear hb))
 have HV1:=hbn HBB1.out hbv1
 have Ha1:=hkh hbv1 HBa.out
 have Hb1:=hkh hbv1 HBb.out
 clear hbv1 hbD SO HBa HBb
 go_wp2
 obtain⟨B,hB⟩:∃B,B=v1:=⟨_,rfl⟩
 rw[←hB]
 have HBB2:=Lib.hid (show Below w.heap.size w B by rw[hB];exact HV1.out)
 have HBa:=Lib.hid (show B.heap[w.heap.size]? =some (oV k1 p1 q1 s1 r1) by rw[hB];exact Ha1.out)
 have HBb:=Lib.hid (show B.heap[w.heap.size+1]? =some (oV k2 p2 q2 s2 r2) by rw[hB];exact Hb1.out)
 clear hB
 have SO:=Lib.hid (fun(W:World) (hb:Below B.heap.size B W)=>(show W.cell? ⟨w.heap.size,0,none⟩=some (.int .i64 k1)∧W.cell? ⟨w.heap.size,1,none⟩=some (.int .i64 p1)∧W.cell? ⟨w.heap.size,2,none⟩=some (.int .i64 q1)∧W.cell? ⟨w.heap.size,3,none⟩=some (.string s1)∧W.cell? ⟨w.heap.size,4,none⟩=some (.int .i64 r1)∧W.cell? ⟨w.heap.size+1,0,none⟩=some (.int .i64 k2)∧W.cell? ⟨w.heap.size+1,1,none⟩=some (.int .i64 p2)∧W.cell? ⟨w.heap.size+1,2,none⟩=some (.int .i64 q2)∧W.cell? ⟨w.heap.size+1,3,none⟩=some (.string s2)∧W.cell? ⟨w.heap.size+1,4,none⟩=some (.int .i64 r2)∧Hid (Below B.heap.size B W) from⟨by rw[zAA (hkeep hb HBa.out)];rfl,by rw[zAA (hkeep hb HBa.out)];rfl,by rw[zAA (hkeep hb HBa.out)];rfl,by rw[zAA (hkeep hb HBa.out)];rfl,by rw[zAA (hkeep hb HBa.out)];rfl,by rw[zAA (hkeep hb HBb.out)];rfl,by rw[zAA (hkeep hb HBb.out)];rfl,by rw[zAA (hkeep hb HBb.out)];rfl,by rw[zAA (hkeep hb HBb.out)];rfl,by rw[zAA (hkeep hb HBb.out)];rfl,Lib.hid hb⟩))
 have hbD:Below B.heap.size B B.drew:=(Below.refl _ _).drew
 go_region_held3 (fun w'=>w'.cell? ⟨w.heap.size,0,none⟩=some (.int .i64 k1)∧w'.cell? ⟨w.heap.size,1,none⟩=some (.int .i64 p1)∧w'.cell? ⟨w.heap.size,2,none⟩=some (.int .i64 q1)∧w'.cell? ⟨w.heap.size,3,none⟩=some (.string s1)∧w'.cell? ⟨w.heap.size,4,none⟩=some (.int .i64 r1)∧w'.cell? ⟨w.heap.size+1,0,none⟩=some (.int .i64 k2)∧w'.cell? ⟨w.heap.size+1,1,none⟩=some (.int .i64 p2)∧w'.cell? ⟨w.heap.size+1,2,none⟩=some (.int .i64 q2)∧w'.cell? ⟨w.heap.size+1,3,none⟩=some (.string s2)∧w'.cell? ⟨w.heap.size+1,4,none⟩=some (.int .i64 r2)∧Hid (Below B.heap.size B w'))
  (first|with_reducible exact SO.out _ (by assumption))
  (first|(go_at_call 181;(first|(with_reducible refine(HTA.out _).mono ?_)|(with_reducible refine(HTB.out _).mono ?_));rintro e v2 ⟨rfl,hb⟩;have hbv2:=zAC (prj10 (by assumption)) hb;clear hb))
 go_wp2
 go_ret
 exact⟨rfl,zAC HBB2.out (by assumption)⟩
end Go.Proofs.YthkpckgcgkijbaaGreatDoor
