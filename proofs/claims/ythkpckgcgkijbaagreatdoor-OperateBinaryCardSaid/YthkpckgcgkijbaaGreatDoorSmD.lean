import Derived.Test.YthkpckgcgkijbaaGreatDoorOpD
import Derived.Test.YthkpckgcgkijbaaGreatDoorMapL
set_option linter.unusedVariables false
set_option linter.unusedSimpArgs false
set_option maxRecDepth 100000
set_option maxHeartbeats 2000000
namespace Go.Proofs.YthkpckgcgkijbaaGreatDoor
open Go.RowKit Go.Proofs.Lexi Go.Proofs.Tryz
variable (w:World) (m cap:Nat) (so:Option Addr)
theorem X7 (L:List Sl) (hm:w.heap[m]? =some (.cells #[.slice so L.length cap] 181)) (hrow:w.ownsRow 0 186 11 (.slice so L.length cap) L.length (ZA L)) (hL:L.length<=1000) (k1 p1 q1:Int) (s1:ByteArray) (r1:Int) (k2 p2 q2:Int) (s2:ByteArray) (r2:Int) (hvk:∀W,Calls prog 26 #[.agg #[k1,p1,q1,s1,r1]] W (BoolPost W true)) (hvv:∀W,Calls prog 26 #[.agg #[k2,p2,q2,s2,r2]] W (BoolPost W true)) (hk0:(k1==0)=false) (hfi:∀W,Below w w W->Calls prog 226 #[m,.agg #[k1,p1,q1,s1,r1]] W (IntPost W (-1))) (hv0:(k2==0)=false) (hroom:Q1 L+8<L.length-Q1 L):Calls prog 175 #[m,.agg #[k1,p1,q1,s1,r1],.agg #[k2,p2,q2,s2,r2]] w (SmPost w m (.slice so L.length cap) (Qq L++[⟨⟨k1,p1,q1,s1,r1⟩,⟨k2,p2,q2,s2,r2⟩,false⟩])):=by
 have hml:m<w:=(Array.getElem?_eq_some_iff.1 hm).1;have hl2:=ZR L;have hroomI:(((Q1 L:Nat):Int)+8<((L.length:Nat):Int)-((Q1 L:Nat):Int)):=by omega
 have HM:=zh hm;have HROW:=zh hrow;have HVK:=zh hvk;have HVV:=zh hvv;have HF:=zh hfi;clear hvk hvv hfi hm hrow;go_enter func175,ntmps175;go_wp2_with fail
 refine(HVK.out _).mono ?_;rintro e w1 ⟨rfl,hb⟩;have Ha1:=hkh hb (Qm _ _ _);have Hb1:=hkh hb (QY _ _ _);have Hm1:=hkh hb (Qs HM.out _ _);have HW1:=hbn (QE _ _ _) hb;have hz1:=hb.size;try simp at hz1
 clear hb;have hyb:w.heap.size+1<w1.heap.size:=(Array.getElem?_eq_some_iff.1 Hb1.out).1;obtain⟨b0,b1,b2,b3,b4⟩:=zc5 Hb1;go_wp2_with fail
 refine(HVV.out _).mono ?_;rintro e w2 ⟨rfl,hb⟩;have Ha2:=hkh hb Ha1;have Hb2:=hkh hb Hb1;have Hm2:=hkh hb Hm1;have HW2:=hbn HW1 hb;have hz2:=hb.size;try simp at hz2
 clear hb;clear hyb b0 b1 b2 b3 b4;have hya:w.heap.size<w2.heap.size:=(Array.getElem?_eq_some_iff.1 Ha2.out).1;obtain⟨a0,a1,a2,a3,a4⟩:=zc5 Ha2;go_wp2_with fail
 refine(HF.out _ HW2.out).mono ?_;rintro e w3 ⟨rfl,hb⟩;have Ha3:=hkh hb Ha2;have Hb3:=hkh hb Hb2;have Hm3:=hkh hb Hm2;have HW3:=hbn HW2 hb;have hz3:=hb.size;try simp at hz3
 clear hb;clear hya a0 a1 a2 a3 a4;have hya:w.heap.size<w3.heap.size:=(Array.getElem?_eq_some_iff.1 Ha3.out).1;obtain⟨a0,a1,a2,a3,a4⟩:=zc5 Ha3;have hyb:w.heap.size+1<w3.heap.size:=(Array.getElem?_eq_some_iff.1 Hb3.out).1;obtain⟨b0,b1,b2,b3,b4⟩:=zc5 Hb3;have hym:m<w3:=(Array.getElem?_eq_some_iff.1 Hm3.out).1;have m0:w3.cell? m=some (.slice so L.length cap):=by rw[QA Hm3.out];rfl
 have fm0:w3.frozen? m=false:=QB Hm3.out _;have HROW3:=zh (QR (QV HW3.out zl) HROW.out);go_wp2_with fail
 refine(PM w3 m cap so L Hm3.out HROW3.out hL).mono ?_;rintro e w4 ⟨rfl,rfl⟩;obtain⟨rb0,cap0,he0⟩:=Qh HROW3.out (by omega);injection he0 with he1 he2 he3;subst he1;subst he3;have HS0:=zh (show RoomRel w3 L L.length (.slice none 0 0) (.int .i64 0) w3 from⟨0,0,none,rfl,by rw[List.take_zero];rfl,rfl,Nat.zero_le _,by rw[List.take_zero];exact World.ownsRow_nil _ _ _ _,Below.refl _ _⟩);go_wp2
 go_loopg [9,10] L.length (fun gg vl vi wr=>RoomRel w3 L gg vl vi wr)
 case atStart=>exact HS0.out
 case round=>
  clear HS0 a0 a1 a2 a3 a4 b0 b1 b2 b3 b4 m0 fm0;obtain⟨j,cap2,so2,rfl,rfl,rfl,hj,hown,hb⟩:=hrel;have HOWN:=zh hown;have HB:=zh hb;have HMr:=hkh hb Hm3;have HAr:=hkh hb Ha3;have HBr:=hkh hb Hb3;have hrowr:=QR (QV hb zl) HROW3.out;have hsz:=hb.size;have hdl:=Ki (L.take j);rw[List.length_take] at hdl;clear hown hb;have m0:wr.cell? m=some (.slice (some rb0) L.length cap):=by rw[QA HMr.out];rfl
  have fm0:wr.frozen? m=false:=QB HMr.out _;by_cases hlt:j<L.length
  ·obtain⟨sl2,hsl2⟩:∃sl2,L[j]? =some sl2:=⟨_,List.getElem?_eq_getElem hlt⟩
   have rd0:wr.cell? ⟨rb0,j*11,none⟩=some (.int .i64 sl2.k.k):=(hrowr.cellAt (j*11+0) (by omega)).trans (Qk L j 0 sl2 hsl2 (by decide));have rd1:wr.cell? ⟨rb0,j*11+1,none⟩=some (.int .i64 sl2.k.p):=(hrowr.cellAt (j*11+1) (by omega)).trans (Qk L j 1 sl2 hsl2 (by decide));have rd2:wr.cell? ⟨rb0,j*11+2,none⟩=some (.int .i64 sl2.k.q):=(hrowr.cellAt (j*11+2) (by omega)).trans (Qk L j 2 sl2 hsl2 (by decide));have rd3:wr.cell? ⟨rb0,j*11+3,none⟩=some (.string sl2.k.s):=(hrowr.cellAt (j*11+3) (by omega)).trans (Qk L j 3 sl2 hsl2 (by decide));have rd4:wr.cell? ⟨rb0,j*11+4,none⟩=some (.int .i64 sl2.k.r):=(hrowr.cellAt (j*11+4) (by omega)).trans (Qk L j 4 sl2 hsl2 (by decide));have rd5:wr.cell? ⟨rb0,j*11+5,none⟩=some (.int .i64 sl2.v.k):=(hrowr.cellAt (j*11+5) (by omega)).trans (Qk L j 5 sl2 hsl2 (by decide));have rd6:wr.cell? ⟨rb0,j*11+6,none⟩=some (.int .i64 sl2.v.p):=(hrowr.cellAt (j*11+6) (by omega)).trans (Qk L j 6 sl2 hsl2 (by decide));have rd7:wr.cell? ⟨rb0,j*11+7,none⟩=some (.int .i64 sl2.v.q):=(hrowr.cellAt (j*11+7) (by omega)).trans (Qk L j 7 sl2 hsl2 (by decide));have rd8:wr.cell? ⟨rb0,j*11+8,none⟩=some (.string sl2.v.s):=(hrowr.cellAt (j*11+8) (by omega)).trans (Qk L j 8 sl2 hsl2 (by decide));have rd9:wr.cell? ⟨rb0,j*11+9,none⟩=some (.int .i64 sl2.v.r):=(hrowr.cellAt (j*11+9) (by omega)).trans (Qk L j 9 sl2 hsl2 (by decide));have rd10:wr.cell? ⟨rb0,j*11+10,none⟩=some (.bool sl2.g):=(hrowr.cellAt (j*11+10) (by omega)).trans (Qk L j 10 sl2 hsl2 (by decide));clear hrowr;cases hgf:sl2.g with
   |true=>
    rw[hgf] at rd10;have HDR:=zh (YE hsl2 hgf);clear hgf hsl2;go_wp2
    go_roundg (L.length-(j+1))
    case measure=>omega
    case rel=>exact⟨j+1,cap2,so2,rfl,by rw[HDR.out],rfl,by omega,Dc HOWN.out HDR.out,HB.out⟩
   |false=>
    rw[hgf] at rd10;have HDR:=zh (Xq hsl2 hgf);clear hsl2;obtain⟨i6,hi6,hi6a,hi6b,hi6c⟩:=info_parts GF;go_wp2_with (at_builtin;refine wpList_append_own_at _ rfl (.tmp 91) (.tmp 99) 179 rfl w3.heap.size 186 i6 _ 11 104 underlying179 hi6 hi6a hi6b hi6c rfl (by decide) (.slice so2 (Qq (L.take j)).length cap2) (Qq (L.take j)).length (ZA (Qq (L.take j))) rfl ?A _ 1 1 [.int .i64 sl2.k.k,.int .i64 sl2.k.p,.int .i64 sl2.k.q,.string sl2.k.s,.int .i64 sl2.k.r,.int .i64 sl2.v.k,.int .i64 sl2.v.p,.int .i64 sl2.v.q,.string sl2.v.s,.int .i64 sl2.v.r,.bool false] rfl rfl ?B ?C ?D ?E ?F ?G)
    case A=>exact QR (QV ((Below.refl _ _).alloc zl _) zl) HOWN.out
    case B=>exact J6 _ _ _ _ _ _ _ _ _ _ _ _ _ _ rfl
    case C=>
     intro u hu;simp only[List.mem_cons,List.not_mem_nil,or_false] at hu;rcases hu with rfl|rfl|rfl|rfl|rfl|rfl|rfl|rfl|rfl|rfl|rfl<;>simp[Value.oneCell']
    case D=>unfold maxLen;omega
    case E=>omega
    case F=>first|omega|(simp;omega)
    case G=>
     intro v' w5 hown hgrow _ hat;obtain⟨rb',cap',rfl⟩:=Qh hown (by omega);have HOWN5:=zh hown;have HGR:=zh hgrow;clear hown hgrow hat rd0 rd1 rd2 rd3 rd4 rd5 rd6 rd7 rd8 rd9 rd10 m0 fm0;go_wp2
     go_roundg (L.length-(j+1))
     case measure=>omega
     case rel=>
      have hlen:(Qq (L.take (j+1))).length=(Qq (L.take j)).length+1:=by rw[HDR.out,List.length_append];rfl
      have hrow5:ZA (Qq (L.take (j+1)))=ZA (Qq (L.take j))++[.int .i64 sl2.k.k,.int .i64 sl2.k.p,.int .i64 sl2.k.q,.string sl2.k.s,.int .i64 sl2.k.r,.int .i64 sl2.v.k,.int .i64 sl2.v.p,.int .i64 sl2.v.q,.string sl2.v.s,.int .i64 sl2.v.r,.bool false]:=by
       rw[HDR.out,KF];unfold ZP;rw[hgf]
      refine⟨j+1,cap',some ⟨rb',0,none⟩,rfl,by rw[hlen],rfl,by omega,by rw[hlen,hrow5];exact HOWN5.out,?_⟩;have hb1:Below w3 w3 (wr.alloc (.cells #[.int .i64 sl2.k.k,.int .i64 sl2.k.p,.int .i64 sl2.k.q,.string sl2.k.s,.int .i64 sl2.k.r,.int .i64 sl2.v.k,.int .i64 sl2.v.p,.int .i64 sl2.v.q,.string sl2.v.s,.int .i64 sl2.v.r,.bool false] 186)):=HB.out.alloc hsz _;refine⟨HGR.out.os.trans hb1.os,HGR.out.tape.trans hb1.tape,HGR.out.output.trans hb1.output,Nat.le_trans hb1.size HGR.out.size,fun b hb=>(HGR.out.block b (Nat.lt_of_lt_of_le hb hb1.size) (fun e=> ?_)).trans (hb1.block b hb)⟩;have:=(QS HOWN.out e.symm).1;omega
  ·obtain rfl:j=L.length:=by omega
   have hown2:=HOWN.out;rw[List.take_length] at hown2;have HOW2:=zh (J2 hown2 (Nat.zero_le _));have HOBK:=zh (fun b hb=>QS hown2 (g:=b) hb);have hdl2:=Ki L;clear hown2 hrowr hlt hdl;go_wp2_with fail
   have HMW:=zh (show(wr.setCell m (.slice so2 (Qq L).length cap2)).heap[m]? =some (.cells #[.slice so2 (Qq L).length cap2] 181) from Ql HMr.out 0 _);have hbm:∀b,(Value.slice so2 (Qq L).length cap2).ownBlock=some b->b≠m:=fun b hb e=>by
    have:=(HOBK.out b hb).1;have:=HW3.out.size;omega
   have HRW:=zh (Qb (w3:=wr.setCell m (.slice so2 (Qq L).length cap2)) HOW2.out (fun b hb=>Below.heap_setCell _ _ _ _ (hbm b hb)));have HAW:=zh ((Below.heap_setCell wr ⟨m,0,none⟩ (.slice so2 (Qq L).length cap2) w.heap.size (by show w.heap.size≠m;omega)).trans HAr.out);have HBWx:=zh ((Below.heap_setCell wr ⟨m,0,none⟩ (.slice so2 (Qq L).length cap2) (w.heap.size+1) (by show w.heap.size+1≠m;omega)).trans HBr.out);have HMD:=zh (show Mods (SmF m (.slice (some rb0) L.length cap)) w (wr.setCell m (.slice so2 (Qq L).length cap2)) from QQ (Mods.of_below (QC HW3.out HB.out)) (.inl (.inl rfl)) _);have hzW:wr.heap.size<=(wr.setCell m (.slice so2 (Qq L).length cap2)).heap.size:=by simp
   clear hbm m0 fm0;generalize wr.setCell m (.slice so2 (Qq L).length cap2)=W at HMW HRW HAW HBWx HMD hzW ⊢;have hw30:=HW3.out.size;obtain⟨a0,a1,a2,a3,a4⟩:=zc5 HAW;obtain⟨b0,b1,b2,b3,b4⟩:=zc5 HBWx;have m0:W.cell? m=some (.slice so2 (Qq L).length cap2):=by rw[QA HMW.out];rfl
   have fm0:W.frozen? m=false:=QB HMW.out _;obtain⟨i6,hi6,hi6a,hi6b,hi6c⟩:=info_parts GF;refine QK mixed (by kernel_rfl) ?_;go_wp2_with (at_builtin;refine wpList_append_own_at _ rfl (.tmp 109) (.tmp 113) 179 rfl 0 186 i6 _ 11 104 underlying179 hi6 hi6a hi6b hi6c rfl (by decide) (.slice so2 (Qq L).length cap2) (Qq L).length (ZA (Qq L)) rfl ?A _ 1 1 [.int .i64 k1,.int .i64 p1,.int .i64 q1,.string s1,.int .i64 r1,.int .i64 k2,.int .i64 p2,.int .i64 q2,.string s2,.int .i64 r2,.bool false] rfl rfl ?B ?C ?D ?E ?F ?G)
   case A=>exact QR (QV ((Below.refl _ _).alloc zl _).drew zl) HRW.out
   case B=>exact ZM _ _ _ _ _ _ _ _ _ _ _ _ _ _ rfl
   case C=>
    intro u hu;simp only[List.mem_cons,List.not_mem_nil,or_false] at hu;rcases hu with rfl|rfl|rfl|rfl|rfl|rfl|rfl|rfl|rfl|rfl|rfl<;>simp[Value.oneCell']
   case D=>unfold maxLen;omega
   case E=>omega
   case F=>exact Nat.zero_le _
   case G=>
    intro v' w5 hown hgrow _ hat;obtain⟨rb',cap',rfl⟩:=Qh hown (by omega);have hne:∀b,(Value.slice so2 (Qq L).length cap2).ownBlock=some b->b≠m:=fun b hb=>by
     obtain⟨c2,hc⟩:=Qd HRW.out hb;exact QW hc HMW.out (by decide)
    have HM5:=zh (show w5.heap[m]? =_ from(hgrow.block m (by simp;omega) (fun e=>hne m e.symm rfl)).trans ((Below.heap_alloc W _ m (by omega)).trans HMW.out));have HOWN5:=zh hown;have HAT:=zh hat;have HGR:=zh hgrow;clear hown hat hgrow hne a0 a1 a2 a3 a4 b0 b1 b2 b3 b4 m0 fm0;have m0:w5.cell? m=some (.slice so2 (Qq L).length cap2):=by rw[QA HM5.out];rfl
    have fm0:w5.frozen? m=false:=QB HM5.out _;go_wp2;refine⟨by kernel_rfl,?_⟩;go_wp2
    go_ret
    refine⟨rfl,.slice (some rb') ((Qq L).length+1) cap',Uv HM5.out HOWN5.out (FO L),QQ (KN (HMD.out.trans (Mods.of_below ((Below.refl _ _).alloc zl _).drew)) HGR.out (fun b hb=> .inr (by have:=(HOBK.out b hb).1;omega))) (.inl (.inl rfl)) _,fun b hb=> ?_⟩;rcases HAT.out with h|h
    ·exact .inr (by have:=(HOBK.out b (h.symm.trans hb)).1;omega)
    ·rw[h] at hb;injection hb with hb;subst hb;exact .inr (by first|omega|(simp;omega))
theorem X8 (L:List Sl) (hm:w.heap[m]? =some (.cells #[.slice so L.length cap] 181)) (hrow:w.ownsRow 0 186 11 (.slice so L.length cap) L.length (ZA L)) (hL:L.length<=1000) (k1 p1 q1:Int) (s1:ByteArray) (r1:Int) (k2 p2 q2:Int) (s2:ByteArray) (r2:Int) (hvk:∀W,Calls prog 26 #[.agg #[k1,p1,q1,s1,r1]] W (BoolPost W true)) (hvv:∀W,Calls prog 26 #[.agg #[k2,p2,q2,s2,r2]] W (BoolPost W true)) (hk0:(k1==0)=false) (i:Nat) (sl:Sl) (hsl:L[i]? =some sl) (hg:sl.g=true) (hfi:∀W,Below w w W->Calls prog 226 #[m,.agg #[k1,p1,q1,s1,r1]] W (IntPost W ((i:Nat):Int))) (hv0:(k2==0)=false) (hroom:Q1 L+8<L.length-Q1 L):Calls prog 175 #[m,.agg #[k1,p1,q1,s1,r1],.agg #[k2,p2,q2,s2,r2]] w (SmPost w m (.slice so L.length cap) (Qq L++[⟨⟨k1,p1,q1,s1,r1⟩,⟨k2,p2,q2,s2,r2⟩,false⟩])):=by
 have hml:m<w:=(Array.getElem?_eq_some_iff.1 hm).1;have hl2:=ZR L;have hnl:i<L.length:=(List.getElem?_eq_some_iff.1 hsl).1;have hge:(0:Int)<=((i:Nat):Int):=by omega
 have hge2:decide ((0:Int)<=((i:Nat):Int))=true:=by rw[decide_eq_true_eq];exact hge
 obtain⟨rb,cap',he⟩:=Qh hrow (by omega);injection he with he1 he2 he3;subst he1;subst he3;have hrl:rb<w:=(QS hrow rfl).2;have HSL:=zh hsl;clear hsl;have hroomI:(((Q1 L:Nat):Int)+8<((L.length:Nat):Int)-((Q1 L:Nat):Int)):=by omega
 have HM:=zh hm;have HROW:=zh hrow;have HVK:=zh hvk;have HVV:=zh hvv;have HF:=zh hfi;clear hvk hvv hfi hm hrow;go_enter func175,ntmps175;go_wp2_with fail
 refine(HVK.out _).mono ?_;rintro e w1 ⟨rfl,hb⟩;have Ha1:=hkh hb (Qm _ _ _);have Hb1:=hkh hb (QY _ _ _);have Hm1:=hkh hb (Qs HM.out _ _);have HW1:=hbn (QE _ _ _) hb;have hz1:=hb.size;try simp at hz1
 clear hb;have hyb:w.heap.size+1<w1.heap.size:=(Array.getElem?_eq_some_iff.1 Hb1.out).1;obtain⟨b0,b1,b2,b3,b4⟩:=zc5 Hb1;go_wp2_with fail
 refine(HVV.out _).mono ?_;rintro e w2 ⟨rfl,hb⟩;have Ha2:=hkh hb Ha1;have Hb2:=hkh hb Hb1;have Hm2:=hkh hb Hm1;have HW2:=hbn HW1 hb;have hz2:=hb.size;try simp at hz2
 clear hb;clear hyb b0 b1 b2 b3 b4;have hya:w.heap.size<w2.heap.size:=(Array.getElem?_eq_some_iff.1 Ha2.out).1;obtain⟨a0,a1,a2,a3,a4⟩:=zc5 Ha2;go_wp2_with fail
 refine(HF.out _ HW2.out).mono ?_;rintro e w3 ⟨rfl,hb⟩;have Ha3:=hkh hb Ha2;have Hb3:=hkh hb Hb2;have Hm3:=hkh hb Hm2;have HW3:=hbn HW2 hb;have hz3:=hb.size;try simp at hz3
 clear hb;clear hya a0 a1 a2 a3 a4;have hya:w.heap.size<w3.heap.size:=(Array.getElem?_eq_some_iff.1 Ha3.out).1;obtain⟨a0,a1,a2,a3,a4⟩:=zc5 Ha3;have hyb:w.heap.size+1<w3.heap.size:=(Array.getElem?_eq_some_iff.1 Hb3.out).1;obtain⟨b0,b1,b2,b3,b4⟩:=zc5 Hb3;have hym:m<w3:=(Array.getElem?_eq_some_iff.1 Hm3.out).1;have m0:w3.cell? m=some (.slice (some rb) L.length cap):=by rw[QA Hm3.out];rfl
 have fm0:w3.frozen? m=false:=QB Hm3.out _;have HROW3:=zh (QR (QV HW3.out zl) HROW.out);have rc10:w3.cell? ⟨rb,i*11+10,none⟩=some (.bool sl.g):=(HROW3.out.cellAt (i*11+10) (by omega)).trans (Qk L i 10 sl HSL.out (by decide));rw[hg] at rc10;go_wp2_with fail
 refine(PM w3 m cap (some ⟨rb,0,none⟩) L Hm3.out HROW3.out hL).mono ?_;rintro e w4 ⟨rfl,rfl⟩;have HS0:=zh (show RoomRel w3 L L.length (.slice none 0 0) (.int .i64 0) w3 from⟨0,0,none,rfl,by rw[List.take_zero];rfl,rfl,Nat.zero_le _,by rw[List.take_zero];exact World.ownsRow_nil _ _ _ _,Below.refl _ _⟩);go_wp2
 go_loopg [9,10] L.length (fun gg vl vi wr=>RoomRel w3 L gg vl vi wr)
 case atStart=>exact HS0.out
 case round=>
  clear HS0 a0 a1 a2 a3 a4 b0 b1 b2 b3 b4 m0 fm0;obtain⟨j,cap2,so2,rfl,rfl,rfl,hj,hown,hb⟩:=hrel;have HOWN:=zh hown;have HB:=zh hb;have HMr:=hkh hb Hm3;have HAr:=hkh hb Ha3;have HBr:=hkh hb Hb3;have hrowr:=QR (QV hb zl) HROW3.out;have hsz:=hb.size;have hdl:=Ki (L.take j);rw[List.length_take] at hdl;clear hown hb;have m0:wr.cell? m=some (.slice (some rb) L.length cap):=by rw[QA HMr.out];rfl
  have fm0:wr.frozen? m=false:=QB HMr.out _;by_cases hlt:j<L.length
  ·obtain⟨sl2,hsl2⟩:∃sl2,L[j]? =some sl2:=⟨_,List.getElem?_eq_getElem hlt⟩
   have rd0:wr.cell? ⟨rb,j*11,none⟩=some (.int .i64 sl2.k.k):=(hrowr.cellAt (j*11+0) (by omega)).trans (Qk L j 0 sl2 hsl2 (by decide));have rd1:wr.cell? ⟨rb,j*11+1,none⟩=some (.int .i64 sl2.k.p):=(hrowr.cellAt (j*11+1) (by omega)).trans (Qk L j 1 sl2 hsl2 (by decide));have rd2:wr.cell? ⟨rb,j*11+2,none⟩=some (.int .i64 sl2.k.q):=(hrowr.cellAt (j*11+2) (by omega)).trans (Qk L j 2 sl2 hsl2 (by decide));have rd3:wr.cell? ⟨rb,j*11+3,none⟩=some (.string sl2.k.s):=(hrowr.cellAt (j*11+3) (by omega)).trans (Qk L j 3 sl2 hsl2 (by decide));have rd4:wr.cell? ⟨rb,j*11+4,none⟩=some (.int .i64 sl2.k.r):=(hrowr.cellAt (j*11+4) (by omega)).trans (Qk L j 4 sl2 hsl2 (by decide));have rd5:wr.cell? ⟨rb,j*11+5,none⟩=some (.int .i64 sl2.v.k):=(hrowr.cellAt (j*11+5) (by omega)).trans (Qk L j 5 sl2 hsl2 (by decide));have rd6:wr.cell? ⟨rb,j*11+6,none⟩=some (.int .i64 sl2.v.p):=(hrowr.cellAt (j*11+6) (by omega)).trans (Qk L j 6 sl2 hsl2 (by decide));have rd7:wr.cell? ⟨rb,j*11+7,none⟩=some (.int .i64 sl2.v.q):=(hrowr.cellAt (j*11+7) (by omega)).trans (Qk L j 7 sl2 hsl2 (by decide));have rd8:wr.cell? ⟨rb,j*11+8,none⟩=some (.string sl2.v.s):=(hrowr.cellAt (j*11+8) (by omega)).trans (Qk L j 8 sl2 hsl2 (by decide));have rd9:wr.cell? ⟨rb,j*11+9,none⟩=some (.int .i64 sl2.v.r):=(hrowr.cellAt (j*11+9) (by omega)).trans (Qk L j 9 sl2 hsl2 (by decide));have rd10:wr.cell? ⟨rb,j*11+10,none⟩=some (.bool sl2.g):=(hrowr.cellAt (j*11+10) (by omega)).trans (Qk L j 10 sl2 hsl2 (by decide));clear hrowr;cases hgf:sl2.g with
   |true=>
    rw[hgf] at rd10;have HDR:=zh (YE hsl2 hgf);clear hgf hsl2;go_wp2
    go_roundg (L.length-(j+1))
    case measure=>omega
    case rel=>exact⟨j+1,cap2,so2,rfl,by rw[HDR.out],rfl,by omega,Dc HOWN.out HDR.out,HB.out⟩
   |false=>
    rw[hgf] at rd10;have HDR:=zh (Xq hsl2 hgf);clear hsl2;obtain⟨i6,hi6,hi6a,hi6b,hi6c⟩:=info_parts GF;go_wp2_with (at_builtin;refine wpList_append_own_at _ rfl (.tmp 91) (.tmp 99) 179 rfl w3.heap.size 186 i6 _ 11 104 underlying179 hi6 hi6a hi6b hi6c rfl (by decide) (.slice so2 (Qq (L.take j)).length cap2) (Qq (L.take j)).length (ZA (Qq (L.take j))) rfl ?A _ 1 1 [.int .i64 sl2.k.k,.int .i64 sl2.k.p,.int .i64 sl2.k.q,.string sl2.k.s,.int .i64 sl2.k.r,.int .i64 sl2.v.k,.int .i64 sl2.v.p,.int .i64 sl2.v.q,.string sl2.v.s,.int .i64 sl2.v.r,.bool false] rfl rfl ?B ?C ?D ?E ?F ?G)
    case A=>exact QR (QV ((Below.refl _ _).alloc zl _) zl) HOWN.out
    case B=>exact J6 _ _ _ _ _ _ _ _ _ _ _ _ _ _ rfl
    case C=>
     intro u hu;simp only[List.mem_cons,List.not_mem_nil,or_false] at hu;rcases hu with rfl|rfl|rfl|rfl|rfl|rfl|rfl|rfl|rfl|rfl|rfl<;>simp[Value.oneCell']
    case D=>unfold maxLen;omega
    case E=>omega
    case F=>first|omega|(simp;omega)
    case G=>
     intro v' w5 hown hgrow _ hat;obtain⟨rb',cap',rfl⟩:=Qh hown (by omega);have HOWN5:=zh hown;have HGR:=zh hgrow;clear hown hgrow hat rd0 rd1 rd2 rd3 rd4 rd5 rd6 rd7 rd8 rd9 rd10 m0 fm0;go_wp2
     go_roundg (L.length-(j+1))
     case measure=>omega
     case rel=>
      have hlen:(Qq (L.take (j+1))).length=(Qq (L.take j)).length+1:=by rw[HDR.out,List.length_append];rfl
      have hrow5:ZA (Qq (L.take (j+1)))=ZA (Qq (L.take j))++[.int .i64 sl2.k.k,.int .i64 sl2.k.p,.int .i64 sl2.k.q,.string sl2.k.s,.int .i64 sl2.k.r,.int .i64 sl2.v.k,.int .i64 sl2.v.p,.int .i64 sl2.v.q,.string sl2.v.s,.int .i64 sl2.v.r,.bool false]:=by
       rw[HDR.out,KF];unfold ZP;rw[hgf]
      refine⟨j+1,cap',some ⟨rb',0,none⟩,rfl,by rw[hlen],rfl,by omega,by rw[hlen,hrow5];exact HOWN5.out,?_⟩;have hb1:Below w3 w3 (wr.alloc (.cells #[.int .i64 sl2.k.k,.int .i64 sl2.k.p,.int .i64 sl2.k.q,.string sl2.k.s,.int .i64 sl2.k.r,.int .i64 sl2.v.k,.int .i64 sl2.v.p,.int .i64 sl2.v.q,.string sl2.v.s,.int .i64 sl2.v.r,.bool false] 186)):=HB.out.alloc hsz _;refine⟨HGR.out.os.trans hb1.os,HGR.out.tape.trans hb1.tape,HGR.out.output.trans hb1.output,Nat.le_trans hb1.size HGR.out.size,fun b hb=>(HGR.out.block b (Nat.lt_of_lt_of_le hb hb1.size) (fun e=> ?_)).trans (hb1.block b hb)⟩;have:=(QS HOWN.out e.symm).1;omega
  ·obtain rfl:j=L.length:=by omega
   have hown2:=HOWN.out;rw[List.take_length] at hown2;have HOW2:=zh (J2 hown2 (Nat.zero_le _));have HOBK:=zh (fun b hb=>QS hown2 (g:=b) hb);have hdl2:=Ki L;clear hown2 hrowr hlt hdl;go_wp2_with fail
   have HMW:=zh (show(wr.setCell m (.slice so2 (Qq L).length cap2)).heap[m]? =some (.cells #[.slice so2 (Qq L).length cap2] 181) from Ql HMr.out 0 _);have hbm:∀b,(Value.slice so2 (Qq L).length cap2).ownBlock=some b->b≠m:=fun b hb e=>by
    have:=(HOBK.out b hb).1;have:=HW3.out.size;omega
   have HRW:=zh (Qb (w3:=wr.setCell m (.slice so2 (Qq L).length cap2)) HOW2.out (fun b hb=>Below.heap_setCell _ _ _ _ (hbm b hb)));have HAW:=zh ((Below.heap_setCell wr ⟨m,0,none⟩ (.slice so2 (Qq L).length cap2) w.heap.size (by show w.heap.size≠m;omega)).trans HAr.out);have HBWx:=zh ((Below.heap_setCell wr ⟨m,0,none⟩ (.slice so2 (Qq L).length cap2) (w.heap.size+1) (by show w.heap.size+1≠m;omega)).trans HBr.out);have HMD:=zh (show Mods (SmF m (.slice (some rb) L.length cap)) w (wr.setCell m (.slice so2 (Qq L).length cap2)) from QQ (Mods.of_below (QC HW3.out HB.out)) (.inl (.inl rfl)) _);have hzW:wr.heap.size<=(wr.setCell m (.slice so2 (Qq L).length cap2)).heap.size:=by simp
   clear hbm m0 fm0;generalize wr.setCell m (.slice so2 (Qq L).length cap2)=W at HMW HRW HAW HBWx HMD hzW ⊢;have hw30:=HW3.out.size;obtain⟨a0,a1,a2,a3,a4⟩:=zc5 HAW;obtain⟨b0,b1,b2,b3,b4⟩:=zc5 HBWx;have m0:W.cell? m=some (.slice so2 (Qq L).length cap2):=by rw[QA HMW.out];rfl
   have fm0:W.frozen? m=false:=QB HMW.out _;obtain⟨i6,hi6,hi6a,hi6b,hi6c⟩:=info_parts GF;refine QK mixed (by kernel_rfl) ?_;go_wp2_with (at_builtin;refine wpList_append_own_at _ rfl (.tmp 109) (.tmp 113) 179 rfl 0 186 i6 _ 11 104 underlying179 hi6 hi6a hi6b hi6c rfl (by decide) (.slice so2 (Qq L).length cap2) (Qq L).length (ZA (Qq L)) rfl ?A _ 1 1 [.int .i64 k1,.int .i64 p1,.int .i64 q1,.string s1,.int .i64 r1,.int .i64 k2,.int .i64 p2,.int .i64 q2,.string s2,.int .i64 r2,.bool false] rfl rfl ?B ?C ?D ?E ?F ?G)
   case A=>exact QR (QV ((Below.refl _ _).alloc zl _).drew zl) HRW.out
   case B=>exact ZM _ _ _ _ _ _ _ _ _ _ _ _ _ _ rfl
   case C=>
    intro u hu;simp only[List.mem_cons,List.not_mem_nil,or_false] at hu;rcases hu with rfl|rfl|rfl|rfl|rfl|rfl|rfl|rfl|rfl|rfl|rfl<;>simp[Value.oneCell']
   case D=>unfold maxLen;omega
   case E=>omega
   case F=>exact Nat.zero_le _
   case G=>
    intro v' w5 hown hgrow _ hat;obtain⟨rb',cap',rfl⟩:=Qh hown (by omega);have hne:∀b,(Value.slice so2 (Qq L).length cap2).ownBlock=some b->b≠m:=fun b hb=>by
     obtain⟨c2,hc⟩:=Qd HRW.out hb;exact QW hc HMW.out (by decide)
    have HM5:=zh (show w5.heap[m]? =_ from(hgrow.block m (by simp;omega) (fun e=>hne m e.symm rfl)).trans ((Below.heap_alloc W _ m (by omega)).trans HMW.out));have HOWN5:=zh hown;have HAT:=zh hat;have HGR:=zh hgrow;clear hown hat hgrow hne a0 a1 a2 a3 a4 b0 b1 b2 b3 b4 m0 fm0;have m0:w5.cell? m=some (.slice so2 (Qq L).length cap2):=by rw[QA HM5.out];rfl
    have fm0:w5.frozen? m=false:=QB HM5.out _;go_wp2;refine⟨by kernel_rfl,?_⟩;go_wp2
    go_ret
    refine⟨rfl,.slice (some rb') ((Qq L).length+1) cap',Uv HM5.out HOWN5.out (FO L),QQ (KN (HMD.out.trans (Mods.of_below ((Below.refl _ _).alloc zl _).drew)) HGR.out (fun b hb=> .inr (by have:=(HOBK.out b hb).1;omega))) (.inl (.inl rfl)) _,fun b hb=> ?_⟩;rcases HAT.out with h|h
    ·exact .inr (by have:=(HOBK.out b (h.symm.trans hb)).1;omega)
    ·rw[h] at hb;injection hb with hb;subst hb;exact .inr (by first|omega|(simp;omega))
end Go.Proofs.YthkpckgcgkijbaaGreatDoor
