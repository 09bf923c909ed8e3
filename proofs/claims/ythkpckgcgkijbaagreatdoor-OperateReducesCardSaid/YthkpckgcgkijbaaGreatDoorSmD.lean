import Derived.Test.YthkpckgcgkijbaaGreatDoorOpH
import Derived.Test.YthkpckgcgkijbaaGreatDoorSHpB
set_option linter.unusedVariables false
set_option linter.unusedSimpArgs false
set_option maxRecDepth 100000
set_option maxHeartbeats 2000000
namespace Go.Proofs.YthkpckgcgkijbaaGreatDoor
open Go.RowKit Go.Proofs.Lexi
theorem sSet_room_none (w:World) (m cap:Nat) (so:Option Addr) (L:List Sl) (hm:w.heap[m]? =some (.cells #[.slice so L.length cap] 181)) (hrow:w.ownsRow 0 186 11 (.slice so L.length cap) L.length (rowSl L)) (hL:L.length≤1000) (k1 p1 q1:Int) (s1:ByteArray) (r1:Int) (k2 p2 q2:Int) (s2:ByteArray) (r2:Int) (hvk:∀W,Calls Tryz.prog 26 #[.agg #[k1,p1,q1,s1,r1]] W (BoolPost W true)) (hvv:∀W,Calls Tryz.prog 26 #[.agg #[k2,p2,q2,s2,r2]] W (BoolPost W true)) (hk0:(k1==0)=false) (hfi:∀W,Below w.heap.size w W→Calls Tryz.prog 226 #[.pointer (some ⟨m,0,none⟩),.agg #[k1,p1,q1,s1,r1]] W (IntPost W (-1))) (hv0:(k2==0)=false) (hroom:liveN L+8<L.length-liveN L):Calls Tryz.prog 175 #[.pointer (some ⟨m,0,none⟩),.agg #[k1,p1,q1,s1,r1],.agg #[k2,p2,q2,s2,r2]] w (SmPost w m (.slice so L.length cap) (dropM L++[⟨⟨k1,p1,q1,s1,r1⟩,⟨k2,p2,q2,s2,r2⟩,false⟩])):=by
 have hml:m<w.heap.size:=(Array.getElem?_eq_some_iff.1 hm).1
 have hl2:=zBU L
 have hroomI:(((liveN L:Nat):Int)+8<((L.length:Nat):Int)-((liveN L:Nat):Int)):=by omega
 have HM:=Lib.hid hm
 have HROW:=Lib.hid hrow
 have HVK:=Lib.hid hvk
 have HVV:=Lib.hid hvv
 have HF:=Lib.hid hfi
 clear hvk hvv hfi hm hrow
 go_enter Tryz.func175,Tryz.ntmps175
 go_wp2_with fail
 refine(HVK.out _).mono ?_
 rintro e w1 ⟨rfl,hb⟩
 have Ha1:=hkh hb (zAf _ _ _)
 have Hb1:=hkh hb (zAW _ _ _)
 have Hm1:=hkh hb (zAp HM.out _ _)
 have HW1:=hbn (zAF _ _ _) hb
 have hz1:=hb.size
 try simp at hz1
 clear hb
 have hyb:w.heap.size+1<w1.heap.size:=(Array.getElem?_eq_some_iff.1 Hb1.out).1
 obtain⟨b0,b1,b2,b3,b4⟩:=cells5 Hb1.out
 go_wp2_with fail
 refine(HVV.out _).mono ?_
 rintro e w2 ⟨rfl,hb⟩
 have Ha2:=hkh hb Ha1.out
 have Hb2:=hkh hb Hb1.out
 have Hm2:=hkh hb Hm1.out
 have HW2:=hbn HW1.out hb
 have hz2:=hb.size
 try simp at hz2
 clear hb
 clear hyb b0 b1 b2 b3 b4
 have hya:w.heap.size<w2.heap.size:=(Array.getElem?_eq_some_iff.1 Ha2.out).1
 obtain⟨a0,a1,a2,a3,a4⟩:=cells5 Ha2.out
 go_wp2_with fail
 refine(HF.out _ HW2.out).mono ?_
 rintro e w3 ⟨rfl,hb⟩
 have Ha3:=hkh hb Ha2.out
 have Hb3:=hkh hb Hb2.out
 have Hm3:=hkh hb Hm2.out
 have HW3:=hbn HW2.out hb
 have hz3:=hb.size
 try simp at hz3
 clear hb
 clear hya a0 a1 a2 a3 a4
 have hya:w.heap.size<w3.heap.size:=(Array.getElem?_eq_some_iff.1 Ha3.out).1
 obtain⟨a0,a1,a2,a3,a4⟩:=cells5 Ha3.out
 have hyb:w.heap.size+1<w3.heap.size:=(Array.getElem?_eq_some_iff.1 Hb3.out).1
 obtain⟨b0,b1,b2,b3,b4⟩:=cells5 Hb3.out
 have hym:m<w3.heap.size:=(Array.getElem?_eq_some_iff.1 Hm3.out).1
 have m0:w3.cell? ⟨m,0,none⟩=some (.slice so L.length cap):=by rw[zAA Hm3.out];rfl
 have fm0:w3.frozen? ⟨m,0,none⟩=false:=zAB Hm3.out _
 have HROW3:=Lib.hid (zAQ (zAa HW3.out (Nat.le_refl _)) HROW.out)
 go_wp2_with fail
 refine(sLen_c w3 m cap so L Hm3.out HROW3.out hL).mono ?_
 rintro e w4 ⟨rfl,rfl⟩
 obtain⟨rb0,cap0,he0⟩:=zAl HROW3.out (by omega)
 injection he0 with he1 he2 he3
 subst he1
 subst he3
 have HS0:=Lib.hid (show RoomRel w3 L L.length (.slice none 0 0) (.int .i64 0) w3 from⟨0,0,none,rfl,by rw[List.take_zero];rfl,rfl,Nat.zero_le _,by rw[List.take_zero];exact World.ownsRow_nil _ _ _ _,Below.refl _ _⟩)
 go_wp2
 go_loopg [9,10] L.length (fun gg vl vi wr=>RoomRel w3 L gg vl vi wr)
 case atStart=>exact HS0.out
 case round=>
  clear HS0 a0 a1 a2 a3 a4 b0 b1 b2 b3 b4 m0 fm0
  obtain⟨j,cap2,so2,rfl,rfl,rfl,hj,hown,hb⟩:=hrel
  have HOWN:=Lib.hid hown
  have HB:=Lib.hid hb
  have HMr:=hkh hb Hm3.out
  have HAr:=hkh hb Ha3.out
  have HBr:=hkh hb Hb3.out
  have hrowr:=zAQ (zAa hb (Nat.le_refl _)) HROW3.out
  have hsz:=hb.size
  have hdl:=drop_len (L.take j)
  rw[List.length_take] at hdl
  clear hown hb
  have m0:wr.cell? ⟨m,0,none⟩=some (.slice (some ⟨rb0,0,none⟩) L.length cap):=by rw[zAA HMr.out];rfl
  have fm0:wr.frozen? ⟨m,0,none⟩=false:=zAB HMr.out _
  by_cases hlt:j<L.length
  ·obtain⟨sl2,hsl2⟩:∃sl2,L[j]? =some sl2:=⟨_,List.getElem?_eq_getElem hlt⟩
   have rd0:wr.cell? ⟨rb0,j*11,none⟩=some (.int .i64 sl2.k.k):=(hrowr.cellAt (j*11+0) (by omega)).trans (zAn L j 0 sl2 hsl2 (by decide))
   have rd1:wr.cell? ⟨rb0,j*11+1,none⟩=some (.int .i64 sl2.k.p):=(hrowr.cellAt (j*11+1) (by omega)).trans (zAn L j 1 sl2 hsl2 (by decide))
   have rd2:wr.cell? ⟨rb0,j*11+2,none⟩=some (.int .i64 sl2.k.q):=(hrowr.cellAt (j*11+2) (by omega)).trans (zAn L j 2 sl2 hsl2 (by decide))
   have rd3:wr.cell? ⟨rb0,j*11+3,none⟩=some (.string sl2.k.s):=(hrowr.cellAt (j*11+3) (by omega)).trans (zAn L j 3 sl2 hsl2 (by decide))
   have rd4:wr.cell? ⟨rb0,j*11+4,none⟩=some (.int .i64 sl2.k.r):=(hrowr.cellAt (j*11+4) (by omega)).trans (zAn L j 4 sl2 hsl2 (by decide))
   have rd5:wr.cell? ⟨rb0,j*11+5,none⟩=some (.int .i64 sl2.v.k):=(hrowr.cellAt (j*11+5) (by omega)).trans (zAn L j 5 sl2 hsl2 (by decide))
   have rd6:wr.cell? ⟨rb0,j*11+6,none⟩=some (.int .i64 sl2.v.p):=(hrowr.cellAt (j*11+6) (by omega)).trans (zAn L j 6 sl2 hsl2 (by decide))
   have rd7:wr.cell? ⟨rb0,j*11+7,none⟩=some (.int .i64 sl2.v.q):=(hrowr.cellAt (j*11+7) (by omega)).trans (zAn L j 7 sl2 hsl2 (by decide))
   have rd8:wr.cell? ⟨rb0,j*11+8,none⟩=some (.string sl2.v.s):=(hrowr.cellAt (j*11+8) (by omega)).trans (zAn L j 8 sl2 hsl2 (by decide))
   have rd9:wr.cell? ⟨rb0,j*11+9,none⟩=some (.int .i64 sl2.v.r):=(hrowr.cellAt (j*11+9) (by omega)).trans (zAn L j 9 sl2 hsl2 (by decide))
   have rd10:wr.cell? ⟨rb0,j*11+10,none⟩=some (.bool sl2.g):=(hrowr.cellAt (j*11+10) (by omega)).trans (zAn L j 10 sl2 hsl2 (by decide))
   clear hrowr
   cases hgf:sl2.g with
   |true=>
    rw[hgf] at rd10
    have HDR:=Lib.hid (drop_gone hsl2 hgf)
    clear hgf hsl2
    go_wp2
    go_roundg (L.length-(j+1))
    case measure=>omega
    case rel=>exact⟨j+1,cap2,so2,rfl,by rw[HDR.out],rfl,by omega,row_drop2 HOWN.out HDR.out,HB.out⟩
   |false=>
    rw[hgf] at rd10
    have HDR:=Lib.hid (drop_live hsl2 hgf)
    clear hsl2
    obtain⟨i6,hi6,hi6a,hi6b,hi6c⟩:=info_parts info186p
    go_wp2_with (at_builtin;refine wpList_append_own_at _ rfl (.tmp 91) (.tmp 99) 179 rfl w3.heap.size 186 i6 _ 11 104 Tryz.underlying179 hi6 hi6a hi6b hi6c rfl (by decide) (.slice so2 (dropM (L.take j)).length cap2) (dropM (L.take j)).length (rowSl (dropM (L.take j))) rfl ?A _ 1 1 [.int .i64 sl2.k.k,.int .i64 sl2.k.p,.int .i64 sl2.k.q,.string sl2.k.s,.int .i64 sl2.k.r,.int .i64 sl2.v.k,.int .i64 sl2.v.p,.int .i64 sl2.v.q,.string sl2.v.s,.int .i64 sl2.v.r,.bool false] rfl rfl ?B ?C ?D ?E ?F ?G)
    case A=>exact zAQ (zAa ((Below.refl _ _).alloc (Nat.le_refl _) _) (Nat.le_refl _)) HOWN.out
    case B=>exact cells_eleven _ _ _ _ _ _ _ _ _ _ _ _ _ _ rfl
    case C=>
     intro u hu
     simp only[List.mem_cons,List.not_mem_nil,or_false] at hu
     rcases hu with rfl|rfl|rfl|rfl|rfl|rfl|rfl|rfl|rfl|rfl|rfl<;>simp[Value.oneCell']
    case D=>unfold maxLen;omega
    case E=>omega
    case F=>first|omega|(simp;omega)
    case G=>
     intro v' w5 hown hgrow _ hat
     obtain⟨rb',cap',rfl⟩:=zAl hown (by omega)
     have HOWN5:=Lib.hid hown
     have HGR:=Lib.hid hgrow
     clear hown hgrow hat rd0 rd1 rd2 rd3 rd4 rd5 rd6 rd7 rd8 rd9 rd10 m0 fm0
     go_wp2
     go_roundg (L.length-(j+1))
     case measure=>omega
     case rel=>
      have hlen:(dropM (L.take (j+1))).length=(dropM (L.take j)).length+1:=by rw[HDR.out,List.length_append];rfl
      have hrow5:rowSl (dropM (L.take (j+1)))=rowSl (dropM (L.take j))++[.int .i64 sl2.k.k,.int .i64 sl2.k.p,.int .i64 sl2.k.q,.string sl2.k.s,.int .i64 sl2.k.r,.int .i64 sl2.v.k,.int .i64 sl2.v.p,.int .i64 sl2.v.q,.string sl2.v.s,.int .i64 sl2.v.r,.bool false]:=by
       rw[HDR.out,rowSl_push]
       unfold zBS
       rw[hgf]
      refine⟨j+1,cap',some ⟨rb',0,none⟩,rfl,by rw[hlen],rfl,by omega,by rw[hlen,hrow5];exact HOWN5.out,?_⟩
      have hb1:Below w3.heap.size w3 (wr.alloc (.cells #[.int .i64 sl2.k.k,.int .i64 sl2.k.p,.int .i64 sl2.k.q,.string sl2.k.s,.int .i64 sl2.k.r,.int .i64 sl2.v.k,.int .i64 sl2.v.p,.int .i64 sl2.v.q,.string sl2.v.s,.int .i64 sl2.v.r,.bool false] 186)):=HB.out.alloc hsz _
      refine⟨HGR.out.os.trans hb1.os,HGR.out.tape.trans hb1.tape,HGR.out.output.trans hb1.output,Nat.le_trans hb1.size HGR.out.size,fun b hb=>(HGR.out.block b (Nat.lt_of_lt_of_le hb hb1.size) (fun e=> ?_)).trans (hb1.block b hb)⟩
      have:=(zAS HOWN.out e.symm).1
      omega
  ·obtain rfl:j=L.length:=by omega
   have hown2:=HOWN.out
   rw[List.take_length] at hown2
   have HOW2:=Lib.hid (ownsRow_base hown2 (Nat.zero_le _))
   have HOBK:=Lib.hid (fun b hb=>zAS hown2 (g:=b) hb)
   have hdl2:=drop_len L
   clear hown2 hrowr hlt hdl
   go_wp2_with fail
   have HMW:=Lib.hid (show(wr.setCell ⟨m,0,none⟩ (.slice so2 (dropM L).length cap2)).heap[m]? =some (.cells #[.slice so2 (dropM L).length cap2] 181) from zAP HMr.out 0 _)
   have hbm:∀b,(Value.slice so2 (dropM L).length cap2).ownBlock=some b→b≠m:=fun b hb e=>by
    have:=(HOBK.out b hb).1
    have:=HW3.out.size
    omega
   have HRW:=Lib.hid (zAZ (w3:=wr.setCell ⟨m,0,none⟩ (.slice so2 (dropM L).length cap2)) HOW2.out (fun b hb=>Below.heap_setCell _ _ _ _ (hbm b hb)))
   have HAW:=Lib.hid ((Below.heap_setCell wr ⟨m,0,none⟩ (.slice so2 (dropM L).length cap2) w.heap.size (by show w.heap.size≠m;omega)).trans HAr.out)
   have HBWx:=Lib.hid ((Below.heap_setCell wr ⟨m,0,none⟩ (.slice so2 (dropM L).length cap2) (w.heap.size+1) (by show w.heap.size+1≠m;omega)).trans HBr.out)
   have HMD:=Lib.hid (show Mods (SmF m (.slice (some ⟨rb0,0,none⟩) L.length cap)) w (wr.setCell ⟨m,0,none⟩ (.slice so2 (dropM L).length cap2)) from zAO (Mods.of_below (zAC HW3.out HB.out)) (.inl (.inl rfl)) _)
   have hzW:wr.heap.size≤(wr.setCell ⟨m,0,none⟩ (.slice so2 (dropM L).length cap2)).heap.size:=by simp
   clear hbm m0 fm0
   generalize wr.setCell ⟨m,0,none⟩ (.slice so2 (dropM L).length cap2)=W at HMW HRW HAW HBWx HMD hzW ⊢
   have hw30:=HW3.out.size
   obtain⟨a0,a1,a2,a3,a4⟩:=cells5 HAW.out
   obtain⟨b0,b1,b2,b3,b4⟩:=cells5 HBWx.out
   have m0:W.cell? ⟨m,0,none⟩=some (.slice so2 (dropM L).length cap2):=by rw[zAA HMW.out];rfl
   have fm0:W.frozen? ⟨m,0,none⟩=false:=zAB HMW.out _
   obtain⟨i6,hi6,hi6a,hi6b,hi6c⟩:=info_parts info186p
   refine zAK mixed (by kernel_rfl) ?_
   go_wp2_with (at_builtin;refine wpList_append_own_at _ rfl (.tmp 109) (.tmp 113) 179 rfl 0 186 i6 _ 11 104 Tryz.underlying179 hi6 hi6a hi6b hi6c rfl (by decide) (.slice so2 (dropM L).length cap2) (dropM L).length (rowSl (dropM L)) rfl ?A _ 1 1 [.int .i64 k1,.int .i64 p1,.int .i64 q1,.string s1,.int .i64 r1,.int .i64 k2,.int .i64 p2,.int .i64 q2,.string s2,.int .i64 r2,.bool false] rfl rfl ?B ?C ?D ?E ?F ?G)
   case A=>exact zAQ (zAa ((Below.refl _ _).alloc (Nat.le_refl _) _).drew (Nat.le_refl _)) HRW.out
   case B=>exact zBP _ _ _ _ _ _ _ _ _ _ _ _ _ _ rfl
   case C=>
    intro u hu
    simp only[List.mem_cons,List.not_mem_nil,or_false] at hu
    rcases hu with rfl|rfl|rfl|rfl|rfl|rfl|rfl|rfl|rfl|rfl|rfl<;>simp[Value.oneCell']
   case D=>unfold maxLen;omega
   case E=>omega
   case F=>exact Nat.zero_le _
   case G=>
    intro v' w5 hown hgrow _ hat
    obtain⟨rb',cap',rfl⟩:=zAl hown (by omega)
    have hne:∀b,(Value.slice so2 (dropM L).length cap2).ownBlock=some b→b≠m:=fun b hb=>by
     obtain⟨c2,hc⟩:=zAc HRW.out hb
     exact zAU hc HMW.out (by decide)
    have HM5:=Lib.hid (show w5.heap[m]? =_ from(hgrow.block m (by simp;omega) (fun e=>hne m e.symm rfl)).trans ((Below.heap_alloc W _ m (by omega)).trans HMW.out))
    have HOWN5:=Lib.hid hown
    have HAT:=Lib.hid hat
    have HGR:=Lib.hid hgrow
    clear hown hat hgrow hne a0 a1 a2 a3 a4 b0 b1 b2 b3 b4 m0 fm0
    have m0:w5.cell? ⟨m,0,none⟩=some (.slice so2 (dropM L).length cap2):=by rw[zAA HM5.out];rfl
    have fm0:w5.frozen? ⟨m,0,none⟩=false:=zAB HM5.out _
    go_wp2
    refine⟨by kernel_rfl,?_⟩
    go_wp2
    go_ret
    refine⟨rfl,.slice (some ⟨rb',0,none⟩) ((dropM L).length+1) cap',sm_push HM5.out HOWN5.out (gone_drop L),zAO (grow_mods (HMD.out.trans (Mods.of_below ((Below.refl _ _).alloc (Nat.le_refl _) _).drew)) HGR.out (fun b hb=> .inr (by have:=(HOBK.out b hb).1;omega))) (.inl (.inl rfl)) _,fun b hb=> ?_⟩
    rcases HAT.out with h|h
    ·exact .inr (by have:=(HOBK.out b (h.symm.trans hb)).1;omega)
    ·rw[h] at hb
     injection hb with hb
     subst hb
     exact .inr (by first|omega|(simp;omega))
theorem sSet_room_gone (w:World) (m cap:Nat) (so:Option Addr) (L:List Sl) (hm:w.heap[m]? =some (.cells #[.slice so L.length cap] 181)) (hrow:w.ownsRow 0 186 11 (.slice so L.length cap) L.length (rowSl L)) (hL:L.length≤1000) (k1 p1 q1:Int) (s1:ByteArray) (r1:Int) (k2 p2 q2:Int) (s2:ByteArray) (r2:Int) (hvk:∀W,Calls Tryz.prog 26 #[.agg #[k1,p1,q1,s1,r1]] W (BoolPost W true)) (hvv:∀W,Calls Tryz.prog 26 #[.agg #[k2,p2,q2,s2,r2]] W (BoolPost W true)) (hk0:(k1==0)=false) (i:Nat) (sl:Sl) (hsl:L[i]? =some sl) (hg:sl.g=true) (hfi:∀W,Below w.heap.size w W→Calls Tryz.prog 226 #[.pointer (some ⟨m,0,none⟩),.agg #[k1,p1,q1,s1,r1]] W (IntPost W ((i:Nat):Int))) (hv0:(k2==0)=false) (hroom:liveN L+8<L.length-liveN L):Calls Tryz.prog 175 #[.pointer (some ⟨m,0,none⟩),.agg #[k1,p1,q1,s1,r1],.agg #[k2,p2,q2,s2,r2]] w (SmPost w m (.slice so L.length cap) (dropM L++[⟨⟨k1,p1,q1,s1,r1⟩,⟨k2,p2,q2,s2,r2⟩,false⟩])):=by
 have hml:m<w.heap.size:=(Array.getElem?_eq_some_iff.1 hm).1
 have hl2:=zBU L
 have hnl:i<L.length:=(List.getElem?_eq_some_iff.1 hsl).1
 have hge:(0:Int)≤((i:Nat):Int):=by omega
 have hge2:decide ((0:Int)≤((i:Nat):Int))=true:=by rw[decide_eq_true_eq];exact hge
 obtain⟨rb,cap',he⟩:=zAl hrow (by omega)
 injection he with he1 he2 he3
 subst he1
 subst he3
 have hrl:rb<w.heap.size:=(zAS hrow rfl).2
 have HSL:=Lib.hid hsl
 clear hsl
 have hroomI:(((liveN L:Nat):Int)+8<((L.length:Nat):Int)-((liveN L:Nat):Int)):=by omega
 have HM:=Lib.hid hm
 have HROW:=Lib.hid hrow
 have HVK:=Lib.hid hvk
 have HVV:=Lib.hid hvv
 have HF:=Lib.hid hfi
 clear hvk hvv hfi hm hrow
 go_enter Tryz.func175,Tryz.ntmps175
 go_wp2_with fail
 refine(HVK.out _).mono ?_
 rintro e w1 ⟨rfl,hb⟩
 have Ha1:=hkh hb (zAf _ _ _)
 have Hb1:=hkh hb (zAW _ _ _)
 have Hm1:=hkh hb (zAp HM.out _ _)
 have HW1:=hbn (zAF _ _ _) hb
 have hz1:=hb.size
 try simp at hz1
 clear hb
 have hyb:w.heap.size+1<w1.heap.size:=(Array.getElem?_eq_some_iff.1 Hb1.out).1
 obtain⟨b0,b1,b2,b3,b4⟩:=cells5 Hb1.out
 go_wp2_with fail
 refine(HVV.out _).mono ?_
 rintro e w2 ⟨rfl,hb⟩
 have Ha2:=hkh hb Ha1.out
 have Hb2:=hkh hb Hb1.out
 have Hm2:=hkh hb Hm1.out
 have HW2:=hbn HW1.out hb
 have hz2:=hb.size
 try simp at hz2
 clear hb
 clear hyb b0 b1 b2 b3 b4
 have hya:w.heap.size<w2.heap.size:=(Array.getElem?_eq_some_iff.1 Ha2.out).1
 obtain⟨a0,a1,a2,a3,a4⟩:=cells5 Ha2.out
 go_wp2_with fail
 refine(HF.out _ HW2.out).mono ?_
 rintro e w3 ⟨rfl,hb⟩
 have Ha3:=hkh hb Ha2.out
 have Hb3:=hkh hb Hb2.out
 have Hm3:=hkh hb Hm2.out
 have HW3:=hbn HW2.out hb
 have hz3:=hb.size
 try simp at hz3
 clear hb
 clear hya a0 a1 a2 a3 a4
 have hya:w.heap.size<w3.heap.size:=(Array.getElem?_eq_some_iff.1 Ha3.out).1
 obtain⟨a0,a1,a2,a3,a4⟩:=cells5 Ha3.out
 have hyb:w.heap.size+1<w3.heap.size:=(Array.getElem?_eq_some_iff.1 Hb3.out).1
 obtain⟨b0,b1,b2,b3,b4⟩:=cells5 Hb3.out
 have hym:m<w3.heap.size:=(Array.getElem?_eq_some_iff.1 Hm3.out).1
 have m0:w3.cell? ⟨m,0,none⟩=some (.slice (some ⟨rb,0,none⟩) L.length cap):=by rw[zAA Hm3.out];rfl
 have fm0:w3.frozen? ⟨m,0,none⟩=false:=zAB Hm3.out _
 have HROW3:=Lib.hid (zAQ (zAa HW3.out (Nat.le_refl _)) HROW.out)
 have rc10:w3.cell? ⟨rb,i*11+10,none⟩=some (.bool sl.g):=(HROW3.out.cellAt (i*11+10) (by omega)).trans (zAn L i 10 sl HSL.out (by decide))
 rw[hg] at rc10
 go_wp2_with fail
 refine(sLen_c w3 m cap (some ⟨rb,0,none⟩) L Hm3.out HROW3.out hL).mono ?_
 rintro e w4 ⟨rfl,rfl⟩
 have HS0:=Lib.hid (show RoomRel w3 L L.length (.slice none 0 0) (.int .i64 0) w3 from⟨0,0,none,rfl,by rw[List.take_zero];rfl,rfl,Nat.zero_le _,by rw[List.take_zero];exact World.ownsRow_nil _ _ _ _,Below.refl _ _⟩)
 go_wp2
 go_loopg [9,10] L.length (fun gg vl vi wr=>RoomRel w3 L gg vl vi wr)
 case atStart=>exact HS0.out
 case round=>
  clear HS0 a0 a1 a2 a3 a4 b0 b1 b2 b3 b4 m0 fm0
  obtain⟨j,cap2,so2,rfl,rfl,rfl,hj,hown,hb⟩:=hrel
  have HOWN:=Lib.hid hown
  have HB:=Lib.hid hb
  have HMr:=hkh hb Hm3.out
  have HAr:=hkh hb Ha3.out
  have HBr:=hkh hb Hb3.out
  have hrowr:=zAQ (zAa hb (Nat.le_refl _)) HROW3.out
  have hsz:=hb.size
  have hdl:=drop_len (L.take j)
  rw[List.length_take] at hdl
  clear hown hb
  have m0:wr.cell? ⟨m,0,none⟩=some (.slice (some ⟨rb,0,none⟩) L.length cap):=by rw[zAA HMr.out];rfl
  have fm0:wr.frozen? ⟨m,0,none⟩=false:=zAB HMr.out _
  by_cases hlt:j<L.length
  ·obtain⟨sl2,hsl2⟩:∃sl2,L[j]? =some sl2:=⟨_,List.getElem?_eq_getElem hlt⟩
   have rd0:wr.cell? ⟨rb,j*11,none⟩=some (.int .i64 sl2.k.k):=(hrowr.cellAt (j*11+0) (by omega)).trans (zAn L j 0 sl2 hsl2 (by decide))
   have rd1:wr.cell? ⟨rb,j*11+1,none⟩=some (.int .i64 sl2.k.p):=(hrowr.cellAt (j*11+1) (by omega)).trans (zAn L j 1 sl2 hsl2 (by decide))
   have rd2:wr.cell? ⟨rb,j*11+2,none⟩=some (.int .i64 sl2.k.q):=(hrowr.cellAt (j*11+2) (by omega)).trans (zAn L j 2 sl2 hsl2 (by decide))
   have rd3:wr.cell? ⟨rb,j*11+3,none⟩=some (.string sl2.k.s):=(hrowr.cellAt (j*11+3) (by omega)).trans (zAn L j 3 sl2 hsl2 (by decide))
   have rd4:wr.cell? ⟨rb,j*11+4,none⟩=some (.int .i64 sl2.k.r):=(hrowr.cellAt (j*11+4) (by omega)).trans (zAn L j 4 sl2 hsl2 (by decide))
   have rd5:wr.cell? ⟨rb,j*11+5,none⟩=some (.int .i64 sl2.v.k):=(hrowr.cellAt (j*11+5) (by omega)).trans (zAn L j 5 sl2 hsl2 (by decide))
   have rd6:wr.cell? ⟨rb,j*11+6,none⟩=some (.int .i64 sl2.v.p):=(hrowr.cellAt (j*11+6) (by omega)).trans (zAn L j 6 sl2 hsl2 (by decide))
   have rd7:wr.cell? ⟨rb,j*11+7,none⟩=some (.int .i64 sl2.v.q):=(hrowr.cellAt (j*11+7) (by omega)).trans (zAn L j 7 sl2 hsl2 (by decide))
   have rd8:wr.cell? ⟨rb,j*11+8,none⟩=some (.string sl2.v.s):=(hrowr.cellAt (j*11+8) (by omega)).trans (zAn L j 8 sl2 hsl2 (by decide))
   have rd9:wr.cell? ⟨rb,j*11+9,none⟩=some (.int .i64 sl2.v.r):=(hrowr.cellAt (j*11+9) (by omega)).trans (zAn L j 9 sl2 hsl2 (by decide))
   have rd10:wr.cell? ⟨rb,j*11+10,none⟩=some (.bool sl2.g):=(hrowr.cellAt (j*11+10) (by omega)).trans (zAn L j 10 sl2 hsl2 (by decide))
   clear hrowr
   cases hgf:sl2.g with
   |true=>
    rw[hgf] at rd10
    have HDR:=Lib.hid (drop_gone hsl2 hgf)
    clear hgf hsl2
    go_wp2
    go_roundg (L.length-(j+1))
    case measure=>omega
    case rel=>exact⟨j+1,cap2,so2,rfl,by rw[HDR.out],rfl,by omega,row_drop2 HOWN.out HDR.out,HB.out⟩
   |false=>
    rw[hgf] at rd10
    have HDR:=Lib.hid (drop_live hsl2 hgf)
    clear hsl2
    obtain⟨i6,hi6,hi6a,hi6b,hi6c⟩:=info_parts info186p
    go_wp2_with (at_builtin;refine wpList_append_own_at _ rfl (.tmp 91) (.tmp 99) 179 rfl w3.heap.size 186 i6 _ 11 104 Tryz.underlying179 hi6 hi6a hi6b hi6c rfl (by decide) (.slice so2 (dropM (L.take j)).length cap2) (dropM (L.take j)).length (rowSl (dropM (L.take j))) rfl ?A _ 1 1 [.int .i64 sl2.k.k,.int .i64 sl2.k.p,.int .i64 sl2.k.q,.string sl2.k.s,.int .i64 sl2.k.r,.int .i64 sl2.v.k,.int .i64 sl2.v.p,.int .i64 sl2.v.q,.string sl2.v.s,.int .i64 sl2.v.r,.bool false] rfl rfl ?B ?C ?D ?E ?F ?G)
    case A=>exact zAQ (zAa ((Below.refl _ _).alloc (Nat.le_refl _) _) (Nat.le_refl _)) HOWN.out
    case B=>exact cells_eleven _ _ _ _ _ _ _ _ _ _ _ _ _ _ rfl
    case C=>
     intro u hu
     simp only[List.mem_cons,List.not_mem_nil,or_false] at hu
     rcases hu with rfl|rfl|rfl|rfl|rfl|rfl|rfl|rfl|rfl|rfl|rfl<;>simp[Value.oneCell']
    case D=>unfold maxLen;omega
    case E=>omega
    case F=>first|omega|(simp;omega)
    case G=>
     intro v' w5 hown hgrow _ hat
     obtain⟨rb',cap',rfl⟩:=zAl hown (by omega)
     have HOWN5:=Lib.hid hown
     have HGR:=Lib.hid hgrow
     clear hown hgrow hat rd0 rd1 rd2 rd3 rd4 rd5 rd6 rd7 rd8 rd9 rd10 m0 fm0
     go_wp2
     go_roundg (L.length-(j+1))
     case measure=>omega
     case rel=>
      have hlen:(dropM (L.take (j+1))).length=(dropM (L.take j)).length+1:=by rw[HDR.out,List.length_append];rfl
      have hrow5:rowSl (dropM (L.take (j+1)))=rowSl (dropM (L.take j))++[.int .i64 sl2.k.k,.int .i64 sl2.k.p,.int .i64 sl2.k.q,.string sl2.k.s,.int .i64 sl2.k.r,.int .i64 sl2.v.k,.int .i64 sl2.v.p,.int .i64 sl2.v.q,.string sl2.v.s,.int .i64 sl2.v.r,.bool false]:=by
       rw[HDR.out,rowSl_push]
       unfold zBS
       rw[hgf]
      refine⟨j+1,cap',some ⟨rb',0,none⟩,rfl,by rw[hlen],rfl,by omega,by rw[hlen,hrow5];exact HOWN5.out,?_⟩
      have hb1:Below w3.heap.size w3 (wr.alloc (.cells #[.int .i64 sl2.k.k,.int .i64 sl2.k.p,.int .i64 sl2.k.q,.string sl2.k.s,.int .i64 sl2.k.r,.int .i64 sl2.v.k,.int .i64 sl2.v.p,.int .i64 sl2.v.q,.string sl2.v.s,.int .i64 sl2.v.r,.bool false] 186)):=HB.out.alloc hsz _
      refine⟨HGR.out.os.trans hb1.os,HGR.out.tape.trans hb1.tape,HGR.out.output.trans hb1.output,Nat.le_trans hb1.size HGR.out.size,fun b hb=>(HGR.out.block b (Nat.lt_of_lt_of_le hb hb1.size) (fun e=> ?_)).trans (hb1.block b hb)⟩
      have:=(zAS HOWN.out e.symm).1
      omega
  ·obtain rfl:j=L.length:=by omega
   have hown2:=HOWN.out
   rw[List.take_length] at hown2
   have HOW2:=Lib.hid (ownsRow_base hown2 (Nat.zero_le _))
   have HOBK:=Lib.hid (fun b hb=>zAS hown2 (g:=b) hb)
   have hdl2:=drop_len L
   clear hown2 hrowr hlt hdl
   go_wp2_with fail
   have HMW:=Lib.hid (show(wr.setCell ⟨m,0,none⟩ (.slice so2 (dropM L).length cap2)).heap[m]? =some (.cells #[.slice so2 (dropM L).length cap2] 181) from zAP HMr.out 0 _)
   have hbm:∀b,(Value.slice so2 (dropM L).length cap2).ownBlock=some b→b≠m:=fun b hb e=>by
    have:=(HOBK.out b hb).1
    have:=HW3.out.size
    omega
   have HRW:=Lib.hid (zAZ (w3:=wr.setCell ⟨m,0,none⟩ (.slice so2 (dropM L).length cap2)) HOW2.out (fun b hb=>Below.heap_setCell _ _ _ _ (hbm b hb)))
   have HAW:=Lib.hid ((Below.heap_setCell wr ⟨m,0,none⟩ (.slice so2 (dropM L).length cap2) w.heap.size (by show w.heap.size≠m;omega)).trans HAr.out)
   have HBWx:=Lib.hid ((Below.heap_setCell wr ⟨m,0,none⟩ (.slice so2 (dropM L).length cap2) (w.heap.size+1) (by show w.heap.size+1≠m;omega)).trans HBr.out)
   have HMD:=Lib.hid (show Mods (SmF m (.slice (some ⟨rb,0,none⟩) L.length cap)) w (wr.setCell ⟨m,0,none⟩ (.slice so2 (dropM L).length cap2)) from zAO (Mods.of_below (zAC HW3.out HB.out)) (.inl (.inl rfl)) _)
   have hzW:wr.heap.size≤(wr.setCell ⟨m,0,none⟩ (.slice so2 (dropM L).length cap2)).heap.size:=by simp
   clear hbm m0 fm0
   generalize wr.setCell ⟨m,0,none⟩ (.slice so2 (dropM L).length cap2)=W at HMW HRW HAW HBWx HMD hzW ⊢
   have hw30:=HW3.out.size
   obtain⟨a0,a1,a2,a3,a4⟩:=cells5 HAW.out
   obtain⟨b0,b1,b2,b3,b4⟩:=cells5 HBWx.out
   have m0:W.cell? ⟨m,0,none⟩=some (.slice so2 (dropM L).length cap2):=by rw[zAA HMW.out];rfl
   have fm0:W.frozen? ⟨m,0,none⟩=false:=zAB HMW.out _
   obtain⟨i6,hi6,hi6a,hi6b,hi6c⟩:=info_parts info186p
   refine zAK mixed (by kernel_rfl) ?_
   go_wp2_with (at_builtin;refine wpList_append_own_at _ rfl (.tmp 109) (.tmp 113) 179 rfl 0 186 i6 _ 11 104 Tryz.underlying179 hi6 hi6a hi6b hi6c rfl (by decide) (.slice so2 (dropM L).length cap2) (dropM L).length (rowSl (dropM L)) rfl ?A _ 1 1 [.int .i64 k1,.int .i64 p1,.int .i64 q1,.string s1,.int .i64 r1,.int .i64 k2,.int .i64 p2,.int .i64 q2,.string s2,.int .i64 r2,.bool false] rfl rfl ?B ?C ?D ?E ?F ?G)
   case A=>exact zAQ (zAa ((Below.refl _ _).alloc (Nat.le_refl _) _).drew (Nat.le_refl _)) HRW.out
   case B=>exact zBP _ _ _ _ _ _ _ _ _ _ _ _ _ _ rfl
   case C=>
    intro u hu
    simp only[List.mem_cons,List.not_mem_nil,or_false] at hu
    rcases hu with rfl|rfl|rfl|rfl|rfl|rfl|rfl|rfl|rfl|rfl|rfl<;>simp[Value.oneCell']
   case D=>unfold maxLen;omega
   case E=>omega
   case F=>exact Nat.zero_le _
   case G=>
    intro v' w5 hown hgrow _ hat
    obtain⟨rb',cap',rfl⟩:=zAl hown (by omega)
    have hne:∀b,(Value.slice so2 (dropM L).length cap2).ownBlock=some b→b≠m:=fun b hb=>by
     obtain⟨c2,hc⟩:=zAc HRW.out hb
     exact zAU hc HMW.out (by decide)
    have HM5:=Lib.hid (show w5.heap[m]? =_ from(hgrow.block m (by simp;omega) (fun e=>hne m e.symm rfl)).trans ((Below.heap_alloc W _ m (by omega)).trans HMW.out))
    have HOWN5:=Lib.hid hown
    have HAT:=Lib.hid hat
    have HGR:=Lib.hid hgrow
    clear hown hat hgrow hne a0 a1 a2 a3 a4 b0 b1 b2 b3 b4 m0 fm0
    have m0:w5.cell? ⟨m,0,none⟩=some (.slice so2 (dropM L).length cap2):=by rw[zAA HM5.out];rfl
    have fm0:w5.frozen? ⟨m,0,none⟩=false:=zAB HM5.out _
    go_wp2
    refine⟨by kernel_rfl,?_⟩
    go_wp2
    go_ret
    refine⟨rfl,.slice (some ⟨rb',0,none⟩) ((dropM L).length+1) cap',sm_push HM5.out HOWN5.out (gone_drop L),zAO (grow_mods (HMD.out.trans (Mods.of_below ((Below.refl _ _).alloc (Nat.le_refl _) _).drew)) HGR.out (fun b hb=> .inr (by have:=(HOBK.out b hb).1;omega))) (.inl (.inl rfl)) _,fun b hb=> ?_⟩
    rcases HAT.out with h|h
    ·exact .inr (by have:=(HOBK.out b (h.symm.trans hb)).1;omega)
    ·rw[h] at hb
     injection hb with hb
     subst hb
     exact .inr (by first|omega|(simp;omega))
theorem svalid_all {v:V} (h:zAi v=true) (W:World):Calls Tryz.prog 26 #[v.v] W (BoolPost W true):=by
 obtain⟨k,p,q,s,r⟩:=v
 have:=zBj W k p q s r
 rw[h] at this
 exact this
theorem sMapSet_c (w:World) (m:Nat) (sv:Value) (L:List Sl) (hO:SMap w m sv L) (hL:L.length≤1000) (k v:V) (hkv:zAi k=true) (hvv:zAi v=true) (hk0:k.k≠0):
  Calls Tryz.prog 175 #[.pointer (some ⟨m,0,none⟩),k.v,v.v] w (SmPost w m sv (setM L k v)):=by
 have hvk:=svalid_all hkv
 have hvv':=svalid_all hvv
 obtain⟨so,cap,rfl⟩:=slice_shape0 hO.row
 obtain⟨k1,p1,q1,s1,r1⟩:=k
 obtain⟨k2,p2,q2,s2,r2⟩:=v
 have hk0':(k1==0)=false:=beq_eq_false_iff_ne.2 hk0
 have F:=fun W (hb:Below w.heap.size w W)=>sFind_c W m cap so L (hO.below hb).hm (hO.below hb).row hL k1 p1 q1 s1 r1
 have same:∀(e:Ending) (w':World),e= .returned (.int .i64 0)∧Below w.heap.size w w'→SmPost w m (.slice so L.length cap) L e w':=fun e w' h=>⟨h.1,_,hO.below h.2,Mods.of_below h.2,fun _ h=> .inl h⟩
 rcases sfM_at ⟨k1,p1,q1,s1,r1⟩ L with⟨i,s,h1,h2,h3,h4,h5⟩|⟨i,s,h1,h2,h3,h4,h5⟩|⟨h1,h5⟩
 ·rw[h1] at F
  have hil:i<L.length:=(List.getElem?_eq_some_iff.1 h2).1
  have hS:setM L ⟨k1,p1,q1,s1,r1⟩ ⟨k2,p2,q2,s2,r2⟩=if k2=0 then L.set i ⟨⟨k1,p1,q1,s1,r1⟩,V.nil,true⟩ else L.set i ⟨⟨k1,p1,q1,s1,r1⟩,⟨k2,p2,q2,s2,r2⟩,false⟩:=by unfold setM;rw[h5]
  by_cases hv0:k2=0
  ·rw[hS,if_pos hv0]
   refine(sSet_rem_live w m cap so L hO.hm hO.row hL k1 p1 q1 s1 r1 k2 p2 q2 s2 r2 hvk hvv' hk0' i s h2 h4 F (beq_iff_eq.2 hv0)).mono ?_
   rintro e w' ⟨rfl,w2,rb,rfl,hb,rfl⟩
   exact sm_cells (n:=0) hO hb List.length_set (rowSl_set hil _) (gone_set hO.gone i (fun _=>rfl)) rfl
  ·rw[hS,if_neg hv0]
   refine(sSet_write w m cap so L hO.hm hO.row hL k1 p1 q1 s1 r1 k2 p2 q2 s2 r2 hvk hvv' hk0' i s h2 h4 F (beq_eq_false_iff_ne.2 hv0)).mono ?_
   rintro e w' ⟨rfl,w2,rb,rfl,hb,rfl⟩
   refine sm_cells (n:=0) hO hb List.length_set ?_ (gone_set hO.gone i (fun h=>by cases h)) rfl
   rw[rowSl_setVal h2,h3,h4]
 ·rw[h1] at F
  have hil:i<L.length:=(List.getElem?_eq_some_iff.1 h2).1
  have hS:setM L ⟨k1,p1,q1,s1,r1⟩ ⟨k2,p2,q2,s2,r2⟩=if k2=0 then L else roomM L++[⟨⟨k1,p1,q1,s1,r1⟩,⟨k2,p2,q2,s2,r2⟩,false⟩]:=by unfold setM;rw[h5]
  by_cases hv0:k2=0
  ·rw[hS,if_pos hv0]
   refine(sSet_rem_gone w m cap so L hO.hm hO.row hL k1 p1 q1 s1 r1 k2 p2 q2 s2 r2 hvk hvv' hk0' i s h2 h4 F (beq_iff_eq.2 hv0)).mono ?_
   rintro e w' ⟨rfl,w2,rb,rfl,hb,rfl⟩
   refine sm_cells (n:=0) hO hb rfl ?_ hO.gone rfl
   rw[rowSl_set hil]
   congr 1
   have hsv:=hO.gone s (List.mem_of_getElem? h2) h4
   obtain⟨sk,sv,sg⟩:=s
   dsimp only at h3 h4 hsv
   subst h3 h4 hsv
   apply List.ext_getElem?
   intro j
   rw[List.getElem?_set]
   split
   ·rename_i e
    subst e
    first|(rw[h2];done)|(rw[if_pos hil,h2])
   ·rfl
  ·rw[hS,if_neg hv0]
   unfold roomM
   by_cases hr:liveN L+8<L.length-liveN L
   ·rw[if_pos hr]
    exact sSet_room_gone w m cap so L hO.hm hO.row hL k1 p1 q1 s1 r1 k2 p2 q2 s2 r2 hvk hvv' hk0' i s h2 h4 F (beq_eq_false_iff_ne.2 hv0) hr
   ·rw[if_neg hr]
    exact sSet_push_gone w m cap so L hO.hm hO.row hL k1 p1 q1 s1 r1 k2 p2 q2 s2 r2 hvk hvv' hk0' i s h2 h4 F (beq_eq_false_iff_ne.2 hv0) hO.gone hr
 ·rw[h1] at F
  have hS:setM L ⟨k1,p1,q1,s1,r1⟩ ⟨k2,p2,q2,s2,r2⟩=if k2=0 then L else roomM L++[⟨⟨k1,p1,q1,s1,r1⟩,⟨k2,p2,q2,s2,r2⟩,false⟩]:=by unfold setM;rw[h5]
  by_cases hv0:k2=0
  ·rw[hS,if_pos hv0]
   exact(sSet_rem_none w m cap so L hO.hm hO.row hL k1 p1 q1 s1 r1 k2 p2 q2 s2 r2 hvk hvv' hk0' F (beq_iff_eq.2 hv0)).mono same
  ·rw[hS,if_neg hv0]
   unfold roomM
   by_cases hr:liveN L+8<L.length-liveN L
   ·rw[if_pos hr]
    exact sSet_room_none w m cap so L hO.hm hO.row hL k1 p1 q1 s1 r1 k2 p2 q2 s2 r2 hvk hvv' hk0' F (beq_eq_false_iff_ne.2 hv0) hr
   ·rw[if_neg hr]
    exact sSet_push_none w m cap so L hO.hm hO.row hL k1 p1 q1 s1 r1 k2 p2 q2 s2 r2 hvk hvv' hk0' F (beq_eq_false_iff_ne.2 hv0) hO.gone hr
theorem stwhole_c (w:World) (s:ByteArray):Calls Tryz.prog 174 #[.agg #[.int .i64 3,.int .i64 0,.int .i64 0,s,.int .i64 0]] w (IntPost w 0):=by
 go_enter Tryz.func174,Tryz.ntmps174
 go_wp2
 go_ret
 exact zAq rfl (zAm _ _)
theorem sTabNew_c (w:World):Calls Tryz.prog 111 #[] w (fun e w'=>e= .returned (.pointer (some ⟨w.heap.size+1,0,none⟩))∧STab w' (w.heap.size+1) w.heap.size (.slice none 0 0) []∧Below w.heap.size w w'):=by
 have hn:∀W,Calls Tryz.prog 169 #[] W (fun e w'=>e= .returned (.pointer (some ⟨W.heap.size,0,none⟩))∧w'=W.alloc (.cells #[.slice none 0 0] 181)):=fun W=>by
  go_enter Tryz.func169,Tryz.ntmps169
  go_wp2
  go_ret
  exact⟨rfl,rfl⟩
 have HN:=Lib.hid hn
 clear hn
 go_enter Tryz.func111,Tryz.ntmps111
 go_wp2_with fail
 refine(HN.out _).mono ?_
 rintro e w1 ⟨rfl,rfl⟩
 go_wp2
 go_ret
 exact⟨by first|rfl|simp,⟨zAW _ _ _,zAf _ _ _,World.ownsRow_nil _ _ _ _,fun s h=>(by cases h)⟩,zAF _ _ _⟩
theorem sTabSet_c (w:World) (t m:Nat) (sv:Value) (L:List Sl) (hT:STab w t m sv L) (hL:L.length≤1000) (s:ByteArray) (hs:s.size≤4096) (k2 p2 q2:Int) (s2:ByteArray) (r2:Int) (hv:zAi ⟨k2,p2,q2,s2,r2⟩=true):
  Calls Tryz.prog 119 #[.pointer (some ⟨t,0,none⟩),.agg #[.int .i64 3,.int .i64 0,.int .i64 0,s,.int .i64 0],.agg #[k2,p2,q2,s2,r2]] w (STabPost w t m sv (setM L (strV s) ⟨k2,p2,q2,s2,r2⟩)):=by
 have HI:=Lib.hid (fun W=>stwhole_c W s)
 have HT:=Lib.hid hT.ht
 have HO:=Lib.hid hT.om
 have hlt:t<w.heap.size:=(Array.getElem?_eq_some_iff.1 hT.ht).1
 have HV:=Lib.hid (fun W=>(svalid_all (valid_str hs) W:Calls Tryz.prog 26 #[.agg #[.int .i64 3,.int .i64 0,.int .i64 0,s,.int .i64 0]] W (BoolPost W true)))
 have HVV:=Lib.hid (fun W=>(svalid_all hv W:Calls Tryz.prog 26 #[.agg #[k2,p2,q2,s2,r2]] W (BoolPost W true)))
 have hset:∀W,SMap W m sv L→Calls Tryz.prog 175 #[.pointer (some ⟨m,0,none⟩),.agg #[.int .i64 3,.int .i64 0,.int .i64 0,s,.int .i64 0],.agg #[k2,p2,q2,s2,r2]] W (SmPost W m sv (setM L (strV s) ⟨k2,p2,q2,s2,r2⟩)):=fun W h=>sMapSet_c W m sv L h hL (strV s) ⟨k2,p2,q2,s2,r2⟩ (valid_str hs) hv (by show(3:Int)≠0;decide)
 obtain⟨R,hR⟩:∃R,R=setM L (strV s) ⟨k2,p2,q2,s2,r2⟩:=⟨_,rfl⟩
 rw[←hR] at hset ⊢
 have HS:=Lib.hid hset
 clear hT hR hset hv
 go_enter Tryz.func119,Tryz.ntmps119
 go_wp2_with fail
 refine(HV.out _).mono ?_
 rintro e w1 ⟨rfl,hb⟩
 have Ha1:=hkh hb (zAf _ _ _)
 have Hb1:=hkh hb (zAW _ _ _)
 have Ht1:=hkh hb (zAp HT.out _ _)
 have HW1:=hbn (zAF _ _ _) hb
 have hz1:=hb.size
 try simp at hz1
 clear hb
 have hya:w.heap.size<w1.heap.size:=hsz Ha1
 obtain⟨a0,a1,a2,a3,a4⟩:=cells5 Ha1.out
 have hyb:w.heap.size+1<w1.heap.size:=hsz Hb1
 obtain⟨b0,b1,b2,b3,b4⟩:=cells5 Hb1.out
 have hyt:t<w1.heap.size:=hsz Ht1
 have t0:w1.cell? ⟨t,0,none⟩=some (.slice none 0 0):=by rw[zAA Ht1.out];rfl
 have t1:w1.cell? ⟨t,1,none⟩=some (.pointer (some ⟨m,0,none⟩)):=by rw[zAA Ht1.out];rfl
 go_wp2_with fail
 refine(HVV.out _).mono ?_
 rintro e w2 ⟨rfl,hb⟩
 have Ha2:=hkh hb Ha1.out
 have Hb2:=hkh hb Hb1.out
 have Ht2:=hkh hb Ht1.out
 have HW2:=hbn HW1.out hb
 have hz2:=hb.size
 try simp at hz2
 clear hb
 clear hya a0 a1 a2 a3 a4 hyb b0 b1 b2 b3 b4 hyt t0 t1
 have hya:w.heap.size<w2.heap.size:=hsz Ha2
 obtain⟨a0,a1,a2,a3,a4⟩:=cells5 Ha2.out
 have hyb:w.heap.size+1<w2.heap.size:=hsz Hb2
 obtain⟨b0,b1,b2,b3,b4⟩:=cells5 Hb2.out
 have hyt:t<w2.heap.size:=hsz Ht2
 have t0:w2.cell? ⟨t,0,none⟩=some (.slice none 0 0):=by rw[zAA Ht2.out];rfl
 have t1:w2.cell? ⟨t,1,none⟩=some (.pointer (some ⟨m,0,none⟩)):=by rw[zAA Ht2.out];rfl
 go_wp2_with fail
 refine(HI.out _).mono ?_
 rintro e w3 ⟨rfl,hb⟩
 have Ha3:=hkh hb Ha2.out
 have Hb3:=hkh hb Hb2.out
 have Ht3:=hkh hb Ht2.out
 have HW3:=hbn HW2.out hb
 have hz3:=hb.size
 try simp at hz3
 clear hb
 clear hya a0 a1 a2 a3 a4 hyb b0 b1 b2 b3 b4 hyt t0 t1
 have hya:w.heap.size<w3.heap.size:=hsz Ha3
 obtain⟨a0,a1,a2,a3,a4⟩:=cells5 Ha3.out
 have hyb:w.heap.size+1<w3.heap.size:=hsz Hb3
 obtain⟨b0,b1,b2,b3,b4⟩:=cells5 Hb3.out
 have hyt:t<w3.heap.size:=hsz Ht3
 have t0:w3.cell? ⟨t,0,none⟩=some (.slice none 0 0):=by rw[zAA Ht3.out];rfl
 have t1:w3.cell? ⟨t,1,none⟩=some (.pointer (some ⟨m,0,none⟩)):=by rw[zAA Ht3.out];rfl
 go_wp2
 refine zAK mixed (by kernel_rfl) ?_
 go_wp2_with fail
 refine(HS.out _ (HO.out.below HW3.out.drew)).mono ?_
 rintro e w4 ⟨rfl,sv',hO4,hM4,hown4⟩
 have HX:=Lib.hid (And.intro hO4 (And.intro hM4 hown4))
 clear hO4 hM4 hown4
 go_wp2
 refine⟨by kernel_rfl,?_⟩
 go_wp2
 go_ret
 obtain⟨hO4,hM4,hown4⟩:=HX.out
 have hb:Below w.heap.size w w3.drew:=HW3.out.drew
 refine⟨rfl,sv',hO4,(Mods.of_below hb).trans hM4,fun b hb2=> ?_⟩
 rcases hown4 b hb2 with h|h
 ·exact .inl h
 ·exact .inr (Nat.le_trans hb.size h)
theorem grow_rhp {base n:Nat} {w:World} {h:Nat} {M:LH} {o:LO} {f:FuncId} {args:Array Value} (hP:RHp base n w h M) (hb:base≤w.heap.size) (hl:M.length≤60)
  (hc:∀av uv H,RHpAt w h av uv H→H.length≤1000→Calls Tryz.prog f args w (RGrow w h av uv H o)):
  Calls Tryz.prog f args w (fun e w'=>(∃v,e= .returned v)∧RHp base n w' h (M++[o])∧BM base SB w w'):=by
 obtain⟨av,uv,H,h1,h2,h3,h4⟩:=hP.ex
 have hH:H.length=M.length:=by rw[←h2];unfold rlh;rw[List.length_map]
 refine(hc av uv H h1 (by omega)).mono ?_
 rintro e w' ⟨he,av',uv',x,h5,h6,h7,h8,h9,h10,h11⟩
 refine⟨he,⟨av',uv',H++[x],h5,?_,?_,?_⟩,BM.of_mods h8 (fun b hb2=>⟨h4 b hb2,rf_sb h1 hb2⟩)⟩
 ·unfold rlh;rw[List.map_append];unfold rlh at h2;rw[h2,List.map_singleton,h6]
 ·intro y hy
  rcases List.mem_append.1 hy with hy|hy
  ·exact h3 y hy
  ·rw[List.mem_singleton] at hy;rw[hy,h7];exact Nat.zero_le _
 ·rintro b (e|e|e|⟨y,hy,hyb⟩)
  ·exact h4 b (.inl e)
  ·rcases h9 b e with e|e
   ·exact h4 b (.inr (.inl e))
   ·omega
  ·rcases h10 b e with e|e
   ·exact h4 b (.inr (.inr (.inl e)))
   ·omega
  ·rcases List.mem_append.1 hy with hy|hy
   ·exact h4 b (.inr (.inr (.inr ⟨y,hy,hyb⟩)))
   ·rw[List.mem_singleton] at hy
    subst hy
    have:=h11 b hyb
    omega
theorem sNewFunc_c (w:World) (h:Nat) (av uv:Value) (H:List RO) (hH:RHpAt w h av uv H) (hl:H.length≤1000) (tag:Int):Calls Tryz.prog 66 #[.pointer (some ⟨h,0,none⟩),tag] w (RGrow w h av uv H ⟨5,V.nil,[]⟩):=by
 have hlt:h<w.heap.size:=(Array.getElem?_eq_some_iff.1 hH.hh).1
 obtain⟨bs,hTc⟩:=hH.tch
 have HAV:=Lib.hid (fun b (hb:av.ownBlock=some b)=>(zAS hH.row hb).2)
 have HUV:=Lib.hid (fun b (hb:uv.ownBlock=some b)=>(zAS hTc hb).2)
 have HHH:=Lib.hid hH
 have HLL:=Lib.hid hl
 clear hH hTc hl
 go_enter Tryz.func66,Tryz.ntmps66
 go_wp2_with fail
 refine(sAdd_c _ h av uv H (HHH.out.below (zAm _ _)) HLL.out 5 tag ⟨#[]⟩ none none 0 0 0 0 ⟨.inr (.inl rfl),wf_nil,fun _=>⟨rfl,rfl⟩,fun h=>absurd h (show¬(5:Int)=4 by decide)⟩ rfl (fun y hy _ h=>absurd h (show¬(5:Int)=4 by decide))).mono ?_
 rintro e w3 ⟨⟨v3,rfl⟩,av',uv',hA,hM,h3,h4⟩
 have HA:=Lib.hid hA
 have HM:=Lib.hid hM
 have H3:=Lib.hid h3
 have H4:=Lib.hid h4
 have HBW:=Lib.hid (show Below w.heap.size w (w.alloc (oV 0 0 0 ⟨#[]⟩ 0)) from(zAm _ _))
 have HR3:=Lib.hid (zAj hM (heap1 w (oV 0 0 0 ⟨#[]⟩ 0)) (fun e=>by rcases e with e|e|e<;>first|omega|(have:=HAV.out _ e;omega)|(have:=HUV.out _ e;omega)))
 have hyr:w.heap.size<w3.heap.size:=hsz HR3
 clear hA hM h3 h4
 obtain⟨r0,r1,r2,r3,r4⟩:=cells5 HR3.out
 obtain⟨fr0,fr1,fr2,fr3,fr4⟩:=froz5 HR3.out
 go_wp2
 refine bodyPost_ret (by simp[results,Tryz.results66,go_sem,hyr,r0,r1,r2,r3,r4];first|done|rfl) rfl ?_
 refine rgrow_end HBW.out HA.out HM.out H3.out H4.out HR3.out (mods_five (F:=fun b=>b=w.heap.size) (Mods.refl _ _) (.inl rfl) _ _ _ _ _) rfl rfl (fun b hb=> ?_) _
 exact absurd hb.1 (show¬(5:Int)=4 by decide)
theorem sNewTable_c (w:World) (h:Nat) (av uv:Value) (H:List RO) (hH:RHpAt w h av uv H) (hl:H.length≤1000):Calls Tryz.prog 62 #[.pointer (some ⟨h,0,none⟩)] w (RGrow w h av uv H ⟨4,V.nil,[]⟩):=by
 have hlt:h<w.heap.size:=(Array.getElem?_eq_some_iff.1 hH.hh).1
 obtain⟨bs,hTc⟩:=hH.tch
 have HAV:=Lib.hid (fun b (hb:av.ownBlock=some b)=>(zAS hH.row hb).2)
 have HUV:=Lib.hid (fun b (hb:uv.ownBlock=some b)=>(zAS hTc hb).2)
 have HHH:=Lib.hid hH
 have HLL:=Lib.hid hl
 clear hH hTc hl
 go_enter Tryz.func62,Tryz.ntmps62
 go_wp2_with fail
 refine(sTabNew_c _).mono ?_
 rintro e w1 ⟨he,hT,hb⟩
 rw[show(w.alloc (oV 0 0 0 ⟨#[]⟩ 0)).heap.size=w.heap.size+1 by simp] at he hT
 subst he
 have HT:=Lib.hid hT
 have HB1:=hbn (zAm _ _) hb
 have HR1:=hkh hb (heap1 w (oV 0 0 0 ⟨#[]⟩ 0))
 clear hT hb
 go_wp2_with fail
 refine(sAdd_c _ h av uv H (HHH.out.below HB1.out) HLL.out 4 0 ⟨#[]⟩ (some ⟨w.heap.size+1+1,0,none⟩) none 0 0 (w.heap.size+1+1) (w.heap.size+1) ⟨.inl rfl,wf_nil,fun h=>absurd h (show¬(4:Int)=5 by decide),fun _=>HT.out⟩ rfl (fun y hy h4y _=>⟨fun e=>by have h1:=(Array.getElem?_eq_some_iff.1 ((HHH.out.one y hy).tb h4y).om.hm).1;have e:y.m=(w.heap.size+1):=e;omega,fun b _ h=>by cases h⟩)).mono ?_
 rintro e w3 ⟨⟨v3,rfl⟩,av',uv',hA,hM,h3,h4⟩
 have HA:=Lib.hid hA
 have HM:=Lib.hid hM
 have H3:=Lib.hid h3
 have H4:=Lib.hid h4
 have HBW:=Lib.hid (show Below w.heap.size w w1 from HB1.out)
 have HR3:=Lib.hid (zAj hM HR1.out (fun e=>by rcases e with e|e|e<;>first|omega|(have:=HAV.out _ e;omega)|(have:=HUV.out _ e;omega)))
 have hyr:w.heap.size<w3.heap.size:=hsz HR3
 clear hA hM h3 h4
 obtain⟨r0,r1,r2,r3,r4⟩:=cells5 HR3.out
 obtain⟨fr0,fr1,fr2,fr3,fr4⟩:=froz5 HR3.out
 go_wp2
 refine bodyPost_ret (by simp[results,Tryz.results62,go_sem,hyr,r0,r1,r2,r3,r4];first|done|rfl) rfl ?_
 refine rgrow_end HBW.out HA.out HM.out H3.out H4.out HR3.out (mods_five (F:=fun b=>b=w.heap.size) (Mods.refl _ _) (.inl rfl) _ _ _ _ _) rfl rfl (fun b hb=> ?_) _
 rcases hb.2 with e|e|e
 ·have e:b=w.heap.size+1+1:=e
  omega
 ·have e:b=(w.heap.size+1):=e
  omega
 ·cases e
theorem sNew_c (w:World):Calls Tryz.prog 60 #[] w (fun e w'=>∃h,e= .returned (.pointer (some ⟨h,0,none⟩))∧RHp w.heap.size 0 w' h []∧Below w.heap.size w w'):=by
 go_enter Tryz.func60,Tryz.ntmps60
 go_wp2
 go_ret
 refine⟨w.heap.size,rfl,⟨.slice none 0 0,.slice none 0 0,[],⟨heap1 _ _,?_,⟨[],?_⟩,fun x hx=>(by cases hx),.nil⟩,rfl,fun x hx=>(by cases hx),?_⟩,zAm _ _⟩
 ·exact World.ownsRow_nil _ _ _ _
 ·exact World.ownsRow_nil _ _ _ _
 ·rintro b (rfl|e|e|⟨x,hx,_⟩)
  ·omega
  ·cases e
  ·cases e
  ·cases hx
end Go.Proofs.YthkpckgcgkijbaaGreatDoor
