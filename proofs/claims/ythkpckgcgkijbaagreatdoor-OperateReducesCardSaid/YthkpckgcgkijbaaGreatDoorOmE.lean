import Derived.Test.YthkpckgcgkijbaaGreatDoorOpCw
import Derived.Test.YthkpckgcgkijbaaGreatDoorMapL
set_option linter.unusedVariables false
set_option linter.unusedSimpArgs false
set_option maxRecDepth 100000
set_option maxHeartbeats 2000000
namespace Go.Proofs.YthkpckgcgkijbaaGreatDoor
open Go.RowKit Go.Proofs.Lexi
theorem pomDrop_c (w:World) (m g rb cap:Nat) (L:List Sl) (E:List (Value×Value)) (f:V→Option Nat) (hm:w.heap[m]? =some (.cells #[.slice (some ⟨rb,0,none⟩) L.length cap,.map (some g),.int .i64 (liveN L:Nat)] 159))
  (hrow:w.ownsRow 0 161 11 (.slice (some ⟨rb,0,none⟩) L.length cap) L.length (rowSl L)) (hL:L.length≤1000) (hE:MapAt Tryz.prog 25 w g E) (hG:Graph E f) (hI:Idx L f) (hwf:∀s∈L,WfV s.k∧WfV s.v):
  Calls Tryz.prog 225 #[.pointer (some ⟨m,0,none⟩)] w (DropPost w m g L f):=by
 have hml:m<w.heap.size:=(Array.getElem?_eq_some_iff.1 hm).1
 have hg:g<w.heap.size:=hE.lt
 have hmg:m≠g:=fun e=>by
  obtain⟨es,c,he,_⟩:=id hE
  rw[←e,hm] at he
  cases he
 have hrg:rb≠g:=by
  obtain⟨es0,c0,hgm,_⟩:=id hE
  exact row_ne hrow hgm rb rfl
 have hrl:rb<w.heap.size:=(zAS hrow rfl).2
 have HM:=Lib.hid hm
 have HROW:=Lib.hid hrow
 have HI:=Lib.hid hI
 have HWF:=Lib.hid hwf
 have HS0:=Lib.hid (show DropRel w g L f L.length (.slice none 0 0) (.int .i64 0) w from⟨0,0,none,rfl,by rw[List.take_zero];rfl,rfl,Nat.zero_le _,by rw[List.take_zero];exact World.ownsRow_nil _ _ _ _,⟨E,hE,by rw[mid_zero];exact hG⟩,Mods.refl _ _⟩)
 obtain⟨m0,m1,m2⟩:=zBN hm
 clear hrow hI hwf hE hG hm
 go_enter Tryz.func225,Tryz.ntmps225
 go_wp2
 go_loopg [2,10] L.length (fun gg vl vi wr=>DropRel w g L f gg vl vi wr)
 case atStart=>exact HS0.out
 case round=>
  clear HS0 m0 m1 m2
  obtain⟨i,cap2,so2,rfl,rfl,rfl,hi,hown,⟨E2,hE2,hG2⟩,hmods⟩:=hrel
  have HMr:=Lib.hid (zAj hmods HM.out hmg)
  have hrowr:=zAZ (w3:=wr) HROW.out (fun b hb=>by injection hb with hb;subst hb;exact hmods.block _ hrl hrg)
  have hsz:=hmods.size
  have hmr:m<wr.heap.size:=Nat.lt_of_lt_of_le hml hsz
  have hrr:rb<wr.heap.size:=Nat.lt_of_lt_of_le hrl hsz
  have HOWN:=Lib.hid hown
  have HMD:=Lib.hid hmods
  have hdl:=drop_len (L.take i)
  rw[List.length_take] at hdl
  clear hown hmods
  obtain⟨m0,m1,m2⟩:=zBN HMr.out
  obtain⟨fm0,fm1,fm2⟩:=froz3 HMr.out
  by_cases hlt:i<L.length
  ·obtain⟨sl,hsl⟩:∃sl,L[i]? =some sl:=⟨_,List.getElem?_eq_getElem hlt⟩
   have rc0:wr.cell? ⟨rb,i*11,none⟩=some (.int .i64 sl.k.k):=(hrowr.cellAt (i*11+0) (by omega)).trans (zAn L i 0 sl hsl (by decide))
   have rc1:wr.cell? ⟨rb,i*11+1,none⟩=some (.int .i64 sl.k.p):=(hrowr.cellAt (i*11+1) (by omega)).trans (zAn L i 1 sl hsl (by decide))
   have rc2:wr.cell? ⟨rb,i*11+2,none⟩=some (.int .i64 sl.k.q):=(hrowr.cellAt (i*11+2) (by omega)).trans (zAn L i 2 sl hsl (by decide))
   have rc3:wr.cell? ⟨rb,i*11+3,none⟩=some (.string sl.k.s):=(hrowr.cellAt (i*11+3) (by omega)).trans (zAn L i 3 sl hsl (by decide))
   have rc4:wr.cell? ⟨rb,i*11+4,none⟩=some (.int .i64 sl.k.r):=(hrowr.cellAt (i*11+4) (by omega)).trans (zAn L i 4 sl hsl (by decide))
   have rc5:wr.cell? ⟨rb,i*11+5,none⟩=some (.int .i64 sl.v.k):=(hrowr.cellAt (i*11+5) (by omega)).trans (zAn L i 5 sl hsl (by decide))
   have rc6:wr.cell? ⟨rb,i*11+6,none⟩=some (.int .i64 sl.v.p):=(hrowr.cellAt (i*11+6) (by omega)).trans (zAn L i 6 sl hsl (by decide))
   have rc7:wr.cell? ⟨rb,i*11+7,none⟩=some (.int .i64 sl.v.q):=(hrowr.cellAt (i*11+7) (by omega)).trans (zAn L i 7 sl hsl (by decide))
   have rc8:wr.cell? ⟨rb,i*11+8,none⟩=some (.string sl.v.s):=(hrowr.cellAt (i*11+8) (by omega)).trans (zAn L i 8 sl hsl (by decide))
   have rc9:wr.cell? ⟨rb,i*11+9,none⟩=some (.int .i64 sl.v.r):=(hrowr.cellAt (i*11+9) (by omega)).trans (zAn L i 9 sl hsl (by decide))
   have rc10:wr.cell? ⟨rb,i*11+10,none⟩=some (.bool sl.g):=(hrowr.cellAt (i*11+10) (by omega)).trans (zAn L i 10 sl hsl (by decide))
   have hkw:=(HWF.out sl (List.mem_of_getElem? hsl)).1
   cases hgf:sl.g with
   |true=>
    rw[hgf] at rc10
    obtain⟨x,hx⟩:∃x:Nat,x=(midF L f i sl.k).getD 0:=⟨_,rfl⟩
    have hlk:=look_plain hE2 hG2 hkw
    rw[←hx] at hlk
    have HLK:=Lib.hid hlk
    have HDL:=Lib.hid (del_at hE2 hG2 hkw)
    have HEG:=Lib.hid (show∃E,MapAt Tryz.prog 25 wr g E∧Graph E (midF L f i) from⟨E2,hE2,hG2⟩)
    have HSL:=Lib.hid hsl
    have HX:=Lib.hid hx
    clear hlk hE2 hG2 hx hrowr hkw hsl
    by_cases hxi:x=i
    ·have tx:(((x:Nat):Int)==(i:Nat))=true:=by rw[hxi];simp
     have HN:=Lib.hid (gone_yes HI.out HSL.out hgf (by rw[←HX.out];exact hxi))
     have HDR:=Lib.hid (drop_gone HSL.out hgf)
     clear hgf hxi
     go_wp2
     refine zAK mixed (by kernel_rfl) ?_
     go_wp2_with (at_lookup;refine zAr _ rfl _ _ _ _ rfl _ _ _ rfl rfl (HLK.out _ (Below.heap_alloc wr _ g (by omega))) ?_)
     refine⟨by kernel_rfl,?_⟩
     go_wp2
     refine zAK mixed (by kernel_rfl) ?_
     go_wp2_with (at_delete;refine wpList_drop_map _ rfl _ _ _ _ rfl _ _ rfl rfl _ (HDL.out _ _ (Below.heap_alloc wr _ g (by omega))) ?_;intro w3 hw3)
     refine⟨by kernel_rfl,?_⟩
     go_wp2
     obtain⟨hput,hmods,hsz3⟩:=hw3
     simp at hsz3
     go_roundg (L.length-(i+1))
     case measure=>omega
     case rel=>
      have hb:Below wr.heap.size wr (wr.alloc (.cells #[.int .i64 sl.k.k,.int .i64 sl.k.p,.int .i64 sl.k.q,.string sl.k.s,.int .i64 sl.k.r,.int .i64 sl.v.k,.int .i64 sl.v.p,.int .i64 sl.v.q,.string sl.v.s,.int .i64 sl.v.r,.bool true] 161)).drew.drew:=((Below.refl _ _).alloc (Nat.le_refl _) _).drew.drew
      refine⟨i+1,cap2,so2,rfl,by rw[HDR.out],rfl,by omega,row_drop (zAZ (w3:=w3) HOWN.out (fun b hb2=> ?_)) HDR.out,by rw[HN.out];exact hput,?_⟩
      ·have h1:=zAS HOWN.out hb2
       exact(hmods.block b (by simp;omega) (by omega)).trans (hb.block b h1.2)
      ·exact(HMD.out.trans (Mods.of_below hb)).trans hmods
    ·have tx:(((x:Nat):Int)==(i:Nat))=false:=by rw[beq_eq_false_iff_ne];omega
     have HN:=Lib.hid (gone_no HI.out HSL.out hgf (by rw[←HX.out];exact hxi))
     have HDR:=Lib.hid (drop_gone HSL.out hgf)
     clear hgf hxi
     go_wp2
     refine zAK mixed (by kernel_rfl) ?_
     go_wp2_with (at_lookup;refine zAr _ rfl _ _ _ _ rfl _ _ _ rfl rfl (HLK.out _ (Below.heap_alloc wr _ g (by omega))) ?_)
     refine⟨by kernel_rfl,?_⟩
     go_wp2
     go_roundg (L.length-(i+1))
     case measure=>omega
     case rel=>
      have hb:Below wr.heap.size wr (wr.alloc (.cells #[.int .i64 sl.k.k,.int .i64 sl.k.p,.int .i64 sl.k.q,.string sl.k.s,.int .i64 sl.k.r,.int .i64 sl.v.k,.int .i64 sl.v.p,.int .i64 sl.v.q,.string sl.v.s,.int .i64 sl.v.r,.bool true] 161)).drew:=((Below.refl _ _).alloc (Nat.le_refl _) _).drew
      obtain⟨E3,h3,h4⟩:=HEG.out
      refine⟨i+1,cap2,so2,rfl,by rw[HDR.out],rfl,by omega,row_drop (zAQ (zAa hb (Nat.le_refl _)) HOWN.out) HDR.out,⟨E3,h3.keep (hb.block g (by omega)),by rw[HN.out];exact h4⟩,HMD.out.trans (Mods.of_below hb)⟩
   |false=>
    rw[hgf] at rc10
    have HN:=Lib.hid (mid_live HI.out hsl hgf)
    have HST:=Lib.hid (put_at hE2 hG2 hkw)
    have HDR:=Lib.hid (drop_live hsl hgf)
    clear hE2 hG2 hrowr hkw
    go_wp2
    refine zAK mixed (by kernel_rfl) ?_
    go_wp2_with (at_mapUpdate;refine zBH _ rfl _ _ _ _ rfl _ _ _ rfl rfl rfl _ (HST.out (dropM (L.take i)).length _ (Below.heap_alloc wr _ g (by omega))) ?_;intro w3 hw3)
    refine⟨by kernel_rfl,?_⟩
    obtain⟨hput,hmods,hsz3⟩:=hw3
    have hsz3':wr.heap.size+1≤w3.heap.size:=by
     rw[hsz3]
     simp
    have HBX:=Lib.hid (zAj hmods (show(wr.alloc (.cells #[.int .i64 sl.k.k,.int .i64 sl.k.p,.int .i64 sl.k.q,.string sl.k.s,.int .i64 sl.k.r,.int .i64 sl.v.k,.int .i64 sl.v.p,.int .i64 sl.v.q,.string sl.v.s,.int .i64 sl.v.r,.bool false] 161)).drew.heap[wr.heap.size]? =_ from zAg wr (.cells #[.int .i64 sl.k.k,.int .i64 sl.k.p,.int .i64 sl.k.q,.string sl.k.s,.int .i64 sl.k.r,.int .i64 sl.v.k,.int .i64 sl.v.p,.int .i64 sl.v.q,.string sl.v.s,.int .i64 sl.v.r,.bool false] 161)) (by omega))
    have HM3:=Lib.hid (zAj hmods (show(wr.alloc (.cells #[.int .i64 sl.k.k,.int .i64 sl.k.p,.int .i64 sl.k.q,.string sl.k.s,.int .i64 sl.k.r,.int .i64 sl.v.k,.int .i64 sl.v.p,.int .i64 sl.v.q,.string sl.v.s,.int .i64 sl.v.r,.bool false] 161)).drew.heap[m]? =_ from(Below.heap_alloc wr _ m hmr).trans HMr.out) hmg)
    have hb:Below wr.heap.size wr (wr.alloc (.cells #[.int .i64 sl.k.k,.int .i64 sl.k.p,.int .i64 sl.k.q,.string sl.k.s,.int .i64 sl.k.r,.int .i64 sl.v.k,.int .i64 sl.v.p,.int .i64 sl.v.q,.string sl.v.s,.int .i64 sl.v.r,.bool false] 161)).drew:=((Below.refl _ _).alloc (Nat.le_refl _) _).drew
    have HO3:=Lib.hid (zAZ (w3:=w3) HOWN.out (fun b hb2=>(hmods.block b (by have:=(zAS HOWN.out hb2).2;simp;omega) (by have:=(zAS HOWN.out hb2).1;omega)).trans (hb.block b (zAS HOWN.out hb2).2)))
    have HMD3:=Lib.hid ((HMD.out.trans (Mods.of_below hb)).trans hmods)
    have HPUT:=Lib.hid hput
    have hmr3:m<w3.heap.size:=by omega
    clear hput hmods hsz3 hb m0 m1 m2 fm0 fm1 fm2 rc0 rc1 rc2 rc3 rc4 rc5 rc6 rc7 rc8 rc9 rc10
    obtain⟨b0,b1,b2,b3,b4,b5,b6,b7,b8,b9,b10⟩:=cells11 HBX.out
    obtain⟨m0,m1,m2⟩:=zBN HM3.out
    obtain⟨fm0,fm1,fm2⟩:=froz3 HM3.out
    obtain⟨i6,hi6,hi6a,hi6b,hi6c⟩:=info_parts info161p
    go_wp2_with (at_builtin;refine wpList_append_own_at _ rfl (.tmp 40) (.tmp 42) 156 rfl w.heap.size 161 i6 _ 11 104 Tryz.underlying156 hi6 hi6a hi6b hi6c rfl (by decide) (.slice so2 (dropM (L.take i)).length cap2) (dropM (L.take i)).length (rowSl (dropM (L.take i))) rfl ?A _ 1 1 [.int .i64 sl.k.k,.int .i64 sl.k.p,.int .i64 sl.k.q,.string sl.k.s,.int .i64 sl.k.r,.int .i64 sl.v.k,.int .i64 sl.v.p,.int .i64 sl.v.q,.string sl.v.s,.int .i64 sl.v.r,.bool false] rfl rfl ?B ?C ?D ?E ?F ?G)
    case A=>exact zAQ (zAa ((Below.refl _ _).alloc (Nat.le_refl _) _) (Nat.le_refl _)) HO3.out
    case B=>exact cells_eleven _ _ _ _ _ _ _ _ _ _ _ _ _ _ rfl
    case C=>
     intro u hu
     simp only[List.mem_cons,List.not_mem_nil,or_false] at hu
     rcases hu with rfl|rfl|rfl|rfl|rfl|rfl|rfl|rfl|rfl|rfl|rfl<;>simp[Value.oneCell']
    case D=>unfold maxLen;omega
    case E=>omega
    case F=>first|omega|(simp;omega)
    case G=>
     intro v' w4 hown hgrow _ hat
     obtain⟨rb',cap',rfl⟩:=zAl hown (by omega)
     have hsz4:=hgrow.size
     simp at hsz4
     have HOWN4:=Lib.hid hown
     have HGR:=Lib.hid hgrow
     clear hown hgrow hat b0 b1 b2 b3 b4 b5 b6 b7 b8 b9 b10
     go_wp2
     go_roundg (L.length-(i+1))
     case measure=>omega
     case rel=>
      have hlen:(dropM (L.take (i+1))).length=(dropM (L.take i)).length+1:=by rw[HDR.out,List.length_append];rfl
      have hrow4:rowSl (dropM (L.take (i+1)))=rowSl (dropM (L.take i))++[.int .i64 sl.k.k,.int .i64 sl.k.p,.int .i64 sl.k.q,.string sl.k.s,.int .i64 sl.k.r,.int .i64 sl.v.k,.int .i64 sl.v.p,.int .i64 sl.v.q,.string sl.v.s,.int .i64 sl.v.r,.bool false]:=by
       rw[HDR.out,rowSl_push]
       unfold zBS
       rw[hgf]
      have hne:∀b,b<w.heap.size→some b≠(Value.slice so2 (dropM (L.take i)).length cap2).ownBlock:=fun b hb e=>by
       have:=(zAS HO3.out e.symm).1
       omega
      have h4:∀b,b<w.heap.size→w4.heap[b]? =w3.heap[b]? :=fun b hb=>(HGR.out.block b (by simp;omega) (hne b hb)).trans (Below.heap_alloc w3 _ b (by omega))
      obtain⟨E3,h5,h6⟩:=HPUT.out
      refine⟨i+1,cap',some ⟨rb',0,none⟩,rfl,by rw[hlen],rfl,by omega,by rw[hlen,hrow4];exact HOWN4.out,⟨E3,h5.keep (h4 g hg),by rw[HN.out];exact h6⟩,?_⟩
      exact⟨HGR.out.os.trans HMD3.out.os,HGR.out.tape.trans HMD3.out.tape,HGR.out.output.trans HMD3.out.output,by omega,fun b hb hF=>(h4 b hb).trans (HMD3.out.block b hb hF)⟩
  ·obtain rfl:i=L.length:=by omega
   have HEG:=Lib.hid (show∃E,MapAt Tryz.prog 25 wr g E∧Graph E (midF L f L.length) from⟨E2,hE2,hG2⟩)
   clear hE2 hG2 hrowr
   go_wp2
   refine bodyPost_ret (by simp[results,Tryz.results225,go_sem];first|done|rfl) rfl ?_
   have hown:=HOWN.out
   rw[List.take_length] at hown
   obtain⟨E3,h3,h4⟩:=HEG.out
   refine⟨rfl,so2,cap2,zAP HMr.out 0 _,zAZ hown (fun b hb=>Below.heap_setCell _ _ _ _ (show b≠m by have:=(zAS hown hb).1;omega)),⟨E3,h3.keep (Below.heap_setCell _ _ _ _ (show g≠m by omega)),h4⟩,zAO (HMD.out.mono (fun k _ e=> .inr e)) (.inl (.inl rfl)) _⟩
theorem pomSet_push_gone (w:World) (m g cap:Nat) (rb:Nat) (L:List Sl) (E:List (Value×Value)) (f:V→Option Nat) (hm:w.heap[m]? =some (.cells #[.slice (some ⟨rb,0,none⟩) L.length cap,.map (some g),.int .i64 (liveN L:Nat)] 159))
  (hrow:w.ownsRow 0 161 11 (.slice (some ⟨rb,0,none⟩) L.length cap) L.length (rowSl L)) (hL:L.length≤1000) (hE:MapAt Tryz.prog 25 w g E) (hG:Graph E f) (hroom:¬liveN L+8<L.length-liveN L) (k1 p1 q1:Int) (s1:ByteArray) (r1:Int) (k2 p2 q2:Int) (s2:ByteArray) (r2:Int) (hkw:WfV ⟨k1,p1,q1,s1,r1⟩)
  (hvk:∀W,Calls Tryz.prog 36 #[.agg #[k1,p1,q1,s1,r1]] W (BoolPost W true)) (hvv:∀W,Calls Tryz.prog 36 #[.agg #[k2,p2,q2,s2,r2]] W (BoolPost W true)) (hk0:(k1==0)=false) (hI:Idx L f) (hno:NoLive L f ⟨k1,p1,q1,s1,r1⟩) (hwf:∀s∈L,WfV s.k∧WfV s.v) (hvw:WfV ⟨k2,p2,q2,s2,r2⟩) (hv0:(k2==0)=false) (n:Nat) (sl:Sl) (hsl:L[n]? =some sl) (hgf:sl.g=true)
  (hlk:∀W,W.heap[g]? =w.heap[g]? →(Instr.lookup 157 (.map (some g)) (.agg #[k1,p1,q1,s1,r1]) true).run Tryz.prog W= .ok (.tuple #[.int .i64 (n:Int),.bool true]) W):
  Calls Tryz.prog 173 #[.pointer (some ⟨m,0,none⟩),.agg #[k1,p1,q1,s1,r1],.agg #[k2,p2,q2,s2,r2]] w (OmPost w m g (.slice (some ⟨rb,0,none⟩) L.length cap) (L++[⟨⟨k1,p1,q1,s1,r1⟩,⟨k2,p2,q2,s2,r2⟩,false⟩])):=by
 have HII:=Lib.hid hI
 have HNO:=Lib.hid hno
 have HWF:=Lib.hid hwf
 have HKW:=Lib.hid hkw
 have HVW:=Lib.hid hvw
 have HEG:=Lib.hid (And.intro hE hG)
 clear hI hno hwf hvw
 have hl2:=zBU L
 have hml:m<w.heap.size:=(Array.getElem?_eq_some_iff.1 hm).1
 have hg:g<w.heap.size:=hE.lt
 have hmg:m≠g:=fun e=>by
  obtain⟨es,c,he,_⟩:=id hE
  rw[←e,hm] at he
  cases he
 obtain⟨es0,c0,hgm,_⟩:=id hE
 have hrg:=row_ne hrow hgm
 have HGM:=Lib.hid hgm
 have HRG:=Lib.hid hrg
 have HST:=Lib.hid (put_at hE hG hkw)
 clear hgm hrg
 have HVK:=Lib.hid hvk
 have HVV:=Lib.hid hvv
 have HLK:=Lib.hid hlk
 clear hvk hvv hlk hE hG
 go_enter Tryz.func173,Tryz.ntmps173
 go_wp2_with fail
 refine(HVK.out _).mono ?_
 rintro e w1 ⟨rfl,hb⟩
 have HKB:=hkh hb (zAf _ _ _)
 have HVB:=hkh hb (zAW _ _ _)
 have HW1:=hbn (zAF _ _ _) hb
 have hz1:=hb.size
 simp at hz1
 clear hb
 obtain⟨b0,b1,b2,b3,b4⟩:=cells5 HVB.out
 go_wp2_with fail
 refine(HVV.out _).mono ?_
 rintro e w2 ⟨rfl,hb⟩
 have HKB2:=hkh hb HKB.out
 have HVB2:=hkh hb HVB.out
 have HW2:=hbn HW1.out hb
 have hz2:=hb.size
 have HMM:=hkh HW2.out hm
 have HROW:=Lib.hid (zAQ (zAa HW2.out (Nat.le_refl _)) hrow)
 have HGG:=Lib.hid (bw HW2.out hg)
 have hnl:n<L.length:=(List.getElem?_eq_some_iff.1 hsl).1
 have hgone:w2.cell? ⟨rb,n*11+10,none⟩=some (.bool sl.g):=(HROW.out.cellAt (n*11+10) (by omega)).trans (zAn L n 10 sl hsl (by decide))
 rw[hgf] at hgone
 clear hb b0 b1 b2 b3 b4 HKB HVB
 obtain⟨a0,a1,a2,a3,a4⟩:=cells5 HKB2.out
 obtain⟨b0,b1,b2,b3,b4⟩:=cells5 HVB2.out
 obtain⟨m0,m1,m2⟩:=zBN HMM.out
 obtain⟨fm0,fm1,fm2⟩:=froz3 HMM.out
 go_wp2
 refine zAK mixed (by kernel_rfl) ?_
 go_wp2_with (at_lookup;refine zAr _ rfl _ _ _ _ rfl _ _ _ rfl rfl (HLK.out _ HGG.out) ?_)
 refine⟨by kernel_rfl,?_⟩
 go_wp2
 refine zAK mixed (by kernel_rfl) ?_
 go_wp2
 refine⟨by kernel_rfl,?_⟩
 go_wp2
 refine zAK mixed (by kernel_rfl) ?_
 go_wp2_with (at_mapUpdate;refine zBH _ rfl _ _ _ _ rfl _ _ _ rfl rfl rfl _ (HST.out L.length _ HGG.out) ?_;intro w3 hw3)
 refine⟨by kernel_rfl,?_⟩
 go_wp2
 obtain⟨hput,hmods,hsz3⟩:=hw3
 have HPUT:=Lib.hid hput
 have HK3:=Lib.hid (zAj hmods (show(w2.drew.drew.drew).heap[w.heap.size]? =_ from HKB2.out) (by omega))
 have HV3:=Lib.hid (zAj hmods (show(w2.drew.drew.drew).heap[w.heap.size+1]? =_ from HVB2.out) (by omega))
 have HM3:=Lib.hid (zAj hmods (show(w2.drew.drew.drew).heap[m]? =_ from HMM.out) hmg)
 have HR3:=Lib.hid (zAZ (w3:=w3) HROW.out (fun b hb=>hmods.block b (zAS HROW.out hb).2 (HRG.out b hb)))
 have HMD:=Lib.hid hmods
 have hsz3':w2.heap.size≤w3.heap.size:=Nat.le_of_eq (Eq.symm hsz3)
 clear hput hmods hsz3 a0 a1 a2 a3 a4 b0 b1 b2 b3 b4 m0 m1 m2 fm0 fm1 fm2
 obtain⟨a0,a1,a2,a3,a4⟩:=cells5 HK3.out
 obtain⟨b0,b1,b2,b3,b4⟩:=cells5 HV3.out
 obtain⟨m0,m1,m2⟩:=zBN HM3.out
 obtain⟨fm0,fm1,fm2⟩:=froz3 HM3.out
 obtain⟨i6,hi6,hi6a,hi6b,hi6c⟩:=info_parts info161p
 refine zAK mixed (by kernel_rfl) ?_
 go_wp2_with (at_builtin;refine wpList_append_own_at _ rfl (.tmp 79) (.tmp 83) 156 rfl 0 161 i6 _ 11 104 Tryz.underlying156 hi6 hi6a hi6b hi6c rfl (by decide) (.slice (some ⟨rb,0,none⟩) L.length cap) L.length (rowSl L) rfl ?A _ 1 1 [.int .i64 k1,.int .i64 p1,.int .i64 q1,.string s1,.int .i64 r1,.int .i64 k2,.int .i64 p2,.int .i64 q2,.string s2,.int .i64 r2,.bool false] rfl rfl ?B ?C ?D ?E ?F ?G)
 case A=>exact zAQ (zAa ((Below.refl _ _).alloc (Nat.le_refl _) _).drew (Nat.le_refl _)) HR3.out
 case B=>exact zBP _ _ _ _ _ _ _ _ _ _ _ _ _ _ rfl
 case C=>
  intro u hu
  simp only[List.mem_cons,List.not_mem_nil,or_false] at hu
  rcases hu with rfl|rfl|rfl|rfl|rfl|rfl|rfl|rfl|rfl|rfl|rfl<;>simp[Value.oneCell']
 case D=>unfold maxLen;omega
 case E=>omega
 case F=>exact Nat.zero_le _
 case G=>
  intro v' w4 hown hgrow _ hat
  obtain⟨rb',cap',rfl⟩:=zAl hown (by omega)
  have hrm:=row_ne_m HR3.out HM3.out
  have HM4:=Lib.hid (show w4.heap[m]? =_ from(hgrow.block m (by simp;omega) (fun e=>hrm m e.symm rfl)).trans ((Below.heap_alloc w3 _ m (by omega)).trans HM3.out))
  have HG4:=Lib.hid (show w4.heap[g]? =w3.heap[g]? from(hgrow.block g (by simp;omega) (fun e=>HRG.out g e.symm rfl)).trans (Below.heap_alloc w3 _ g (by omega)))
  have HOWN:=Lib.hid hown
  have HAT:=Lib.hid hat
  have HGR:=Lib.hid hgrow
  clear hown hat hgrow hrm a0 a1 a2 a3 a4 b0 b1 b2 b3 b4 m0 m1 m2 fm0 fm1 fm2
  obtain⟨m0,m1,m2⟩:=zBN HM4.out
  obtain⟨fm0,fm1,fm2⟩:=froz3 HM4.out
  go_wp2
  refine⟨by kernel_rfl,?_⟩
  go_wp2
  go_ret
  refine⟨rfl,.slice (some ⟨rb',0,none⟩) (L.length+1) cap',?_,?_,?_⟩
  ·exact push_omap HM4.out HOWN.out HPUT.out HG4.out hmg HII.out HNO.out HWF.out HKW.out HVW.out
  ·exact push_mods (Mods.of_below HW2.out.drew.drew.drew) HMD.out ((Below.refl _ _).alloc (Nat.le_refl _) _).drew HGR.out (.inl rfl) (.inr (.inl rfl)) (fun b hb=> .inl (.inr (.inr hb)))
  ·intro b hb
   rcases HAT.out with h|h
   ·exact .inl (h.symm.trans hb)
   ·rw[h] at hb
    injection hb with hb
    subst hb
    exact .inr (by first|omega|(simp;omega))
theorem pomSet_push_drop (w:World) (m g cap:Nat) (rb:Nat) (L:List Sl) (E:List (Value×Value)) (f:V→Option Nat) (hm:w.heap[m]? =some (.cells #[.slice (some ⟨rb,0,none⟩) L.length cap,.map (some g),.int .i64 (liveN L:Nat)] 159))
  (hrow:w.ownsRow 0 161 11 (.slice (some ⟨rb,0,none⟩) L.length cap) L.length (rowSl L)) (hL:L.length≤1000) (hE:MapAt Tryz.prog 25 w g E) (hG:Graph E f) (hroom:liveN L+8<L.length-liveN L) (k1 p1 q1:Int) (s1:ByteArray) (r1:Int) (k2 p2 q2:Int) (s2:ByteArray) (r2:Int) (hkw:WfV ⟨k1,p1,q1,s1,r1⟩)
  (hvk:∀W,Calls Tryz.prog 36 #[.agg #[k1,p1,q1,s1,r1]] W (BoolPost W true)) (hvv:∀W,Calls Tryz.prog 36 #[.agg #[k2,p2,q2,s2,r2]] W (BoolPost W true)) (hk0:(k1==0)=false) (hI:Idx L f) (hno:NoLive L f ⟨k1,p1,q1,s1,r1⟩) (hwf:∀s∈L,WfV s.k∧WfV s.v) (hvw:WfV ⟨k2,p2,q2,s2,r2⟩) (hv0:(k2==0)=false)
  (hlk:∀W,W.heap[g]? =w.heap[g]? →(Instr.lookup 157 (.map (some g)) (.agg #[k1,p1,q1,s1,r1]) true).run Tryz.prog W= .ok (.tuple #[.int .i64 0,.bool false]) W):
  Calls Tryz.prog 173 #[.pointer (some ⟨m,0,none⟩),.agg #[k1,p1,q1,s1,r1],.agg #[k2,p2,q2,s2,r2]] w (OmPost w m g (.slice (some ⟨rb,0,none⟩) L.length cap) (dropM L++[⟨⟨k1,p1,q1,s1,r1⟩,⟨k2,p2,q2,s2,r2⟩,false⟩])):=by
 have HII:=Lib.hid hI
 have HNO:=Lib.hid hno
 have HWF:=Lib.hid hwf
 have HKW:=Lib.hid hkw
 have HVW:=Lib.hid hvw
 have HEG:=Lib.hid (And.intro hE hG)
 clear hI hno hwf hvw
 have hl2:=zBU L
 have hml:m<w.heap.size:=(Array.getElem?_eq_some_iff.1 hm).1
 have hg:g<w.heap.size:=hE.lt
 have hmg:m≠g:=fun e=>by
  obtain⟨es,c,he,_⟩:=id hE
  rw[←e,hm] at he
  cases he
 obtain⟨es0,c0,hgm,_⟩:=id hE
 have hrg:=row_ne hrow hgm
 have HGM:=Lib.hid hgm
 have HRG:=Lib.hid hrg
 have HST:=Lib.hid (put_at hE hG hkw)
 clear hgm hrg
 have HVK:=Lib.hid hvk
 have HVV:=Lib.hid hvv
 have HLK:=Lib.hid hlk
 clear hvk hvv hlk hE hG
 go_enter Tryz.func173,Tryz.ntmps173
 go_wp2_with fail
 refine(HVK.out _).mono ?_
 rintro e w1 ⟨rfl,hb⟩
 have HKB:=hkh hb (zAf _ _ _)
 have HVB:=hkh hb (zAW _ _ _)
 have HW1:=hbn (zAF _ _ _) hb
 have hz1:=hb.size
 simp at hz1
 clear hb
 obtain⟨b0,b1,b2,b3,b4⟩:=cells5 HVB.out
 go_wp2_with fail
 refine(HVV.out _).mono ?_
 rintro e w2 ⟨rfl,hb⟩
 have HKB2:=hkh hb HKB.out
 have HVB2:=hkh hb HVB.out
 have HW2:=hbn HW1.out hb
 have hz2:=hb.size
 have HMM:=hkh HW2.out hm
 have HROW:=Lib.hid (zAQ (zAa HW2.out (Nat.le_refl _)) hrow)
 have HGG:=Lib.hid (bw HW2.out hg)
 clear hb b0 b1 b2 b3 b4 HKB HVB
 obtain⟨a0,a1,a2,a3,a4⟩:=cells5 HKB2.out
 obtain⟨b0,b1,b2,b3,b4⟩:=cells5 HVB2.out
 obtain⟨m0,m1,m2⟩:=zBN HMM.out
 obtain⟨fm0,fm1,fm2⟩:=froz3 HMM.out
 go_wp2
 refine zAK mixed (by kernel_rfl) ?_
 go_wp2_with (at_lookup;refine zAr _ rfl _ _ _ _ rfl _ _ _ rfl rfl (HLK.out _ HGG.out) ?_)
 refine⟨by kernel_rfl,?_⟩
 go_wp2
 refine zAK mixed (by kernel_rfl) ?_
 go_wp2
 refine⟨by kernel_rfl,?_⟩
 go_wp2_with fail
 refine(pomDrop_c w2.drew.drew m g rb cap L E f HMM.out (zAZ HROW.out (fun _ _=>rfl)) hL (HEG.out.1.keep HGG.out) HEG.out.2 HII.out HWF.out).mono ?_
 rintro e wd ⟨rfl,soD,capD,hmD,hownD,⟨ED,hED,hGD⟩,hmodsD⟩
 have hzD:w2.heap.size≤wd.heap.size:=hmodsD.size
 have HKBD:=Lib.hid (zAj hmodsD HKB2.out (by omega))
 have HVBD:=Lib.hid (zAj hmodsD HVB2.out (by omega))
 have HWD:=Lib.hid (show Mods (OmF m g (.slice (some ⟨rb,0,none⟩) L.length cap)) w wd.drew from((Mods.of_below HW2.out.drew.drew).trans (Mods.mono (G:=OmF m g (.slice (some ⟨rb,0,none⟩) L.length cap)) hmodsD (fun k _ e=>e.elim Or.inl (fun h=>Or.inr (Or.inl h))))).trans (Mods.of_below (Below.refl _ wd).drew))
 have HMD0:=Lib.hid hmD
 have HROWD0:=Lib.hid (show wd.ownsRow w2.heap.size 161 11 _ _ _ from hownD)
 have HID:=Lib.hid HII.out.dropped
 have HND:=Lib.hid (HII.out.noLive_drop HNO.out)
 have hwfD:∀s∈dropM L,WfV s.k∧WfV s.v:=fun s hs=>HWF.out s (mem_drop.1 hs).1
 have hlv:liveN (dropM L)=liveN L:=by unfold liveN dropM;rw[List.filter_filter];congr 1;simp
 have hdl:=drop_len L
 rw[←hlv] at hmD
 obtain⟨LD,hLD⟩:∃LD,LD=dropM L:=⟨_,rfl⟩
 obtain⟨fD,hfD⟩:∃fD,fD=midF L f L.length:=⟨_,rfl⟩
 clear HEG HST HMM HROW HGG HII HNO HWF HGM HRG HLK HMD0 a0 a1 a2 a3 a4 b0 b1 b2 b3 b4 m0 m1 m2 fm0 fm1 fm2 hmodsD
 have HII:=HID
 have HNO:=HND
 clear HID HND
 have hl3:=zBU (dropM L)
 rw[←hLD] at hmD hownD HROWD0 HII HNO hwfD hdl hl3
 have HLD:=Lib.hid hLD
 rw[←hfD] at hGD HII HNO
 have HWF:=Lib.hid hwfD
 have HMMD:=Lib.hid hmD
 have HROWD:=Lib.hid (ownsRow_base hownD (Nat.zero_le _))
 obtain⟨esD,cD,hgmD,_⟩:=id hED
 have HRGD:=Lib.hid (row_ne hownD hgmD)
 have HST:=Lib.hid (put_at hED hGD hkw)
 clear hownD hED hGD hlv hLD hfD hmD hwfD hgmD
 obtain⟨a0,a1,a2,a3,a4⟩:=cells5 HKBD.out
 obtain⟨b0,b1,b2,b3,b4⟩:=cells5 HVBD.out
 obtain⟨m0,m1,m2⟩:=zBN HMMD.out
 obtain⟨fm0,fm1,fm2⟩:=froz3 HMMD.out
 go_wp2
 refine zAK mixed (by kernel_rfl) ?_
 go_wp2_with (at_mapUpdate;refine zBH _ rfl _ _ _ _ rfl _ _ _ rfl rfl rfl _ (HST.out LD.length _ rfl) ?_;intro w3 hw3)
 refine⟨by kernel_rfl,?_⟩
 go_wp2
 obtain⟨hput,hmods,hsz3⟩:=hw3
 have HPUT:=Lib.hid hput
 have HK3:=Lib.hid (zAj hmods (show(wd.drew).heap[w.heap.size]? =_ from HKBD.out) (by omega))
 have HV3:=Lib.hid (zAj hmods (show(wd.drew).heap[w.heap.size+1]? =_ from HVBD.out) (by omega))
 have HM3:=Lib.hid (zAj hmods (show(wd.drew).heap[m]? =_ from HMMD.out) hmg)
 have HR3:=Lib.hid (zAZ (w3:=w3) HROWD.out (fun b hb=>hmods.block b (zAS HROWD.out hb).2 (HRGD.out b hb)))
 have HMD:=Lib.hid hmods
 have hsz3':wd.heap.size≤w3.heap.size:=Nat.le_of_eq (Eq.symm hsz3)
 clear hput hmods hsz3 a0 a1 a2 a3 a4 b0 b1 b2 b3 b4 m0 m1 m2 fm0 fm1 fm2
 obtain⟨a0,a1,a2,a3,a4⟩:=cells5 HK3.out
 obtain⟨b0,b1,b2,b3,b4⟩:=cells5 HV3.out
 obtain⟨m0,m1,m2⟩:=zBN HM3.out
 obtain⟨fm0,fm1,fm2⟩:=froz3 HM3.out
 obtain⟨i6,hi6,hi6a,hi6b,hi6c⟩:=info_parts info161p
 refine zAK mixed (by kernel_rfl) ?_
 go_wp2_with (at_builtin;refine wpList_append_own_at _ rfl (.tmp 79) (.tmp 83) 156 rfl 0 161 i6 _ 11 104 Tryz.underlying156 hi6 hi6a hi6b hi6c rfl (by decide) (.slice soD LD.length capD) LD.length (rowSl LD) rfl ?A _ 1 1 [.int .i64 k1,.int .i64 p1,.int .i64 q1,.string s1,.int .i64 r1,.int .i64 k2,.int .i64 p2,.int .i64 q2,.string s2,.int .i64 r2,.bool false] rfl rfl ?B ?C ?D ?E ?F ?G)
 case A=>exact zAQ (zAa ((Below.refl _ _).alloc (Nat.le_refl _) _).drew (Nat.le_refl _)) HR3.out
 case B=>exact zBP _ _ _ _ _ _ _ _ _ _ _ _ _ _ rfl
 case C=>
  intro u hu
  simp only[List.mem_cons,List.not_mem_nil,or_false] at hu
  rcases hu with rfl|rfl|rfl|rfl|rfl|rfl|rfl|rfl|rfl|rfl|rfl<;>simp[Value.oneCell']
 case D=>unfold maxLen;omega
 case E=>omega
 case F=>exact Nat.zero_le _
 case G=>
  intro v' w4 hown hgrow _ hat
  obtain⟨rb',cap',rfl⟩:=zAl hown (by omega)
  have hrm:=row_ne_m HR3.out HM3.out
  have HM4:=Lib.hid (show w4.heap[m]? =_ from(hgrow.block m (by simp;omega) (fun e=>hrm m e.symm rfl)).trans ((Below.heap_alloc w3 _ m (by omega)).trans HM3.out))
  have HG4:=Lib.hid (show w4.heap[g]? =w3.heap[g]? from(hgrow.block g (by simp;omega) (fun e=>HRGD.out g e.symm rfl)).trans (Below.heap_alloc w3 _ g (by omega)))
  have HOWN:=Lib.hid hown
  have HAT:=Lib.hid hat
  have HGR:=Lib.hid hgrow
  clear hown hat hgrow hrm a0 a1 a2 a3 a4 b0 b1 b2 b3 b4 m0 m1 m2 fm0 fm1 fm2
  obtain⟨m0,m1,m2⟩:=zBN HM4.out
  obtain⟨fm0,fm1,fm2⟩:=froz3 HM4.out
  go_wp2
  refine⟨by kernel_rfl,?_⟩
  go_wp2
  go_ret
  rw[←HLD.out]
  refine⟨rfl,.slice (some ⟨rb',0,none⟩) (LD.length+1) cap',?_,?_,?_⟩
  ·exact push_omap HM4.out HOWN.out HPUT.out HG4.out hmg HII.out HNO.out HWF.out HKW.out HVW.out
  ·exact push_mods HWD.out HMD.out ((Below.refl _ _).alloc (Nat.le_refl _) _).drew HGR.out (.inl rfl) (.inr (.inl rfl)) (fun b hb=> .inr (by have:=(zAS HROWD0.out hb).1;omega))
  ·intro b hb
   rcases HAT.out with h|h
   ·exact .inr (by have:=(zAS HROWD0.out (h.symm.trans hb)).1;omega)
   ·rw[h] at hb
    injection hb with hb
    subst hb
    exact .inr (by first|omega|(simp;omega))
theorem pomSet_push_gone_drop (w:World) (m g cap:Nat) (rb:Nat) (L:List Sl) (E:List (Value×Value)) (f:V→Option Nat) (hm:w.heap[m]? =some (.cells #[.slice (some ⟨rb,0,none⟩) L.length cap,.map (some g),.int .i64 (liveN L:Nat)] 159))
  (hrow:w.ownsRow 0 161 11 (.slice (some ⟨rb,0,none⟩) L.length cap) L.length (rowSl L)) (hL:L.length≤1000) (hE:MapAt Tryz.prog 25 w g E) (hG:Graph E f) (hroom:liveN L+8<L.length-liveN L) (k1 p1 q1:Int) (s1:ByteArray) (r1:Int) (k2 p2 q2:Int) (s2:ByteArray) (r2:Int) (hkw:WfV ⟨k1,p1,q1,s1,r1⟩)
  (hvk:∀W,Calls Tryz.prog 36 #[.agg #[k1,p1,q1,s1,r1]] W (BoolPost W true)) (hvv:∀W,Calls Tryz.prog 36 #[.agg #[k2,p2,q2,s2,r2]] W (BoolPost W true)) (hk0:(k1==0)=false) (hI:Idx L f) (hno:NoLive L f ⟨k1,p1,q1,s1,r1⟩) (hwf:∀s∈L,WfV s.k∧WfV s.v) (hvw:WfV ⟨k2,p2,q2,s2,r2⟩) (hv0:(k2==0)=false) (n:Nat) (sl:Sl) (hsl:L[n]? =some sl) (hgf:sl.g=true)
  (hlk:∀W,W.heap[g]? =w.heap[g]? →(Instr.lookup 157 (.map (some g)) (.agg #[k1,p1,q1,s1,r1]) true).run Tryz.prog W= .ok (.tuple #[.int .i64 (n:Int),.bool true]) W):
  Calls Tryz.prog 173 #[.pointer (some ⟨m,0,none⟩),.agg #[k1,p1,q1,s1,r1],.agg #[k2,p2,q2,s2,r2]] w (OmPost w m g (.slice (some ⟨rb,0,none⟩) L.length cap) (dropM L++[⟨⟨k1,p1,q1,s1,r1⟩,⟨k2,p2,q2,s2,r2⟩,false⟩])):=by
 have HII:=Lib.hid hI
 have HNO:=Lib.hid hno
 have HWF:=Lib.hid hwf
 have HKW:=Lib.hid hkw
 have HVW:=Lib.hid hvw
 have HEG:=Lib.hid (And.intro hE hG)
 clear hI hno hwf hvw
 have hl2:=zBU L
 have hml:m<w.heap.size:=(Array.getElem?_eq_some_iff.1 hm).1
 have hg:g<w.heap.size:=hE.lt
 have hmg:m≠g:=fun e=>by
  obtain⟨es,c,he,_⟩:=id hE
  rw[←e,hm] at he
  cases he
 obtain⟨es0,c0,hgm,_⟩:=id hE
 have hrg:=row_ne hrow hgm
 have HGM:=Lib.hid hgm
 have HRG:=Lib.hid hrg
 have HST:=Lib.hid (put_at hE hG hkw)
 clear hgm hrg
 have HVK:=Lib.hid hvk
 have HVV:=Lib.hid hvv
 have HLK:=Lib.hid hlk
 clear hvk hvv hlk hE hG
 go_enter Tryz.func173,Tryz.ntmps173
 go_wp2_with fail
 refine(HVK.out _).mono ?_
 rintro e w1 ⟨rfl,hb⟩
 have HKB:=hkh hb (zAf _ _ _)
 have HVB:=hkh hb (zAW _ _ _)
 have HW1:=hbn (zAF _ _ _) hb
 have hz1:=hb.size
 simp at hz1
 clear hb
 obtain⟨b0,b1,b2,b3,b4⟩:=cells5 HVB.out
 go_wp2_with fail
 refine(HVV.out _).mono ?_
 rintro e w2 ⟨rfl,hb⟩
 have HKB2:=hkh hb HKB.out
 have HVB2:=hkh hb HVB.out
 have HW2:=hbn HW1.out hb
 have hz2:=hb.size
 have HMM:=hkh HW2.out hm
 have HROW:=Lib.hid (zAQ (zAa HW2.out (Nat.le_refl _)) hrow)
 have HGG:=Lib.hid (bw HW2.out hg)
 have hnl:n<L.length:=(List.getElem?_eq_some_iff.1 hsl).1
 have hgone:w2.cell? ⟨rb,n*11+10,none⟩=some (.bool sl.g):=(HROW.out.cellAt (n*11+10) (by omega)).trans (zAn L n 10 sl hsl (by decide))
 rw[hgf] at hgone
 clear hb b0 b1 b2 b3 b4 HKB HVB
 obtain⟨a0,a1,a2,a3,a4⟩:=cells5 HKB2.out
 obtain⟨b0,b1,b2,b3,b4⟩:=cells5 HVB2.out
 obtain⟨m0,m1,m2⟩:=zBN HMM.out
 obtain⟨fm0,fm1,fm2⟩:=froz3 HMM.out
 go_wp2
 refine zAK mixed (by kernel_rfl) ?_
 go_wp2_with (at_lookup;refine zAr _ rfl _ _ _ _ rfl _ _ _ rfl rfl (HLK.out _ HGG.out) ?_)
 refine⟨by kernel_rfl,?_⟩
 go_wp2
 refine zAK mixed (by kernel_rfl) ?_
 go_wp2
 refine⟨by kernel_rfl,?_⟩
 go_wp2_with fail
 refine(pomDrop_c w2.drew.drew m g rb cap L E f HMM.out (zAZ HROW.out (fun _ _=>rfl)) hL (HEG.out.1.keep HGG.out) HEG.out.2 HII.out HWF.out).mono ?_
 rintro e wd ⟨rfl,soD,capD,hmD,hownD,⟨ED,hED,hGD⟩,hmodsD⟩
 have hzD:w2.heap.size≤wd.heap.size:=hmodsD.size
 have HKBD:=Lib.hid (zAj hmodsD HKB2.out (by omega))
 have HVBD:=Lib.hid (zAj hmodsD HVB2.out (by omega))
 have HWD:=Lib.hid (show Mods (OmF m g (.slice (some ⟨rb,0,none⟩) L.length cap)) w wd.drew from((Mods.of_below HW2.out.drew.drew).trans (Mods.mono (G:=OmF m g (.slice (some ⟨rb,0,none⟩) L.length cap)) hmodsD (fun k _ e=>e.elim Or.inl (fun h=>Or.inr (Or.inl h))))).trans (Mods.of_below (Below.refl _ wd).drew))
 have HMD0:=Lib.hid hmD
 have HROWD0:=Lib.hid (show wd.ownsRow w2.heap.size 161 11 _ _ _ from hownD)
 have HID:=Lib.hid HII.out.dropped
 have HND:=Lib.hid (HII.out.noLive_drop HNO.out)
 have hwfD:∀s∈dropM L,WfV s.k∧WfV s.v:=fun s hs=>HWF.out s (mem_drop.1 hs).1
 have hlv:liveN (dropM L)=liveN L:=by unfold liveN dropM;rw[List.filter_filter];congr 1;simp
 have hdl:=drop_len L
 rw[←hlv] at hmD
 obtain⟨LD,hLD⟩:∃LD,LD=dropM L:=⟨_,rfl⟩
 obtain⟨fD,hfD⟩:∃fD,fD=midF L f L.length:=⟨_,rfl⟩
 clear HEG HST HMM HROW HGG HII HNO HWF HGM HRG HLK HMD0 a0 a1 a2 a3 a4 b0 b1 b2 b3 b4 m0 m1 m2 fm0 fm1 fm2 hmodsD
 have HII:=HID
 have HNO:=HND
 clear HID HND
 have hl3:=zBU (dropM L)
 rw[←hLD] at hmD hownD HROWD0 HII HNO hwfD hdl hl3
 have HLD:=Lib.hid hLD
 rw[←hfD] at hGD HII HNO
 have HWF:=Lib.hid hwfD
 have HMMD:=Lib.hid hmD
 have HROWD:=Lib.hid (ownsRow_base hownD (Nat.zero_le _))
 obtain⟨esD,cD,hgmD,_⟩:=id hED
 have HRGD:=Lib.hid (row_ne hownD hgmD)
 have HST:=Lib.hid (put_at hED hGD hkw)
 clear hownD hED hGD hlv hLD hfD hmD hwfD hgmD
 obtain⟨a0,a1,a2,a3,a4⟩:=cells5 HKBD.out
 obtain⟨b0,b1,b2,b3,b4⟩:=cells5 HVBD.out
 obtain⟨m0,m1,m2⟩:=zBN HMMD.out
 obtain⟨fm0,fm1,fm2⟩:=froz3 HMMD.out
 go_wp2
 refine zAK mixed (by kernel_rfl) ?_
 go_wp2_with (at_mapUpdate;refine zBH _ rfl _ _ _ _ rfl _ _ _ rfl rfl rfl _ (HST.out LD.length _ rfl) ?_;intro w3 hw3)
 refine⟨by kernel_rfl,?_⟩
 go_wp2
 obtain⟨hput,hmods,hsz3⟩:=hw3
 have HPUT:=Lib.hid hput
 have HK3:=Lib.hid (zAj hmods (show(wd.drew).heap[w.heap.size]? =_ from HKBD.out) (by omega))
 have HV3:=Lib.hid (zAj hmods (show(wd.drew).heap[w.heap.size+1]? =_ from HVBD.out) (by omega))
 have HM3:=Lib.hid (zAj hmods (show(wd.drew).heap[m]? =_ from HMMD.out) hmg)
 have HR3:=Lib.hid (zAZ (w3:=w3) HROWD.out (fun b hb=>hmods.block b (zAS HROWD.out hb).2 (HRGD.out b hb)))
 have HMD:=Lib.hid hmods
 have hsz3':wd.heap.size≤w3.heap.size:=Nat.le_of_eq (Eq.symm hsz3)
 clear hput hmods hsz3 a0 a1 a2 a3 a4 b0 b1 b2 b3 b4 m0 m1 m2 fm0 fm1 fm2
 obtain⟨a0,a1,a2,a3,a4⟩:=cells5 HK3.out
 obtain⟨b0,b1,b2,b3,b4⟩:=cells5 HV3.out
 obtain⟨m0,m1,m2⟩:=zBN HM3.out
 obtain⟨fm0,fm1,fm2⟩:=froz3 HM3.out
 obtain⟨i6,hi6,hi6a,hi6b,hi6c⟩:=info_parts info161p
 refine zAK mixed (by kernel_rfl) ?_
 go_wp2_with (at_builtin;refine wpList_append_own_at _ rfl (.tmp 79) (.tmp 83) 156 rfl 0 161 i6 _ 11 104 Tryz.underlying156 hi6 hi6a hi6b hi6c rfl (by decide) (.slice soD LD.length capD) LD.length (rowSl LD) rfl ?A _ 1 1 [.int .i64 k1,.int .i64 p1,.int .i64 q1,.string s1,.int .i64 r1,.int .i64 k2,.int .i64 p2,.int .i64 q2,.string s2,.int .i64 r2,.bool false] rfl rfl ?B ?C ?D ?E ?F ?G)
 case A=>exact zAQ (zAa ((Below.refl _ _).alloc (Nat.le_refl _) _).drew (Nat.le_refl _)) HR3.out
 case B=>exact zBP _ _ _ _ _ _ _ _ _ _ _ _ _ _ rfl
 case C=>
  intro u hu
  simp only[List.mem_cons,List.not_mem_nil,or_false] at hu
  rcases hu with rfl|rfl|rfl|rfl|rfl|rfl|rfl|rfl|rfl|rfl|rfl<;>simp[Value.oneCell']
 case D=>unfold maxLen;omega
 case E=>omega
 case F=>exact Nat.zero_le _
 case G=>
  intro v' w4 hown hgrow _ hat
  obtain⟨rb',cap',rfl⟩:=zAl hown (by omega)
  have hrm:=row_ne_m HR3.out HM3.out
  have HM4:=Lib.hid (show w4.heap[m]? =_ from(hgrow.block m (by simp;omega) (fun e=>hrm m e.symm rfl)).trans ((Below.heap_alloc w3 _ m (by omega)).trans HM3.out))
  have HG4:=Lib.hid (show w4.heap[g]? =w3.heap[g]? from(hgrow.block g (by simp;omega) (fun e=>HRGD.out g e.symm rfl)).trans (Below.heap_alloc w3 _ g (by omega)))
  have HOWN:=Lib.hid hown
  have HAT:=Lib.hid hat
  have HGR:=Lib.hid hgrow
  clear hown hat hgrow hrm a0 a1 a2 a3 a4 b0 b1 b2 b3 b4 m0 m1 m2 fm0 fm1 fm2
  obtain⟨m0,m1,m2⟩:=zBN HM4.out
  obtain⟨fm0,fm1,fm2⟩:=froz3 HM4.out
  go_wp2
  refine⟨by kernel_rfl,?_⟩
  go_wp2
  go_ret
  rw[←HLD.out]
  refine⟨rfl,.slice (some ⟨rb',0,none⟩) (LD.length+1) cap',?_,?_,?_⟩
  ·exact push_omap HM4.out HOWN.out HPUT.out HG4.out hmg HII.out HNO.out HWF.out HKW.out HVW.out
  ·exact push_mods HWD.out HMD.out ((Below.refl _ _).alloc (Nat.le_refl _) _).drew HGR.out (.inl rfl) (.inr (.inl rfl)) (fun b hb=> .inr (by have:=(zAS HROWD0.out hb).1;omega))
  ·intro b hb
   rcases HAT.out with h|h
   ·exact .inr (by have:=(zAS HROWD0.out (h.symm.trans hb)).1;omega)
   ·rw[h] at hb
    injection hb with hb
    subst hb
    exact .inr (by first|omega|(simp;omega))
theorem pomSet_none (w:World) (m g cap:Nat) (so:Option Addr) (L:List Sl) (E:List (Value×Value)) (f:V→Option Nat) (hm:w.heap[m]? =some (.cells #[.slice so L.length cap,.map (some g),.int .i64 (liveN L:Nat)] 159))
  (hrow:w.ownsRow 0 161 11 (.slice so L.length cap) L.length (rowSl L)) (hL:L.length≤1000) (hE:MapAt Tryz.prog 25 w g E) (hG:Graph E f) (k1 p1 q1:Int) (s1:ByteArray) (r1:Int) (k2 p2 q2:Int) (s2:ByteArray) (r2:Int) (hkw:WfV ⟨k1,p1,q1,s1,r1⟩)
  (hvk:∀W,Calls Tryz.prog 36 #[.agg #[k1,p1,q1,s1,r1]] W (BoolPost W true)) (hvv:∀W,Calls Tryz.prog 36 #[.agg #[k2,p2,q2,s2,r2]] W (BoolPost W true)) (hk0:(k1==0)=false) (hI:Idx L f) (hv0:(k2==0)=true)
  (hlk:∀W,W.heap[g]? =w.heap[g]? →(Instr.lookup 157 (.map (some g)) (.agg #[k1,p1,q1,s1,r1]) true).run Tryz.prog W= .ok (.tuple #[.int .i64 0,.bool false]) W):
  Calls Tryz.prog 173 #[.pointer (some ⟨m,0,none⟩),.agg #[k1,p1,q1,s1,r1],.agg #[k2,p2,q2,s2,r2]] w (fun e w'=>e= .returned (.int .i64 0)∧Below w.heap.size w w'):=by
 have hl2:=zBU L
 have hml:m<w.heap.size:=(Array.getElem?_eq_some_iff.1 hm).1
 have hg:g<w.heap.size:=hE.lt
 have hmg:m≠g:=fun e=>by
  obtain⟨es,c,he,_⟩:=id hE
  rw[←e,hm] at he
  cases he
 obtain⟨es0,c0,hgm,_⟩:=id hE
 have hrg:=row_ne hrow hgm
 have HGM:=Lib.hid hgm
 have HRG:=Lib.hid hrg
 have HST:=Lib.hid (put_at hE hG hkw)
 clear hgm hrg
 have HVK:=Lib.hid hvk
 have HVV:=Lib.hid hvv
 have HLK:=Lib.hid hlk
 clear hvk hvv hlk hE hG
 go_enter Tryz.func173,Tryz.ntmps173
 go_wp2_with fail
 refine(HVK.out _).mono ?_
 rintro e w1 ⟨rfl,hb⟩
 have HKB:=hkh hb (zAf _ _ _)
 have HVB:=hkh hb (zAW _ _ _)
 have HW1:=hbn (zAF _ _ _) hb
 have hz1:=hb.size
 simp at hz1
 clear hb
 obtain⟨b0,b1,b2,b3,b4⟩:=cells5 HVB.out
 go_wp2_with fail
 refine(HVV.out _).mono ?_
 rintro e w2 ⟨rfl,hb⟩
 have HKB2:=hkh hb HKB.out
 have HVB2:=hkh hb HVB.out
 have HW2:=hbn HW1.out hb
 have hz2:=hb.size
 have HMM:=hkh HW2.out hm
 have HROW:=Lib.hid (zAQ (zAa HW2.out (Nat.le_refl _)) hrow)
 have HGG:=Lib.hid (bw HW2.out hg)
 clear hb b0 b1 b2 b3 b4 HKB HVB
 obtain⟨a0,a1,a2,a3,a4⟩:=cells5 HKB2.out
 obtain⟨b0,b1,b2,b3,b4⟩:=cells5 HVB2.out
 obtain⟨m0,m1,m2⟩:=zBN HMM.out
 obtain⟨fm0,fm1,fm2⟩:=froz3 HMM.out
 go_wp2
 refine zAK mixed (by kernel_rfl) ?_
 go_wp2_with (at_lookup;refine zAr _ rfl _ _ _ _ rfl _ _ _ rfl rfl (HLK.out _ HGG.out) ?_)
 refine⟨by kernel_rfl,?_⟩
 go_wp2
 go_ret
 exact⟨rfl,HW2.out.drew⟩
end Go.Proofs.YthkpckgcgkijbaaGreatDoor
