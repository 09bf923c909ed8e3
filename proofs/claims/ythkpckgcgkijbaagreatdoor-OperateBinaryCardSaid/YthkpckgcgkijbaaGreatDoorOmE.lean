import Derived.Test.YthkpckgcgkijbaaGreatDoorOpD
import Derived.Test.YthkpckgcgkijbaaGreatDoorMapL
set_option linter.unusedVariables false
set_option linter.unusedSimpArgs false
set_option maxRecDepth 100000
set_option maxHeartbeats 2000000
namespace Go.Proofs.YthkpckgcgkijbaaGreatDoor
open Go.RowKit Go.Proofs.Lexi Go.Proofs.Tryz
theorem Dq (w:World) (m g rb cap:Nat) (L:List Sl) (E:List (Value×Value)) (f:V->Option Nat) (hm:w.heap[m]? =some (.cells #[.slice (some rb) L.length cap,.map (some g),.int .i64 (Q1 L:Nat)] 159))
  (hrow:w.ownsRow 0 161 11 (.slice (some rb) L.length cap) L.length (ZA L)) (hL:L.length<=1000) (hE:MapAt prog 25 w g E) (hG:Graph E f) (hI:Idx L f) (hwf:∀s∈L,WfV s.k/\WfV s.v):
  Calls prog 225 #[m] w (DropPost w m g L f):=by
 have hml:m<w:=(Array.getElem?_eq_some_iff.1 hm).1;have hg:g<w:=hE.lt;have hmg:m≠g:=fun e=>by
  obtain⟨es,c,he,_⟩:=id hE;rw[<-e,hm] at he;cases he
 have hrg:rb≠g:=by
  obtain⟨es0,c0,hgm,_⟩:=id hE;exact GO hrow hgm rb rfl
 have hrl:rb<w:=(QS hrow rfl).2;have HM:=zh hm;have HROW:=zh hrow;have HI:=zh hI;have HWF:=zh hwf;have HS0:=zh (show DropRel w g L f L.length (.slice none 0 0) (.int .i64 0) w from⟨0,0,none,rfl,by rw[List.take_zero];rfl,rfl,Nat.zero_le _,by rw[List.take_zero];exact World.ownsRow_nil _ _ _ _,⟨E,hE,by rw[Cl];exact hG⟩,Mods.refl _ _⟩);obtain⟨m0,m1,m2⟩:=zc3 hm;clear hrow hI hwf hE hG hm;go_enter func225,ntmps225;go_wp2
 go_loopg [2,10] L.length (fun gg vl vi wr=>DropRel w g L f gg vl vi wr)
 case atStart=>exact HS0.out
 case round=>
  clear HS0 m0 m1 m2;obtain⟨i,cap2,so2,rfl,rfl,rfl,hi,hown,⟨E2,hE2,hG2⟩,hmods⟩:=hrel;have HMr:=zh (Qn hmods HM.out hmg);have hrowr:=Qb (w3:=wr) HROW.out (fun b hb=>by injection hb with hb;subst hb;exact hmods.block _ hrl hrg);have hsz:=hmods.size;have hmr:m<wr:=Nat.lt_of_lt_of_le hml hsz;have hrr:rb<wr:=Nat.lt_of_lt_of_le hrl hsz;have HOWN:=zh hown;have HMD:=zh hmods;have hdl:=Ki (L.take i);rw[List.length_take] at hdl;clear hown hmods;obtain⟨m0,m1,m2⟩:=zc3 HMr;obtain⟨fm0,fm1,fm2⟩:=zf3 HMr;by_cases hlt:i<L.length
  ·obtain⟨sl,hsl⟩:∃sl,L[i]? =some sl:=⟨_,List.getElem?_eq_getElem hlt⟩
   have rc0:wr.cell? ⟨rb,i*11,none⟩=some (.int .i64 sl.k.k):=(hrowr.cellAt (i*11+0) (by omega)).trans (Qk L i 0 sl hsl (by decide));have rc1:wr.cell? ⟨rb,i*11+1,none⟩=some (.int .i64 sl.k.p):=(hrowr.cellAt (i*11+1) (by omega)).trans (Qk L i 1 sl hsl (by decide));have rc2:wr.cell? ⟨rb,i*11+2,none⟩=some (.int .i64 sl.k.q):=(hrowr.cellAt (i*11+2) (by omega)).trans (Qk L i 2 sl hsl (by decide));have rc3:wr.cell? ⟨rb,i*11+3,none⟩=some (.string sl.k.s):=(hrowr.cellAt (i*11+3) (by omega)).trans (Qk L i 3 sl hsl (by decide));have rc4:wr.cell? ⟨rb,i*11+4,none⟩=some (.int .i64 sl.k.r):=(hrowr.cellAt (i*11+4) (by omega)).trans (Qk L i 4 sl hsl (by decide));have rc5:wr.cell? ⟨rb,i*11+5,none⟩=some (.int .i64 sl.v.k):=(hrowr.cellAt (i*11+5) (by omega)).trans (Qk L i 5 sl hsl (by decide));have rc6:wr.cell? ⟨rb,i*11+6,none⟩=some (.int .i64 sl.v.p):=(hrowr.cellAt (i*11+6) (by omega)).trans (Qk L i 6 sl hsl (by decide));have rc7:wr.cell? ⟨rb,i*11+7,none⟩=some (.int .i64 sl.v.q):=(hrowr.cellAt (i*11+7) (by omega)).trans (Qk L i 7 sl hsl (by decide));have rc8:wr.cell? ⟨rb,i*11+8,none⟩=some (.string sl.v.s):=(hrowr.cellAt (i*11+8) (by omega)).trans (Qk L i 8 sl hsl (by decide));have rc9:wr.cell? ⟨rb,i*11+9,none⟩=some (.int .i64 sl.v.r):=(hrowr.cellAt (i*11+9) (by omega)).trans (Qk L i 9 sl hsl (by decide));have rc10:wr.cell? ⟨rb,i*11+10,none⟩=some (.bool sl.g):=(hrowr.cellAt (i*11+10) (by omega)).trans (Qk L i 10 sl hsl (by decide));have hkw:=(HWF.out sl (List.mem_of_getElem? hsl)).1;cases hgf:sl.g with
   |true=>
    rw[hgf] at rc10;obtain⟨x,hx⟩:∃x:Nat,x=(Kn L f i sl.k).getD 0:=⟨_,rfl⟩
    have hlk:=MX hE2 hG2 hkw;rw[<-hx] at hlk;have HLK:=zh hlk;have HDL:=zh (Rc hE2 hG2 hkw);have HEG:=zh (show∃E,MapAt prog 25 wr g E/\Graph E (Kn L f i) from⟨E2,hE2,hG2⟩);have HSL:=zh hsl;have HX:=zh hx;clear hlk hE2 hG2 hx hrowr hkw hsl;by_cases hxi:x=i
    ·have tx:(((x:Nat):Int)==(i:Nat))=true:=by rw[hxi];simp
     have HN:=zh (Cz HI.out HSL.out hgf (by rw[<-HX.out];exact hxi));have HDR:=zh (YE HSL.out hgf);clear hgf hxi;go_wp2;refine QK mixed (by kernel_rfl) ?_;go_wp2_with (at_lookup;refine Qv _ rfl _ _ _ _ rfl _ _ _ rfl rfl (HLK.out _ (Below.heap_alloc wr _ g (by omega))) ?_)
     refine⟨by kernel_rfl,?_⟩;go_wp2;refine QK mixed (by kernel_rfl) ?_;go_wp2_with (at_delete;refine XJ _ rfl _ _ _ _ rfl _ _ rfl rfl _ (HDL.out _ _ (Below.heap_alloc wr _ g (by omega))) ?_;intro w3 hw3)
     refine⟨by kernel_rfl,?_⟩;go_wp2;obtain⟨hput,hmods,hsz3⟩:=hw3;simp at hsz3
     go_roundg (L.length-(i+1))
     case measure=>omega
     case rel=>
      have hb:Below wr wr (wr.alloc (.cells #[.int .i64 sl.k.k,.int .i64 sl.k.p,.int .i64 sl.k.q,.string sl.k.s,.int .i64 sl.k.r,.int .i64 sl.v.k,.int .i64 sl.v.p,.int .i64 sl.v.q,.string sl.v.s,.int .i64 sl.v.r,.bool true] 161)).drew.drew:=((Below.refl _ _).alloc zl _).drew.drew;refine⟨i+1,cap2,so2,rfl,by rw[HDR.out],rfl,by omega,PV (Qb (w3:=w3) HOWN.out (fun b hb2=> ?_)) HDR.out,by rw[HN.out];exact hput,?_⟩
      ·have h1:=QS HOWN.out hb2;exact(hmods.block b (by simp;omega) (by omega)).trans (hb.block b h1.2)
      ·exact(HMD.out.trans (Mods.of_below hb)).trans hmods
    ·have tx:(((x:Nat):Int)==(i:Nat))=false:=by rw[beq_eq_false_iff_ne];omega
     have HN:=zh (Sj HI.out HSL.out hgf (by rw[<-HX.out];exact hxi));have HDR:=zh (YE HSL.out hgf);clear hgf hxi;go_wp2;refine QK mixed (by kernel_rfl) ?_;go_wp2_with (at_lookup;refine Qv _ rfl _ _ _ _ rfl _ _ _ rfl rfl (HLK.out _ (Below.heap_alloc wr _ g (by omega))) ?_)
     refine⟨by kernel_rfl,?_⟩;go_wp2
     go_roundg (L.length-(i+1))
     case measure=>omega
     case rel=>
      have hb:Below wr wr (wr.alloc (.cells #[.int .i64 sl.k.k,.int .i64 sl.k.p,.int .i64 sl.k.q,.string sl.k.s,.int .i64 sl.k.r,.int .i64 sl.v.k,.int .i64 sl.v.p,.int .i64 sl.v.q,.string sl.v.s,.int .i64 sl.v.r,.bool true] 161)).drew:=((Below.refl _ _).alloc zl _).drew;obtain⟨E3,h3,h4⟩:=HEG.out;refine⟨i+1,cap2,so2,rfl,by rw[HDR.out],rfl,by omega,PV (QR (QV hb zl) HOWN.out) HDR.out,⟨E3,h3.keep (hb.block g (by omega)),by rw[HN.out];exact h4⟩,HMD.out.trans (Mods.of_below hb)⟩
   |false=>
    rw[hgf] at rc10;have HN:=zh (Cm HI.out hsl hgf);have HST:=zh (Yk hE2 hG2 hkw);have HDR:=zh (Xq hsl hgf);clear hE2 hG2 hrowr hkw;go_wp2;refine QK mixed (by kernel_rfl) ?_;go_wp2_with (at_mapUpdate;refine ZE _ rfl _ _ _ _ rfl _ _ _ rfl rfl rfl _ (HST.out (Qq (L.take i)).length _ (Below.heap_alloc wr _ g (by omega))) ?_;intro w3 hw3)
    refine⟨by kernel_rfl,?_⟩;obtain⟨hput,hmods,hsz3⟩:=hw3;have hsz3':wr.heap.size+1<=w3.heap.size:=by
     rw[hsz3];simp
    have HBX:=zh (Qn hmods (show(wr.alloc (.cells #[.int .i64 sl.k.k,.int .i64 sl.k.p,.int .i64 sl.k.q,.string sl.k.s,.int .i64 sl.k.r,.int .i64 sl.v.k,.int .i64 sl.v.p,.int .i64 sl.v.q,.string sl.v.s,.int .i64 sl.v.r,.bool false] 161)).drew.heap[wr.heap.size]? =_ from Qg wr (.cells #[.int .i64 sl.k.k,.int .i64 sl.k.p,.int .i64 sl.k.q,.string sl.k.s,.int .i64 sl.k.r,.int .i64 sl.v.k,.int .i64 sl.v.p,.int .i64 sl.v.q,.string sl.v.s,.int .i64 sl.v.r,.bool false] 161)) (by omega));have HM3:=zh (Qn hmods (show(wr.alloc (.cells #[.int .i64 sl.k.k,.int .i64 sl.k.p,.int .i64 sl.k.q,.string sl.k.s,.int .i64 sl.k.r,.int .i64 sl.v.k,.int .i64 sl.v.p,.int .i64 sl.v.q,.string sl.v.s,.int .i64 sl.v.r,.bool false] 161)).drew.heap[m]? =_ from(Below.heap_alloc wr _ m hmr).trans HMr.out) hmg);have hb:Below wr wr (wr.alloc (.cells #[.int .i64 sl.k.k,.int .i64 sl.k.p,.int .i64 sl.k.q,.string sl.k.s,.int .i64 sl.k.r,.int .i64 sl.v.k,.int .i64 sl.v.p,.int .i64 sl.v.q,.string sl.v.s,.int .i64 sl.v.r,.bool false] 161)).drew:=((Below.refl _ _).alloc zl _).drew;have HO3:=zh (Qb (w3:=w3) HOWN.out (fun b hb2=>(hmods.block b (by have:=(QS HOWN.out hb2).2;simp;omega) (by have:=(QS HOWN.out hb2).1;omega)).trans (hb.block b (QS HOWN.out hb2).2)));have HMD3:=zh ((HMD.out.trans (Mods.of_below hb)).trans hmods);have HPUT:=zh hput;have hmr3:m<w3:=by omega
    clear hput hmods hsz3 hb m0 m1 m2 fm0 fm1 fm2 rc0 rc1 rc2 rc3 rc4 rc5 rc6 rc7 rc8 rc9 rc10;obtain⟨b0,b1,b2,b3,b4,b5,b6,b7,b8,b9,b10⟩:=zc11 HBX;obtain⟨m0,m1,m2⟩:=zc3 HM3;obtain⟨fm0,fm1,fm2⟩:=zf3 HM3;obtain⟨i6,hi6,hi6a,hi6b,hi6c⟩:=info_parts YA;go_wp2_with (at_builtin;refine wpList_append_own_at _ rfl (.tmp 40) (.tmp 42) 156 rfl w.heap.size 161 i6 _ 11 104 underlying156 hi6 hi6a hi6b hi6c rfl (by decide) (.slice so2 (Qq (L.take i)).length cap2) (Qq (L.take i)).length (ZA (Qq (L.take i))) rfl ?A _ 1 1 [.int .i64 sl.k.k,.int .i64 sl.k.p,.int .i64 sl.k.q,.string sl.k.s,.int .i64 sl.k.r,.int .i64 sl.v.k,.int .i64 sl.v.p,.int .i64 sl.v.q,.string sl.v.s,.int .i64 sl.v.r,.bool false] rfl rfl ?B ?C ?D ?E ?F ?G)
    case A=>exact QR (QV ((Below.refl _ _).alloc zl _) zl) HO3.out
    case B=>exact J6 _ _ _ _ _ _ _ _ _ _ _ _ _ _ rfl
    case C=>
     intro u hu;simp only[List.mem_cons,List.not_mem_nil,or_false] at hu;rcases hu with rfl|rfl|rfl|rfl|rfl|rfl|rfl|rfl|rfl|rfl|rfl<;>simp[Value.oneCell']
    case D=>unfold maxLen;omega
    case E=>omega
    case F=>first|omega|(simp;omega)
    case G=>
     intro v' w4 hown hgrow _ hat;obtain⟨rb',cap',rfl⟩:=Qh hown (by omega);have hsz4:=hgrow.size;simp at hsz4;have HOWN4:=zh hown;have HGR:=zh hgrow;clear hown hgrow hat b0 b1 b2 b3 b4 b5 b6 b7 b8 b9 b10;go_wp2
     go_roundg (L.length-(i+1))
     case measure=>omega
     case rel=>
      have hlen:(Qq (L.take (i+1))).length=(Qq (L.take i)).length+1:=by rw[HDR.out,List.length_append];rfl
      have hrow4:ZA (Qq (L.take (i+1)))=ZA (Qq (L.take i))++[.int .i64 sl.k.k,.int .i64 sl.k.p,.int .i64 sl.k.q,.string sl.k.s,.int .i64 sl.k.r,.int .i64 sl.v.k,.int .i64 sl.v.p,.int .i64 sl.v.q,.string sl.v.s,.int .i64 sl.v.r,.bool false]:=by
       rw[HDR.out,KF];unfold ZP;rw[hgf]
      have hne:∀b,b<w.heap.size->some b≠(Value.slice so2 (Qq (L.take i)).length cap2).ownBlock:=fun b hb e=>by
       have:=(QS HO3.out e.symm).1;omega
      have h4:∀b,b<w.heap.size->w4.heap[b]? =w3.heap[b]? :=fun b hb=>(HGR.out.block b (by simp;omega) (hne b hb)).trans (Below.heap_alloc w3 _ b (by omega));obtain⟨E3,h5,h6⟩:=HPUT.out;refine⟨i+1,cap',some ⟨rb',0,none⟩,rfl,by rw[hlen],rfl,by omega,by rw[hlen,hrow4];exact HOWN4.out,⟨E3,h5.keep (h4 g hg),by rw[HN.out];exact h6⟩,?_⟩;exact⟨HGR.out.os.trans HMD3.out.os,HGR.out.tape.trans HMD3.out.tape,HGR.out.output.trans HMD3.out.output,by omega,fun b hb hF=>(h4 b hb).trans (HMD3.out.block b hb hF)⟩
  ·obtain rfl:i=L.length:=by omega
   have HEG:=zh (show∃E,MapAt prog 25 wr g E/\Graph E (Kn L f L.length) from⟨E2,hE2,hG2⟩);clear hE2 hG2 hrowr;go_wp2;refine zr (by simp[results,results225,go_sem]<;>rfl) ?_;have hown:=HOWN.out;rw[List.take_length] at hown;obtain⟨E3,h3,h4⟩:=HEG.out;refine⟨rfl,so2,cap2,Ql HMr.out 0 _,Qb hown (fun b hb=>Below.heap_setCell _ _ _ _ (show b≠m by have:=(QS hown hb).1;omega)),⟨E3,h3.keep (Below.heap_setCell _ _ _ _ (show g≠m by omega)),h4⟩,QQ (HMD.out.mono (fun k _ e=> .inr e)) (.inl (.inl rfl)) _⟩
theorem Yz (w:World) (m g cap:Nat) (rb:Nat) (L:List Sl) (E:List (Value×Value)) (f:V->Option Nat) (hm:w.heap[m]? =some (.cells #[.slice (some rb) L.length cap,.map (some g),.int .i64 (Q1 L:Nat)] 159))
  (hrow:w.ownsRow 0 161 11 (.slice (some rb) L.length cap) L.length (ZA L)) (hL:L.length<=1000) (hE:MapAt prog 25 w g E) (hG:Graph E f) (hroom:¬Q1 L+8<L.length-Q1 L) (k1 p1 q1:Int) (s1:ByteArray) (r1:Int) (k2 p2 q2:Int) (s2:ByteArray) (r2:Int) (hkw:WfV ⟨k1,p1,q1,s1,r1⟩)
  (hvk:∀W,Calls prog 36 #[.agg #[k1,p1,q1,s1,r1]] W (BoolPost W true)) (hvv:∀W,Calls prog 36 #[.agg #[k2,p2,q2,s2,r2]] W (BoolPost W true)) (hk0:(k1==0)=false) (hI:Idx L f) (hno:NoLive L f ⟨k1,p1,q1,s1,r1⟩) (hwf:∀s∈L,WfV s.k/\WfV s.v) (hvw:WfV ⟨k2,p2,q2,s2,r2⟩) (hv0:(k2==0)=false) (n:Nat) (sl:Sl) (hsl:L[n]? =some sl) (hgf:sl.g=true)
  (hlk:∀W,W.heap[g]? =w.heap[g]? ->(Instr.lookup 157 (.map (some g)) (.agg #[k1,p1,q1,s1,r1]) true).run prog W= .ok (.tuple #[.int .i64 (n:Int),.bool true]) W):
  Calls prog 173 #[m,.agg #[k1,p1,q1,s1,r1],.agg #[k2,p2,q2,s2,r2]] w (OmPost w m g (.slice (some rb) L.length cap) (L++[⟨⟨k1,p1,q1,s1,r1⟩,⟨k2,p2,q2,s2,r2⟩,false⟩])):=by
 have HII:=zh hI;have HNO:=zh hno;have HWF:=zh hwf;have HKW:=zh hkw;have HVW:=zh hvw;have HEG:=zh (And.intro hE hG);clear hI hno hwf hvw;have hl2:=ZR L;have hml:m<w:=(Array.getElem?_eq_some_iff.1 hm).1;have hg:g<w:=hE.lt;have hmg:m≠g:=fun e=>by
  obtain⟨es,c,he,_⟩:=id hE;rw[<-e,hm] at he;cases he
 obtain⟨es0,c0,hgm,_⟩:=id hE;have hrg:=GO hrow hgm;have HGM:=zh hgm;have HRG:=zh hrg;have HST:=zh (Yk hE hG hkw);clear hgm hrg;have HVK:=zh hvk;have HVV:=zh hvv;have HLK:=zh hlk;clear hvk hvv hlk hE hG;go_enter func173,ntmps173;go_wp2_with fail
 refine(HVK.out _).mono ?_;rintro e w1 ⟨rfl,hb⟩;have HKB:=hkh hb (Qm _ _ _);have HVB:=hkh hb (QY _ _ _);have HW1:=hbn (QE _ _ _) hb;have hz1:=hb.size;simp at hz1;clear hb;obtain⟨b0,b1,b2,b3,b4⟩:=zc5 HVB;go_wp2_with fail
 refine(HVV.out _).mono ?_;rintro e w2 ⟨rfl,hb⟩;have HKB2:=hkh hb HKB;have HVB2:=hkh hb HVB;have HW2:=hbn HW1 hb;have hz2:=hb.size;have HMM:=hkh HW2.out hm;have HROW:=zh (QR (QV HW2.out zl) hrow);have HGG:=zh (bw HW2.out hg);have hnl:n<L.length:=(List.getElem?_eq_some_iff.1 hsl).1;have hgone:w2.cell? ⟨rb,n*11+10,none⟩=some (.bool sl.g):=(HROW.out.cellAt (n*11+10) (by omega)).trans (Qk L n 10 sl hsl (by decide));rw[hgf] at hgone;clear hb b0 b1 b2 b3 b4 HKB HVB;obtain⟨a0,a1,a2,a3,a4⟩:=zc5 HKB2;obtain⟨b0,b1,b2,b3,b4⟩:=zc5 HVB2;obtain⟨m0,m1,m2⟩:=zc3 HMM;obtain⟨fm0,fm1,fm2⟩:=zf3 HMM;go_wp2;refine QK mixed (by kernel_rfl) ?_;go_wp2_with (at_lookup;refine Qv _ rfl _ _ _ _ rfl _ _ _ rfl rfl (HLK.out _ HGG.out) ?_)
 refine⟨by kernel_rfl,?_⟩;go_wp2;refine QK mixed (by kernel_rfl) ?_;go_wp2;refine⟨by kernel_rfl,?_⟩;go_wp2;refine QK mixed (by kernel_rfl) ?_;go_wp2_with (at_mapUpdate;refine ZE _ rfl _ _ _ _ rfl _ _ _ rfl rfl rfl _ (HST.out L.length _ HGG.out) ?_;intro w3 hw3)
 refine⟨by kernel_rfl,?_⟩;go_wp2;obtain⟨hput,hmods,hsz3⟩:=hw3;have HPUT:=zh hput;have HK3:=zh (Qn hmods (show(w2.drew.drew.drew).heap[w.heap.size]? =_ from HKB2.out) (by omega));have HV3:=zh (Qn hmods (show(w2.drew.drew.drew).heap[w.heap.size+1]? =_ from HVB2.out) (by omega));have HM3:=zh (Qn hmods (show(w2.drew.drew.drew).heap[m]? =_ from HMM.out) hmg);have HR3:=zh (Qb (w3:=w3) HROW.out (fun b hb=>hmods.block b (QS HROW.out hb).2 (HRG.out b hb)));have HMD:=zh hmods;have hsz3':w2.heap.size<=w3.heap.size:=Nat.le_of_eq (Eq.symm hsz3);clear hput hmods hsz3 a0 a1 a2 a3 a4 b0 b1 b2 b3 b4 m0 m1 m2 fm0 fm1 fm2;obtain⟨a0,a1,a2,a3,a4⟩:=zc5 HK3;obtain⟨b0,b1,b2,b3,b4⟩:=zc5 HV3;obtain⟨m0,m1,m2⟩:=zc3 HM3;obtain⟨fm0,fm1,fm2⟩:=zf3 HM3;obtain⟨i6,hi6,hi6a,hi6b,hi6c⟩:=info_parts YA;refine QK mixed (by kernel_rfl) ?_;go_wp2_with (at_builtin;refine wpList_append_own_at _ rfl (.tmp 79) (.tmp 83) 156 rfl 0 161 i6 _ 11 104 underlying156 hi6 hi6a hi6b hi6c rfl (by decide) (.slice (some rb) L.length cap) L.length (ZA L) rfl ?A _ 1 1 [.int .i64 k1,.int .i64 p1,.int .i64 q1,.string s1,.int .i64 r1,.int .i64 k2,.int .i64 p2,.int .i64 q2,.string s2,.int .i64 r2,.bool false] rfl rfl ?B ?C ?D ?E ?F ?G)
 case A=>exact QR (QV ((Below.refl _ _).alloc zl _).drew zl) HR3.out
 case B=>exact ZM _ _ _ _ _ _ _ _ _ _ _ _ _ _ rfl
 case C=>
  intro u hu;simp only[List.mem_cons,List.not_mem_nil,or_false] at hu;rcases hu with rfl|rfl|rfl|rfl|rfl|rfl|rfl|rfl|rfl|rfl|rfl<;>simp[Value.oneCell']
 case D=>unfold maxLen;omega
 case E=>omega
 case F=>exact Nat.zero_le _
 case G=>
  intro v' w4 hown hgrow _ hat;obtain⟨rb',cap',rfl⟩:=Qh hown (by omega);have hrm:=Y3 HR3.out HM3.out;have HM4:=zh (show w4.heap[m]? =_ from(hgrow.block m (by simp;omega) (fun e=>hrm m e.symm rfl)).trans ((Below.heap_alloc w3 _ m (by omega)).trans HM3.out));have HG4:=zh (show w4.heap[g]? =w3.heap[g]? from(hgrow.block g (by simp;omega) (fun e=>HRG.out g e.symm rfl)).trans (Below.heap_alloc w3 _ g (by omega)));have HOWN:=zh hown;have HAT:=zh hat;have HGR:=zh hgrow;clear hown hat hgrow hrm a0 a1 a2 a3 a4 b0 b1 b2 b3 b4 m0 m1 m2 fm0 fm1 fm2;obtain⟨m0,m1,m2⟩:=zc3 HM4;obtain⟨fm0,fm1,fm2⟩:=zf3 HM4;go_wp2;refine⟨by kernel_rfl,?_⟩;go_wp2
  go_ret
  refine⟨rfl,.slice (some rb') (L.length+1) cap',?_,?_,?_⟩
  ·exact Gv HM4.out HOWN.out HPUT.out HG4.out hmg HII.out HNO.out HWF.out HKW.out HVW.out
  ·exact Gw (Mods.of_below HW2.out.drew.drew.drew) HMD.out ((Below.refl _ _).alloc zl _).drew HGR.out (.inl rfl) (.inr (.inl rfl)) (fun b hb=> .inl (.inr (.inr hb)))
  ·intro b hb;rcases HAT.out with h|h
   ·exact .inl (h.symm.trans hb)
   ·rw[h] at hb;injection hb with hb;subst hb;exact .inr (by first|omega|(simp;omega))
theorem Y0 (w:World) (m g cap:Nat) (rb:Nat) (L:List Sl) (E:List (Value×Value)) (f:V->Option Nat) (hm:w.heap[m]? =some (.cells #[.slice (some rb) L.length cap,.map (some g),.int .i64 (Q1 L:Nat)] 159))
  (hrow:w.ownsRow 0 161 11 (.slice (some rb) L.length cap) L.length (ZA L)) (hL:L.length<=1000) (hE:MapAt prog 25 w g E) (hG:Graph E f) (hroom:Q1 L+8<L.length-Q1 L) (k1 p1 q1:Int) (s1:ByteArray) (r1:Int) (k2 p2 q2:Int) (s2:ByteArray) (r2:Int) (hkw:WfV ⟨k1,p1,q1,s1,r1⟩)
  (hvk:∀W,Calls prog 36 #[.agg #[k1,p1,q1,s1,r1]] W (BoolPost W true)) (hvv:∀W,Calls prog 36 #[.agg #[k2,p2,q2,s2,r2]] W (BoolPost W true)) (hk0:(k1==0)=false) (hI:Idx L f) (hno:NoLive L f ⟨k1,p1,q1,s1,r1⟩) (hwf:∀s∈L,WfV s.k/\WfV s.v) (hvw:WfV ⟨k2,p2,q2,s2,r2⟩) (hv0:(k2==0)=false)
  (hlk:∀W,W.heap[g]? =w.heap[g]? ->(Instr.lookup 157 (.map (some g)) (.agg #[k1,p1,q1,s1,r1]) true).run prog W= .ok (.tuple #[.int .i64 0,.bool false]) W):
  Calls prog 173 #[m,.agg #[k1,p1,q1,s1,r1],.agg #[k2,p2,q2,s2,r2]] w (OmPost w m g (.slice (some rb) L.length cap) (Qq L++[⟨⟨k1,p1,q1,s1,r1⟩,⟨k2,p2,q2,s2,r2⟩,false⟩])):=by
 have HII:=zh hI;have HNO:=zh hno;have HWF:=zh hwf;have HKW:=zh hkw;have HVW:=zh hvw;have HEG:=zh (And.intro hE hG);clear hI hno hwf hvw;have hl2:=ZR L;have hml:m<w:=(Array.getElem?_eq_some_iff.1 hm).1;have hg:g<w:=hE.lt;have hmg:m≠g:=fun e=>by
  obtain⟨es,c,he,_⟩:=id hE;rw[<-e,hm] at he;cases he
 obtain⟨es0,c0,hgm,_⟩:=id hE;have hrg:=GO hrow hgm;have HGM:=zh hgm;have HRG:=zh hrg;have HST:=zh (Yk hE hG hkw);clear hgm hrg;have HVK:=zh hvk;have HVV:=zh hvv;have HLK:=zh hlk;clear hvk hvv hlk hE hG;go_enter func173,ntmps173;go_wp2_with fail
 refine(HVK.out _).mono ?_;rintro e w1 ⟨rfl,hb⟩;have HKB:=hkh hb (Qm _ _ _);have HVB:=hkh hb (QY _ _ _);have HW1:=hbn (QE _ _ _) hb;have hz1:=hb.size;simp at hz1;clear hb;obtain⟨b0,b1,b2,b3,b4⟩:=zc5 HVB;go_wp2_with fail
 refine(HVV.out _).mono ?_;rintro e w2 ⟨rfl,hb⟩;have HKB2:=hkh hb HKB;have HVB2:=hkh hb HVB;have HW2:=hbn HW1 hb;have hz2:=hb.size;have HMM:=hkh HW2.out hm;have HROW:=zh (QR (QV HW2.out zl) hrow);have HGG:=zh (bw HW2.out hg);clear hb b0 b1 b2 b3 b4 HKB HVB;obtain⟨a0,a1,a2,a3,a4⟩:=zc5 HKB2;obtain⟨b0,b1,b2,b3,b4⟩:=zc5 HVB2;obtain⟨m0,m1,m2⟩:=zc3 HMM;obtain⟨fm0,fm1,fm2⟩:=zf3 HMM;go_wp2;refine QK mixed (by kernel_rfl) ?_;go_wp2_with (at_lookup;refine Qv _ rfl _ _ _ _ rfl _ _ _ rfl rfl (HLK.out _ HGG.out) ?_)
 refine⟨by kernel_rfl,?_⟩;go_wp2;refine QK mixed (by kernel_rfl) ?_;go_wp2;refine⟨by kernel_rfl,?_⟩;go_wp2_with fail
 refine(Dq w2.drew.drew m g rb cap L E f HMM.out (Qb HROW.out (fun _ _=>rfl)) hL (HEG.out.1.keep HGG.out) HEG.out.2 HII.out HWF.out).mono ?_;rintro e wd ⟨rfl,soD,capD,hmD,hownD,⟨ED,hED,hGD⟩,hmodsD⟩;have hzD:w2.heap.size<=wd.heap.size:=hmodsD.size;have HKBD:=zh (Qn hmodsD HKB2.out (by omega));have HVBD:=zh (Qn hmodsD HVB2.out (by omega));have HWD:=zh (show Mods (OmF m g (.slice (some rb) L.length cap)) w wd.drew from((Mods.of_below HW2.out.drew.drew).trans (Mods.mono (G:=OmF m g (.slice (some rb) L.length cap)) hmodsD (fun k _ e=>e.elim Or.inl (fun h=>Or.inr (Or.inl h))))).trans (Mods.of_below (Below.refl _ wd).drew));have HMD0:=zh hmD;have HROWD0:=zh (show wd.ownsRow w2.heap.size 161 11 _ _ _ from hownD);have HID:=zh HII.out.dropped;have HND:=zh (HII.out.noLive_drop HNO.out);have hwfD:∀s∈Qq L,WfV s.k/\WfV s.v:=fun s hs=>HWF.out s (mem_drop.1 hs).1;have hlv:Q1 (Qq L)=Q1 L:=by unfold Q1 Qq;rw[List.filter_filter];congr 1;simp
 have hdl:=Ki L;rw[<-hlv] at hmD;obtain⟨LD,hLD⟩:∃LD,LD=Qq L:=⟨_,rfl⟩
 obtain⟨fD,hfD⟩:∃fD,fD=Kn L f L.length:=⟨_,rfl⟩
 clear HEG HST HMM HROW HGG HII HNO HWF HGM HRG HLK HMD0 a0 a1 a2 a3 a4 b0 b1 b2 b3 b4 m0 m1 m2 fm0 fm1 fm2 hmodsD;have HII:=HID;have HNO:=HND;clear HID HND;have hl3:=ZR (Qq L);rw[<-hLD] at hmD hownD HROWD0 HII HNO hwfD hdl hl3;have HLD:=zh hLD;rw[<-hfD] at hGD HII HNO;have HWF:=zh hwfD;have HMMD:=zh hmD;have HROWD:=zh (J2 hownD (Nat.zero_le _));obtain⟨esD,cD,hgmD,_⟩:=id hED;have HRGD:=zh (GO hownD hgmD);have HST:=zh (Yk hED hGD hkw);clear hownD hED hGD hlv hLD hfD hmD hwfD hgmD;obtain⟨a0,a1,a2,a3,a4⟩:=zc5 HKBD;obtain⟨b0,b1,b2,b3,b4⟩:=zc5 HVBD;obtain⟨m0,m1,m2⟩:=zc3 HMMD;obtain⟨fm0,fm1,fm2⟩:=zf3 HMMD;go_wp2;refine QK mixed (by kernel_rfl) ?_;go_wp2_with (at_mapUpdate;refine ZE _ rfl _ _ _ _ rfl _ _ _ rfl rfl rfl _ (HST.out LD.length _ rfl) ?_;intro w3 hw3)
 refine⟨by kernel_rfl,?_⟩;go_wp2;obtain⟨hput,hmods,hsz3⟩:=hw3;have HPUT:=zh hput;have HK3:=zh (Qn hmods (show(wd.drew).heap[w.heap.size]? =_ from HKBD.out) (by omega));have HV3:=zh (Qn hmods (show(wd.drew).heap[w.heap.size+1]? =_ from HVBD.out) (by omega));have HM3:=zh (Qn hmods (show(wd.drew).heap[m]? =_ from HMMD.out) hmg);have HR3:=zh (Qb (w3:=w3) HROWD.out (fun b hb=>hmods.block b (QS HROWD.out hb).2 (HRGD.out b hb)));have HMD:=zh hmods;have hsz3':wd.heap.size<=w3.heap.size:=Nat.le_of_eq (Eq.symm hsz3);clear hput hmods hsz3 a0 a1 a2 a3 a4 b0 b1 b2 b3 b4 m0 m1 m2 fm0 fm1 fm2;obtain⟨a0,a1,a2,a3,a4⟩:=zc5 HK3;obtain⟨b0,b1,b2,b3,b4⟩:=zc5 HV3;obtain⟨m0,m1,m2⟩:=zc3 HM3;obtain⟨fm0,fm1,fm2⟩:=zf3 HM3;obtain⟨i6,hi6,hi6a,hi6b,hi6c⟩:=info_parts YA;refine QK mixed (by kernel_rfl) ?_;go_wp2_with (at_builtin;refine wpList_append_own_at _ rfl (.tmp 79) (.tmp 83) 156 rfl 0 161 i6 _ 11 104 underlying156 hi6 hi6a hi6b hi6c rfl (by decide) (.slice soD LD.length capD) LD.length (ZA LD) rfl ?A _ 1 1 [.int .i64 k1,.int .i64 p1,.int .i64 q1,.string s1,.int .i64 r1,.int .i64 k2,.int .i64 p2,.int .i64 q2,.string s2,.int .i64 r2,.bool false] rfl rfl ?B ?C ?D ?E ?F ?G)
 case A=>exact QR (QV ((Below.refl _ _).alloc zl _).drew zl) HR3.out
 case B=>exact ZM _ _ _ _ _ _ _ _ _ _ _ _ _ _ rfl
 case C=>
  intro u hu;simp only[List.mem_cons,List.not_mem_nil,or_false] at hu;rcases hu with rfl|rfl|rfl|rfl|rfl|rfl|rfl|rfl|rfl|rfl|rfl<;>simp[Value.oneCell']
 case D=>unfold maxLen;omega
 case E=>omega
 case F=>exact Nat.zero_le _
 case G=>
  intro v' w4 hown hgrow _ hat;obtain⟨rb',cap',rfl⟩:=Qh hown (by omega);have hrm:=Y3 HR3.out HM3.out;have HM4:=zh (show w4.heap[m]? =_ from(hgrow.block m (by simp;omega) (fun e=>hrm m e.symm rfl)).trans ((Below.heap_alloc w3 _ m (by omega)).trans HM3.out));have HG4:=zh (show w4.heap[g]? =w3.heap[g]? from(hgrow.block g (by simp;omega) (fun e=>HRGD.out g e.symm rfl)).trans (Below.heap_alloc w3 _ g (by omega)));have HOWN:=zh hown;have HAT:=zh hat;have HGR:=zh hgrow;clear hown hat hgrow hrm a0 a1 a2 a3 a4 b0 b1 b2 b3 b4 m0 m1 m2 fm0 fm1 fm2;obtain⟨m0,m1,m2⟩:=zc3 HM4;obtain⟨fm0,fm1,fm2⟩:=zf3 HM4;go_wp2;refine⟨by kernel_rfl,?_⟩;go_wp2
  go_ret
  rw[<-HLD.out];refine⟨rfl,.slice (some rb') (LD.length+1) cap',?_,?_,?_⟩
  ·exact Gv HM4.out HOWN.out HPUT.out HG4.out hmg HII.out HNO.out HWF.out HKW.out HVW.out
  ·exact Gw HWD.out HMD.out ((Below.refl _ _).alloc zl _).drew HGR.out (.inl rfl) (.inr (.inl rfl)) (fun b hb=> .inr (by have:=(QS HROWD0.out hb).1;omega))
  ·intro b hb;rcases HAT.out with h|h
   ·exact .inr (by have:=(QS HROWD0.out (h.symm.trans hb)).1;omega)
   ·rw[h] at hb;injection hb with hb;subst hb;exact .inr (by first|omega|(simp;omega))
theorem Ky (w:World) (m g cap:Nat) (rb:Nat) (L:List Sl) (E:List (Value×Value)) (f:V->Option Nat) (hm:w.heap[m]? =some (.cells #[.slice (some rb) L.length cap,.map (some g),.int .i64 (Q1 L:Nat)] 159))
  (hrow:w.ownsRow 0 161 11 (.slice (some rb) L.length cap) L.length (ZA L)) (hL:L.length<=1000) (hE:MapAt prog 25 w g E) (hG:Graph E f) (hroom:Q1 L+8<L.length-Q1 L) (k1 p1 q1:Int) (s1:ByteArray) (r1:Int) (k2 p2 q2:Int) (s2:ByteArray) (r2:Int) (hkw:WfV ⟨k1,p1,q1,s1,r1⟩)
  (hvk:∀W,Calls prog 36 #[.agg #[k1,p1,q1,s1,r1]] W (BoolPost W true)) (hvv:∀W,Calls prog 36 #[.agg #[k2,p2,q2,s2,r2]] W (BoolPost W true)) (hk0:(k1==0)=false) (hI:Idx L f) (hno:NoLive L f ⟨k1,p1,q1,s1,r1⟩) (hwf:∀s∈L,WfV s.k/\WfV s.v) (hvw:WfV ⟨k2,p2,q2,s2,r2⟩) (hv0:(k2==0)=false) (n:Nat) (sl:Sl) (hsl:L[n]? =some sl) (hgf:sl.g=true)
  (hlk:∀W,W.heap[g]? =w.heap[g]? ->(Instr.lookup 157 (.map (some g)) (.agg #[k1,p1,q1,s1,r1]) true).run prog W= .ok (.tuple #[.int .i64 (n:Int),.bool true]) W):
  Calls prog 173 #[m,.agg #[k1,p1,q1,s1,r1],.agg #[k2,p2,q2,s2,r2]] w (OmPost w m g (.slice (some rb) L.length cap) (Qq L++[⟨⟨k1,p1,q1,s1,r1⟩,⟨k2,p2,q2,s2,r2⟩,false⟩])):=by
 have HII:=zh hI;have HNO:=zh hno;have HWF:=zh hwf;have HKW:=zh hkw;have HVW:=zh hvw;have HEG:=zh (And.intro hE hG);clear hI hno hwf hvw;have hl2:=ZR L;have hml:m<w:=(Array.getElem?_eq_some_iff.1 hm).1;have hg:g<w:=hE.lt;have hmg:m≠g:=fun e=>by
  obtain⟨es,c,he,_⟩:=id hE;rw[<-e,hm] at he;cases he
 obtain⟨es0,c0,hgm,_⟩:=id hE;have hrg:=GO hrow hgm;have HGM:=zh hgm;have HRG:=zh hrg;have HST:=zh (Yk hE hG hkw);clear hgm hrg;have HVK:=zh hvk;have HVV:=zh hvv;have HLK:=zh hlk;clear hvk hvv hlk hE hG;go_enter func173,ntmps173;go_wp2_with fail
 refine(HVK.out _).mono ?_;rintro e w1 ⟨rfl,hb⟩;have HKB:=hkh hb (Qm _ _ _);have HVB:=hkh hb (QY _ _ _);have HW1:=hbn (QE _ _ _) hb;have hz1:=hb.size;simp at hz1;clear hb;obtain⟨b0,b1,b2,b3,b4⟩:=zc5 HVB;go_wp2_with fail
 refine(HVV.out _).mono ?_;rintro e w2 ⟨rfl,hb⟩;have HKB2:=hkh hb HKB;have HVB2:=hkh hb HVB;have HW2:=hbn HW1 hb;have hz2:=hb.size;have HMM:=hkh HW2.out hm;have HROW:=zh (QR (QV HW2.out zl) hrow);have HGG:=zh (bw HW2.out hg);have hnl:n<L.length:=(List.getElem?_eq_some_iff.1 hsl).1;have hgone:w2.cell? ⟨rb,n*11+10,none⟩=some (.bool sl.g):=(HROW.out.cellAt (n*11+10) (by omega)).trans (Qk L n 10 sl hsl (by decide));rw[hgf] at hgone;clear hb b0 b1 b2 b3 b4 HKB HVB;obtain⟨a0,a1,a2,a3,a4⟩:=zc5 HKB2;obtain⟨b0,b1,b2,b3,b4⟩:=zc5 HVB2;obtain⟨m0,m1,m2⟩:=zc3 HMM;obtain⟨fm0,fm1,fm2⟩:=zf3 HMM;go_wp2;refine QK mixed (by kernel_rfl) ?_;go_wp2_with (at_lookup;refine Qv _ rfl _ _ _ _ rfl _ _ _ rfl rfl (HLK.out _ HGG.out) ?_)
 refine⟨by kernel_rfl,?_⟩;go_wp2;refine QK mixed (by kernel_rfl) ?_;go_wp2;refine⟨by kernel_rfl,?_⟩;go_wp2_with fail
 refine(Dq w2.drew.drew m g rb cap L E f HMM.out (Qb HROW.out (fun _ _=>rfl)) hL (HEG.out.1.keep HGG.out) HEG.out.2 HII.out HWF.out).mono ?_;rintro e wd ⟨rfl,soD,capD,hmD,hownD,⟨ED,hED,hGD⟩,hmodsD⟩;have hzD:w2.heap.size<=wd.heap.size:=hmodsD.size;have HKBD:=zh (Qn hmodsD HKB2.out (by omega));have HVBD:=zh (Qn hmodsD HVB2.out (by omega));have HWD:=zh (show Mods (OmF m g (.slice (some rb) L.length cap)) w wd.drew from((Mods.of_below HW2.out.drew.drew).trans (Mods.mono (G:=OmF m g (.slice (some rb) L.length cap)) hmodsD (fun k _ e=>e.elim Or.inl (fun h=>Or.inr (Or.inl h))))).trans (Mods.of_below (Below.refl _ wd).drew));have HMD0:=zh hmD;have HROWD0:=zh (show wd.ownsRow w2.heap.size 161 11 _ _ _ from hownD);have HID:=zh HII.out.dropped;have HND:=zh (HII.out.noLive_drop HNO.out);have hwfD:∀s∈Qq L,WfV s.k/\WfV s.v:=fun s hs=>HWF.out s (mem_drop.1 hs).1;have hlv:Q1 (Qq L)=Q1 L:=by unfold Q1 Qq;rw[List.filter_filter];congr 1;simp
 have hdl:=Ki L;rw[<-hlv] at hmD;obtain⟨LD,hLD⟩:∃LD,LD=Qq L:=⟨_,rfl⟩
 obtain⟨fD,hfD⟩:∃fD,fD=Kn L f L.length:=⟨_,rfl⟩
 clear HEG HST HMM HROW HGG HII HNO HWF HGM HRG HLK HMD0 a0 a1 a2 a3 a4 b0 b1 b2 b3 b4 m0 m1 m2 fm0 fm1 fm2 hmodsD;have HII:=HID;have HNO:=HND;clear HID HND;have hl3:=ZR (Qq L);rw[<-hLD] at hmD hownD HROWD0 HII HNO hwfD hdl hl3;have HLD:=zh hLD;rw[<-hfD] at hGD HII HNO;have HWF:=zh hwfD;have HMMD:=zh hmD;have HROWD:=zh (J2 hownD (Nat.zero_le _));obtain⟨esD,cD,hgmD,_⟩:=id hED;have HRGD:=zh (GO hownD hgmD);have HST:=zh (Yk hED hGD hkw);clear hownD hED hGD hlv hLD hfD hmD hwfD hgmD;obtain⟨a0,a1,a2,a3,a4⟩:=zc5 HKBD;obtain⟨b0,b1,b2,b3,b4⟩:=zc5 HVBD;obtain⟨m0,m1,m2⟩:=zc3 HMMD;obtain⟨fm0,fm1,fm2⟩:=zf3 HMMD;go_wp2;refine QK mixed (by kernel_rfl) ?_;go_wp2_with (at_mapUpdate;refine ZE _ rfl _ _ _ _ rfl _ _ _ rfl rfl rfl _ (HST.out LD.length _ rfl) ?_;intro w3 hw3)
 refine⟨by kernel_rfl,?_⟩;go_wp2;obtain⟨hput,hmods,hsz3⟩:=hw3;have HPUT:=zh hput;have HK3:=zh (Qn hmods (show(wd.drew).heap[w.heap.size]? =_ from HKBD.out) (by omega));have HV3:=zh (Qn hmods (show(wd.drew).heap[w.heap.size+1]? =_ from HVBD.out) (by omega));have HM3:=zh (Qn hmods (show(wd.drew).heap[m]? =_ from HMMD.out) hmg);have HR3:=zh (Qb (w3:=w3) HROWD.out (fun b hb=>hmods.block b (QS HROWD.out hb).2 (HRGD.out b hb)));have HMD:=zh hmods;have hsz3':wd.heap.size<=w3.heap.size:=Nat.le_of_eq (Eq.symm hsz3);clear hput hmods hsz3 a0 a1 a2 a3 a4 b0 b1 b2 b3 b4 m0 m1 m2 fm0 fm1 fm2;obtain⟨a0,a1,a2,a3,a4⟩:=zc5 HK3;obtain⟨b0,b1,b2,b3,b4⟩:=zc5 HV3;obtain⟨m0,m1,m2⟩:=zc3 HM3;obtain⟨fm0,fm1,fm2⟩:=zf3 HM3;obtain⟨i6,hi6,hi6a,hi6b,hi6c⟩:=info_parts YA;refine QK mixed (by kernel_rfl) ?_;go_wp2_with (at_builtin;refine wpList_append_own_at _ rfl (.tmp 79) (.tmp 83) 156 rfl 0 161 i6 _ 11 104 underlying156 hi6 hi6a hi6b hi6c rfl (by decide) (.slice soD LD.length capD) LD.length (ZA LD) rfl ?A _ 1 1 [.int .i64 k1,.int .i64 p1,.int .i64 q1,.string s1,.int .i64 r1,.int .i64 k2,.int .i64 p2,.int .i64 q2,.string s2,.int .i64 r2,.bool false] rfl rfl ?B ?C ?D ?E ?F ?G)
 case A=>exact QR (QV ((Below.refl _ _).alloc zl _).drew zl) HR3.out
 case B=>exact ZM _ _ _ _ _ _ _ _ _ _ _ _ _ _ rfl
 case C=>
  intro u hu;simp only[List.mem_cons,List.not_mem_nil,or_false] at hu;rcases hu with rfl|rfl|rfl|rfl|rfl|rfl|rfl|rfl|rfl|rfl|rfl<;>simp[Value.oneCell']
 case D=>unfold maxLen;omega
 case E=>omega
 case F=>exact Nat.zero_le _
 case G=>
  intro v' w4 hown hgrow _ hat;obtain⟨rb',cap',rfl⟩:=Qh hown (by omega);have hrm:=Y3 HR3.out HM3.out;have HM4:=zh (show w4.heap[m]? =_ from(hgrow.block m (by simp;omega) (fun e=>hrm m e.symm rfl)).trans ((Below.heap_alloc w3 _ m (by omega)).trans HM3.out));have HG4:=zh (show w4.heap[g]? =w3.heap[g]? from(hgrow.block g (by simp;omega) (fun e=>HRGD.out g e.symm rfl)).trans (Below.heap_alloc w3 _ g (by omega)));have HOWN:=zh hown;have HAT:=zh hat;have HGR:=zh hgrow;clear hown hat hgrow hrm a0 a1 a2 a3 a4 b0 b1 b2 b3 b4 m0 m1 m2 fm0 fm1 fm2;obtain⟨m0,m1,m2⟩:=zc3 HM4;obtain⟨fm0,fm1,fm2⟩:=zf3 HM4;go_wp2;refine⟨by kernel_rfl,?_⟩;go_wp2
  go_ret
  rw[<-HLD.out];refine⟨rfl,.slice (some rb') (LD.length+1) cap',?_,?_,?_⟩
  ·exact Gv HM4.out HOWN.out HPUT.out HG4.out hmg HII.out HNO.out HWF.out HKW.out HVW.out
  ·exact Gw HWD.out HMD.out ((Below.refl _ _).alloc zl _).drew HGR.out (.inl rfl) (.inr (.inl rfl)) (fun b hb=> .inr (by have:=(QS HROWD0.out hb).1;omega))
  ·intro b hb;rcases HAT.out with h|h
   ·exact .inr (by have:=(QS HROWD0.out (h.symm.trans hb)).1;omega)
   ·rw[h] at hb;injection hb with hb;subst hb;exact .inr (by first|omega|(simp;omega))
theorem TK (w:World) (m g cap:Nat) (so:Option Addr) (L:List Sl) (E:List (Value×Value)) (f:V->Option Nat) (hm:w.heap[m]? =some (.cells #[.slice so L.length cap,.map (some g),.int .i64 (Q1 L:Nat)] 159))
  (hrow:w.ownsRow 0 161 11 (.slice so L.length cap) L.length (ZA L)) (hL:L.length<=1000) (hE:MapAt prog 25 w g E) (hG:Graph E f) (k1 p1 q1:Int) (s1:ByteArray) (r1:Int) (k2 p2 q2:Int) (s2:ByteArray) (r2:Int) (hkw:WfV ⟨k1,p1,q1,s1,r1⟩)
  (hvk:∀W,Calls prog 36 #[.agg #[k1,p1,q1,s1,r1]] W (BoolPost W true)) (hvv:∀W,Calls prog 36 #[.agg #[k2,p2,q2,s2,r2]] W (BoolPost W true)) (hk0:(k1==0)=false) (hI:Idx L f) (hv0:(k2==0)=true)
  (hlk:∀W,W.heap[g]? =w.heap[g]? ->(Instr.lookup 157 (.map (some g)) (.agg #[k1,p1,q1,s1,r1]) true).run prog W= .ok (.tuple #[.int .i64 0,.bool false]) W):
  Calls prog 173 #[m,.agg #[k1,p1,q1,s1,r1],.agg #[k2,p2,q2,s2,r2]] w (fun e w'=>e= .returned (.int .i64 0)/\Below w w w'):=by
 have hl2:=ZR L;have hml:m<w:=(Array.getElem?_eq_some_iff.1 hm).1;have hg:g<w:=hE.lt;have hmg:m≠g:=fun e=>by
  obtain⟨es,c,he,_⟩:=id hE;rw[<-e,hm] at he;cases he
 obtain⟨es0,c0,hgm,_⟩:=id hE;have hrg:=GO hrow hgm;have HGM:=zh hgm;have HRG:=zh hrg;have HST:=zh (Yk hE hG hkw);clear hgm hrg;have HVK:=zh hvk;have HVV:=zh hvv;have HLK:=zh hlk;clear hvk hvv hlk hE hG;go_enter func173,ntmps173;go_wp2_with fail
 refine(HVK.out _).mono ?_;rintro e w1 ⟨rfl,hb⟩;have HKB:=hkh hb (Qm _ _ _);have HVB:=hkh hb (QY _ _ _);have HW1:=hbn (QE _ _ _) hb;have hz1:=hb.size;simp at hz1;clear hb;obtain⟨b0,b1,b2,b3,b4⟩:=zc5 HVB;go_wp2_with fail
 refine(HVV.out _).mono ?_;rintro e w2 ⟨rfl,hb⟩;have HKB2:=hkh hb HKB;have HVB2:=hkh hb HVB;have HW2:=hbn HW1 hb;have hz2:=hb.size;have HMM:=hkh HW2.out hm;have HROW:=zh (QR (QV HW2.out zl) hrow);have HGG:=zh (bw HW2.out hg);clear hb b0 b1 b2 b3 b4 HKB HVB;obtain⟨a0,a1,a2,a3,a4⟩:=zc5 HKB2;obtain⟨b0,b1,b2,b3,b4⟩:=zc5 HVB2;obtain⟨m0,m1,m2⟩:=zc3 HMM;obtain⟨fm0,fm1,fm2⟩:=zf3 HMM;go_wp2;refine QK mixed (by kernel_rfl) ?_;go_wp2_with (at_lookup;refine Qv _ rfl _ _ _ _ rfl _ _ _ rfl rfl (HLK.out _ HGG.out) ?_)
 refine⟨by kernel_rfl,?_⟩;go_wp2
 go_ret
 exact⟨rfl,HW2.out.drew⟩
end Go.Proofs.YthkpckgcgkijbaaGreatDoor
