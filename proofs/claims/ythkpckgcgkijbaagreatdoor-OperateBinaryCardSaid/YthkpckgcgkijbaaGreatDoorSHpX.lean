import Derived.Test.YthkpckgcgkijbaaGreatDoorOmD
import Derived.Test.YthkpckgcgkijbaaGreatDoorOpD
set_option linter.unusedVariables false
set_option linter.unusedSimpArgs false
set_option maxRecDepth 100000
set_option maxHeartbeats 2000000
namespace Go.Proofs.YthkpckgcgkijbaaGreatDoor
open Go.RowKit Go.Proofs.Lexi Go.Proofs.Tryz
theorem B0 (w:World) (k1 p1 q1:Int) (s1:ByteArray) (r1:Int):Calls prog 118 #[.agg #[k1,p1,q1,s1,r1]] w (IntPost w (GK ⟨k1,p1,q1,s1,r1⟩)):=by
 have HV:=zh (fun W=>JW W k1 p1 q1 s1 r1);by_cases hb:k1=3/\4096<s1.size
 ·have HC:=zh (show 14=GK ⟨k1,p1,q1,s1,r1⟩ from(if_pos hb).symm);have t3:(k1==3)=true:=by rw[beq_iff_eq];exact hb.1
  have ts:decide ((4096:Int)<(s1.size:Int))=true:=by rw[decide_eq_true_eq];omega
  have ts2:(4096:Int)<(s1.size:Int):=by omega
  clear hb;go_enter func118,ntmps118;go_wp2
  go_ret
  exact Qr HC.out (Qf _ _)
 ·have tt:(k1==3)=false\/((k1==3)=true/\¬4096<s1.size):=by
   by_cases h3:k1=3
   ·exact .inr ⟨by rw[beq_iff_eq];exact h3,fun h=>hb ⟨h3,h⟩⟩
   ·exact .inl (by rw[beq_eq_false_iff_ne];exact h3)
  cases hv:Qt ⟨k1,p1,q1,s1,r1⟩ with
  |true=>
   have HC:=zh (show 0=GK ⟨k1,p1,q1,s1,r1⟩ from by unfold GK;rw[if_neg hb,if_pos hv]);have HVT:=zh (fun W=>(hv▸HV.out W:Calls prog 26 #[.agg #[k1,p1,q1,s1,r1]] W (BoolPost W true)));clear hb hv HV;rcases tt with t3|⟨t3,ts⟩
   ·go_enter func118,ntmps118;go_wp2_with (first|(go_at_call 26;refine(HVT.out _).mono ?_;rintro e w1 ⟨rfl,hb⟩))
    go_ret
    exact Qr HC.out (QC (Qf _ _) (by assumption))
   ·have ts1:decide ((4096:Int)<(s1.size:Int))=false:=by rw[decide_eq_false_iff_not];omega
    have ts2:¬(4096:Int)<(s1.size:Int):=by omega
    go_enter func118,ntmps118;go_wp2_with (first|(go_at_call 26;refine(HVT.out _).mono ?_;rintro e w1 ⟨rfl,hb⟩))
    go_ret
    exact Qr HC.out (QC (Qf _ _) (by assumption))
  |false=>
   have HC:=zh (show 2=GK ⟨k1,p1,q1,s1,r1⟩ from by unfold GK;rw[if_neg hb,if_neg (by rw[hv];decide)]);have HVT:=zh (fun W=>(hv▸HV.out W:Calls prog 26 #[.agg #[k1,p1,q1,s1,r1]] W (BoolPost W false)));clear hb hv HV;rcases tt with t3|⟨t3,ts⟩
   ·go_enter func118,ntmps118;go_wp2_with (first|(go_at_call 26;refine(HVT.out _).mono ?_;rintro e w1 ⟨rfl,hb⟩))
    go_ret
    exact Qr HC.out (QC (Qf _ _) (by assumption))
   ·have ts1:decide ((4096:Int)<(s1.size:Int))=false:=by rw[decide_eq_false_iff_not];omega
    have ts2:¬(4096:Int)<(s1.size:Int):=by omega
    go_enter func118,ntmps118;go_wp2_with (first|(go_at_call 26;refine(HVT.out _).mono ?_;rintro e w1 ⟨rfl,hb⟩))
    go_ret
    exact Qr HC.out (QC (Qf _ _) (by assumption))
theorem PI (w:World) (h:Nat) (av uv:Value) (H:List RO) (hH:RHpAt w h av uv H) (hl:H.length<=1000) (k1 p1 q1:Int) (s1:ByteArray) (i:Nat) (hil:i<H.length):Calls prog 114 #[h,.agg #[k1,p1,q1,s1,.int .i64 (((i:Nat):Int)+1)],(0:Int)] w (RTouchPost w h av uv H):=by
 obtain⟨bs,hT⟩:=hH.tch;obtain⟨ub,ucap,rfl⟩:=Qh hT (by omega);have hlb:bs.length=H.length:=by have:=hT.1;rw[List.length_map] at this;omega
 have HHH:=zh hH;have HTT:=zh hT;have hul:ub<w:=(QS hT rfl).2;have hun:ub≠w:=by omega
 have hT1:=QR (QV (Qf w (oV k1 p1 q1 s1 (((i:Nat):Int)+1))) zl) hT;have u0:(w.alloc (oV k1 p1 q1 s1 (((i:Nat):Int)+1))).cell? ⟨ub,i,none⟩=some (.bool (bs[i]'(by omega))):=by
  have h1:=hT1.cellAt i (by omega);rw[List.getElem?_map,List.getElem?_eq_getElem (show i<bs.length by omega)] at h1;exact h1
 have fu0:(w.alloc (oV k1 p1 q1 s1 (((i:Nat):Int)+1))).frozen? ⟨ub,i,none⟩=false:=No hT1 i;have hh:=hH.hh;have h2:(w.alloc (oV k1 p1 q1 s1 (((i:Nat):Int)+1))).cell? ⟨h,2,none⟩=some (.slice (some ub) H.length ucap):=by rw[QA (QI hh _)];rfl
 generalize bs[i]'(by omega)=b0 at u0;clear hH hT hT1 hh;go_enter func114,ntmps114;go_wp2;refine QK mixed (by kernel_rfl) ?_;go_wp2;refine⟨by kernel_rfl,?_⟩;go_wp2
 go_ret
 have hM:Mods (fun b=>(Value.slice (some ub) H.length ucap).ownBlock=some b) w (((w.setCell ⟨ub,i,none⟩ (.bool true)).alloc (oV k1 p1 q1 s1 (((i:Nat):Int)+1))).drew):=(QQ (F:=fun b=>(Value.slice (some ub) H.length ucap).ownBlock=some b) (Mods.refl _ w) (.inl rfl) _).trans (Mods.of_below ((Qf _ _).drew));refine⟨rfl,HHH.out.touch hM ⟨bs.set i true,?_⟩,hM⟩;rw[List.map_set];exact QR (QV (Qf _ _).drew zl) (Ym HTT.out i (.bool true))
theorem Oo (w:World) (h:Nat) (av uv:Value) (H:List RO) (hH:RHpAt w h av uv H) (hl:H.length<=1000) (kd tg:Int) (nm:ByteArray) (tp us:Option Addr) (un uc t0 m0:Nat) (hx:RObj w (⟨kd,tg,nm,V.nil,.slice us un uc,.slice none 0 0,t0,m0,.slice none 0 0,[]⟩:RO)) (htv:(⟨kd,tg,nm,V.nil,.slice us un uc,.slice none 0 0,t0,m0,.slice none 0 0,[]⟩:RO).tv= .pointer tp) (hsep:∀y∈H,RSep y (⟨kd,tg,nm,V.nil,.slice us un uc,.slice none 0 0,t0,m0,.slice none 0 0,[]⟩:RO)):
  Calls prog 110 #[h,.agg #[kd,tg,nm,.pointer tp,(0:Int),(0:Int),(0:Int),.string ⟨#[]⟩,(0:Int),.slice us un uc,.slice none 0 0]] w (RAddPost w h av uv H (⟨kd,tg,nm,V.nil,.slice us un uc,.slice none 0 0,t0,m0,.slice none 0 0,[]⟩:RO)):=by
 obtain⟨so,cap,rfl⟩:=Zb hH.row;obtain⟨bs,hT⟩:=hH.tch;obtain⟨uo,ucap,rfl⟩:=Zb hT;have hlb:bs.length=H.length:=by have:=hT.1;rw[List.length_map] at this;omega
 have hlt:h<w:=(Array.getElem?_eq_some_iff.1 hH.hh).1;have nav:∀b,(Value.slice so H.length cap).ownBlock=some b->b≠h:=fun b hb=>by obtain⟨c2,hc⟩:=Qd hH.row hb;exact QW hc hH.hh (by decide)
 have nuv:∀b,(Value.slice uo H.length ucap).ownBlock=some b->b≠h:=fun b hb=>by obtain⟨c2,hc⟩:=Qd hT hb;exact QW hc hH.hh (by decide)
 have nau:∀b,(Value.slice so H.length cap).ownBlock=some b->(Value.slice uo H.length ucap).ownBlock≠some b:=fun b hb hb2=>by
  obtain⟨c2,hc⟩:=Qd hH.row hb;obtain⟨c3,hc3⟩:=Qd hT hb2;exact QW hc hc3 (by decide) rfl
 have lav:∀b,(Value.slice so H.length cap).ownBlock=some b->b<w.heap.size:=fun b hb=>(QS hH.row hb).2;have luv:∀b,(Value.slice uo H.length ucap).ownBlock=some b->b<w.heap.size:=fun b hb=>(QS hT hb).2;have HN:=zh (And.intro nav (And.intro nuv (And.intro nau (And.intro lav luv))));clear nav nuv nau lav luv;have HHH:=zh hH;have HXX:=zh hx;have HSP:=zh hsep;have HTV:=zh htv;have HROW:=zh (QR (QV (QE w (.cells #[kd,tg,nm,.pointer tp,(0:Int),(0:Int),(0:Int),.string ⟨#[]⟩,(0:Int),.slice us un uc,.slice none 0 0] 97) (oV 0 0 0 ⟨#[]⟩ 0)) zl) hH.row);have HTC:=zh (QR (QV (QE w (.cells #[kd,tg,nm,.pointer tp,(0:Int),(0:Int),(0:Int),.string ⟨#[]⟩,(0:Int),.slice us un uc,.slice none 0 0] 97) (oV 0 0 0 ⟨#[]⟩ 0)) zl) hT);have hq1:¬(65536:Int)<=(H.length:Int):=by omega
 have hq2:decide ((65536:Int)<=(H.length:Int))=false:=by rw[decide_eq_false_iff_not];exact hq1
 have hh:=Qs hH.hh (.cells #[kd,tg,nm,.pointer tp,(0:Int),(0:Int),(0:Int),.string ⟨#[]⟩,(0:Int),.slice us un uc,.slice none 0 0] 97) (oV 0 0 0 ⟨#[]⟩ 0);have HH2:=zh hh;obtain⟨h0,h1,h2⟩:=zc3 HH2;obtain⟨fh0,fh1,fh2⟩:=zf3 HH2;clear hH hx hsep htv hT hh;go_enter func110,ntmps110;go_wp2;obtain⟨i6,hi6,hi6a,hi6b,hi6c⟩:=info_parts Sg;refine QK mixed (by kernel_rfl) ?_;go_wp2_with (at_builtin;refine wpList_append_own_at _ rfl (.tmp 16) (.tmp 18) 90 rfl 0 97 i6 _ 11 136 underlying90 hi6 hi6a hi6b hi6c rfl (by decide) (.slice so H.length cap) H.length (Zv H) rfl ?A _ 1 1 [.int .i64 kd,.int .i64 tg,.string nm,.pointer tp,.int .i64 0,.int .i64 0,.int .i64 0,.string ⟨#[]⟩,.int .i64 0,.slice us un uc,.slice none 0 0] rfl rfl ?B ?C ?D ?E ?F ?G)
 case A=>exact QR (QV ((Below.refl _ _).alloc zl _).drew zl) HROW.out
 case B=>exact ZM _ _ _ _ _ _ _ _ _ _ _ _ _ _ (by first|rfl|simp)
 case C=>
  intro u hu;simp only[List.mem_cons,List.not_mem_nil,or_false] at hu;rcases hu with rfl|rfl|rfl|rfl|rfl|rfl|rfl|rfl|rfl|rfl|rfl<;>simp[Value.oneCell']
 case D=>unfold maxLen;omega
 case E=>omega
 case F=>exact Nat.zero_le _
 case G=>
  intro v' w5 hown hgrow _ hat;obtain⟨rb',cap',rfl⟩:=Qh hown (by omega);have hz5:=hgrow.size;simp at hz5;obtain⟨nav,nuv,nau,lav,luv⟩:=HN.out;have B3:Below w w (((w.alloc (.cells #[kd,tg,nm,.pointer tp,(0:Int),(0:Int),(0:Int),.string ⟨#[]⟩,(0:Int),.slice us un uc,.slice none 0 0] 97)).alloc (oV 0 0 0 ⟨#[]⟩ 0)).alloc (.cells #[kd,tg,nm,.pointer tp,(0:Int),(0:Int),(0:Int),.string ⟨#[]⟩,(0:Int),.slice us un uc,.slice none 0 0] 97)).drew:=((QE w _ _).alloc (by simp<;>omega) _).drew;have keep5:∀b,b<w.heap.size->(Value.slice so H.length cap).ownBlock≠some b->w5.heap[b]? =w.heap[b]? :=fun b hb hne=>(hgrow.block b (by simp<;>omega) (fun e=>hne e.symm)).trans (B3.block b hb);have HM5:=zh ((keep5 h hlt (fun e=>nav h e rfl)).trans HHH.out.hh);have HR5:=zh (show w5.heap[w.heap.size+1]? =some (oV 0 0 0 ⟨#[]⟩ 0) from(hgrow.block _ (by simp<;>omega) (fun e=>by have:=lav _ e.symm;omega)).trans (Qa w (.cells #[kd,tg,nm,.pointer tp,(0:Int),(0:Int),(0:Int),.string ⟨#[]⟩,(0:Int),.slice us un uc,.slice none 0 0] 97) (oV 0 0 0 ⟨#[]⟩ 0) (.cells #[kd,tg,nm,.pointer tp,(0:Int),(0:Int),(0:Int),.string ⟨#[]⟩,(0:Int),.slice us un uc,.slice none 0 0] 97)));have HX5:=zh (show w5.heap[w.heap.size]? =some (.cells #[kd,tg,nm,.pointer tp,(0:Int),(0:Int),(0:Int),.string ⟨#[]⟩,(0:Int),.slice us un uc,.slice none 0 0] 97) from(hgrow.block _ (by simp<;>omega) (fun e=>by have:=lav _ e.symm;omega)).trans (Qi w (.cells #[kd,tg,nm,.pointer tp,(0:Int),(0:Int),(0:Int),.string ⟨#[]⟩,(0:Int),.slice us un uc,.slice none 0 0] 97) (oV 0 0 0 ⟨#[]⟩ 0) (.cells #[kd,tg,nm,.pointer tp,(0:Int),(0:Int),(0:Int),.string ⟨#[]⟩,(0:Int),.slice us un uc,.slice none 0 0] 97)));have HT5:=zh (Qb (w3:=w5) HTC.out (fun b hb=>(keep5 b (luv b hb) (fun e=>nau b e hb)).trans ((QE w (.cells #[kd,tg,nm,.pointer tp,(0:Int),(0:Int),(0:Int),.string ⟨#[]⟩,(0:Int),.slice us un uc,.slice none 0 0] 97) (oV 0 0 0 ⟨#[]⟩ 0)).block b (luv b hb)).symm));have HMD5:=zh (show Mods (fun b=>b=h\/(Value.slice so H.length cap).ownBlock=some b\/(Value.slice uo H.length ucap).ownBlock=some b) w w5 from KN (Mods.of_below B3) hgrow (fun b hb=> .inl (.inr (.inl hb))));have HOWN:=zh hown;have HAT:=zh hat;have nrb:rb'≠h:=by
   obtain⟨c2,hc⟩:=Qd hown (b:=rb') rfl;exact QW hc HM5.out (by decide)
  have HSZ5:=zh (show w.heap.size+3<=w5.heap.size from by have:=hgrow.size;simp at this;omega);have HAV5:=zh (show∀b,(Value.slice (some rb') (H.length+1) cap').ownBlock=some b->(Value.slice so H.length cap).ownBlock=some b\/w.heap.size<=b from fun b hb=>by
   rcases hat with h|h
   ·exact .inl (h▸hb)
   ·rw[h] at hb;injection hb with hb;right;try simp at hb
    omega)
  have NRB:=zh nrb;clear hown hgrow hat B3 keep5 nav nuv nau lav luv h0 h1 h2 fh0 fh1 fh2 hi6 hi6a hi6b hi6c hz5 hq1 hq2 nrb;obtain⟨h0,h1,h2⟩:=zc3 HM5;obtain⟨fh0,fh1,fh2⟩:=zf3 HM5;go_wp2;refine⟨by kernel_rfl,?_⟩;clear h0 h1 h2 fh0 fh1 fh2;obtain⟨W6,hW6⟩:∃W6,W6=w5.setCell h (.slice (some rb') (H.length+1) cap'):=⟨_,rfl⟩
  rw[<-hW6];have hz6:W6.heap.size=w5.heap.size:=by rw[hW6];simp
  have ho6:∀b,b≠h->W6.heap[b]? =w5.heap[b]? :=fun b hb=>by rw[hW6];exact Below.heap_setCell _ _ _ _ hb
  have HM6:=zh (show W6.heap[h]? =some (.cells #[.slice (some rb') (H.length+1) cap',.int .i64 (H.length:Nat),.slice uo H.length ucap] 93) by rw[hW6];exact Ql HM5.out 0 _);have HR6:=zh (show W6.heap[w.heap.size+1]? =some (oV 0 0 0 ⟨#[]⟩ 0) from(ho6 _ (by omega)).trans HR5.out);have HX6:=zh (show W6.heap[w.heap.size]? =some (.cells #[kd,tg,nm,.pointer tp,(0:Int),(0:Int),(0:Int),.string ⟨#[]⟩,(0:Int),.slice us un uc,.slice none 0 0] 97) from(ho6 _ (by omega)).trans HX5.out);have HT6:=zh (Qb (w3:=W6) HT5.out (fun b hb=>ho6 b (HN.out.2.1 b hb)));have HRW6:=zh (Qb (w3:=W6) HOWN.out (fun b hb=>ho6 b (by injection hb with hb;rw[<-hb];exact NRB.out)));have HMD6:=zh (show Mods (fun b=>b=h\/(Value.slice so H.length cap).ownBlock=some b\/(Value.slice uo H.length ucap).ownBlock=some b) w W6 by rw[hW6];exact QQ HMD5.out (.inl (.inl rfl)) _);clear hW6 ho6;have hsz6:w.heap.size+3<=W6.heap.size:=by rw[hz6];exact HSZ5.out
  clear hz6;obtain⟨h0,h1,h2⟩:=zc3 HM6;obtain⟨fh0,fh1,fh2⟩:=zf3 HM6;obtain⟨i4,hi4,hi4a,hi4b,hi4c⟩:=info_parts RY;go_wp2_with (at_builtin;refine wpList_append_own_at _ rfl (.tmp 26) (.tmp 27) 91 rfl 0 4 i4 _ 1 1 underlying91 hi4 hi4a hi4b hi4c rfl (by decide) (.slice uo H.length ucap) H.length (bs.map .bool) rfl ?A2 _ 1 1 [.bool true] rfl rfl ?B2 ?C2 ?D2 ?E2 ?F2 ?G2)
  case A2=>exact QR (QV ((Below.refl _ _).alloc zl _) zl) HT6.out
  case B2=>exact Zt _ _ _ _ (by simp)
  case C2=>intro u hu;rw[List.mem_singleton] at hu;rw[hu];rfl
  case D2=>unfold maxLen;omega
  case E2=>omega
  case F2=>exact Nat.zero_le _
  case G2=>
   intro v' w7 hown hgrow _ hat;obtain⟨ub',ucap',rfl⟩:=Qh hown (by omega);have hz7:=hgrow.size;simp at hz7;have B6:Below W6 W6 (W6.alloc (.cells #[.bool true] 4)):=(Below.refl _ _).alloc zl _;have ltU:∀b,(Value.slice uo H.length ucap).ownBlock=some b->b<W6.heap.size:=fun b hb=>(QS HT6.out hb).2;have keep7:∀b,b<W6.heap.size->(Value.slice uo H.length ucap).ownBlock≠some b->w7.heap[b]? =W6.heap[b]? :=fun b hb hne=>(hgrow.block b (by simp<;>omega) (fun e=>hne e.symm)).trans (B6.block b hb);have lth:h<W6:=by omega
   have HM7:=zh ((keep7 h lth (fun e=>HN.out.2.1 h e rfl)).trans HM6.out);have HR7:=zh ((keep7 _ (by omega) (fun e=>by have:=HN.out.2.2.2.2 _ e;omega)).trans HR6.out);have HX7:=zh ((keep7 _ (by omega) (fun e=>by have:=HN.out.2.2.2.2 _ e;omega)).trans HX6.out);have HRW7:=zh (Qb (w3:=w7) HRW6.out (fun b hb=>by
    obtain⟨c2,hc⟩:=Qd HRW6.out hb;refine keep7 b (Array.getElem?_eq_some_iff.1 hc).1 (fun e=> ?_);obtain⟨c3,hc3⟩:=Qd HT6.out e;exact QW hc hc3 (by decide) rfl))
   have HMD7:=zh (show Mods (fun b=>b=h\/(Value.slice so H.length cap).ownBlock=some b\/(Value.slice uo H.length ucap).ownBlock=some b) w w7 from KN ⟨B6.os.trans HMD6.out.os,B6.tape.trans HMD6.out.tape,B6.output.trans HMD6.out.output,Nat.le_trans HMD6.out.size B6.size,fun k hk hF=>(B6.block k (Nat.lt_of_lt_of_le hk HMD6.out.size)).trans (HMD6.out.block k hk hF)⟩ hgrow (fun b hb=> .inl (.inr (.inr hb))));have HOW7:=zh hown;have nub:ub'≠h:=by
    obtain⟨c2,hc⟩:=Qd hown (b:=ub') rfl;exact QW hc HM7.out (by decide)
   have HUV7:=zh (show∀b,(Value.slice (some ub') (H.length+1) ucap').ownBlock=some b->(Value.slice uo H.length ucap).ownBlock=some b\/w.heap.size<=b from fun b hb=>by
    rcases hat with h|h
    ·exact .inl (h▸hb)
    ·rw[h] at hb;injection hb with hb;right;try simp at hb
     omega)
   have NUB:=zh nub;have hsz7:w.heap.size+3<=w7.heap.size:=by omega
   clear hown hgrow hat B6 ltU keep7 nub hz7 h0 h1 h2 fh0 fh1 fh2 hi4 hi4a hi4b hi4c;have hlx:w.heap.size<w7.heap.size:=by omega
   have hlr:w.heap.size+1<w7.heap.size:=by omega
   have hlh:h<w7:=by omega
   obtain⟨h0,h1,h2⟩:=zc3 HM7;obtain⟨fh0,fh1,fh2⟩:=zf3 HM7;have x0:w7.cell? w=some (.int .i64 kd):=by rw[QA HX7.out];rfl
   obtain⟨r0,r1,r2,r3,r4⟩:=zc5 HR7;obtain⟨fr0,fr1,fr2,fr3,fr4⟩:=zf5 HR7;go_wp2_with fail
   obtain⟨W8,hW8⟩:∃W8,W8=(w7.setCell ⟨h,2,none⟩ (.slice (some ub') (H.length+1) ucap')).setCell ⟨h,1,none⟩ (.int .i64 ((H.length:Int)+1)):=⟨_,rfl⟩
   rw[<-hW8];have hz8:W8.heap.size=w7.heap.size:=by rw[hW8];simp
   have ho8:∀b,b≠h->W8.heap[b]? =w7.heap[b]? :=fun b hb=>by rw[hW8,Below.heap_setCell _ _ _ _ hb,Below.heap_setCell _ _ _ _ hb]
   have HM8:=zh (show W8.heap[h]? =some (.cells #[.slice (some rb') (H.length+1) cap',.int .i64 ((H.length:Int)+1),.slice (some ub') (H.length+1) ucap'] 93) by rw[hW8];exact Ql (Ql HM7.out 2 _) 1 _);have HR8:=zh (show W8.heap[w.heap.size+1]? =some (oV 0 0 0 ⟨#[]⟩ 0) from(ho8 _ (by omega)).trans HR7.out);have HX8:=zh (show W8.heap[w.heap.size]? =some (.cells #[kd,tg,nm,.pointer tp,(0:Int),(0:Int),(0:Int),.string ⟨#[]⟩,(0:Int),.slice us un uc,.slice none 0 0] 97) from(ho8 _ (by omega)).trans HX7.out);have HRW8:=zh (Qb (w3:=W8) HRW7.out (fun b hb=>ho8 b (by injection hb with hb;rw[<-hb];exact NRB.out)));have HOW8:=zh (Qb (w3:=W8) HOW7.out (fun b hb=>ho8 b (by injection hb with hb;rw[<-hb];exact NUB.out)));have HMD8:=zh (show Mods (fun b=>b=h\/(Value.slice so H.length cap).ownBlock=some b\/(Value.slice uo H.length ucap).ownBlock=some b) w W8 by rw[hW8];exact QQ (QQ HMD7.out (.inl (.inl rfl)) _) (.inl (.inl rfl)) _);clear hW8 ho8 h0 h1 h2 fh0 fh1 fh2 x0 r0 r1 r2 r3 r4 fr0 fr1 fr2 fr3 fr4;have hly:w.heap.size<W8.heap.size:=by omega
   have hlr8:w.heap.size+1<W8.heap.size:=by omega
   have hlh8:h<W8:=by omega
   clear hz8 hlx hlr hlh;obtain⟨h0,h1,h2⟩:=zc3 HM8;have x0:W8.cell? w=some (.int .i64 kd):=by rw[QA HX8.out];rfl
   obtain⟨r0,r1,r2,r3,r4⟩:=zc5 HR8;obtain⟨fr0,fr1,fr2,fr3,fr4⟩:=zf5 HR8;refine QK mixed (by kernel_rfl) ?_;go_wp2;refine⟨by kernel_rfl,?_⟩;go_wp2;refine zr (by simp[results,results110,go_sem,hlr8,r0,r1,r2,r3,r4]<;>rfl) ?_;have fin:∀W:World,Mods (fun b=>b=w.heap.size+1) W8 W->RHpAt W h (.slice (some rb') (H.length+1) cap') (.slice (some ub') (H.length+1) ucap') (H++[(⟨kd,tg,nm,V.nil,.slice us un uc,.slice none 0 0,t0,m0,.slice none 0 0,[]⟩:RO)])/\Mods (fun b=>b=h\/(Value.slice so H.length cap).ownBlock=some b\/(Value.slice uo H.length ucap).ownBlock=some b) w W:=fun W hW=>by
    have hMW:Mods (fun b=>b=h\/(Value.slice so H.length cap).ownBlock=some b\/(Value.slice uo H.length ucap).ownBlock=some b) w W:=⟨hW.os.trans HMD8.out.os,hW.tape.trans HMD8.out.tape,hW.output.trans HMD8.out.output,Nat.le_trans HMD8.out.size hW.size,fun k hk hF=>(hW.block k (Nat.lt_of_lt_of_le hk HMD8.out.size) (by omega)).trans (HMD8.out.block k hk hF)⟩
    have kr:∀{b:Nat} {cs:Array Value} {t:TypeId} {fz:Nat×Nat},W8.heap[b]? =some (.cells cs t fz)->t≠25->W.heap[b]? =W8.heap[b]? :=fun hb ht=>hW.block _ (Array.getElem?_eq_some_iff.1 hb).1 (fun e=>QW hb HR8.out ht e);have hcl:Zv H++[.int .i64 kd,.int .i64 tg,.string nm,.pointer tp,.int .i64 0,.int .i64 0,.int .i64 0,.string ⟨#[]⟩,.int .i64 0,.slice us un uc,.slice none 0 0]=Zv H++((⟨kd,tg,nm,V.nil,.slice us un uc,.slice none 0 0,t0,m0,.slice none 0 0,[]⟩:RO)).cells:=by
     show _=Zv H++[.int .i64 kd,.int .i64 tg,.string nm,((⟨kd,tg,nm,V.nil,.slice us un uc,.slice none 0 0,t0,m0,.slice none 0 0,[]⟩:RO)).tv,.int .i64 0,.int .i64 0,.int .i64 0,.string ⟨#[]⟩,.int .i64 0,.slice us un uc,.slice none 0 0];rw[HTV.out]
    have hrx:=Qb (w3:=W) HRW8.out (fun b hb=>by obtain⟨c2,hc⟩:=Qd HRW8.out hb;exact kr hc (by decide));rw[hcl] at hrx;refine⟨HHH.out.add2 hMW ((kr HM8.out (by decide)).trans HM8.out) hrx ⟨bs++[true],?_⟩ (Ov hMW HHH.out HXX.out rfl) HSP.out,hMW⟩;rw[List.map_append];exact Qb HOW8.out (fun b hb=>by obtain⟨c2,hc⟩:=Qd HOW8.out hb;exact kr hc (by decide))
   refine⟨⟨_,rfl⟩,_,_,(fin _ ?_).1,(fin _ ?_).2,HAV5.out,HUV7.out⟩;all_goals exact(Z5 (F:=fun b=>b=w.heap.size+1) (Mods.refl _ W8) (.inl rfl) _ _ _ _ _).trans (Mods.of_below (Below.refl _ _).drew)
theorem NW (w:World) (h:Nat) (av uv:Value) (H:List RO) (hH:RHpAt w h av uv H) (hl:H.length<=1000):Calls prog 64 #[.pointer (some ⟨h,0,none⟩),.string ⟨#[100]⟩] w (RGrow w h av uv H ⟨8,V.nil,[]⟩):=by
 have hlt:h<w.heap.size:=(Array.getElem?_eq_some_iff.1 hH.hh).1;obtain⟨bs,hTc⟩:=hH.tch;have HAV:=zh (fun b (hb:av.ownBlock=some b)=>(QS hH.row hb).2);have HUV:=zh (fun b (hb:uv.ownBlock=some b)=>(QS hTc hb).2);have HHH:=zh hH;have HLL:=zh hl;clear hH hTc hl;go_enter func64,ntmps64;go_wp2;obtain⟨W1,hW1⟩:∃W1,W1=(w.alloc (oV 0 0 0 ⟨#[]⟩ 0)).alloc (.cells #[] 25):=⟨_,rfl⟩
 rw[<-hW1];have hz1:W1.heap.size=w.heap.size+1+1:=by rw[hW1];simp
 have HB1:=zh (show Below w w W1 by rw[hW1];exact QE _ _ _);have HR1:=zh (show W1.heap[w.heap.size]? =some (oV 0 0 0 ⟨#[]⟩ 0) by rw[hW1];exact Qm _ _ _);have hown:W1.ownsRow (w.heap.size+1) 25 5 (.slice (some ⟨w+1,0,none⟩) 0 0) 0 []:=by
  rw[hW1];have h1:=World.ownsRow_lit (base:=w.heap.size+1) (e:=25) (size:=5) (w.alloc (oV 0 0 0 ⟨#[]⟩ 0)) #[] 0 (by simp) (Nat.zero_le _) rfl;rw[show(w.alloc (oV 0 0 0 ⟨#[]⟩ 0)).heap.size=w.heap.size+1 by simp] at h1;exact h1
 have HS0:=zh (show DRel W1 (w.heap.size+1) 16 (.slice (some ⟨w+1,0,none⟩) 0 0) (.int .i64 0) W1 from⟨0,_,0,[],rfl,rfl,rfl,Nat.zero_le _,hown,Below.refl _ _⟩);clear hW1 hown
 go_loopg [6,7] 16 (fun gg sv iv wr=>DRel W1 (w.heap.size+1) gg sv iv wr)
 case atStart=>exact HS0.out
 obtain⟨j,so,cap,xs,rfl,rfl,rfl,hj,hown,hb⟩:=hrel;have HOWN:=zh hown;have HB:=zh hb;have hsz:=hb.size;clear hown hb HS0;by_cases hlt:j<16
 ·obtain⟨i5,hi5,hi5a,hi5b,hi5c⟩:=info_parts LA;go_wp2_with (at_builtin;refine wpList_append_own_at _ rfl (.tmp 20) (.tmp 22) 41 rfl (w.heap.size+1) 25 i5 _ 5 48 underlying41 hi5 hi5a hi5b hi5c rfl (by decide) (.slice so j cap) j xs rfl ?A _ 1 1 [.int .i64 0,.int .i64 0,.int .i64 0,.string ⟨#[]⟩,.int .i64 0] rfl rfl ?B ?C ?D ?E ?F ?G)
  case A=>exact QR (QV ((Below.refl _ _).alloc zl _) zl) HOWN.out
  case B=>exact Mp _ _ _ _ _ _ _ _ (by first|rfl|simp)
  case C=>
   intro u hu;simp only[List.mem_cons,List.not_mem_nil,or_false] at hu;rcases hu with rfl|rfl|rfl|rfl|rfl<;>simp[Value.oneCell']
  case D=>unfold maxLen;omega
  case E=>omega
  case F=>simp;omega
  case G=>
   intro v' w5 hown hgrow _ hat;obtain⟨rb',cap',rfl⟩:=Qh hown (by omega);have HO5:=zh hown;have HG5:=zh hgrow;clear hown hgrow hat hi5 hi5a hi5b hi5c;go_wp2
   go_roundg (16-(j+1))
   case measure=>omega
   case rel=>
    refine⟨j+1,_,cap',_,rfl,rfl,rfl,by omega,HO5.out,?_⟩;have hb1:Below (w.heap.size+1) wr (wr.alloc (.cells #[(0:Int),(0:Int),(0:Int),.string ⟨#[]⟩,(0:Int)] 25)):=(Below.refl _ _).alloc (by omega) _;refine HB.out.trans ⟨HG5.out.os.trans hb1.os,HG5.out.tape.trans hb1.tape,HG5.out.output.trans hb1.output,Nat.le_trans hb1.size HG5.out.size,fun b hb=>(HG5.out.block b (Nat.lt_of_lt_of_le (by omega) hb1.size) (fun e=> ?_)).trans (hb1.block b hb)⟩;have:=(QS HOWN.out e.symm).1;omega
 ·obtain rfl:j=16:=by omega
  have HBW:=zh (HB1.out.trans (HB.out.mono (show w.heap.size<=w.heap.size+1 by omega)));have HRR:=zh (show wr.heap[w.heap.size]? =some (oV 0 0 0 ⟨#[]⟩ 0) from(HB.out.block _ (by omega)).trans HR1.out);go_wp2_with fail
  refine(Oo _ h av uv H (HHH.out.below HBW.out) HLL.out 8 0 ⟨#[100]⟩ none so 16 cap 0 0 ⟨.inr (.inr rfl),Yf,fun h=>absurd h (show¬(8:Int)=5 by decide),fun h=>absurd h (show¬(8:Int)=4 by decide)⟩ rfl (fun y hy _ h=>absurd h (show¬(8:Int)=4 by decide))).mono ?_;rintro e w3 ⟨⟨v3,rfl⟩,av',uv',hA,hM,h3,h4⟩;have HA:=zh hA;have HM:=zh hM;have H3:=zh h3;have H4:=zh h4;have HBX:=zh (show Below w w wr from HBW.out);have HR3:=zh (Qn hM HRR.out (fun e=>by rcases e with e|e|e<;>first|omega|(have:=HAV.out _ e;omega)|(have:=HUV.out _ e;omega)));have hyr:w.heap.size<w3.heap.size:=(Array.getElem?_eq_some_iff.1 HR3.out).1;clear hA hM h3 h4;obtain⟨r0,r1,r2,r3,r4⟩:=zc5 HR3;obtain⟨fr0,fr1,fr2,fr3,fr4⟩:=zf5 HR3;go_wp2;refine zr (by simp[results,results64,go_sem,hyr,r0,r1,r2,r3,r4]<;>rfl) ?_;refine XU HBX.out HA.out HM.out H3.out H4.out HR3.out (Z5 (F:=fun b=>b=w.heap.size) (Mods.refl _ _) (.inl rfl) _ _ _ _ _) rfl rfl (fun b hb=> ?_) _;exact absurd hb.1 (show¬(8:Int)=4 by decide)
end Go.Proofs.YthkpckgcgkijbaaGreatDoor
