import Derived.Test.YthkpckgcgkijbaaGreatDoorOpD
import Derived.Test.YthkpckgcgkijbaaGreatDoorMapL
set_option linter.unusedVariables false
set_option linter.unusedSimpArgs false
set_option maxRecDepth 100000
set_option maxHeartbeats 2000000
namespace Go.Proofs.YthkpckgcgkijbaaGreatDoor
open Go.RowKit Go.Proofs.Lexi Go.Proofs.Tryz
theorem CK (w:World) (m g:Nat) (sv:Value) (L:List Sl) (hO:OMap w m g sv L) (hL:L.length<=1000) (k p q:Int) (s:ByteArray) (r:Int) (hk:WfV ⟨k,p,q,s,r⟩):
  Calls prog 142 #[m,.agg #[k,p,q,s,r]] w (ValPost w (FQ L ⟨k,p,q,s,r⟩)):=by
 obtain⟨hm,hrow,_,E,f,hE,hG,hI⟩:=hO;have hlt:m<w:=(Array.getElem?_eq_some_iff.1 hm).1;have hgl:=hE.lt;have HM:=zh (Qs hm (oV k p q s r) (oV 0 0 0 ⟨#[]⟩ 0));have m1:((w.alloc (.cells #[k,p,q,s,r] 25)).alloc (.cells #[(0:Int),(0:Int),(0:Int),.string ⟨#[]⟩,(0:Int)] 25)).cell? ⟨m,1,none⟩=some (.map (some g)):=by rw[QA HM.out];rfl
 have W0k:∀W,Below w w W->W.heap[g]? =w.heap[g]? :=fun W h=>h.block g hgl;have hways:(f ⟨k,p,q,s,r⟩=none/\∀W,W.heap[g]? =w.heap[g]? ->(Instr.lookup 157 (.map (some g)) (.agg #[k,p,q,s,r]) true).run prog W= .ok (.tuple #[.int .i64 0,.bool false]) W)\/
   ∃n:Nat,f ⟨k,p,q,s,r⟩=some n/\∀W,W.heap[g]? =w.heap[g]? ->(Instr.lookup 157 (.map (some g)) (.agg #[k,p,q,s,r]) true).run prog W= .ok (.tuple #[.int .i64 (n:Int),.bool true]) W:=by
  rcases Ya hE hG hk w rfl with⟨h1,_⟩|⟨n,h1,_⟩
  ·refine .inl ⟨h1,fun W hW=> ?_⟩;rcases Ya hE hG hk W hW with⟨_,h2⟩|⟨n,h2,_⟩
   ·exact h2
   ·rw[h1] at h2;cases h2
  ·refine .inr ⟨n,h1,fun W hW=> ?_⟩;rcases Ya hE hG hk W hW with⟨h2,_⟩|⟨n2,h2,h3⟩
   ·rw[h1] at h2;cases h2
   ·rw[h1] at h2;injection h2 with h2;subst h2;exact h3
 have WK:=zh W0k;clear W0k;have key:∀W:World,W.heap=((w.alloc (.cells #[k,p,q,s,r] 25)).alloc (.cells #[(0:Int),(0:Int),(0:Int),.string ⟨#[]⟩,(0:Int)] 25)).heap->W.heap[g]? =w.heap[g]? :=fun W h=>by rw[h];exact(QE w _ _).block g hgl
 have KEY:=zh key;clear key;rcases hways with⟨hf,hlk⟩|⟨n,hf,hlk⟩
 ·have HR:=zh (hI.get_miss hf);have HLK:=zh hlk;clear hf hlk hI hG hE hrow;go_enter func142,ntmps142;go_wp2;refine QK mixed (by kernel_rfl) ?_;go_wp2_with (at_lookup;refine Qv _ rfl _ _ _ _ rfl _ _ _ rfl rfl (HLK.out _ (KEY.out _ rfl)) ?_)
  refine⟨by kernel_rfl,?_⟩;go_wp2;refine zr (by simp[results,results142,go_sem]<;>rfl) ?_;exact Qo HR.out (by first|exact(QE _ _ _).drew|exact QE _ _ _|exact below_drewN (QE _ _ _) _)
 ·obtain⟨sl,hsl,hsk⟩:=hI.key _ _ hf;have hnl:n<L.length:=(List.getElem?_eq_some_iff.1 hsl).1;have HR:=zh (hI.get_at hf hsl);have hrow2:=QR (QV (QE w (oV k p q s r) (oV 0 0 0 ⟨#[]⟩ 0)) zl) hrow;obtain⟨rb,cap,rfl⟩:=Qh hrow (by omega);have cellf:∀j u,j<11->(ZP sl)[j]? =some u->((w.alloc (.cells #[k,p,q,s,r] 25)).alloc (.cells #[(0:Int),(0:Int),(0:Int),.string ⟨#[]⟩,(0:Int)] 25)).cell? ⟨rb,n*11+j,none⟩=some u:=fun j u hj hu=>
   (hrow2.cellAt (n*11+j) (by omega)).trans ((Qk L n j sl hsl hj).trans hu)
  have v0:=cellf 5 _ (by decide) rfl;have v1:=cellf 6 _ (by decide) rfl;have v2:=cellf 7 _ (by decide) rfl;have v3:=cellf 8 _ (by decide) rfl;have v4:=cellf 9 _ (by decide) rfl;have m0:((w.alloc (.cells #[k,p,q,s,r] 25)).alloc (.cells #[(0:Int),(0:Int),(0:Int),.string ⟨#[]⟩,(0:Int)] 25)).cell? m=some (.slice (some rb) L.length cap):=by rw[QA HM.out];rfl
  have HLK:=zh hlk;clear hf hlk hI hG hE hrow hsl hsk cellf hrow2;go_enter func142,ntmps142;go_wp2;refine QK mixed (by kernel_rfl) ?_;go_wp2_with (at_lookup;refine Qv _ rfl _ _ _ _ rfl _ _ _ rfl rfl (HLK.out _ (KEY.out _ rfl)) ?_)
  refine⟨by kernel_rfl,?_⟩;go_wp2;refine zr (by simp[results,results142,go_sem]<;>rfl) ?_;exact Qo HR.out (by first|exact(QE _ _ _).drew|exact QE _ _ _|exact QG (QE _ _ _).drew (by simp<;>omega) _ _ _ _ _|exact QG (QE _ _ _) (by simp<;>omega) _ _ _ _ _)
theorem EM (w:World) (m g rb cap n:Nat) (L:List Sl) (hm:w.heap[m]? =some (.cells #[.slice (some rb) L.length cap,.map (some g),.int .i64 (Q1 L:Nat)] 159))
  (hrow:w.ownsRow 0 161 11 (.slice (some rb) L.length cap) L.length (ZA L)) (hL:L.length<=1000) (hg:g<w.heap.size) (k1 p1 q1:Int) (s1:ByteArray) (r1:Int) (k2 p2 q2:Int) (s2:ByteArray) (r2:Int) (sl:Sl) (hsl:L[n]? =some sl)
  (hlk:∀W,W.heap[g]? =w.heap[g]? ->(Instr.lookup 157 (.map (some g)) (.agg #[k1,p1,q1,s1,r1]) true).run prog W= .ok (.tuple #[.int .i64 (n:Int),.bool true]) W)
  (hvk:∀W,Calls prog 36 #[.agg #[k1,p1,q1,s1,r1]] W (BoolPost W true)) (hvv:∀W,Calls prog 36 #[.agg #[k2,p2,q2,s2,r2]] W (BoolPost W true)) (hk0:(k1==0)=false) (hv0:(k2==0)=true) (hgf:sl.g=false) (hl1:1<=Q1 L):
  Calls prog 173 #[m,.agg #[k1,p1,q1,s1,r1],.agg #[k2,p2,q2,s2,r2]] w (fun e w'=>e= .returned (.int .i64 0)/\∃w2,Below w w w2/\w'=(setCells w2 rb (n*11) (ZP ⟨⟨k1,p1,q1,s1,r1⟩,V.nil,true⟩)).setCell ⟨m,2,none⟩ (.int .i64 ((Q1 L:Nat)-1:Int))):=by
 have hl2:=ZR L;have hnl:n<L.length:=(List.getElem?_eq_some_iff.1 hsl).1;have hml:m<w:=(Array.getElem?_eq_some_iff.1 hm).1;have hrl:rb<w:=(QS hrow rfl).2;have HVK:=zh hvk;have HVV:=zh hvv;have HLK:=zh hlk;clear hvk hvv hlk;go_enter func173,ntmps173;go_wp2_with fail
 refine(HVK.out _).mono ?_;rintro e w1 ⟨rfl,hb⟩;have HKB:=hkh hb (Qm _ _ _);have HVB:=hkh hb (QY _ _ _);have HW1:=hbn (QE _ _ _) hb;have hz1:=hb.size;simp at hz1;clear hb;obtain⟨b0,b1,b2,b3,b4⟩:=zc5 HVB;go_wp2_with fail
 refine(HVV.out _).mono ?_;rintro e w2 ⟨rfl,hb⟩;have HKB2:=hkh hb HKB;have HVB2:=hkh hb HVB;have HW2:=hbn HW1 hb;have hz2:=hb.size;have HMM:=hkh HW2.out hm;have HROW:=zh (QR (QV HW2.out zl) hrow);have HGG:=zh (bw HW2.out hg);have hgone:w2.cell? ⟨rb,n*11+10,none⟩=some (.bool sl.g):=(HROW.out.cellAt (n*11+10) (by omega)).trans (Qk L n 10 sl hsl (by decide));clear hb b0 b1 b2 b3 b4 HKB HVB;obtain⟨a0,a1,a2,a3,a4⟩:=zc5 HKB2;obtain⟨b0,b1,b2,b3,b4⟩:=zc5 HVB2;obtain⟨m0,m1,m2⟩:=zc3 HMM;obtain⟨fm0,fm1,fm2⟩:=zf3 HMM;rw[hgf] at hgone;go_wp2;refine QK mixed (by kernel_rfl) ?_;go_wp2_with (at_lookup;refine Qv _ rfl _ _ _ _ rfl _ _ _ rfl rfl (HLK.out _ HGG.out) ?_)
 refine⟨by kernel_rfl,?_⟩;go_wp2;have HTH:=zh (fun W (hW:W.heap=w2.heap)=>JF (Qb (w3:=W) HROW.out (fun g _=>by rw[hW])) (n*11) 11 (by omega));have m2x:∀W:World,W.heap=w2.heap->∀vs,(W.setCells rb (n*11) vs).cell? ⟨m,2,none⟩=some (.int .i64 (Q1 L:Nat)):=fun W hW vs=>by
  rw[ZH,World.cell?_of_block (ZS (fun e=>mrb HMM.out HROW.out e) vs W (n*11)),World.cell?_of_block (w:=w2) (by rw[hW])];exact m2
 have f2x:∀W:World,W.heap=w2.heap->∀vs,(W.setCells rb (n*11) vs).frozen? ⟨m,2,none⟩=false:=fun W hW vs=>by
  rw[ZH,World.frozen?_of_block (ZS (fun e=>mrb HMM.out HROW.out e) vs W (n*11)),World.frozen?_of_block (w:=w2) (by rw[hW])];exact fm2
 have m20:=m2x w2 rfl;have m21:=m2x w2.drew rfl;have m22:=m2x w2.drew.drew rfl;have f20:=f2x w2 rfl;have f21:=f2x w2.drew rfl;have f22:=f2x w2.drew.drew rfl;clear m2x f2x;refine QK mixed (by kernel_rfl) ?_;go_wp2_with (refine wpList_store_mid rfl 161 _ _ rfl rb (n*11) _ rfl rfl (HTH.out _ rfl) Sh (by simp[Value.oneCell']) ?_)
 refine⟨by kernel_rfl,?_⟩;go_wp2
 go_ret
 exact⟨rfl,w2.drew.drew,HW2.out.drew.drew,congrArg (fun W=>World.setCell W ⟨m,2,none⟩ (.int .i64 ((Q1 L:Nat)-1:Int))) (ZH (ZP ⟨⟨k1,p1,q1,s1,r1⟩,V.nil,true⟩) w2.drew.drew (n*11))⟩
theorem Dp (w:World) (m g rb cap n:Nat) (L:List Sl) (hm:w.heap[m]? =some (.cells #[.slice (some rb) L.length cap,.map (some g),.int .i64 (Q1 L:Nat)] 159))
  (hrow:w.ownsRow 0 161 11 (.slice (some rb) L.length cap) L.length (ZA L)) (hL:L.length<=1000) (hg:g<w.heap.size) (k1 p1 q1:Int) (s1:ByteArray) (r1:Int) (k2 p2 q2:Int) (s2:ByteArray) (r2:Int) (sl:Sl) (hsl:L[n]? =some sl)
  (hlk:∀W,W.heap[g]? =w.heap[g]? ->(Instr.lookup 157 (.map (some g)) (.agg #[k1,p1,q1,s1,r1]) true).run prog W= .ok (.tuple #[.int .i64 (n:Int),.bool true]) W)
  (hvk:∀W,Calls prog 36 #[.agg #[k1,p1,q1,s1,r1]] W (BoolPost W true)) (hvv:∀W,Calls prog 36 #[.agg #[k2,p2,q2,s2,r2]] W (BoolPost W true)) (hk0:(k1==0)=false) (hv0:(k2==0)=false) (hgf:sl.g=false):
  Calls prog 173 #[m,.agg #[k1,p1,q1,s1,r1],.agg #[k2,p2,q2,s2,r2]] w (fun e w'=>e= .returned (.int .i64 0)/\∃w2,Below w w w2/\w'=setCells w2 rb (n*11+5) (ZC ⟨k2,p2,q2,s2,r2⟩)):=by
 have hl2:=ZR L;have hnl:n<L.length:=(List.getElem?_eq_some_iff.1 hsl).1;have hml:m<w:=(Array.getElem?_eq_some_iff.1 hm).1;have hrl:rb<w:=(QS hrow rfl).2;have HVK:=zh hvk;have HVV:=zh hvv;have HLK:=zh hlk;clear hvk hvv hlk;go_enter func173,ntmps173;go_wp2_with fail
 refine(HVK.out _).mono ?_;rintro e w1 ⟨rfl,hb⟩;have HKB:=hkh hb (Qm _ _ _);have HVB:=hkh hb (QY _ _ _);have HW1:=hbn (QE _ _ _) hb;have hz1:=hb.size;simp at hz1;clear hb;obtain⟨b0,b1,b2,b3,b4⟩:=zc5 HVB;go_wp2_with fail
 refine(HVV.out _).mono ?_;rintro e w2 ⟨rfl,hb⟩;have HKB2:=hkh hb HKB;have HVB2:=hkh hb HVB;have HW2:=hbn HW1 hb;have hz2:=hb.size;have HMM:=hkh HW2.out hm;have HROW:=zh (QR (QV HW2.out zl) hrow);have HGG:=zh (bw HW2.out hg);have hgone:w2.cell? ⟨rb,n*11+10,none⟩=some (.bool sl.g):=(HROW.out.cellAt (n*11+10) (by omega)).trans (Qk L n 10 sl hsl (by decide));clear hb b0 b1 b2 b3 b4 HKB HVB;obtain⟨a0,a1,a2,a3,a4⟩:=zc5 HKB2;obtain⟨b0,b1,b2,b3,b4⟩:=zc5 HVB2;obtain⟨m0,m1,m2⟩:=zc3 HMM;obtain⟨fm0,fm1,fm2⟩:=zf3 HMM;rw[hgf] at hgone;go_wp2;refine QK mixed (by kernel_rfl) ?_;go_wp2_with (at_lookup;refine Qv _ rfl _ _ _ _ rfl _ _ _ rfl rfl (HLK.out _ HGG.out) ?_)
 refine⟨by kernel_rfl,?_⟩;go_wp2;have HTH:=zh (fun W (hW:W.heap=w2.heap)=>JF (Qb (w3:=W) HROW.out (fun g _=>by rw[hW])) (n*11+5) 5 (by omega));refine QK mixed (by kernel_rfl) ?_;go_wp2_with (refine wpList_store_mid rfl 25 _ _ rfl rb (n*11+5) _ rfl rfl (HTH.out _ rfl) Uj (by simp[Value.oneCell']) ?_)
 refine⟨by kernel_rfl,?_⟩;go_wp2
 go_ret
 exact⟨rfl,w2.drew.drew,HW2.out.drew.drew,ZH (ZC ⟨k2,p2,q2,s2,r2⟩) w2.drew.drew (n*11+5)⟩
theorem TL (w:World) (m g rb cap n:Nat) (L:List Sl) (hm:w.heap[m]? =some (.cells #[.slice (some rb) L.length cap,.map (some g),.int .i64 (Q1 L:Nat)] 159))
  (hrow:w.ownsRow 0 161 11 (.slice (some rb) L.length cap) L.length (ZA L)) (hL:L.length<=1000) (hg:g<w) (k1 p1 q1:Int) (s1:ByteArray) (r1:Int) (k2 p2 q2:Int) (s2:ByteArray) (r2:Int) (sl:Sl) (hsl:L[n]? =some sl)
  (hlk:∀W,W.heap[g]? =w.heap[g]? ->(Instr.lookup 157 (.map (some g)) (.agg #[k1,p1,q1,s1,r1]) true).run prog W= .ok (.tuple #[.int .i64 (n:Int),.bool true]) W)
  (hvk:∀W,Calls prog 36 #[.agg #[k1,p1,q1,s1,r1]] W (BoolPost W true)) (hvv:∀W,Calls prog 36 #[.agg #[k2,p2,q2,s2,r2]] W (BoolPost W true)) (hk0:(k1==0)=false) (hv0:(k2==0)=true) (hgf:sl.g=true):
  Calls prog 173 #[m,.agg #[k1,p1,q1,s1,r1],.agg #[k2,p2,q2,s2,r2]] w (fun e w'=>e= .returned (.int .i64 0)/\Below w w w'):=by
 have hl2:=ZR L;have hnl:n<L.length:=(List.getElem?_eq_some_iff.1 hsl).1;have hml:m<w:=(Array.getElem?_eq_some_iff.1 hm).1;have hrl:rb<w:=(QS hrow rfl).2;have HVK:=zh hvk;have HVV:=zh hvv;have HLK:=zh hlk;clear hvk hvv hlk;go_enter func173,ntmps173;go_wp2_with fail
 refine(HVK.out _).mono ?_;rintro e w1 ⟨rfl,hb⟩;have HKB:=hkh hb (Qm _ _ _);have HVB:=hkh hb (QY _ _ _);have HW1:=hbn (QE _ _ _) hb;have hz1:=hb.size;simp at hz1;clear hb;obtain⟨b0,b1,b2,b3,b4⟩:=zc5 HVB;go_wp2_with fail
 refine(HVV.out _).mono ?_;rintro e w2 ⟨rfl,hb⟩;have HKB2:=hkh hb HKB;have HVB2:=hkh hb HVB;have HW2:=hbn HW1 hb;have hz2:=hb.size;have HMM:=hkh HW2.out hm;have HROW:=zh (QR (QV HW2.out zl) hrow);have HGG:=zh (bw HW2.out hg);have hgone:w2.cell? ⟨rb,n*11+10,none⟩=some (.bool sl.g):=(HROW.out.cellAt (n*11+10) (by omega)).trans (Qk L n 10 sl hsl (by decide));clear hb b0 b1 b2 b3 b4 HKB HVB;obtain⟨a0,a1,a2,a3,a4⟩:=zc5 HKB2;obtain⟨b0,b1,b2,b3,b4⟩:=zc5 HVB2;obtain⟨m0,m1,m2⟩:=zc3 HMM;obtain⟨fm0,fm1,fm2⟩:=zf3 HMM;rw[hgf] at hgone;go_wp2;refine QK mixed (by kernel_rfl) ?_;go_wp2_with (at_lookup;refine Qv _ rfl _ _ _ _ rfl _ _ _ rfl rfl (HLK.out _ HGG.out) ?_)
 refine⟨by kernel_rfl,?_⟩;go_wp2
 go_ret
 exact⟨rfl,HW2.out.drew⟩
theorem TJ (w:World) (m g cap:Nat) (so:Option Addr) (L:List Sl) (E:List (Value×Value)) (f:V->Option Nat) (hm:w.heap[m]? =some (.cells #[.slice so L.length cap,.map (some g),.int .i64 (Q1 L:Nat)] 159))
  (hrow:w.ownsRow 0 161 11 (.slice so L.length cap) L.length (ZA L)) (hL:L.length<=1000) (hE:MapAt prog 25 w g E) (hG:Graph E f) (hroom:¬Q1 L+8<L.length-Q1 L) (k1 p1 q1:Int) (s1:ByteArray) (r1:Int) (k2 p2 q2:Int) (s2:ByteArray) (r2:Int) (hkw:WfV ⟨k1,p1,q1,s1,r1⟩)
  (hvk:∀W,Calls prog 36 #[.agg #[k1,p1,q1,s1,r1]] W (BoolPost W true)) (hvv:∀W,Calls prog 36 #[.agg #[k2,p2,q2,s2,r2]] W (BoolPost W true)) (hk0:(k1==0)=false) (hI:Idx L f) (hno:NoLive L f ⟨k1,p1,q1,s1,r1⟩) (hwf:∀s∈L,WfV s.k/\WfV s.v) (hvw:WfV ⟨k2,p2,q2,s2,r2⟩) (hv0:(k2==0)=false)
  (hlk:∀W,W.heap[g]? =w.heap[g]? ->(Instr.lookup 157 (.map (some g)) (.agg #[k1,p1,q1,s1,r1]) true).run prog W= .ok (.tuple #[.int .i64 0,.bool false]) W):
  Calls prog 173 #[m,.agg #[k1,p1,q1,s1,r1],.agg #[k2,p2,q2,s2,r2]] w (OmPost w m g (.slice so L.length cap) (L++[⟨⟨k1,p1,q1,s1,r1⟩,⟨k2,p2,q2,s2,r2⟩,false⟩])):=by
 have HII:=zh hI;have HNO:=zh hno;have HWF:=zh hwf;have HKW:=zh hkw;have HVW:=zh hvw;clear hI hno hwf hvw;have hl2:=ZR L;have hml:m<w:=(Array.getElem?_eq_some_iff.1 hm).1;have hg:g<w:=hE.lt;have hmg:m≠g:=fun e=>by
  obtain⟨es,c,he,_⟩:=id hE;rw[<-e,hm] at he;cases he
 obtain⟨es0,c0,hgm,_⟩:=id hE;have hrg:=GO hrow hgm;have HGM:=zh hgm;have HRG:=zh hrg;have HST:=zh (Yk hE hG hkw);clear hgm hrg;have HVK:=zh hvk;have HVV:=zh hvv;have HLK:=zh hlk;clear hvk hvv hlk hE hG;go_enter func173,ntmps173;go_wp2_with fail
 refine(HVK.out _).mono ?_;rintro e w1 ⟨rfl,hb⟩;have HKB:=hkh hb (Qm _ _ _);have HVB:=hkh hb (QY _ _ _);have HW1:=hbn (QE _ _ _) hb;have hz1:=hb.size;simp at hz1;clear hb;obtain⟨b0,b1,b2,b3,b4⟩:=zc5 HVB;go_wp2_with fail
 refine(HVV.out _).mono ?_;rintro e w2 ⟨rfl,hb⟩;have HKB2:=hkh hb HKB;have HVB2:=hkh hb HVB;have HW2:=hbn HW1 hb;have hz2:=hb.size;have HMM:=hkh HW2.out hm;have HROW:=zh (QR (QV HW2.out zl) hrow);have HGG:=zh (bw HW2.out hg);clear hb b0 b1 b2 b3 b4 HKB HVB;obtain⟨a0,a1,a2,a3,a4⟩:=zc5 HKB2;obtain⟨b0,b1,b2,b3,b4⟩:=zc5 HVB2;obtain⟨m0,m1,m2⟩:=zc3 HMM;obtain⟨fm0,fm1,fm2⟩:=zf3 HMM;go_wp2;refine QK mixed (by kernel_rfl) ?_;go_wp2_with (at_lookup;refine Qv _ rfl _ _ _ _ rfl _ _ _ rfl rfl (HLK.out _ HGG.out) ?_)
 refine⟨by kernel_rfl,?_⟩;go_wp2;refine QK mixed (by kernel_rfl) ?_;go_wp2;refine⟨by kernel_rfl,?_⟩;go_wp2;refine QK mixed (by kernel_rfl) ?_;go_wp2_with (at_mapUpdate;refine ZE _ rfl _ _ _ _ rfl _ _ _ rfl rfl rfl _ (HST.out L.length _ HGG.out) ?_;intro w3 hw3)
 refine⟨by kernel_rfl,?_⟩;go_wp2;obtain⟨hput,hmods,hsz3⟩:=hw3;have HPUT:=zh hput;have HK3:=zh (Qn hmods (show w2.drew.drew.drew.heap[w.heap.size]? =_ from HKB2.out) (by omega));have HV3:=zh (Qn hmods (show w2.drew.drew.drew.heap[w.heap.size+1]? =_ from HVB2.out) (by omega));have HM3:=zh (Qn hmods (show w2.drew.drew.drew.heap[m]? =_ from HMM.out) hmg);have HR3:=zh (Qb (w3:=w3) HROW.out (fun b hb=>hmods.block b (QS HROW.out hb).2 (HRG.out b hb)));have HMD:=zh hmods;have hsz3':w2.heap.size<=w3.heap.size:=Nat.le_of_eq (Eq.symm hsz3);clear hput hmods hsz3 a0 a1 a2 a3 a4 b0 b1 b2 b3 b4 m0 m1 m2 fm0 fm1 fm2;obtain⟨a0,a1,a2,a3,a4⟩:=zc5 HK3;obtain⟨b0,b1,b2,b3,b4⟩:=zc5 HV3;obtain⟨m0,m1,m2⟩:=zc3 HM3;obtain⟨fm0,fm1,fm2⟩:=zf3 HM3;obtain⟨i6,hi6,hi6a,hi6b,hi6c⟩:=info_parts YA;refine QK mixed (by kernel_rfl) ?_;go_wp2_with (at_builtin;refine wpList_append_own_at _ rfl (.tmp 79) (.tmp 83) 156 rfl 0 161 i6 _ 11 104 underlying156 hi6 hi6a hi6b hi6c rfl (by decide) (.slice so L.length cap) L.length (ZA L) rfl ?A _ 1 1 [.int .i64 k1,.int .i64 p1,.int .i64 q1,.string s1,.int .i64 r1,.int .i64 k2,.int .i64 p2,.int .i64 q2,.string s2,.int .i64 r2,.bool false] rfl rfl ?B ?C ?D ?E ?F ?G)
 case A=>exact QR (QV ((Below.refl _ _).alloc zl _).drew zl) HR3.out
 case B=>exact ZM _ _ _ _ _ _ _ _ _ _ _ _ _ _ rfl
 case C=>
  intro u hu;simp only[List.mem_cons,List.not_mem_nil,or_false] at hu;rcases hu with rfl|rfl|rfl|rfl|rfl|rfl|rfl|rfl|rfl|rfl|rfl<;>simp[Value.oneCell']
 case D=>unfold maxLen;omega
 case E=>omega
 case F=>exact Nat.zero_le _
 case G=>
  intro v' w4 hown hgrow _ hat;obtain⟨rb',cap',rfl⟩:=Qh hown (by omega);have hrm:=Y3 HR3.out HM3.out;have HM4:=zh (show w4.heap[m]? =_ from(hgrow.block m (by simp;omega) (fun e=>hrm m e.symm rfl)).trans ((Below.heap_alloc w3 _ m (by omega)).trans HM3.out));have HG4:=zh (show w4.heap[g]? =w3.heap[g]? from(hgrow.block g (by simp;omega) (fun e=>HRG.out g e.symm rfl)).trans (Below.heap_alloc w3 _ g (by omega)));have HOWN:=zh hown;have HAT:=zh hat;have HGR:=zh hgrow;clear hown hat hgrow hrm a0 a1 a2 a3 a4 b0 b1 b2 b3 b4 m0 m1 m2 fm0 fm1 fm2;obtain⟨m0,m1,m2⟩:=zc3 HM4;obtain⟨fm0,fm1,fm2⟩:=zf3 HM4;go_wp2;refine⟨by kernel_rfl,?_⟩;go_wp2
  go_ret
  refine⟨rfl,.slice (some rb') (L.length+1) cap',?_,?_,?_⟩
  ·exact Gv HM4.out HOWN.out HPUT.out HG4.out hmg HII.out HNO.out HWF.out HKW.out HVW.out
  ·exact Gw (Mods.of_below HW2.out.drew.drew.drew) HMD.out ((Below.refl _ _).alloc zl _).drew HGR.out (.inl rfl) (.inr (.inl rfl)) (fun b hb=> .inl (.inr (.inr hb)))
  ·intro b hb;rcases HAT.out with h|h
   ·exact .inl (h.symm.trans hb)
   ·rw[h] at hb;injection hb with hb;subst hb;exact .inr (by first|omega|(simp;omega))
end Go.Proofs.YthkpckgcgkijbaaGreatDoor
