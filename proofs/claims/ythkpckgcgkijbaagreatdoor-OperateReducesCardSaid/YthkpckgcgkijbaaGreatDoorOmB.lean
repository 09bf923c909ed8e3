import Derived.Test.YthkpckgcgkijbaaGreatDoorOpCw
import Derived.Test.YthkpckgcgkijbaaGreatDoorMapL
set_option linter.unusedVariables false
set_option linter.unusedSimpArgs false
set_option maxRecDepth 100000
set_option maxHeartbeats 2000000
namespace Go.Proofs.YthkpckgcgkijbaaGreatDoor
open Go.RowKit Go.Proofs.Lexi
theorem pomGet_c (w:World) (m g:Nat) (sv:Value) (L:List Sl) (hO:OMap w m g sv L) (hL:L.length≤1000) (k p q:Int) (s:ByteArray) (r:Int) (hk:WfV ⟨k,p,q,s,r⟩):
  Calls Tryz.prog 142 #[.pointer (some ⟨m,0,none⟩),.agg #[k,p,q,s,r]] w (ValPost w (getM L ⟨k,p,q,s,r⟩)):=by
 obtain⟨hm,hrow,_,E,f,hE,hG,hI⟩:=hO
 have hlt:m<w.heap.size:=(Array.getElem?_eq_some_iff.1 hm).1
 have hgl:=hE.lt
 have HM:=Lib.hid (zAp hm (oV k p q s r) (oV 0 0 0 ⟨#[]⟩ 0))
 have m1:((w.alloc (.cells #[k,p,q,s,r] 25)).alloc (.cells #[.int .i64 0,.int .i64 0,.int .i64 0,.string ⟨#[]⟩,.int .i64 0] 25)).cell? ⟨m,1,none⟩=some (.map (some g)):=by rw[zAA HM.out];rfl
 have W0k:∀W,Below w.heap.size w W→W.heap[g]? =w.heap[g]? :=fun W h=>h.block g hgl
 have hways:(f ⟨k,p,q,s,r⟩=none∧∀W,W.heap[g]? =w.heap[g]? →(Instr.lookup 157 (.map (some g)) (.agg #[k,p,q,s,r]) true).run Tryz.prog W= .ok (.tuple #[.int .i64 0,.bool false]) W)∨
   ∃n:Nat,f ⟨k,p,q,s,r⟩=some n∧∀W,W.heap[g]? =w.heap[g]? →(Instr.lookup 157 (.map (some g)) (.agg #[k,p,q,s,r]) true).run Tryz.prog W= .ok (.tuple #[.int .i64 (n:Int),.bool true]) W:=by
  rcases look_at hE hG hk w rfl with⟨h1,_⟩|⟨n,h1,_⟩
  ·refine .inl ⟨h1,fun W hW=> ?_⟩
   rcases look_at hE hG hk W hW with⟨_,h2⟩|⟨n,h2,_⟩
   ·exact h2
   ·rw[h1] at h2;cases h2
  ·refine .inr ⟨n,h1,fun W hW=> ?_⟩
   rcases look_at hE hG hk W hW with⟨h2,_⟩|⟨n2,h2,h3⟩
   ·rw[h1] at h2;cases h2
   ·rw[h1] at h2;injection h2 with h2;subst h2;exact h3
 have WK:=Lib.hid W0k
 clear W0k
 have key:∀W:World,W.heap=((w.alloc (.cells #[k,p,q,s,r] 25)).alloc (.cells #[.int .i64 0,.int .i64 0,.int .i64 0,.string ⟨#[]⟩,.int .i64 0] 25)).heap→W.heap[g]? =w.heap[g]? :=fun W h=>by rw[h];exact(zAF w _ _).block g hgl
 have KEY:=Lib.hid key
 clear key
 rcases hways with⟨hf,hlk⟩|⟨n,hf,hlk⟩
 ·have HR:=Lib.hid (hI.get_miss hf)
  have HLK:=Lib.hid hlk
  clear hf hlk hI hG hE hrow
  go_enter Tryz.func142,Tryz.ntmps142
  go_wp2
  refine zAK mixed (by kernel_rfl) ?_
  go_wp2_with (at_lookup;refine zAr _ rfl _ _ _ _ rfl _ _ _ rfl rfl (HLK.out _ (KEY.out _ rfl)) ?_)
  refine⟨by kernel_rfl,?_⟩
  go_wp2
  refine bodyPost_ret (by simp[results,Tryz.results142,go_sem];first|done|rfl) rfl ?_
  exact zAo HR.out (by first|exact(zAF _ _ _).drew|exact zAF _ _ _|exact below_drewN (zAF _ _ _) _)
 ·obtain⟨sl,hsl,hsk⟩:=hI.key _ _ hf
  have hnl:n<L.length:=(List.getElem?_eq_some_iff.1 hsl).1
  have HR:=Lib.hid (hI.get_at hf hsl)
  have hrow2:=zAQ (zAa (zAF w (oV k p q s r) (oV 0 0 0 ⟨#[]⟩ 0)) (Nat.le_refl _)) hrow
  obtain⟨rb,cap,rfl⟩:=zAl hrow (by omega)
  have cellf:∀j u,j<11→(zBS sl)[j]? =some u→((w.alloc (.cells #[k,p,q,s,r] 25)).alloc (.cells #[.int .i64 0,.int .i64 0,.int .i64 0,.string ⟨#[]⟩,.int .i64 0] 25)).cell? ⟨rb,n*11+j,none⟩=some u:=fun j u hj hu=>
   (hrow2.cellAt (n*11+j) (by omega)).trans ((zAn L n j sl hsl hj).trans hu)
  have v0:=cellf 5 _ (by decide) rfl
  have v1:=cellf 6 _ (by decide) rfl
  have v2:=cellf 7 _ (by decide) rfl
  have v3:=cellf 8 _ (by decide) rfl
  have v4:=cellf 9 _ (by decide) rfl
  have m0:((w.alloc (.cells #[k,p,q,s,r] 25)).alloc (.cells #[.int .i64 0,.int .i64 0,.int .i64 0,.string ⟨#[]⟩,.int .i64 0] 25)).cell? ⟨m,0,none⟩=some (.slice (some ⟨rb,0,none⟩) L.length cap):=by rw[zAA HM.out];rfl
  have HLK:=Lib.hid hlk
  clear hf hlk hI hG hE hrow hsl hsk cellf hrow2
  go_enter Tryz.func142,Tryz.ntmps142
  go_wp2
  refine zAK mixed (by kernel_rfl) ?_
  go_wp2_with (at_lookup;refine zAr _ rfl _ _ _ _ rfl _ _ _ rfl rfl (HLK.out _ (KEY.out _ rfl)) ?_)
  refine⟨by kernel_rfl,?_⟩
  go_wp2
  refine bodyPost_ret (by simp[results,Tryz.results142,go_sem];first|done|rfl) rfl ?_
  exact zAo HR.out (by first|exact(zAF _ _ _).drew|exact zAF _ _ _|exact zAH (zAF _ _ _).drew (by simp<;>omega) _ _ _ _ _|exact zAH (zAF _ _ _) (by simp<;>omega) _ _ _ _ _)
theorem pomSet_remove (w:World) (m g rb cap n:Nat) (L:List Sl) (hm:w.heap[m]? =some (.cells #[.slice (some ⟨rb,0,none⟩) L.length cap,.map (some g),.int .i64 (liveN L:Nat)] 159))
  (hrow:w.ownsRow 0 161 11 (.slice (some ⟨rb,0,none⟩) L.length cap) L.length (rowSl L)) (hL:L.length≤1000) (hg:g<w.heap.size) (k1 p1 q1:Int) (s1:ByteArray) (r1:Int) (k2 p2 q2:Int) (s2:ByteArray) (r2:Int) (sl:Sl) (hsl:L[n]? =some sl)
  (hlk:∀W,W.heap[g]? =w.heap[g]? →(Instr.lookup 157 (.map (some g)) (.agg #[k1,p1,q1,s1,r1]) true).run Tryz.prog W= .ok (.tuple #[.int .i64 (n:Int),.bool true]) W)
  (hvk:∀W,Calls Tryz.prog 36 #[.agg #[k1,p1,q1,s1,r1]] W (BoolPost W true)) (hvv:∀W,Calls Tryz.prog 36 #[.agg #[k2,p2,q2,s2,r2]] W (BoolPost W true)) (hk0:(k1==0)=false) (hv0:(k2==0)=true) (hgf:sl.g=false) (hl1:1≤liveN L):
  Calls Tryz.prog 173 #[.pointer (some ⟨m,0,none⟩),.agg #[k1,p1,q1,s1,r1],.agg #[k2,p2,q2,s2,r2]] w (fun e w'=>e= .returned (.int .i64 0)∧∃w2,Below w.heap.size w w2∧w'=(setCells w2 rb (n*11) (zBS ⟨⟨k1,p1,q1,s1,r1⟩,V.nil,true⟩)).setCell ⟨m,2,none⟩ (.int .i64 ((liveN L:Nat)-1:Int))):=by
 have hl2:=zBU L
 have hnl:n<L.length:=(List.getElem?_eq_some_iff.1 hsl).1
 have hml:m<w.heap.size:=(Array.getElem?_eq_some_iff.1 hm).1
 have hrl:rb<w.heap.size:=(zAS hrow rfl).2
 have HVK:=Lib.hid hvk
 have HVV:=Lib.hid hvv
 have HLK:=Lib.hid hlk
 clear hvk hvv hlk
 go_enter Tryz.func173,Tryz.ntmps173
 go_wp2_with fail
 refine(HVK.out _).mono ?_
 rintro e w1 ⟨rfl,hb⟩
 have HKB:=hkh hb (zAf _ _ _)
 have HVB:=hkh hb (zAW _ _ _)
 have HW1:=hbn (zAF _ _ _) hb
 have hz1:=hb.size
 simp at hz1
 clear hb
 obtain⟨b0,b1,b2,b3,b4⟩:=cells5 HVB.out
 go_wp2_with fail
 refine(HVV.out _).mono ?_
 rintro e w2 ⟨rfl,hb⟩
 have HKB2:=hkh hb HKB.out
 have HVB2:=hkh hb HVB.out
 have HW2:=hbn HW1.out hb
 have hz2:=hb.size
 have HMM:=hkh HW2.out hm
 have HROW:=Lib.hid (zAQ (zAa HW2.out (Nat.le_refl _)) hrow)
 have HGG:=Lib.hid (bw HW2.out hg)
 have hgone:w2.cell? ⟨rb,n*11+10,none⟩=some (.bool sl.g):=(HROW.out.cellAt (n*11+10) (by omega)).trans (zAn L n 10 sl hsl (by decide))
 clear hb b0 b1 b2 b3 b4 HKB HVB
 obtain⟨a0,a1,a2,a3,a4⟩:=cells5 HKB2.out
 obtain⟨b0,b1,b2,b3,b4⟩:=cells5 HVB2.out
 obtain⟨m0,m1,m2⟩:=zBN HMM.out
 obtain⟨fm0,fm1,fm2⟩:=froz3 HMM.out
 rw[hgf] at hgone
 go_wp2
 refine zAK mixed (by kernel_rfl) ?_
 go_wp2_with (at_lookup;refine zAr _ rfl _ _ _ _ rfl _ _ _ rfl rfl (HLK.out _ HGG.out) ?_)
 refine⟨by kernel_rfl,?_⟩
 go_wp2
 have HTH:=Lib.hid (fun W (hW:W.heap=w2.heap)=>zCG (zAZ (w3:=W) HROW.out (fun g _=>by rw[hW])) (n*11) 11 (by omega))
 have m2x:∀W:World,W.heap=w2.heap→∀vs,(W.setCells rb (n*11) vs).cell? ⟨m,2,none⟩=some (.int .i64 (liveN L:Nat)):=fun W hW vs=>by
  rw[zBJ,World.cell?_of_block (zBV (fun e=>mrb HMM.out HROW.out e) vs W (n*11)),World.cell?_of_block (w:=w2) (by rw[hW])];exact m2
 have f2x:∀W:World,W.heap=w2.heap→∀vs,(W.setCells rb (n*11) vs).frozen? ⟨m,2,none⟩=false:=fun W hW vs=>by
  rw[zBJ,World.frozen?_of_block (zBV (fun e=>mrb HMM.out HROW.out e) vs W (n*11)),World.frozen?_of_block (w:=w2) (by rw[hW])];exact fm2
 have m20:=m2x w2 rfl
 have m21:=m2x w2.drew rfl
 have m22:=m2x w2.drew.drew rfl
 have f20:=f2x w2 rfl
 have f21:=f2x w2.drew rfl
 have f22:=f2x w2.drew.drew rfl
 clear m2x f2x
 refine zAK mixed (by kernel_rfl) ?_
 go_wp2_with (refine wpList_store_mid rfl 161 _ _ rfl rb (n*11) _ rfl rfl (HTH.out _ rfl) info161 (by simp[Value.oneCell']) ?_)
 refine⟨by kernel_rfl,?_⟩
 go_wp2
 go_ret
 exact⟨rfl,w2.drew.drew,HW2.out.drew.drew,congrArg (fun W=>World.setCell W ⟨m,2,none⟩ (.int .i64 ((liveN L:Nat)-1:Int))) (zBJ (zBS ⟨⟨k1,p1,q1,s1,r1⟩,V.nil,true⟩) w2.drew.drew (n*11))⟩
theorem pomSet_write (w:World) (m g rb cap n:Nat) (L:List Sl) (hm:w.heap[m]? =some (.cells #[.slice (some ⟨rb,0,none⟩) L.length cap,.map (some g),.int .i64 (liveN L:Nat)] 159))
  (hrow:w.ownsRow 0 161 11 (.slice (some ⟨rb,0,none⟩) L.length cap) L.length (rowSl L)) (hL:L.length≤1000) (hg:g<w.heap.size) (k1 p1 q1:Int) (s1:ByteArray) (r1:Int) (k2 p2 q2:Int) (s2:ByteArray) (r2:Int) (sl:Sl) (hsl:L[n]? =some sl)
  (hlk:∀W,W.heap[g]? =w.heap[g]? →(Instr.lookup 157 (.map (some g)) (.agg #[k1,p1,q1,s1,r1]) true).run Tryz.prog W= .ok (.tuple #[.int .i64 (n:Int),.bool true]) W)
  (hvk:∀W,Calls Tryz.prog 36 #[.agg #[k1,p1,q1,s1,r1]] W (BoolPost W true)) (hvv:∀W,Calls Tryz.prog 36 #[.agg #[k2,p2,q2,s2,r2]] W (BoolPost W true)) (hk0:(k1==0)=false) (hv0:(k2==0)=false) (hgf:sl.g=false):
  Calls Tryz.prog 173 #[.pointer (some ⟨m,0,none⟩),.agg #[k1,p1,q1,s1,r1],.agg #[k2,p2,q2,s2,r2]] w (fun e w'=>e= .returned (.int .i64 0)∧∃w2,Below w.heap.size w w2∧w'=setCells w2 rb (n*11+5) (zBF ⟨k2,p2,q2,s2,r2⟩)):=by
 have hl2:=zBU L
 have hnl:n<L.length:=(List.getElem?_eq_some_iff.1 hsl).1
 have hml:m<w.heap.size:=(Array.getElem?_eq_some_iff.1 hm).1
 have hrl:rb<w.heap.size:=(zAS hrow rfl).2
 have HVK:=Lib.hid hvk
 have HVV:=Lib.hid hvv
 have HLK:=Lib.hid hlk
 clear hvk hvv hlk
 go_enter Tryz.func173,Tryz.ntmps173
 go_wp2_with fail
 refine(HVK.out _).mono ?_
 rintro e w1 ⟨rfl,hb⟩
 have HKB:=hkh hb (zAf _ _ _)
 have HVB:=hkh hb (zAW _ _ _)
 have HW1:=hbn (zAF _ _ _) hb
 have hz1:=hb.size
 simp at hz1
 clear hb
 obtain⟨b0,b1,b2,b3,b4⟩:=cells5 HVB.out
 go_wp2_with fail
 refine(HVV.out _).mono ?_
 rintro e w2 ⟨rfl,hb⟩
 have HKB2:=hkh hb HKB.out
 have HVB2:=hkh hb HVB.out
 have HW2:=hbn HW1.out hb
 have hz2:=hb.size
 have HMM:=hkh HW2.out hm
 have HROW:=Lib.hid (zAQ (zAa HW2.out (Nat.le_refl _)) hrow)
 have HGG:=Lib.hid (bw HW2.out hg)
 have hgone:w2.cell? ⟨rb,n*11+10,none⟩=some (.bool sl.g):=(HROW.out.cellAt (n*11+10) (by omega)).trans (zAn L n 10 sl hsl (by decide))
 clear hb b0 b1 b2 b3 b4 HKB HVB
 obtain⟨a0,a1,a2,a3,a4⟩:=cells5 HKB2.out
 obtain⟨b0,b1,b2,b3,b4⟩:=cells5 HVB2.out
 obtain⟨m0,m1,m2⟩:=zBN HMM.out
 obtain⟨fm0,fm1,fm2⟩:=froz3 HMM.out
 rw[hgf] at hgone
 go_wp2
 refine zAK mixed (by kernel_rfl) ?_
 go_wp2_with (at_lookup;refine zAr _ rfl _ _ _ _ rfl _ _ _ rfl rfl (HLK.out _ HGG.out) ?_)
 refine⟨by kernel_rfl,?_⟩
 go_wp2
 have HTH:=Lib.hid (fun W (hW:W.heap=w2.heap)=>zCG (zAZ (w3:=W) HROW.out (fun g _=>by rw[hW])) (n*11+5) 5 (by omega))
 refine zAK mixed (by kernel_rfl) ?_
 go_wp2_with (refine wpList_store_mid rfl 25 _ _ rfl rb (n*11+5) _ rfl rfl (HTH.out _ rfl) info25 (by simp[Value.oneCell']) ?_)
 refine⟨by kernel_rfl,?_⟩
 go_wp2
 go_ret
 exact⟨rfl,w2.drew.drew,HW2.out.drew.drew,zBJ (zBF ⟨k2,p2,q2,s2,r2⟩) w2.drew.drew (n*11+5)⟩
theorem pomSet_gone (w:World) (m g rb cap n:Nat) (L:List Sl) (hm:w.heap[m]? =some (.cells #[.slice (some ⟨rb,0,none⟩) L.length cap,.map (some g),.int .i64 (liveN L:Nat)] 159))
  (hrow:w.ownsRow 0 161 11 (.slice (some ⟨rb,0,none⟩) L.length cap) L.length (rowSl L)) (hL:L.length≤1000) (hg:g<w.heap.size) (k1 p1 q1:Int) (s1:ByteArray) (r1:Int) (k2 p2 q2:Int) (s2:ByteArray) (r2:Int) (sl:Sl) (hsl:L[n]? =some sl)
  (hlk:∀W,W.heap[g]? =w.heap[g]? →(Instr.lookup 157 (.map (some g)) (.agg #[k1,p1,q1,s1,r1]) true).run Tryz.prog W= .ok (.tuple #[.int .i64 (n:Int),.bool true]) W)
  (hvk:∀W,Calls Tryz.prog 36 #[.agg #[k1,p1,q1,s1,r1]] W (BoolPost W true)) (hvv:∀W,Calls Tryz.prog 36 #[.agg #[k2,p2,q2,s2,r2]] W (BoolPost W true)) (hk0:(k1==0)=false) (hv0:(k2==0)=true) (hgf:sl.g=true):
  Calls Tryz.prog 173 #[.pointer (some ⟨m,0,none⟩),.agg #[k1,p1,q1,s1,r1],.agg #[k2,p2,q2,s2,r2]] w (fun e w'=>e= .returned (.int .i64 0)∧Below w.heap.size w w'):=by
 have hl2:=zBU L
 have hnl:n<L.length:=(List.getElem?_eq_some_iff.1 hsl).1
 have hml:m<w.heap.size:=(Array.getElem?_eq_some_iff.1 hm).1
 have hrl:rb<w.heap.size:=(zAS hrow rfl).2
 have HVK:=Lib.hid hvk
 have HVV:=Lib.hid hvv
 have HLK:=Lib.hid hlk
 clear hvk hvv hlk
 go_enter Tryz.func173,Tryz.ntmps173
 go_wp2_with fail
 refine(HVK.out _).mono ?_
 rintro e w1 ⟨rfl,hb⟩
 have HKB:=hkh hb (zAf _ _ _)
 have HVB:=hkh hb (zAW _ _ _)
 have HW1:=hbn (zAF _ _ _) hb
 have hz1:=hb.size
 simp at hz1
 clear hb
 obtain⟨b0,b1,b2,b3,b4⟩:=cells5 HVB.out
 go_wp2_with fail
 refine(HVV.out _).mono ?_
 rintro e w2 ⟨rfl,hb⟩
 have HKB2:=hkh hb HKB.out
 have HVB2:=hkh hb HVB.out
 have HW2:=hbn HW1.out hb
 have hz2:=hb.size
 have HMM:=hkh HW2.out hm
 have HROW:=Lib.hid (zAQ (zAa HW2.out (Nat.le_refl _)) hrow)
 have HGG:=Lib.hid (bw HW2.out hg)
 have hgone:w2.cell? ⟨rb,n*11+10,none⟩=some (.bool sl.g):=(HROW.out.cellAt (n*11+10) (by omega)).trans (zAn L n 10 sl hsl (by decide))
 clear hb b0 b1 b2 b3 b4 HKB HVB
 obtain⟨a0,a1,a2,a3,a4⟩:=cells5 HKB2.out
 obtain⟨b0,b1,b2,b3,b4⟩:=cells5 HVB2.out
 obtain⟨m0,m1,m2⟩:=zBN HMM.out
 obtain⟨fm0,fm1,fm2⟩:=froz3 HMM.out
 rw[hgf] at hgone
 go_wp2
 refine zAK mixed (by kernel_rfl) ?_
 go_wp2_with (at_lookup;refine zAr _ rfl _ _ _ _ rfl _ _ _ rfl rfl (HLK.out _ HGG.out) ?_)
 refine⟨by kernel_rfl,?_⟩
 go_wp2
 go_ret
 exact⟨rfl,HW2.out.drew⟩
theorem pomSet_push (w:World) (m g cap:Nat) (so:Option Addr) (L:List Sl) (E:List (Value×Value)) (f:V→Option Nat) (hm:w.heap[m]? =some (.cells #[.slice so L.length cap,.map (some g),.int .i64 (liveN L:Nat)] 159))
  (hrow:w.ownsRow 0 161 11 (.slice so L.length cap) L.length (rowSl L)) (hL:L.length≤1000) (hE:MapAt Tryz.prog 25 w g E) (hG:Graph E f) (hroom:¬liveN L+8<L.length-liveN L) (k1 p1 q1:Int) (s1:ByteArray) (r1:Int) (k2 p2 q2:Int) (s2:ByteArray) (r2:Int) (hkw:WfV ⟨k1,p1,q1,s1,r1⟩)
  (hvk:∀W,Calls Tryz.prog 36 #[.agg #[k1,p1,q1,s1,r1]] W (BoolPost W true)) (hvv:∀W,Calls Tryz.prog 36 #[.agg #[k2,p2,q2,s2,r2]] W (BoolPost W true)) (hk0:(k1==0)=false) (hI:Idx L f) (hno:NoLive L f ⟨k1,p1,q1,s1,r1⟩) (hwf:∀s∈L,WfV s.k∧WfV s.v) (hvw:WfV ⟨k2,p2,q2,s2,r2⟩) (hv0:(k2==0)=false)
  (hlk:∀W,W.heap[g]? =w.heap[g]? →(Instr.lookup 157 (.map (some g)) (.agg #[k1,p1,q1,s1,r1]) true).run Tryz.prog W= .ok (.tuple #[.int .i64 0,.bool false]) W):
  Calls Tryz.prog 173 #[.pointer (some ⟨m,0,none⟩),.agg #[k1,p1,q1,s1,r1],.agg #[k2,p2,q2,s2,r2]] w (OmPost w m g (.slice so L.length cap) (L++[⟨⟨k1,p1,q1,s1,r1⟩,⟨k2,p2,q2,s2,r2⟩,false⟩])):=by
 have HII:=Lib.hid hI
 have HNO:=Lib.hid hno
 have HWF:=Lib.hid hwf
 have HKW:=Lib.hid hkw
 have HVW:=Lib.hid hvw
 clear hI hno hwf hvw
 have hl2:=zBU L
 have hml:m<w.heap.size:=(Array.getElem?_eq_some_iff.1 hm).1
 have hg:g<w.heap.size:=hE.lt
 have hmg:m≠g:=fun e=>by
  obtain⟨es,c,he,_⟩:=id hE
  rw[←e,hm] at he
  cases he
 obtain⟨es0,c0,hgm,_⟩:=id hE
 have hrg:=row_ne hrow hgm
 have HGM:=Lib.hid hgm
 have HRG:=Lib.hid hrg
 have HST:=Lib.hid (put_at hE hG hkw)
 clear hgm hrg
 have HVK:=Lib.hid hvk
 have HVV:=Lib.hid hvv
 have HLK:=Lib.hid hlk
 clear hvk hvv hlk hE hG
 go_enter Tryz.func173,Tryz.ntmps173
 go_wp2_with fail
 refine(HVK.out _).mono ?_
 rintro e w1 ⟨rfl,hb⟩
 have HKB:=hkh hb (zAf _ _ _)
 have HVB:=hkh hb (zAW _ _ _)
 have HW1:=hbn (zAF _ _ _) hb
 have hz1:=hb.size
 simp at hz1
 clear hb
 obtain⟨b0,b1,b2,b3,b4⟩:=cells5 HVB.out
 go_wp2_with fail
 refine(HVV.out _).mono ?_
 rintro e w2 ⟨rfl,hb⟩
 have HKB2:=hkh hb HKB.out
 have HVB2:=hkh hb HVB.out
 have HW2:=hbn HW1.out hb
 have hz2:=hb.size
 have HMM:=hkh HW2.out hm
 have HROW:=Lib.hid (zAQ (zAa HW2.out (Nat.le_refl _)) hrow)
 have HGG:=Lib.hid (bw HW2.out hg)
 clear hb b0 b1 b2 b3 b4 HKB HVB
 obtain⟨a0,a1,a2,a3,a4⟩:=cells5 HKB2.out
 obtain⟨b0,b1,b2,b3,b4⟩:=cells5 HVB2.out
 obtain⟨m0,m1,m2⟩:=zBN HMM.out
 obtain⟨fm0,fm1,fm2⟩:=froz3 HMM.out
 go_wp2
 refine zAK mixed (by kernel_rfl) ?_
 go_wp2_with (at_lookup;refine zAr _ rfl _ _ _ _ rfl _ _ _ rfl rfl (HLK.out _ HGG.out) ?_)
 refine⟨by kernel_rfl,?_⟩
 go_wp2
 refine zAK mixed (by kernel_rfl) ?_
 go_wp2
 refine⟨by kernel_rfl,?_⟩
 go_wp2
 refine zAK mixed (by kernel_rfl) ?_
 go_wp2_with (at_mapUpdate;refine zBH _ rfl _ _ _ _ rfl _ _ _ rfl rfl rfl _ (HST.out L.length _ HGG.out) ?_;intro w3 hw3)
 refine⟨by kernel_rfl,?_⟩
 go_wp2
 obtain⟨hput,hmods,hsz3⟩:=hw3
 have HPUT:=Lib.hid hput
 have HK3:=Lib.hid (zAj hmods (show w2.drew.drew.drew.heap[w.heap.size]? =_ from HKB2.out) (by omega))
 have HV3:=Lib.hid (zAj hmods (show w2.drew.drew.drew.heap[w.heap.size+1]? =_ from HVB2.out) (by omega))
 have HM3:=Lib.hid (zAj hmods (show w2.drew.drew.drew.heap[m]? =_ from HMM.out) hmg)
 have HR3:=Lib.hid (zAZ (w3:=w3) HROW.out (fun b hb=>hmods.block b (zAS HROW.out hb).2 (HRG.out b hb)))
 have HMD:=Lib.hid hmods
 have hsz3':w2.heap.size≤w3.heap.size:=Nat.le_of_eq (Eq.symm hsz3)
 clear hput hmods hsz3 a0 a1 a2 a3 a4 b0 b1 b2 b3 b4 m0 m1 m2 fm0 fm1 fm2
 obtain⟨a0,a1,a2,a3,a4⟩:=cells5 HK3.out
 obtain⟨b0,b1,b2,b3,b4⟩:=cells5 HV3.out
 obtain⟨m0,m1,m2⟩:=zBN HM3.out
 obtain⟨fm0,fm1,fm2⟩:=froz3 HM3.out
 obtain⟨i6,hi6,hi6a,hi6b,hi6c⟩:=info_parts info161p
 refine zAK mixed (by kernel_rfl) ?_
 go_wp2_with (at_builtin;refine wpList_append_own_at _ rfl (.tmp 79) (.tmp 83) 156 rfl 0 161 i6 _ 11 104 Tryz.underlying156 hi6 hi6a hi6b hi6c rfl (by decide) (.slice so L.length cap) L.length (rowSl L) rfl ?A _ 1 1 [.int .i64 k1,.int .i64 p1,.int .i64 q1,.string s1,.int .i64 r1,.int .i64 k2,.int .i64 p2,.int .i64 q2,.string s2,.int .i64 r2,.bool false] rfl rfl ?B ?C ?D ?E ?F ?G)
 case A=>exact zAQ (zAa ((Below.refl _ _).alloc (Nat.le_refl _) _).drew (Nat.le_refl _)) HR3.out
 case B=>exact zBP _ _ _ _ _ _ _ _ _ _ _ _ _ _ rfl
 case C=>
  intro u hu
  simp only[List.mem_cons,List.not_mem_nil,or_false] at hu
  rcases hu with rfl|rfl|rfl|rfl|rfl|rfl|rfl|rfl|rfl|rfl|rfl<;>simp[Value.oneCell']
 case D=>unfold maxLen;omega
 case E=>omega
 case F=>exact Nat.zero_le _
 case G=>
  intro v' w4 hown hgrow _ hat
  obtain⟨rb',cap',rfl⟩:=zAl hown (by omega)
  have hrm:=row_ne_m HR3.out HM3.out
  have HM4:=Lib.hid (show w4.heap[m]? =_ from(hgrow.block m (by simp;omega) (fun e=>hrm m e.symm rfl)).trans ((Below.heap_alloc w3 _ m (by omega)).trans HM3.out))
  have HG4:=Lib.hid (show w4.heap[g]? =w3.heap[g]? from(hgrow.block g (by simp;omega) (fun e=>HRG.out g e.symm rfl)).trans (Below.heap_alloc w3 _ g (by omega)))
  have HOWN:=Lib.hid hown
  have HAT:=Lib.hid hat
  have HGR:=Lib.hid hgrow
  clear hown hat hgrow hrm a0 a1 a2 a3 a4 b0 b1 b2 b3 b4 m0 m1 m2 fm0 fm1 fm2
  obtain⟨m0,m1,m2⟩:=zBN HM4.out
  obtain⟨fm0,fm1,fm2⟩:=froz3 HM4.out
  go_wp2
  refine⟨by kernel_rfl,?_⟩
  go_wp2
  go_ret
  refine⟨rfl,.slice (some ⟨rb',0,none⟩) (L.length+1) cap',?_,?_,?_⟩
  ·exact push_omap HM4.out HOWN.out HPUT.out HG4.out hmg HII.out HNO.out HWF.out HKW.out HVW.out
  ·exact push_mods (Mods.of_below HW2.out.drew.drew.drew) HMD.out ((Below.refl _ _).alloc (Nat.le_refl _) _).drew HGR.out (.inl rfl) (.inr (.inl rfl)) (fun b hb=> .inl (.inr (.inr hb)))
  ·intro b hb
   rcases HAT.out with h|h
   ·exact .inl (h.symm.trans hb)
   ·rw[h] at hb
    injection hb with hb
    subst hb
    exact .inr (by first|omega|(simp;omega))
end Go.Proofs.YthkpckgcgkijbaaGreatDoor
