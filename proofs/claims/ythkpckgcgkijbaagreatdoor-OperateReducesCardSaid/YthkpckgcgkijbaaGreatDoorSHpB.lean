import Derived.Test.YthkpckgcgkijbaaGreatDoorHpC
set_option linter.unusedVariables false
set_option linter.unusedSimpArgs false
set_option maxRecDepth 100000
set_option maxHeartbeats 2000000
namespace Go.Proofs.YthkpckgcgkijbaaGreatDoor
open Go.RowKit Go.Proofs.Lexi
theorem sReference_c (w:World) (k1 p1 q1:Int) (s1:ByteArray) (r1:Int) (hk:k1=4∨k1=5∨k1=8):Calls Tryz.prog 222 #[.agg #[k1,p1,q1,s1,r1]] w (BoolPost w true):=by
 rcases hk with rfl|rfl|rfl
 all_goals
  go_enter Tryz.func222,Tryz.ntmps222
  go_wp2
  go_ret
  exact zBD rfl (zAm _ _)
theorem sDenotes_nil (w:World) (h:Nat) (uv:Value) (so:Option Addr) (cap:Nat) (H:List RO) (hh:w.heap[h]? =some (.cells #[.slice so H.length cap,.int .i64 (H.length:Nat),uv] 93)) (k1 p1 q1:Int) (s1:ByteArray) (r1:Int) (hk:k1=0):Calls Tryz.prog 170 #[.pointer (some ⟨h,0,none⟩),.agg #[k1,p1,q1,s1,r1]] w (BoolPost w false):=by
 have HR:=Lib.hid trivial
 have tk:(k1 !=0)=false:=by rw[bne_eq_false_iff_eq];exact hk
 clear hk
 have h0:(w.alloc (oV k1 p1 q1 s1 r1)).cell? ⟨h,0,none⟩=some (.slice so H.length cap):=by rw[zAA (zAI hh _)];rfl
 clear hh
 go_enter Tryz.func170,Tryz.ntmps170
 go_wp2
 refine zAK mixed (by kernel_rfl) ?_
 go_wp2_with (first|(go_at_call 222;refine(HR.out _).mono ?_;rintro e w1 ⟨rfl,hb⟩))
 refine⟨by kernel_rfl,?_⟩
 go_wp2
 go_ret
 exact zBD rfl (zAm _ _).drew
theorem sDenotes_low (w:World) (h:Nat) (uv:Value) (so:Option Addr) (cap:Nat) (H:List RO) (hh:w.heap[h]? =some (.cells #[.slice so H.length cap,.int .i64 (H.length:Nat),uv] 93)) (k1 p1 q1:Int) (s1:ByteArray) (r1:Int) (hk:k1≠0) (hr:¬1≤r1):Calls Tryz.prog 170 #[.pointer (some ⟨h,0,none⟩),.agg #[k1,p1,q1,s1,r1]] w (BoolPost w false):=by
 have HR:=Lib.hid trivial
 have tk:(k1 !=0)=true:=by rw[bne_iff_ne];exact hk
 have tr:decide (1≤r1)=false:=by rw[decide_eq_false_iff_not];exact hr
 clear hk
 have h0:(w.alloc (oV k1 p1 q1 s1 r1)).cell? ⟨h,0,none⟩=some (.slice so H.length cap):=by rw[zAA (zAI hh _)];rfl
 clear hh
 go_enter Tryz.func170,Tryz.ntmps170
 go_wp2
 refine zAK mixed (by kernel_rfl) ?_
 go_wp2_with (first|(go_at_call 222;refine(HR.out _).mono ?_;rintro e w1 ⟨rfl,hb⟩))
 refine⟨by kernel_rfl,?_⟩
 go_wp2
 go_ret
 exact zBD rfl (zAm _ _).drew
theorem sDenotes_high (w:World) (h:Nat) (uv:Value) (so:Option Addr) (cap:Nat) (H:List RO) (hh:w.heap[h]? =some (.cells #[.slice so H.length cap,.int .i64 (H.length:Nat),uv] 93)) (k1 p1 q1:Int) (s1:ByteArray) (r1:Int) (hk:k1≠0) (hr:1≤r1) (hr2:¬r1≤(H.length:Nat)):Calls Tryz.prog 170 #[.pointer (some ⟨h,0,none⟩),.agg #[k1,p1,q1,s1,r1]] w (BoolPost w false):=by
 have HR:=Lib.hid trivial
 have tk:(k1 !=0)=true:=by rw[bne_iff_ne];exact hk
 have tr:decide (1≤r1)=true:=by rw[decide_eq_true_eq];exact hr
 have tr2:decide (r1≤((H.length:Nat):Int))=false:=by rw[decide_eq_false_iff_not];exact hr2
 clear hk
 have h0:(w.alloc (oV k1 p1 q1 s1 r1)).cell? ⟨h,0,none⟩=some (.slice so H.length cap):=by rw[zAA (zAI hh _)];rfl
 clear hh
 go_enter Tryz.func170,Tryz.ntmps170
 go_wp2
 refine zAK mixed (by kernel_rfl) ?_
 go_wp2_with (first|(go_at_call 222;refine(HR.out _).mono ?_;rintro e w1 ⟨rfl,hb⟩))
 refine⟨by kernel_rfl,?_⟩
 go_wp2
 go_ret
 exact zBD rfl (zAm _ _).drew
theorem sDenotes_other (w:World) (h:Nat) (uv:Value) (rb:Nat) (cap:Nat) (H:List RO) (hh:w.heap[h]? =some (.cells #[.slice (some ⟨rb,0,none⟩) H.length cap,.int .i64 (H.length:Nat),uv] 93)) (k1 p1 q1:Int) (s1:ByteArray) (r1:Int) (hk:k1≠0) (i:Nat) (x:RO) (hi:H[i]? =some x) (hr:r1=((i:Nat):Int)+1) (hrow:w.ownsRow 0 97 11 (.slice (some ⟨rb,0,none⟩) H.length cap) H.length (rowRO H)) (hl:H.length≤1000) (hx:x.kind≠k1):Calls Tryz.prog 170 #[.pointer (some ⟨h,0,none⟩),.agg #[k1,p1,q1,s1,r1]] w (BoolPost w false):=by
 have hi1:1≤r1:=by omega
 have hil:i<H.length:=(List.getElem?_eq_some_iff.1 hi).1
 have tk:(k1 !=0)=true:=by rw[bne_iff_ne];exact hk
 have tr:decide (1≤r1)=true:=by rw[decide_eq_true_eq];exact hi1
 have tr2:decide (r1≤((H.length:Nat):Int))=true:=by rw[decide_eq_true_eq];omega
 have c0:(w.alloc (oV k1 p1 q1 s1 r1)).cell? ⟨rb,i*11,none⟩=some (.int .i64 x.kind):=((zAQ (zAa (zAm w (oV k1 p1 q1 s1 r1)) (Nat.le_refl _)) hrow).cellAt (i*11+0) (by omega)).trans (rowRO_at H i 0 x hi (by decide))
 clear hk hi hrow
 have h0:(w.alloc (oV k1 p1 q1 s1 r1)).cell? ⟨h,0,none⟩=some (.slice (some ⟨rb,0,none⟩) H.length cap):=by rw[zAA (zAI hh _)];rfl
 clear hh
 have HR:=Lib.hid trivial
 have te:(x.kind==k1)=false:=by rw[beq_eq_false_iff_ne];exact hx
 clear hx hi1
 subst hr
 go_enter Tryz.func170,Tryz.ntmps170
 go_wp2
 refine zAK mixed (by kernel_rfl) ?_
 go_wp2_with (first|(go_at_call 222;refine(HR.out _).mono ?_;rintro e w1 ⟨rfl,hb⟩))
 refine⟨by kernel_rfl,?_⟩
 go_wp2
 go_ret
 exact zBD rfl (zAm _ _).drew
theorem sDenotes_hit (w:World) (h:Nat) (uv:Value) (rb:Nat) (cap:Nat) (H:List RO) (hh:w.heap[h]? =some (.cells #[.slice (some ⟨rb,0,none⟩) H.length cap,.int .i64 (H.length:Nat),uv] 93)) (k1 p1 q1:Int) (s1:ByteArray) (r1:Int) (hk:k1≠0) (i:Nat) (x:RO) (hi:H[i]? =some x) (hr:r1=((i:Nat):Int)+1) (hrow:w.ownsRow 0 97 11 (.slice (some ⟨rb,0,none⟩) H.length cap) H.length (rowRO H)) (hl:H.length≤1000) (hx:x.kind=k1) (hkk:k1=4∨k1=5∨k1=8):Calls Tryz.prog 170 #[.pointer (some ⟨h,0,none⟩),.agg #[k1,p1,q1,s1,r1]] w (BoolPost w true):=by
 have hi1:1≤r1:=by omega
 have hil:i<H.length:=(List.getElem?_eq_some_iff.1 hi).1
 have tk:(k1 !=0)=true:=by rw[bne_iff_ne];exact hk
 have tr:decide (1≤r1)=true:=by rw[decide_eq_true_eq];exact hi1
 have tr2:decide (r1≤((H.length:Nat):Int))=true:=by rw[decide_eq_true_eq];omega
 have c0:(w.alloc (oV k1 p1 q1 s1 r1)).cell? ⟨rb,i*11,none⟩=some (.int .i64 x.kind):=((zAQ (zAa (zAm w (oV k1 p1 q1 s1 r1)) (Nat.le_refl _)) hrow).cellAt (i*11+0) (by omega)).trans (rowRO_at H i 0 x hi (by decide))
 clear hk hi hrow
 have h0:(w.alloc (oV k1 p1 q1 s1 r1)).cell? ⟨h,0,none⟩=some (.slice (some ⟨rb,0,none⟩) H.length cap):=by rw[zAA (zAI hh _)];rfl
 clear hh
 have HR:=Lib.hid (fun W=>sReference_c W k1 p1 q1 s1 r1 hkk)
 rw[hx] at c0
 clear hx hi1 hkk
 subst hr
 go_enter Tryz.func170,Tryz.ntmps170
 go_wp2
 refine zAK mixed (by kernel_rfl) ?_
 go_wp2_with (first|(go_at_call 222;refine(HR.out _).mono ?_;rintro e w1 ⟨rfl,hb⟩))
 refine⟨by kernel_rfl,?_⟩
 go_wp2
 go_ret
 exact zBD rfl (zAC (zAm _ _).drew (by assumption))
theorem sDenotes_c (w:World) (h:Nat) (av uv:Value) (H:List RO) (hH:RHpAt w h av uv H) (hl:H.length≤1000) (k1 p1 q1:Int) (s1:ByteArray) (r1:Int):Calls Tryz.prog 170 #[.pointer (some ⟨h,0,none⟩),.agg #[k1,p1,q1,s1,r1]] w (BoolPost w (zCN H ⟨k1,p1,q1,s1,r1⟩).isSome):=by
 obtain⟨so,cap,rfl⟩:=slice_shape0 hH.row
 by_cases hk:k1=0
 ·have:zCN H ⟨k1,p1,q1,s1,r1⟩=none:=by
   cases hf:zCN H ⟨k1,p1,q1,s1,r1⟩ with
   |none=>rfl
   |some x=>
    obtain⟨i,hi,hxk,_,hxm⟩:=rfind_at hf
    have:=(hH.one x hxm).kd
    have hxk:x.kind=k1:=hxk
    omega
  rw[this]
  exact sDenotes_nil w h uv so cap H hH.hh k1 p1 q1 s1 r1 hk
 ·by_cases hr:1≤r1
  rotate_left
  ·rw[show zCN H ⟨k1,p1,q1,s1,r1⟩=none from if_neg hr]
   exact sDenotes_low w h uv so cap H hH.hh k1 p1 q1 s1 r1 hk hr
  ·have hfi:zCN H ⟨k1,p1,q1,s1,r1⟩=(match H[r1.toNat-1]? with|some o=>if o.kind=k1 then some o else none|none=>none):=if_pos hr
   by_cases hr2:r1≤(H.length:Nat)
   rotate_left
   ·rw[hfi,List.getElem?_eq_none_iff.2 (by omega)]
    exact sDenotes_high w h uv so cap H hH.hh k1 p1 q1 s1 r1 hk hr hr2
   ·obtain⟨i,hri⟩:∃i:Nat,r1=((i:Nat):Int)+1:=⟨(r1-1).toNat,by omega⟩
    have hil:i<H.length:=by omega
    obtain⟨x,hx⟩:∃x,H[i]? =some x:=⟨_,List.getElem?_eq_getElem hil⟩
    obtain⟨rb,cap',he⟩:=zAl hH.row (by omega)
    injection he with he1 he2 he3
    subst he1
    rw[hfi,show r1.toNat-1=i by omega,hx]
    by_cases hxk:x.kind=k1
    ·rw[show(match some x with|some o=>if o.kind=k1 then some o else none|none=>none)=some x from if_pos hxk]
     exact sDenotes_hit w h uv rb cap H hH.hh k1 p1 q1 s1 r1 hk i x hx hri hH.row hl hxk (by have:=(hH.one x (List.mem_of_getElem? hx)).kd;omega)
    ·rw[show(match some x with|some o=>if o.kind=k1 then some o else none|none=>none)=none from if_neg hxk]
     exact sDenotes_other w h uv rb cap H hH.hh k1 p1 q1 s1 r1 hk i x hx hri hH.row hl hxk
theorem sis_no (w:World) (h:Nat) (k1 p1 q1:Int) (s1:ByteArray) (r1:Int) (K:Int) (D:∀W,Below w.heap.size w W→Calls Tryz.prog 170 #[.pointer (some ⟨h,0,none⟩),.agg #[k1,p1,q1,s1,r1]] W (BoolPost W false)):Calls Tryz.prog 113 #[.pointer (some ⟨h,0,none⟩),.agg #[k1,p1,q1,s1,r1],.int .i64 K] w (BoolPost w false):=by
 have HD:=Lib.hid D
 clear D
 go_enter Tryz.func113,Tryz.ntmps113
 go_wp2_with (first|(go_at_call 170;refine(HD.out _ (zAm _ _)).mono ?_;rintro e w1 ⟨rfl,hb⟩))
 go_ret
 exact zBD rfl (zAC (zAm _ _) (by assumption))
theorem sis_true (w:World) (h:Nat) (k1 p1 q1:Int) (s1:ByteArray) (r1:Int) (K:Int) (hK:(k1==K)=true) (D:∀W,Below w.heap.size w W→Calls Tryz.prog 170 #[.pointer (some ⟨h,0,none⟩),.agg #[k1,p1,q1,s1,r1]] W (BoolPost W true)):Calls Tryz.prog 113 #[.pointer (some ⟨h,0,none⟩),.agg #[k1,p1,q1,s1,r1],.int .i64 K] w (BoolPost w true):=by
 have HD:=Lib.hid D
 clear D
 go_enter Tryz.func113,Tryz.ntmps113
 go_wp2_with fail
 refine(HD.out _ (zAm _ _)).mono ?_
 rintro e w1 ⟨rfl,hb⟩
 have HB:=Lib.hid hb
 have a0:w1.cell? ⟨w.heap.size,0,none⟩=some (.int .i64 k1):=by rw[zAA (hkeep hb (heap1 w (oV k1 p1 q1 s1 r1)))];rfl
 clear hb
 go_wp2
 go_ret
 exact zBD rfl (zAC (zAm _ _) HB.out)
theorem sis_false (w:World) (h:Nat) (k1 p1 q1:Int) (s1:ByteArray) (r1:Int) (K:Int) (hK:(k1==K)=false) (D:∀W,Below w.heap.size w W→Calls Tryz.prog 170 #[.pointer (some ⟨h,0,none⟩),.agg #[k1,p1,q1,s1,r1]] W (BoolPost W true)):Calls Tryz.prog 113 #[.pointer (some ⟨h,0,none⟩),.agg #[k1,p1,q1,s1,r1],.int .i64 K] w (BoolPost w false):=by
 have HD:=Lib.hid D
 clear D
 go_enter Tryz.func113,Tryz.ntmps113
 go_wp2_with fail
 refine(HD.out _ (zAm _ _)).mono ?_
 rintro e w1 ⟨rfl,hb⟩
 have HB:=Lib.hid hb
 have a0:w1.cell? ⟨w.heap.size,0,none⟩=some (.int .i64 k1):=by rw[zAA (hkeep hb (heap1 w (oV k1 p1 q1 s1 r1)))];rfl
 clear hb
 go_wp2
 go_ret
 exact zBD rfl (zAC (zAm _ _) HB.out)
theorem sis_c (w:World) (h:Nat) (av uv:Value) (H:List RO) (hH:RHpAt w h av uv H) (hl:H.length≤1000) (k1 p1 q1:Int) (s1:ByteArray) (r1:Int) (K:Int):Calls Tryz.prog 113 #[.pointer (some ⟨h,0,none⟩),.agg #[k1,p1,q1,s1,r1],.int .i64 K] w (BoolPost w ((zCN H ⟨k1,p1,q1,s1,r1⟩).isSome&&(k1==K))):=by
 have D:=fun W (hb:Below w.heap.size w W)=>sDenotes_c W h av uv H (hH.below hb) hl k1 p1 q1 s1 r1
 cases hf:(zCN H ⟨k1,p1,q1,s1,r1⟩).isSome with
 |false=>rw[hf] at D;exact sis_no w h k1 p1 q1 s1 r1 K D
 |true=>
  rw[hf] at D
  cases hK:k1==K with
  |true=>exact sis_true w h k1 p1 q1 s1 r1 K hK D
  |false=>exact sis_false w h k1 p1 q1 s1 r1 K hK D
theorem stable_true (w:World) (h:Nat) (k1 p1 q1:Int) (s1:ByteArray) (r1:Int) (I:∀W,Below w.heap.size w W→Calls Tryz.prog 113 #[.pointer (some ⟨h,0,none⟩),.agg #[k1,p1,q1,s1,r1],.int .i64 4] W (BoolPost W true)):Calls Tryz.prog 117 #[.pointer (some ⟨h,0,none⟩),.agg #[k1,p1,q1,s1,r1]] w (IntPost w 0):=by
 have HI:=Lib.hid I
 clear I
 go_enter Tryz.func117,Tryz.ntmps117
 go_wp2_with (first|(go_at_call 113;refine(HI.out _ (zAm _ _)).mono ?_;rintro e w1 ⟨rfl,hb⟩))
 go_ret
 exact zAq rfl (zAC (zAm _ _) (by assumption))
theorem stable_false (w:World) (h:Nat) (k1 p1 q1:Int) (s1:ByteArray) (r1:Int) (I:∀W,Below w.heap.size w W→Calls Tryz.prog 113 #[.pointer (some ⟨h,0,none⟩),.agg #[k1,p1,q1,s1,r1],.int .i64 4] W (BoolPost W false)):Calls Tryz.prog 117 #[.pointer (some ⟨h,0,none⟩),.agg #[k1,p1,q1,s1,r1]] w (IntPost w 8):=by
 have HI:=Lib.hid I
 clear I
 go_enter Tryz.func117,Tryz.ntmps117
 go_wp2_with (first|(go_at_call 113;refine(HI.out _ (zAm _ _)).mono ?_;rintro e w1 ⟨rfl,hb⟩))
 go_ret
 exact zAq rfl (zAC (zAm _ _) (by assumption))
theorem stable_c (w:World) (h:Nat) (av uv:Value) (H:List RO) (hH:RHpAt w h av uv H) (hl:H.length≤1000) (k1 p1 q1:Int) (s1:ByteArray) (r1:Int):Calls Tryz.prog 117 #[.pointer (some ⟨h,0,none⟩),.agg #[k1,p1,q1,s1,r1]] w (IntPost w (tabE H ⟨k1,p1,q1,s1,r1⟩)):=by
 have I:=fun W (hb:Below w.heap.size w W)=>sis_c W h av uv H (hH.below hb) hl k1 p1 q1 s1 r1 4
 unfold tabE
 show Calls _ _ _ _ (IntPost w (if ((zCN H ⟨k1,p1,q1,s1,r1⟩).isSome&&(k1==4))=true then 0 else 8))
 cases hf:((zCN H ⟨k1,p1,q1,s1,r1⟩).isSome&&(k1==4)) with
 |true=>rw[hf] at I;exact stable_true w h k1 p1 q1 s1 r1 I
 |false=>rw[hf] at I;exact stable_false w h k1 p1 q1 s1 r1 I
theorem sElem_c (w:World) (k1 p1 q1:Int) (s1:ByteArray) (r1:Int):Calls Tryz.prog 118 #[.agg #[k1,p1,q1,s1,r1]] w (IntPost w (elemM ⟨k1,p1,q1,s1,r1⟩)):=by
 have HV:=Lib.hid (fun W=>zBj W k1 p1 q1 s1 r1)
 by_cases hb:k1=3∧4096<s1.size
 ·have HC:=Lib.hid (show 14=elemM ⟨k1,p1,q1,s1,r1⟩ from(if_pos hb).symm)
  have t3:(k1==3)=true:=by rw[beq_iff_eq];exact hb.1
  have ts:decide ((4096:Int)<(s1.size:Int))=true:=by rw[decide_eq_true_eq];omega
  have ts2:(4096:Int)<(s1.size:Int):=by omega
  clear hb
  go_enter Tryz.func118,Tryz.ntmps118
  go_wp2
  go_ret
  exact zAq HC.out (zAm _ _)
 ·have tt:(k1==3)=false∨((k1==3)=true∧¬4096<s1.size):=by
   by_cases h3:k1=3
   ·exact .inr ⟨by rw[beq_iff_eq];exact h3,fun h=>hb ⟨h3,h⟩⟩
   ·exact .inl (by rw[beq_eq_false_iff_ne];exact h3)
  cases hv:zAi ⟨k1,p1,q1,s1,r1⟩ with
  |true=>
   have HC:=Lib.hid (show 0=elemM ⟨k1,p1,q1,s1,r1⟩ from by unfold elemM;rw[if_neg hb,if_pos hv])
   have HVT:=Lib.hid (fun W=>(hv▸HV.out W:Calls Tryz.prog 26 #[.agg #[k1,p1,q1,s1,r1]] W (BoolPost W true)))
   clear hb hv HV
   rcases tt with t3|⟨t3,ts⟩
   ·go_enter Tryz.func118,Tryz.ntmps118
    go_wp2_with (first|(go_at_call 26;refine(HVT.out _).mono ?_;rintro e w1 ⟨rfl,hb⟩))
    go_ret
    exact zAq HC.out (zAC (zAm _ _) (by assumption))
   ·have ts1:decide ((4096:Int)<(s1.size:Int))=false:=by rw[decide_eq_false_iff_not];omega
    have ts2:¬(4096:Int)<(s1.size:Int):=by omega
    go_enter Tryz.func118,Tryz.ntmps118
    go_wp2_with (first|(go_at_call 26;refine(HVT.out _).mono ?_;rintro e w1 ⟨rfl,hb⟩))
    go_ret
    exact zAq HC.out (zAC (zAm _ _) (by assumption))
  |false=>
   have HC:=Lib.hid (show 2=elemM ⟨k1,p1,q1,s1,r1⟩ from by unfold elemM;rw[if_neg hb,if_neg (by rw[hv];decide)])
   have HVT:=Lib.hid (fun W=>(hv▸HV.out W:Calls Tryz.prog 26 #[.agg #[k1,p1,q1,s1,r1]] W (BoolPost W false)))
   clear hb hv HV
   rcases tt with t3|⟨t3,ts⟩
   ·go_enter Tryz.func118,Tryz.ntmps118
    go_wp2_with (first|(go_at_call 26;refine(HVT.out _).mono ?_;rintro e w1 ⟨rfl,hb⟩))
    go_ret
    exact zAq HC.out (zAC (zAm _ _) (by assumption))
   ·have ts1:decide ((4096:Int)<(s1.size:Int))=false:=by rw[decide_eq_false_iff_not];omega
    have ts2:¬(4096:Int)<(s1.size:Int):=by omega
    go_enter Tryz.func118,Tryz.ntmps118
    go_wp2_with (first|(go_at_call 26;refine(HVT.out _).mono ?_;rintro e w1 ⟨rfl,hb⟩))
    go_ret
    exact zAq HC.out (zAC (zAm _ _) (by assumption))
theorem sTouch_c (w:World) (h:Nat) (av uv:Value) (H:List RO) (hH:RHpAt w h av uv H) (hl:H.length≤1000) (k1 p1 q1:Int) (s1:ByteArray) (i:Nat) (hil:i<H.length):Calls Tryz.prog 114 #[.pointer (some ⟨h,0,none⟩),.agg #[k1,p1,q1,s1,.int .i64 (((i:Nat):Int)+1)],.int .i64 0] w (RTouchPost w h av uv H):=by
 obtain⟨bs,hT⟩:=hH.tch
 obtain⟨ub,ucap,rfl⟩:=zAl hT (by omega)
 have hlb:bs.length=H.length:=by have:=hT.1;rw[List.length_map] at this;omega
 have HHH:=Lib.hid hH
 have HTT:=Lib.hid hT
 have hul:ub<w.heap.size:=(zAS hT rfl).2
 have hun:ub≠w.heap.size:=by omega
 have hT1:=zAQ (zAa (zAm w (oV k1 p1 q1 s1 (((i:Nat):Int)+1))) (Nat.le_refl _)) hT
 have u0:(w.alloc (oV k1 p1 q1 s1 (((i:Nat):Int)+1))).cell? ⟨ub,i,none⟩=some (.bool (bs[i]'(by omega))):=by
  have h1:=hT1.cellAt i (by omega)
  rw[List.getElem?_map,List.getElem?_eq_getElem (show i<bs.length by omega)] at h1
  exact h1
 have fu0:(w.alloc (oV k1 p1 q1 s1 (((i:Nat):Int)+1))).frozen? ⟨ub,i,none⟩=false:=row_frozen hT1 i
 have hh:=hH.hh
 have h2:(w.alloc (oV k1 p1 q1 s1 (((i:Nat):Int)+1))).cell? ⟨h,2,none⟩=some (.slice (some ⟨ub,0,none⟩) H.length ucap):=by rw[zAA (zAI hh _)];rfl
 generalize bs[i]'(by omega)=b0 at u0
 clear hH hT hT1 hh
 go_enter Tryz.func114,Tryz.ntmps114
 go_wp2
 refine zAK mixed (by kernel_rfl) ?_
 go_wp2
 refine⟨by kernel_rfl,?_⟩
 go_wp2
 go_ret
 have hM:Mods (fun b=>(Value.slice (some ⟨ub,0,none⟩) H.length ucap).ownBlock=some b) w (((w.setCell ⟨ub,i,none⟩ (.bool true)).alloc (oV k1 p1 q1 s1 (((i:Nat):Int)+1))).drew):=(zAO (F:=fun b=>(Value.slice (some ⟨ub,0,none⟩) H.length ucap).ownBlock=some b) (Mods.refl _ w) (.inl rfl) _).trans (Mods.of_below ((zAm _ _).drew))
 refine⟨rfl,HHH.out.touch hM ⟨bs.set i true,?_⟩,hM⟩
 rw[List.map_set]
 exact zAQ (zAa (zAm _ _).drew (Nat.le_refl _)) (ownsRow_cell HTT.out i (.bool true))
theorem sAdd_c (w:World) (h:Nat) (av uv:Value) (H:List RO) (hH:RHpAt w h av uv H) (hl:H.length≤1000) (kd tg:Int) (nm:ByteArray) (tp us:Option Addr) (un uc t0 m0:Nat) (hx:RObj w (⟨kd,tg,nm,V.nil,.slice us un uc,.slice none 0 0,t0,m0,.slice none 0 0,[]⟩:RO)) (htv:(⟨kd,tg,nm,V.nil,.slice us un uc,.slice none 0 0,t0,m0,.slice none 0 0,[]⟩:RO).tv= .pointer tp) (hsep:∀y∈H,RSep y (⟨kd,tg,nm,V.nil,.slice us un uc,.slice none 0 0,t0,m0,.slice none 0 0,[]⟩:RO)):
  Calls Tryz.prog 110 #[.pointer (some ⟨h,0,none⟩),.agg #[kd,tg,nm,.pointer tp,.int .i64 0,.int .i64 0,.int .i64 0,.string ⟨#[]⟩,.int .i64 0,.slice us un uc,.slice none 0 0]] w (RAddPost w h av uv H (⟨kd,tg,nm,V.nil,.slice us un uc,.slice none 0 0,t0,m0,.slice none 0 0,[]⟩:RO)):=by
 obtain⟨so,cap,rfl⟩:=slice_shape0 hH.row
 obtain⟨bs,hT⟩:=hH.tch
 obtain⟨uo,ucap,rfl⟩:=slice_shape0 hT
 have hlb:bs.length=H.length:=by have:=hT.1;rw[List.length_map] at this;omega
 have hlt:h<w.heap.size:=(Array.getElem?_eq_some_iff.1 hH.hh).1
 have nav:∀b,(Value.slice so H.length cap).ownBlock=some b→b≠h:=fun b hb=>by obtain⟨c2,hc⟩:=zAc hH.row hb;exact zAU hc hH.hh (by decide)
 have nuv:∀b,(Value.slice uo H.length ucap).ownBlock=some b→b≠h:=fun b hb=>by obtain⟨c2,hc⟩:=zAc hT hb;exact zAU hc hH.hh (by decide)
 have nau:∀b,(Value.slice so H.length cap).ownBlock=some b→(Value.slice uo H.length ucap).ownBlock≠some b:=fun b hb hb2=>by
  obtain⟨c2,hc⟩:=zAc hH.row hb
  obtain⟨c3,hc3⟩:=zAc hT hb2
  exact zAU hc hc3 (by decide) rfl
 have lav:∀b,(Value.slice so H.length cap).ownBlock=some b→b<w.heap.size:=fun b hb=>(zAS hH.row hb).2
 have luv:∀b,(Value.slice uo H.length ucap).ownBlock=some b→b<w.heap.size:=fun b hb=>(zAS hT hb).2
 have HN:=Lib.hid (And.intro nav (And.intro nuv (And.intro nau (And.intro lav luv))))
 clear nav nuv nau lav luv
 have HHH:=Lib.hid hH
 have HXX:=Lib.hid hx
 have HSP:=Lib.hid hsep
 have HTV:=Lib.hid htv
 have HROW:=Lib.hid (zAQ (zAa (zAF w (.cells #[kd,tg,nm,.pointer tp,.int .i64 0,.int .i64 0,.int .i64 0,.string ⟨#[]⟩,.int .i64 0,.slice us un uc,.slice none 0 0] 97) (oV 0 0 0 ⟨#[]⟩ 0)) (Nat.le_refl _)) hH.row)
 have HTC:=Lib.hid (zAQ (zAa (zAF w (.cells #[kd,tg,nm,.pointer tp,.int .i64 0,.int .i64 0,.int .i64 0,.string ⟨#[]⟩,.int .i64 0,.slice us un uc,.slice none 0 0] 97) (oV 0 0 0 ⟨#[]⟩ 0)) (Nat.le_refl _)) hT)
 have hq1:¬(65536:Int)≤(H.length:Int):=by omega
 have hq2:decide ((65536:Int)≤(H.length:Int))=false:=by rw[decide_eq_false_iff_not];exact hq1
 have hh:=zAp hH.hh (.cells #[kd,tg,nm,.pointer tp,.int .i64 0,.int .i64 0,.int .i64 0,.string ⟨#[]⟩,.int .i64 0,.slice us un uc,.slice none 0 0] 97) (oV 0 0 0 ⟨#[]⟩ 0)
 have HH2:=Lib.hid hh
 obtain⟨h0,h1,h2⟩:=zBN HH2.out
 obtain⟨fh0,fh1,fh2⟩:=froz3 HH2.out
 clear hH hx hsep htv hT hh
 go_enter Tryz.func110,Tryz.ntmps110
 go_wp2
 obtain⟨i6,hi6,hi6a,hi6b,hi6c⟩:=info_parts info97p
 refine zAK mixed (by kernel_rfl) ?_
 go_wp2_with (at_builtin;refine wpList_append_own_at _ rfl (.tmp 16) (.tmp 18) 90 rfl 0 97 i6 _ 11 136 Tryz.underlying90 hi6 hi6a hi6b hi6c rfl (by decide) (.slice so H.length cap) H.length (rowRO H) rfl ?A _ 1 1 [.int .i64 kd,.int .i64 tg,.string nm,.pointer tp,.int .i64 0,.int .i64 0,.int .i64 0,.string ⟨#[]⟩,.int .i64 0,.slice us un uc,.slice none 0 0] rfl rfl ?B ?C ?D ?E ?F ?G)
 case A=>exact zAQ (zAa ((Below.refl _ _).alloc (Nat.le_refl _) _).drew (Nat.le_refl _)) HROW.out
 case B=>exact zBP _ _ _ _ _ _ _ _ _ _ _ _ _ _ (by first|rfl|simp)
 case C=>
  intro u hu
  simp only[List.mem_cons,List.not_mem_nil,or_false] at hu
  rcases hu with rfl|rfl|rfl|rfl|rfl|rfl|rfl|rfl|rfl|rfl|rfl<;>simp[Value.oneCell']
 case D=>unfold maxLen;omega
 case E=>omega
 case F=>exact Nat.zero_le _
 case G=>
  intro v' w5 hown hgrow _ hat
  obtain⟨rb',cap',rfl⟩:=zAl hown (by omega)
  have hz5:=hgrow.size
  simp at hz5
  obtain⟨nav,nuv,nau,lav,luv⟩:=HN.out
  have B3:Below w.heap.size w (((w.alloc (.cells #[kd,tg,nm,.pointer tp,.int .i64 0,.int .i64 0,.int .i64 0,.string ⟨#[]⟩,.int .i64 0,.slice us un uc,.slice none 0 0] 97)).alloc (oV 0 0 0 ⟨#[]⟩ 0)).alloc (.cells #[kd,tg,nm,.pointer tp,.int .i64 0,.int .i64 0,.int .i64 0,.string ⟨#[]⟩,.int .i64 0,.slice us un uc,.slice none 0 0] 97)).drew:=((zAF w _ _).alloc (by simp<;>omega) _).drew
  have keep5:∀b,b<w.heap.size→(Value.slice so H.length cap).ownBlock≠some b→w5.heap[b]? =w.heap[b]? :=fun b hb hne=>(hgrow.block b (by simp<;>omega) (fun e=>hne e.symm)).trans (B3.block b hb)
  have HM5:=Lib.hid ((keep5 h hlt (fun e=>nav h e rfl)).trans HHH.out.hh)
  have HR5:=Lib.hid (show w5.heap[w.heap.size+1]? =some (oV 0 0 0 ⟨#[]⟩ 0) from(hgrow.block _ (by simp<;>omega) (fun e=>by have:=lav _ e.symm;omega)).trans (zAY w (.cells #[kd,tg,nm,.pointer tp,.int .i64 0,.int .i64 0,.int .i64 0,.string ⟨#[]⟩,.int .i64 0,.slice us un uc,.slice none 0 0] 97) (oV 0 0 0 ⟨#[]⟩ 0) (.cells #[kd,tg,nm,.pointer tp,.int .i64 0,.int .i64 0,.int .i64 0,.string ⟨#[]⟩,.int .i64 0,.slice us un uc,.slice none 0 0] 97)))
  have HX5:=Lib.hid (show w5.heap[w.heap.size]? =some (.cells #[kd,tg,nm,.pointer tp,.int .i64 0,.int .i64 0,.int .i64 0,.string ⟨#[]⟩,.int .i64 0,.slice us un uc,.slice none 0 0] 97) from(hgrow.block _ (by simp<;>omega) (fun e=>by have:=lav _ e.symm;omega)).trans (zAh w (.cells #[kd,tg,nm,.pointer tp,.int .i64 0,.int .i64 0,.int .i64 0,.string ⟨#[]⟩,.int .i64 0,.slice us un uc,.slice none 0 0] 97) (oV 0 0 0 ⟨#[]⟩ 0) (.cells #[kd,tg,nm,.pointer tp,.int .i64 0,.int .i64 0,.int .i64 0,.string ⟨#[]⟩,.int .i64 0,.slice us un uc,.slice none 0 0] 97)))
  have HT5:=Lib.hid (zAZ (w3:=w5) HTC.out (fun b hb=>(keep5 b (luv b hb) (fun e=>nau b e hb)).trans ((zAF w (.cells #[kd,tg,nm,.pointer tp,.int .i64 0,.int .i64 0,.int .i64 0,.string ⟨#[]⟩,.int .i64 0,.slice us un uc,.slice none 0 0] 97) (oV 0 0 0 ⟨#[]⟩ 0)).block b (luv b hb)).symm))
  have HMD5:=Lib.hid (show Mods (fun b=>b=h∨(Value.slice so H.length cap).ownBlock=some b∨(Value.slice uo H.length ucap).ownBlock=some b) w w5 from grow_mods (Mods.of_below B3) hgrow (fun b hb=> .inl (.inr (.inl hb))))
  have HOWN:=Lib.hid hown
  have HAT:=Lib.hid hat
  have nrb:rb'≠h:=by
   obtain⟨c2,hc⟩:=zAc hown (b:=rb') rfl
   exact zAU hc HM5.out (by decide)
  have HSZ5:=Lib.hid (show w.heap.size+3≤w5.heap.size from by have:=hgrow.size;simp at this;omega)
  have HAV5:=Lib.hid (show∀b,(Value.slice (some ⟨rb',0,none⟩) (H.length+1) cap').ownBlock=some b→(Value.slice so H.length cap).ownBlock=some b∨w.heap.size≤b from fun b hb=>by
   rcases hat with h|h
   ·exact .inl (h▸hb)
   ·rw[h] at hb
    injection hb with hb
    right
    try simp at hb
    omega)
  have NRB:=Lib.hid nrb
  clear hown hgrow hat B3 keep5 nav nuv nau lav luv h0 h1 h2 fh0 fh1 fh2 hi6 hi6a hi6b hi6c hz5 hq1 hq2 nrb
  obtain⟨h0,h1,h2⟩:=zBN HM5.out
  obtain⟨fh0,fh1,fh2⟩:=froz3 HM5.out
  go_wp2
  refine⟨by kernel_rfl,?_⟩
  clear h0 h1 h2 fh0 fh1 fh2
  obtain⟨W6,hW6⟩:∃W6,W6=w5.setCell ⟨h,0,none⟩ (.slice (some ⟨rb',0,none⟩) (H.length+1) cap'):=⟨_,rfl⟩
  rw[←hW6]
  have hz6:W6.heap.size=w5.heap.size:=by rw[hW6];simp
  have ho6:∀b,b≠h→W6.heap[b]? =w5.heap[b]? :=fun b hb=>by rw[hW6];exact Below.heap_setCell _ _ _ _ hb
  have HM6:=Lib.hid (show W6.heap[h]? =some (.cells #[.slice (some ⟨rb',0,none⟩) (H.length+1) cap',.int .i64 (H.length:Nat),.slice uo H.length ucap] 93) by rw[hW6];exact zAP HM5.out 0 _)
  have HR6:=Lib.hid (show W6.heap[w.heap.size+1]? =some (oV 0 0 0 ⟨#[]⟩ 0) from(ho6 _ (by omega)).trans HR5.out)
  have HX6:=Lib.hid (show W6.heap[w.heap.size]? =some (.cells #[kd,tg,nm,.pointer tp,.int .i64 0,.int .i64 0,.int .i64 0,.string ⟨#[]⟩,.int .i64 0,.slice us un uc,.slice none 0 0] 97) from(ho6 _ (by omega)).trans HX5.out)
  have HT6:=Lib.hid (zAZ (w3:=W6) HT5.out (fun b hb=>ho6 b (HN.out.2.1 b hb)))
  have HRW6:=Lib.hid (zAZ (w3:=W6) HOWN.out (fun b hb=>ho6 b (by injection hb with hb;rw[←hb];exact NRB.out)))
  have HMD6:=Lib.hid (show Mods (fun b=>b=h∨(Value.slice so H.length cap).ownBlock=some b∨(Value.slice uo H.length ucap).ownBlock=some b) w W6 by rw[hW6];exact zAO HMD5.out (.inl (.inl rfl)) _)
  clear hW6 ho6
  have hsz6:w.heap.size+3≤W6.heap.size:=by rw[hz6];exact HSZ5.out
  clear hz6
  obtain⟨h0,h1,h2⟩:=zBN HM6.out
  obtain⟨fh0,fh1,fh2⟩:=froz3 HM6.out
  obtain⟨i4,hi4,hi4a,hi4b,hi4c⟩:=info_parts info4p
  go_wp2_with (at_builtin;refine wpList_append_own_at _ rfl (.tmp 26) (.tmp 27) 91 rfl 0 4 i4 _ 1 1 Tryz.underlying91 hi4 hi4a hi4b hi4c rfl (by decide) (.slice uo H.length ucap) H.length (bs.map .bool) rfl ?A2 _ 1 1 [.bool true] rfl rfl ?B2 ?C2 ?D2 ?E2 ?F2 ?G2)
  case A2=>exact zAQ (zAa ((Below.refl _ _).alloc (Nat.le_refl _) _) (Nat.le_refl _)) HT6.out
  case B2=>exact zBo _ _ _ _ (by simp)
  case C2=>intro u hu;rw[List.mem_singleton] at hu;rw[hu];rfl
  case D2=>unfold maxLen;omega
  case E2=>omega
  case F2=>exact Nat.zero_le _
  case G2=>
   intro v' w7 hown hgrow _ hat
   obtain⟨ub',ucap',rfl⟩:=zAl hown (by omega)
   have hz7:=hgrow.size
   simp at hz7
   have B6:Below W6.heap.size W6 (W6.alloc (.cells #[.bool true] 4)):=(Below.refl _ _).alloc (Nat.le_refl _) _
   have ltU:∀b,(Value.slice uo H.length ucap).ownBlock=some b→b<W6.heap.size:=fun b hb=>(zAS HT6.out hb).2
   have keep7:∀b,b<W6.heap.size→(Value.slice uo H.length ucap).ownBlock≠some b→w7.heap[b]? =W6.heap[b]? :=fun b hb hne=>(hgrow.block b (by simp<;>omega) (fun e=>hne e.symm)).trans (B6.block b hb)
   have lth:h<W6.heap.size:=by omega
   have HM7:=Lib.hid ((keep7 h lth (fun e=>HN.out.2.1 h e rfl)).trans HM6.out)
   have HR7:=Lib.hid ((keep7 _ (by omega) (fun e=>by have:=HN.out.2.2.2.2 _ e;omega)).trans HR6.out)
   have HX7:=Lib.hid ((keep7 _ (by omega) (fun e=>by have:=HN.out.2.2.2.2 _ e;omega)).trans HX6.out)
   have HRW7:=Lib.hid (zAZ (w3:=w7) HRW6.out (fun b hb=>by
    obtain⟨c2,hc⟩:=zAc HRW6.out hb
    refine keep7 b (Array.getElem?_eq_some_iff.1 hc).1 (fun e=> ?_)
    obtain⟨c3,hc3⟩:=zAc HT6.out e
    exact zAU hc hc3 (by decide) rfl))
   have HMD7:=Lib.hid (show Mods (fun b=>b=h∨(Value.slice so H.length cap).ownBlock=some b∨(Value.slice uo H.length ucap).ownBlock=some b) w w7 from grow_mods ⟨B6.os.trans HMD6.out.os,B6.tape.trans HMD6.out.tape,B6.output.trans HMD6.out.output,Nat.le_trans HMD6.out.size B6.size,fun k hk hF=>(B6.block k (Nat.lt_of_lt_of_le hk HMD6.out.size)).trans (HMD6.out.block k hk hF)⟩ hgrow (fun b hb=> .inl (.inr (.inr hb))))
   have HOW7:=Lib.hid hown
   have nub:ub'≠h:=by
    obtain⟨c2,hc⟩:=zAc hown (b:=ub') rfl
    exact zAU hc HM7.out (by decide)
   have HUV7:=Lib.hid (show∀b,(Value.slice (some ⟨ub',0,none⟩) (H.length+1) ucap').ownBlock=some b→(Value.slice uo H.length ucap).ownBlock=some b∨w.heap.size≤b from fun b hb=>by
    rcases hat with h|h
    ·exact .inl (h▸hb)
    ·rw[h] at hb
     injection hb with hb
     right
     try simp at hb
     omega)
   have NUB:=Lib.hid nub
   have hsz7:w.heap.size+3≤w7.heap.size:=by omega
   clear hown hgrow hat B6 ltU keep7 nub hz7 h0 h1 h2 fh0 fh1 fh2 hi4 hi4a hi4b hi4c
   have hlx:w.heap.size<w7.heap.size:=by omega
   have hlr:w.heap.size+1<w7.heap.size:=by omega
   have hlh:h<w7.heap.size:=by omega
   obtain⟨h0,h1,h2⟩:=zBN HM7.out
   obtain⟨fh0,fh1,fh2⟩:=froz3 HM7.out
   have x0:w7.cell? ⟨w.heap.size,0,none⟩=some (.int .i64 kd):=by rw[zAA HX7.out];rfl
   obtain⟨r0,r1,r2,r3,r4⟩:=cells5 HR7.out
   obtain⟨fr0,fr1,fr2,fr3,fr4⟩:=froz5 HR7.out
   go_wp2_with fail
   obtain⟨W8,hW8⟩:∃W8,W8=(w7.setCell ⟨h,2,none⟩ (.slice (some ⟨ub',0,none⟩) (H.length+1) ucap')).setCell ⟨h,1,none⟩ (.int .i64 ((H.length:Int)+1)):=⟨_,rfl⟩
   rw[←hW8]
   have hz8:W8.heap.size=w7.heap.size:=by rw[hW8];simp
   have ho8:∀b,b≠h→W8.heap[b]? =w7.heap[b]? :=fun b hb=>by rw[hW8,Below.heap_setCell _ _ _ _ hb,Below.heap_setCell _ _ _ _ hb]
   have HM8:=Lib.hid (show W8.heap[h]? =some (.cells #[.slice (some ⟨rb',0,none⟩) (H.length+1) cap',.int .i64 ((H.length:Int)+1),.slice (some ⟨ub',0,none⟩) (H.length+1) ucap'] 93) by rw[hW8];exact zAP (zAP HM7.out 2 _) 1 _)
   have HR8:=Lib.hid (show W8.heap[w.heap.size+1]? =some (oV 0 0 0 ⟨#[]⟩ 0) from(ho8 _ (by omega)).trans HR7.out)
   have HX8:=Lib.hid (show W8.heap[w.heap.size]? =some (.cells #[kd,tg,nm,.pointer tp,.int .i64 0,.int .i64 0,.int .i64 0,.string ⟨#[]⟩,.int .i64 0,.slice us un uc,.slice none 0 0] 97) from(ho8 _ (by omega)).trans HX7.out)
   have HRW8:=Lib.hid (zAZ (w3:=W8) HRW7.out (fun b hb=>ho8 b (by injection hb with hb;rw[←hb];exact NRB.out)))
   have HOW8:=Lib.hid (zAZ (w3:=W8) HOW7.out (fun b hb=>ho8 b (by injection hb with hb;rw[←hb];exact NUB.out)))
   have HMD8:=Lib.hid (show Mods (fun b=>b=h∨(Value.slice so H.length cap).ownBlock=some b∨(Value.slice uo H.length ucap).ownBlock=some b) w W8 by rw[hW8];exact zAO (zAO HMD7.out (.inl (.inl rfl)) _) (.inl (.inl rfl)) _)
   clear hW8 ho8 h0 h1 h2 fh0 fh1 fh2 x0 r0 r1 r2 r3 r4 fr0 fr1 fr2 fr3 fr4
   have hly:w.heap.size<W8.heap.size:=by omega
   have hlr8:w.heap.size+1<W8.heap.size:=by omega
   have hlh8:h<W8.heap.size:=by omega
   clear hz8 hlx hlr hlh
   obtain⟨h0,h1,h2⟩:=zBN HM8.out
   have x0:W8.cell? ⟨w.heap.size,0,none⟩=some (.int .i64 kd):=by rw[zAA HX8.out];rfl
   obtain⟨r0,r1,r2,r3,r4⟩:=cells5 HR8.out
   obtain⟨fr0,fr1,fr2,fr3,fr4⟩:=froz5 HR8.out
   refine zAK mixed (by kernel_rfl) ?_
   go_wp2
   refine⟨by kernel_rfl,?_⟩
   go_wp2
   refine bodyPost_ret (by simp[results,Tryz.results110,go_sem,hlr8,r0,r1,r2,r3,r4];first|done|rfl) rfl ?_
   have fin:∀W:World,Mods (fun b=>b=w.heap.size+1) W8 W→RHpAt W h (.slice (some ⟨rb',0,none⟩) (H.length+1) cap') (.slice (some ⟨ub',0,none⟩) (H.length+1) ucap') (H++[(⟨kd,tg,nm,V.nil,.slice us un uc,.slice none 0 0,t0,m0,.slice none 0 0,[]⟩:RO)])∧Mods (fun b=>b=h∨(Value.slice so H.length cap).ownBlock=some b∨(Value.slice uo H.length ucap).ownBlock=some b) w W:=fun W hW=>by
    have hMW:Mods (fun b=>b=h∨(Value.slice so H.length cap).ownBlock=some b∨(Value.slice uo H.length ucap).ownBlock=some b) w W:=⟨hW.os.trans HMD8.out.os,hW.tape.trans HMD8.out.tape,hW.output.trans HMD8.out.output,Nat.le_trans HMD8.out.size hW.size,fun k hk hF=>(hW.block k (Nat.lt_of_lt_of_le hk HMD8.out.size) (by omega)).trans (HMD8.out.block k hk hF)⟩
    have kr:∀{b:Nat} {cs:Array Value} {t:TypeId} {fz:Nat×Nat},W8.heap[b]? =some (.cells cs t fz)→t≠25→W.heap[b]? =W8.heap[b]? :=fun hb ht=>hW.block _ (Array.getElem?_eq_some_iff.1 hb).1 (fun e=>zAU hb HR8.out ht e)
    have hcl:rowRO H++[.int .i64 kd,.int .i64 tg,.string nm,.pointer tp,.int .i64 0,.int .i64 0,.int .i64 0,.string ⟨#[]⟩,.int .i64 0,.slice us un uc,.slice none 0 0]=rowRO H++((⟨kd,tg,nm,V.nil,.slice us un uc,.slice none 0 0,t0,m0,.slice none 0 0,[]⟩:RO)).cells:=by
     show _=rowRO H++[.int .i64 kd,.int .i64 tg,.string nm,((⟨kd,tg,nm,V.nil,.slice us un uc,.slice none 0 0,t0,m0,.slice none 0 0,[]⟩:RO)).tv,.int .i64 0,.int .i64 0,.int .i64 0,.string ⟨#[]⟩,.int .i64 0,.slice us un uc,.slice none 0 0]
     rw[HTV.out]
    have hrx:=zAZ (w3:=W) HRW8.out (fun b hb=>by obtain⟨c2,hc⟩:=zAc HRW8.out hb;exact kr hc (by decide))
    rw[hcl] at hrx
    refine⟨HHH.out.add2 hMW ((kr HM8.out (by decide)).trans HM8.out) hrx ⟨bs++[true],?_⟩ (robj_keep hMW HHH.out HXX.out rfl) HSP.out,hMW⟩
    rw[List.map_append]
    exact zAZ HOW8.out (fun b hb=>by obtain⟨c2,hc⟩:=zAc HOW8.out hb;exact kr hc (by decide))
   refine⟨⟨_,rfl⟩,_,_,(fin _ ?_).1,(fin _ ?_).2,HAV5.out,HUV7.out⟩
   all_goals exact(mods_five (F:=fun b=>b=w.heap.size+1) (Mods.refl _ W8) (.inl rfl) _ _ _ _ _).trans (Mods.of_below (Below.refl _ _).drew)
theorem sNewData_c (w:World) (h:Nat) (av uv:Value) (H:List RO) (hH:RHpAt w h av uv H) (hl:H.length≤1000):Calls Tryz.prog 64 #[.pointer (some ⟨h,0,none⟩),.string ⟨#[100]⟩] w (RGrow w h av uv H ⟨8,V.nil,[]⟩):=by
 have hlt:h<w.heap.size:=(Array.getElem?_eq_some_iff.1 hH.hh).1
 obtain⟨bs,hTc⟩:=hH.tch
 have HAV:=Lib.hid (fun b (hb:av.ownBlock=some b)=>(zAS hH.row hb).2)
 have HUV:=Lib.hid (fun b (hb:uv.ownBlock=some b)=>(zAS hTc hb).2)
 have HHH:=Lib.hid hH
 have HLL:=Lib.hid hl
 clear hH hTc hl
 go_enter Tryz.func64,Tryz.ntmps64
 go_wp2
 obtain⟨W1,hW1⟩:∃W1,W1=(w.alloc (oV 0 0 0 ⟨#[]⟩ 0)).alloc (.cells #[] 25):=⟨_,rfl⟩
 rw[←hW1]
 have hz1:W1.heap.size=w.heap.size+1+1:=by rw[hW1];simp
 have HB1:=Lib.hid (show Below w.heap.size w W1 by rw[hW1];exact zAF _ _ _)
 have HR1:=Lib.hid (show W1.heap[w.heap.size]? =some (oV 0 0 0 ⟨#[]⟩ 0) by rw[hW1];exact zAf _ _ _)
 have hown:W1.ownsRow (w.heap.size+1) 25 5 (.slice (some ⟨w.heap.size+1,0,none⟩) 0 0) 0 []:=by
  rw[hW1]
  have h1:=World.ownsRow_lit (base:=w.heap.size+1) (e:=25) (size:=5) (w.alloc (oV 0 0 0 ⟨#[]⟩ 0)) #[] 0 (by simp) (Nat.zero_le _) rfl
  rw[show(w.alloc (oV 0 0 0 ⟨#[]⟩ 0)).heap.size=w.heap.size+1 by simp] at h1
  exact h1
 have HS0:=Lib.hid (show DRel W1 (w.heap.size+1) 16 (.slice (some ⟨w.heap.size+1,0,none⟩) 0 0) (.int .i64 0) W1 from⟨0,_,0,[],rfl,rfl,rfl,Nat.zero_le _,hown,Below.refl _ _⟩)
 clear hW1 hown
 go_loopg [6,7] 16 (fun gg sv iv wr=>DRel W1 (w.heap.size+1) gg sv iv wr)
 case atStart=>exact HS0.out
 obtain⟨j,so,cap,xs,rfl,rfl,rfl,hj,hown,hb⟩:=hrel
 have HOWN:=Lib.hid hown
 have HB:=Lib.hid hb
 have hsz:=hb.size
 clear hown hb HS0
 by_cases hlt:j<16
 ·obtain⟨i5,hi5,hi5a,hi5b,hi5c⟩:=info_parts info25p
  go_wp2_with (at_builtin;refine wpList_append_own_at _ rfl (.tmp 20) (.tmp 22) 41 rfl (w.heap.size+1) 25 i5 _ 5 48 Tryz.underlying41 hi5 hi5a hi5b hi5c rfl (by decide) (.slice so j cap) j xs rfl ?A _ 1 1 [.int .i64 0,.int .i64 0,.int .i64 0,.string ⟨#[]⟩,.int .i64 0] rfl rfl ?B ?C ?D ?E ?F ?G)
  case A=>exact zAQ (zAa ((Below.refl _ _).alloc (Nat.le_refl _) _) (Nat.le_refl _)) HOWN.out
  case B=>exact cells_five _ _ _ _ _ _ _ _ (by first|rfl|simp)
  case C=>
   intro u hu
   simp only[List.mem_cons,List.not_mem_nil,or_false] at hu
   rcases hu with rfl|rfl|rfl|rfl|rfl<;>simp[Value.oneCell']
  case D=>unfold maxLen;omega
  case E=>omega
  case F=>simp;omega
  case G=>
   intro v' w5 hown hgrow _ hat
   obtain⟨rb',cap',rfl⟩:=zAl hown (by omega)
   have HO5:=Lib.hid hown
   have HG5:=Lib.hid hgrow
   clear hown hgrow hat hi5 hi5a hi5b hi5c
   go_wp2
   go_roundg (16-(j+1))
   case measure=>omega
   case rel=>
    refine⟨j+1,_,cap',_,rfl,rfl,rfl,by omega,HO5.out,?_⟩
    have hb1:Below (w.heap.size+1) wr (wr.alloc (.cells #[.int .i64 0,.int .i64 0,.int .i64 0,.string ⟨#[]⟩,.int .i64 0] 25)):=(Below.refl _ _).alloc (by omega) _
    refine HB.out.trans ⟨HG5.out.os.trans hb1.os,HG5.out.tape.trans hb1.tape,HG5.out.output.trans hb1.output,Nat.le_trans hb1.size HG5.out.size,fun b hb=>(HG5.out.block b (Nat.lt_of_lt_of_le (by omega) hb1.size) (fun e=> ?_)).trans (hb1.block b hb)⟩
    have:=(zAS HOWN.out e.symm).1
    omega
 ·obtain rfl:j=16:=by omega
  have HBW:=Lib.hid (HB1.out.trans (HB.out.mono (show w.heap.size≤w.heap.size+1 by omega)))
  have HRR:=Lib.hid (show wr.heap[w.heap.size]? =some (oV 0 0 0 ⟨#[]⟩ 0) from(HB.out.block _ (by omega)).trans HR1.out)
  go_wp2_with fail
  refine(sAdd_c _ h av uv H (HHH.out.below HBW.out) HLL.out 8 0 ⟨#[100]⟩ none so 16 cap 0 0 ⟨.inr (.inr rfl),wf_nil,fun h=>absurd h (show¬(8:Int)=5 by decide),fun h=>absurd h (show¬(8:Int)=4 by decide)⟩ rfl (fun y hy _ h=>absurd h (show¬(8:Int)=4 by decide))).mono ?_
  rintro e w3 ⟨⟨v3,rfl⟩,av',uv',hA,hM,h3,h4⟩
  have HA:=Lib.hid hA
  have HM:=Lib.hid hM
  have H3:=Lib.hid h3
  have H4:=Lib.hid h4
  have HBX:=Lib.hid (show Below w.heap.size w wr from HBW.out)
  have HR3:=Lib.hid (zAj hM HRR.out (fun e=>by rcases e with e|e|e<;>first|omega|(have:=HAV.out _ e;omega)|(have:=HUV.out _ e;omega)))
  have hyr:w.heap.size<w3.heap.size:=(Array.getElem?_eq_some_iff.1 HR3.out).1
  clear hA hM h3 h4
  obtain⟨r0,r1,r2,r3,r4⟩:=cells5 HR3.out
  obtain⟨fr0,fr1,fr2,fr3,fr4⟩:=froz5 HR3.out
  go_wp2
  refine bodyPost_ret (by simp[results,Tryz.results64,go_sem,hyr,r0,r1,r2,r3,r4];first|done|rfl) rfl ?_
  refine rgrow_end HBX.out HA.out HM.out H3.out H4.out HR3.out (mods_five (F:=fun b=>b=w.heap.size) (Mods.refl _ _) (.inl rfl) _ _ _ _ _) rfl rfl (fun b hb=> ?_) _
  exact absurd hb.1 (show¬(8:Int)=4 by decide)
end Go.Proofs.YthkpckgcgkijbaaGreatDoor
