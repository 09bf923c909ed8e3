import Derived.Test.YthkpckgcgkijbaaGreatDoorOpD
import Derived.Test.YthkpckgcgkijbaaGreatDoorMapL
set_option linter.unusedVariables false
set_option linter.unusedSimpArgs false
set_option maxRecDepth 100000
set_option maxHeartbeats 2000000
namespace Go.Proofs.YthkpckgcgkijbaaGreatDoor
open Go.RowKit Go.Proofs.Lexi Go.Proofs.Tryz
theorem DR (w:World) (k1 p1 q1:Int) (s1:ByteArray) (r1:Int) (hk:k1=4\/k1=5\/k1=8):Calls prog 222 #[.agg #[k1,p1,q1,s1,r1]] w (BoolPost w true):=by
 rcases hk with rfl|rfl|rfl;all_goals
  go_enter func222,ntmps222;go_wp2
  go_ret
  exact Q9 rfl (Qf _ _)
theorem DV (w:World) (h:Nat) (uv:Value) (so:Option Addr) (cap:Nat) (H:List RO) (hh:w.heap[h]? =some (.cells #[.slice so H.length cap,.int .i64 (H.length:Nat),uv] 93)) (k1 p1 q1:Int) (s1:ByteArray) (r1:Int) (hk:k1=0):Calls prog 170 #[h,.agg #[k1,p1,q1,s1,r1]] w (BoolPost w false):=by
 have HR:=zh trivial;have tk:(k1 !=0)=false:=by rw[bne_eq_false_iff_eq];exact hk
 clear hk;have h0:(w.alloc (oV k1 p1 q1 s1 r1)).cell? h=some (.slice so H.length cap):=by rw[QA (QI hh _)];rfl
 clear hh;go_enter func170,ntmps170;go_wp2;refine QK mixed (by kernel_rfl) ?_;go_wp2_with (first|(go_at_call 222;refine(HR.out _).mono ?_;rintro e w1 ⟨rfl,hb⟩))
 refine⟨by kernel_rfl,?_⟩;go_wp2
 go_ret
 exact Q9 rfl (Qf _ _).drew
theorem DW (w:World) (h:Nat) (uv:Value) (so:Option Addr) (cap:Nat) (H:List RO) (hh:w.heap[h]? =some (.cells #[.slice so H.length cap,.int .i64 (H.length:Nat),uv] 93)) (k1 p1 q1:Int) (s1:ByteArray) (r1:Int) (hk:k1≠0) (hr:¬1<=r1):Calls prog 170 #[h,.agg #[k1,p1,q1,s1,r1]] w (BoolPost w false):=by
 have HR:=zh trivial;have tk:(k1 !=0)=true:=by rw[bne_iff_ne];exact hk
 have tr:decide (1<=r1)=false:=by rw[decide_eq_false_iff_not];exact hr
 clear hk;have h0:(w.alloc (oV k1 p1 q1 s1 r1)).cell? h=some (.slice so H.length cap):=by rw[QA (QI hh _)];rfl
 clear hh;go_enter func170,ntmps170;go_wp2;refine QK mixed (by kernel_rfl) ?_;go_wp2_with (first|(go_at_call 222;refine(HR.out _).mono ?_;rintro e w1 ⟨rfl,hb⟩))
 refine⟨by kernel_rfl,?_⟩;go_wp2
 go_ret
 exact Q9 rfl (Qf _ _).drew
theorem EJ (w:World) (h:Nat) (uv:Value) (so:Option Addr) (cap:Nat) (H:List RO) (hh:w.heap[h]? =some (.cells #[.slice so H.length cap,.int .i64 (H.length:Nat),uv] 93)) (k1 p1 q1:Int) (s1:ByteArray) (r1:Int) (hk:k1≠0) (hr:1<=r1) (hr2:¬r1<=(H.length:Nat)):Calls prog 170 #[h,.agg #[k1,p1,q1,s1,r1]] w (BoolPost w false):=by
 have HR:=zh trivial;have tk:(k1 !=0)=true:=by rw[bne_iff_ne];exact hk
 have tr:decide (1<=r1)=true:=by rw[decide_eq_true_eq];exact hr
 have tr2:decide (r1<=((H.length:Nat):Int))=false:=by rw[decide_eq_false_iff_not];exact hr2
 clear hk;have h0:(w.alloc (oV k1 p1 q1 s1 r1)).cell? h=some (.slice so H.length cap):=by rw[QA (QI hh _)];rfl
 clear hh;go_enter func170,ntmps170;go_wp2;refine QK mixed (by kernel_rfl) ?_;go_wp2_with (first|(go_at_call 222;refine(HR.out _).mono ?_;rintro e w1 ⟨rfl,hb⟩))
 refine⟨by kernel_rfl,?_⟩;go_wp2
 go_ret
 exact Q9 rfl (Qf _ _).drew
theorem UB (w:World) (h:Nat) (uv:Value) (rb:Nat) (cap:Nat) (H:List RO) (hh:w.heap[h]? =some (.cells #[.slice (some rb) H.length cap,.int .i64 (H.length:Nat),uv] 93)) (k1 p1 q1:Int) (s1:ByteArray) (r1:Int) (hk:k1≠0) (i:Nat) (x:RO) (hi:H[i]? =some x) (hr:r1=((i:Nat):Int)+1) (hrow:w.ownsRow 0 97 11 (.slice (some rb) H.length cap) H.length (Zv H)) (hl:H.length<=1000) (hx:x.kind≠k1):Calls prog 170 #[h,.agg #[k1,p1,q1,s1,r1]] w (BoolPost w false):=by
 have hi1:1<=r1:=by omega
 have hil:i<H.length:=(List.getElem?_eq_some_iff.1 hi).1;have tk:(k1 !=0)=true:=by rw[bne_iff_ne];exact hk
 have tr:decide (1<=r1)=true:=by rw[decide_eq_true_eq];exact hi1
 have tr2:decide (r1<=((H.length:Nat):Int))=true:=by rw[decide_eq_true_eq];omega
 have c0:(w.alloc (oV k1 p1 q1 s1 r1)).cell? ⟨rb,i*11,none⟩=some (.int .i64 x.kind):=((QR (QV (Qf w (oV k1 p1 q1 s1 r1)) zl) hrow).cellAt (i*11+0) (by omega)).trans (Q8 H i 0 x hi (by decide));clear hk hi hrow;have h0:(w.alloc (oV k1 p1 q1 s1 r1)).cell? h=some (.slice (some rb) H.length cap):=by rw[QA (QI hh _)];rfl
 clear hh;have HR:=zh trivial;have te:(x.kind==k1)=false:=by rw[beq_eq_false_iff_ne];exact hx
 clear hx hi1;subst hr;go_enter func170,ntmps170;go_wp2;refine QK mixed (by kernel_rfl) ?_;go_wp2_with (first|(go_at_call 222;refine(HR.out _).mono ?_;rintro e w1 ⟨rfl,hb⟩))
 refine⟨by kernel_rfl,?_⟩;go_wp2
 go_ret
 exact Q9 rfl (Qf _ _).drew
theorem DX (w:World) (h:Nat) (uv:Value) (rb:Nat) (cap:Nat) (H:List RO) (hh:w.heap[h]? =some (.cells #[.slice (some rb) H.length cap,.int .i64 (H.length:Nat),uv] 93)) (k1 p1 q1:Int) (s1:ByteArray) (r1:Int) (hk:k1≠0) (i:Nat) (x:RO) (hi:H[i]? =some x) (hr:r1=((i:Nat):Int)+1) (hrow:w.ownsRow 0 97 11 (.slice (some rb) H.length cap) H.length (Zv H)) (hl:H.length<=1000) (hx:x.kind=k1) (hkk:k1=4\/k1=5\/k1=8):Calls prog 170 #[h,.agg #[k1,p1,q1,s1,r1]] w (BoolPost w true):=by
 have hi1:1<=r1:=by omega
 have hil:i<H.length:=(List.getElem?_eq_some_iff.1 hi).1;have tk:(k1 !=0)=true:=by rw[bne_iff_ne];exact hk
 have tr:decide (1<=r1)=true:=by rw[decide_eq_true_eq];exact hi1
 have tr2:decide (r1<=((H.length:Nat):Int))=true:=by rw[decide_eq_true_eq];omega
 have c0:(w.alloc (oV k1 p1 q1 s1 r1)).cell? ⟨rb,i*11,none⟩=some (.int .i64 x.kind):=((QR (QV (Qf w (oV k1 p1 q1 s1 r1)) zl) hrow).cellAt (i*11+0) (by omega)).trans (Q8 H i 0 x hi (by decide));clear hk hi hrow;have h0:(w.alloc (oV k1 p1 q1 s1 r1)).cell? h=some (.slice (some rb) H.length cap):=by rw[QA (QI hh _)];rfl
 clear hh;have HR:=zh (fun W=>DR W k1 p1 q1 s1 r1 hkk);rw[hx] at c0;clear hx hi1 hkk;subst hr;go_enter func170,ntmps170;go_wp2;refine QK mixed (by kernel_rfl) ?_;go_wp2_with (first|(go_at_call 222;refine(HR.out _).mono ?_;rintro e w1 ⟨rfl,hb⟩))
 refine⟨by kernel_rfl,?_⟩;go_wp2
 go_ret
 exact Q9 rfl (QC (Qf _ _).drew (by assumption))
theorem Nj (w:World) (h:Nat) (av uv:Value) (H:List RO) (hH:RHpAt w h av uv H) (hl:H.length<=1000) (k1 p1 q1:Int) (s1:ByteArray) (r1:Int):Calls prog 170 #[.pointer (some ⟨h,0,none⟩),.agg #[k1,p1,q1,s1,r1]] w (BoolPost w (Zp H ⟨k1,p1,q1,s1,r1⟩).isSome):=by
 obtain⟨so,cap,rfl⟩:=Zb hH.row;by_cases hk:k1=0
 ·have:Zp H ⟨k1,p1,q1,s1,r1⟩=none:=by
   cases hf:Zp H ⟨k1,p1,q1,s1,r1⟩ with
   |none=>rfl
   |some x=>
    obtain⟨i,hi,hxk,_,hxm⟩:=Jg hf;have:=(hH.one x hxm).kd;have hxk:x.kind=k1:=hxk;omega
  rw[this];exact DV w h uv so cap H hH.hh k1 p1 q1 s1 r1 hk
 ·by_cases hr:1<=r1
  rotate_left
  ·rw[show Zp H ⟨k1,p1,q1,s1,r1⟩=none from if_neg hr];exact DW w h uv so cap H hH.hh k1 p1 q1 s1 r1 hk hr
  ·have hfi:Zp H ⟨k1,p1,q1,s1,r1⟩=(match H[r1.toNat-1]? with|some o=>if o.kind=k1 then some o else none|none=>none):=if_pos hr;by_cases hr2:r1<=(H.length:Nat)
   rotate_left
   ·rw[hfi,List.getElem?_eq_none_iff.2 (by omega)];exact EJ w h uv so cap H hH.hh k1 p1 q1 s1 r1 hk hr hr2
   ·obtain⟨i,hri⟩:∃i:Nat,r1=((i:Nat):Int)+1:=⟨(r1-1).toNat,by omega⟩
    have hil:i<H.length:=by omega
    obtain⟨x,hx⟩:∃x,H[i]? =some x:=⟨_,List.getElem?_eq_getElem hil⟩
    obtain⟨rb,cap',he⟩:=Qh hH.row (by omega);injection he with he1 he2 he3;subst he1;rw[hfi,show r1.toNat-1=i by omega,hx];by_cases hxk:x.kind=k1
    ·rw[show(match some x with|some o=>if o.kind=k1 then some o else none|none=>none)=some x from if_pos hxk];exact DX w h uv rb cap H hH.hh k1 p1 q1 s1 r1 hk i x hx hri hH.row hl hxk (by have:=(hH.one x (List.mem_of_getElem? hx)).kd;omega)
    ·rw[show(match some x with|some o=>if o.kind=k1 then some o else none|none=>none)=none from if_neg hxk];exact UB w h uv rb cap H hH.hh k1 p1 q1 s1 r1 hk i x hx hri hH.row hl hxk
theorem S2 (w:World) (h:Nat) (k1 p1 q1:Int) (s1:ByteArray) (r1:Int) (K:Int) (D:∀W,Below w w W->Calls prog 170 #[h,.agg #[k1,p1,q1,s1,r1]] W (BoolPost W false)):Calls prog 113 #[h,.agg #[k1,p1,q1,s1,r1],K] w (BoolPost w false):=by
 have HD:=zh D;clear D;go_enter func113,ntmps113;go_wp2_with (first|(go_at_call 170;refine(HD.out _ (Qf _ _)).mono ?_;rintro e w1 ⟨rfl,hb⟩))
 go_ret
 exact Q9 rfl (QC (Qf _ _) (by assumption))
theorem Lo (w:World) (h:Nat) (k1 p1 q1:Int) (s1:ByteArray) (r1:Int) (K:Int) (hK:(k1==K)=true) (D:∀W,Below w w W->Calls prog 170 #[h,.agg #[k1,p1,q1,s1,r1]] W (BoolPost W true)):Calls prog 113 #[h,.agg #[k1,p1,q1,s1,r1],K] w (BoolPost w true):=by
 have HD:=zh D;clear D;go_enter func113,ntmps113;go_wp2_with fail
 refine(HD.out _ (Qf _ _)).mono ?_;rintro e w1 ⟨rfl,hb⟩;have HB:=zh hb;have a0:w1.cell? w=some (.int .i64 k1):=by rw[QA (QL hb (Qy w (oV k1 p1 q1 s1 r1)))];rfl
 clear hb;go_wp2
 go_ret
 exact Q9 rfl (QC (Qf _ _) HB.out)
theorem OG (w:World) (h:Nat) (k1 p1 q1:Int) (s1:ByteArray) (r1:Int) (K:Int) (hK:(k1==K)=false) (D:∀W,Below w w W->Calls prog 170 #[h,.agg #[k1,p1,q1,s1,r1]] W (BoolPost W true)):Calls prog 113 #[h,.agg #[k1,p1,q1,s1,r1],K] w (BoolPost w false):=by
 have HD:=zh D;clear D;go_enter func113,ntmps113;go_wp2_with fail
 refine(HD.out _ (Qf _ _)).mono ?_;rintro e w1 ⟨rfl,hb⟩;have HB:=zh hb;have a0:w1.cell? w=some (.int .i64 k1):=by rw[QA (QL hb (Qy w (oV k1 p1 q1 s1 r1)))];rfl
 clear hb;go_wp2
 go_ret
 exact Q9 rfl (QC (Qf _ _) HB.out)
theorem NI (w:World) (h:Nat) (av uv:Value) (H:List RO) (hH:RHpAt w h av uv H) (hl:H.length<=1000) (k1 p1 q1:Int) (s1:ByteArray) (r1:Int) (K:Int):Calls prog 113 #[h,.agg #[k1,p1,q1,s1,r1],K] w (BoolPost w ((Zp H ⟨k1,p1,q1,s1,r1⟩).isSome&&(k1==K))):=by
 have D:=fun W (hb:Below w w W)=>Nj W h av uv H (hH.below hb) hl k1 p1 q1 s1 r1;cases hf:(Zp H ⟨k1,p1,q1,s1,r1⟩).isSome with
 |false=>rw[hf] at D;exact S2 w h k1 p1 q1 s1 r1 K D
 |true=>
  rw[hf] at D;cases hK:k1==K with
  |true=>exact Lo w h k1 p1 q1 s1 r1 K hK D
  |false=>exact OG w h k1 p1 q1 s1 r1 K hK D
theorem Fj (w:World) (h:Nat) (k1 p1 q1:Int) (s1:ByteArray) (r1:Int) (I:∀W,Below w w W->Calls prog 113 #[h,.agg #[k1,p1,q1,s1,r1],.int .i64 4] W (BoolPost W true)):Calls prog 117 #[h,.agg #[k1,p1,q1,s1,r1]] w (IntPost w 0):=by
 have HI:=zh I;clear I;go_enter func117,ntmps117;go_wp2_with (first|(go_at_call 113;refine(HI.out _ (Qf _ _)).mono ?_;rintro e w1 ⟨rfl,hb⟩))
 go_ret
 exact Qr rfl (QC (Qf _ _) (by assumption))
theorem DA (w:World) (h:Nat) (k1 p1 q1:Int) (s1:ByteArray) (r1:Int) (I:∀W,Below w w W->Calls prog 113 #[h,.agg #[k1,p1,q1,s1,r1],.int .i64 4] W (BoolPost W false)):Calls prog 117 #[h,.agg #[k1,p1,q1,s1,r1]] w (IntPost w 8):=by
 have HI:=zh I;clear I;go_enter func117,ntmps117;go_wp2_with (first|(go_at_call 113;refine(HI.out _ (Qf _ _)).mono ?_;rintro e w1 ⟨rfl,hb⟩))
 go_ret
 exact Qr rfl (QC (Qf _ _) (by assumption))
theorem Gj (w:World) (h:Nat) (av uv:Value) (H:List RO) (hH:RHpAt w h av uv H) (hl:H.length<=1000) (k1 p1 q1:Int) (s1:ByteArray) (r1:Int):Calls prog 117 #[h,.agg #[k1,p1,q1,s1,r1]] w (IntPost w (Uq H ⟨k1,p1,q1,s1,r1⟩)):=by
 have I:=fun W (hb:Below w w W)=>NI W h av uv H (hH.below hb) hl k1 p1 q1 s1 r1 4;unfold Uq;show Calls _ _ _ _ (IntPost w (if ((Zp H ⟨k1,p1,q1,s1,r1⟩).isSome&&(k1==4))=true then 0 else 8));cases hf:((Zp H ⟨k1,p1,q1,s1,r1⟩).isSome&&(k1==4)) with
 |true=>rw[hf] at I;exact Fj w h k1 p1 q1 s1 r1 I
 |false=>rw[hf] at I;exact DA w h k1 p1 q1 s1 r1 I
theorem SY (w:World) (k1 p1 q1:Int) (s1:ByteArray) (r1:Int):Calls prog 115 #[.agg #[k1,p1,q1,s1,r1]] w (IntPost w (GK ⟨k1,p1,q1,s1,r1⟩)):=by
 have HV:=zh (fun W=>JY W k1 p1 q1 s1 r1);by_cases hb:k1=3/\4096<s1.size
 ·have HC:=zh (show 14=GK ⟨k1,p1,q1,s1,r1⟩ from(if_pos hb).symm);have t3:(k1==3)=true:=by rw[beq_iff_eq];exact hb.1
  have ts:decide ((4096:Int)<(s1.size:Int))=true:=by rw[decide_eq_true_eq];omega
  have ts2:(4096:Int)<(s1.size:Int):=by omega
  clear hb;go_enter func115,ntmps115;go_wp2
  go_ret
  exact Qr HC.out (Qf _ _)
 ·have tt:(k1==3)=false\/((k1==3)=true/\¬4096<s1.size):=by
   by_cases h3:k1=3
   ·exact .inr ⟨by rw[beq_iff_eq];exact h3,fun h=>hb ⟨h3,h⟩⟩
   ·exact .inl (by rw[beq_eq_false_iff_ne];exact h3)
  cases hv:Qt ⟨k1,p1,q1,s1,r1⟩ with
  |true=>
   have HC:=zh (show 0=GK ⟨k1,p1,q1,s1,r1⟩ from by unfold GK;rw[if_neg hb,if_pos hv]);have HVT:=zh (fun W=>(hv▸HV.out W:Calls prog 36 #[.agg #[k1,p1,q1,s1,r1]] W (BoolPost W true)));clear hb hv HV;rcases tt with t3|⟨t3,ts⟩
   ·go_enter func115,ntmps115;go_wp2_with (first|(go_at_call 36;refine(HVT.out _).mono ?_;rintro e w1 ⟨rfl,hb⟩))
    go_ret
    exact Qr HC.out (QC (Qf _ _) (by assumption))
   ·have ts1:decide ((4096:Int)<(s1.size:Int))=false:=by rw[decide_eq_false_iff_not];omega
    have ts2:¬(4096:Int)<(s1.size:Int):=by omega
    go_enter func115,ntmps115;go_wp2_with (first|(go_at_call 36;refine(HVT.out _).mono ?_;rintro e w1 ⟨rfl,hb⟩))
    go_ret
    exact Qr HC.out (QC (Qf _ _) (by assumption))
  |false=>
   have HC:=zh (show 2=GK ⟨k1,p1,q1,s1,r1⟩ from by unfold GK;rw[if_neg hb,if_neg (by rw[hv];decide)]);have HVT:=zh (fun W=>(hv▸HV.out W:Calls prog 36 #[.agg #[k1,p1,q1,s1,r1]] W (BoolPost W false)));clear hb hv HV;rcases tt with t3|⟨t3,ts⟩
   ·go_enter func115,ntmps115;go_wp2_with (first|(go_at_call 36;refine(HVT.out _).mono ?_;rintro e w1 ⟨rfl,hb⟩))
    go_ret
    exact Qr HC.out (QC (Qf _ _) (by assumption))
   ·have ts1:decide ((4096:Int)<(s1.size:Int))=false:=by rw[decide_eq_false_iff_not];omega
    have ts2:¬(4096:Int)<(s1.size:Int):=by omega
    go_enter func115,ntmps115;go_wp2_with (first|(go_at_call 36;refine(HVT.out _).mono ?_;rintro e w1 ⟨rfl,hb⟩))
    go_ret
    exact Qr HC.out (QC (Qf _ _) (by assumption))
theorem Pl (w:World) (h bo bt:Nat) (H:List PO) (hH:HpAt w h bo bt H) (k1 p1 q1:Int) (s1:ByteArray) (r1:Int) (hr:i64 r1):Calls prog 112 #[h,.agg #[k1,p1,q1,s1,r1],(0:Int)] w (TouchPost w h bo bt H):=by
 have hlt:h<w:=(Array.getElem?_eq_some_iff.1 hH.hh).1;have hbt:bt<w:=by obtain⟨E,hE⟩:=hH.touched;exact hE.lt
 have HST:=zh (T4 hH.touched hr);have HHH:=zh hH;have hh:=hH.hh;have h0:(w.alloc (oV k1 p1 q1 s1 r1)).cell? h=some (.map (some bo)):=by rw[QA (QI hh _)];rfl
 have h1:(w.alloc (oV k1 p1 q1 s1 r1)).cell? ⟨h,1,none⟩=some (.int .i64 (H.length:Nat)):=by rw[QA (QI hh _)];rfl
 have h2:(w.alloc (oV k1 p1 q1 s1 r1)).cell? ⟨h,2,none⟩=some (.map (some bt)):=by rw[QA (QI hh _)];rfl
 clear hH hr hh;go_enter func112,ntmps112;go_wp2;refine QK mixed (by kernel_rfl) ?_;go_wp2_with (at_mapUpdate;refine ZE _ rfl _ _ _ _ rfl _ _ _ rfl rfl rfl _ (HST.out _ (Below.heap_alloc w _ bt (by omega))) ?_;intro w3 hw3)
 refine⟨by kernel_rfl,?_⟩;have HX:=zh hw3;clear hw3 h0 h1 h2;go_wp2
 go_ret
 obtain⟨h1,h2,h3⟩:=HX.out;have hb:=(Qf w (oV k1 p1 q1 s1 r1)).drew;exact⟨rfl,(HHH.out.below hb).touch h2 h1,(Mods.of_below hb).trans h2⟩
theorem Xe (w:World) (h bo bt:Nat) (H:List PO) (hH:HpAt w h bo bt H) (hl:H.length<=1000) (x:PO) (hx:PObj w x) (hsep:∀y∈H,PSep y x) (hg:x.kind=4->x.g≠bo/\x.g≠bt):Calls prog 108 #[h,.pointer (some x.o)] w (AddPost w h bo bt H x):=by
 have hlt:h<w:=(Array.getElem?_eq_some_iff.1 hH.hh).1;have hot:bo≠bt:=hH.ot;obtain⟨E0,hE0⟩:=hH.touched;have hbt:bt<w:=hE0.lt;have hbo:bo<w:=hH.objs.lt;obtain⟨es,c,hbt0⟩:=hE0.obj;obtain⟨es2,c2,hbo0⟩:=hH.objs.obj;have hho:h≠bo:=Jf hH.hh hbo0;have hht:h≠bt:=Jf hH.hh hbt0;have hxl:x.o<w:=(Array.getElem?_eq_some_iff.1 hx.ho).1;have hxh:x.o≠h:=QW hx.ho hH.hh (by decide);have hxo:x.o≠bo:=Jf hx.ho hbo0;have hxt:x.o≠bt:=Jf hx.ho hbt0;clear hbt0 hbo0 es c es2 c2;have HLN:=zh (Bc hH.objs);have hlen:∀ty,(Builtin.len_ #[86] ty #[.map (some bo)]).run prog (w.alloc (oV 0 0 0 ⟨#[]⟩ 0))= .ok (.int .i64 ((Xx H).length:Nat)) (w.alloc (oV 0 0 0 ⟨#[]⟩ 0)):=HLN.out _ (Below.heap_alloc w _ bo (by omega));rw[Ps] at hlen;have HPO:=zh (SI hH.objs hl x.o);have HTO:=zh (T4 hH.touched (show i64 ((H.length:Int)+1) from⟨by omega,by omega⟩));have HHH:=zh hH;have HXX:=zh hx;have HSP:=zh hsep;have HGG:=zh hg;have hh:=hH.hh;have h0:(w.alloc (oV 0 0 0 ⟨#[]⟩ 0)).cell? h=some (.map (some bo)):=by rw[QA (QI hh _)];rfl
 have h1:(w.alloc (oV 0 0 0 ⟨#[]⟩ 0)).cell? ⟨h,1,none⟩=some (.int .i64 (H.length:Nat)):=by rw[QA (QI hh _)];rfl
 have h2:(w.alloc (oV 0 0 0 ⟨#[]⟩ 0)).cell? ⟨h,2,none⟩=some (.map (some bt)):=by rw[QA (QI hh _)];rfl
 have fh0:(w.alloc (oV 0 0 0 ⟨#[]⟩ 0)).frozen? h=false:=QB (QI hh _) _;have fh1:(w.alloc (oV 0 0 0 ⟨#[]⟩ 0)).frozen? ⟨h,1,none⟩=false:=QB (QI hh _) _;have fh2:(w.alloc (oV 0 0 0 ⟨#[]⟩ 0)).frozen? ⟨h,2,none⟩=false:=QB (QI hh _) _;have hq1:¬(65536:Int)<=(H.length:Int):=by omega
 have hq2:decide ((65536:Int)<=(H.length:Int))=false:=by rw[decide_eq_false_iff_not];exact hq1
 clear hH hx hsep hg hh hE0;go_enter func108,ntmps108;go_wp2;clear hlen;obtain⟨W1,hW1⟩:∃W1,W1=(w.setCell ⟨h,1,none⟩ (.int .i64 ((H.length:Int)+1))).alloc (oV 0 0 0 ⟨#[]⟩ 0):=⟨_,rfl⟩
 rw[<-hW1];have HM1:=zh (show Mods (fun b=>b=h\/b=bo\/b=bt) w W1 by rw[hW1];exact(QQ (Mods.refl _ w) (.inl (.inl rfl)) _).trans (Mods.of_below (Qf _ _)));have HH1:=zh (show W1.heap[h]? =some (.cells #[.map (some bo),.int .i64 ((H.length:Int)+1),.map (some bt)] 89) by rw[hW1];exact QI (Ql HHH.out.hh 1 _) _);have HO1:=zh (show W1.heap[bo]? =w.heap[bo]? by rw[hW1,Below.heap_alloc _ _ bo (by simp;omega)];exact Below.heap_setCell _ _ _ _ (fun e=>hho e.symm));have HT1:=zh (show W1.heap[bt]? =w.heap[bt]? by rw[hW1,Below.heap_alloc _ _ bt (by simp;omega)];exact Below.heap_setCell _ _ _ _ (fun e=>hht e.symm));have HR1:=zh (show W1.heap[w.heap.size]? =some (oV 0 0 0 ⟨#[]⟩ 0) by rw[hW1];simpa using Qy (w.setCell ⟨h,1,none⟩ (.int .i64 ((H.length:Int)+1))) (oV 0 0 0 ⟨#[]⟩ 0));have hz1:W1.heap.size=w.heap.size+1:=by rw[hW1];simp
 clear hW1 h0 h1 h2 fh0 fh1 fh2;obtain⟨h0,h1,h2⟩:=zc3 HH1;refine QK mixed (by kernel_rfl) ?_;go_wp2_with (at_mapUpdate;refine ZE _ rfl _ _ _ _ rfl _ _ _ rfl rfl rfl _ (HPO.out _ HO1.out) ?_;intro w2 hw2)
 refine⟨by kernel_rfl,?_⟩;have HX2:=zh hw2;have hz2:W1.heap.size<=w2.heap.size:=hw2.2.2;have HH2:=zh (Qn hw2.2.1 (show W1.drew.heap[h]? =_ from HH1.out) hho);have HR2:=zh (Qn hw2.2.1 (show W1.drew.heap[w.heap.size]? =_ from HR1.out) (by omega));have HT2:=zh (show w2.heap[bt]? =w.heap[bt]? from(hw2.2.1.block bt (show bt<W1 by omega) (fun e=>hot e.symm)).trans HT1.out);clear hw2 h0 h1 h2;obtain⟨h0,h1,h2⟩:=zc3 HH2;go_wp2;refine QK mixed (by kernel_rfl) ?_;go_wp2_with (at_mapUpdate;refine ZE _ rfl _ _ _ _ rfl _ _ _ rfl rfl rfl _ (HTO.out _ HT2.out) ?_;intro w3 hw3)
 refine⟨by kernel_rfl,?_⟩;have HX3:=zh hw3;have hz3:w2.heap.size<=w3.heap.size:=hw3.2.2;have HH3:=zh (Qn hw3.2.1 (show w2.drew.heap[h]? =_ from HH2.out) hht);have HR3:=zh (Qn hw3.2.1 (show w2.drew.heap[w.heap.size]? =_ from HR2.out) (by omega));have HM3:=zh (show Mods (fun b=>b=h\/b=bo\/b=bt) w w3 from(HM1.out.trans ((Mods.of_below (Below.refl _ _).drew).trans (HX2.out.2.1.mono (fun k _ e=> .inr (.inl e))))).trans ((Mods.of_below (Below.refl _ _).drew).trans (hw3.2.1.mono (fun k _ e=> .inr (.inr e)))));have HXO:=zh (show w3.heap[x.o]? =some (.cells x.cells 104) from Qn HM3.out HXX.out.ho (by omega));clear hw3 h0 h1 h2;obtain⟨h0,h1,h2⟩:=zc3 HH3;have x0:w3.cell? x.o=some (.int .i64 x.kind):=by rw[QA HXO.out];rfl
 have hlr:w.heap.size<w3.heap.size:=by omega
 have hlh:h<w3:=by omega
 have hlx:x.o<w3:=by omega
 obtain⟨r0,r1,r2,r3,r4⟩:=zc5 HR3;obtain⟨fr0,fr1,fr2,fr3,fr4⟩:=zf5 HR3;go_wp2;refine QK mixed (by kernel_rfl) ?_;go_wp2;refine⟨by kernel_rfl,?_⟩;go_wp2;refine zr (by simp[results,results108,go_sem,hlr,r0,r1,r2,r3,r4]<;>rfl) ?_;have fin:∀W:World,Below w.heap.size w3 W->HpAt W h bo bt (H++[x])/\Mods (fun b=>b=h\/b=bo\/b=bt) w W:=fun W hb=>by
  have hMW:Mods (fun b=>b=h\/b=bo\/b=bt) w W:=⟨hb.os.trans HM3.out.os,hb.tape.trans HM3.out.tape,hb.output.trans HM3.out.output,Nat.le_trans HM3.out.size hb.size,fun k hk hF=>(hb.block k hk).trans (HM3.out.block k hk hF)⟩
  refine⟨HHH.out.add hMW ((hb.block h hlt).trans HH3.out) (MapAt.keep (HX2.out.1.keep ?_) (hb.block bo hbo)) ?_ HXX.out HSP.out HGG.out,hMW⟩
  ·exact(HX3.out.2.1.block bo (show bo<w2 by omega) hot)
  ·obtain⟨E',h4⟩:=HX3.out.1;exact⟨E',h4.keep (hb.block bt hbt)⟩
 exact⟨rfl,fin _ (QG (Below.refl _ _).drew zl _ _ _ _ _)⟩
end Go.Proofs.YthkpckgcgkijbaaGreatDoor
