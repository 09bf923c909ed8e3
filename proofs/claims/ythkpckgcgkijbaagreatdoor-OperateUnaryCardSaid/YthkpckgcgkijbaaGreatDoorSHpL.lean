import Derived.Test.YthkpckgcgkijbaaGreatDoorSHpB
import Derived.Test.YthkpckgcgkijbaaGreatDoorOpL
set_option linter.unusedVariables false
set_option linter.unusedSimpArgs false
set_option maxRecDepth 100000
set_option maxHeartbeats 2000000
namespace Go.Proofs.YthkpckgcgkijbaaGreatDoor
open Go.RowKit Go.Proofs.Lexi Go.Proofs.Tryz
variable (w:World) (h:Nat) (k1 p1 q1:Int) (s1:ByteArray) (r1:Int) (av uv:Value)
theorem Ua (T:∀W,Below w w W->Calls prog 117 #[h,.agg #[k1,p1,q1,s1,r1]] W (IntPost W 8)):Calls prog 134 #[h,.agg #[k1,p1,q1,s1,r1]] w (PtrPost w (.tuple #[.int .i64 0,.int .i64 8])):=by
 have HT:=zh T;clear T;go_enter func134,ntmps134;go_wp2_with fail
 refine(HT.out _ (Qf _ _)).mono ?_;rintro e w1 ⟨rfl,hb⟩;have Ha1:=hkh hb (Qy _ _);have HW1:=hbn ((Qf _ _)) hb;have hz1:=hb.size;try simp at hz1
 clear hb;go_wp2;refine zr (by simp[results,results134,go_sem]<;>rfl) ?_;exact⟨rfl,HW1.out⟩
theorem NY (i:Nat) (uv:Value) (rb cap:Nat) (H:List RO) (hh:w.heap[h]? =some (.cells #[.slice (some rb) H.length cap,.int .i64 (H.length:Nat),uv] 93)) (hrow:w.ownsRow 0 97 11 (.slice (some rb) H.length cap) H.length (Zv H)) (hl:H.length<=1000) (x:RO) (hx:H[i]? =some x) (t0:Nat) (htv:x.tv= .pointer (some t0)) (T:∀W,Below w w W->Calls prog 117 #[h,.agg #[k1,p1,q1,s1,.int .i64 (((i:Nat):Int)+1)]] W (IntPost W 0))
  (G:∀W,Below w w W->Calls prog 191 #[t0] W (fun e w'=>e= .returned (.int .i64 0)/\w'=W)):Calls prog 134 #[h,.agg #[k1,p1,q1,s1,.int .i64 (((i:Nat):Int)+1)]] w (PtrPost w (.tuple #[.int .i64 0,.int .i64 0])):=by
 have hil:i<H.length:=(List.getElem?_eq_some_iff.1 hx).1;have HT:=zh T;have HG:=zh G;have HM:=zh hh;have HROW:=zh hrow;have HXI:=zh hx;have HTV:=zh htv;clear T G hh hrow hx htv;go_enter func134,ntmps134;go_wp2_with fail
 refine(HT.out _ (Qf _ _)).mono ?_;rintro e w1 ⟨rfl,hb⟩;have Ha1:=hkh hb (Qy _ _);have Hh1:=hkh hb (QL (Qf _ _) HM.out);have HW1:=hbn ((Qf _ _)) hb;have hz1:=hb.size;try simp at hz1
 clear hb;have hya:=hsz Ha1;obtain⟨a0,a1,a2,a3,a4⟩:=zc5 Ha1;have hyh:=hsz Hh1;obtain⟨h0,h1,h2⟩:=zc3 Hh1;have hrw:=QR (QV HW1.out zl) HROW.out;have rc3:w1.cell? ⟨rb,i*11+3,none⟩=some (x.tv):=(hrw.cellAt (i*11+3) (by omega)).trans (Q8 H i 3 x HXI.out (by decide));clear hrw;rw[HTV.out] at rc3;go_wp2;refine QK mixed (by kernel_rfl) ?_;go_wp2_with fail
 refine(HG.out _ HW1.out.drew).mono ?_;rintro e w2 ⟨rfl,rfl⟩;go_wp2;refine⟨by kernel_rfl,?_⟩;go_wp2;refine zr (by simp[results,results134,go_sem]<;>rfl) ?_;exact⟨rfl,HW1.out.drew⟩
theorem Bw (H:List RO) (hH:RHpAt w h av uv H) (hl:H.length<=1000) (k1 p1 q1:Int) (s1:ByteArray) (r1:Int):∃c:Nat,∀W,Below w w W->Calls prog 134 #[.pointer (some ⟨h,0,none⟩),.agg #[k1,p1,q1,s1,r1]] W (PtrPost W (.tuple #[.int .i64 0,.int .i64 (c:Nat)])):=by
 cases hf:Zp H ⟨k1,p1,q1,s1,r1⟩ with
 |none=>
  refine⟨8,fun W hW=> ?_⟩;have T:=fun W' (hb:Below W W W')=>Gj W' h av uv H ((hH.below hW).below hb) hl k1 p1 q1 s1 r1;rw[show Uq H ⟨k1,p1,q1,s1,r1⟩=8 from by unfold Uq;rw[hf];rfl] at T;exact Ua W h k1 p1 q1 s1 r1 T
 |some x=>
  obtain⟨i,hi,hk,hri,hxm⟩:=Jg hf;have hri:r1=((i:Nat):Int)+1:=hri;have hkk:x.kind=k1:=hk;have hil:i<H.length:=(List.getElem?_eq_some_iff.1 hi).1;by_cases h4:x.kind=4
  ·obtain⟨rb,cap,rfl⟩:=Qh hH.row (by omega);refine⟨0,fun W hW=> ?_⟩;have hHW:=hH.below hW;have T:=fun W' (hb:Below W W W')=>Gj W' h _ uv H (hHW.below hb) hl k1 p1 q1 s1 r1;rw[show Uq H ⟨k1,p1,q1,s1,r1⟩=0 from by unfold Uq;rw[hf];show(if ((some x).isSome&&k1==4)=true then(0:Int) else 8)=0;rw[<-hkk,h4];rfl] at T;subst hri;exact NY W h k1 p1 q1 s1 i uv rb cap H hHW.hh hHW.row hl x hi x.t (by unfold RO.tv;exact if_pos h4) T (fun W' hb=>OU W' x.t x.m (((hHW.one x hxm).tb h4).below hb).ht)
  ·refine⟨8,fun W hW=> ?_⟩;have T:=fun W' (hb:Below W W W')=>Gj W' h av uv H ((hH.below hW).below hb) hl k1 p1 q1 s1 r1;rw[show Uq H ⟨k1,p1,q1,s1,r1⟩=8 from by unfold Uq;rw[hf];show(if ((some x).isSome&&k1==4)=true then(0:Int) else 8)=8;rw[show(k1==4)=false from by rw[<-hkk];exact beq_eq_false_iff_ne.2 h4];rfl] at T;exact Ua W h k1 p1 q1 s1 r1 T
end Go.Proofs.YthkpckgcgkijbaaGreatDoor
