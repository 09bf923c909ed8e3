import Derived.Test.YthkpckgcgkijbaaGreatDoorLwAv2
import Derived.Test.YthkpckgcgkijbaaGreatDoorOpF0
import Derived.Test.YthkpckgcgkijbaaGreatDoorOpF1
import Derived.Test.YthkpckgcgkijbaaGreatDoorOpF3
set_option linter.unusedVariables false
set_option linter.unusedSimpArgs false
namespace Go.Proofs.YthkpckgcgkijbaaGreatDoor
open Go.RowKit Go.Proofs.Lexi Go.Proofs.Tryz
variable (w:World)
theorem Cb (hg:Glob w) (ho:Option Addr) (hand:V->ByteArray->V) (HH:HandAt 127 (.pointer ho) hand w) (o:Int) (ho2:o=14\/o=15) (k1 p1 q1:Int) (s1:ByteArray) (r1:Int) (k2 p2 q2:Int) (s2:ByteArray) (r2:Int) (hv1:Qt ⟨k1,p1,q1,s1,r1⟩=true) (hv2:Qt ⟨k2,p2,q2,s2,r2⟩=true) (hr1:i64 r1) (hr2:i64 r2):
  Calls prog 73 #[.pointer ho,o,.agg #[k1,p1,q1,s1,r1],.agg #[k2,p2,q2,s2,r2]] w (NdPost w (Xp hand o ⟨k1,p1,q1,s1,r1⟩ ⟨k2,p2,q2,s2,r2⟩)):=by
 have hP:Ze o ⟨k1,p1,q1,s1,r1⟩ ⟨k2,p2,q2,s2,r2⟩= .ok (JK (eqV ⟨k1,p1,q1,s1,r1⟩ ⟨k2,p2,q2,s2,r2⟩==decide (o=14))):=by
  unfold Ze;rw[if_neg (by
   rintro(h|h|⟨_,h⟩)
   ·omega
   ·rw[hv1] at h;cases h
   ·rw[hv2] at h;cases h),if_neg (by omega)]
  rcases ho2 with rfl|rfl
  ·rw[if_pos rfl];rfl
  ·rw[if_neg (by omega),if_pos rfl];rfl
 have PL:=fun W (hb:Below w w W)=>GB W (hg.stays hb) o k1 p1 q1 s1 r1 k2 p2 q2 s2 r2;rw[hP] at PL;have SM:∀W,Calls prog 42 #[.agg #[k1,p1,q1,s1,r1],.agg #[k2,p2,q2,s2,r2]] W (BoolPost W (eqV ⟨k1,p1,q1,s1,r1⟩ ⟨k2,p2,q2,s2,r2⟩)):=fun W=>TY W ⟨k1,p1,q1,s1,r1⟩ ⟨k2,p2,q2,s2,r2⟩;unfold Xp;obtain⟨⟨vk,vp,vq,vs,vr⟩,hB⟩:∃X,JK (eqV ⟨k1,p1,q1,s1,r1⟩ ⟨k2,p2,q2,s2,r2⟩==decide (o=14))=X:=⟨_,rfl⟩
 rw[hB] at PL ⊢;cases he:eqV ⟨k1,p1,q1,s1,r1⟩ ⟨k2,p2,q2,s2,r2⟩ with
 |true=>
  rw[he] at SM;rw[if_pos (.inl rfl)];exact Th w ho o k1 p1 q1 s1 r1 k2 p2 q2 s2 r2 vk vp vq vs vr PL _ SM rfl
 |false=>
  rw[he] at SM;by_cases hk:k1=k2
  ·have hk':(k1 !=k2)=false:=by rw[bne_eq_false_iff_eq];exact hk
   by_cases h48:k1=4\/k1=8
   ·rw[if_neg (by
     rintro(h|h|h)
     ·cases h
     ·exact h hk
     ·have h:k1≠4/\k1≠8:=h;omega)]
    have FI:=Pn HH (Q6 o) (JD o) k1 p1 q1 s1 r1 k2 p2 q2 s2 r2 hr1 hr2;have EV:=fun W=>Gy W o;obtain⟨⟨xk,xp,xq,xs,xr⟩,hX⟩:∃X,Zs hand (Q6 o) ⟨k1,p1,q1,s1,r1⟩ ⟨k2,p2,q2,s2,r2⟩=X:=⟨_,rfl⟩
    rw[hX] at FI ⊢;have hAF:((o==15)=true/\(if o=15 then(3:Int) else 2)=3)\/((o==15)=false/\(if o=15 then(3:Int) else 2)=2):=by
     by_cases h15:o=15
     ·exact .inl ⟨beq_iff_eq.2 h15,if_pos h15⟩
     ·exact .inr ⟨beq_eq_false_iff_ne.2 h15,if_neg h15⟩
    by_cases hx:xk=0
    ·rw[if_pos hx];rcases h48 with h4|h8
     ·exact FC w ho o k1 p1 q1 s1 r1 k2 p2 q2 s2 r2 vk vp vq vs vr PL _ SM xk xp xq xs xr rfl hk' (by rw[bne_eq_false_iff_eq];exact h4) _ EV FI (beq_iff_eq.2 hx)
     ·exact FB w ho o k1 p1 q1 s1 r1 k2 p2 q2 s2 r2 vk vp vq vs vr PL _ SM xk xp xq xs xr rfl hk' (by rw[bne_iff_ne];omega) (by rw[bne_eq_false_iff_eq];exact h8) _ EV FI (beq_iff_eq.2 hx)
    ·rw[if_neg hx];rcases h48 with h4|h8
     ·exact Tj w ho o k1 p1 q1 s1 r1 k2 p2 q2 s2 r2 vk vp vq vs vr PL _ SM xk xp xq xs xr rfl hk' (by rw[bne_eq_false_iff_eq];exact h4) _ EV FI (beq_eq_false_iff_ne.2 hx) _ hAF
     ·exact Ti w ho o k1 p1 q1 s1 r1 k2 p2 q2 s2 r2 vk vp vq vs vr PL _ SM xk xp xq xs xr rfl hk' (by rw[bne_iff_ne];omega) (by rw[bne_eq_false_iff_eq];exact h8) _ EV FI (beq_eq_false_iff_ne.2 hx) _ hAF
   ·rw[if_pos (.inr (.inr (show k1≠4/\k1≠8 by omega)))];exact FA w ho o k1 p1 q1 s1 r1 k2 p2 q2 s2 r2 vk vp vq vs vr PL _ SM rfl hk' (by rw[bne_iff_ne];omega) (by rw[bne_iff_ne];omega)
  ·rw[if_pos (.inr (.inl hk))];exact FD w ho o k1 p1 q1 s1 r1 k2 p2 q2 s2 r2 vk vp vq vs vr PL _ SM rfl (by rw[bne_iff_ne];exact hk)
theorem FF (hg:Glob w) (ho:Option Addr) (hand:V->ByteArray->V) (HH:HandAt 127 (.pointer ho) hand w) (o:Int) (k1 p1 q1:Int) (s1:ByteArray) (r1:Int) (k2 p2 q2:Int) (s2:ByteArray) (r2:Int) (hk1:i64 k1) (hr1:i64 r1) (hk2:i64 k2) (hr2:i64 r2):
  Calls prog 20 #[.pointer ho,o,.agg #[k1,p1,q1,s1,r1],.agg #[k2,p2,q2,s2,r2]] w (NdPost w (ZY hand o ⟨k1,p1,q1,s1,r1⟩ ⟨k2,p2,q2,s2,r2⟩)):=
 YW w hg ho hand HH o k1 p1 q1 s1 r1 k2 p2 q2 s2 r2 hk1 hr1 hk2 hr2 (fun heq hv1 hv2 W hb=>Cb W (hg.stays hb) ho hand (HH.stays hb) o heq k1 p1 q1 s1 r1 k2 p2 q2 s2 r2 hv1 hv2 hr1 hr2)
end Go.Proofs.YthkpckgcgkijbaaGreatDoor
