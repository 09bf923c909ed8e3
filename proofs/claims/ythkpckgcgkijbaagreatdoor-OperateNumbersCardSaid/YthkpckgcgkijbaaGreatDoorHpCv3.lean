import Derived.Test.YthkpckgcgkijbaaGreatDoorNumS2
import Derived.Test.YthkpckgcgkijbaaGreatDoorHpCv2
import Derived.Test.YthkpckgcgkijbaaGreatDoorOpF0
import Derived.Test.YthkpckgcgkijbaaGreatDoorOpV
set_option linter.unusedVariables false
set_option linter.unusedSimpArgs false
set_option maxRecDepth 100000
set_option maxHeartbeats 2000000
namespace Go.Proofs.YthkpckgcgkijbaaGreatDoor
open Go.RowKit Go.Proofs.Lexi
theorem pfind_nil (w:World) (k1 p1 q1:Int) (s1:ByteArray) (r1:Int):Calls Tryz.prog 87 #[.pointer none,.agg #[k1,p1,q1,s1,r1]] w (PtrPost w (.pointer none)):=by
 go_enter Tryz.func87,Tryz.ntmps87
 go_wp2
 go_ret
 exact⟨rfl,zAm _ _⟩
theorem pHandNone_c (w:World) (k1 p1 q1:Int) (s1:ByteArray) (r1:Int) (s:ByteArray):Calls Tryz.prog 127 #[.pointer none,.agg #[k1,p1,q1,s1,r1],s] w (ValPost w V.nil):=
 pHand_nil w _ k1 p1 q1 s1 r1 s 0 0 0 ⟨#[]⟩ 0 rfl (fun W _=>pMeta_none W _ k1 p1 q1 s1 r1 (fun W' _=>pfind_nil W' k1 p1 q1 s1 r1))
theorem hand_none (w:World):HandAt 127 (.pointer none) (fun _ _=>V.nil) w:=fun W _ k p q s r ev _ _=>pHandNone_c W k p q s r ev
theorem pEqualX_c (w:World) (hg:Glob w) (ho:Option Addr) (hand:V→ByteArray→V) (o:Int) (ho2:o=14∨o=15) (k1 p1 q1:Int) (s1:ByteArray) (r1:Int) (k2 p2 q2:Int) (s2:ByteArray) (r2:Int) (hv1:zAi ⟨k1,p1,q1,s1,r1⟩=true) (hv2:zAi ⟨k2,p2,q2,s2,r2⟩=true) (h4:k1≠4) (h8:k1≠8):
  Calls Tryz.prog 73 #[.pointer ho,o,.agg #[k1,p1,q1,s1,r1],.agg #[k2,p2,q2,s2,r2]] w (NdPost w (equalM hand o ⟨k1,p1,q1,s1,r1⟩ ⟨k2,p2,q2,s2,r2⟩)):=by
 have PL:=fun W (hb:Below w.heap.size w W)=>pplain_c W (hg.stays hb) o k1 p1 q1 s1 r1 k2 p2 q2 s2 r2
 rw[plain_eq ho2 hv1 hv2] at PL
 have SM:∀W,Calls Tryz.prog 42 #[.agg #[k1,p1,q1,s1,r1],.agg #[k2,p2,q2,s2,r2]] W (BoolPost W (eqV ⟨k1,p1,q1,s1,r1⟩ ⟨k2,p2,q2,s2,r2⟩)):=fun W=>pSame_c W ⟨k1,p1,q1,s1,r1⟩ ⟨k2,p2,q2,s2,r2⟩
 unfold equalM
 rw[if_pos (.inr (.inr (show k1≠4∧k1≠8 from⟨h4,h8⟩)))]
 obtain⟨⟨vk,vp,vq,vs,vr⟩,hB⟩:∃X,boolV (eqV ⟨k1,p1,q1,s1,r1⟩ ⟨k2,p2,q2,s2,r2⟩==decide (o=14))=X:=⟨_,rfl⟩
 rw[hB] at PL ⊢
 cases he:eqV ⟨k1,p1,q1,s1,r1⟩ ⟨k2,p2,q2,s2,r2⟩ with
 |true=>
  rw[he] at SM
  exact pEqual_same w ho o k1 p1 q1 s1 r1 k2 p2 q2 s2 r2 vk vp vq vs vr PL _ SM rfl
 |false=>
  rw[he] at SM
  by_cases hk:k1=k2
  ·exact pEqual_plain w ho o k1 p1 q1 s1 r1 k2 p2 q2 s2 r2 vk vp vq vs vr PL _ SM rfl (by rw[bne_eq_false_iff_eq];exact hk) (by rw[bne_iff_ne];exact h4) (by rw[bne_iff_ne];exact h8)
  ·exact pEqual_kinds w ho o k1 p1 q1 s1 r1 k2 p2 q2 s2 r2 vk vp vq vs vr PL _ SM rfl (by rw[bne_iff_ne];exact hk)
end Go.Proofs.YthkpckgcgkijbaaGreatDoor
