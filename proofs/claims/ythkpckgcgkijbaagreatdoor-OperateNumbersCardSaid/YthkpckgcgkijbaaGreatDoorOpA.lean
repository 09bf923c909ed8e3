import Derived.Test.YthkpckgcgkijbaaGreatDoorTabA
import Derived.Test.YthkpckgcgkijbaaGreatDoorOpV
set_option linter.unusedVariables false
set_option linter.unusedSimpArgs false
namespace Go.Proofs.YthkpckgcgkijbaaGreatDoor
open Go.RowKit Go.Proofs.Lexi
theorem zCP {B:Nat} {a w:World} (h:Below B a w) {b:Nat} (hb:B≤b) (x0 x1 x2 x3 x4 x5 x6 x7 x8 x9 x10 x11 x12 x13:Value):
  Below B a ((((((((((((((w.setCell ⟨b,0,none⟩ x0).setCell ⟨b,1,none⟩ x1).setCell ⟨b,2,none⟩ x2).setCell ⟨b,3,none⟩ x3).setCell ⟨b,4,none⟩ x4).setCell ⟨b,5,none⟩ x5).setCell ⟨b,6,none⟩ x6).setCell ⟨b,7,none⟩ x7).setCell ⟨b,8,none⟩ x8).setCell ⟨b,9,none⟩ x9).setCell ⟨b,10,none⟩ x10).setCell ⟨b,11,none⟩ x11).setCell ⟨b,12,none⟩ x12).setCell ⟨b,13,none⟩ x13):=
 (((((((((((((h.setCell (p:=⟨b,0,none⟩) hb x0).setCell (p:=⟨b,1,none⟩) hb x1).setCell (p:=⟨b,2,none⟩) hb x2).setCell (p:=⟨b,3,none⟩) hb x3).setCell (p:=⟨b,4,none⟩) hb x4).setCell (p:=⟨b,5,none⟩) hb x5).setCell (p:=⟨b,6,none⟩) hb x6).setCell (p:=⟨b,7,none⟩) hb x7).setCell (p:=⟨b,8,none⟩) hb x8).setCell (p:=⟨b,9,none⟩) hb x9).setCell (p:=⟨b,10,none⟩) hb x10).setCell (p:=⟨b,11,none⟩) hb x11).setCell (p:=⟨b,12,none⟩) hb x12).setCell (p:=⟨b,13,none⟩) hb x13
end Go.Proofs.YthkpckgcgkijbaaGreatDoor
namespace Go.Proofs.YthkpckgcgkijbaaGreatDoor
def hand0:V→ByteArray→V:=fun _ _=>V.nil
theorem plain_un {o:Int} (ho:20≤o) (a b c:V):zAy o a b=zAy o a c:=by
 unfold zAy zBt
 have h1:∀x:V,(¬(1≤o∧o≤23)∨zAi a=false∨(o≤19∧zAi x=false))=(¬(1≤o∧o≤23)∨zAi a=false):=fun x=>propext ⟨fun h=>by
  rcases h with h|h|⟨h,_⟩
  ·exact .inl h
  ·exact .inr h
  ·omega,fun h=>by
  rcases h with h|h
  ·exact .inl h
  ·exact .inr (.inl h)⟩
 have e8:¬o=8:=by omega
 have e14:¬o=14:=by omega
 have e15:¬o=15:=by omega
 have e16:¬(16≤o∧o≤19):=by omega
 simp only[h1,if_neg e8,if_neg e14,if_neg e15,if_neg e16,if_pos ho]
theorem zCH (a b:ByteArray):(a++b).size=a.size+b.size:=ByteArray.size_append
theorem wrong_ne (o:Int) (a b:V):(wrongM o a b).size≠0:=by
 have h1:0<sArith.size:=by decide
 have h2:0<sBitw.size:=by decide
 have h3:0<sConc.size:=by decide
 have h4:0<sNoInt.size:=by decide
 have h5:0<sTwo.size:=by decide
 have h6:0<sComp.size:=by decide
 unfold wrongM
 split
 ·rw[zCH,zCH];omega
 ·split
  ·split
   ·omega
   ·rw[zCH,zCH];omega
  ·split
   ·rw[zCH,zCH];omega
   ·split
    ·rw[zCH,zCH];omega
    ·rw[zCH,zCH,zCH];omega
theorem settled0 (o:Int) (R:VR) (a b:V):(∀v,R= .ok v→zBa hand0 o R a b=ndVal v)∧(∀c,R= .error c→∃s,s.size≠0∧zBa hand0 o R a b=ndErr s):=by
 refine⟨fun v h=>by subst h;rfl,fun c h=> ?_⟩
 subst h
 unfold zBa
 show∃s:ByteArray,s.size≠0∧(if c=7 then ndErr sZero else if c=6 then ndErr sRange else if c=14 then ndErr sLong else if (findH hand0 (zBK o) a b).k=0 then ndErr (wrongM o a b) else zBs (findH hand0 (zBK o) a b) [a,b] (if o=16∨o=17 then 2 else 1))=ndErr s
 split
 ·exact⟨_,by decide,rfl⟩
 ·split
  ·exact⟨_,by decide,rfl⟩
  ·split
   ·exact⟨_,by decide,rfl⟩
   ·rw[if_pos (by unfold findH hand0;rfl)]
    exact⟨_,wrong_ne o a b,rfl⟩
def need0 (o:Int) (a b:V):Nd:=if 20≤o then unaryM hand0 o a else zAw hand0 o a b
theorem numbers_law {o:Int} {a b:V} (ho:1≤o∧o≤23) (ha:zAi a=true) (hb:zAi b=true) (ka:a.k=2∨a.k=3) (kb:b.k=2∨b.k=3):
  (o=22→(need0 o a b).k≠2∧((need0 o a b).k=1↔a.k=3))∧
  (o≠22→(∀v,zAy o a b= .ok v→(need0 o a b).k=1∧(need0 o a b).v=v)∧(∀c,zAy o a b= .error c→c≠0∧(need0 o a b).k=3∧(need0 o a b).s.size≠0)):=by
 have hcode:∀c,zAy o a b= .error c→c≠0:=fun c h=>by have:=plain_err ho ha (fun _=>hb) h;omega
 have fin:∀(o':Int) (a' b':V) (R:VR),R=zAy o a b→need0 o a b=zBa hand0 o' R a' b'→(∀v,zAy o a b= .ok v→(need0 o a b).k=1∧(need0 o a b).v=v)∧(∀c,zAy o a b= .error c→c≠0∧(need0 o a b).k=3∧(need0 o a b).s.size≠0):=fun o' a' b' R hR hN=>by
  obtain⟨h1,h2⟩:=settled0 o' R a' b'
  refine⟨fun v hv=> ?_,fun c hc=>⟨hcode c hc,?_⟩⟩
  ·rw[hN,h1 v (hR.trans hv)];exact⟨rfl,rfl⟩
  ·obtain⟨s,h3,h4⟩:=h2 c (hR.trans hc)
   rw[hN,h4];exact⟨rfl,h3⟩
 by_cases hu:20≤o
 ·have hN:need0 o a b=unaryM hand0 o a:=if_pos hu
  have hU:unaryM hand0 o a=if o=22 then lenM hand0 a else zBa hand0 o (zAy o a V.nil) a a:=by
   unfold unaryM
   rw[if_neg (by rintro(h1|h1);exact h1 ⟨hu,ho.2⟩;rw[ha] at h1;cases h1)]
  refine⟨fun h=> ?_,fun h=>fin o a a (zAy o a V.nil) (plain_un hu a V.nil b) (by rw[hN,hU,if_neg h])⟩
  rw[hN,hU,if_pos h]
  unfold lenM
  rcases ka with k2|k3
  ·rw[if_neg (by omega),if_neg (by unfold hand0;exact fun h=>h rfl),if_neg (by omega)]
   exact⟨show(3:Int)≠2 by decide,⟨fun h=>absurd h (show¬(3:Int)=1 by decide),fun h=>by omega⟩⟩
  ·rw[if_pos k3]
   exact⟨show(1:Int)≠2 by decide,⟨fun _=>k3,fun _=>rfl⟩⟩
 ·have hN:need0 o a b=zAw hand0 o a b:=if_neg hu
  have hv:¬(zAi a=false∨zAi b=false):=by rw[ha,hb];simp
  refine⟨fun h=>by omega,fun _=> ?_⟩
  have hB:zAw hand0 o a b=if o=18 then zBa hand0 16 (zAy 16 b a) b a else if o=19 then zBa hand0 17 (zAy 17 b a) b a else if o=14∨o=15 then equalM hand0 o a b else zBa hand0 o (zAy o a b) a b:=by
   unfold zAw
   rw[if_neg (by rintro(h1|h1);exact h1 (by omega);exact hv h1)]
  by_cases h18:o=18
  ·rw[if_pos h18] at hB
   exact fin 16 b a (zAy 16 b a) (by rw[h18];exact(plain_gt 18 (.inl rfl) a b).symm) (hN.trans hB)
  ·rw[if_neg h18] at hB
   by_cases h19:o=19
   ·rw[if_pos h19] at hB
    exact fin 17 b a (zAy 17 b a) (by rw[h19];exact(plain_gt 19 (.inr rfl) a b).symm) (hN.trans hB)
   ·rw[if_neg h19] at hB
    by_cases he:o=14∨o=15
    ·rw[if_pos he] at hB
     have hE:equalM hand0 o a b=ndVal (boolV (eqV a b==decide (o=14))):=by
      unfold equalM
      rw[if_pos (.inr (.inr (by omega)))]
     have hP:zAy o a b= .ok (boolV (eqV a b==decide (o=14))):=by
      unfold zAy
      rw[if_neg (by rintro(h1|h1|⟨_,h1⟩);exact h1 ho;rw[ha] at h1;cases h1;rw[hb] at h1;cases h1),if_neg (by omega)]
      rcases he with rfl|rfl
      ·rw[if_pos rfl];rfl
      ·rw[if_neg (by omega),if_pos rfl];rfl
     refine⟨fun v hv=> ?_,fun c hc=>by rw[hP] at hc;cases hc⟩
     rw[hP] at hv
     injection hv with hv
     rw[hN,hB,hE,hv]
     exact⟨rfl,rfl⟩
    ·rw[if_neg he] at hB
     exact fin o a b (zAy o a b) rfl (hN.trans hB)
end Go.Proofs.YthkpckgcgkijbaaGreatDoor
