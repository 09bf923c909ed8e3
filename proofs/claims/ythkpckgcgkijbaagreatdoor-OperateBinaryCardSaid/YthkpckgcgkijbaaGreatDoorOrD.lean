import Derived.Test.YthkpckgcgkijbaaGreatDoorLwAv2
import Derived.Test.YthkpckgcgkijbaaGreatDoorValE
import Derived.Test.YthkpckgcgkijbaaGreatDoorOpA
import Derived.Test.YthkpckgcgkijbaaGreatDoorSHanA
import Derived.Test.YthkpckgcgkijbaaGreatDoorOrA
import Derived.Test.YthkpckgcgkijbaaGreatDoorOrB1
set_option linter.unusedVariables false
set_option linter.unusedSimpArgs false
set_option maxRecDepth 100000
set_option maxHeartbeats 2000000
namespace Go.Proofs.YthkpckgcgkijbaaGreatDoor
open Go.RowKit Go.Proofs.Lexi Go.Proofs.Tryz
theorem NN (w:World) (o:Int):Calls prog 186 #[o] w fun e w'=>e= .returned (.bool (decide ((9<=o/\o<=13)\/o=23)))/\w=w':=by
 have hw:(¬9<=o/\(o==23)=false)\/(9<=o/\¬o<=13/\(o==23)=false)\/(9<=o/\¬o<=13/\(o==23)=true)\/(9<=o/\o<=13):=by
  by_cases h:o=23
  ·subst h;exact .inr (.inr (.inl ⟨by decide,by decide,rfl⟩))
  ·have h23:(o==23)=false:=by rw[beq_eq_false_iff_ne];exact h
   by_cases h9:9<=o
   ·by_cases h13:o<=13
    ·exact .inr (.inr (.inr ⟨h9,h13⟩))
    ·exact .inr (.inl ⟨h9,h13,h23⟩)
   ·exact .inl ⟨h9,h23⟩
 rcases hw with⟨h,h2⟩|⟨h,h2,h3⟩|⟨h,h2,h3⟩|⟨h,h2⟩;all_goals
  go_enter func186,ntmps186;go_wp2
  go_ret
  exact⟨Zw (by first|rfl|(simp_all;done)|(simp_all;omega)),rfl⟩
theorem L1 (w:World) (o:Int) (k1 p1 q1:Int) (s1:ByteArray) (r1:Int) (k2 p2 q2:Int) (s2:ByteArray) (r2:Int) (hs1:s1.size<=2000000000) (hs2:s2.size<=2000000000) (ho:(o=16\/o=17)\/o=8\/(1<=o/\o<=7)\/o=20\/(9<=o/\o<=13)\/o=23):
  Calls prog 124 #[o,.agg #[k1,p1,q1,s1,r1],.agg #[k2,p2,q2,s2,r2]] w (StrPost w (XH o ⟨k1,p1,q1,s1,r1⟩ ⟨k2,p2,q2,s2,r2⟩)):=by
 have TA:∀W,Calls prog 136 #[.agg #[k1,p1,q1,s1,r1]] W (StrPost W (Zg k1)):=fun W=>Fu W k1 p1 q1 s1 r1;have TB:∀W,Calls prog 136 #[.agg #[k2,p2,q2,s2,r2]] W (StrPost W (Zg k2)):=fun W=>Fu W k2 p2 q2 s2 r2;have NA:=fun W=>UZ W k1 p1 q1 s1 r1 hs1;have NB:=fun W=>UZ W k2 p2 q2 s2 r2 hs2;have XA:=fun W=>L3 W k1 p1 q1 s1 r1;have BW:=fun W=>NN W o;unfold XH;by_cases hc:o=16\/o=17
 ·rw[if_neg (by omega),if_neg (by omega),if_neg (by omega)];show Calls _ _ _ _ (StrPost w (if QF (Zg k1)=QF (Zg k2) then sTwo++Zg k1++sValues else sComp++Zg k1++sWith++Zg k2));by_cases he:QF (Zg k1)=QF (Zg k2)
  ·rw[if_pos he];rcases hc with h|h
   ·exact X5 w o k1 p1 q1 s1 r1 k2 p2 q2 s2 r2 _ _ (Qw _) (Qw _) TA TB (beq_iff_eq.2 h) (LN he)
   ·exact X3 w o k1 p1 q1 s1 r1 k2 p2 q2 s2 r2 _ _ (Qw _) (Qw _) TA TB (beq_eq_false_iff_ne.2 (by omega)) (beq_iff_eq.2 h) (LN he)
  ·rw[if_neg he];rcases hc with h|h
   ·exact X6 w o k1 p1 q1 s1 r1 k2 p2 q2 s2 r2 _ _ (Qw _) (Qw _) TA TB (beq_iff_eq.2 h) (Ar he)
   ·exact X4 w o k1 p1 q1 s1 r1 k2 p2 q2 s2 r2 _ _ (Qw _) (Qw _) TA TB (beq_eq_false_iff_ne.2 (by omega)) (beq_iff_eq.2 h) (Ar he)
 ·have h16:(o==16)=false:=beq_eq_false_iff_ne.2 (by omega);have h17:(o==17)=false:=beq_eq_false_iff_ne.2 (by omega);by_cases h8:o=8
  ·rw[if_neg (by omega),if_neg (by omega),if_pos h8];cases hx:Eo ⟨k1,p1,q1,s1,r1⟩ with
   |true=>rw[hx] at XA;exact U1 w o k1 p1 q1 s1 r1 k2 p2 q2 s2 r2 _ (Qw _) TB XA h16 h17 (beq_iff_eq.2 h8)
   |false=>rw[hx] at XA;exact U2 w o k1 p1 q1 s1 r1 k2 p2 q2 s2 r2 _ (Qw _) TA XA h16 h17 (beq_iff_eq.2 h8)
  ·have h8':(o==8)=false:=beq_eq_false_iff_ne.2 h8;by_cases hA:(1<=o/\o<=7)\/o=20
   ·rw[if_pos hA];rw[show decide ((9<=o/\o<=13)\/o=23)=false by rw[decide_eq_false_iff_not];omega] at BW;cases hx:Ko ⟨k1,p1,q1,s1,r1⟩ with
    |true=>rw[hx] at NA;exact Fq w o k1 p1 q1 s1 r1 k2 p2 q2 s2 r2 _ (Qw _) TB NA h16 h17 h8' BW
    |false=>rw[hx] at NA;exact Fr w o k1 p1 q1 s1 r1 k2 p2 q2 s2 r2 _ (Qw _) TA NA h16 h17 h8' BW
   ·have hB:(9<=o/\o<=13)\/o=23:=by omega
    rw[if_neg hA,if_pos hB];rw[show decide ((9<=o/\o<=13)\/o=23)=true by rw[decide_eq_true_eq];exact hB] at BW;cases hx:Ko ⟨k1,p1,q1,s1,r1⟩ with
    |true=>
     rw[hx] at NA;cases hy:Ko ⟨k2,p2,q2,s2,r2⟩ with
     |true=>rw[hy] at NB;exact U3 w o k1 p1 q1 s1 r1 k2 p2 q2 s2 r2 NA NB h16 h17 h8' BW
     |false=>rw[hy] at NB;exact U4 w o k1 p1 q1 s1 r1 k2 p2 q2 s2 r2 _ (Qw _) TB NA NB h16 h17 h8' BW
    |false=>rw[hx] at NA;exact DQ w o k1 p1 q1 s1 r1 k2 p2 q2 s2 r2 _ (Qw _) TA NA h16 h17 h8' BW
theorem Fv (w:World) (hp:Value) (hand:V->ByteArray->V) (HH:∀W,Below w w W->∀(k p q:Int) (s:ByteArray) (r:Int) (ev:ByteArray),i64 r->ev.size<=4096->Calls prog 125 #[hp,.agg #[k,p,q,s,r],ev] W (ValPost W (hand ⟨k,p,q,s,r⟩ ev))) (o:Int) (k1 p1 q1:Int) (s1:ByteArray) (r1:Int) (k2 p2 q2:Int) (s2:ByteArray) (r2:Int) (hr1:i64 r1) (hr2:i64 r2) (hs1:s1.size<=2000000000) (hs2:s2.size<=2000000000)
  (R:VR) (hR:Ze o ⟨k1,p1,q1,s1,r1⟩ ⟨k2,p2,q2,s2,r2⟩=R) (hcode:∀c,R= .error c->c=6\/c=7\/c=8\/c=14) (ho:R= .error 8->(o=16\/o=17)\/o=8\/(1<=o/\o<=7)\/o=20\/(9<=o/\o<=13)\/o=23) (af:Int) (haf:af=if o=16\/o=17 then 2 else 1):
  Calls prog 76 #[hp,o,.agg #[k1,p1,q1,s1,r1],.agg #[k2,p2,q2,s2,r2],af] w (NdPost w (ZL hand o R ⟨k1,p1,q1,s1,r1⟩ ⟨k2,p2,q2,s2,r2⟩)):=by
 have PL:=fun W=>Lm W o k1 p1 q1 s1 r1 k2 p2 q2 s2 r2;rw[hR] at PL;cases R with
 |ok v=>exact L5 w hp o k1 p1 q1 s1 r1 k2 p2 q2 s2 r2 af _ PL rfl
 |error c=>
  have hc:=hcode c rfl;have h0:(((vE (.error c):Nat):Int)==0)=false:=by
   show(((c:Nat):Int)==0)=false;rw[beq_eq_false_iff_ne];omega
  by_cases h8:c=8
  ·subst h8;have ho:=ho rfl;show Calls _ _ _ _ (NdPost w (if (Zs hand (Q6 o) ⟨k1,p1,q1,s1,r1⟩ ⟨k2,p2,q2,s2,r2⟩).k=0 then ZZ (XH o ⟨k1,p1,q1,s1,r1⟩ ⟨k2,p2,q2,s2,r2⟩) else Zr (Zs hand (Q6 o) ⟨k1,p1,q1,s1,r1⟩ ⟨k2,p2,q2,s2,r2⟩) [⟨k1,p1,q1,s1,r1⟩,⟨k2,p2,q2,s2,r2⟩] (if o=16\/o=17 then 2 else 1)));rw[<-haf];have HN:=fun W (hb:Below w w W)=>Ub W hp hand (fun W' hb'=>HH W' (QC hb hb')) (Q6 o) (JD o) k1 p1 q1 s1 r1 k2 p2 q2 s2 r2 hr1 hr2;have EV:=fun W=>L6 W o;obtain⟨⟨xk,xp,xq,xs,xr⟩,hX⟩:∃X,Zs hand (Q6 o) ⟨k1,p1,q1,s1,r1⟩ ⟨k2,p2,q2,s2,r2⟩=X:=⟨_,rfl⟩
   rw[hX] at HN ⊢;by_cases hx:xk=0
   ·rw[if_pos hx];exact NT w hp o k1 p1 q1 s1 r1 k2 p2 q2 s2 r2 af _ PL xk xp xq xs xr h0 rfl _ EV HN (beq_iff_eq.2 hx) _ (fun W=>L1 W o k1 p1 q1 s1 r1 k2 p2 q2 s2 r2 hs1 hs2 ho)
   ·rw[if_neg hx];exact OZ w hp o k1 p1 q1 s1 r1 k2 p2 q2 s2 r2 af _ PL xk xp xq xs xr h0 rfl _ EV HN (beq_eq_false_iff_ne.2 hx)
  ·have hm:ZL hand o (.error c) ⟨k1,p1,q1,s1,r1⟩ ⟨k2,p2,q2,s2,r2⟩=ZZ (if (c:Int)=7 then sZero else if (c:Int)=14 then sLong else sRange):=by
    unfold ZL;rcases hc with rfl|rfl|rfl|rfl
    ·rfl
    ·rfl
    ·exact absurd rfl h8
    ·rfl
   rw[hm];exact Oa w hp o k1 p1 q1 s1 r1 k2 p2 q2 s2 r2 af _ PL h0 (by show(((c:Nat):Int) !=8)=true;rw[bne_iff_ne];omega) _ (fun W=>NX W (c:Int))
theorem PW {base n:Nat} {w:World} {h:Nat} {M:LH} (hP:RHp base n w h M) (hn:n<=1000) (hl:M.length<=1000):HandAt 125 (.pointer (some h)) (ZN M) w:=fun W hW k p q s r ev hr hev=>by
 obtain⟨av,uv,H,h1,h2,h3,h4⟩:=(hP.below hW).ex;have e:M.length=H.length:=by rw[<-h2];exact List.length_map ..
 rw[<-h2];exact By W h av uv H h1 (by omega) (fun x hx=>Nat.le_trans (h3 x hx) hn) k p q s r ev
abbrev CallAt (w:World) (f:FuncId) (args:Array Value) (N:Nd):Prop:=∀W,Below w w W->Calls prog f args W (NdPost W N)
end Go.Proofs.YthkpckgcgkijbaaGreatDoor
