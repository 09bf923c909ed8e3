import Derived.Test.YthkpckgcgkijbaaGreatDoorBitP
import Derived.Test.YthkpckgcgkijbaaGreatDoorRows
import Derived.Test.YthkpckgcgkijbaaGreatDoorChecked
import Derived.ChangeSame
import Derived.ProofKit
import Derived.LaidMore
import Derived.OpenShut
import Derived.Stop.Joined
import Derived.Lib.LaidTab
import Derived.Handed
import Derived.Lay
import Derived.Carry
import Derived.SevenTiedAt
import Derived.ChangeMaps5
set_option linter.unusedVariables false
set_option linter.unusedSimpArgs false
set_option maxRecDepth 100000
namespace Go.Proofs.YthkpckgcgkijbaaGreatDoor
open Go.RowKit Go.Proofs.Lexi Go.Proofs.Tryz
theorem GG {x y:Int} (h:x.tmod y=0\/(0<=x/\0<y)\/(x<0/\y<0)):x.fdiv y=x.tdiv y/\x.fmod y=x.tmod y:=by
 have e:x.fdiv y=x.tdiv y:=by
  rw[Int.fdiv_eq_tdiv];by_cases hd:y ∣ x
  ·rw[if_pos hd];omega
  ·have:x.tmod y≠0:=fun e=>hd (Int.dvd_iff_tmod_eq_zero.2 e);rw[if_neg hd];rcases h with h|⟨h1,h2⟩|⟨h1,h2⟩
   ·exact absurd h this
   ·rw[if_pos h1,if_pos (by omega)];omega
   ·rw[if_neg (by omega),if_neg (by omega)];rw[Int.sign_eq_neg_one_of_neg h2];omega
 exact⟨e,by rw[Int.fmod_def,Int.tmod_def,e]⟩
theorem GH {x y:Int} (h0:x.tmod y≠0) (h:(0<=x/\y<0)\/(x<0/\0<y)):x.fdiv y=x.tdiv y-1/\x.fmod y=x.tmod y+y:=by
 have e:x.fdiv y=x.tdiv y-1:=by
  rw[Int.fdiv_eq_tdiv];have hd:¬y ∣ x:=fun e=>h0 (Int.dvd_iff_tmod_eq_zero.1 e);rw[if_neg hd];rcases h with⟨h1,h2⟩|⟨h1,h2⟩
  ·rw[if_pos h1,if_neg (by omega)]
  ·rw[if_neg (by omega),if_pos (by omega)];first|(rw[Int.sign_eq_one_of_pos h2])|omega
 exact⟨e,by rw[Int.fmod_def,Int.tmod_def,e,Int.mul_sub];omega⟩
theorem XL {x y:Int} (h1: -4611686018427387904<=x) (h2:x<=4611686018427387904): -4611686018427387904<=x.tdiv y/\x.tdiv y<=4611686018427387904:=by
 have:=Int.natAbs_tdiv_le_natAbs x y;omega
theorem KV {x y:Int} (h0:y≠0):(x.tmod y).natAbs<y.natAbs:=by
 rw[Int.natAbs_tmod];exact Nat.mod_lt _ (by omega)
theorem Di {w:World} {v u:Value} {n:Nat} (h:u=v):PureP w v (.returned u) (w.drewN n):=by subst h;exact⟨rfl,n,rfl⟩
theorem Qz {w w':World} {R:RR} (hb:Below w w w'):NumPost w R (.returned (.tuple #[.agg #[.int .i64 (nP R),.int .i64 (nQ R)],.int .i64 (nE R:Nat)])) w':=⟨rfl,hb⟩
theorem Tr {x y:Int} (h:y≠0): -(2*(y.natAbs:Int))<=Int.fmod x y/\Int.fmod x y<=2*(y.natAbs:Int):=by
 have hb:=KV (x:=x) h;by_cases h0:x.tmod y=0\/(0<=x/\0<y)\/(x<0/\y<0)
 ·rw[(GG h0).2];omega
 ·rw[(GH (by omega) (by omega)).2];omega
def powP:Option Int->Int
 |some p=>p
 |none=>0
def PowPost (w:World) (R:Option Int) (e:Ending) (w':World):Prop:=e= .returned (.tuple #[.int .i64 (powP R),.bool R.isSome])/\w=w'
def PowRel (w:World) (x:Int) (k:Nat) (R:Option Int) (gg:Nat) (u v:Value) (wr:World):Prop:=∃(j:Nat) (p:Int),w=wr/\gg=k-j/\u= .int .i64 p/\v= .int .i64 (j:Int)/\j<=k/\ -2147483647<=p/\p<=2147483647/\Xw x (k-j) p=R
theorem Pf {w w':World} {R:Option Int} (hR:R=none) (hw:w=w'):PowPost w R (.returned (.tuple #[.int .i64 0,.bool false])) w':=by subst hR;exact⟨rfl,hw⟩
theorem Pe {w w':World} {R:Option Int} {p:Int} (hR:R=some p) (hw:w=w'):PowPost w R (.returned (.tuple #[.int .i64 p,.bool true])) w':=by subst hR;exact⟨rfl,hw⟩
theorem Jq {x:Int}:∀(n:Nat) (p r:Int), -2147483647<=p->p<=2147483647->Xw x n p=some r-> -2147483647<=r/\r<=2147483647
 |0,p,r,h1,h2,h=>by injection h with h;subst h;exact⟨h1,h2⟩
 |n+1,p,r,h1,h2,h=>by
  unfold Xw at h;split at h
  ·rename_i hi
   have:=inTop_iff.1 hi;exact Jq n _ r this.1 this.2 h
  ·cases h
theorem XZ {x:Int} (hx:x≠0):∀(n:Nat) (p r:Int),p≠0->Xw x n p=some r->r≠0
 |0,p,r,hp,h=>by injection h with h;subst h;exact hp
 |n+1,p,r,hp,h=>by
  unfold Xw at h;split at h
  ·exact XZ hx n _ r (Int.mul_ne_zero hp hx) h
  ·cases h
def Kp:Option Nat->Int
 |some n=>n
 |none=>0
def OptPost (w:World) (R:Option Nat) (e:Ending) (w':World):Prop:=e= .returned (.tuple #[.int .i64 (Kp R),.bool R.isSome])/\w=w'
theorem Pu {s:ByteArray} {base i n:Nat} {R:Option Nat} (hb:base=10\/base=16) (h:i<s.size) (hr:Km base ((QF s).drop i) n=R):
  ((4611686018427387904-(KT s[i].toNat:Int))/(base:Int)<n->R=none)/\
  ((n:Int)<=(4611686018427387904-(KT s[i].toNat:Int))/(base:Int)->Km base ((QF s).drop (i+1)) (n*base+KT s[i].toNat)=R):=by
 have hd:=Z3 s[i].toNat;rw[Q3 s i h] at hr;unfold Km at hr;generalize KT s[i].toNat=d at*;have e:((4611686018427387904:Nat)-d)/base<n↔(4611686018427387904-(d:Int))/(base:Int)<n:=by
  rcases hb with rfl|rfl<;>omega
 constructor
 ·intro hc;rw[if_pos (e.2 hc)] at hr;exact hr.symm
 ·intro hc;rw[if_neg (by rw[e];omega)] at hr;exact hr
theorem Pt {s:ByteArray} {base i n:Nat} {R:Option Nat} (h:s.size<=i) (hr:Km base ((QF s).drop i) n=R):R=some n:=by
 rw[Zu s i h] at hr;exact hr.symm
theorem Pp {w w':World} {R:Option Nat} (h:R=none) (hw:w=w'):OptPost w R (.returned (.tuple #[.int .i64 0,.bool false])) w':=by subst h;exact⟨rfl,hw⟩
theorem Po {w w':World} {R:Option Nat} {n:Nat} (h:R=some n) (hw:w=w'):OptPost w R (.returned (.tuple #[.int .i64 n,.bool true])) w':=by subst h;exact⟨rfl,hw⟩
theorem Re {s:ByteArray} (h:2<s.size):QF s=s[0].toNat::s[1].toNat::s[2].toNat::(QF s).drop 3:=by
 have h0:=Q3 s 0 (by omega);have h1:=Q3 s 1 (by omega);have h2:=Q3 s 2 (by omega);rw[List.drop_zero] at h0;exact h0.trans (congrArg _ (h1.trans (congrArg _ h2)))
theorem Xm {s:ByteArray} (h:s.size<=2):Zm (QF s)=false:=by
 have hl:=Qc s
 match hb:QF s with
 |[]=>rfl
 |[_]=>rfl
 |[_,_]=>rfl
 |_::_::_::_=>rw[hb] at hl;simp at hl;omega
theorem XC {s:ByteArray} (h:2<s.size):Zm (QF s)=(s[0].toNat==48&&(s[1].toNat==120||s[1].toNat==88)&&Jd 16 s[2].toNat):=by
 rw[Re h];rfl
theorem Kc {t:List Nat} (h:Zm t=true):Q0 t=(2+ZT 16 (t.drop 2),Be ((t.drop 2).take (ZT 16 (t.drop 2)))):=by unfold Q0;rw[if_pos h]
theorem Jx (a b:ByteArray) (h:a.size+b.size<=9223372036854775807) (w:World):(Op.stringOp .add a b).run prog w= .ok (.string (a++b)) w:=by
 first|exact run_string_add_sum a b h|exact run_string_add_sum w a b h
theorem Zi (b:UInt8) (n:Nat):((b.toNat:Int)==(n:Int))=decide (b.toNat=n):=by
 rw[Bool.eq_iff_iff,beq_iff_eq,decide_eq_true_eq];omega
theorem Ex {s:ByteArray} {r:Nat} (h:r<s.size):(QF s)[r]? =some s[r].toNat:=by
 have h2:((QF s).drop r)[0]? =some s[r].toNat:=by rw[Q3 s r h];rfl
 rw[List.getElem?_drop] at h2;exact h2
theorem PQ {s:ByteArray} {r:Nat} (h:r<s.size):(ZT 10 ((QF s).drop r)=0->¬KT s[r].toNat<10)/\(ZT 10 ((QF s).drop r)≠0->KT s[r].toNat<10):=by
 rw[Q3 s r h];unfold ZT Jd;by_cases hd:KT s[r].toNat<10
 ·rw[if_pos (decide_eq_true hd)];exact⟨fun h=>by omega,fun _=>hd⟩
 ·rw[if_neg (by rw[decide_eq_false hd];decide)];exact⟨fun _=>hd,fun h=>absurd rfl h⟩
theorem B7 {s:ByteArray} {r:Nat} (h:s.size<=r):ZT 10 ((QF s).drop r)=0:=by rw[Zu s r h];rfl
theorem Yb {s:ByteArray} {r:Nat} (h:ZQ (QF s) r≠0):∃h:r+1<s.size,
  ((s[r].toNat:Int)==46)=true/\KT s[r+1].toNat<10/\ZQ (QF s) r=ZT 10 ((QF s).drop (r+1)):=by
 unfold ZQ at h ⊢;by_cases hc:(QF s)[r]? =some 46
 ·rw[if_pos hc] at h ⊢;have hl:r+1<s.size:=by
   apply Classical.byContradiction;intro hn;exact h (B7 (by omega))
  refine⟨hl,?_,(PQ hl).2 h,rfl⟩;rw[Ex (by omega)] at hc;injection hc with hc;exact(Zi s[r] 46).trans (decide_eq_true hc)
 ·rw[if_neg hc] at h;exact absurd rfl h
theorem Kd {t:List Nat} (h:Zm t=false):Q0 t=if ZT 10 t=0 then(0,.error 4)
  else if ZQ t (ZT 10 t)=0 then(ZT 10 t,P3 (t.take (ZT 10 t)) 0)
  else(ZT 10 t+1+ZQ t (ZT 10 t),P3 (t.take (ZT 10 t)++(t.drop (ZT 10 t+1)).take (ZQ t (ZT 10 t))) (ZQ t (ZT 10 t))):=by
 rw[Q0,h];rfl
abbrev FR:=Option (Bool×Int×Nat×Nat)
def UQ (t:List Nat):FR:=
 if Zm t then some (true, -1,2+ZT 16 (t.drop 2),2)
 else if ZT 10 t=0 then none
 else if ZQ t (ZT 10 t)=0 then some (false, -1,ZT 10 t,0)
 else some (false,(ZT 10 t:Nat),ZT 10 t+1+ZQ t (ZT 10 t),0)
def FindPost (w:World) (R:FR) (e:Ending) (w':World):Prop:=match R with
 |some (h,p,n,f)=>e= .returned (.tuple #[.agg #[.bool h,.int .i64 p,.int .i64 (n:Nat),.int .i64 (f:Nat)],.bool true])/\Below w w w'
 |none=>e= .returned (.tuple #[.agg #[.bool false,.int .i64 0,.int .i64 0,.int .i64 0],.bool false])/\Below w w w'
theorem Sk {w w':World} {R:FR} (h:R=none) (hb:Below w w w'):FindPost w R (.returned (.tuple #[.agg #[.bool false,(0:Int),(0:Int),(0:Int)],.bool false])) w':=by subst h;exact⟨rfl,hb⟩
theorem Zo {w w':World} {R:FR} {h:Bool} {p:Int} {n f:Nat} {n' f':Int} (hR:R=some (h,p,n,f)) (hn:n'=n) (hf:f'=f) (hb:Below w w w'):FindPost w R (.returned (.tuple #[.agg #[.bool h,p,n',f'],.bool true])) w':=by subst hR hn hf;exact⟨rfl,hb⟩
theorem ZK {B:Nat} {a w:World} (h:Below B a w) {b:Nat} (hb:B<=b) (x y z u:Value):Below B a ((((w.setCell b x).setCell ⟨b,1,none⟩ y).setCell ⟨b,2,none⟩ z).setCell ⟨b,3,none⟩ u):=
 (((h.setCell (p:=⟨b,0,none⟩) hb x).setCell (p:=⟨b,1,none⟩) hb y).setCell (p:=⟨b,2,none⟩) hb z).setCell (p:=⟨b,3,none⟩) hb u
theorem digV_x:Jd 10 120=false/\Jd 10 88=false/\Jd 10 48=true:=by decide
theorem LF {t:List Nat} (h:Zm t=true):ZT 10 t=1:=by
 match t,h with
 |a::x::d::r,h=>
  simp only[Zm,Bool.and_eq_true,Bool.or_eq_true,beq_iff_eq] at h;obtain⟨⟨rfl,hx⟩,_⟩:=h;unfold ZT;rw[if_pos digV_x.2.2];unfold ZT;rw[if_neg];rcases hx with rfl|rfl
  ·rw[digV_x.1];decide
  ·rw[digV_x.2.1];decide
end Go.Proofs.YthkpckgcgkijbaaGreatDoor
namespace Go.Proofs.YthkpckgcgkijbaaGreatDoor
open Go.Proofs.Tryz
structure V where
 k:Int
 p:Int
 q:Int
 s:ByteArray
 r:Int
def V.nil:V:=⟨0,0,0,⟨#[]⟩,0⟩
def V.num (v:V):N2:=(v.p,v.q)
abbrev V.cells (v:V):Array Value:=#[.int .i64 v.k,.int .i64 v.p,.int .i64 v.q,.string v.s,.int .i64 v.r]
abbrev V.v (v:V):Value:= .agg v.cells
def eqV (a b:V):Bool:=a.k==b.k&&a.p==b.p&&a.q==b.q&&QF a.s==QF b.s&&a.r==b.r
theorem eqV_iff {a b:V}:eqV a b=true↔a=b:=by
 obtain⟨k,p,q,s,r⟩:=a;obtain⟨k',p',q',s',r'⟩:=b;simp only[eqV,Bool.and_eq_true,beq_iff_eq,V.mk.injEq];constructor
 ·rintro⟨⟨⟨⟨h1,h2⟩,h3⟩,h4⟩,h5⟩;exact⟨h1,h2,h3,JB h4,h5⟩
 ·rintro⟨h1,h2,h3,h4,h5⟩;exact⟨⟨⟨⟨h1,h2⟩,h3⟩,by rw[h4]⟩,h5⟩
def Xh (v:V):Bool:=v.p==0&&v.q==0
def UM (v:V):Bool:=v.s.size==0
def A5 (k:Int):Bool:=k==4||k==5||k==7||k==8
def Qt (v:V):Bool:=
 if v.k=0 then Xh v&&UM v&&v.r==0
 else if v.k=1 then Xh v&&UM v&&(v.r==0||v.r==1)
 else if v.k=2 then QT v.num&&UM v&&v.r==0
 else if v.k=3 then Xh v&&decide (v.s.size<=4096)&&v.r==0
 else if A5 v.k then Xh v&&UM v&&decide (1<=v.r)
 else if v.k=6 then Xh v&&decide (1<=v.s.size)&&decide (v.s.size<=4096)&&v.r==0
 else false
def YL (v:V):Bool:= !(v.k==0)&& !(v.k==1&&v.r==0)
def JK (b:Bool):V:=⟨1,0,0,⟨#[]⟩,if b then 1 else 0⟩
def Xl (n:Int):V:=if UO n then⟨2,n,1,⟨#[]⟩,0⟩ else V.nil
def GP (a:N2):V:=if QT a then⟨2,a.1,a.2,⟨#[]⟩,0⟩ else V.nil
def KR (s:ByteArray):V:=⟨3,0,0,s,0⟩
def ZW (v:V):RR:=
 if v.k=2 then(if QT v.num then .ok v.num else .error 8)
 else if v.k=3 then(match Je (QF v.s) with| .ok a=> .ok a| .error _=> .error 8)
 else .error 8
abbrev VR:=Except Nat V
end Go.Proofs.YthkpckgcgkijbaaGreatDoor
namespace Go.Proofs.YthkpckgcgkijbaaGreatDoor
open Go.RowKit Go.Proofs.Tryz
def Good:RR->Prop
 | .ok a=> -2147483647<=a.1/\a.1<=2147483647/\a.2<=2147483647
 | .error c=>c=4\/c=6\/c=7
theorem Mf (p q:Int):Good (KH p q):=by
 unfold KH;split
 ·rename_i h
  rw[Bool.and_eq_true,inTop_iff,decide_eq_true_eq] at h;exact⟨h.1.1,h.1.2,h.2⟩
 ·exact .inr (.inl rfl)
theorem Cv (p q:Int):Good (JS p q):=by
 unfold JS KG;split<;>exact Mf _ _
theorem Xn (p q:Int):Good (Q2 p q):=by
 unfold Q2;split
 ·exact .inr (.inr rfl)
 ·split
  ·exact Cv _ _
  ·exact .inr (.inl rfl)
theorem Dg {p q:Int} {c:Nat} (h:KH p q= .error c):c=6:=by
 unfold KH at h;split at h
 ·cases h
 ·injection h with h;exact h.symm
theorem Cn {p q:Int} {c:Nat} (hq:q≠0) (h:Q2 p q= .error c):c=6:=by
 unfold Q2 at h;rw[if_neg hq] at h;split at h
 ·unfold JS KG at h;split at h<;>exact Dg h
 ·injection h with h;exact h.symm
theorem RK (P:Nat):((10^P:Nat):Int)≠0:=by
 have:0<10^P:=Nat.pow_pos (by decide);omega
theorem Cy (l:List Nat) (P:Nat):Good (P3 l P):=by
 unfold P3;split
 ·exact .inr (.inl rfl)
 ·split
  ·exact .inr (.inl rfl)
  ·exact Xn _ _
theorem Cw (l:List Nat):Good (Be l):=by
 unfold Be;split
 ·exact .inr (.inl rfl)
 ·exact Xn _ _
theorem FM (t:List Nat):Good (Q0 t).2:=by
 unfold Q0;split
 ·exact Cw _
 ·split
  ·exact .inl rfl
  ·split<;>exact Cy _ _
theorem Et (p q:List Nat):Good (Z6 p q):=by
 unfold Z6;split
 ·split
  ·split
   ·exact .inr (.inl rfl)
   ·exact Xn _ _
  ·exact .inr (.inl rfl)
 ·exact .inl rfl
theorem Zh (t:List Nat):Good (Q4 t):=by
 unfold Q4;split
 ·split
  ·exact .inl rfl
  ·exact FM t
 ·exact Et _ _
theorem Jv {R:RR} (h:Good R): -2147483647<=nP R/\nP R<=2147483647/\nE R<=7:=by
 cases R with
 |ok a=>exact⟨h.1,h.2.1,Nat.zero_le _⟩
 |error c=>
  refine⟨show(-2147483647:Int)<=0 from by decide,show(0:Int)<=2147483647 from by decide,?_⟩;have h:c=4\/c=6\/c=7:=h;show c<=7;omega
theorem Cx {c:Nat} (h:Good (.error c)):c≠0:=by
 have h:c=4\/c=6\/c=7:=h;omega
theorem K2 (p:Nat->Bool):∀l:List Nat,(l.dropWhile p).length<=l.length
 |[]=>Nat.le_refl _
 |c::r=>by
  rw[List.dropWhile_cons];split
  ·exact Nat.le_succ_of_le (K2 p r)
  ·exact Nat.le_refl _
theorem T3 (l:List Nat):(Ys l).length<=l.length:=by
 unfold Ys;rw[List.length_reverse];refine Nat.le_trans (K2 _ _) ?_;rw[List.length_reverse];exact K2 _ _
theorem QH {w:World} {o:Obj} {b k:Nat} (h:b<w):(w.alloc o).cell? ⟨b,k,none⟩=w.cell? ⟨b,k,none⟩:=World.cell?_of_block (Below.heap_alloc w o b h)
theorem QJ {w:World} {o:Obj} {b k:Nat} (h:b<w):(w.alloc o).frozen? ⟨b,k,none⟩=w.frozen? ⟨b,k,none⟩:=World.frozen?_of_block (Below.heap_alloc w o b h)
end Go.Proofs.YthkpckgcgkijbaaGreatDoor
namespace Go.Proofs.YthkpckgcgkijbaaGreatDoor
open Go.RowKit Go.Proofs.Lexi Go.Proofs.Tryz
abbrev o4 (h:Bool) (p e f:Int):Obj:= .cells #[.bool h,p,e,f] 165
theorem To {n q:Int} {R:RR} (hq:q≠0) (hR:R=Q2 n q):((((nE (Q2 n q):Nat):Int) !=0)=false/\R=Q2 n q/\nE R=0)\/((((nE (Q2 n q):Nat):Int) !=0)=true/\R= .error 6):=by
 cases hM:Q2 n q with
 |ok a=>exact .inl ⟨rfl,by rw[hR,hM],by rw[hR,hM];rfl⟩
 |error c=>
  have:=Cn hq hM;subst this;exact .inr ⟨rfl,by rw[hR,hM]⟩
theorem Tm {w w':World} {R M:RR} (h:R=M) (h0:nE R=0) (hb:Below w w w'):NumPost w R (.returned (.tuple #[.agg #[.int .i64 (nP M),.int .i64 (nQ M)],.int .i64 0])) w':=by
 subst h;have:=Qz (R:=R) hb;rw[h0] at this;exact this
theorem P5 (s:ByteArray) (k:Nat):QF (s.extract 0 k)=(QF s).take k:=by rw[ZO,List.drop_zero,Nat.sub_zero]
theorem Ux (s:ByteArray) {k:Nat} (h:k<=s.size):(s.extract 0 k).size=k:=by rw[ByteArray.size_extract];omega
def AllDig (base:Nat) (l:List Nat):Prop:=∀c∈l,Jd base c=true
theorem Gr (base:Nat):∀l:List Nat,AllDig base (l.take (ZT base l))
 |[]=>fun c hc=>by simp at hc
 |x::r=>by
  unfold ZT;split
  ·rename_i hx
   intro c hc;rw[List.take_succ_cons,List.mem_cons] at hc;rcases hc with rfl|hc
   ·exact hx
   ·exact Gr base r c hc
  ·intro c hc;simp at hc
theorem LZ {base:Nat} {s:ByteArray} (h:AllDig base (QF s)) (i:Nat) (hi:i<s.size):Jd base s[i].toNat=true:=
 h _ (List.mem_of_getElem? (Ex hi))
theorem Rd (A:Option Nat) {P:Nat} (h9:¬9<P):(match A with|none=>(.error 6:RR)|some n=>if 9<P then .error 6 else Q2 n ((10:Nat)^P:Nat))=mkR A ((10^P:Nat):Int):=by
 cases A with
 |none=>rfl
 |some n=>exact if_neg h9
theorem NG (c:Nat) (r:List Nat):ZI (c::r)=if c=47 then some 0 else(ZI r).map (· +1):=rfl
theorem Gd:∀l:List UInt8,Lib.index l [47]=Gp 0 (ZI (l.map UInt8.toNat))
 |[]=>rfl
 |b::l=>by
  have ih:=Gd l;show(if ([47]:List UInt8).isPrefixOf (b::l) then(0:Int) else if Lib.index l [47]== -1 then-1 else Lib.index l [47]+1)=_;have hp:([47]:List UInt8).isPrefixOf (b::l)=(47==b):=by simp[List.isPrefixOf]
  rw[hp,ih,List.map_cons,NG];by_cases hb:b=47
  ·subst hb;rfl
  ·have h1:((47:UInt8)==b)=false:=by rw[beq_eq_false_iff_ne];exact fun h=>hb h.symm
   have h2:b.toNat≠47:=fun h=>hb (UInt8.toNat_inj.1 h);rw[h1,if_neg (by decide),if_neg h2];cases ZI (l.map UInt8.toNat) with
   |none=>rfl
   |some k=>
    show(if (((0+k:Nat):Int)== -1)=true then(-1:Int) else((0+k:Nat):Int)+1)=((0+(k+1):Nat):Int);rw[if_neg]
    ·omega
    ·rw[beq_iff_eq];omega
theorem BA {s:ByteArray} (h:ZI (QF s)=none):Lib.cut s.data.toList [47]=(s.data.toList,[],false):=by
 unfold Lib.cut;rw[Gd,show s.data.toList.map UInt8.toNat=QF s from rfl,h];rfl
theorem C9 {s:ByteArray} {k:Nat} (h:ZI (QF s)=some k):Lib.cut s.data.toList [47]=(s.data.toList.take k,s.data.toList.drop (k+1),true):=by
 unfold Lib.cut;rw[Gd,show s.data.toList.map UInt8.toNat=QF s from rfl,h];show(if (0:Int)<=((0+k:Nat):Int) then _ else _)=_;rw[if_pos (by omega)];show(s.data.toList.take (((0+k:Nat):Int)).toNat,s.data.toList.drop ((((0+k:Nat):Int)).toNat+1),true)=_;rw[show(((0+k:Nat):Int)).toNat=k by omega]
theorem KQ (l:List UInt8):QF ⟨l.toArray⟩=l.map UInt8.toNat:=by unfold QF;simp
def LM (t:List Nat):RR:=match ZI t with
 |none=> .error 4
 |some k=>Z6 (t.take k) (t.drop (k+1))
theorem C6 {p:ByteArray} (h:p.size=0):p.toList.isEmpty=true:=by rw[K5 h];rfl
theorem FW {p:ByteArray} (h:0<p.size):p.toList.isEmpty=false:=by
 cases he:p.toList.isEmpty with
 |false=>rfl
 |true=>exact absurd (List.isEmpty_iff.1 he) (Gf h)
theorem XD {M:RR} (hg:Good M):((((nE M:Nat):Int) !=0)=true/\∃c,M= .error c)\/((((nE M:Nat):Int) !=0)=false/\nE M=0/\∃a,M= .ok a):=by
 cases M with
 |ok a=>exact .inr ⟨rfl,rfl,a,rfl⟩
 |error c=>
  refine .inl ⟨?_,c,rfl⟩;have:=Cx hg;rw[bne_iff_ne];show(c:Int)≠0;omega
theorem Ke {w w':World} {R M:RR} {c:Nat} (h:R= .error c) (hM:M= .error c) (hb:Below w w w'):NumPost w R (.returned (.tuple #[.agg #[(0:Int),(0:Int)],.int .i64 (nE M:Nat)])) w':=by subst hM;exact QZ h hb
theorem KW (c:Nat) (r:List Nat):Uy (c::r)=if c=45 then G5 (Q4 r) else Q4 (c::r):=rfl
theorem MV (t:List Nat):(Q0 t).1<=t.length:=by
 cases hx:Zm t with
 |true=>
  rw[Kc hx];have h1:=JH 16 (t.drop 2);rw[List.length_drop] at h1;have h2:2<=t.length:=by
   match t,hx with
   |_::_::_::_,_=>simp
  show 2+ZT 16 (t.drop 2)<=_;omega
 |false=>
  rw[Kd hx];have h1:=JH 10 t;split
  ·exact Nat.zero_le _
  ·split
   ·exact h1
   ·rename_i hp
    show ZT 10 t+1+ZQ t (ZT 10 t)<=_;unfold ZQ at hp ⊢;by_cases hc:t[ZT 10 t]? =some 46
    ·rw[if_pos hc];have h2:=JH 10 (t.drop (ZT 10 t+1));have h3:=(List.getElem?_eq_some_iff.1 hc).1;rw[List.length_drop] at h2;omega
    ·rw[if_neg hc] at hp;exact absurd rfl hp
theorem Bh {t:List Nat} (h0:(Q0 t).1≠0) (h1:(Q0 t).1=t.length):Q4 t=(Q0 t).2:=by
 unfold Q4;cases hk:ZI t with
 |none=>
  show(if (Q0 t).1=0\/(Q0 t).1<t.length then _ else _)=_;rw[if_neg (by omega)]
 |some k=>
  obtain⟨h2,h3,_⟩:=Ku hk;have:=El h3;omega
theorem T0 {t:List Nat} (h:(Q0 t).1=0\/(Q0 t).1≠t.length):Q4 t=LM t:=by
 unfold Q4 LM;cases hk:ZI t with
 |none=>
  show(if (Q0 t).1=0\/(Q0 t).1<t.length then _ else _)=_;rw[if_pos];have:=MV t;omega
 |some k=>rfl
theorem C3 (t:List Nat):(∀h p e f,UQ t=some (h,p,e,f)->(Q0 t).1=e/\e≠0)/\(UQ t=none->(Q0 t).1=0):=by
 unfold UQ;cases hx:Zm t with
 |true=>
  rw[Kc hx];refine⟨fun h p e f hh=> ?_,fun h=>by cases h⟩;rw[if_pos rfl] at hh;injection hh with hh;simp only[Prod.mk.injEq] at hh;obtain⟨_,_,rfl,_⟩:=hh;exact⟨rfl,by omega⟩
 |false=>
  rw[Kd hx];by_cases h0:ZT 10 t=0
  ·rw[if_neg (by decide),if_pos h0,if_pos h0];exact⟨fun h p e f hh=>(by cases hh),fun _=>rfl⟩
  ·rw[if_neg (by decide),if_neg h0,if_neg h0];by_cases hp:ZQ t (ZT 10 t)=0
   ·rw[if_pos hp,if_pos hp];refine⟨fun h p e f hh=> ?_,fun h=>by cases h⟩;injection hh with hh;simp only[Prod.mk.injEq] at hh;obtain⟨_,_,rfl,_⟩:=hh;exact⟨rfl,h0⟩
   ·rw[if_neg hp,if_neg hp];refine⟨fun h p e f hh=> ?_,fun h=>by cases h⟩;injection hh with hh;simp only[Prod.mk.injEq] at hh;obtain⟨_,_,rfl,_⟩:=hh;exact⟨rfl,by omega⟩
theorem Yd (v:Nat) (h:(v:Int)<=9223372036854775807):(Lib.decDigits v).length<=19:=by
 have key:∀k v:Nat,v<10^(k+1)->(Lib.decDigits v).length<=k+1:=by
  intro k
  induction k with
  |zero=>intro v hv;rw[Lib.decDigits,dif_pos (by simpa using hv)];exact Nat.le_refl _
  |succ k ih=>
   intro v hv;rw[Lib.decDigits];split
   ·simp
   ·have:=ih (v/10) (by rw[Nat.pow_succ] at hv;omega);simp;omega
 exact key 18 v (by rw[show(10:Nat)^(18+1)=10000000000000000000 from by decide];omega)
theorem Qh {w:World} {base:Nat} {e:TypeId} {size:Nat} {v:Value} {n:Nat} {xs:List Value} (ho:w.ownsRow base e size v n xs) (hn:0<n):∃g cap,v= .slice (some ⟨g,0,none⟩) n cap:=by
 rcases ho.2 with⟨_,h⟩|⟨g,cap,_,h,_⟩
 ·omega
 ·exact⟨g,cap,h⟩
theorem Zt (w:World) (x:Value) (t:TypeId) (B:Nat) (hB:B=w.heap.size):∀j u,[x][j]? =some u->(w.alloc (.cells #[x] t)).cell? ((⟨B,0,none⟩:Addr).add j)=some u:=by
 intro j u hj;subst hB;have e:(⟨w.heap.size,0,none⟩:Addr).add j=⟨w.heap.size,j,none⟩:=by unfold Addr.add;split<;>simp_all
 rw[e,QA (Qg _ _)];simpa using hj
def Ju (n:Int):ByteArray:=⟨(Lib.itoa n).toArray⟩
def slashB:ByteArray:=⟨#[47]⟩
def GT (a:N2):ByteArray:=if QT a then(if a.2=1 then Ju a.1 else Ju a.1++slashB++Ju a.2) else⟨#[110,97,110]⟩
def StrB (w:World) (s:ByteArray) (e:Ending) (w':World):Prop:=e= .returned (.string s)/\Below w w w'
theorem K7 {w w':World} {s t:ByteArray} (h:s=t) (hb:Below w w w'):StrB w s (.returned (.string t)) w':=by subst h;exact⟨rfl,hb⟩
theorem Jm {n:Int} (h1: -2147483647<=n) (h2:n<=2147483647):(Ju n).size<=20:=by
 have h:=Yd n.natAbs (by omega);have hs:(Ju n).size=(Lib.itoa n).length:=by unfold Ju;exact List.size_toArray
 rw[hs];unfold Lib.itoa;split
 ·rw[List.length_cons];omega
 ·rw[show n.toNat=n.natAbs by omega];omega
def Pow10 (w:World):Prop:=Lib.TabIs prog w "internal/strconv.uint64pow10" .u64 Lib.pow10Tab
theorem Ny:(prog.globalNamed "internal/strconv.uint64pow10").isSome=true:=by kernel_rfl
theorem Pow10.stays {w w':World} (h:Pow10 w) (hb:Below w w w'):Pow10 w':=by
 obtain⟨g,hg⟩:=Option.isSome_iff_exists.1 Ny;exact Joins.tab_stays hg h hb zl
theorem Tw (w:World) (k:Nat) (os:Array Obj):Below w w (Sort.grow (w.drewN k) os):=by
 have h:=below_drewN (Below.refl w.heap.size w) k;have hs:=h.size;refine⟨h.os,h.tape,h.output,?_,fun i hi=> ?_⟩
 ·show w.heap.size<=((w.drewN k).heap++os).size;rw[Array.size_append];omega
 ·show((w.drewN k).heap++os)[i]? =_;rw[Array.getElem?_append_left (by omega)];exact h.block i hi
theorem KU (s:ByteArray):s.toList=[]↔s.size=0:=by
 constructor
 ·intro h;rcases Nat.eq_zero_or_pos s.size with h0|h0
  ·exact h0
  ·exact absurd h (Gf h0)
 ·exact K5
theorem Le (n:Nat):((n:Int)<=4096)=(n<=4096):=propext ⟨fun h=>by omega,fun h=>by omega⟩
theorem Lf (n:Nat):((1:Int)<=(n:Int))=(1<=n):=propext ⟨fun h=>by omega,fun h=>by omega⟩
theorem Ld (n:Nat):((4096:Int)<(n:Int))=(4096<n):=propext ⟨fun h=>by omega,fun h=>by omega⟩
theorem T5 (n:Nat):((n:Int)<1)=(n<1):=propext ⟨fun h=>by omega,fun h=>by omega⟩
theorem JV (s t:ByteArray):(s.toList=t.toList)=(QF s=QF t):=by
 rw[ByteArray.toList_eq,ByteArray.toList_eq];refine propext ⟨fun h=> ?_,fun h=> ?_⟩
 ·unfold QF;rw[h]
 ·exact Em _ _ h
def ValPost (w:World) (v:V) (e:Ending) (w':World):Prop:=e= .returned v.v/\Below w w w'
theorem QG {B:Nat} {a w:World} (h:Below B a w) {b:Nat} (hb:B<=b) (x y z u v:Value):Below B a (((((w.setCell b x).setCell ⟨b,1,none⟩ y).setCell ⟨b,2,none⟩ z).setCell ⟨b,3,none⟩ u).setCell ⟨b,4,none⟩ v):=
 ((((h.setCell (p:=⟨b,0,none⟩) hb x).setCell (p:=⟨b,1,none⟩) hb y).setCell (p:=⟨b,2,none⟩) hb z).setCell (p:=⟨b,3,none⟩) hb u).setCell (p:=⟨b,4,none⟩) hb v
theorem Qo {w w':World} {v:V} {k p q r:Int} {s:ByteArray} (h:v=⟨k,p,q,s,r⟩) (hb:Below w w w'):ValPost w v (.returned (.agg #[k,p,q,s,r])) w':=by subst h;exact⟨rfl,hb⟩
theorem RU {n:Nat} {b:Bool} (h:(((n:Nat):Int) !=0)=b):(((n:Nat):Int)==0)= !b:=by rw[<-h,bne,Bool.not_not]
def BX:RR->RR
 | .ok a=> .ok a
 | .error _=> .error 8
theorem Mg {R:RR} (h:Good R):Good (G5 R):=by
 cases R with
 |error c=>exact h
 |ok a=>exact⟨by have:=h.2.1;show-2147483647<= -a.1;omega,by have:=h.1;show-a.1<=2147483647;omega,h.2.2⟩
theorem Uk (l:List Nat):Good (Je l):=by
 unfold Je;cases Ys l with
 |nil=>exact(Zh []:Good (Q4 []))
 |cons c r=>rw[KW];split;exact Mg (Zh _);exact Zh _
abbrev SR:=Except Nat ByteArray
def sS:SR->ByteArray
 | .ok s=>s
 | .error _=>⟨#[]⟩
def sE:SR->Nat
 | .ok _=>0
 | .error c=>c
def JE (v:V):SR:=if v.k=3 then .ok v.s else if v.k=2 then(if QT v.num then .ok (GT v.num) else .error 8) else .error 8
def SrPost (w:World) (R:SR) (e:Ending) (w':World):Prop:=e= .returned (.tuple #[.string (sS R),.int .i64 (sE R:Nat)])/\Below w w w'
theorem Ll {w w':World} {R:SR} {s:ByteArray} (h:R= .ok s) (hb:Below w w w'):SrPost w R (.returned (.tuple #[.string s,.int .i64 0])) w':=by subst h;exact⟨rfl,hb⟩
theorem T8 {w w':World} {R:SR} {c:Nat} (h:R= .error c) (hb:Below w w w'):SrPost w R (.returned (.tuple #[.string ⟨#[]⟩,.int .i64 (c:Int)])) w':=by subst h;exact⟨rfl,hb⟩
abbrev BR:=Except Nat Bool
def bB:BR->Bool
 | .ok b=>b
 | .error _=>false
def bE:BR->Nat
 | .ok _=>0
 | .error c=>c
def BrPost (w:World) (R:BR) (e:Ending) (w':World):Prop:=e= .returned (.tuple #[.bool (bB R),.int .i64 (bE R:Nat)])/\Below w w w'
theorem BB {w w':World} {R:BR} {b:Bool} (h:R= .ok b) (hb:Below w w w'):BrPost w R (.returned (.tuple #[.bool b,.int .i64 0])) w':=by subst h;exact⟨rfl,hb⟩
theorem Uo {w w':World} {R:BR} {c:Nat} (h:R= .error c) (hb:Below w w w'):BrPost w R (.returned (.tuple #[.bool false,.int .i64 (c:Int)])) w':=by subst h;exact⟨rfl,hb⟩
def Jw:List Nat->List Nat->Bool
 |_,[]=>false
 |[],_::_=>true
 |a::l,b::m=>if a=b then Jw l m else decide (a<b)
def Kk (a b:ByteArray):Bool:=Jw (QF a) (QF b)
def JM (a b:V):BR:=
 if a.k=2/\b.k=2 then(if QT a.num&&QT b.num then .ok (decide (FY a.num b.num<0)) else .error 8)
 else if a.k=3/\b.k=3 then .ok (Kk a.s b.s) else .error 8
theorem Xu:∀a b:List UInt8,Jw (a.map UInt8.toNat) (b.map UInt8.toNat)=Op.bytesLess a b
 |a,[]=>by cases a<;>rfl
 |[],_::_=>rfl
 |x::a,y::b=>by
  have ih:=Xu a b;rw[List.map_cons,List.map_cons];show(if x.toNat=y.toNat then _ else _)=_;rw[ih];show _=(decide (x<y)||(x==y&&Op.bytesLess a b));by_cases h:x=y
  ·subst h;simp
  ·have h2:x.toNat≠y.toNat:=fun e=>h (UInt8.toNat_inj.1 e);rw[if_neg h2];simp[h,UInt8.lt_iff_toNat_lt]
theorem Ty (s t:ByteArray):Kk s t=Op.bytesLess s.toList t.toList:=by
 unfold Kk QF;rw[Xu,ByteArray.toList_eq,ByteArray.toList_eq]
def Dn:RR->RR
 | .ok a=> .ok a
 | .error c=> .error (if c=2 then 6 else c)
def J8 (o:Int) (x y:N2):RR:=
 if o=1 then La x y else if o=2 then M7 x y else if o=3 then Av x y else if o=4 then Bg x y else if o=5 then Dh x y
 else if o=6 then Bb x y else if o=7 then Dn (Dm x y) else if o=20 then Pv x else JU o x y
theorem Pd (M:RR):(M= .error 2/\((((nE M:Nat):Int))==2)=true)\/(Dn M=M/\((((nE M:Nat):Int))==2)=false):=by
 cases M with
 |ok a=>exact .inr ⟨rfl,rfl⟩
 |error c=>
  by_cases h:c=2
  ·subst h;exact .inl ⟨rfl,rfl⟩
  ·refine .inr ⟨?_,?_⟩
   ·show Except.error (if c=2 then 6 else c)=_;rw[if_neg h]
   ·rw[beq_eq_false_iff_ne];show(c:Int)≠2;omega
theorem Zl {w w':World} {R M:RR} (h:R=M) (hb:Below w w w'):NumPost w R (.returned (.tuple #[.agg #[.int .i64 (nP M),.int .i64 (nQ M)],.int .i64 (nE M:Nat)])) w':=by subst h;exact Qz hb
def vV:VR->V
 | .ok v=>v
 | .error _=>V.nil
def vE:VR->Nat
 | .ok _=>0
 | .error c=>c
def VrPost (w:World) (R:VR) (e:Ending) (w':World):Prop:=e= .returned (.tuple #[.agg #[.int .i64 (vV R).k,.int .i64 (vV R).p,.int .i64 (vV R).q,.string (vV R).s,.int .i64 (vV R).r],.int .i64 (vE R:Nat)])/\Below w w w'
theorem GJ {w w':World} {R:VR} {k p q r:Int} {s:ByteArray} {v:V} (h:R= .ok v) (hk:v=⟨k,p,q,s,r⟩) (hb:Below w w w'):VrPost w R (.returned (.tuple #[.agg #[k,p,q,s,r],.int .i64 0])) w':=by subst h hk;exact⟨rfl,hb⟩
theorem ZF {w w':World} {R:VR} {c:Nat} (h:R= .error c) (hb:Below w w w'):VrPost w R (.returned (.tuple #[.agg #[(0:Int),(0:Int),(0:Int),.string ⟨#[]⟩,(0:Int)],.int .i64 (c:Int)])) w':=by subst h;exact⟨rfl,hb⟩
theorem QB {w:World} {b:Nat} {cs:Array Value} {t:TypeId} (h:w.heap[b]? =some (.cells cs t (0,0))) (o:Nat):w.frozen? ⟨b,o,none⟩=false:=by simp[World.frozen?,h]
theorem Qi (w:World) (o1 o2 o3:Obj):(((w.alloc o1).alloc o2).alloc o3).heap[w.heap.size]? =some o1:=by
 rw[Below.heap_alloc _ _ _ (by simp;omega),Below.heap_alloc _ _ _ (by simp),Qg]
theorem Qa (w:World) (o1 o2 o3:Obj):(((w.alloc o1).alloc o2).alloc o3).heap[w.heap.size+1]? =some o2:=by
 rw[Below.heap_alloc _ _ _ (by simp)];have:=Qg (w.alloc o1) o2;simpa using this
theorem QU (w:World) (o1 o2 o3:Obj):(((w.alloc o1).alloc o2).alloc o3).heap[w.heap.size+1+1]? =some o3:=by
 have:=Qg ((w.alloc o1).alloc o2) o3;simpa using this
theorem QL {w w':World} (hb:Below w w w') {b:Nat} {o:Obj} (h:w.heap[b]? =some o):w'.heap[b]? =some o:=(hb.block b (Array.getElem?_eq_some_iff.1 h).1).trans h
theorem hkh {w w':World} (hb:Below w w w') {b:Nat} {o:Obj} (h:w.heap[b]? =some o):Hid (w'.heap[b]? =some o):=QL hb h
abbrev oV (k p q:Int) (s:ByteArray) (r:Int):Obj:= .cells #[k,p,q,s,r] 25
def Kj (A B:SR):VR:=match A,B with
 | .ok s,.ok t=>if 4096<s.size+t.size then .error 14 else .ok (KR (s++t))
 |_,_=> .error 8
theorem Xs (A B:SR) (hA:sE A<=8):(((((sE A:Nat):Int)) !=0)=true/\Kj A B= .error 8)\/(((((sE A:Nat):Int)) !=0)=false/\((((sE B:Nat):Int)) !=0)=true/\Kj A B= .error 8)\/
  (((((sE A:Nat):Int)) !=0)=false/\((((sE B:Nat):Int)) !=0)=false/\4096<(sS A).size+(sS B).size/\Kj A B= .error 14)\/
  (((((sE A:Nat):Int)) !=0)=false/\((((sE B:Nat):Int)) !=0)=false/\¬4096<(sS A).size+(sS B).size/\Kj A B= .ok (KR (sS A++sS B)))\/(A= .error 0\/B= .error 0):=by
 have ne:∀c:Nat,c≠0->(((c:Nat):Int) !=0)=true:=fun c h=>by rw[bne_iff_ne];omega
 cases A with
 |error c=>
  by_cases h:c=0
  ·subst h;exact .inr (.inr (.inr (.inr (.inl rfl))))
  ·exact .inl ⟨ne c h,by cases B<;>rfl⟩
 |ok s=>
  cases B with
  |error c=>
   by_cases h:c=0
   ·subst h;exact .inr (.inr (.inr (.inr (.inr rfl))))
   ·exact .inr (.inl ⟨rfl,ne c h,rfl⟩)
  |ok t=>
   by_cases h:4096<s.size+t.size
   ·exact .inr (.inr (.inl ⟨rfl,rfl,h,if_pos h⟩))
   ·exact .inr (.inr (.inr (.inl ⟨rfl,rfl,h,if_neg h⟩)))
theorem Kt (v:V):JE v≠ .error 0/\sE (JE v)<=8:=by
 unfold JE;split
 ·exact⟨fun h=>(by cases h),Nat.zero_le _⟩
 ·split
  ·split
   ·exact⟨fun h=>(by cases h),Nat.zero_le _⟩
   ·exact⟨fun h=>(by injection h with h;cases h),Nat.le_refl _⟩
  ·exact⟨fun h=>(by injection h with h;cases h),Nat.le_refl _⟩
theorem P7 (a:N2):(GT a).size<=4096:=by
 unfold GT;cases hv:QT a with
 |false=>show(3:Nat)<=4096;decide
 |true=>
  obtain⟨b1,b2,b3,b4⟩:=QO hv;have h1:=Jm b3 b4;have h2:=Jm (n:=a.2) (by omega) b2;rw[if_pos rfl];split
  ·omega
  ·rw[ByteArray.size_append,ByteArray.size_append];have:slashB.size=1:=rfl;omega
theorem K8 (v:V) (h:v.s.size<=4096):(sS (JE v)).size<=4096:=by
 unfold JE;split
 ·exact h
 ·split
  ·split
   ·exact P7 _
   ·exact Nat.zero_le _
  ·exact Nat.zero_le _
def YG (n:Bool):BR->VR
 | .ok l=> .ok (JK (l !=n))
 | .error c=> .error c
def YF (o:Int) (a b:V):VR:=YG (o==17||o==19) (if o=17\/o=18 then JM b a else JM a b)
theorem Ma (a b:V):JM a b≠ .error 0:=by
 unfold JM;split
 ·split
  ·exact fun h=>(by cases h)
  ·exact fun h=>(by injection h with h;cases h)
 ·split
  ·exact fun h=>(by cases h)
  ·exact fun h=>(by injection h with h;cases h)
def LessOut (M:BR) (l:Bool) (c:Nat):Prop:=((((c:Nat):Int) !=0)=true/\M= .error c)\/((((c:Nat):Int) !=0)=false/\M= .ok l)
theorem J5 (a b:V):LessOut (JM a b) (bB (JM a b)) (bE (JM a b)):=by
 have h0:=Ma a b;cases hM:JM a b with
 |ok l=>exact .inr ⟨rfl,rfl⟩
 |error c=>
  refine .inl ⟨?_,rfl⟩;rw[hM] at h0;have:c≠0:=fun h=>h0 (by rw[h]);rw[bne_iff_ne];show(c:Int)≠0;omega
theorem hgrow {w w':World} (hb:Below w w w') (o:Obj) {b:Nat} {x:Obj} (h:w.heap[b]? =some x):(w'.alloc o).heap[b]? =some x:=by
 have h1:=QL hb h;exact(Below.heap_alloc w' o b (Array.getElem?_eq_some_iff.1 h1).1).trans h1
theorem QX {w:World} {c:Nat} {o:Obj} (h:w.heap[c]? =some o) {b:Nat} (hb:c≠b) (x y z u v:Value):(((((w.setCell b x).setCell ⟨b,1,none⟩ y).setCell ⟨b,2,none⟩ z).setCell ⟨b,3,none⟩ u).setCell ⟨b,4,none⟩ v).heap[c]? =some o:=by
 rw[Below.heap_setCell _ _ _ _ hb,Below.heap_setCell _ _ _ _ hb,Below.heap_setCell _ _ _ _ hb,Below.heap_setCell _ _ _ _ hb,Below.heap_setCell _ _ _ _ hb];exact h
theorem Qp {w:World} {b:Nat} {t:TypeId} {fz:Nat×Nat} {x0 y0 z0 u0 v0:Value} (h:w.heap[b]? =some (.cells #[x0,y0,z0,u0,v0] t fz)) (x y z u v:Value):
  (((((w.setCell b x).setCell ⟨b,1,none⟩ y).setCell ⟨b,2,none⟩ z).setCell ⟨b,3,none⟩ u).setCell ⟨b,4,none⟩ v).heap[b]? =some (.cells #[x,y,z,u,v] t fz):=
 Ql (Ql (Ql (Ql (Ql h 0 x) 1 y) 2 z) 3 u) 4 v
def Jj (o:Int) (X Y:RR):VR:=
 if nE X≠0\/nE Y≠0 then .error 8
 else if nE (J8 o (nP X,nQ X) (nP Y,nQ Y))≠0 then .error (nE (J8 o (nP X,nQ X) (nP Y,nQ Y)))
 else .ok (GP (nP (J8 o (nP X,nQ X) (nP Y,nQ Y)),nQ (J8 o (nP X,nQ X) (nP Y,nQ Y))))
def NWays (X Y Z:RR) (R:VR):Prop:=((((nE X:Nat):Int) !=0)=true/\R= .error 8)\/((((nE X:Nat):Int) !=0)=false/\(((nE Y:Nat):Int) !=0)=true/\R= .error 8)\/
 ((((nE X:Nat):Int) !=0)=false/\(((nE Y:Nat):Int) !=0)=false/\(((nE Z:Nat):Int) !=0)=true/\R= .error (nE Z))\/
 ((((nE X:Nat):Int) !=0)=false/\(((nE Y:Nat):Int) !=0)=false/\(((nE Z:Nat):Int) !=0)=false/\R= .ok (GP (nP Z,nQ Z)))
theorem J3 (o:Int) (X Y:RR):NWays X Y (J8 o (nP X,nQ X) (nP Y,nQ Y)) (Jj o X Y):=by
 have ne:∀c:Nat,c≠0->(((c:Nat):Int) !=0)=true:=fun c h=>by rw[bne_iff_ne];omega
 have eq:∀c:Nat,¬c≠0->(((c:Nat):Int) !=0)=false:=fun c h=>by rw[bne_eq_false_iff_eq];omega
 unfold Jj;by_cases h1:nE X≠0
 ·exact .inl ⟨ne _ h1,if_pos (.inl h1)⟩
 ·by_cases h2:nE Y≠0
  ·exact .inr (.inl ⟨eq _ h1,ne _ h2,if_pos (.inr h2)⟩)
  ·rw[if_neg (by omega)];by_cases h3:nE (J8 o (nP X,nQ X) (nP Y,nQ Y))≠0
   ·exact .inr (.inr (.inl ⟨eq _ h1,eq _ h2,ne _ h3,if_pos h3⟩))
   ·exact .inr (.inr (.inr ⟨eq _ h1,eq _ h2,eq _ h3,if_neg h3⟩))
theorem Kr {w w':World} {R M:VR} (h:R=M) (hb:Below w w w'):VrPost w R (.returned (.tuple #[.agg #[.int .i64 (vV M).k,.int .i64 (vV M).p,.int .i64 (vV M).q,.string (vV M).s,.int .i64 (vV M).r],.int .i64 (vE M:Nat)])) w':=by subst h;exact⟨rfl,hb⟩
theorem Yg {w w':World} {R:VR} {v:V} (h:R= .ok v) (hb:Below w w w'):VrPost w R (.returned (.tuple #[.agg #[.int .i64 v.k,.int .i64 v.p,.int .i64 v.q,.string v.s,.int .i64 v.r],.int .i64 0])) w':=by subst h;exact⟨rfl,hb⟩
def JQ (o:Int) (b:V):RR:=if 20<=o then .ok (0,1) else ZW b
def Ze (o:Int) (a b:V):VR:=
 if ¬(1<=o/\o<=23)\/Qt a=false\/(o<=19/\Qt b=false) then .error 2
 else if o=8 then Kj (JE a) (JE b)
 else if o=14 then .ok (JK (eqV a b==true))
 else if o=15 then .ok (JK (eqV a b==false))
 else if 16<=o/\o<=19 then YF o a b
 else if o=21 then .ok (JK (!YL a))
 else if o=22 then(if a.k=3 then .ok (Xl (a.s.size:Int)) else .error 8)
 else Jj o (ZW a) (JQ o b)
def Glob (w:World):Prop:=(∃m,w.cell? ⟨0,0,none⟩=some (.int .i64 m))/\Pow10 w
theorem Glob.stays {w w':World} (h:Glob w) (hb:Below w w w'):Glob w':=by
 obtain⟨⟨m,hm⟩,hp⟩:=h;exact⟨⟨m,(hb.cell (p:=⟨0,0,none⟩) (World.block_lt_of_cell? _ _ hm)).trans hm⟩,hp.stays hb⟩
theorem ZU {v:V} (h:Qt v=true):v.s.size<=4096:=by
 unfold Qt at h;have z:UM v=true->v.s.size<=4096:=fun hz=>by
  unfold UM at hz;have:=beq_iff_eq.1 hz;omega
 split at h
 ·simp only[Bool.and_eq_true] at h;exact z h.1.2
 ·split at h
  ·simp only[Bool.and_eq_true] at h;exact z h.1.2
  ·split at h
   ·simp only[Bool.and_eq_true] at h;exact z h.1.2
   ·split at h
    ·simp only[Bool.and_eq_true,decide_eq_true_eq] at h;exact h.1.2
    ·split at h
     ·simp only[Bool.and_eq_true] at h;exact z h.1.2
     ·split at h
      ·simp only[Bool.and_eq_true,decide_eq_true_eq] at h;exact h.1.2
      ·cases h
end Go.Proofs.YthkpckgcgkijbaaGreatDoor
namespace Go.Proofs.YthkpckgcgkijbaaGreatDoor
open Go.RowKit Go.Proofs.Lexi Go.ChangeMaps Go.MapKept Go.Proofs.Tryz
open Go.Maps (Keyed)
structure Mods (F:Nat->Prop) (w w':World):Prop where
 os:w'.os=w.os
 tape:w'.tape=w.tape
 output:w'.output=w.output
 size:w.heap.size<=w'.heap.size
 block:∀k,k<w.heap.size->¬F k->w'.heap[k]? =w.heap[k]?
theorem Mods.of_below {F:Nat->Prop} {w w':World} (h:Below w w w'):Mods F w w':=⟨h.os,h.tape,h.output,h.size,fun k hk _=>h.block k hk⟩
theorem Mods.below {F:Nat->Prop} {B:Nat} {w w':World} (h:Mods F w w') (hB:B<=w.heap.size) (hF:∀k,k<B->¬F k):Below B w w':=
 ⟨h.os,h.tape,h.output,h.size,fun k hk=>h.block k (by omega) (hF k hk)⟩
theorem Mods.refl (F:Nat->Prop) (w:World):Mods F w w:=⟨rfl,rfl,rfl,Nat.le_refl _,fun _ _ _=>rfl⟩
theorem Mods.trans {F:Nat->Prop} {a b c:World} (h:Mods F a b) (k:Mods F b c):Mods F a c:=
 ⟨k.os.trans h.os,k.tape.trans h.tape,k.output.trans h.output,Nat.le_trans h.size k.size,fun i hi hF=>(k.block i (Nat.lt_of_lt_of_le hi h.size) hF).trans (h.block i hi hF)⟩
theorem Mods.mono {F G:Nat->Prop} {a b:World} (h:Mods F a b) (hFG:∀k,k<a.heap.size->F k->G k):Mods G a b:=
 ⟨h.os,h.tape,h.output,h.size,fun k hk hG=>h.block k hk (fun hF=>hG (hFG k hk hF))⟩
variable {P : Program}
def Born (es:Array MapEntry) (c:Nat):Prop:=(es.toList.map (·.born)).Nodup/\∀b∈es.toList.map (·.born),b<c
theorem Born.push {es:Array MapEntry} {c:Nat} (h:Born es c) (x v:Value):Born (es.push {key:=x,val:=v,born:=c}) (c+1):=by
 have e:(es.push {key:=x,val:=v,born:=c}).toList.map (·.born)=es.toList.map (·.born)++[c]:=by simp
 unfold Born;rw[e];refine⟨List.nodup_append.2 ⟨h.1,by simp,fun a ha b hb=> ?_⟩,fun b hb=> ?_⟩
 ·rw[List.mem_singleton] at hb;have:=h.2 a ha;omega
 ·rcases List.mem_append.1 hb with hb|hb
  ·have:=h.2 b hb;omega
  ·rw[List.mem_singleton] at hb;omega
theorem Born.same {es es':Array MapEntry} {c:Nat} (h:Born es c) (e:es'.toList.map (·.born)=es.toList.map (·.born)):Born es' c:=by
 unfold Born;rw[e];exact h
theorem Born.erase {es:Array MapEntry} {c:Nat} (h:Born es c) (j:Nat):Born (es.eraseIdxIfInBounds j) c:=by
 have e:((es.eraseIdxIfInBounds j).toList.map (·.born))=(es.toList.map (·.born)).eraseIdx j:=by rw[Array.toList_eraseIdxIfInBounds,map_eraseIdx]
 unfold Born;rw[e];exact⟨h.1.sublist (List.eraseIdx_sublist _ _),fun b hb=>h.2 b (List.mem_of_mem_eraseIdx hb)⟩
def MapAt (P:Program) (k:TypeId) (w:World) (b:Nat) (E:List (Value×Value)):Prop:=
 ∃es clock,w.heap[b]? =some (.map es clock)/\es.toList.map (fun e=>(e.key,e.val))=E/\(∀p∈E,∃l,keyOf P k p.1=some l)/\E.Pairwise (fun p q=>p.1≠q.1)/\Born es clock
theorem G6 (k:TypeId) (w:World):MapAt P k (w.alloc (.map #[] 0)) w.heap.size []:=⟨#[],0,Qg _ _,rfl,fun p h=>by simp at h,.nil,.nil,fun b h=>by simp at h⟩
theorem MapAt.lt {k:TypeId} {w:World} {b:Nat} {E:List (Value×Value)} (h:MapAt P k w b E):b<w:=by
 obtain⟨es,c,hb,_⟩:=h;exact(Array.getElem?_eq_some_iff.1 hb).1
theorem MapAt.keep {k:TypeId} {w w':World} {b:Nat} {E:List (Value×Value)} (h:MapAt P k w b E) (hk:w'.heap[b]? =w.heap[b]?):MapAt P k w' b E:=by
 obtain⟨es,c,hb,r⟩:=h;exact⟨es,c,hk.trans hb,r⟩
theorem Xk {es:Array MapEntry} {E:List (Value×Value)} (hE:es.toList.map (fun e=>(e.key,e.val))=E) {j:Nat} {e:MapEntry} (hj:es.toList[j]? =some e):E[j]? =some (e.key,e.val):=by
 rw[<-hE,List.getElem?_map,hj];rfl
section
variable {k e t : TypeId} {w : World} {b : Nat} {E : List (Value × Value)}
theorem MapAt.find (h:MapAt P k w b E) (K:Keyed P k) {x:Value} {l:Lit} (hx:keyOf P k x=some l) {es:Array MapEntry} {c:Nat} (hb:w.heap[b]? =some (.map es c)):
  ((Instr.findKey k x es.toList).run P w= .ok none w/\∀p∈E,p.1≠x)\/∃j v,(Instr.findKey k x es.toList).run P w= .ok (some (j,v)) w/\E[j]? =some (x,v)/\j<es.size/\(es[j]?).map (·.key)=some x:=by
 obtain⟨es',c',hb',hE,hk,hd,_⟩:=h;rw[hb] at hb';injection hb' with hb';injection hb' with h1 h2;subst h1 h2;rcases K.find w hx es.toList (fun y hy=>by
  obtain⟨j,hj⟩:=List.getElem?_of_mem hy;exact hk _ (List.mem_of_getElem? (Xk hE hj))) with⟨h1,h2⟩|⟨j,y,h1,h2,h3⟩
 ·refine .inl ⟨h1,fun p hp=> ?_⟩;rw[<-hE,List.mem_map] at hp;obtain⟨y,hy,rfl⟩:=hp;exact h2 y hy
 ·refine .inr ⟨j,y.val,h1,by rw[Xk hE h2,h3],?_,?_⟩
  ·have:=(List.getElem?_eq_some_iff.1 h2).1
   rwa [Array.length_toList] at this
  ·rw[<-Array.getElem?_toList,h2,<-h3];rfl
theorem MapAt.look (h:MapAt P k w b E) (K:Keyed P k) (ht:P.underlying t=some (.map k e)) {z:Value} (hz:(zeroValue e).run P w= .ok z w) {x:Value} {l:Lit} (hx:keyOf P k x=some l):
  ((∀p∈E,p.1≠x)/\∀c,(Instr.lookup t (.map (some b)) x c).run P w= .ok (if c then .tuple #[z,.bool false] else z) w)\/
  ∃v,(x,v)∈E/\∀c,(Instr.lookup t (.map (some b)) x c).run P w= .ok (if c then .tuple #[v,.bool true] else v) w:=by
 have h0:=h;obtain⟨es,cl,hb,_⟩:=h0;rcases h.find K hx hb with⟨h1,h2⟩|⟨j,v,h1,h2,_⟩
 ·refine .inl ⟨h2,fun c=> ?_⟩;simp[Instr.lookup,run_underlying ht,MapKept.run_getObj_map hb,K.check w es.isEmpty hx,h1,hz,Result.andThen]
 ·refine .inr ⟨v,List.mem_of_getElem? h2,fun c=> ?_⟩;simp[Instr.lookup,run_underlying ht,MapKept.run_getObj_map hb,K.check w es.isEmpty hx,h1,Result.andThen]
theorem Dy {E:List (Value×Value)} {j:Nat} {x v v':Value} (hd:E.Pairwise (fun p q=>p.1≠q.1)) (hj:E[j]? =some (x,v)):(E.set j (x,v')).Pairwise (fun p q=>p.1≠q.1):=by
 have h1:(E.map (·.1)).Pairwise (· ≠ ·):=List.pairwise_map.2 hd;have h2:(E.set j (x,v')).map (·.1)=E.map (·.1):=by
  rw[List.map_set];apply List.ext_getElem?;intro i;rw[List.getElem?_set];split
  ·rename_i he
   subst he;rw[List.getElem?_map,hj];rw[List.length_map,if_pos (List.getElem?_eq_some_iff.1 hj).1];rfl
  ·rfl
 exact List.pairwise_map.1 (h2▸h1)
theorem Xj {E:List (Value×Value)} {j:Nat} {x v v':Value} (hd:E.Pairwise (fun p q=>p.1≠q.1)) (hj:E[j]? =some (x,v)) (p:Value×Value):p∈E.set j (x,v')↔p=(x,v')\/(p∈E/\p.1≠x):=by
 have hl:=(List.getElem?_eq_some_iff.1 hj).1;have hjx:E[j]=(x,v):=by rw[List.getElem?_eq_getElem hl] at hj;injection hj
 constructor
 ·intro hp;obtain⟨i,hi⟩:=List.getElem?_of_mem hp;rw[List.getElem?_set] at hi;split at hi
  ·injection hi with hi;exact .inl hi.symm
  ·rename_i hne
   refine .inr ⟨List.mem_of_getElem? hi,fun hc=> ?_⟩;have hil:=(List.getElem?_eq_some_iff.1 hi).1;rw[List.getElem?_eq_getElem hil] at hi;injection hi with hi;rcases Nat.lt_or_gt_of_ne hne with hlt|hgt
   ·have:=(List.pairwise_iff_getElem.1 hd) j i hl hil hlt;rw[hi,hjx] at this;exact this hc.symm
   ·have:=(List.pairwise_iff_getElem.1 hd) i j hil hl hgt;rw[hi,hjx] at this;exact this hc
 ·rintro(rfl|⟨h1,h2⟩)
  ·exact List.mem_of_getElem? (List.getElem?_set_self hl)
  ·obtain⟨i,hi⟩:=List.getElem?_of_mem h1;refine List.mem_of_getElem? (i:=i) ?_;rw[List.getElem?_set,if_neg]
   ·exact hi
   ·rintro rfl;rw[hj] at hi;injection hi with hi;rw[<-hi] at h2;exact h2 rfl
theorem MapAt.store (h:MapAt P k w b E) (K:Keyed P k) (ht:P.underlying t=some (.map k e)) {x:Value} {l:Lit} (hx:keyOf P k x=some l) (v:Value):
  ∃w' E',(Instr.mapUpdate t (.map (some b)) x v).run P w= .ok () w'/\MapAt P k w' b E'/\Mods (· =b) w w'/\w'.heap.size=w.heap.size/\
   (∀p,p∈E'↔p=(x,v)\/(p∈E/\p.1≠x))/\((∀p∈E,p.1≠x)->E'=E++[(x,v)]):=by
 have h0:=h;obtain⟨es,cl,hb,hE,hk,hd,hn⟩:=h0;rcases h.find K hx hb with⟨h1,h2⟩|⟨j,v0,h1,h2,h3,h4⟩
 ·refine⟨_,E++[(x,v)],by simp[Instr.mapUpdate,run_underlying ht,MapKept.run_getObj_map hb,K.check w false hx,h1,MapKept.run_setObj_map _ hb,Result.andThen];rfl,?_,?_,?_,?_,fun _=>rfl⟩
  ·refine⟨_,_,(heap_set hb).1,?_,?_,?_,hn.push _ _⟩
   ·rw[<-hE];simp
   ·intro p hp;rcases List.mem_append.1 hp with hp|hp
    ·exact hk p hp
    ·rw[List.mem_singleton] at hp;subst hp;exact⟨l,hx⟩
   ·rw[List.pairwise_append];refine⟨hd,List.pairwise_singleton _ _,fun p hp q hq=> ?_⟩;rw[List.mem_singleton] at hq;subst hq;exact h2 p hp
  ·exact⟨rfl,rfl,rfl,by simp,fun r _ hr=>(heap_set hb).2 r hr⟩
  ·simp
  ·intro p;rw[List.mem_append,List.mem_singleton];constructor
   ·rintro(hp|hp)
    ·exact .inr ⟨hp,h2 p hp⟩
    ·exact .inl hp
   ·rintro(hp|hp)
    ·exact .inr hp
    ·exact .inl hp.1
 ·have hkey:((es[j]?).map (·.key)).getD x=x:=by rw[h4];rfl
  have hje:E.set j (x,v)=(es.modify j (fun e=>{e with key:=x,val:=v})).toList.map (fun e=>(e.key,e.val)):=by
   rw[<-hE];apply List.ext_getElem?;intro i;rw[List.getElem?_set,List.getElem?_map,List.getElem?_map,Array.getElem?_toList,Array.getElem?_toList,Array.getElem?_modify];split
   ·rename_i he
    subst he;rw[List.length_map,Array.length_toList,if_pos h3,Array.getElem?_eq_getElem h3];rfl
   ·rfl
  have hbo:(es.modify j (fun e=>{e with key:=x,val:=v})).toList.map (·.born)=es.toList.map (·.born):=by
   apply List.ext_getElem?;intro i;rw[List.getElem?_map,List.getElem?_map,Array.getElem?_toList,Array.getElem?_toList,Array.getElem?_modify];split
   ·rename_i he
    subst he;rw[Array.getElem?_eq_getElem h3];rfl
   ·rfl
  refine⟨_,E.set j (x,v),by simp[Instr.mapUpdate,run_underlying ht,MapKept.run_getObj_map hb,K.check w false hx,h1,hkey,K.stays w hx,MapKept.run_setObj_map _ hb,Result.andThen];rfl,?_,?_,?_,?_,fun hc=> ?_⟩
  ·refine⟨_,_,(heap_set hb).1,hje.symm,?_,Dy hd h2,hn.same hbo⟩;intro p hp;rcases(Xj hd h2 p).1 hp with rfl|⟨hp,_⟩
   ·exact⟨l,hx⟩
   ·exact hk p hp
  ·exact⟨rfl,rfl,rfl,by simp,fun r _ hr=>(heap_set hb).2 r hr⟩
  ·simp
  ·exact Xj hd h2
  ·exact absurd rfl (hc _ (List.mem_of_getElem? h2))
theorem MapAt.drop (h:MapAt P k w b E) (K:Keyed P k) (ht:P.underlying t=some (.map k e)) {x:Value} {l:Lit} (hx:keyOf P k x=some l) (ty:TypeId):
  ∃w' E',(Builtin.delete_ #[t,k] ty #[.map (some b),x]).run P w= .ok (.tuple #[]) w'/\MapAt P k w' b E'/\Mods (· =b) w w'/\w'.heap.size=w.heap.size/\
   (∀p,p∈E'↔p∈E/\p.1≠x):=by
 have h0:=h;obtain⟨es,cl,hb,hE,hk,hd,hn⟩:=h0;rcases h.find K hx hb with⟨h1,h2⟩|⟨j,v0,h1,h2,h3,h4⟩
 ·refine⟨_,E,by simp[Builtin.delete_,run_underlying ht,MapKept.run_getObj_map hb,K.check w es.isEmpty hx,h1,MapKept.run_setObj_map _ hb,Result.andThen];rfl,?_,?_,?_,?_⟩
  ·exact⟨_,_,(heap_set hb).1,hE,hk,hd,hn⟩
  ·exact⟨rfl,rfl,rfl,by simp,fun r _ hr=>(heap_set hb).2 r hr⟩
  ·simp
  ·exact fun p=>⟨fun hp=>⟨hp,h2 p hp⟩,fun hp=>hp.1⟩
 ·have hl:=(List.getElem?_eq_some_iff.1 h2).1;have hjx:E[j]=(x,v0):=by rw[List.getElem?_eq_getElem hl] at h2;injection h2
  have hje:E.eraseIdx j=(es.eraseIdxIfInBounds j).toList.map (fun e=>(e.key,e.val)):=by
   rw[<-hE,Array.toList_eraseIdxIfInBounds,map_eraseIdx]
  refine⟨_,E.eraseIdx j,by simp[Builtin.delete_,run_underlying ht,MapKept.run_getObj_map hb,K.check w es.isEmpty hx,h1,MapKept.run_setObj_map _ hb,Result.andThen];rfl,?_,?_,?_,?_⟩
  ·refine⟨_,_,(heap_set hb).1,hje.symm,fun p hp=>hk p (List.mem_of_mem_eraseIdx hp),hd.sublist (List.eraseIdx_sublist _ _),hn.erase j⟩
  ·exact⟨rfl,rfl,rfl,by simp,fun r _ hr=>(heap_set hb).2 r hr⟩
  ·simp
  ·intro p;rw[List.mem_eraseIdx_iff_getElem];constructor
   ·rintro⟨i,hi,hne,rfl⟩;refine⟨List.getElem_mem hi,fun hc=> ?_⟩;rcases Nat.lt_or_gt_of_ne hne with hlt|hgt
    ·have:=(List.pairwise_iff_getElem.1 hd) i j hi hl hlt;rw[hjx] at this;exact this hc
    ·have:=(List.pairwise_iff_getElem.1 hd) j i hl hi hgt;rw[hjx] at this;exact this hc.symm
   ·rintro⟨h5,h6⟩;obtain⟨i,hi,rfl⟩:=List.getElem_of_mem h5;refine⟨i,hi,?_,rfl⟩;rintro rfl;rw[hjx] at h6;exact h6 rfl
end
end Go.Proofs.YthkpckgcgkijbaaGreatDoor
namespace Go.Proofs.YthkpckgcgkijbaaGreatDoor
open Go.RowKit Go.Proofs.Lexi Go.Proofs.Tryz
theorem Py:Go.Maps.Keyed prog 25:= .of_law (deep_law (m:=5) (by decide) (by kernel_rfl) (by kernel_rfl) (by rw[underlying25]))
theorem FK:Go.Maps.Keyed prog 3:=Go.Maps.int_keyed underlying3
def i64 (n:Int):Prop:= -9223372036854775808<=n/\n<=9223372036854775807
structure WfV (v:V):Prop where
 k:i64 v.k
 p:i64 v.p
 q:i64 v.q
 s:v.s.size<=maxLen
 r:i64 v.r
theorem E4 {n:Int} (h:i64 n):(Lit.int .i64 n).wf=true:=by
 obtain⟨h1,h2⟩:=h;exact WalkArith.wf_i64 (by omega)
theorem RW {n:Int} (h:i64 n):∃l,keyOf prog 3 (.int .i64 n)=some l:=⟨_,Go.Maps.keyOf_int_mk underlying3 (E4 h)⟩
theorem A3:prog.keyType 25=true:=by kernel_rfl
theorem zc25:prog.cellsOf 25=5:=by kernel_rfl
theorem zc23:prog.cellsOf 23=2:=by kernel_rfl
theorem celT3:prog.cellsOf 3=1:=by kernel_rfl
theorem celT9:prog.cellsOf 9=1:=by kernel_rfl
theorem Rg {v:V} (h:WfV v):∃l,keyOf prog 25 v.v=some l:=by
 have hf:v.v.formed prog 25=true:=by
  unfold Value.formed;rw[underlying25];show((5:Nat)==prog.cellsOf 25)=true;rw[zc25];rfl
 unfold keyOf;rw[underlying25];show∃l,(if (prog.keyType 25&&v.v.formed prog 25)=true then _ else _)=some l;rw[A3,hf,if_pos (by rfl)];have h2:2<=prog.types.size:=Nat.le_of_ble_eq_true (by kernel_rfl);obtain⟨d,hd⟩:∃d,prog.types.size=d+2:=⟨prog.types.size-2,by omega⟩
 rw[hd];obtain⟨hk,hp,hq,hs,hr⟩:=h;have wk:=E4 hk;have wp:=E4 hp;have wq:=E4 hq;have wr:=E4 hr;obtain⟨k,p,q,s,r⟩:=v;apply Option.isSome_iff_exists.1;rw[Option.isSome_map];dsimp only at wk wp wq wr hs;show(prog.keyLits (d+2+1) 25 [.int .i64 k,.int .i64 p,.int .i64 q,.string s,.int .i64 r]).isSome=true;simp[Program.keyLits,underlying25,underlying23,underlying3,underlying9,zc25,zc23,celT3,celT9,wk,wp,wq,wr,hs];rw[if_pos (by decide)];rfl
end Go.Proofs.YthkpckgcgkijbaaGreatDoor
namespace Go.Proofs.YthkpckgcgkijbaaGreatDoor
open Go.ChangeShapes Go.WideShapes Go.ChangeAt Go.WideMaps Go.WideElems Go.RowKit Go.Proofs.Tryz
abbrev laidL:List (String×DataW Unit):=[("math/bits.deBruijn32tab",Rows.laid_math_bits_deBruijn32tab),("math/bits.deBruijn64tab",Rows.laid_math_bits_deBruijn64tab),("internal/strconv.uint64pow10",Rows.laid_internal_strconv_uint64pow10),("unicode/utf8.acceptRanges",Rows.laid_unicode_utf8_acceptRanges),("unicode/utf8.first",Rows.laid_unicode_utf8_first)]
theorem Tryz.own:ownKnob prog.godebug=none:=by kernel_rfl
theorem tPow:∃g,prog.globalNamed "internal/strconv.uint64pow10" =some g/\(prog.globals[g]?).map (·.type)=some 218:=by
 refine⟨(prog.globalNamed "internal/strconv.uint64pow10").getD 0,?_,?_⟩<;>kernel_rfl
theorem cPow:prog.cellsOf 218=20:=by kernel_rfl
theorem c64:prog.cellsOf 204=1:=by kernel_rfl
theorem Ff {W:World} (h:laidMetH prog laidL W):Pow10 W:=by
 rw[MakeChecks.laidMetH_plain _ _ _ (by kernel_rfl)] at h;obtain⟨ps,⟨g0,t0,cs0,f0,p0,q0,_,_,_,_,⟨g1,t1,cs1,f1,p1,q1,_,_,_,_,⟨g2,t2,cs2,f2,p2,q2,hg2,ht2,hv2,hd2,_,_⟩,_⟩,_⟩,_,_⟩:=h;obtain⟨g,hg,ht⟩:=tPow;obtain rfl:=Option.some.inj (hg.symm.trans hg2);obtain rfl:=Option.some.inj (ht.symm.trans ht2);unfold Pow10 Lib.TabIs;rw[hv2,<-Lib.cells_of_tab (k:= .u64) (zs:=Lib.pow10Tab) underlying218 underlying204 c64 cPow hd2]
theorem Ew (os:Os) (args:Array Value):laidMetH prog laidL ((World.laidAll prog os laidL).forCall (fun _ _=>0) ⟨#[],args,[]⟩).memory:=by
 rw[MakeChecks.laidMetH_plain _ _ _ (by kernel_rfl)];exact laidMet_laidAll _ (by kernel_rfl) (by kernel_rfl)
theorem LL {W:World} (hs:W.ShapedOpen prog):∃m,W.cell? ⟨0,0,none⟩=some (.int .i64 m):=by
 have e:((begin prog (fun _ _=>0) default).world.heap[0]?).bind Obj.row? =some (#[.int .i64 0],3):=by kernel_rfl
 obtain⟨cs,h1,h2,h3⟩:=hs.1 0 #[.int .i64 0] 3 (of_decide_eq_true (by kernel_rfl)) e;obtain⟨ts,ht,_,hc⟩:=h3 (by kernel_rfl);have hct:prog.cellTypes prog.depth 3=some [3]:=by kernel_rfl
 rw[hct] at ht;injection ht with ht;subst ht;have hz:0<cs.size:=by rw[h2];decide
 obtain⟨u,hu,hv⟩:=hc 0 cs[0] (Array.getElem?_eq_getElem hz);injection hu with hu;subst hu;unfold Cell.ok at hv;rw[underlying3] at hv;generalize hx:cs[0]=x at hv;cases x with
 |int k n=>
  obtain⟨rfl,_⟩:=hv;exact⟨n,by rw[QA h1,Array.getElem?_eq_getElem hz,hx]⟩
 |_=>exact hv.elim
section
variable {H : Type} {enc : TypeId × Value → H} {P : Program}
theorem Ka {f:Func} {s:ChangeSpec} {apart fresh handsOn again:Bool} {W W':World} {args:Array Value} {v:Value} {ds gs:List (DataW H)} {before pa pv:List MemPlace}
  (hW:DataW.Whole enc P f.params.toList s.vars apart W args.toList ds gs before)
  (hres:∀(b:Nat) (sp:Nat->Bool) (hd:Bool),DataW.TrodAll enc P W' b sp hd f.resultTypes.toList (v.resultList f.resultTypes.size) (s.fn H (ds++gs)).results [])
  (hargs:∀sp:Nat->Bool,(∀p∈before,sp p.block=true)->DataW.TrodAll enc P W' 0 sp true f.params.toList args.toList (s.fn H (ds++gs)).args pa)
  (hvars:∀sp:Nat->Bool,(∀p∈before,sp p.block=true)->DataW.TrodVars enc P W' sp s.vars (s.fn H (ds++gs)).vars pv)
  (hps:before=pa++pv) (hb:Below W W W')
  (hok:∀(j:Nat) (t:TypeId) (r:Value),f.resultTypes[j]? =some t->(v.resultList f.resultTypes.size)[j]? =some r->Value.okWide P W' .any 0 t r):
  s.post enc P f apart fresh handsOn again W args v W':=by
 have hlt:∀p∈before,p.block<W.heap.size:=fun p hp=>hW.lt p hp;have hold:∀p∈before,(fun b=>decide (b<W.heap.size)) p.block=true:=fun p hp=>by simpa using hlt p hp
 refine⟨ds,gs,before,[],pa,pv,hW,hres _ _ _,hargs _ hold,hvars _ hold,World.keptBut_mono (fun p hp=>⟨hp,?_⟩) (hb.frame (· ∈before)),fun _=> ?_⟩
 ·rw[hps,List.mem_append] at hp;exact Or.inr hp
 ·obtain⟨_,_,_,_,_,hz,hn⟩:=hW;refine⟨hok,_,_,([]++pa)++pv,⟨[]++pa,pv,trodAll_append (hargs _ (fun _ _=>rfl)) (hres _ _ _),hvars _ (fun _ _=>rfl),rfl,?_,?_⟩,?_⟩
  ·intro b off hp;have hin:MemPlace.cell b off∈before:=by rw[hps];simpa using hp
   rw[hb.frozen (hlt _ hin)];exact hz b off hin
  ·intro ha;have:=hn ha;rw[hps] at this;simpa using this
  ·intro p hp _;rw[hps];simpa using hp
end
section
variable {H : Type} {enc : TypeId × Value → H} {P : Program} {w : World} {base : Nat} {sp : Nat → Bool} {held : Bool}
theorem Jy {t:TypeId} {l:List (TypeId×Nat)} (h:(match P.underlying t with|some (.struct fs)=>decide (fs.toList.map (fun f=>(f.type,f.offset))=l)|_=>false)=true):∃fs,P.underlying t=some (.struct fs)/\fs.toList.map (fun f=>(f.type,f.offset))=l:=by
 split at h
 ·rename_i fs hfs;exact⟨fs,hfs,of_decide_eq_true h⟩
 ·cases h
theorem K4 {t:TypeId} {l:List (TypeId×Nat)} (hs:∃fs,P.underlying t=some (.struct fs)/\fs.toList.map (fun f=>(f.type,f.offset))=l) {fuel:Nat} {cs:List Value} {x:DataW H×List MemPlace} (h:DataW.trod enc P w base sp held fuel t cs=some x):
  cs.length=P.cellsOf t/\∃n,∀(i:Nat) (ty:TypeId) (off:Nat),l[i]? =some (ty,off)->∃y,DataW.trod enc P w base sp held n ty ((cs.drop off).take (P.cellsOf ty))=some y:=by
 obtain⟨fs,hf,rfl⟩:=hs;obtain⟨xs,n,_,_,hl,hlen,hx⟩:=DataW.trod_struct hf h;refine⟨hl,n,fun i ty off hi=> ?_⟩;rw[List.getElem?_map,Option.map_eq_some_iff] at hi;obtain⟨f,hf1,hf2⟩:=hi;have hf1':fs[i]? =some f:=by simpa using hf1
 have:=hx i f hf1';injection hf2 with e1 e2;subst e1 e2;have hi':i<xs.length:=by rw[hlen];exact(Array.getElem?_eq_some_iff.1 hf1').1
 exact⟨xs[i],by rw[this];exact List.getElem?_eq_getElem hi'⟩
end
theorem KL {n:Int} (h:(Lit.int .i64 n).wf=true):i64 n:=by
 have h2:(decide ((-9223372036854775808:Int)<=n)&&decide (n<=(9223372036854775807:Int)))=true:=h;rw[Bool.and_eq_true,decide_eq_true_eq,decide_eq_true_eq] at h2;exact h2
theorem OH:∃fs,prog.underlying 25=some (.struct fs)/\fs.toList.map (fun f=>(f.type,f.offset))=[(3,0),(23,1),(9,3),(3,4)]:=Jy (by kernel_rfl)
theorem Bo:∃fs,prog.underlying 23=some (.struct fs)/\fs.toList.map (fun f=>(f.type,f.offset))=[(3,0),(3,1)]:=Jy (by kernel_rfl)
theorem Az {α:Type} {l:List α} (h:l.length=5):∃a b c d e,l=[a,b,c,d,e]:=by
 match l,h with
 |[a,b,c,d,e],_=>exact⟨a,b,c,d,e,rfl⟩
theorem Ug {H:Type} {enc:TypeId×Value->H} {w:World} {base:Nat} {sp:Nat->Bool} {held:Bool} {fuel:Nat} {cs:List Value} {x:DataW H×List MemPlace} (h:DataW.trod enc prog w base sp held fuel 25 cs=some x):
  ∃v:V,cs=[.int .i64 v.k,.int .i64 v.p,.int .i64 v.q,.string v.s,.int .i64 v.r]/\WfV v:=by
 obtain⟨hl,n,hf⟩:=K4 OH h;rw[zc25] at hl;obtain⟨a,b,c,d,e,rfl⟩:=Az hl;obtain⟨y0,h0⟩:=hf 0 3 0 rfl;obtain⟨y1,h1⟩:=hf 1 23 1 rfl;obtain⟨y2,h2⟩:=hf 2 9 3 rfl;obtain⟨y3,h3⟩:=hf 3 3 4 rfl;rw[celT3] at h0 h3;rw[zc23] at h1;rw[celT9] at h2;obtain⟨_,m,hg⟩:=K4 Bo h1;obtain⟨z0,g0⟩:=hg 0 3 0 rfl;obtain⟨z1,g1⟩:=hg 1 3 1 rfl;rw[celT3] at g0 g1;obtain⟨k,hk,_,wk⟩:=DataW.trod_int underlying3 h0;obtain⟨p,hp,_,wp⟩:=DataW.trod_int underlying3 g0;obtain⟨q,hq,_,wq⟩:=DataW.trod_int underlying3 g1;obtain⟨s,hs,_,ws⟩:=DataW.trod_string underlying9 h2;obtain⟨r,hr,_,wr⟩:=DataW.trod_int underlying3 h3;simp at hk hp hq hs hr;exact⟨⟨k,p,q,s,r⟩,by rw[hk,hp,hq,hs,hr],⟨KL wk,KL wp,KL wq,ws,KL wr⟩⟩
theorem Gz {H:Type} {enc:TypeId×Value->H} {w:World} {b0:Nat} {sp:Nat->Bool} {v:Value} {d:DataW H} {ps:List MemPlace} (hval:Value.okWide prog w .any b0 25 v) (h:DataW.Trod enc prog w 0 sp true 25 v d ps):
  ∃x:V,v= .agg #[.int .i64 x.k,.int .i64 x.p,.int .i64 x.q,.string x.s,.int .i64 x.r]/\WfV x:=by
 obtain⟨fs,hfs,_⟩:=OH;obtain⟨cs,rfl,_,_⟩:∃cs,v= .agg cs/\cs.size=prog.cellsOf 25/\Row.okWide prog w .any b0 25 cs:=by
  unfold Value.okWide at hval;rw[hfs] at hval;exact hval
 obtain⟨fuel,h⟩:=h;obtain⟨x,hx,hw⟩:=Ug h;refine⟨x,?_,hw⟩;have:cs.toList=_:=hx;rw[<-Array.toList_inj.1 (show cs.toList=(#[.int .i64 x.k,.int .i64 x.p,.int .i64 x.q,.string x.s,.int .i64 x.r]:Array Value).toList from hx)]
theorem laidOut:laidOutB prog=true:=by kernel_rfl
end Go.Proofs.YthkpckgcgkijbaaGreatDoor
namespace Go.Proofs.YthkpckgcgkijbaaGreatDoor
open Go.ChangeShapes Go.WideShapes Go.ChangeAt Go.WideMaps Go.WideElems Go.RowKit Go.Proofs.Tryz
theorem Sp {w:World} {a:Addr} {v:Value} (h:w.cell? a=some v):a.block<w.heap.size:=World.block_lt_of_cell? _ a h
end Go.Proofs.YthkpckgcgkijbaaGreatDoor
namespace Go.Proofs.YthkpckgcgkijbaaGreatDoor
open Go.Proofs.Tryz
structure Sl where
 k:V
 v:V
 g:Bool
def Sl.hit (k:V) (s:Sl):Bool:= !s.g&&eqV s.k k
def Q1 (L:List Sl):Nat:=(L.filter (fun s=> !s.g)).length
def Qq (L:List Sl):List Sl:=L.filter (fun s=> !s.g)
def FQ (L:List Sl) (k:V):V:=
 match L.find? (Sl.hit k) with
 |some s=>s.v
 |none=>V.nil
def UC (L:List Sl):List Sl:=if Q1 L+8<L.length-Q1 L then Qq L else L
def Yu (L:List Sl) (k v:V):List Sl:=
 match L.findIdx? (Sl.hit k) with
 |some i=>if v.k=0 then L.set i ⟨k,V.nil,true⟩ else L.set i ⟨k,v,false⟩
 |none=>if v.k=0 then L else UC L++[⟨k,v,false⟩]
theorem C5 (a:V):eqV a a=true:=eqV_iff.2 rfl
theorem hit_iff {k:V} {s:Sl}:Sl.hit k s=true↔s.g=false/\s.k=k:=by
 unfold Sl.hit;rw[Bool.and_eq_true,eqV_iff];cases s.g<;>simp
theorem ZR (L:List Sl):Q1 L<=L.length:=List.length_filter_le _ _
structure Idx (L:List Sl) (f:V->Option Nat):Prop where
 live:∀(i:Nat) (s:Sl),L[i]? =some s->s.g=false->f s.k=some i
 key:∀(k:V) (i:Nat),f k=some i->∃s,L[i]? =some s/\s.k=k
 gone:∀(i:Nat) (s:Sl),L[i]? =some s->s.g=true->s.v=V.nil
theorem Si:Idx [] (fun _=>none):=⟨fun i s h=>(by simp at h),fun k i h=>(by cases h),fun i s h=>(by simp at h)⟩
theorem Idx.miss {L:List Sl} {f:V->Option Nat} (h:Idx L f) {k:V} (hk:f k=none):∀s∈L,Sl.hit k s=false:=by
 intro s hs;obtain⟨i,hi⟩:=List.getElem?_of_mem hs;cases hh:Sl.hit k s with
 |false=>rfl
 |true=>
  obtain⟨h1,h2⟩:=hit_iff.1 hh;have:=h.live i s hi h1;rw[h2,hk] at this;cases this
theorem Idx.at_ {L:List Sl} {f:V->Option Nat} (h:Idx L f) {k:V} {i:Nat} (hk:f k=some i):∃s,L[i]? =some s/\s.k=k/\∀(j:Nat) (t:Sl),L[j]? =some t->Sl.hit k t=true->j=i:=by
 obtain⟨s,h1,h2⟩:=h.key k i hk;refine⟨s,h1,h2,fun j t hj ht=> ?_⟩;obtain⟨h3,h4⟩:=hit_iff.1 ht;have:=h.live j t hj h3;rw[h4,hk] at this;injection this with this;exact this.symm
theorem FU {L:List Sl} {k:V} (h:∀s∈L,Sl.hit k s=false):L.find? (Sl.hit k)=none/\L.findIdx? (Sl.hit k)=none:=by
 constructor
 ·rw[List.find?_eq_none];intro s hs;rw[h s hs];decide
 ·rw[List.findIdx?_eq_none_iff];exact h
theorem FS {L:List Sl} {k:V} {i:Nat} {s:Sl} (hi:L[i]? =some s) (hs:Sl.hit k s=true) (hu:∀(j:Nat) (t:Sl),L[j]? =some t->Sl.hit k t=true->j=i):
  L.find? (Sl.hit k)=some s/\L.findIdx? (Sl.hit k)=some i:=by
 have hl:i<L.length:=(List.getElem?_eq_some_iff.1 hi).1;have hx:L.findIdx? (Sl.hit k)=some i:=by
  rw[List.findIdx?_eq_some_iff_getElem];refine⟨hl,?_,fun j hj=> ?_⟩
  ·rw[List.getElem?_eq_getElem hl] at hi;injection hi with hi;rw[hi];exact hs
  ·intro hc;have:=hu j L[j] (List.getElem?_eq_getElem (by omega)) hc;omega
 refine⟨?_,hx⟩;rw[List.find?_eq_bind_findIdx?_getElem?,hx];exact hi
theorem Idx.get_miss {L:List Sl} {f:V->Option Nat} (h:Idx L f) {k:V} (hk:f k=none):FQ L k=V.nil:=by
 unfold FQ;rw[(FU (h.miss hk)).1]
theorem Idx.get_at {L:List Sl} {f:V->Option Nat} (h:Idx L f) {k:V} {i:Nat} {s:Sl} (hk:f k=some i) (hs:L[i]? =some s):FQ L k=s.v:=by
 obtain⟨s',h1,h2,h3⟩:=h.at_ hk;rw[hs] at h1;injection h1 with h1;subst h1;unfold FQ;cases hg:s.g with
 |false=>rw[(FS hs (hit_iff.2 ⟨hg,h2⟩) h3).1]
 |true=>
  have:L.find? (Sl.hit k)=none:=by
   rw[List.find?_eq_none];intro t ht hc;obtain⟨j,hj⟩:=List.getElem?_of_mem ht;have:=h3 j t hj hc;subst this;rw[hs] at hj;injection hj with hj;subst hj;have:=(hit_iff.1 hc).1;rw[hg] at this;cases this
  rw[this,h.gone i s hs hg]
def NoLive (L:List Sl) (f:V->Option Nat) (k:V):Prop:=f k=none\/∃i s,f k=some i/\L[i]? =some s/\s.g=true
theorem Idx.noLive {L:List Sl} {f:V->Option Nat} (h:Idx L f) {k:V} (hk:NoLive L f k):∀s∈L,Sl.hit k s=false:=by
 rcases hk with hk|⟨i,s,hk,hs,hg⟩
 ·exact h.miss hk
 ·obtain⟨s',h1,h2,h3⟩:=h.at_ hk;intro t ht;cases hh:Sl.hit k t with
  |false=>rfl
  |true=>
   obtain⟨j,hj⟩:=List.getElem?_of_mem ht;have:=h3 j t hj hh;subst this;rw[hs] at hj;injection hj with hj;subst hj;have:=(hit_iff.1 hh).1;rw[hg] at this;cases this
theorem Idx.set_none {L:List Sl} {f:V->Option Nat} (h:Idx L f) {k v:V} (hk:NoLive L f k):Yu L k v=if v.k=0 then L else UC L++[⟨k,v,false⟩]:=by
 unfold Yu;rw[(FU (h.noLive hk)).2]
theorem Idx.set_some {L:List Sl} {f:V->Option Nat} (h:Idx L f) {k v:V} {i:Nat} {s:Sl} (hk:f k=some i) (hs:L[i]? =some s) (hg:s.g=false):
  Yu L k v=if v.k=0 then L.set i ⟨k,V.nil,true⟩ else L.set i ⟨k,v,false⟩:=by
 obtain⟨s',h1,h2,h3⟩:=h.at_ hk;rw[hs] at h1;injection h1 with h1;subst h1;unfold Yu;rw[(FS hs (hit_iff.2 ⟨hg,h2⟩) h3).2]
def Mv (f:V->Option Nat) (k:V) (x:Option Nat):V->Option Nat:=fun y=>if eqV y k then x else f y
theorem JZ (f:V->Option Nat) (k:V) (x:Option Nat):Mv f k x k=x:=by unfold Mv;rw[if_pos (C5 k)]
theorem Zx {f:V->Option Nat} {k y:V} {x:Option Nat} (h:y≠k):Mv f k x y=f y:=by
 unfold Mv;rw[if_neg];intro hc;exact h (eqV_iff.1 hc)
theorem Idx.remove {L:List Sl} {f:V->Option Nat} (h:Idx L f) {k:V} {i:Nat} (hk:f k=some i):Idx (L.set i ⟨k,V.nil,true⟩) f:=by
 have hl:i<L.length:=by obtain⟨s,h1,_⟩:=h.key k i hk;exact(List.getElem?_eq_some_iff.1 h1).1
 refine⟨fun j s hj hs=> ?_,fun y j hy=> ?_,fun j s hj hs=> ?_⟩
 ·rw[List.getElem?_set] at hj;split at hj
  ·injection hj with hj;subst hj;cases hs
  ·exact h.live j s hj hs
 ·obtain⟨s,h1,h2⟩:=h.key y j hy;rw[List.getElem?_set];split
  ·rename_i he
   subst he;refine⟨_,rfl,?_⟩;obtain⟨s',h3,h4⟩:=h.key k i hk;rw[h1] at h3;injection h3 with h3;subst h3;show k=y;rw[<-h4,h2]
  ·exact⟨s,h1,h2⟩
 ·rw[List.getElem?_set] at hj;split at hj
  ·injection hj with hj;subst hj;rfl
  ·exact h.gone j s hj hs
theorem Idx.write {L:List Sl} {f:V->Option Nat} (h:Idx L f) {k v:V} {i:Nat} (hk:f k=some i):Idx (L.set i ⟨k,v,false⟩) f:=by
 have hl:i<L.length:=by obtain⟨s,h1,_⟩:=h.key k i hk;exact(List.getElem?_eq_some_iff.1 h1).1
 refine⟨fun j s hj hs=> ?_,fun y j hy=> ?_,fun j s hj hs=> ?_⟩
 ·rw[List.getElem?_set] at hj;split at hj
  ·rename_i he
   subst he;injection hj with hj;subst hj;exact hk
  ·exact h.live j s hj hs
 ·obtain⟨s,h1,h2⟩:=h.key y j hy;rw[List.getElem?_set];split
  ·rename_i he
   subst he;refine⟨_,rfl,?_⟩;obtain⟨s',h3,h4⟩:=h.key k i hk;rw[h1] at h3;injection h3 with h3;subst h3;show k=y;rw[<-h4,h2]
  ·exact⟨s,h1,h2⟩
 ·rw[List.getElem?_set] at hj;split at hj
  ·injection hj with hj;subst hj;cases hs
  ·exact h.gone j s hj hs
theorem Idx.push {L:List Sl} {f:V->Option Nat} (h:Idx L f) {k v:V} (hk:NoLive L f k):Idx (L++[⟨k,v,false⟩]) (Mv f k (some L.length)):=by
 have hno:=h.noLive hk;refine⟨fun j s hj hs=> ?_,fun y j hy=> ?_,fun j s hj hs=> ?_⟩
 ·rw[List.getElem?_append] at hj;split at hj
  ·have hk2:s.k≠k:=by
    intro hc;have:=hno s (List.mem_of_getElem? hj);rw[hit_iff.2 ⟨hs,hc⟩] at this;cases this
   rw[Zx hk2];exact h.live j s hj hs
  ·rw[List.getElem?_singleton] at hj;split at hj
   ·injection hj with hj;subst hj;rw[JZ]
    congr 1
    omega
   ·cases hj
 ·by_cases hyk:y=k
  ·subst hyk;rw[JZ] at hy;injection hy with hy;subst hy;exact⟨_,List.getElem?_concat_length,rfl⟩
  ·rw[Zx hyk] at hy;obtain⟨s,h1,h2⟩:=h.key y j hy;exact⟨s,by rw[List.getElem?_append_left (List.getElem?_eq_some_iff.1 h1).1];exact h1,h2⟩
 ·rw[List.getElem?_append] at hj;split at hj
  ·exact h.gone j s hj hs
  ·rw[List.getElem?_singleton] at hj;split at hj
   ·injection hj with hj;subst hj;cases hs
   ·cases hj
def Kn (L:List Sl) (f:V->Option Nat) (i:Nat) (k:V):Option Nat:=
 match (Qq (L.take i)).findIdx? (Sl.hit k) with
 |some j=>some j
 |none=>match f k with
  |some j=>if i<=j then some j else none
  |none=>none
theorem Cl (L:List Sl) (f:V->Option Nat):Kn L f 0=f:=by
 funext k
 unfold Kn;have:Qq (L.take 0)=[]:=by rw[List.take_zero];rfl
 rw[this];show(match f k with|some j=>if 0<=j then some j else none|none=>none)=f k;cases f k with
 |none=>rfl
 |some j=>exact if_pos (Nat.zero_le j)
theorem Z7 {L:List Sl} {i:Nat} {s:Sl} (h:L[i]? =some s):Qq (L.take (i+1))=if s.g then Qq (L.take i) else Qq (L.take i)++[s]:=by
 have hl:i<L.length:=(List.getElem?_eq_some_iff.1 h).1;rw[List.getElem?_eq_getElem hl] at h;injection h with h;rw[List.take_succ_eq_append_getElem hl,h];unfold Qq;rw[List.filter_append];cases hg:s.g with
 |true=>simp[hg]
 |false=>simp[hg]
theorem mem_drop {L:List Sl} {s:Sl}:s∈Qq L↔s∈L/\s.g=false:=by
 unfold Qq;rw[List.mem_filter];cases s.g<;>simp
theorem Px {L:List Sl} {f:V->Option Nat} (h:Idx L f) {i:Nat} {s:Sl} (hi:L[i]? =some s) (hg:s.g=true):
  Kn L f (i+1)=if Kn L f i s.k=some i then Mv (Kn L f i) s.k none else Kn L f i:=by
 have hd:Qq (L.take (i+1))=Qq (L.take i):=by rw[Z7 hi,hg];rfl
 have key:∀k,Kn L f (i+1) k=match (Qq (L.take i)).findIdx? (Sl.hit k) with|some j=>some j|none=>match f k with|some j=>if i+1<=j then some j else none|none=>none:=fun k=>by
  rw[<-hd];rfl
 have bound:∀k j,(Qq (L.take i)).findIdx? (Sl.hit k)=some j->j<i/\∃m t,m<i/\L[m]? =some t/\Sl.hit k t=true:=fun k j hj=>by
  obtain⟨h1,h2,_⟩:=List.findIdx?_eq_some_iff_getElem.1 hj;have h3:(Qq (L.take i)).length<=i:=Nat.le_trans (List.length_filter_le _ _) (by rw[List.length_take];omega);refine⟨by omega,?_⟩;have h4:=List.getElem_mem h1;obtain⟨h5,_⟩:=mem_drop.1 h4;obtain⟨m,hm⟩:=List.getElem?_of_mem h5;have h6:m<i:=by
   have:=(List.getElem?_eq_some_iff.1 hm).1;rw[List.length_take] at this;omega
  rw[List.getElem?_take_of_lt h6] at hm;exact⟨m,_,h6,hm,h2⟩
 have step:∀k,(f k=some i->(Qq (L.take i)).findIdx? (Sl.hit k)=none):=fun k hk=>by
  cases hx:(Qq (L.take i)).findIdx? (Sl.hit k) with
  |none=>rfl
  |some j=>
   obtain⟨_,m,t,h1,h2,h3⟩:=bound k j hx;obtain⟨h4,h5⟩:=hit_iff.1 h3;have:=h.live m t h2 h4;rw[h5,hk] at this;injection this with this;omega
 have fkey:∀k,f k=some i->k=s.k:=fun k hk=>by
  obtain⟨t,h1,h2⟩:=h.key k i hk;rw[hi] at h1;injection h1 with h1;rw[h1,h2]
 have same:∀k,f k≠some i->Kn L f (i+1) k=Kn L f i k:=fun k hk=>by
  rw[key];unfold Kn;cases(Qq (L.take i)).findIdx? (Sl.hit k) with
  |some j=>rfl
  |none=>
   show(match f k with|some j=>if i+1<=j then some j else none|none=>none)=(match f k with|some j=>if i<=j then some j else none|none=>none);cases hf:f k with
   |none=>rfl
   |some j=>
    have:j≠i:=fun e=>hk (by rw[hf,e]);show(if i+1<=j then some j else none)=(if i<=j then some j else none);by_cases hij:i<=j
    ·rw[if_pos hij,if_pos (by omega)]
    ·rw[if_neg hij,if_neg (by omega)]
 by_cases hc:f s.k=some i
 ·have h1:Kn L f i s.k=some i:=by
   unfold Kn;rw[step _ hc];show(match f s.k with|some j=>if i<=j then some j else none|none=>none)=_;rw[hc];exact if_pos (Nat.le_refl i)
  rw[if_pos h1]
  funext k
  by_cases hk:k=s.k
  ·subst hk;rw[JZ,key,step _ hc];show(match f s.k with|some j=>if i+1<=j then some j else none|none=>none)=_;rw[hc];exact if_neg (by omega)
  ·rw[Zx hk];exact same k (fun e=>hk (fkey k e))
 ·have h1:Kn L f i s.k≠some i:=by
   intro he;unfold Kn at he;cases hx:(Qq (L.take i)).findIdx? (Sl.hit s.k) with
   |some j=>
    rw[hx] at he;injection he with he;have:=(bound _ _ hx).1;omega
   |none=>
    rw[hx] at he;cases hf:f s.k with
    |none=>rw[hf] at he;cases he
    |some j=>
     rw[hf] at he;have he:(if i<=j then some j else none)=some i:=he;split at he
     ·injection he with he;subst he;exact hc hf
     ·cases he
  rw[if_neg h1]
  funext k
  exact same k (fun e=>hc (by rw[<-fkey k e];exact e))
theorem Cm {L:List Sl} {f:V->Option Nat} (h:Idx L f) {i:Nat} {s:Sl} (hi:L[i]? =some s) (hg:s.g=false):
  Kn L f (i+1)=Mv (Kn L f i) s.k (some (Qq (L.take i)).length):=by
 have hd:Qq (L.take (i+1))=Qq (L.take i)++[s]:=by rw[Z7 hi,hg];rfl
 have hfs:f s.k=some i:=h.live i s hi hg;have none_s:(Qq (L.take i)).findIdx? (Sl.hit s.k)=none:=by
  rw[List.findIdx?_eq_none_iff];intro t ht;cases hh:Sl.hit s.k t with
  |false=>rfl
  |true=>
   obtain⟨h5,_⟩:=mem_drop.1 ht;obtain⟨m,hm⟩:=List.getElem?_of_mem h5;have h6:m<i:=by
    have:=(List.getElem?_eq_some_iff.1 hm).1;rw[List.length_take] at this;omega
   rw[List.getElem?_take_of_lt h6] at hm;obtain⟨h3,h4⟩:=hit_iff.1 hh;have:=h.live m t hm h3;rw[h4,hfs] at this;injection this with this;omega
 funext k
 by_cases hk:k=s.k
 ·subst hk;rw[JZ];unfold Kn;rw[hd,List.findIdx?_append,none_s];have h1:Sl.hit s.k s=true:=hit_iff.2 ⟨hg,rfl⟩;simp[List.findIdx?_cons,h1]
 ·rw[Zx hk];unfold Kn;have h1:Sl.hit k s=false:=by
   cases hh:Sl.hit k s with
   |false=>rfl
   |true=>exact absurd (hit_iff.1 hh).2.symm hk
  rw[hd,List.findIdx?_append];have h2:[s].findIdx? (Sl.hit k)=none:=by simp[List.findIdx?_cons,h1]
  rw[h2];cases(Qq (L.take i)).findIdx? (Sl.hit k) with
  |some j=>rfl
  |none=>
   show(match f k with|some j=>if i+1<=j then some j else none|none=>none)=(match f k with|some j=>if i<=j then some j else none|none=>none);cases hf:f k with
   |none=>rfl
   |some j=>
    have:j≠i:=fun e=>by
     subst e;obtain⟨t,h3,h4⟩:=h.key k j hf;rw[hi] at h3;injection h3 with h3;subst h3;exact hk h4.symm
    show(if i+1<=j then some j else none)=(if i<=j then some j else none);by_cases hij:i<=j
    ·rw[if_pos hij,if_pos (by omega)]
    ·rw[if_neg hij,if_neg (by omega)]
theorem Idx.dropped {L:List Sl} {f:V->Option Nat} (h:Idx L f):Idx (Qq L) (Kn L f L.length):=by
 have hm:∀k,Kn L f L.length k=(Qq L).findIdx? (Sl.hit k):=fun k=>by
  unfold Kn;rw[List.take_length];cases(Qq L).findIdx? (Sl.hit k) with
  |some j=>rfl
  |none=>
   show(match f k with|some j=>if L.length<=j then some j else none|none=>none)=none;cases hf:f k with
   |none=>rfl
   |some j=>
    obtain⟨s,h1,_⟩:=h.key k j hf;have:=(List.getElem?_eq_some_iff.1 h1).1;exact if_neg (by omega)
 have uniq:∀(i j:Nat) (s t:Sl),L[i]? =some s->L[j]? =some t->s.g=false->t.g=false->s.k=t.k->i=j:=fun i j s t hi hj hs ht hk=>by
  have h1:=h.live i s hi hs;have h2:=h.live j t hj ht;rw[hk,h2] at h1;injection h1 with h1;exact h1.symm
 refine⟨fun i s hi hs=> ?_,fun k i hk=> ?_,fun i s hi hs=> ?_⟩
 ·rw[hm];have hl:i<(Qq L).length:=(List.getElem?_eq_some_iff.1 hi).1;have hs2:(Qq L)[i]=s:=by rw[List.getElem?_eq_getElem hl] at hi;injection hi
  rw[List.findIdx?_eq_some_iff_getElem];refine⟨hl,by rw[hs2];exact hit_iff.2 ⟨hs,rfl⟩,fun j hj hc=> ?_⟩;have hpw:(Qq L).Pairwise (fun a b=>a.k≠b.k):=by
   have:L.Pairwise (fun a b=>a.g=false->b.g=false->a.k≠b.k):=by
    rw[List.pairwise_iff_getElem];intro a b ha hb hab h1 h2 h3;have:=uniq a b L[a] L[b] (List.getElem?_eq_getElem ha) (List.getElem?_eq_getElem hb) h1 h2 h3;omega
   have h2:=this.filter (fun s=> !s.g);refine h2.imp_of_mem ?_;intro a b ha hb hab;exact hab (mem_drop.1 ha).2 (mem_drop.1 hb).2
  have:=(List.pairwise_iff_getElem.1 hpw) j i (by omega) hl hj;rw[hs2] at this;exact this (hit_iff.1 hc).2
 ·rw[hm] at hk;obtain⟨h1,h2,_⟩:=List.findIdx?_eq_some_iff_getElem.1 hk;exact⟨_,List.getElem?_eq_getElem h1,(hit_iff.1 h2).2⟩
 ·have:=(mem_drop.1 (List.mem_of_getElem? hi)).2;rw[this] at hs;cases hs
theorem Idx.noLive_drop {L:List Sl} {f:V->Option Nat} (h:Idx L f) {k:V} (hk:NoLive L f k):NoLive (Qq L) (Kn L f L.length) k:=by
 refine .inl ?_;cases hc:Kn L f L.length k with
 |none=>rfl
 |some i=>
  obtain⟨s,h1,h2⟩:=h.dropped.key k i hc;have h3:=mem_drop.1 (List.mem_of_getElem? h1);have:=h.noLive hk s h3.1;rw[hit_iff.2 ⟨h3.2,h2⟩] at this;cases this
end Go.Proofs.YthkpckgcgkijbaaGreatDoor
namespace Go.Proofs.YthkpckgcgkijbaaGreatDoor
open Go.RowKit Go.Proofs.Lexi Go.Proofs.Tryz
def ZP (s:Sl):List Value:=[.int .i64 s.k.k,.int .i64 s.k.p,.int .i64 s.k.q,.string s.k.s,.int .i64 s.k.r,.int .i64 s.v.k,.int .i64 s.v.p,.int .i64 s.v.q,.string s.v.s,.int .i64 s.v.r,.bool s.g]
def ZA (L:List Sl):List Value:=L.flatMap ZP
theorem JP (s:Sl):(ZP s).length=11:=rfl
theorem XS (L:List Sl):(ZA L).length=L.length*11:=by
 induction L with
 |nil=>rfl
 |cons s L ih=>show(ZP s++ZA L).length=_;rw[List.length_append,JP,ih,List.length_cons];omega
theorem Qk:∀(L:List Sl) (i j:Nat) (s:Sl),L[i]? =some s->j<11->(ZA L)[i*11+j]? =(ZP s)[j]?
 |[],i,j,s,h,_=>by simp at h
 |x::L,0,j,s,h,hj=>by
  rw[List.getElem?_cons_zero] at h;injection h with h;subst h;show(ZP x++ZA L)[0*11+j]? =_;rw[List.getElem?_append_left (by rw[JP];omega)]
  congr 1
  omega
 |x::L,i+1,j,s,h,hj=>by
  rw[List.getElem?_cons_succ] at h;show(ZP x++ZA L)[(i+1)*11+j]? =_;rw[List.getElem?_append_right (by rw[JP];omega),JP,show(i+1)*11+j-11=i*11+j by omega];exact Qk L i j s h hj
def Graph (E:List (Value×Value)) (f:V->Option Nat):Prop:=∀p,p∈E↔∃v n,p=(v.v,.int .i64 (n:Nat))/\f v=some n
theorem V.v_inj {a b:V} (h:a.v=b.v):a=b:=by
 obtain⟨k,p,q,s,r⟩:=a;obtain⟨k2,p2,q2,s2,r2⟩:=b;simp only[V.v,V.cells,Value.agg.injEq,Array.mk.injEq,List.cons.injEq,Value.int.injEq,Value.string.injEq,true_and,and_true] at h;obtain⟨h1,h2,h3,h4,h5⟩:=h;subst h1 h2 h3 h4 h5;rfl
structure OMap (w:World) (m g:Nat) (sv:Value) (L:List Sl):Prop where
 hm:w.heap[m]? =some (.cells #[sv,.map (some g),.int .i64 (Q1 L:Nat)] 159)
 row:w.ownsRow 0 161 11 sv L.length (ZA L)
 wf:∀s∈L,WfV s.k/\WfV s.v
 map:∃E f,MapAt prog 25 w g E/\Graph E f/\Idx L f
theorem OMap.keep {w w':World} {m g:Nat} {sv:Value} {L:List Sl} (h:OMap w m g sv L) (h1:w'.heap[m]? =w.heap[m]?) (h2:w'.heap[g]? =w.heap[g]?) (h3:∀b,sv.ownBlock=some b->w'.heap[b]? =w.heap[b]?):OMap w' m g sv L:=by
 obtain⟨a,b,wf,E,f,c,d,e⟩:=h;exact⟨h1.trans a,Qb b h3,wf,E,f,c.keep h2,d,e⟩
theorem Ya {w:World} {g:Nat} {E:List (Value×Value)} {f:V->Option Nat} (hE:MapAt prog 25 w g E) (hG:Graph E f) {k:V} (hk:WfV k) (W:World) (hW:W.heap[g]? =w.heap[g]?):
  (f k=none/\(Instr.lookup 157 (.map (some g)) k.v true).run prog W= .ok (.tuple #[.int .i64 0,.bool false]) W)\/
  ∃n:Nat,f k=some n/\(Instr.lookup 157 (.map (some g)) k.v true).run prog W= .ok (.tuple #[.int .i64 (n:Int),.bool true]) W:=by
 obtain⟨l,hl⟩:=Rg hk;have hz:(zeroValue 3).run prog W= .ok (.int .i64 0) W:=zeroValue3 W;rcases(hE.keep hW).look Py (e:=3) (t:=157) (by kernel_rfl) hz hl with⟨h1,h2⟩|⟨v,h1,h2⟩
 ·refine .inl ⟨?_,h2 true⟩;cases hf:f k with
  |none=>rfl
  |some n=>exact absurd rfl (h1 _ ((hG _).2 ⟨k,n,rfl,hf⟩))
 ·obtain⟨v2,n,h3,h4⟩:=(hG _).1 h1;simp only[Prod.mk.injEq] at h3;obtain⟨h5,rfl⟩:=h3;have:=V.v_inj h5;subst this;exact .inr ⟨n,h4,h2 true⟩
theorem Qm (w:World) (o1 o2:Obj):((w.alloc o1).alloc o2).heap[w.heap.size]? =some o1:=by
 rw[Below.heap_alloc _ _ _ (by simp),Qg]
theorem QY (w:World) (o1 o2:Obj):((w.alloc o1).alloc o2).heap[w.heap.size+1]? =some o2:=by
 have:=Qg (w.alloc o1) o2;simpa using this
theorem Qs {w:World} {b:Nat} {o:Obj} (h:w.heap[b]? =some o) (o1 o2:Obj):((w.alloc o1).alloc o2).heap[b]? =some o:=QL (QE w o1 o2) h
theorem Ym {w:World} {base g cap n size:Nat} {e:TypeId} {xs:List Value} (h:w.ownsRow base e size (.slice (some g) n cap) n xs) (j:Nat) (u:Value):
  (w.setCell ⟨g,j,none⟩ u).ownsRow base e size (.slice (some g) n cap) n (xs.set j u):=by
 obtain⟨h1,h2⟩:=h;refine⟨by rw[List.length_set];exact h1,?_⟩;rcases h2 with⟨h2,_⟩|⟨g',cap',cur,h2,h3,h4,h5,h6,h7,h8⟩
 ·cases h2
 ·simp only[Value.slice.injEq,Option.some.injEq,Addr.mk.injEq,true_and,and_true] at h2;obtain⟨rfl,rfl⟩:=h2;refine .inr ⟨g,cap,cur.setIfInBounds j u,rfl,h3,Ql h4 j u,h5,h6,by rw[Array.size_setIfInBounds];exact h7,?_⟩;rw[Array.toList_setIfInBounds,List.take_set,h8]
def YP (xs:List Value) (o:Nat):List Value->List Value
 |[]=>xs
 |v::vs=>YP (xs.set o v) (o+1) vs
theorem Gq:∀(vs xs:List Value) (o j:Nat),o+vs.length<=xs.length->(YP xs o vs)[j]? =if o<=j/\j<o+vs.length then vs[j-o]? else xs[j]?
 |[],xs,o,j,_=>by
  show xs[j]? =_;rw[if_neg];rintro⟨h1,h2⟩;simp at h2;omega
 |v::vs,xs,o,j,h=>by
  rw[List.length_cons] at h;show(YP (xs.set o v) (o+1) vs)[j]? =_;rw[Gq vs _ _ j (by rw[List.length_set];omega),List.length_cons];by_cases h1:o+1<=j/\j<o+1+vs.length
  ·rw[if_pos h1,if_pos (by omega),show j-o=(j-(o+1))+1 by omega,List.getElem?_cons_succ]
  ·rw[if_neg h1,List.getElem?_set];by_cases h2:o=j
   ·subst h2;rw[if_pos rfl,if_pos (by omega),if_pos (by omega),Nat.sub_self];rfl
   ·rw[if_neg h2,if_neg (by omega)]
theorem Gs (L:List Sl) (a b:Nat) (hb:b<11):(ZA L)[a*11+b]? =(L[a]?).bind fun s=>(ZP s)[b]? :=by
 cases h:L[a]? with
 |some s=>rw[Qk L a b s h hb];rfl
 |none=>
  have:=List.getElem?_eq_none_iff.1 h;rw[List.getElem?_eq_none_iff.2 (by rw[XS];omega)];rfl
theorem XR {L:List Sl} {i:Nat} (hi:i<L.length) (s':Sl):YP (ZA L) (i*11) (ZP s')=ZA (L.set i s'):=by
 apply List.ext_getElem?;intro j;obtain⟨a,b,hb,rfl⟩:∃a b,b<11/\j=a*11+b:=⟨j/11,j%11,by omega,by omega⟩
 rw[Gq _ _ _ _ (by rw[JP,XS];omega),Gs _ _ _ hb,Gs _ _ _ hb,JP,List.getElem?_set];by_cases h:i=a
 ·subst h;rw[if_pos (by omega),if_pos rfl,if_pos hi,show i*11+b-i*11=b by omega];rfl
 ·rw[if_neg (by omega),if_neg h]
def ZC (v:V):List Value:=[.int .i64 v.k,.int .i64 v.p,.int .i64 v.q,.string v.s,.int .i64 v.r]
theorem Yj {L:List Sl} {i:Nat} {sl:Sl} (hs:L[i]? =some sl) (v:V):YP (ZA L) (i*11+5) (ZC v)=ZA (L.set i ⟨sl.k,v,sl.g⟩):=by
 have hi:i<L.length:=(List.getElem?_eq_some_iff.1 hs).1;apply List.ext_getElem?;intro j;obtain⟨a,b,hb,rfl⟩:∃a b,b<11/\j=a*11+b:=⟨j/11,j%11,by omega,by omega⟩
 have hl:(ZC v).length=5:=rfl;rw[Gq _ _ _ _ (by rw[hl,XS];omega),Gs _ _ _ hb,Gs _ _ _ hb,hl,List.getElem?_set];by_cases h:i=a
 ·subst h;rw[if_pos rfl,if_pos hi,hs];have hb2:b=0\/b=1\/b=2\/b=3\/b=4\/b=5\/b=6\/b=7\/b=8\/b=9\/b=10:=by omega
  rcases hb2 with rfl|rfl|rfl|rfl|rfl|rfl|rfl|rfl|rfl|rfl|rfl;all_goals
   first
   |(rw[if_neg (by omega)];rfl)
   |(rw[if_pos (by omega)];rw[show i*11+5-(i*11+5)=0 by omega];rfl)
   |(rw[if_pos (by omega)];rw[show i*11+6-(i*11+5)=1 by omega];rfl)
   |(rw[if_pos (by omega)];rw[show i*11+7-(i*11+5)=2 by omega];rfl)
   |(rw[if_pos (by omega)];rw[show i*11+8-(i*11+5)=3 by omega];rfl)
   |(rw[if_pos (by omega)];rw[show i*11+9-(i*11+5)=4 by omega];rfl)
 ·rw[if_neg (by omega),if_neg h]
def setCells (w:World) (g:Nat) (o:Nat):List Value->World
 |[]=>w
 |v::vs=>setCells (w.setCell ⟨g,o,none⟩ v) g (o+1) vs
theorem ZG {base g cap n size:Nat} {e:TypeId}:∀(vs:List Value) (w:World) (xs:List Value) (o:Nat),w.ownsRow base e size (.slice (some g) n cap) n xs->
  (setCells w g o vs).ownsRow base e size (.slice (some g) n cap) n (YP xs o vs)
 |[],_,_,_,h=>h
 |v::vs,w,xs,o,h=>ZG vs _ _ _ (Ym h o v)
theorem ZS {g b:Nat} (hb:b≠g):∀(vs:List Value) (w:World) (o:Nat),(setCells w g o vs).heap[b]? =w.heap[b]?
 |[],_,_=>rfl
 |v::vs,w,o=>(ZS hb vs _ _).trans (Below.heap_setCell _ _ _ _ hb)
theorem QQ {F:Nat->Prop} {a w:World} (h:Mods F a w) {b o:Nat} (hb:F b\/a<=b) (u:Value):Mods F a (w.setCell ⟨b,o,none⟩ u):=
 ⟨h.os,h.tape,h.output,by simpa using h.size,fun k hk hF=>by
  rw[Below.heap_setCell _ _ _ _ (show k≠b from fun e=>by subst e;rcases hb with hb|hb;exact hF hb;omega)];exact h.block k hk hF⟩
theorem Zd {F:Nat->Prop} {a:World} {g:Nat} (hg:F g\/a<=g):∀(vs:List Value) (w:World) (o:Nat),Mods F a w->Mods F a (setCells w g o vs)
 |[],_,_,h=>h
 |_::vs,_,_,h=>Zd hg vs _ _ (QQ h hg _)
theorem ZH {g:Nat}:∀(vs:List Value) (w:World) (o:Nat),w.setCells g o vs=setCells w g o vs
 |[],_,_=>rfl
 |v::vs,w,o=>ZH vs _ _
theorem JF {w:World} {base g cap n size:Nat} {e:TypeId} {xs:List Value} (h:w.ownsRow base e size (.slice (some g) n cap) n xs) (o k:Nat) (hk:o+k<=n*size):w.there g o k:=fun j hj=>by
 refine⟨?_,?_⟩
 ·rw[h.cellAt (o+j) (by omega),List.getElem?_eq_getElem (by rw[h.1];omega)];rfl
 ·rcases h.2 with⟨h2,_⟩|⟨g',cap',cur,h2,h3,h4,_⟩
  ·cases h2
  ·simp only[Value.slice.injEq,Option.some.injEq,Addr.mk.injEq,true_and,and_true] at h2;obtain⟨rfl,_⟩:=h2;simp[World.frozen?,h4]
def OmF (m g:Nat) (sv:Value) (b:Nat):Prop:=b=m\/b=g\/sv.ownBlock=some b
def OmPost (w:World) (m g:Nat) (sv:Value) (L':List Sl) (e:Ending) (w':World):Prop:=
 e= .returned (.int .i64 0)/\∃sv',OMap w' m g sv' L'/\Mods (OmF m g sv) w w'/\∀b,sv'.ownBlock=some b->sv.ownBlock=some b\/w.heap.size<=b
theorem Ay {w:World} {g:Nat} {E:List (Value×Value)} {f:V->Option Nat} (hE:MapAt prog 25 w g E) (hG:Graph E f) {k p q:Int} {s:ByteArray} {r:Int} (hk:WfV ⟨k,p,q,s,r⟩):
  (f ⟨k,p,q,s,r⟩=none/\∀W,W.heap[g]? =w.heap[g]? ->(Instr.lookup 157 (.map (some g)) (.agg #[k,p,q,s,r]) true).run prog W= .ok (.tuple #[.int .i64 0,.bool false]) W)\/
   ∃n:Nat,f ⟨k,p,q,s,r⟩=some n/\∀W,W.heap[g]? =w.heap[g]? ->(Instr.lookup 157 (.map (some g)) (.agg #[k,p,q,s,r]) true).run prog W= .ok (.tuple #[.int .i64 (n:Int),.bool true]) W:=by
 rcases Ya hE hG hk w rfl with⟨h1,_⟩|⟨n,h1,_⟩
 ·refine .inl ⟨h1,fun W hW=> ?_⟩;rcases Ya hE hG hk W hW with⟨_,h2⟩|⟨n,h2,_⟩
  ·exact h2
  ·rw[h1] at h2;cases h2
 ·refine .inr ⟨n,h1,fun W hW=> ?_⟩;rcases Ya hE hG hk W hW with⟨h2,_⟩|⟨n2,h2,h3⟩
  ·rw[h1] at h2;cases h2
  ·rw[h1] at h2;injection h2 with h2;subst h2;exact h3
theorem bw {w W:World} (h:Below w w W) {b:Nat} (hb:b<w):W.heap[b]? =w.heap[b]? :=h.block b hb
theorem Sh:(prog.info? 161).map (·.size)=some 11:=by kernel_rfl
theorem mrb {w:World} {m rb cap n size base:Nat} {cs:Array Value} {xs:List Value} (hm:w.heap[m]? =some (.cells cs 159 (0,0))) (h:w.ownsRow base 161 size (.slice (some rb) n cap) n xs) (e:m=rb):False:=by
 subst e;rcases h.2 with⟨h2,_⟩|⟨g',cap',cur,h2,h3,h4,_⟩
 ·cases h2
 ·simp only[Value.slice.injEq,Option.some.injEq,Addr.mk.injEq,true_and,and_true] at h2;obtain⟨rfl,_⟩:=h2;rw[hm] at h4;injection h4 with h4;injection h4 with h5 h6;cases h6
theorem Uj:(prog.info? 25).map (·.size)=some 5:=by kernel_rfl
theorem No {w:World} {base g cap n size:Nat} {e:TypeId} {xs:List Value} (h:w.ownsRow base e size (.slice (some g) n cap) n xs) (j:Nat):w.frozen? ⟨g,j,none⟩=false:=by
 rcases h.2 with⟨h2,_⟩|⟨g',cap',cur,h2,h3,h4,_⟩
 ·cases h2
 ·simp only[Value.slice.injEq,Option.some.injEq,Addr.mk.injEq,true_and,and_true] at h2;obtain⟨rfl,_⟩:=h2;exact QB h4 j
end Go.Proofs.YthkpckgcgkijbaaGreatDoor
namespace Go.Proofs.YthkpckgcgkijbaaGreatDoor
open Go.Proofs.Tryz
def WorldOk (T D F:Int) (n:Nat):Prop:=0<=T/\T<=20/\0<=D/\D<=20/\0<=F/\F<=20/\n<=60
instance {T D F:Int} {n:Nat}:Decidable (WorldOk T D F n):=by unfold WorldOk;infer_instance
end Go.Proofs.YthkpckgcgkijbaaGreatDoor
