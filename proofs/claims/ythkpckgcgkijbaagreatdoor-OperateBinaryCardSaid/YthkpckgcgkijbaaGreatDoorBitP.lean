import Derived.Test.YthkpckgcgkijbaaGreatDoorLexA
import Derived.Laws.BitsLemmas
import Derived.Laws.Bits64
import Derived.Maps.OwnSet
import Derived.DeepKeys3
import Derived.Laws.IdiomStrings
import Derived.OwnWalk
import Derived.Laws.OwnMore
import Derived.Lib.SmallJoins
import Derived.Deep.MidRow
set_option linter.unusedVariables false
set_option linter.unusedSimpArgs false
namespace Go.Proofs.YthkpckgcgkijbaaGreatDoor
open Go.RowKit Go.Proofs.Tryz
def Z4 (u:Nat) (n:Int):Nat:=if 32<=n\/n<= -32 then 0 else if 0<=n then u*2^n.toNat%4294967296 else u/2^(-n).toNat
def Yq (o:Int) (u v:Nat) (n:Int):Nat:=if o=9 then u &&& v else if o=10 then u ||| v else if o=11 then u ^^^ v else if o=12 then Z4 u n else if o=13 then Z4 u (-n) else u ^^^ 4294967295
def Zf (r:Nat):Int:=if 2147483648<=r then(r:Int)-4294967296 else r
theorem US {k:IntKind} (hk:k= .i64\/k= .u32) (n:Int) (h0:0<=n) (h1:n<2^32):k.wrap n=n:=by
 have e:(2:Int)^32=4294967296:=by decide
 rw[e] at h1;rcases hk with rfl|rfl
 ·rw[IntKind.wrap_i64];omega
 ·rw[IntKind.wrap_u32];omega
theorem Jn {k:IntKind} (hk:k= .i64\/k= .u32) (u v:Nat) (hu:u<=4294967295) (hv:v<=4294967295):
  bits .and k u v=((u &&& v:Nat):Int)/\bits .or k u v=((u ||| v:Nat):Int)/\bits .xor k u v=((u ^^^ v:Nat):Int):=by
 have e:(2:Nat)^32=4294967296:=by decide
 have h:=bits_nat k 32 (by rcases hk with rfl|rfl<;>decide) (fun n h0 h1=>US hk n h0 h1) u v (by omega) (by omega);refine⟨h.1,h.2,?_⟩;have hx:u ^^^ v<2^32:=Nat.xor_lt_two_pow (by omega) (by omega);have one:∀a:Nat,a<=4294967295->(BitVec.ofInt k.bits (a:Int)).toNat=a:=fun a ha=>by
  rw[BitVec.toNat_ofInt];rcases hk with rfl|rfl
  ·show((a:Int)%((2^64:Nat):Int)).toNat=a;have:((2^64:Nat):Int)=18446744073709551616:=by decide
   rw[this];omega
  ·show((a:Int)%((2^32:Nat):Int)).toNat=a;have:((2^32:Nat):Int)=4294967296:=by decide
   rw[this];omega
 show k.wrap ((BitVec.ofInt k.bits (u:Int) ^^^ BitVec.ofInt k.bits (v:Int)).toNat:Int)=_;rw[BitVec.toNat_xor,one u hu,one v hv];exact US hk _ (by omega) (by rw[show(2:Int)^32=4294967296 by decide];omega)
theorem DK {u:Nat} (hu:u<=4294967295) (n:Int):Z4 u n<=4294967295:=by
 unfold Z4;split
 ·omega
 ·split
  ·omega
  ·have:=Nat.div_le_self u (2^(-n).toNat);omega
theorem K3 {u v:Nat} (hu:u<=4294967295) (hv:v<=4294967295) (o n:Int):Yq o u v n<=4294967295:=by
 have e:(2:Nat)^32=4294967296:=by decide
 have h1:u &&& v<2^32:=Nat.and_lt_two_pow _ (by omega);have h2:u ||| v<2^32:=Nat.or_lt_two_pow (by omega) (by omega);have h3:u ^^^ v<2^32:=Nat.xor_lt_two_pow (by omega) (by omega);have h4:u ^^^ 4294967295<2^32:=Nat.xor_lt_two_pow (by omega) (by omega);have h5:=DK hu n;have h6:=DK hu (-n);unfold Yq
 repeat' split
 all_goals omega
end Go.Proofs.YthkpckgcgkijbaaGreatDoor
namespace Go.Proofs.YthkpckgcgkijbaaGreatDoor
open Go.RowKit Go.Proofs.Lexi Go.Proofs.Tryz
def K0 (o:Int):Bool:=decide (9<=o/\o<=13)||decide (o=23)
def GR (o:Int) (b:N2):N2:=if o=23 then(0,1) else b
def KS (n:Int):Nat:=(n%4294967296).toNat
def XG (o:Int) (a b:N2):RR:=if a.2=1/\b.2=1 then Jk (Zf (Yq o (KS a.1) (KS b.1) b.1)) else .error 8
def JU (o:Int) (a b:N2):RR:=if K0 o&&QT a&&QT (GR o b) then XG o a (GR o b) else .error 2
theorem Z1 (n:Int):KS n<=4294967295:=by unfold KS;omega
theorem Z2 (n:Int):n%4294967296=(KS n:Int):=by unfold KS;omega
theorem P6 {o:Int} {a b:N2} (h:K0 o=false):JU o a b= .error 2:=by unfold JU;rw[h];rfl
theorem JL {o:Int} {a b:N2} (h:K0 o=true):JU o a b=if QT a&&QT (GR o b) then XG o a (GR o b) else .error 2:=by unfold JU;rw[h];rfl
theorem Jb {o:Int} {a b:N2} (h1:a.2=1) (h2:b.2=1):XG o a b=Jk (Zf (Yq o (KS a.1) (KS b.1) b.1)):=by unfold XG;rw[if_pos ⟨h1,h2⟩]
theorem J7 {o:Int} {a b:N2} (h:a.2≠1\/b.2≠1):XG o a b= .error 8:=by unfold XG;rw[if_neg];omega
theorem Sc {u:Nat} (hu:u<=4294967295):bits .xor .u32 IntKind.u32.max (u:Int)=((u ^^^ 4294967295:Nat):Int):=by
 have e:IntKind.u32.max=((4294967295:Nat):Int):=by decide
 rw[e,(Jn (k:= .u32) (.inr rfl) 4294967295 u (by omega) hu).2.2,Nat.xor_comm]
theorem JO {r:Nat} (h:r<=4294967295):wrap64 (wrap32 (r:Int))=Zf r:=by
 unfold wrap64 wrap32 Zf;split<;>omega
theorem Z0 {c0 c1 c2 c3 c4 c5 c6 c7 c8 c9 p:Prop} (h:c0/\c1/\c2/\c3/\c4/\c5/\c6/\c7/\c8/\c9/\Hid p):p:=h.2.2.2.2.2.2.2.2.2.2.out
end Go.Proofs.YthkpckgcgkijbaaGreatDoor
