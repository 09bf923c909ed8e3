import Derived.Test.YthkpckgcgkijbaaGreatDoorBitP
import Derived.Test.YthkpckgcgkijbaaGreatDoorRows
import Derived.Test.YthkpckgcgkijbaaGreatDoorChecked
import Derived.ChangeSame
import Derived.ProofKit
import Derived.LaidMore
import Derived.OpenShut
import Derived.Stop.Joined
import Derived.Lib.LaidTab
import Derived.Handed
import Derived.Lay
import Derived.Carry
import Derived.SevenTiedAt
import Derived.ChangeMaps5
set_option linter.unusedVariables false
set_option linter.unusedSimpArgs false
set_option maxRecDepth 100000
namespace Go.Proofs.YthkpckgcgkijbaaGreatDoor
open Go.RowKit Go.Proofs.Lexi
theorem toList_bytes (s t:ByteArray):(s.toList=t.toList)=(zAE s=zAE t):=by
 rw[ByteArray.toList_eq,ByteArray.toList_eq]
 refine propext ⟨fun h=> ?_,fun h=> ?_⟩
 ·unfold zAE;rw[h]
 ·exact nats_inj _ _ h
def ValPost (w:World) (v:V) (e:Ending) (w':World):Prop:=e= .returned v.v∧Below w.heap.size w w'
theorem zAH {B:Nat} {a w:World} (h:Below B a w) {b:Nat} (hb:B≤b) (x y z u v:Value):Below B a (((((w.setCell ⟨b,0,none⟩ x).setCell ⟨b,1,none⟩ y).setCell ⟨b,2,none⟩ z).setCell ⟨b,3,none⟩ u).setCell ⟨b,4,none⟩ v):=
 ((((h.setCell (p:=⟨b,0,none⟩) hb x).setCell (p:=⟨b,1,none⟩) hb y).setCell (p:=⟨b,2,none⟩) hb z).setCell (p:=⟨b,3,none⟩) hb u).setCell (p:=⟨b,4,none⟩) hb v
theorem zAo {w w':World} {v:V} {k p q r:Int} {s:ByteArray} (h:v=⟨k,p,q,s,r⟩) (hb:Below w.heap.size w w'):ValPost w v (.returned (.agg #[k,p,q,s,r])) w':=by subst h;exact⟨rfl,hb⟩
abbrev SR:=Except Nat ByteArray
def sS:SR→ByteArray
 | .ok s=>s
 | .error _=>⟨#[]⟩
def sE:SR→Nat
 | .ok _=>0
 | .error c=>c
def strOf (v:V):SR:=if v.k=3 then .ok v.s else if v.k=2 then(if zAT v.num then .ok (textB v.num) else .error 8) else .error 8
def SrPost (w:World) (R:SR) (e:Ending) (w':World):Prop:=e= .returned (.tuple #[.string (sS R),.int .i64 (sE R:Nat)])∧Below w.heap.size w w'
theorem sr_ok {w w':World} {R:SR} {s:ByteArray} (h:R= .ok s) (hb:Below w.heap.size w w'):SrPost w R (.returned (.tuple #[.string s,.int .i64 0])) w':=by subst h;exact⟨rfl,hb⟩
theorem sr_err {w w':World} {R:SR} {c:Nat} (h:R= .error c) (hb:Below w.heap.size w w'):SrPost w R (.returned (.tuple #[.string ⟨#[]⟩,.int .i64 (c:Int)])) w':=by subst h;exact⟨rfl,hb⟩
abbrev BR:=Except Nat Bool
def bB:BR→Bool
 | .ok b=>b
 | .error _=>false
def bE:BR→Nat
 | .ok _=>0
 | .error c=>c
def BrPost (w:World) (R:BR) (e:Ending) (w':World):Prop:=e= .returned (.tuple #[.bool (bB R),.int .i64 (bE R:Nat)])∧Below w.heap.size w w'
theorem br_ok {w w':World} {R:BR} {b:Bool} (h:R= .ok b) (hb:Below w.heap.size w w'):BrPost w R (.returned (.tuple #[.bool b,.int .i64 0])) w':=by subst h;exact⟨rfl,hb⟩
theorem br_err {w w':World} {R:BR} {c:Nat} (h:R= .error c) (hb:Below w.heap.size w w'):BrPost w R (.returned (.tuple #[.bool false,.int .i64 (c:Int)])) w':=by subst h;exact⟨rfl,hb⟩
def beforeL:List Nat→List Nat→Bool
 |_,[]=>false
 |[],_::_=>true
 |a::l,b::m=>if a=b then beforeL l m else decide (a<b)
def beforeB (a b:ByteArray):Bool:=beforeL (zAE a) (zAE b)
def lessOf (a b:V):BR:=
 if a.k=2∧b.k=2 then(if zAT a.num&&zAT b.num then .ok (decide (cmpN a.num b.num<0)) else .error 8)
 else if a.k=3∧b.k=3 then .ok (beforeB a.s b.s) else .error 8
theorem before_list:∀a b:List UInt8,beforeL (a.map UInt8.toNat) (b.map UInt8.toNat)=Op.bytesLess a b
 |a,[]=>by cases a<;>rfl
 |[],_::_=>rfl
 |x::a,y::b=>by
  have ih:=before_list a b
  rw[List.map_cons,List.map_cons]
  show(if x.toNat=y.toNat then _ else _)=_
  rw[ih]
  show _=(decide (x<y)||(x==y&&Op.bytesLess a b))
  by_cases h:x=y
  ·subst h;simp
  ·have h2:x.toNat≠y.toNat:=fun e=>h (UInt8.toNat_inj.1 e)
   rw[if_neg h2]
   simp[h,UInt8.lt_iff_toNat_lt]
theorem before_less (s t:ByteArray):beforeB s t=Op.bytesLess s.toList t.toList:=by
 unfold beforeB zAE
 rw[before_list,ByteArray.toList_eq,ByteArray.toList_eq]
def powFix:RR→RR
 | .ok a=> .ok a
 | .error c=> .error (if c=2 then 6 else c)
def arithN (o:Int) (x y:N2):RR:=
 if o=1 then addN x y else if o=2 then subN x y else if o=3 then mulN x y else if o=4 then divN x y else if o=5 then quotN x y
 else if o=6 then modN x y else if o=7 then powFix (powN x y) else if o=20 then negN x else bitsN o x y
theorem pow_ways (M:RR):(M= .error 2∧((((nE M:Nat):Int))==2)=true)∨(powFix M=M∧((((nE M:Nat):Int))==2)=false):=by
 cases M with
 |ok a=>exact .inr ⟨rfl,rfl⟩
 |error c=>
  by_cases h:c=2
  ·subst h;exact .inl ⟨rfl,rfl⟩
  ·refine .inr ⟨?_,?_⟩
   ·show Except.error (if c=2 then 6 else c)=_;rw[if_neg h]
   ·rw[beq_eq_false_iff_ne];show(c:Int)≠2;omega
theorem zBk {w w':World} {R M:RR} (h:R=M) (hb:Below w.heap.size w w'):NumPost w R (.returned (.tuple #[.agg #[.int .i64 (nP M),.int .i64 (nQ M)],.int .i64 (nE M:Nat)])) w':=by subst h;exact zAu hb
def vV:VR→V
 | .ok v=>v
 | .error _=>V.nil
def vE:VR→Nat
 | .ok _=>0
 | .error c=>c
def VrPost (w:World) (R:VR) (e:Ending) (w':World):Prop:=e= .returned (.tuple #[.agg #[.int .i64 (vV R).k,.int .i64 (vV R).p,.int .i64 (vV R).q,.string (vV R).s,.int .i64 (vV R).r],.int .i64 (vE R:Nat)])∧Below w.heap.size w w'
theorem vr_ok {w w':World} {R:VR} {k p q r:Int} {s:ByteArray} {v:V} (h:R= .ok v) (hk:v=⟨k,p,q,s,r⟩) (hb:Below w.heap.size w w'):VrPost w R (.returned (.tuple #[.agg #[k,p,q,s,r],.int .i64 0])) w':=by subst h hk;exact⟨rfl,hb⟩
theorem zBM {w w':World} {R:VR} {c:Nat} (h:R= .error c) (hb:Below w.heap.size w w'):VrPost w R (.returned (.tuple #[.agg #[.int .i64 0,.int .i64 0,.int .i64 0,.string ⟨#[]⟩,.int .i64 0],.int .i64 (c:Int)])) w':=by subst h;exact⟨rfl,hb⟩
theorem zAB {w:World} {b:Nat} {cs:Array Value} {t:TypeId} (h:w.heap[b]? =some (.cells cs t (0,0))) (o:Nat):w.frozen? ⟨b,o,none⟩=false:=by simp[World.frozen?,h]
theorem zAh (w:World) (o1 o2 o3:Obj):(((w.alloc o1).alloc o2).alloc o3).heap[w.heap.size]? =some o1:=by
 rw[Below.heap_alloc _ _ _ (by simp;omega),Below.heap_alloc _ _ _ (by simp),zAg]
theorem zAY (w:World) (o1 o2 o3:Obj):(((w.alloc o1).alloc o2).alloc o3).heap[w.heap.size+1]? =some o2:=by
 rw[Below.heap_alloc _ _ _ (by simp)]
 have:=zAg (w.alloc o1) o2
 simpa using this
theorem zAX (w:World) (o1 o2 o3:Obj):(((w.alloc o1).alloc o2).alloc o3).heap[w.heap.size+1+1]? =some o3:=by
 have:=zAg ((w.alloc o1).alloc o2) o3
 simpa using this
theorem hkeep {w w':World} (hb:Below w.heap.size w w') {b:Nat} {o:Obj} (h:w.heap[b]? =some o):w'.heap[b]? =some o:=(hb.block b (Array.getElem?_eq_some_iff.1 h).1).trans h
theorem hkh {w w':World} (hb:Below w.heap.size w w') {b:Nat} {o:Obj} (h:w.heap[b]? =some o):Hid (w'.heap[b]? =some o):=hkeep hb h
abbrev oV (k p q:Int) (s:ByteArray) (r:Int):Obj:= .cells #[k,p,q,s,r] 25
def concatV (A B:SR):VR:=match A,B with
 | .ok s,.ok t=>if 4096<s.size+t.size then .error 14 else .ok (strV (s++t))
 |_,_=> .error 8
theorem concat_ways (A B:SR) (hA:sE A≤8):(((((sE A:Nat):Int)) !=0)=true∧concatV A B= .error 8)∨(((((sE A:Nat):Int)) !=0)=false∧((((sE B:Nat):Int)) !=0)=true∧concatV A B= .error 8)∨
  (((((sE A:Nat):Int)) !=0)=false∧((((sE B:Nat):Int)) !=0)=false∧4096<(sS A).size+(sS B).size∧concatV A B= .error 14)∨
  (((((sE A:Nat):Int)) !=0)=false∧((((sE B:Nat):Int)) !=0)=false∧¬4096<(sS A).size+(sS B).size∧concatV A B= .ok (strV (sS A++sS B)))∨(A= .error 0∨B= .error 0):=by
 have ne:∀c:Nat,c≠0→(((c:Nat):Int) !=0)=true:=fun c h=>by rw[bne_iff_ne];omega
 cases A with
 |error c=>
  by_cases h:c=0
  ·subst h;exact .inr (.inr (.inr (.inr (.inl rfl))))
  ·exact .inl ⟨ne c h,by cases B<;>rfl⟩
 |ok s=>
  cases B with
  |error c=>
   by_cases h:c=0
   ·subst h;exact .inr (.inr (.inr (.inr (.inr rfl))))
   ·exact .inr (.inl ⟨rfl,ne c h,rfl⟩)
  |ok t=>
   by_cases h:4096<s.size+t.size
   ·exact .inr (.inr (.inl ⟨rfl,rfl,h,if_pos h⟩))
   ·exact .inr (.inr (.inr (.inl ⟨rfl,rfl,h,if_neg h⟩)))
theorem strOf_err (v:V):strOf v≠ .error 0∧sE (strOf v)≤8:=by
 unfold strOf
 split
 ·exact⟨fun h=>(by cases h),Nat.zero_le _⟩
 ·split
  ·split
   ·exact⟨fun h=>(by cases h),Nat.zero_le _⟩
   ·exact⟨fun h=>(by injection h with h;cases h),Nat.le_refl _⟩
  ·exact⟨fun h=>(by injection h with h;cases h),Nat.le_refl _⟩
theorem textB_size (a:N2):(textB a).size≤4096:=by
 unfold textB
 cases hv:zAT a with
 |false=>show(3:Nat)≤4096;decide
 |true=>
  obtain⟨b1,b2,b3,b4⟩:=zAN hv
  have h1:=itoaB_size b3 b4
  have h2:=itoaB_size (n:=a.2) (by omega) b2
  rw[if_pos rfl]
  split
  ·omega
  ·rw[ByteArray.size_append,ByteArray.size_append]
   have:slashB.size=1:=rfl
   omega
theorem strOf_size (v:V) (h:v.s.size≤4096):(sS (strOf v)).size≤4096:=by
 unfold strOf
 split
 ·exact h
 ·split
  ·split
   ·exact textB_size _
   ·exact Nat.zero_le _
  ·exact Nat.zero_le _
def cmpFin (n:Bool):BR→VR
 | .ok l=> .ok (boolV (l !=n))
 | .error c=> .error c
def compareV (o:Int) (a b:V):VR:=cmpFin (o==17||o==19) (if o=17∨o=18 then lessOf b a else lessOf a b)
theorem lessOf_err (a b:V):lessOf a b≠ .error 0:=by
 unfold lessOf
 split
 ·split
  ·exact fun h=>(by cases h)
  ·exact fun h=>(by injection h with h;cases h)
 ·split
  ·exact fun h=>(by cases h)
  ·exact fun h=>(by injection h with h;cases h)
def LessOut (M:BR) (l:Bool) (c:Nat):Prop:=((((c:Nat):Int) !=0)=true∧M= .error c)∨((((c:Nat):Int) !=0)=false∧M= .ok l)
theorem less_out (a b:V):LessOut (lessOf a b) (bB (lessOf a b)) (bE (lessOf a b)):=by
 have h0:=lessOf_err a b
 cases hM:lessOf a b with
 |ok l=>exact .inr ⟨rfl,rfl⟩
 |error c=>
  refine .inl ⟨?_,rfl⟩
  rw[hM] at h0
  have:c≠0:=fun h=>h0 (by rw[h])
  rw[bne_iff_ne]
  show(c:Int)≠0
  omega
theorem hgrow {w w':World} (hb:Below w.heap.size w w') (o:Obj) {b:Nat} {x:Obj} (h:w.heap[b]? =some x):(w'.alloc o).heap[b]? =some x:=by
 have h1:=hkeep hb h
 exact(Below.heap_alloc w' o b (Array.getElem?_eq_some_iff.1 h1).1).trans h1
theorem zAR {w:World} {c:Nat} {o:Obj} (h:w.heap[c]? =some o) {b:Nat} (hb:c≠b) (x y z u v:Value):(((((w.setCell ⟨b,0,none⟩ x).setCell ⟨b,1,none⟩ y).setCell ⟨b,2,none⟩ z).setCell ⟨b,3,none⟩ u).setCell ⟨b,4,none⟩ v).heap[c]? =some o:=by
 rw[Below.heap_setCell _ _ _ _ hb,Below.heap_setCell _ _ _ _ hb,Below.heap_setCell _ _ _ _ hb,Below.heap_setCell _ _ _ _ hb,Below.heap_setCell _ _ _ _ hb];exact h
theorem zAk {w:World} {b:Nat} {t:TypeId} {fz:Nat×Nat} {x0 y0 z0 u0 v0:Value} (h:w.heap[b]? =some (.cells #[x0,y0,z0,u0,v0] t fz)) (x y z u v:Value):
  (((((w.setCell ⟨b,0,none⟩ x).setCell ⟨b,1,none⟩ y).setCell ⟨b,2,none⟩ z).setCell ⟨b,3,none⟩ u).setCell ⟨b,4,none⟩ v).heap[b]? =some (.cells #[x,y,z,u,v] t fz):=
 zAP (zAP (zAP (zAP (zAP h 0 x) 1 y) 2 z) 3 u) 4 v
def numbersV (o:Int) (X Y:RR):VR:=
 if nE X≠0∨nE Y≠0 then .error 8
 else if nE (arithN o (nP X,nQ X) (nP Y,nQ Y))≠0 then .error (nE (arithN o (nP X,nQ X) (nP Y,nQ Y)))
 else .ok (numVal (nP (arithN o (nP X,nQ X) (nP Y,nQ Y)),nQ (arithN o (nP X,nQ X) (nP Y,nQ Y))))
def NWays (X Y Z:RR) (R:VR):Prop:=((((nE X:Nat):Int) !=0)=true∧R= .error 8)∨((((nE X:Nat):Int) !=0)=false∧(((nE Y:Nat):Int) !=0)=true∧R= .error 8)∨
 ((((nE X:Nat):Int) !=0)=false∧(((nE Y:Nat):Int) !=0)=false∧(((nE Z:Nat):Int) !=0)=true∧R= .error (nE Z))∨
 ((((nE X:Nat):Int) !=0)=false∧(((nE Y:Nat):Int) !=0)=false∧(((nE Z:Nat):Int) !=0)=false∧R= .ok (numVal (nP Z,nQ Z)))
theorem numbers_ways (o:Int) (X Y:RR):NWays X Y (arithN o (nP X,nQ X) (nP Y,nQ Y)) (numbersV o X Y):=by
 have ne:∀c:Nat,c≠0→(((c:Nat):Int) !=0)=true:=fun c h=>by rw[bne_iff_ne];omega
 have eq:∀c:Nat,¬c≠0→(((c:Nat):Int) !=0)=false:=fun c h=>by rw[bne_eq_false_iff_eq];omega
 unfold numbersV
 by_cases h1:nE X≠0
 ·exact .inl ⟨ne _ h1,if_pos (.inl h1)⟩
 ·by_cases h2:nE Y≠0
  ·exact .inr (.inl ⟨eq _ h1,ne _ h2,if_pos (.inr h2)⟩)
  ·rw[if_neg (by omega)]
   by_cases h3:nE (arithN o (nP X,nQ X) (nP Y,nQ Y))≠0
   ·exact .inr (.inr (.inl ⟨eq _ h1,eq _ h2,ne _ h3,if_pos h3⟩))
   ·exact .inr (.inr (.inr ⟨eq _ h1,eq _ h2,eq _ h3,if_neg h3⟩))
theorem vr_any {w w':World} {R M:VR} (h:R=M) (hb:Below w.heap.size w w'):VrPost w R (.returned (.tuple #[.agg #[.int .i64 (vV M).k,.int .i64 (vV M).p,.int .i64 (vV M).q,.string (vV M).s,.int .i64 (vV M).r],.int .i64 (vE M:Nat)])) w':=by subst h;exact⟨rfl,hb⟩
theorem vr_val {w w':World} {R:VR} {v:V} (h:R= .ok v) (hb:Below w.heap.size w w'):VrPost w R (.returned (.tuple #[.agg #[.int .i64 v.k,.int .i64 v.p,.int .i64 v.q,.string v.s,.int .i64 v.r],.int .i64 0])) w':=by subst h;exact⟨rfl,hb⟩
def zBt (o:Int) (b:V):RR:=if 20≤o then .ok (0,1) else zBY b
def zAy (o:Int) (a b:V):VR:=
 if ¬(1≤o∧o≤23)∨zAi a=false∨(o≤19∧zAi b=false) then .error 2
 else if o=8 then concatV (strOf a) (strOf b)
 else if o=14 then .ok (boolV (eqV a b==true))
 else if o=15 then .ok (boolV (eqV a b==false))
 else if 16≤o∧o≤19 then compareV o a b
 else if o=21 then .ok (boolV (!trueV a))
 else if o=22 then(if a.k=3 then .ok (intV (a.s.size:Int)) else .error 8)
 else numbersV o (zBY a) (zBt o b)
def Glob (w:World):Prop:=(∃m,w.cell? ⟨0,0,none⟩=some (.int .i64 m))∧Pow10 w
theorem Glob.stays {w w':World} (h:Glob w) (hb:Below w.heap.size w w'):Glob w':=by
 obtain⟨⟨m,hm⟩,hp⟩:=h
 exact⟨⟨m,(hb.cell (p:=⟨0,0,none⟩) (World.block_lt_of_cell? _ _ hm)).trans hm⟩,hp.stays hb⟩
theorem zBW {v:V} (h:zAi v=true):v.s.size≤4096:=by
 unfold zAi at h
 have z:noStr v=true→v.s.size≤4096:=fun hz=>by
  unfold noStr at hz
  have:=beq_iff_eq.1 hz
  omega
 split at h
 ·simp only[Bool.and_eq_true] at h;exact z h.1.2
 ·split at h
  ·simp only[Bool.and_eq_true] at h;exact z h.1.2
  ·split at h
   ·simp only[Bool.and_eq_true] at h;exact z h.1.2
   ·split at h
    ·simp only[Bool.and_eq_true,decide_eq_true_eq] at h;exact h.1.2
    ·split at h
     ·simp only[Bool.and_eq_true] at h;exact z h.1.2
     ·split at h
      ·simp only[Bool.and_eq_true,decide_eq_true_eq] at h;exact h.1.2
      ·cases h
end Go.Proofs.YthkpckgcgkijbaaGreatDoor
namespace Go.Proofs.YthkpckgcgkijbaaGreatDoor
open Go.RowKit Go.Proofs.Lexi Go.ChangeMaps Go.MapKept
open Go.Maps (Keyed)
structure Mods (F:Nat→Prop) (w w':World):Prop where
 os:w'.os=w.os
 tape:w'.tape=w.tape
 output:w'.output=w.output
 size:w.heap.size≤w'.heap.size
 block:∀k,k<w.heap.size→¬F k→w'.heap[k]? =w.heap[k]?
theorem Mods.of_below {F:Nat→Prop} {w w':World} (h:Below w.heap.size w w'):Mods F w w':=⟨h.os,h.tape,h.output,h.size,fun k hk _=>h.block k hk⟩
theorem Mods.below {F:Nat→Prop} {B:Nat} {w w':World} (h:Mods F w w') (hB:B≤w.heap.size) (hF:∀k,k<B→¬F k):Below B w w':=
 ⟨h.os,h.tape,h.output,h.size,fun k hk=>h.block k (by omega) (hF k hk)⟩
theorem Mods.refl (F:Nat→Prop) (w:World):Mods F w w:=⟨rfl,rfl,rfl,Nat.le_refl _,fun _ _ _=>rfl⟩
theorem Mods.trans {F:Nat→Prop} {a b c:World} (h:Mods F a b) (k:Mods F b c):Mods F a c:=
 ⟨k.os.trans h.os,k.tape.trans h.tape,k.output.trans h.output,Nat.le_trans h.size k.size,fun i hi hF=>(k.block i (Nat.lt_of_lt_of_le hi h.size) hF).trans (h.block i hi hF)⟩
theorem Mods.mono {F G:Nat→Prop} {a b:World} (h:Mods F a b) (hFG:∀k,k<a.heap.size→F k→G k):Mods G a b:=
 ⟨h.os,h.tape,h.output,h.size,fun k hk hG=>h.block k hk (fun hF=>hG (hFG k hk hF))⟩
variable {P : Program}
def Born (es:Array MapEntry) (c:Nat):Prop:=(es.toList.map (·.born)).Nodup∧∀b∈es.toList.map (·.born),b<c
theorem Born.push {es:Array MapEntry} {c:Nat} (h:Born es c) (x v:Value):Born (es.push {key:=x,val:=v,born:=c}) (c+1):=by
 have e:(es.push {key:=x,val:=v,born:=c}).toList.map (·.born)=es.toList.map (·.born)++[c]:=by simp
 unfold Born
 rw[e]
 refine⟨List.nodup_append.2 ⟨h.1,by simp,fun a ha b hb=> ?_⟩,fun b hb=> ?_⟩
 ·rw[List.mem_singleton] at hb
  have:=h.2 a ha
  omega
 ·rcases List.mem_append.1 hb with hb|hb
  ·have:=h.2 b hb
   omega
  ·rw[List.mem_singleton] at hb
   omega
theorem Born.same {es es':Array MapEntry} {c:Nat} (h:Born es c) (e:es'.toList.map (·.born)=es.toList.map (·.born)):Born es' c:=by
 unfold Born
 rw[e]
 exact h
theorem Born.erase {es:Array MapEntry} {c:Nat} (h:Born es c) (j:Nat):Born (es.eraseIdxIfInBounds j) c:=by
 have e:((es.eraseIdxIfInBounds j).toList.map (·.born))=(es.toList.map (·.born)).eraseIdx j:=by rw[Array.toList_eraseIdxIfInBounds,map_eraseIdx]
 unfold Born
 rw[e]
 exact⟨h.1.sublist (List.eraseIdx_sublist _ _),fun b hb=>h.2 b (List.mem_of_mem_eraseIdx hb)⟩
def MapAt (P:Program) (k:TypeId) (w:World) (b:Nat) (E:List (Value×Value)):Prop:=
 ∃es clock,w.heap[b]? =some (.map es clock)∧es.toList.map (fun e=>(e.key,e.val))=E∧(∀p∈E,∃l,keyOf P k p.1=some l)∧E.Pairwise (fun p q=>p.1≠q.1)∧Born es clock
theorem mapAt_new (k:TypeId) (w:World):MapAt P k (w.alloc (.map #[] 0)) w.heap.size []:=⟨#[],0,zAg _ _,rfl,fun p h=>by simp at h,.nil,.nil,fun b h=>by simp at h⟩
theorem MapAt.lt {k:TypeId} {w:World} {b:Nat} {E:List (Value×Value)} (h:MapAt P k w b E):b<w.heap.size:=by
 obtain⟨es,c,hb,_⟩:=h
 exact(Array.getElem?_eq_some_iff.1 hb).1
theorem MapAt.keep {k:TypeId} {w w':World} {b:Nat} {E:List (Value×Value)} (h:MapAt P k w b E) (hk:w'.heap[b]? =w.heap[b]?):MapAt P k w' b E:=by
 obtain⟨es,c,hb,r⟩:=h
 exact⟨es,c,hk.trans hb,r⟩
theorem mem_entries {es:Array MapEntry} {E:List (Value×Value)} (hE:es.toList.map (fun e=>(e.key,e.val))=E) {j:Nat} {e:MapEntry} (hj:es.toList[j]? =some e):E[j]? =some (e.key,e.val):=by
 rw[←hE,List.getElem?_map,hj];rfl
section
variable {k e t : TypeId} {w : World} {b : Nat} {E : List (Value × Value)}
theorem MapAt.find (h:MapAt P k w b E) (K:Keyed P k) {x:Value} {l:Lit} (hx:keyOf P k x=some l) {es:Array MapEntry} {c:Nat} (hb:w.heap[b]? =some (.map es c)):
  ((Instr.findKey k x es.toList).run P w= .ok none w∧∀p∈E,p.1≠x)∨∃j v,(Instr.findKey k x es.toList).run P w= .ok (some (j,v)) w∧E[j]? =some (x,v)∧j<es.size∧(es[j]?).map (·.key)=some x:=by
 obtain⟨es',c',hb',hE,hk,hd,_⟩:=h
 rw[hb] at hb'
 injection hb' with hb'
 injection hb' with h1 h2
 subst h1 h2
 rcases K.find w hx es.toList (fun y hy=>by
  obtain⟨j,hj⟩:=List.getElem?_of_mem hy
  exact hk _ (List.mem_of_getElem? (mem_entries hE hj))) with⟨h1,h2⟩|⟨j,y,h1,h2,h3⟩
 ·refine .inl ⟨h1,fun p hp=> ?_⟩
  rw[←hE,List.mem_map] at hp
  obtain⟨y,hy,rfl⟩:=hp
  exact h2 y hy
 ·refine .inr ⟨j,y.val,h1,by rw[mem_entries hE h2,h3],?_,?_⟩
  ·have:=(List.getElem?_eq_some_iff.1 h2).1
   rwa [Array.length_toList] at this
  ·rw[←Array.getElem?_toList,h2,←h3];rfl
theorem MapAt.look (h:MapAt P k w b E) (K:Keyed P k) (ht:P.underlying t=some (.map k e)) {z:Value} (hz:(zeroValue e).run P w= .ok z w) {x:Value} {l:Lit} (hx:keyOf P k x=some l):
  ((∀p∈E,p.1≠x)∧∀c,(Instr.lookup t (.map (some b)) x c).run P w= .ok (if c then .tuple #[z,.bool false] else z) w)∨
  ∃v,(x,v)∈E∧∀c,(Instr.lookup t (.map (some b)) x c).run P w= .ok (if c then .tuple #[v,.bool true] else v) w:=by
 have h0:=h
 obtain⟨es,cl,hb,_⟩:=h0
 rcases h.find K hx hb with⟨h1,h2⟩|⟨j,v,h1,h2,_⟩
 ·refine .inl ⟨h2,fun c=> ?_⟩
  simp[Instr.lookup,run_underlying ht,MapKept.run_getObj_map hb,K.check w es.isEmpty hx,h1,hz,Result.andThen]
 ·refine .inr ⟨v,List.mem_of_getElem? h2,fun c=> ?_⟩
  simp[Instr.lookup,run_underlying ht,MapKept.run_getObj_map hb,K.check w es.isEmpty hx,h1,Result.andThen]
theorem pairwise_set {E:List (Value×Value)} {j:Nat} {x v v':Value} (hd:E.Pairwise (fun p q=>p.1≠q.1)) (hj:E[j]? =some (x,v)):(E.set j (x,v')).Pairwise (fun p q=>p.1≠q.1):=by
 have h1:(E.map (·.1)).Pairwise (· ≠ ·):=List.pairwise_map.2 hd
 have h2:(E.set j (x,v')).map (·.1)=E.map (·.1):=by
  rw[List.map_set]
  apply List.ext_getElem?
  intro i
  rw[List.getElem?_set]
  split
  ·rename_i he
   subst he
   rw[List.getElem?_map,hj]
   rw[List.length_map,if_pos (List.getElem?_eq_some_iff.1 hj).1]
   rfl
  ·rfl
 exact List.pairwise_map.1 (h2▸h1)
theorem mem_set_iff {E:List (Value×Value)} {j:Nat} {x v v':Value} (hd:E.Pairwise (fun p q=>p.1≠q.1)) (hj:E[j]? =some (x,v)) (p:Value×Value):p∈E.set j (x,v')↔p=(x,v')∨(p∈E∧p.1≠x):=by
 have hl:=(List.getElem?_eq_some_iff.1 hj).1
 have hjx:E[j]=(x,v):=by rw[List.getElem?_eq_getElem hl] at hj;injection hj
 constructor
 ·intro hp
  obtain⟨i,hi⟩:=List.getElem?_of_mem hp
  rw[List.getElem?_set] at hi
  split at hi
  ·injection hi with hi;exact .inl hi.symm
  ·rename_i hne
   refine .inr ⟨List.mem_of_getElem? hi,fun hc=> ?_⟩
   have hil:=(List.getElem?_eq_some_iff.1 hi).1
   rw[List.getElem?_eq_getElem hil] at hi
   injection hi with hi
   rcases Nat.lt_or_gt_of_ne hne with hlt|hgt
   ·have:=(List.pairwise_iff_getElem.1 hd) j i hl hil hlt
    rw[hi,hjx] at this
    exact this hc.symm
   ·have:=(List.pairwise_iff_getElem.1 hd) i j hil hl hgt
    rw[hi,hjx] at this
    exact this hc
 ·rintro(rfl|⟨h1,h2⟩)
  ·exact List.mem_of_getElem? (List.getElem?_set_self hl)
  ·obtain⟨i,hi⟩:=List.getElem?_of_mem h1
   refine List.mem_of_getElem? (i:=i) ?_
   rw[List.getElem?_set,if_neg]
   ·exact hi
   ·rintro rfl
    rw[hj] at hi
    injection hi with hi
    rw[←hi] at h2
    exact h2 rfl
theorem MapAt.store (h:MapAt P k w b E) (K:Keyed P k) (ht:P.underlying t=some (.map k e)) {x:Value} {l:Lit} (hx:keyOf P k x=some l) (v:Value):
  ∃w' E',(Instr.mapUpdate t (.map (some b)) x v).run P w= .ok () w'∧MapAt P k w' b E'∧Mods (· =b) w w'∧w'.heap.size=w.heap.size∧
   (∀p,p∈E'↔p=(x,v)∨(p∈E∧p.1≠x))∧((∀p∈E,p.1≠x)→E'=E++[(x,v)]):=by
 have h0:=h
 obtain⟨es,cl,hb,hE,hk,hd,hn⟩:=h0
 rcases h.find K hx hb with⟨h1,h2⟩|⟨j,v0,h1,h2,h3,h4⟩
 ·refine⟨_,E++[(x,v)],by simp[Instr.mapUpdate,run_underlying ht,MapKept.run_getObj_map hb,K.check w false hx,h1,MapKept.run_setObj_map _ hb,Result.andThen];rfl,?_,?_,?_,?_,fun _=>rfl⟩
  ·refine⟨_,_,(heap_set hb).1,?_,?_,?_,hn.push _ _⟩
   ·rw[←hE];simp
   ·intro p hp
    rcases List.mem_append.1 hp with hp|hp
    ·exact hk p hp
    ·rw[List.mem_singleton] at hp;subst hp;exact⟨l,hx⟩
   ·rw[List.pairwise_append]
    refine⟨hd,List.pairwise_singleton _ _,fun p hp q hq=> ?_⟩
    rw[List.mem_singleton] at hq
    subst hq
    exact h2 p hp
  ·exact⟨rfl,rfl,rfl,by simp,fun r _ hr=>(heap_set hb).2 r hr⟩
  ·simp
  ·intro p
   rw[List.mem_append,List.mem_singleton]
   constructor
   ·rintro(hp|hp)
    ·exact .inr ⟨hp,h2 p hp⟩
    ·exact .inl hp
   ·rintro(hp|hp)
    ·exact .inr hp
    ·exact .inl hp.1
 ·have hkey:((es[j]?).map (·.key)).getD x=x:=by rw[h4];rfl
  have hje:E.set j (x,v)=(es.modify j (fun e=>{e with key:=x,val:=v})).toList.map (fun e=>(e.key,e.val)):=by
   rw[←hE]
   apply List.ext_getElem?
   intro i
   rw[List.getElem?_set,List.getElem?_map,List.getElem?_map,Array.getElem?_toList,Array.getElem?_toList,Array.getElem?_modify]
   split
   ·rename_i he
    subst he
    rw[List.length_map,Array.length_toList,if_pos h3,Array.getElem?_eq_getElem h3]
    rfl
   ·rfl
  have hbo:(es.modify j (fun e=>{e with key:=x,val:=v})).toList.map (·.born)=es.toList.map (·.born):=by
   apply List.ext_getElem?
   intro i
   rw[List.getElem?_map,List.getElem?_map,Array.getElem?_toList,Array.getElem?_toList,Array.getElem?_modify]
   split
   ·rename_i he
    subst he
    rw[Array.getElem?_eq_getElem h3]
    rfl
   ·rfl
  refine⟨_,E.set j (x,v),by simp[Instr.mapUpdate,run_underlying ht,MapKept.run_getObj_map hb,K.check w false hx,h1,hkey,K.stays w hx,MapKept.run_setObj_map _ hb,Result.andThen];rfl,?_,?_,?_,?_,fun hc=> ?_⟩
  ·refine⟨_,_,(heap_set hb).1,hje.symm,?_,pairwise_set hd h2,hn.same hbo⟩
   intro p hp
   rcases(mem_set_iff hd h2 p).1 hp with rfl|⟨hp,_⟩
   ·exact⟨l,hx⟩
   ·exact hk p hp
  ·exact⟨rfl,rfl,rfl,by simp,fun r _ hr=>(heap_set hb).2 r hr⟩
  ·simp
  ·exact mem_set_iff hd h2
  ·exact absurd rfl (hc _ (List.mem_of_getElem? h2))
theorem MapAt.drop (h:MapAt P k w b E) (K:Keyed P k) (ht:P.underlying t=some (.map k e)) {x:Value} {l:Lit} (hx:keyOf P k x=some l) (ty:TypeId):
  ∃w' E',(Builtin.delete_ #[t,k] ty #[.map (some b),x]).run P w= .ok (.tuple #[]) w'∧MapAt P k w' b E'∧Mods (· =b) w w'∧w'.heap.size=w.heap.size∧
   (∀p,p∈E'↔p∈E∧p.1≠x):=by
 have h0:=h
 obtain⟨es,cl,hb,hE,hk,hd,hn⟩:=h0
 rcases h.find K hx hb with⟨h1,h2⟩|⟨j,v0,h1,h2,h3,h4⟩
 ·refine⟨_,E,by simp[Builtin.delete_,run_underlying ht,MapKept.run_getObj_map hb,K.check w es.isEmpty hx,h1,MapKept.run_setObj_map _ hb,Result.andThen];rfl,?_,?_,?_,?_⟩
  ·exact⟨_,_,(heap_set hb).1,hE,hk,hd,hn⟩
  ·exact⟨rfl,rfl,rfl,by simp,fun r _ hr=>(heap_set hb).2 r hr⟩
  ·simp
  ·exact fun p=>⟨fun hp=>⟨hp,h2 p hp⟩,fun hp=>hp.1⟩
 ·have hl:=(List.getElem?_eq_some_iff.1 h2).1
  have hjx:E[j]=(x,v0):=by rw[List.getElem?_eq_getElem hl] at h2;injection h2
  have hje:E.eraseIdx j=(es.eraseIdxIfInBounds j).toList.map (fun e=>(e.key,e.val)):=by
   rw[←hE,Array.toList_eraseIdxIfInBounds,map_eraseIdx]
  refine⟨_,E.eraseIdx j,by simp[Builtin.delete_,run_underlying ht,MapKept.run_getObj_map hb,K.check w es.isEmpty hx,h1,MapKept.run_setObj_map _ hb,Result.andThen];rfl,?_,?_,?_,?_⟩
  ·refine⟨_,_,(heap_set hb).1,hje.symm,fun p hp=>hk p (List.mem_of_mem_eraseIdx hp),hd.sublist (List.eraseIdx_sublist _ _),hn.erase j⟩
  ·exact⟨rfl,rfl,rfl,by simp,fun r _ hr=>(heap_set hb).2 r hr⟩
  ·simp
  ·intro p
   rw[List.mem_eraseIdx_iff_getElem]
   constructor
   ·rintro⟨i,hi,hne,rfl⟩
    refine⟨List.getElem_mem hi,fun hc=> ?_⟩
    rcases Nat.lt_or_gt_of_ne hne with hlt|hgt
    ·have:=(List.pairwise_iff_getElem.1 hd) i j hi hl hlt
     rw[hjx] at this
     exact this hc
    ·have:=(List.pairwise_iff_getElem.1 hd) j i hl hi hgt
     rw[hjx] at this
     exact this hc.symm
   ·rintro⟨h5,h6⟩
    obtain⟨i,hi,rfl⟩:=List.getElem_of_mem h5
    refine⟨i,hi,?_,rfl⟩
    rintro rfl
    rw[hjx] at h6
    exact h6 rfl
end
end Go.Proofs.YthkpckgcgkijbaaGreatDoor
namespace Go.Proofs.YthkpckgcgkijbaaGreatDoor
open Go.ChangeShapes Go.WideShapes Go.ChangeAt Go.WideMaps Go.WideElems Go.RowKit
abbrev laidL:List (String×DataW Unit):=[("math/bits.deBruijn32tab",Rows.laid_math_bits_deBruijn32tab),("math/bits.deBruijn64tab",Rows.laid_math_bits_deBruijn64tab),("internal/strconv.uint64pow10",Rows.laid_internal_strconv_uint64pow10),("unicode/utf8.acceptRanges",Rows.laid_unicode_utf8_acceptRanges),("unicode/utf8.first",Rows.laid_unicode_utf8_first)]
theorem Tryz.own:ownKnob Tryz.prog.godebug=none:=by kernel_rfl
theorem Tryz.tPow:∃g,Tryz.prog.globalNamed "internal/strconv.uint64pow10" =some g∧(Tryz.prog.globals[g]?).map (·.type)=some 218:=by
 refine⟨(Tryz.prog.globalNamed "internal/strconv.uint64pow10").getD 0,?_,?_⟩<;>kernel_rfl
theorem Tryz.cPow:Tryz.prog.cellsOf 218=20:=by kernel_rfl
theorem Tryz.c64:Tryz.prog.cellsOf 204=1:=by kernel_rfl
theorem tab_of_laid {W:World} (h:laidMetH Tryz.prog laidL W):Pow10 W:=by
 rw[MakeChecks.laidMetH_plain _ _ _ (by kernel_rfl)] at h
 obtain⟨ps,⟨g0,t0,cs0,f0,p0,q0,_,_,_,_,⟨g1,t1,cs1,f1,p1,q1,_,_,_,_,⟨g2,t2,cs2,f2,p2,q2,hg2,ht2,hv2,hd2,_,_⟩,_⟩,_⟩,_,_⟩:=h
 obtain⟨g,hg,ht⟩:=Tryz.tPow
 obtain rfl:=Option.some.inj (hg.symm.trans hg2)
 obtain rfl:=Option.some.inj (ht.symm.trans ht2)
 unfold Pow10 Lib.TabIs
 rw[hv2,←Lib.cells_of_tab (k:= .u64) (zs:=Lib.pow10Tab) Tryz.underlying218 Tryz.underlying204 Tryz.c64 Tryz.cPow hd2]
theorem door_met (os:Os) (args:Array Value):laidMetH Tryz.prog laidL ((World.laidAll Tryz.prog os laidL).forCall (fun _ _=>0) ⟨#[],args,[]⟩).memory:=by
 rw[MakeChecks.laidMetH_plain _ _ _ (by kernel_rfl)]
 exact laidMet_laidAll _ (by kernel_rfl) (by kernel_rfl)
theorem glob_zero {W:World} (hs:W.ShapedOpen Tryz.prog):∃m,W.cell? ⟨0,0,none⟩=some (.int .i64 m):=by
 have e:((begin Tryz.prog (fun _ _=>0) default).world.heap[0]?).bind Obj.row? =some (#[.int .i64 0],3):=by kernel_rfl
 obtain⟨cs,h1,h2,h3⟩:=hs.1 0 #[.int .i64 0] 3 (of_decide_eq_true (by kernel_rfl)) e
 obtain⟨ts,ht,_,hc⟩:=h3 (by kernel_rfl)
 have hct:Tryz.prog.cellTypes Tryz.prog.depth 3=some [3]:=by kernel_rfl
 rw[hct] at ht
 injection ht with ht
 subst ht
 have hz:0<cs.size:=by rw[h2];decide
 obtain⟨u,hu,hv⟩:=hc 0 cs[0] (Array.getElem?_eq_getElem hz)
 injection hu with hu
 subst hu
 unfold Cell.ok at hv
 rw[Tryz.underlying3] at hv
 generalize hx:cs[0]=x at hv
 cases x with
 |int k n=>
  obtain⟨rfl,_⟩:=hv
  exact⟨n,by rw[zAA h1,Array.getElem?_eq_getElem hz,hx]⟩
 |_=>exact hv.elim
section
variable {H : Type} {enc : TypeId × Value → H} {P : Program}
theorem zCJ {f:Func} {s:ChangeSpec} {apart fresh handsOn again:Bool} {W W':World} {args:Array Value} {v:Value} {ds gs:List (DataW H)} {before pa pv:List MemPlace}
  (hW:DataW.Whole enc P f.params.toList s.vars apart W args.toList ds gs before)
  (hres:∀(b:Nat) (sp:Nat→Bool) (hd:Bool),DataW.TrodAll enc P W' b sp hd f.resultTypes.toList (v.resultList f.resultTypes.size) (s.fn H (ds++gs)).results [])
  (hargs:∀sp:Nat→Bool,(∀p∈before,sp p.block=true)→DataW.TrodAll enc P W' 0 sp true f.params.toList args.toList (s.fn H (ds++gs)).args pa)
  (hvars:∀sp:Nat→Bool,(∀p∈before,sp p.block=true)→DataW.TrodVars enc P W' sp s.vars (s.fn H (ds++gs)).vars pv)
  (hps:before=pa++pv) (hb:Below W.heap.size W W')
  (hok:∀(j:Nat) (t:TypeId) (r:Value),f.resultTypes[j]? =some t→(v.resultList f.resultTypes.size)[j]? =some r→Value.okWide P W' .any 0 t r):
  s.post enc P f apart fresh handsOn again W args v W':=by
 have hlt:∀p∈before,p.block<W.heap.size:=fun p hp=>hW.lt p hp
 have hold:∀p∈before,(fun b=>decide (b<W.heap.size)) p.block=true:=fun p hp=>by simpa using hlt p hp
 refine⟨ds,gs,before,[],pa,pv,hW,hres _ _ _,hargs _ hold,hvars _ hold,World.keptBut_mono (fun p hp=>⟨hp,?_⟩) (hb.frame (· ∈before)),fun _=> ?_⟩
 ·rw[hps,List.mem_append] at hp
  exact Or.inr hp
 ·obtain⟨_,_,_,_,_,hz,hn⟩:=hW
  refine⟨hok,_,_,([]++pa)++pv,⟨[]++pa,pv,trodAll_append (hargs _ (fun _ _=>rfl)) (hres _ _ _),hvars _ (fun _ _=>rfl),rfl,?_,?_⟩,?_⟩
  ·intro b off hp
   have hin:MemPlace.cell b off∈before:=by rw[hps];simpa using hp
   rw[hb.frozen (hlt _ hin)]
   exact hz b off hin
  ·intro ha
   have:=hn ha
   rw[hps] at this
   simpa using this
  ·intro p hp _
   rw[hps]
   simpa using hp
end
end Go.Proofs.YthkpckgcgkijbaaGreatDoor
namespace Go.Proofs.YthkpckgcgkijbaaGreatDoor
open Go.RowKit Go.Proofs.Lexi
def zBS (s:Sl):List Value:=[.int .i64 s.k.k,.int .i64 s.k.p,.int .i64 s.k.q,.string s.k.s,.int .i64 s.k.r,.int .i64 s.v.k,.int .i64 s.v.p,.int .i64 s.v.q,.string s.v.s,.int .i64 s.v.r,.bool s.g]
def rowSl (L:List Sl):List Value:=L.flatMap zBS
theorem slCells_len (s:Sl):(zBS s).length=11:=rfl
theorem rowSl_len (L:List Sl):(rowSl L).length=L.length*11:=by
 induction L with
 |nil=>rfl
 |cons s L ih=>show(zBS s++rowSl L).length=_;rw[List.length_append,slCells_len,ih,List.length_cons];omega
theorem zAn:∀(L:List Sl) (i j:Nat) (s:Sl),L[i]? =some s→j<11→(rowSl L)[i*11+j]? =(zBS s)[j]?
 |[],i,j,s,h,_=>by simp at h
 |x::L,0,j,s,h,hj=>by
  rw[List.getElem?_cons_zero] at h
  injection h with h
  subst h
  show(zBS x++rowSl L)[0*11+j]? =_
  rw[List.getElem?_append_left (by rw[slCells_len];omega)]
  congr 1
  omega
 |x::L,i+1,j,s,h,hj=>by
  rw[List.getElem?_cons_succ] at h
  show(zBS x++rowSl L)[(i+1)*11+j]? =_
  rw[List.getElem?_append_right (by rw[slCells_len];omega),slCells_len,show(i+1)*11+j-11=i*11+j by omega]
  exact zAn L i j s h hj
def Graph (E:List (Value×Value)) (f:V→Option Nat):Prop:=∀p,p∈E↔∃v n,p=(v.v,.int .i64 (n:Nat))∧f v=some n
theorem V.v_inj {a b:V} (h:a.v=b.v):a=b:=by
 obtain⟨k,p,q,s,r⟩:=a
 obtain⟨k2,p2,q2,s2,r2⟩:=b
 simp only[V.v,V.cells,Value.agg.injEq,Array.mk.injEq,List.cons.injEq,Value.int.injEq,Value.string.injEq,true_and,and_true] at h
 obtain⟨h1,h2,h3,h4,h5⟩:=h
 subst h1 h2 h3 h4 h5
 rfl
structure OMap (w:World) (m g:Nat) (sv:Value) (L:List Sl):Prop where
 hm:w.heap[m]? =some (.cells #[sv,.map (some g),.int .i64 (liveN L:Nat)] 159)
 row:w.ownsRow 0 161 11 sv L.length (rowSl L)
 wf:∀s∈L,WfV s.k∧WfV s.v
 map:∃E f,MapAt Tryz.prog 25 w g E∧Graph E f∧Idx L f
theorem OMap.keep {w w':World} {m g:Nat} {sv:Value} {L:List Sl} (h:OMap w m g sv L) (h1:w'.heap[m]? =w.heap[m]?) (h2:w'.heap[g]? =w.heap[g]?) (h3:∀b,sv.ownBlock=some b→w'.heap[b]? =w.heap[b]?):OMap w' m g sv L:=by
 obtain⟨a,b,wf,E,f,c,d,e⟩:=h
 exact⟨h1.trans a,zAZ b h3,wf,E,f,c.keep h2,d,e⟩
theorem look_at {w:World} {g:Nat} {E:List (Value×Value)} {f:V→Option Nat} (hE:MapAt Tryz.prog 25 w g E) (hG:Graph E f) {k:V} (hk:WfV k) (W:World) (hW:W.heap[g]? =w.heap[g]?):
  (f k=none∧(Instr.lookup 157 (.map (some g)) k.v true).run Tryz.prog W= .ok (.tuple #[.int .i64 0,.bool false]) W)∨
  ∃n:Nat,f k=some n∧(Instr.lookup 157 (.map (some g)) k.v true).run Tryz.prog W= .ok (.tuple #[.int .i64 (n:Int),.bool true]) W:=by
 obtain⟨l,hl⟩:=keyV hk
 have hz:(zeroValue 3).run Tryz.prog W= .ok (.int .i64 0) W:=Tryz.zeroValue3 W
 rcases(hE.keep hW).look keyedV (e:=3) (t:=157) (by kernel_rfl) hz hl with⟨h1,h2⟩|⟨v,h1,h2⟩
 ·refine .inl ⟨?_,h2 true⟩
  cases hf:f k with
  |none=>rfl
  |some n=>exact absurd rfl (h1 _ ((hG _).2 ⟨k,n,rfl,hf⟩))
 ·obtain⟨v2,n,h3,h4⟩:=(hG _).1 h1
  simp only[Prod.mk.injEq] at h3
  obtain⟨h5,rfl⟩:=h3
  have:=V.v_inj h5
  subst this
  exact .inr ⟨n,h4,h2 true⟩
theorem zAf (w:World) (o1 o2:Obj):((w.alloc o1).alloc o2).heap[w.heap.size]? =some o1:=by
 rw[Below.heap_alloc _ _ _ (by simp),zAg]
theorem zAW (w:World) (o1 o2:Obj):((w.alloc o1).alloc o2).heap[w.heap.size+1]? =some o2:=by
 have:=zAg (w.alloc o1) o2
 simpa using this
theorem zAp {w:World} {b:Nat} {o:Obj} (h:w.heap[b]? =some o) (o1 o2:Obj):((w.alloc o1).alloc o2).heap[b]? =some o:=hkeep (zAF w o1 o2) h
theorem ownsRow_cell {w:World} {base g cap n size:Nat} {e:TypeId} {xs:List Value} (h:w.ownsRow base e size (.slice (some ⟨g,0,none⟩) n cap) n xs) (j:Nat) (u:Value):
  (w.setCell ⟨g,j,none⟩ u).ownsRow base e size (.slice (some ⟨g,0,none⟩) n cap) n (xs.set j u):=by
 obtain⟨h1,h2⟩:=h
 refine⟨by rw[List.length_set];exact h1,?_⟩
 rcases h2 with⟨h2,_⟩|⟨g',cap',cur,h2,h3,h4,h5,h6,h7,h8⟩
 ·cases h2
 ·simp only[Value.slice.injEq,Option.some.injEq,Addr.mk.injEq,true_and,and_true] at h2
  obtain⟨rfl,rfl⟩:=h2
  refine .inr ⟨g,cap,cur.setIfInBounds j u,rfl,h3,zAP h4 j u,h5,h6,by rw[Array.size_setIfInBounds];exact h7,?_⟩
  rw[Array.toList_setIfInBounds,List.take_set,h8]
def setAt (xs:List Value) (o:Nat):List Value→List Value
 |[]=>xs
 |v::vs=>setAt (xs.set o v) (o+1) vs
theorem setAt_get:∀(vs xs:List Value) (o j:Nat),o+vs.length≤xs.length→(setAt xs o vs)[j]? =if o≤j∧j<o+vs.length then vs[j-o]? else xs[j]?
 |[],xs,o,j,_=>by
  show xs[j]? =_
  rw[if_neg]
  rintro⟨h1,h2⟩
  simp at h2
  omega
 |v::vs,xs,o,j,h=>by
  rw[List.length_cons] at h
  show(setAt (xs.set o v) (o+1) vs)[j]? =_
  rw[setAt_get vs _ _ j (by rw[List.length_set];omega),List.length_cons]
  by_cases h1:o+1≤j∧j<o+1+vs.length
  ·rw[if_pos h1,if_pos (by omega),show j-o=(j-(o+1))+1 by omega,List.getElem?_cons_succ]
  ·rw[if_neg h1,List.getElem?_set]
   by_cases h2:o=j
   ·subst h2
    rw[if_pos rfl,if_pos (by omega),if_pos (by omega),Nat.sub_self]
    rfl
   ·rw[if_neg h2,if_neg (by omega)]
theorem rowSl_get (L:List Sl) (a b:Nat) (hb:b<11):(rowSl L)[a*11+b]? =(L[a]?).bind fun s=>(zBS s)[b]? :=by
 cases h:L[a]? with
 |some s=>rw[zAn L a b s h hb];rfl
 |none=>
  have:=List.getElem?_eq_none_iff.1 h
  rw[List.getElem?_eq_none_iff.2 (by rw[rowSl_len];omega)]
  rfl
theorem rowSl_set {L:List Sl} {i:Nat} (hi:i<L.length) (s':Sl):setAt (rowSl L) (i*11) (zBS s')=rowSl (L.set i s'):=by
 apply List.ext_getElem?
 intro j
 obtain⟨a,b,hb,rfl⟩:∃a b,b<11∧j=a*11+b:=⟨j/11,j%11,by omega,by omega⟩
 rw[setAt_get _ _ _ _ (by rw[slCells_len,rowSl_len];omega),rowSl_get _ _ _ hb,rowSl_get _ _ _ hb,slCells_len,List.getElem?_set]
 by_cases h:i=a
 ·subst h
  rw[if_pos (by omega),if_pos rfl,if_pos hi,show i*11+b-i*11=b by omega]
  rfl
 ·rw[if_neg (by omega),if_neg h]
def zBF (v:V):List Value:=[.int .i64 v.k,.int .i64 v.p,.int .i64 v.q,.string v.s,.int .i64 v.r]
theorem rowSl_setVal {L:List Sl} {i:Nat} {sl:Sl} (hs:L[i]? =some sl) (v:V):setAt (rowSl L) (i*11+5) (zBF v)=rowSl (L.set i ⟨sl.k,v,sl.g⟩):=by
 have hi:i<L.length:=(List.getElem?_eq_some_iff.1 hs).1
 apply List.ext_getElem?
 intro j
 obtain⟨a,b,hb,rfl⟩:∃a b,b<11∧j=a*11+b:=⟨j/11,j%11,by omega,by omega⟩
 have hl:(zBF v).length=5:=rfl
 rw[setAt_get _ _ _ _ (by rw[hl,rowSl_len];omega),rowSl_get _ _ _ hb,rowSl_get _ _ _ hb,hl,List.getElem?_set]
 by_cases h:i=a
 ·subst h
  rw[if_pos rfl,if_pos hi,hs]
  have hb2:b=0∨b=1∨b=2∨b=3∨b=4∨b=5∨b=6∨b=7∨b=8∨b=9∨b=10:=by omega
  rcases hb2 with rfl|rfl|rfl|rfl|rfl|rfl|rfl|rfl|rfl|rfl|rfl
  all_goals
   first
   |(rw[if_neg (by omega)];rfl)
   |(rw[if_pos (by omega)];rw[show i*11+5-(i*11+5)=0 by omega];rfl)
   |(rw[if_pos (by omega)];rw[show i*11+6-(i*11+5)=1 by omega];rfl)
   |(rw[if_pos (by omega)];rw[show i*11+7-(i*11+5)=2 by omega];rfl)
   |(rw[if_pos (by omega)];rw[show i*11+8-(i*11+5)=3 by omega];rfl)
   |(rw[if_pos (by omega)];rw[show i*11+9-(i*11+5)=4 by omega];rfl)
 ·rw[if_neg (by omega),if_neg h]
def setCells (w:World) (g:Nat) (o:Nat):List Value→World
 |[]=>w
 |v::vs=>setCells (w.setCell ⟨g,o,none⟩ v) g (o+1) vs
theorem zBI {base g cap n size:Nat} {e:TypeId}:∀(vs:List Value) (w:World) (xs:List Value) (o:Nat),w.ownsRow base e size (.slice (some ⟨g,0,none⟩) n cap) n xs→
  (setCells w g o vs).ownsRow base e size (.slice (some ⟨g,0,none⟩) n cap) n (setAt xs o vs)
 |[],_,_,_,h=>h
 |v::vs,w,xs,o,h=>zBI vs _ _ _ (ownsRow_cell h o v)
theorem zBV {g b:Nat} (hb:b≠g):∀(vs:List Value) (w:World) (o:Nat),(setCells w g o vs).heap[b]? =w.heap[b]?
 |[],_,_=>rfl
 |v::vs,w,o=>(zBV hb vs _ _).trans (Below.heap_setCell _ _ _ _ hb)
theorem zAO {F:Nat→Prop} {a w:World} (h:Mods F a w) {b o:Nat} (hb:F b∨a.heap.size≤b) (u:Value):Mods F a (w.setCell ⟨b,o,none⟩ u):=
 ⟨h.os,h.tape,h.output,by simpa using h.size,fun k hk hF=>by
  rw[Below.heap_setCell _ _ _ _ (show k≠b from fun e=>by subst e;rcases hb with hb|hb;exact hF hb;omega)]
  exact h.block k hk hF⟩
theorem zBd {F:Nat→Prop} {a:World} {g:Nat} (hg:F g∨a.heap.size≤g):∀(vs:List Value) (w:World) (o:Nat),Mods F a w→Mods F a (setCells w g o vs)
 |[],_,_,h=>h
 |_::vs,_,_,h=>zBd hg vs _ _ (zAO h hg _)
theorem zBJ {g:Nat}:∀(vs:List Value) (w:World) (o:Nat),w.setCells g o vs=setCells w g o vs
 |[],_,_=>rfl
 |v::vs,w,o=>zBJ vs _ _
theorem zCG {w:World} {base g cap n size:Nat} {e:TypeId} {xs:List Value} (h:w.ownsRow base e size (.slice (some ⟨g,0,none⟩) n cap) n xs) (o k:Nat) (hk:o+k≤n*size):w.there g o k:=fun j hj=>by
 refine⟨?_,?_⟩
 ·rw[h.cellAt (o+j) (by omega),List.getElem?_eq_getElem (by rw[h.1];omega)];rfl
 ·rcases h.2 with⟨h2,_⟩|⟨g',cap',cur,h2,h3,h4,_⟩
  ·cases h2
  ·simp only[Value.slice.injEq,Option.some.injEq,Addr.mk.injEq,true_and,and_true] at h2
   obtain⟨rfl,_⟩:=h2
   simp[World.frozen?,h4]
def OmF (m g:Nat) (sv:Value) (b:Nat):Prop:=b=m∨b=g∨sv.ownBlock=some b
def OmPost (w:World) (m g:Nat) (sv:Value) (L':List Sl) (e:Ending) (w':World):Prop:=
 e= .returned (.int .i64 0)∧∃sv',OMap w' m g sv' L'∧Mods (OmF m g sv) w w'∧∀b,sv'.ownBlock=some b→sv.ownBlock=some b∨w.heap.size≤b
theorem look_ways {w:World} {g:Nat} {E:List (Value×Value)} {f:V→Option Nat} (hE:MapAt Tryz.prog 25 w g E) (hG:Graph E f) {k p q:Int} {s:ByteArray} {r:Int} (hk:WfV ⟨k,p,q,s,r⟩):
  (f ⟨k,p,q,s,r⟩=none∧∀W,W.heap[g]? =w.heap[g]? →(Instr.lookup 157 (.map (some g)) (.agg #[k,p,q,s,r]) true).run Tryz.prog W= .ok (.tuple #[.int .i64 0,.bool false]) W)∨
   ∃n:Nat,f ⟨k,p,q,s,r⟩=some n∧∀W,W.heap[g]? =w.heap[g]? →(Instr.lookup 157 (.map (some g)) (.agg #[k,p,q,s,r]) true).run Tryz.prog W= .ok (.tuple #[.int .i64 (n:Int),.bool true]) W:=by
 rcases look_at hE hG hk w rfl with⟨h1,_⟩|⟨n,h1,_⟩
 ·refine .inl ⟨h1,fun W hW=> ?_⟩
  rcases look_at hE hG hk W hW with⟨_,h2⟩|⟨n,h2,_⟩
  ·exact h2
  ·rw[h1] at h2;cases h2
 ·refine .inr ⟨n,h1,fun W hW=> ?_⟩
  rcases look_at hE hG hk W hW with⟨h2,_⟩|⟨n2,h2,h3⟩
  ·rw[h1] at h2;cases h2
  ·rw[h1] at h2;injection h2 with h2;subst h2;exact h3
theorem bw {w W:World} (h:Below w.heap.size w W) {b:Nat} (hb:b<w.heap.size):W.heap[b]? =w.heap[b]? :=h.block b hb
theorem info161:(Tryz.prog.info? 161).map (·.size)=some 11:=by kernel_rfl
theorem mrb {w:World} {m rb cap n size base:Nat} {cs:Array Value} {xs:List Value} (hm:w.heap[m]? =some (.cells cs 159 (0,0))) (h:w.ownsRow base 161 size (.slice (some ⟨rb,0,none⟩) n cap) n xs) (e:m=rb):False:=by
 subst e
 rcases h.2 with⟨h2,_⟩|⟨g',cap',cur,h2,h3,h4,_⟩
 ·cases h2
 ·simp only[Value.slice.injEq,Option.some.injEq,Addr.mk.injEq,true_and,and_true] at h2
  obtain⟨rfl,_⟩:=h2
  rw[hm] at h4
  injection h4 with h4
  injection h4 with h5 h6
  cases h6
theorem info25:(Tryz.prog.info? 25).map (·.size)=some 5:=by kernel_rfl
theorem row_frozen {w:World} {base g cap n size:Nat} {e:TypeId} {xs:List Value} (h:w.ownsRow base e size (.slice (some ⟨g,0,none⟩) n cap) n xs) (j:Nat):w.frozen? ⟨g,j,none⟩=false:=by
 rcases h.2 with⟨h2,_⟩|⟨g',cap',cur,h2,h3,h4,_⟩
 ·cases h2
 ·simp only[Value.slice.injEq,Option.some.injEq,Addr.mk.injEq,true_and,and_true] at h2
  obtain⟨rfl,_⟩:=h2
  exact zAB h4 j
def PutR (W:World) (g:Nat) (f:V→Option Nat) (k:V) (n:Nat) (w':World):Prop:=(∃E',MapAt Tryz.prog 25 w' g E'∧Graph E' (putF f k (some n)))∧Mods (· =g) W w'∧w'.heap.size=W.heap.size
theorem put_at {w:World} {g:Nat} {E:List (Value×Value)} {f:V→Option Nat} (hE:MapAt Tryz.prog 25 w g E) (hG:Graph E f) {k:V} (hk:WfV k) (n:Nat) (W:World) (hW:W.heap[g]? =w.heap[g]?):
  ∃w',(Instr.mapUpdate 157 (.map (some g)) k.v (.int .i64 (n:Int))).run Tryz.prog W= .ok () w'∧PutR W g f k n w':=by
 obtain⟨l,hl⟩:=keyV hk
 obtain⟨w',E',h1,h2,h3,h4,h5,_⟩:=(hE.keep hW).store keyedV (e:=3) (t:=157) (by kernel_rfl) hl (.int .i64 (n:Int))
 refine⟨w',h1,⟨E',h2,fun p=> ?_⟩,h3,h4⟩
 rw[h5,hG]
 constructor
 ·rintro(rfl|⟨⟨v,j,rfl,hv⟩,hne⟩)
  ·exact⟨k,n,rfl,putF_same _ _ _⟩
  ·exact⟨v,j,rfl,by rw[zBr (fun e=>hne (by rw[e]))];exact hv⟩
 ·rintro⟨v,j,rfl,hv⟩
  by_cases hvk:v=k
  ·subst hvk
   rw[putF_same] at hv
   injection hv with hv
   subst hv
   exact .inl rfl
  ·rw[zBr hvk] at hv
   exact .inr ⟨⟨v,j,rfl,hv⟩,fun e=>hvk (V.v_inj e)⟩
abbrev slZero:Value:= .agg #[.int .i64 0,.int .i64 0,.int .i64 0,.string ⟨#[]⟩,.int .i64 0,.int .i64 0,.int .i64 0,.int .i64 0,.string ⟨#[]⟩,.int .i64 0,.bool false]
theorem info161p:(Tryz.prog.info? 161).map (fun i=>(i.zero,i.size,i.bytes))=some (some slZero,11,104):=by kernel_rfl
theorem zAj {F:Nat→Prop} {W w':World} (h:Mods F W w') {b:Nat} {o:Obj} (hb:W.heap[b]? =some o) (hne:¬F b):w'.heap[b]? =some o:=(h.block b (Array.getElem?_eq_some_iff.1 hb).1 hne).trans hb
theorem row_ne {w:World} {base g n cap size:Nat} {e:TypeId} {so:Option Addr} {xs:List Value} (h:w.ownsRow base e size (.slice so n cap) n xs) {es:Array MapEntry} {c:Nat} (hg:w.heap[g]? =some (.map es c)) (b:Nat) (hb:(Value.slice so n cap).ownBlock=some b):b≠g:=by
 rcases h.2 with⟨h2,_⟩|⟨g',cap',cur,h2,h3,h4,_⟩
 ·rw[h2] at hb;cases hb
 ·rw[h2] at hb
  injection hb with hb
  subst hb
  rintro rfl
  have h4:w.heap[g']? =some (.cells cur e (0,0)):=h4
  rw[hg] at h4
  cases h4
theorem row_ne_m {w:World} {base m n cap size:Nat} {so:Option Addr} {xs:List Value} {cs:Array Value} (h:w.ownsRow base 161 size (.slice so n cap) n xs) (hm:w.heap[m]? =some (.cells cs 159 (0,0))) (b:Nat) (hb:(Value.slice so n cap).ownBlock=some b):b≠m:=by
 rcases h.2 with⟨h2,_⟩|⟨g',cap',cur,h2,h3,h4,_⟩
 ·rw[h2] at hb;cases hb
 ·rw[h2] at hb
  injection hb with hb
  subst hb
  rintro rfl
  have h4:w.heap[g']? =some (.cells cur 161 (0,0)):=h4
  rw[hm] at h4
  injection h4 with h4
  injection h4 with _ h6
  cases h6
theorem cells_eleven (w:World) (x0 x1 x2 x3 x4 x5 x6 x7 x8 x9 x10:Value) (t:TypeId) (B:Nat) (hB:B=w.heap.size):∀j u,[x0,x1,x2,x3,x4,x5,x6,x7,x8,x9,x10][j]? =some u→(w.alloc (.cells #[x0,x1,x2,x3,x4,x5,x6,x7,x8,x9,x10] t)).cell? ((⟨B,0,none⟩:Addr).add j)=some u:=by
 intro j u hj
 subst hB
 have e:(⟨w.heap.size,0,none⟩:Addr).add j=⟨w.heap.size,j,none⟩:=by unfold Addr.add;split<;>simp_all
 rw[e,zAA (zAg _ _)]
 simpa using hj
theorem zBP (w:World) (x0 x1 x2 x3 x4 x5 x6 x7 x8 x9 x10:Value) (t:TypeId) (B:Nat) (hB:B=w.heap.size):∀j u,[x0,x1,x2,x3,x4,x5,x6,x7,x8,x9,x10][j]? =some u→(w.alloc (.cells #[x0,x1,x2,x3,x4,x5,x6,x7,x8,x9,x10] t)).drew.cell? ((⟨B,0,none⟩:Addr).add j)=some u:=cells_eleven w x0 x1 x2 x3 x4 x5 x6 x7 x8 x9 x10 t B hB
theorem liveN_push (L:List Sl) (k v:V):liveN (L++[⟨k,v,false⟩])=liveN L+1:=by
 unfold liveN
 rw[List.filter_append,List.length_append]
 rfl
theorem rowSl_push (L:List Sl) (s:Sl):rowSl (L++[s])=rowSl L++zBS s:=by
 unfold rowSl
 rw[List.flatMap_append]
 congr 1
theorem push_omap {w3 w4:World} {m g rb cap:Nat} {sv0:Value} {L:List Sl} {f:V→Option Nat} {k v:V}
  (hm4:w4.heap[m]? =some (.cells #[sv0,.map (some g),.int .i64 (liveN L:Nat)] 159))
  (hown:w4.ownsRow 0 161 11 (.slice (some ⟨rb,0,none⟩) (L.length+1) cap) (L.length+1) (rowSl L++zBS ⟨k,v,false⟩))
  (hput:∃E',MapAt Tryz.prog 25 w3 g E'∧Graph E' (putF f k (some L.length))) (hg4:w4.heap[g]? =w3.heap[g]?) (hmg:m≠g) (hI:Idx L f) (hno:NoLive L f k) (hwf:∀s∈L,WfV s.k∧WfV s.v) (hk:WfV k) (hv:WfV v):
  OMap ((w4.setCell ⟨m,0,none⟩ (.slice (some ⟨rb,0,none⟩) (L.length+1) cap)).setCell ⟨m,2,none⟩ (.int .i64 ((liveN L:Nat)+1))) m g (.slice (some ⟨rb,0,none⟩) (L.length+1) cap) (L++[⟨k,v,false⟩]):=by
 have hrm:rb≠m:=fun e=>mrb hm4 hown e.symm
 obtain⟨E',h1,h2⟩:=hput
 refine⟨?_,?_,?_,E',_,h1.keep ?_,h2,hI.push hno⟩
 ·have:=zAP (zAP hm4 0 (.slice (some ⟨rb,0,none⟩) (L.length+1) cap)) 2 (.int .i64 ((liveN L:Nat)+1))
  rw[liveN_push]
  exact this
 ·rw[rowSl_push,List.length_append]
  refine zAZ hown fun b hb=> ?_
  have hb:some rb=some b:=hb
  injection hb with hb
  subst hb
  rw[Below.heap_setCell _ _ _ _ hrm,Below.heap_setCell _ _ _ _ hrm]
 ·intro s hs
  rcases List.mem_append.1 hs with h|h
  ·exact hwf s h
  ·rw[List.mem_singleton] at h
   subst h
   exact⟨hk,hv⟩
 ·rw[Below.heap_setCell _ _ _ _ (fun e=>hmg e.symm),Below.heap_setCell _ _ _ _ (fun e=>hmg e.symm),hg4]
theorem push_mods {w w2 w3 w3a w4:World} {F:Nat→Prop} {m g:Nat} {o:Option Nat} {u x:Value} (h2:Mods F w w2) (h3:Mods (· =g) w2 w3) (h3a:Below w3.heap.size w3 w3a) (h4:w3a.grownBy w4 o) (hm:F m) (hg:F g) (ho:∀b,o=some b→F b∨w.heap.size≤b):
  Mods F w ((w4.setCell ⟨m,0,none⟩ u).setCell ⟨m,2,none⟩ x):=by
 have a:Mods F w w3a:=(h2.trans (h3.mono (fun k _ e=>by rw[e];exact hg))).trans (Mods.of_below h3a)
 have hz:=a.size
 have b:Mods F w w4:=⟨h4.os.trans a.os,h4.tape.trans a.tape,h4.output.trans a.output,Nat.le_trans hz h4.size,fun k hk hF=>(h4.block k (Nat.lt_of_lt_of_le hk hz) (fun e=>by
  rcases ho k e.symm with h|h
  ·exact hF h
  ·omega)).trans (a.block k hk hF)⟩
 exact zAO (zAO b (.inl hm) _) (.inl hm) _
def DropRel (w:World) (g:Nat) (L:List Sl) (f:V→Option Nat) (gg:Nat) (vl vi:Value) (wr:World):Prop:=
 ∃(i cap2:Nat) (so2:Option Addr),L.length-i=gg∧ .slice so2 (dropM (L.take i)).length cap2=vl∧ .int .i64 (i:Nat)=vi∧i≤L.length∧
  wr.ownsRow w.heap.size 161 11 (.slice so2 (dropM (L.take i)).length cap2) (dropM (L.take i)).length (rowSl (dropM (L.take i)))∧
  (∃E,MapAt Tryz.prog 25 wr g E∧Graph E (midF L f i))∧Mods (· =g) w wr
def DropPost (w:World) (m g:Nat) (L:List Sl) (f:V→Option Nat) (e:Ending) (w':World):Prop:=
 e= .returned (.tuple #[])∧∃(so:Option Addr) (cap:Nat),w'.heap[m]? =some (.cells #[.slice so (dropM L).length cap,.map (some g),.int .i64 (liveN L:Nat)] 159)∧
  w'.ownsRow w.heap.size 161 11 (.slice so (dropM L).length cap) (dropM L).length (rowSl (dropM L))∧(∃E,MapAt Tryz.prog 25 w' g E∧Graph E (midF L f L.length))∧Mods (fun b=>b=m∨b=g) w w'
theorem slice_shape0 {w:World} {base:Nat} {e:TypeId} {size:Nat} {v:Value} {n:Nat} {xs:List Value} (ho:w.ownsRow base e size v n xs):∃so cap,v= .slice so n cap:=by
 rcases ho.2 with⟨h1,h2,_⟩|⟨g',cap',cur,h2,_⟩
 ·first
  |exact⟨none,0,by rw[h1];simp_all⟩
  |(subst h1;exact⟨none,0,by simp_all⟩)
 ·exact⟨_,_,h2⟩
theorem look_plain {w:World} {g:Nat} {E:List (Value×Value)} {f:V→Option Nat} (hE:MapAt Tryz.prog 25 w g E) (hG:Graph E f) {k:V} (hk:WfV k) (W:World) (hW:W.heap[g]? =w.heap[g]?):
  (Instr.lookup 157 (.map (some g)) k.v false).run Tryz.prog W= .ok (.int .i64 (((f k).getD 0:Nat):Int)) W:=by
 obtain⟨l,hl⟩:=keyV hk
 have hz:(zeroValue 3).run Tryz.prog W= .ok (.int .i64 0) W:=Tryz.zeroValue3 W
 rcases(hE.keep hW).look keyedV (e:=3) (t:=157) (by kernel_rfl) hz hl with⟨h1,h2⟩|⟨v,h1,h2⟩
 ·have:f k=none:=by
   cases hf:f k with
   |none=>rfl
   |some n=>exact absurd rfl (h1 _ ((hG _).2 ⟨k,n,rfl,hf⟩))
  rw[this]
  exact h2 false
 ·obtain⟨v2,n,h3,h4⟩:=(hG _).1 h1
  simp only[Prod.mk.injEq] at h3
  obtain⟨h5,rfl⟩:=h3
  have:=V.v_inj h5
  subst this
  rw[h4]
  exact h2 false
def DelR (W:World) (g:Nat) (f:V→Option Nat) (k:V) (w':World):Prop:=(∃E',MapAt Tryz.prog 25 w' g E'∧Graph E' (putF f k none))∧Mods (· =g) W w'∧W.heap.size≤w'.heap.size
theorem del_at {w:World} {g:Nat} {E:List (Value×Value)} {f:V→Option Nat} (hE:MapAt Tryz.prog 25 w g E) (hG:Graph E f) {k:V} (hk:WfV k) (ty:TypeId) (W:World) (hW:W.heap[g]? =w.heap[g]?):
  ∃w',(Builtin.delete_ #[157,25] ty #[.map (some g),k.v]).run Tryz.prog W= .ok (.tuple #[]) w'∧DelR W g f k w':=by
 obtain⟨l,hl⟩:=keyV hk
 obtain⟨w',E',h1,h2,h3,h4,h5⟩:=(hE.keep hW).drop keyedV (e:=3) (t:=157) (by kernel_rfl) hl ty
 refine⟨w',h1,⟨E',h2,fun p=> ?_⟩,h3,Nat.le_of_eq h4.symm⟩
 rw[h5,hG]
 constructor
 ·rintro⟨⟨v,j,rfl,hv⟩,hne⟩
  exact⟨v,j,rfl,by rw[zBr (fun e=>hne (by rw[e]))];exact hv⟩
 ·rintro⟨v,j,rfl,hv⟩
  by_cases hvk:v=k
  ·subst hvk
   rw[putF_same] at hv
   cases hv
  ·rw[zBr hvk] at hv
   exact⟨⟨v,j,rfl,hv⟩,fun e=>hvk (V.v_inj e)⟩
theorem putF_none {f:V→Option Nat} {k:V} (h:f k=none):putF f k none=f:=by
 funext y
 by_cases hy:y=k
 ·subst hy;rw[putF_same,h]
 ·exact zBr hy
theorem gone_yes {L:List Sl} {f:V→Option Nat} (h:Idx L f) {i:Nat} {s:Sl} (hi:L[i]? =some s) (hg:s.g=true) (ht:(midF L f i s.k).getD 0=i):midF L f (i+1)=putF (midF L f i) s.k none:=by
 rw[mid_gone h hi hg]
 split
 ·rfl
 ·rename_i hne
  cases hx:midF L f i s.k with
  |none=>rw[putF_none hx]
  |some j=>
   rw[hx] at ht hne
   exact absurd (congrArg some ht) hne
theorem gone_no {L:List Sl} {f:V→Option Nat} (h:Idx L f) {i:Nat} {s:Sl} (hi:L[i]? =some s) (hg:s.g=true) (ht:(midF L f i s.k).getD 0≠i):midF L f (i+1)=midF L f i:=by
 rw[mid_gone h hi hg]
 split
 ·rename_i he
  rw[he] at ht
  exact absurd rfl ht
 ·rfl
theorem drop_gone {L:List Sl} {i:Nat} {s:Sl} (hi:L[i]? =some s) (hg:s.g=true):dropM (L.take (i+1))=dropM (L.take i):=by
 rw[zBz hi,hg];rfl
theorem drop_live {L:List Sl} {i:Nat} {s:Sl} (hi:L[i]? =some s) (hg:s.g=false):dropM (L.take (i+1))=dropM (L.take i)++[s]:=by
 rw[zBz hi,hg];rfl
theorem drop_len (L:List Sl):(dropM L).length≤L.length:=List.length_filter_le _ _
theorem row_drop {W:World} {B:Nat} {L:List Sl} {i:Nat} {so2:Option Addr} {cap2:Nat} (h:W.ownsRow B 161 11 (.slice so2 (dropM (L.take i)).length cap2) (dropM (L.take i)).length (rowSl (dropM (L.take i)))) {j:Nat} (e:dropM (L.take j)=dropM (L.take i)):
  W.ownsRow B 161 11 (.slice so2 (dropM (L.take j)).length cap2) (dropM (L.take j)).length (rowSl (dropM (L.take j))):=by rw[e];exact h
theorem liveN_cons (s:Sl) (L:List Sl):liveN (s::L)=(if s.g then 0 else 1)+liveN L:=by
 unfold liveN
 cases hg:s.g<;>simp[hg]<;>omega
theorem liveN_set:∀(L:List Sl) (n:Nat) (s x:Sl),L[n]? =some s→s.g=false→liveN (L.set n x)=liveN L-(if x.g then 1 else 0)∧1≤liveN L
 |[],n,s,x,h,_=>by simp at h
 |a::L,0,s,x,h,hg=>by
  rw[List.getElem?_cons_zero] at h
  injection h with h
  subst h
  rw[List.set_cons_zero,liveN_cons,liveN_cons,hg]
  cases x.g<;>simp
 |a::L,n+1,s,x,h,hg=>by
  rw[List.getElem?_cons_succ] at h
  obtain⟨h1,h2⟩:=liveN_set L n s x h hg
  rw[List.set_cons_succ,liveN_cons,liveN_cons,h1]
  cases x.g<;>simp<;>omega
theorem wf_set {L:List Sl} (h:∀s∈L,WfV s.k∧WfV s.v) (n:Nat) {x:Sl} (hx:WfV x.k∧WfV x.v):∀s∈L.set n x,WfV s.k∧WfV s.v:=by
 intro s hs
 rcases List.mem_or_eq_of_mem_set hs with h1|h1
 ·exact h s h1
 ·rw[h1];exact hx
theorem wf_nil:WfV V.nil:=⟨⟨by decide,by decide⟩,⟨by decide,by decide⟩,⟨by decide,by decide⟩,by decide,⟨by decide,by decide⟩⟩
theorem zCK {w w':World} {m g:Nat} {sv:Value} {L:List Sl} (h:OMap w m g sv L) (hb:Below w.heap.size w w'):OMap w' m g sv L:=
 h.keep (hb.block _ (Array.getElem?_eq_some_iff.1 h.hm).1) (by obtain⟨E,f,hE,_⟩:=h.map;exact hb.block _ hE.lt) (fun b e=>hb.block _ (zAS h.row e).2)
theorem om_same {w w':World} {m g:Nat} {sv:Value} {L:List Sl} {e:Ending} (h:OMap w m g sv L) (he:e= .returned (.int .i64 0)) (hb:Below w.heap.size w w'):OmPost w m g sv L e w':=
 ⟨he,sv,zCK h hb,Mods.of_below hb,fun _ h=> .inl h⟩
theorem om_remove {w w2:World} {m g rb cap n:Nat} {L:List Sl} {sl:Sl} {k:V} {f:V→Option Nat} {E:List (Value×Value)}
  (hm:w.heap[m]? =some (.cells #[.slice (some ⟨rb,0,none⟩) L.length cap,.map (some g),.int .i64 (liveN L:Nat)] 159)) (hrow:w.ownsRow 0 161 11 (.slice (some ⟨rb,0,none⟩) L.length cap) L.length (rowSl L))
  (hwf:∀s∈L,WfV s.k∧WfV s.v) (hE:MapAt Tryz.prog 25 w g E) (hG:Graph E f) (hI:Idx L f) (hf:f k=some n) (hs:L[n]? =some sl) (hg:sl.g=false) (hk:WfV k) (hb:Below w.heap.size w w2):
  OmPost w m g (.slice (some ⟨rb,0,none⟩) L.length cap) (L.set n ⟨k,V.nil,true⟩) (.returned (.int .i64 0)) ((setCells w2 rb (n*11) (zBS ⟨k,V.nil,true⟩)).setCell ⟨m,2,none⟩ (.int .i64 ((liveN L:Nat)-1:Int))):=by
 have hn:n<L.length:=(List.getElem?_eq_some_iff.1 hs).1
 have hmr:m≠rb:=fun e=>mrb hm hrow e
 have hgr:g≠rb:=by obtain⟨es,c,hh,_⟩:=id hE;exact fun e=>row_ne hrow hh rb rfl e.symm
 have hgm:g≠m:=by obtain⟨es,c,hh,_⟩:=id hE;intro e;rw[e,hm] at hh;cases hh
 have hml:=(Array.getElem?_eq_some_iff.1 hm).1
 obtain⟨l1,l2⟩:=liveN_set L n sl ⟨k,V.nil,true⟩ hs hg
 have hm2:(setCells w2 rb (n*11) (zBS ⟨k,V.nil,true⟩)).heap[m]? =some (.cells #[.slice (some ⟨rb,0,none⟩) L.length cap,.map (some g),.int .i64 (liveN L:Nat)] 159):=by
  rw[zBV hmr];exact hkeep hb hm
 refine⟨rfl,_,⟨?_,?_,wf_set hwf n ⟨hk,wf_nil⟩,E,f,hE.keep ?_,hG,hI.remove hf⟩,?_,fun _ h=> .inl h⟩
 ·rw[zAP hm2 2 (.int .i64 ((liveN L:Nat)-1:Int)),l1]
  have:(((liveN L-(if (⟨k,V.nil,true⟩:Sl).g=true then 1 else 0):Nat)):Int)=(liveN L:Nat)-1:=by
   show(((liveN L-1:Nat)):Int)=_
   omega
  rw[this]
  rfl
 ·have h3:=zBI (zBS ⟨k,V.nil,true⟩) w2 (rowSl L) (n*11) (zAQ (zAa hb (Nat.le_refl _)) hrow)
  rw[rowSl_set hn] at h3
  rw[List.length_set]
  exact zAZ h3 (fun b hb=>Below.heap_setCell _ _ _ _ (by injection hb with hb;subst hb;exact fun e=>hmr e.symm))
 ·rw[Below.heap_setCell _ _ _ _ hgm,zBV hgr]
  exact hb.block _ hE.lt
 ·exact zAO (zBd (.inl (.inr (.inr rfl))) _ _ _ (Mods.of_below hb)) (.inl (.inl rfl)) _
theorem om_write {w w2:World} {m g rb cap n:Nat} {L:List Sl} {sl:Sl} {k v:V} {f:V→Option Nat} {E:List (Value×Value)}
  (hm:w.heap[m]? =some (.cells #[.slice (some ⟨rb,0,none⟩) L.length cap,.map (some g),.int .i64 (liveN L:Nat)] 159)) (hrow:w.ownsRow 0 161 11 (.slice (some ⟨rb,0,none⟩) L.length cap) L.length (rowSl L))
  (hwf:∀s∈L,WfV s.k∧WfV s.v) (hE:MapAt Tryz.prog 25 w g E) (hG:Graph E f) (hI:Idx L f) (hf:f k=some n) (hs:L[n]? =some sl) (hg:sl.g=false) (hk:WfV k) (hv:WfV v) (hb:Below w.heap.size w w2):
  OmPost w m g (.slice (some ⟨rb,0,none⟩) L.length cap) (L.set n ⟨k,v,false⟩) (.returned (.int .i64 0)) (setCells w2 rb (n*11+5) (zBF v)):=by
 have hn:n<L.length:=(List.getElem?_eq_some_iff.1 hs).1
 have hmr:m≠rb:=fun e=>mrb hm hrow e
 have hgr:g≠rb:=by obtain⟨es,c,hh,_⟩:=id hE;exact fun e=>row_ne hrow hh rb rfl e.symm
 have hsk:sl.k=k:=by
  obtain⟨s',h1,h2⟩:=hI.key k n hf
  rw[hs] at h1
  injection h1 with h1
  subst h1
  exact h2
 obtain⟨l1,l2⟩:=liveN_set L n sl ⟨k,v,false⟩ hs hg
 refine⟨rfl,_,⟨?_,?_,wf_set hwf n ⟨hk,hv⟩,E,f,hE.keep ?_,hG,hI.write hf⟩,?_,fun _ h=> .inl h⟩
 ·rw[zBV hmr,l1]
  exact hkeep hb hm
 ·have h3:=zBI (zBF v) w2 (rowSl L) (n*11+5) (zAQ (zAa hb (Nat.le_refl _)) hrow)
  rw[rowSl_setVal hs,hsk,hg] at h3
  rw[List.length_set]
  exact h3
 ·rw[zBV hgr]
  exact hb.block _ hE.lt
 ·exact zBd (.inl (.inr (.inr rfl))) _ _ _ (Mods.of_below hb)
def RoomRel (w:World) (L:List Sl) (gg:Nat) (vl vi:Value) (wr:World):Prop:=
 ∃(i cap2:Nat) (so2:Option Addr),L.length-i=gg∧ .slice so2 (dropM (L.take i)).length cap2=vl∧ .int .i64 (i:Nat)=vi∧i≤L.length∧
  wr.ownsRow w.heap.size 186 11 (.slice so2 (dropM (L.take i)).length cap2) (dropM (L.take i)).length (rowSl (dropM (L.take i)))∧Below w.heap.size w wr
theorem row_drop2 {W:World} {B:Nat} {L:List Sl} {i j:Nat} {so2:Option Addr} {cap2:Nat} (h:W.ownsRow B 186 11 (.slice so2 (dropM (L.take i)).length cap2) (dropM (L.take i)).length (rowSl (dropM (L.take i)))) (e:dropM (L.take j)=dropM (L.take i)):
  W.ownsRow B 186 11 (.slice so2 (dropM (L.take j)).length cap2) (dropM (L.take j)).length (rowSl (dropM (L.take j))):=by rw[e];exact h
end Go.Proofs.YthkpckgcgkijbaaGreatDoor
