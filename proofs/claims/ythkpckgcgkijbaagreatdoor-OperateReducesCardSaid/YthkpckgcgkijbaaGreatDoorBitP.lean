import Derived.Test.YthkpckgcgkijbaaGreatDoorBase
import Derived.Laws.BitsLemmas
import Derived.Laws.Bits64
import Derived.Maps.OwnSet
import Derived.DeepKeys3
import Derived.Deep.MidRow
set_option linter.unusedVariables false
set_option linter.unusedSimpArgs false
namespace Go.Proofs.YthkpckgcgkijbaaGreatDoor
open Go.RowKit
def zBx (u:Nat) (n:Int):Nat:=if 32≤n∨n≤ -32 then 0 else if 0≤n then u*2^n.toNat%4294967296 else u/2^(-n).toNat
def bitR (o:Int) (u v:Nat) (n:Int):Nat:=if o=9 then u &&& v else if o=10 then u ||| v else if o=11 then u ^^^ v else if o=12 then zBx u n else if o=13 then zBx u (-n) else u ^^^ 4294967295
def zBe (r:Nat):Int:=if 2147483648≤r then(r:Int)-4294967296 else r
theorem wrap_small {k:IntKind} (hk:k= .i64∨k= .u32) (n:Int) (h0:0≤n) (h1:n<2^32):k.wrap n=n:=by
 have e:(2:Int)^32=4294967296:=by decide
 rw[e] at h1
 rcases hk with rfl|rfl
 ·rw[IntKind.wrap_i64];omega
 ·rw[IntKind.wrap_u32];omega
theorem bits_small {k:IntKind} (hk:k= .i64∨k= .u32) (u v:Nat) (hu:u≤4294967295) (hv:v≤4294967295):
  bits .and k u v=((u &&& v:Nat):Int)∧bits .or k u v=((u ||| v:Nat):Int)∧bits .xor k u v=((u ^^^ v:Nat):Int):=by
 have e:(2:Nat)^32=4294967296:=by decide
 have h:=bits_nat k 32 (by rcases hk with rfl|rfl<;>decide) (fun n h0 h1=>wrap_small hk n h0 h1) u v (by omega) (by omega)
 refine⟨h.1,h.2,?_⟩
 have hx:u ^^^ v<2^32:=Nat.xor_lt_two_pow (by omega) (by omega)
 have one:∀a:Nat,a≤4294967295→(BitVec.ofInt k.bits (a:Int)).toNat=a:=fun a ha=>by
  rw[BitVec.toNat_ofInt]
  rcases hk with rfl|rfl
  ·show((a:Int)%((2^64:Nat):Int)).toNat=a
   have:((2^64:Nat):Int)=18446744073709551616:=by decide
   rw[this];omega
  ·show((a:Int)%((2^32:Nat):Int)).toNat=a
   have:((2^32:Nat):Int)=4294967296:=by decide
   rw[this];omega
 show k.wrap ((BitVec.ofInt k.bits (u:Int) ^^^ BitVec.ofInt k.bits (v:Int)).toNat:Int)=_
 rw[BitVec.toNat_xor,one u hu,one v hv]
 exact wrap_small hk _ (by omega) (by rw[show(2:Int)^32=4294967296 by decide];omega)
theorem shiftN_le {u:Nat} (hu:u≤4294967295) (n:Int):zBx u n≤4294967295:=by
 unfold zBx
 split
 ·omega
 ·split
  ·omega
  ·have:=Nat.div_le_self u (2^(-n).toNat);omega
theorem bitR_le {u v:Nat} (hu:u≤4294967295) (hv:v≤4294967295) (o n:Int):bitR o u v n≤4294967295:=by
 have e:(2:Nat)^32=4294967296:=by decide
 have h1:u &&& v<2^32:=Nat.and_lt_two_pow _ (by omega)
 have h2:u ||| v<2^32:=Nat.or_lt_two_pow (by omega) (by omega)
 have h3:u ^^^ v<2^32:=Nat.xor_lt_two_pow (by omega) (by omega)
 have h4:u ^^^ 4294967295<2^32:=Nat.xor_lt_two_pow (by omega) (by omega)
 have h5:=shiftN_le hu n
 have h6:=shiftN_le hu (-n)
 unfold bitR
 repeat' split
 all_goals omega
end Go.Proofs.YthkpckgcgkijbaaGreatDoor
namespace Go.Proofs.YthkpckgcgkijbaaGreatDoor
open Go.RowKit Go.Proofs.Lexi
def isBitOp (o:Int):Bool:=decide (9≤o∧o≤13)||decide (o=23)
def bitArg (o:Int) (b:N2):N2:=if o=23 then(0,1) else b
def lo32 (n:Int):Nat:=(n%4294967296).toNat
def bitV (o:Int) (a b:N2):RR:=if a.2=1∧b.2=1 then intN (zBe (bitR o (lo32 a.1) (lo32 b.1) b.1)) else .error 8
def bitsN (o:Int) (a b:N2):RR:=if isBitOp o&&zAT a&&zAT (bitArg o b) then bitV o a (bitArg o b) else .error 2
theorem zBu (n:Int):lo32 n≤4294967295:=by unfold lo32;omega
theorem zBv (n:Int):n%4294967296=(lo32 n:Int):=by unfold lo32;omega
theorem bits_bad {o:Int} {a b:N2} (h:isBitOp o=false):bitsN o a b= .error 2:=by unfold bitsN;rw[h];rfl
theorem zCO {o:Int} {a b:N2} (h:isBitOp o=true):bitsN o a b=if zAT a&&zAT (bitArg o b) then bitV o a (bitArg o b) else .error 2:=by unfold bitsN;rw[h];rfl
theorem bitV_good {o:Int} {a b:N2} (h1:a.2=1) (h2:b.2=1):bitV o a b=intN (zBe (bitR o (lo32 a.1) (lo32 b.1) b.1)):=by unfold bitV;rw[if_pos ⟨h1,h2⟩]
theorem bitV_bad {o:Int} {a b:N2} (h:a.2≠1∨b.2≠1):bitV o a b= .error 8:=by unfold bitV;rw[if_neg];omega
theorem max_xor {u:Nat} (hu:u≤4294967295):bits .xor .u32 IntKind.u32.max (u:Int)=((u ^^^ 4294967295:Nat):Int):=by
 have e:IntKind.u32.max=((4294967295:Nat):Int):=by decide
 rw[e,(bits_small (k:= .u32) (.inr rfl) 4294967295 u (by omega) hu).2.2,Nat.xor_comm]
theorem wrap_signed {r:Nat} (h:r≤4294967295):wrap64 (wrap32 (r:Int))=zBe r:=by
 unfold wrap64 wrap32 zBe
 split<;>omega
theorem keyedV:Go.Maps.Keyed Tryz.prog 25:= .of_law (deep_law (m:=5) (by decide) (by kernel_rfl) (by kernel_rfl) (by rw[Tryz.underlying25]))
theorem keyedI:Go.Maps.Keyed Tryz.prog 3:=Go.Maps.int_keyed Tryz.underlying3
def i64 (n:Int):Prop:= -9223372036854775808≤n∧n≤9223372036854775807
structure WfV (v:V):Prop where
 k:i64 v.k
 p:i64 v.p
 q:i64 v.q
 s:v.s.size≤maxLen
 r:i64 v.r
theorem wf_lit {n:Int} (h:i64 n):(Lit.int .i64 n).wf=true:=by
 obtain⟨h1,h2⟩:=h
 exact WalkArith.wf_i64 (by omega)
theorem keyI {n:Int} (h:i64 n):∃l,keyOf Tryz.prog 3 (.int .i64 n)=some l:=⟨_,Go.Maps.keyOf_int_mk Tryz.underlying3 (wf_lit h)⟩
theorem keyType25:Tryz.prog.keyType 25=true:=by kernel_rfl
theorem cells25:Tryz.prog.cellsOf 25=5:=by kernel_rfl
theorem cells23:Tryz.prog.cellsOf 23=2:=by kernel_rfl
theorem celT3:Tryz.prog.cellsOf 3=1:=by kernel_rfl
theorem celT9:Tryz.prog.cellsOf 9=1:=by kernel_rfl
theorem keyV {v:V} (h:WfV v):∃l,keyOf Tryz.prog 25 v.v=some l:=by
 have hf:v.v.formed Tryz.prog 25=true:=by
  unfold Value.formed
  rw[Tryz.underlying25]
  show((5:Nat)==Tryz.prog.cellsOf 25)=true
  rw[cells25];rfl
 unfold keyOf
 rw[Tryz.underlying25]
 show∃l,(if (Tryz.prog.keyType 25&&v.v.formed Tryz.prog 25)=true then _ else _)=some l
 rw[keyType25,hf,if_pos (by rfl)]
 have h2:2≤Tryz.prog.types.size:=Nat.le_of_ble_eq_true (by kernel_rfl)
 obtain⟨d,hd⟩:∃d,Tryz.prog.types.size=d+2:=⟨Tryz.prog.types.size-2,by omega⟩
 rw[hd]
 obtain⟨hk,hp,hq,hs,hr⟩:=h
 have wk:=wf_lit hk
 have wp:=wf_lit hp
 have wq:=wf_lit hq
 have wr:=wf_lit hr
 obtain⟨k,p,q,s,r⟩:=v
 apply Option.isSome_iff_exists.1
 rw[Option.isSome_map]
 dsimp only at wk wp wq wr hs
 show(Tryz.prog.keyLits (d+2+1) 25 [.int .i64 k,.int .i64 p,.int .i64 q,.string s,.int .i64 r]).isSome=true
 simp[Program.keyLits,Tryz.underlying25,Tryz.underlying23,Tryz.underlying3,Tryz.underlying9,cells25,cells23,celT3,celT9,wk,wp,wq,wr,hs]
 rw[if_pos (by decide)]
 rfl
end Go.Proofs.YthkpckgcgkijbaaGreatDoor
namespace Go.Proofs.YthkpckgcgkijbaaGreatDoor
structure Sl where
 k:V
 v:V
 g:Bool
def Sl.hit (k:V) (s:Sl):Bool:= !s.g&&eqV s.k k
def liveN (L:List Sl):Nat:=(L.filter (fun s=> !s.g)).length
def dropM (L:List Sl):List Sl:=L.filter (fun s=> !s.g)
def getM (L:List Sl) (k:V):V:=
 match L.find? (Sl.hit k) with
 |some s=>s.v
 |none=>V.nil
def roomM (L:List Sl):List Sl:=if liveN L+8<L.length-liveN L then dropM L else L
def setM (L:List Sl) (k v:V):List Sl:=
 match L.findIdx? (Sl.hit k) with
 |some i=>if v.k=0 then L.set i ⟨k,V.nil,true⟩ else L.set i ⟨k,v,false⟩
 |none=>if v.k=0 then L else roomM L++[⟨k,v,false⟩]
theorem eqV_self (a:V):eqV a a=true:=eqV_iff.2 rfl
theorem hit_iff {k:V} {s:Sl}:Sl.hit k s=true↔s.g=false∧s.k=k:=by
 unfold Sl.hit
 rw[Bool.and_eq_true,eqV_iff]
 cases s.g<;>simp
theorem zBU (L:List Sl):liveN L≤L.length:=List.length_filter_le _ _
structure Idx (L:List Sl) (f:V→Option Nat):Prop where
 live:∀(i:Nat) (s:Sl),L[i]? =some s→s.g=false→f s.k=some i
 key:∀(k:V) (i:Nat),f k=some i→∃s,L[i]? =some s∧s.k=k
 gone:∀(i:Nat) (s:Sl),L[i]? =some s→s.g=true→s.v=V.nil
theorem idx_nil:Idx [] (fun _=>none):=⟨fun i s h=>(by simp at h),fun k i h=>(by cases h),fun i s h=>(by simp at h)⟩
theorem Idx.miss {L:List Sl} {f:V→Option Nat} (h:Idx L f) {k:V} (hk:f k=none):∀s∈L,Sl.hit k s=false:=by
 intro s hs
 obtain⟨i,hi⟩:=List.getElem?_of_mem hs
 cases hh:Sl.hit k s with
 |false=>rfl
 |true=>
  obtain⟨h1,h2⟩:=hit_iff.1 hh
  have:=h.live i s hi h1
  rw[h2,hk] at this
  cases this
theorem Idx.at_ {L:List Sl} {f:V→Option Nat} (h:Idx L f) {k:V} {i:Nat} (hk:f k=some i):∃s,L[i]? =some s∧s.k=k∧∀(j:Nat) (t:Sl),L[j]? =some t→Sl.hit k t=true→j=i:=by
 obtain⟨s,h1,h2⟩:=h.key k i hk
 refine⟨s,h1,h2,fun j t hj ht=> ?_⟩
 obtain⟨h3,h4⟩:=hit_iff.1 ht
 have:=h.live j t hj h3
 rw[h4,hk] at this
 injection this with this
 exact this.symm
theorem find_none {L:List Sl} {k:V} (h:∀s∈L,Sl.hit k s=false):L.find? (Sl.hit k)=none∧L.findIdx? (Sl.hit k)=none:=by
 constructor
 ·rw[List.find?_eq_none];intro s hs;rw[h s hs];decide
 ·rw[List.findIdx?_eq_none_iff];exact h
theorem find_some {L:List Sl} {k:V} {i:Nat} {s:Sl} (hi:L[i]? =some s) (hs:Sl.hit k s=true) (hu:∀(j:Nat) (t:Sl),L[j]? =some t→Sl.hit k t=true→j=i):
  L.find? (Sl.hit k)=some s∧L.findIdx? (Sl.hit k)=some i:=by
 have hl:i<L.length:=(List.getElem?_eq_some_iff.1 hi).1
 have hx:L.findIdx? (Sl.hit k)=some i:=by
  rw[List.findIdx?_eq_some_iff_getElem]
  refine⟨hl,?_,fun j hj=> ?_⟩
  ·rw[List.getElem?_eq_getElem hl] at hi
   injection hi with hi
   rw[hi];exact hs
  ·intro hc
   have:=hu j L[j] (List.getElem?_eq_getElem (by omega)) hc
   omega
 refine⟨?_,hx⟩
 rw[List.find?_eq_bind_findIdx?_getElem?,hx]
 exact hi
theorem Idx.get_miss {L:List Sl} {f:V→Option Nat} (h:Idx L f) {k:V} (hk:f k=none):getM L k=V.nil:=by
 unfold getM
 rw[(find_none (h.miss hk)).1]
theorem Idx.get_at {L:List Sl} {f:V→Option Nat} (h:Idx L f) {k:V} {i:Nat} {s:Sl} (hk:f k=some i) (hs:L[i]? =some s):getM L k=s.v:=by
 obtain⟨s',h1,h2,h3⟩:=h.at_ hk
 rw[hs] at h1
 injection h1 with h1
 subst h1
 unfold getM
 cases hg:s.g with
 |false=>rw[(find_some hs (hit_iff.2 ⟨hg,h2⟩) h3).1]
 |true=>
  have:L.find? (Sl.hit k)=none:=by
   rw[List.find?_eq_none]
   intro t ht hc
   obtain⟨j,hj⟩:=List.getElem?_of_mem ht
   have:=h3 j t hj hc
   subst this
   rw[hs] at hj
   injection hj with hj
   subst hj
   have:=(hit_iff.1 hc).1
   rw[hg] at this
   cases this
  rw[this,h.gone i s hs hg]
def NoLive (L:List Sl) (f:V→Option Nat) (k:V):Prop:=f k=none∨∃i s,f k=some i∧L[i]? =some s∧s.g=true
theorem Idx.noLive {L:List Sl} {f:V→Option Nat} (h:Idx L f) {k:V} (hk:NoLive L f k):∀s∈L,Sl.hit k s=false:=by
 rcases hk with hk|⟨i,s,hk,hs,hg⟩
 ·exact h.miss hk
 ·obtain⟨s',h1,h2,h3⟩:=h.at_ hk
  intro t ht
  cases hh:Sl.hit k t with
  |false=>rfl
  |true=>
   obtain⟨j,hj⟩:=List.getElem?_of_mem ht
   have:=h3 j t hj hh
   subst this
   rw[hs] at hj
   injection hj with hj
   subst hj
   have:=(hit_iff.1 hh).1
   rw[hg] at this
   cases this
theorem Idx.set_none {L:List Sl} {f:V→Option Nat} (h:Idx L f) {k v:V} (hk:NoLive L f k):setM L k v=if v.k=0 then L else roomM L++[⟨k,v,false⟩]:=by
 unfold setM
 rw[(find_none (h.noLive hk)).2]
theorem Idx.set_some {L:List Sl} {f:V→Option Nat} (h:Idx L f) {k v:V} {i:Nat} {s:Sl} (hk:f k=some i) (hs:L[i]? =some s) (hg:s.g=false):
  setM L k v=if v.k=0 then L.set i ⟨k,V.nil,true⟩ else L.set i ⟨k,v,false⟩:=by
 obtain⟨s',h1,h2,h3⟩:=h.at_ hk
 rw[hs] at h1
 injection h1 with h1
 subst h1
 unfold setM
 rw[(find_some hs (hit_iff.2 ⟨hg,h2⟩) h3).2]
def putF (f:V→Option Nat) (k:V) (x:Option Nat):V→Option Nat:=fun y=>if eqV y k then x else f y
theorem putF_same (f:V→Option Nat) (k:V) (x:Option Nat):putF f k x k=x:=by unfold putF;rw[if_pos (eqV_self k)]
theorem zBr {f:V→Option Nat} {k y:V} {x:Option Nat} (h:y≠k):putF f k x y=f y:=by
 unfold putF
 rw[if_neg]
 intro hc
 exact h (eqV_iff.1 hc)
theorem Idx.remove {L:List Sl} {f:V→Option Nat} (h:Idx L f) {k:V} {i:Nat} (hk:f k=some i):Idx (L.set i ⟨k,V.nil,true⟩) f:=by
 have hl:i<L.length:=by obtain⟨s,h1,_⟩:=h.key k i hk;exact(List.getElem?_eq_some_iff.1 h1).1
 refine⟨fun j s hj hs=> ?_,fun y j hy=> ?_,fun j s hj hs=> ?_⟩
 ·rw[List.getElem?_set] at hj
  split at hj
  ·injection hj with hj;subst hj;cases hs
  ·exact h.live j s hj hs
 ·obtain⟨s,h1,h2⟩:=h.key y j hy
  rw[List.getElem?_set]
  split
  ·rename_i he
   subst he
   refine⟨_,rfl,?_⟩
   obtain⟨s',h3,h4⟩:=h.key k i hk
   rw[h1] at h3
   injection h3 with h3
   subst h3
   show k=y
   rw[←h4,h2]
  ·exact⟨s,h1,h2⟩
 ·rw[List.getElem?_set] at hj
  split at hj
  ·injection hj with hj;subst hj;rfl
  ·exact h.gone j s hj hs
theorem Idx.write {L:List Sl} {f:V→Option Nat} (h:Idx L f) {k v:V} {i:Nat} (hk:f k=some i):Idx (L.set i ⟨k,v,false⟩) f:=by
 have hl:i<L.length:=by obtain⟨s,h1,_⟩:=h.key k i hk;exact(List.getElem?_eq_some_iff.1 h1).1
 refine⟨fun j s hj hs=> ?_,fun y j hy=> ?_,fun j s hj hs=> ?_⟩
 ·rw[List.getElem?_set] at hj
  split at hj
  ·rename_i he
   subst he
   injection hj with hj;subst hj;exact hk
  ·exact h.live j s hj hs
 ·obtain⟨s,h1,h2⟩:=h.key y j hy
  rw[List.getElem?_set]
  split
  ·rename_i he
   subst he
   refine⟨_,rfl,?_⟩
   obtain⟨s',h3,h4⟩:=h.key k i hk
   rw[h1] at h3
   injection h3 with h3
   subst h3
   show k=y
   rw[←h4,h2]
  ·exact⟨s,h1,h2⟩
 ·rw[List.getElem?_set] at hj
  split at hj
  ·injection hj with hj;subst hj;cases hs
  ·exact h.gone j s hj hs
theorem Idx.push {L:List Sl} {f:V→Option Nat} (h:Idx L f) {k v:V} (hk:NoLive L f k):Idx (L++[⟨k,v,false⟩]) (putF f k (some L.length)):=by
 have hno:=h.noLive hk
 refine⟨fun j s hj hs=> ?_,fun y j hy=> ?_,fun j s hj hs=> ?_⟩
 ·rw[List.getElem?_append] at hj
  split at hj
  ·have hk2:s.k≠k:=by
    intro hc
    have:=hno s (List.mem_of_getElem? hj)
    rw[hit_iff.2 ⟨hs,hc⟩] at this
    cases this
   rw[zBr hk2]
   exact h.live j s hj hs
  ·rw[List.getElem?_singleton] at hj
   split at hj
   ·injection hj with hj
    subst hj
    rw[putF_same]
    congr 1
    omega
   ·cases hj
 ·by_cases hyk:y=k
  ·subst hyk
   rw[putF_same] at hy
   injection hy with hy
   subst hy
   exact⟨_,List.getElem?_concat_length,rfl⟩
  ·rw[zBr hyk] at hy
   obtain⟨s,h1,h2⟩:=h.key y j hy
   exact⟨s,by rw[List.getElem?_append_left (List.getElem?_eq_some_iff.1 h1).1];exact h1,h2⟩
 ·rw[List.getElem?_append] at hj
  split at hj
  ·exact h.gone j s hj hs
  ·rw[List.getElem?_singleton] at hj
   split at hj
   ·injection hj with hj
    subst hj
    cases hs
   ·cases hj
def midF (L:List Sl) (f:V→Option Nat) (i:Nat) (k:V):Option Nat:=
 match (dropM (L.take i)).findIdx? (Sl.hit k) with
 |some j=>some j
 |none=>match f k with
  |some j=>if i≤j then some j else none
  |none=>none
theorem mid_zero (L:List Sl) (f:V→Option Nat):midF L f 0=f:=by
 funext k
 unfold midF
 have:dropM (L.take 0)=[]:=by rw[List.take_zero];rfl
 rw[this]
 show(match f k with|some j=>if 0≤j then some j else none|none=>none)=f k
 cases f k with
 |none=>rfl
 |some j=>exact if_pos (Nat.zero_le j)
theorem zBz {L:List Sl} {i:Nat} {s:Sl} (h:L[i]? =some s):dropM (L.take (i+1))=if s.g then dropM (L.take i) else dropM (L.take i)++[s]:=by
 have hl:i<L.length:=(List.getElem?_eq_some_iff.1 h).1
 rw[List.getElem?_eq_getElem hl] at h
 injection h with h
 rw[List.take_succ_eq_append_getElem hl,h]
 unfold dropM
 rw[List.filter_append]
 cases hg:s.g with
 |true=>simp[hg]
 |false=>simp[hg]
theorem mem_drop {L:List Sl} {s:Sl}:s∈dropM L↔s∈L∧s.g=false:=by
 unfold dropM
 rw[List.mem_filter]
 cases s.g<;>simp
theorem mid_gone {L:List Sl} {f:V→Option Nat} (h:Idx L f) {i:Nat} {s:Sl} (hi:L[i]? =some s) (hg:s.g=true):
  midF L f (i+1)=if midF L f i s.k=some i then putF (midF L f i) s.k none else midF L f i:=by
 have hd:dropM (L.take (i+1))=dropM (L.take i):=by rw[zBz hi,hg];rfl
 have key:∀k,midF L f (i+1) k=match (dropM (L.take i)).findIdx? (Sl.hit k) with|some j=>some j|none=>match f k with|some j=>if i+1≤j then some j else none|none=>none:=fun k=>by
  rw[←hd];rfl
 have bound:∀k j,(dropM (L.take i)).findIdx? (Sl.hit k)=some j→j<i∧∃m t,m<i∧L[m]? =some t∧Sl.hit k t=true:=fun k j hj=>by
  obtain⟨h1,h2,_⟩:=List.findIdx?_eq_some_iff_getElem.1 hj
  have h3:(dropM (L.take i)).length≤i:=Nat.le_trans (List.length_filter_le _ _) (by rw[List.length_take];omega)
  refine⟨by omega,?_⟩
  have h4:=List.getElem_mem h1
  obtain⟨h5,_⟩:=mem_drop.1 h4
  obtain⟨m,hm⟩:=List.getElem?_of_mem h5
  have h6:m<i:=by
   have:=(List.getElem?_eq_some_iff.1 hm).1
   rw[List.length_take] at this
   omega
  rw[List.getElem?_take_of_lt h6] at hm
  exact⟨m,_,h6,hm,h2⟩
 have step:∀k,(f k=some i→(dropM (L.take i)).findIdx? (Sl.hit k)=none):=fun k hk=>by
  cases hx:(dropM (L.take i)).findIdx? (Sl.hit k) with
  |none=>rfl
  |some j=>
   obtain⟨_,m,t,h1,h2,h3⟩:=bound k j hx
   obtain⟨h4,h5⟩:=hit_iff.1 h3
   have:=h.live m t h2 h4
   rw[h5,hk] at this
   injection this with this
   omega
 have fkey:∀k,f k=some i→k=s.k:=fun k hk=>by
  obtain⟨t,h1,h2⟩:=h.key k i hk
  rw[hi] at h1
  injection h1 with h1
  rw[h1,h2]
 have same:∀k,f k≠some i→midF L f (i+1) k=midF L f i k:=fun k hk=>by
  rw[key]
  unfold midF
  cases(dropM (L.take i)).findIdx? (Sl.hit k) with
  |some j=>rfl
  |none=>
   show(match f k with|some j=>if i+1≤j then some j else none|none=>none)=(match f k with|some j=>if i≤j then some j else none|none=>none)
   cases hf:f k with
   |none=>rfl
   |some j=>
    have:j≠i:=fun e=>hk (by rw[hf,e])
    show(if i+1≤j then some j else none)=(if i≤j then some j else none)
    by_cases hij:i≤j
    ·rw[if_pos hij,if_pos (by omega)]
    ·rw[if_neg hij,if_neg (by omega)]
 by_cases hc:f s.k=some i
 ·have h1:midF L f i s.k=some i:=by
   unfold midF
   rw[step _ hc]
   show(match f s.k with|some j=>if i≤j then some j else none|none=>none)=_
   rw[hc]
   exact if_pos (Nat.le_refl i)
  rw[if_pos h1]
  funext k
  by_cases hk:k=s.k
  ·subst hk
   rw[putF_same,key,step _ hc]
   show(match f s.k with|some j=>if i+1≤j then some j else none|none=>none)=_
   rw[hc]
   exact if_neg (by omega)
  ·rw[zBr hk]
   exact same k (fun e=>hk (fkey k e))
 ·have h1:midF L f i s.k≠some i:=by
   intro he
   unfold midF at he
   cases hx:(dropM (L.take i)).findIdx? (Sl.hit s.k) with
   |some j=>
    rw[hx] at he
    injection he with he
    have:=(bound _ _ hx).1
    omega
   |none=>
    rw[hx] at he
    cases hf:f s.k with
    |none=>rw[hf] at he;cases he
    |some j=>
     rw[hf] at he
     have he:(if i≤j then some j else none)=some i:=he
     split at he
     ·injection he with he;subst he;exact hc hf
     ·cases he
  rw[if_neg h1]
  funext k
  exact same k (fun e=>hc (by rw[←fkey k e];exact e))
theorem mid_live {L:List Sl} {f:V→Option Nat} (h:Idx L f) {i:Nat} {s:Sl} (hi:L[i]? =some s) (hg:s.g=false):
  midF L f (i+1)=putF (midF L f i) s.k (some (dropM (L.take i)).length):=by
 have hd:dropM (L.take (i+1))=dropM (L.take i)++[s]:=by rw[zBz hi,hg];rfl
 have hfs:f s.k=some i:=h.live i s hi hg
 have none_s:(dropM (L.take i)).findIdx? (Sl.hit s.k)=none:=by
  rw[List.findIdx?_eq_none_iff]
  intro t ht
  cases hh:Sl.hit s.k t with
  |false=>rfl
  |true=>
   obtain⟨h5,_⟩:=mem_drop.1 ht
   obtain⟨m,hm⟩:=List.getElem?_of_mem h5
   have h6:m<i:=by
    have:=(List.getElem?_eq_some_iff.1 hm).1
    rw[List.length_take] at this
    omega
   rw[List.getElem?_take_of_lt h6] at hm
   obtain⟨h3,h4⟩:=hit_iff.1 hh
   have:=h.live m t hm h3
   rw[h4,hfs] at this
   injection this with this
   omega
 funext k
 by_cases hk:k=s.k
 ·subst hk
  rw[putF_same]
  unfold midF
  rw[hd,List.findIdx?_append,none_s]
  have h1:Sl.hit s.k s=true:=hit_iff.2 ⟨hg,rfl⟩
  simp[List.findIdx?_cons,h1]
 ·rw[zBr hk]
  unfold midF
  have h1:Sl.hit k s=false:=by
   cases hh:Sl.hit k s with
   |false=>rfl
   |true=>exact absurd (hit_iff.1 hh).2.symm hk
  rw[hd,List.findIdx?_append]
  have h2:[s].findIdx? (Sl.hit k)=none:=by simp[List.findIdx?_cons,h1]
  rw[h2]
  cases(dropM (L.take i)).findIdx? (Sl.hit k) with
  |some j=>rfl
  |none=>
   show(match f k with|some j=>if i+1≤j then some j else none|none=>none)=(match f k with|some j=>if i≤j then some j else none|none=>none)
   cases hf:f k with
   |none=>rfl
   |some j=>
    have:j≠i:=fun e=>by
     subst e
     obtain⟨t,h3,h4⟩:=h.key k j hf
     rw[hi] at h3
     injection h3 with h3
     subst h3
     exact hk h4.symm
    show(if i+1≤j then some j else none)=(if i≤j then some j else none)
    by_cases hij:i≤j
    ·rw[if_pos hij,if_pos (by omega)]
    ·rw[if_neg hij,if_neg (by omega)]
theorem Idx.dropped {L:List Sl} {f:V→Option Nat} (h:Idx L f):Idx (dropM L) (midF L f L.length):=by
 have hm:∀k,midF L f L.length k=(dropM L).findIdx? (Sl.hit k):=fun k=>by
  unfold midF
  rw[List.take_length]
  cases(dropM L).findIdx? (Sl.hit k) with
  |some j=>rfl
  |none=>
   show(match f k with|some j=>if L.length≤j then some j else none|none=>none)=none
   cases hf:f k with
   |none=>rfl
   |some j=>
    obtain⟨s,h1,_⟩:=h.key k j hf
    have:=(List.getElem?_eq_some_iff.1 h1).1
    exact if_neg (by omega)
 have uniq:∀(i j:Nat) (s t:Sl),L[i]? =some s→L[j]? =some t→s.g=false→t.g=false→s.k=t.k→i=j:=fun i j s t hi hj hs ht hk=>by
  have h1:=h.live i s hi hs
  have h2:=h.live j t hj ht
  rw[hk,h2] at h1
  injection h1 with h1
  exact h1.symm
 refine⟨fun i s hi hs=> ?_,fun k i hk=> ?_,fun i s hi hs=> ?_⟩
 ·rw[hm]
  have hl:i<(dropM L).length:=(List.getElem?_eq_some_iff.1 hi).1
  have hs2:(dropM L)[i]=s:=by rw[List.getElem?_eq_getElem hl] at hi;injection hi
  rw[List.findIdx?_eq_some_iff_getElem]
  refine⟨hl,by rw[hs2];exact hit_iff.2 ⟨hs,rfl⟩,fun j hj hc=> ?_⟩
  have hpw:(dropM L).Pairwise (fun a b=>a.k≠b.k):=by
   have:L.Pairwise (fun a b=>a.g=false→b.g=false→a.k≠b.k):=by
    rw[List.pairwise_iff_getElem]
    intro a b ha hb hab h1 h2 h3
    have:=uniq a b L[a] L[b] (List.getElem?_eq_getElem ha) (List.getElem?_eq_getElem hb) h1 h2 h3
    omega
   have h2:=this.filter (fun s=> !s.g)
   refine h2.imp_of_mem ?_
   intro a b ha hb hab
   exact hab (mem_drop.1 ha).2 (mem_drop.1 hb).2
  have:=(List.pairwise_iff_getElem.1 hpw) j i (by omega) hl hj
  rw[hs2] at this
  exact this (hit_iff.1 hc).2
 ·rw[hm] at hk
  obtain⟨h1,h2,_⟩:=List.findIdx?_eq_some_iff_getElem.1 hk
  exact⟨_,List.getElem?_eq_getElem h1,(hit_iff.1 h2).2⟩
 ·have:=(mem_drop.1 (List.mem_of_getElem? hi)).2
  rw[this] at hs
  cases hs
theorem Idx.noLive_drop {L:List Sl} {f:V→Option Nat} (h:Idx L f) {k:V} (hk:NoLive L f k):NoLive (dropM L) (midF L f L.length) k:=by
 refine .inl ?_
 cases hc:midF L f L.length k with
 |none=>rfl
 |some i=>
  obtain⟨s,h1,h2⟩:=h.dropped.key k i hc
  have h3:=mem_drop.1 (List.mem_of_getElem? h1)
  have:=h.noLive hk s h3.1
  rw[hit_iff.2 ⟨h3.2,h2⟩] at this
  cases this
end Go.Proofs.YthkpckgcgkijbaaGreatDoor
namespace Go.Proofs.YthkpckgcgkijbaaGreatDoor
open Go.RowKit Go.Proofs.Lexi
def settleR (nk na:Int) (v x:V):V:=
 if nk=1 then v else if nk≠2 then V.nil else if na=1 then x else if na=2 then boolV (trueV x) else if na=3 then boolV (!trueV x) else V.nil
end Go.Proofs.YthkpckgcgkijbaaGreatDoor
