import Derived.Test.YthkpckgcgkijbaaGreatDoorLexA
set_option linter.unusedVariables false
set_option linter.unusedSimpArgs false
namespace Go.Proofs.YthkpckgcgkijbaaGreatDoor
open Go.RowKit Go.Proofs.Lexi
theorem mixed:Tryz.prog.follows .mixedOrders=true:=by kernel_rfl
theorem zBq {a b:Bool} (h:a=b):Ending.returned (.bool a)= .returned (.bool b):=by rw[h]
theorem zBE {a b:Int} (h:a=b):Ending.returned (.int .i64 a)= .returned (.int .i64 b):=by rw[h]
theorem zAA {w:World} {b o:Nat} {cs:Array Value} {t:TypeId} {fz:Nat×Nat} (h:w.heap[b]? =some (.cells cs t fz)):w.cell? ⟨b,o,none⟩=cs[o]? :=by
 simp[World.cell?,h]
instance:Coe Int Value:=⟨fun n=> .int .i64 n⟩
instance:Coe ByteArray Value:=⟨fun s=> .string s⟩
theorem zBN {w:World} {b:Nat} {c0 c1 c2:Value} {t:TypeId} {fz:Nat×Nat} (h:w.heap[b]? =some (.cells #[c0,c1,c2] t fz)):w.cell? ⟨b,0,none⟩=some c0∧w.cell? ⟨b,1,none⟩=some c1∧w.cell? ⟨b,2,none⟩=some c2:=⟨(by rw[zAA h];rfl),(by rw[zAA h];rfl),(by rw[zAA h];rfl)⟩
theorem froz3 {w:World} {b:Nat} {cs:Array Value} {t:TypeId} (h:w.heap[b]? =some (.cells cs t (0,0))):w.frozen? ⟨b,0,none⟩=false∧w.frozen? ⟨b,1,none⟩=false∧w.frozen? ⟨b,2,none⟩=false:=⟨(by simp[World.frozen?,h]),(by simp[World.frozen?,h]),(by simp[World.frozen?,h])⟩
theorem cells5 {w:World} {b:Nat} {c0 c1 c2 c3 c4:Value} {t:TypeId} {fz:Nat×Nat} (h:w.heap[b]? =some (.cells #[c0,c1,c2,c3,c4] t fz)):w.cell? ⟨b,0,none⟩=some c0∧w.cell? ⟨b,1,none⟩=some c1∧w.cell? ⟨b,2,none⟩=some c2∧w.cell? ⟨b,3,none⟩=some c3∧w.cell? ⟨b,4,none⟩=some c4:=⟨(by rw[zAA h];rfl),(by rw[zAA h];rfl),(by rw[zAA h];rfl),(by rw[zAA h];rfl),(by rw[zAA h];rfl)⟩
theorem froz5 {w:World} {b:Nat} {cs:Array Value} {t:TypeId} (h:w.heap[b]? =some (.cells cs t (0,0))):w.frozen? ⟨b,0,none⟩=false∧w.frozen? ⟨b,1,none⟩=false∧w.frozen? ⟨b,2,none⟩=false∧w.frozen? ⟨b,3,none⟩=false∧w.frozen? ⟨b,4,none⟩=false:=⟨(by simp[World.frozen?,h]),(by simp[World.frozen?,h]),(by simp[World.frozen?,h]),(by simp[World.frozen?,h]),(by simp[World.frozen?,h])⟩
theorem cells9 {w:World} {b:Nat} {c0 c1 c2 c3 c4 c5 c6 c7 c8:Value} {t:TypeId} {fz:Nat×Nat} (h:w.heap[b]? =some (.cells #[c0,c1,c2,c3,c4,c5,c6,c7,c8] t fz)):w.cell? ⟨b,0,none⟩=some c0∧w.cell? ⟨b,1,none⟩=some c1∧w.cell? ⟨b,2,none⟩=some c2∧w.cell? ⟨b,3,none⟩=some c3∧w.cell? ⟨b,4,none⟩=some c4∧w.cell? ⟨b,5,none⟩=some c5∧w.cell? ⟨b,6,none⟩=some c6∧w.cell? ⟨b,7,none⟩=some c7∧w.cell? ⟨b,8,none⟩=some c8:=⟨(by rw[zAA h];rfl),(by rw[zAA h];rfl),(by rw[zAA h];rfl),(by rw[zAA h];rfl),(by rw[zAA h];rfl),(by rw[zAA h];rfl),(by rw[zAA h];rfl),(by rw[zAA h];rfl),(by rw[zAA h];rfl)⟩
theorem froz9 {w:World} {b:Nat} {cs:Array Value} {t:TypeId} (h:w.heap[b]? =some (.cells cs t (0,0))):w.frozen? ⟨b,0,none⟩=false∧w.frozen? ⟨b,1,none⟩=false∧w.frozen? ⟨b,2,none⟩=false∧w.frozen? ⟨b,3,none⟩=false∧w.frozen? ⟨b,4,none⟩=false∧w.frozen? ⟨b,5,none⟩=false∧w.frozen? ⟨b,6,none⟩=false∧w.frozen? ⟨b,7,none⟩=false∧w.frozen? ⟨b,8,none⟩=false:=⟨(by simp[World.frozen?,h]),(by simp[World.frozen?,h]),(by simp[World.frozen?,h]),(by simp[World.frozen?,h]),(by simp[World.frozen?,h]),(by simp[World.frozen?,h]),(by simp[World.frozen?,h]),(by simp[World.frozen?,h]),(by simp[World.frozen?,h])⟩
theorem cells10 {w:World} {b:Nat} {c0 c1 c2 c3 c4 c5 c6 c7 c8 c9:Value} {t:TypeId} {fz:Nat×Nat} (h:w.heap[b]? =some (.cells #[c0,c1,c2,c3,c4,c5,c6,c7,c8,c9] t fz)):w.cell? ⟨b,0,none⟩=some c0∧w.cell? ⟨b,1,none⟩=some c1∧w.cell? ⟨b,2,none⟩=some c2∧w.cell? ⟨b,3,none⟩=some c3∧w.cell? ⟨b,4,none⟩=some c4∧w.cell? ⟨b,5,none⟩=some c5∧w.cell? ⟨b,6,none⟩=some c6∧w.cell? ⟨b,7,none⟩=some c7∧w.cell? ⟨b,8,none⟩=some c8∧w.cell? ⟨b,9,none⟩=some c9:=⟨(by rw[zAA h];rfl),(by rw[zAA h];rfl),(by rw[zAA h];rfl),(by rw[zAA h];rfl),(by rw[zAA h];rfl),(by rw[zAA h];rfl),(by rw[zAA h];rfl),(by rw[zAA h];rfl),(by rw[zAA h];rfl),(by rw[zAA h];rfl)⟩
theorem froz10 {w:World} {b:Nat} {cs:Array Value} {t:TypeId} (h:w.heap[b]? =some (.cells cs t (0,0))):w.frozen? ⟨b,0,none⟩=false∧w.frozen? ⟨b,1,none⟩=false∧w.frozen? ⟨b,2,none⟩=false∧w.frozen? ⟨b,3,none⟩=false∧w.frozen? ⟨b,4,none⟩=false∧w.frozen? ⟨b,5,none⟩=false∧w.frozen? ⟨b,6,none⟩=false∧w.frozen? ⟨b,7,none⟩=false∧w.frozen? ⟨b,8,none⟩=false∧w.frozen? ⟨b,9,none⟩=false:=⟨(by simp[World.frozen?,h]),(by simp[World.frozen?,h]),(by simp[World.frozen?,h]),(by simp[World.frozen?,h]),(by simp[World.frozen?,h]),(by simp[World.frozen?,h]),(by simp[World.frozen?,h]),(by simp[World.frozen?,h]),(by simp[World.frozen?,h]),(by simp[World.frozen?,h])⟩
theorem cells11 {w:World} {b:Nat} {c0 c1 c2 c3 c4 c5 c6 c7 c8 c9 c10:Value} {t:TypeId} {fz:Nat×Nat} (h:w.heap[b]? =some (.cells #[c0,c1,c2,c3,c4,c5,c6,c7,c8,c9,c10] t fz)):w.cell? ⟨b,0,none⟩=some c0∧w.cell? ⟨b,1,none⟩=some c1∧w.cell? ⟨b,2,none⟩=some c2∧w.cell? ⟨b,3,none⟩=some c3∧w.cell? ⟨b,4,none⟩=some c4∧w.cell? ⟨b,5,none⟩=some c5∧w.cell? ⟨b,6,none⟩=some c6∧w.cell? ⟨b,7,none⟩=some c7∧w.cell? ⟨b,8,none⟩=some c8∧w.cell? ⟨b,9,none⟩=some c9∧w.cell? ⟨b,10,none⟩=some c10:=⟨(by rw[zAA h];rfl),(by rw[zAA h];rfl),(by rw[zAA h];rfl),(by rw[zAA h];rfl),(by rw[zAA h];rfl),(by rw[zAA h];rfl),(by rw[zAA h];rfl),(by rw[zAA h];rfl),(by rw[zAA h];rfl),(by rw[zAA h];rfl),(by rw[zAA h];rfl)⟩
theorem froz11 {w:World} {b:Nat} {cs:Array Value} {t:TypeId} (h:w.heap[b]? =some (.cells cs t (0,0))):w.frozen? ⟨b,0,none⟩=false∧w.frozen? ⟨b,1,none⟩=false∧w.frozen? ⟨b,2,none⟩=false∧w.frozen? ⟨b,3,none⟩=false∧w.frozen? ⟨b,4,none⟩=false∧w.frozen? ⟨b,5,none⟩=false∧w.frozen? ⟨b,6,none⟩=false∧w.frozen? ⟨b,7,none⟩=false∧w.frozen? ⟨b,8,none⟩=false∧w.frozen? ⟨b,9,none⟩=false∧w.frozen? ⟨b,10,none⟩=false:=⟨(by simp[World.frozen?,h]),(by simp[World.frozen?,h]),(by simp[World.frozen?,h]),(by simp[World.frozen?,h]),(by simp[World.frozen?,h]),(by simp[World.frozen?,h]),(by simp[World.frozen?,h]),(by simp[World.frozen?,h]),(by simp[World.frozen?,h]),(by simp[World.frozen?,h]),(by simp[World.frozen?,h])⟩
theorem cells14 {w:World} {b:Nat} {c0 c1 c2 c3 c4 c5 c6 c7 c8 c9 c10 c11 c12 c13:Value} {t:TypeId} {fz:Nat×Nat} (h:w.heap[b]? =some (.cells #[c0,c1,c2,c3,c4,c5,c6,c7,c8,c9,c10,c11,c12,c13] t fz)):w.cell? ⟨b,0,none⟩=some c0∧w.cell? ⟨b,1,none⟩=some c1∧w.cell? ⟨b,2,none⟩=some c2∧w.cell? ⟨b,3,none⟩=some c3∧w.cell? ⟨b,4,none⟩=some c4∧w.cell? ⟨b,5,none⟩=some c5∧w.cell? ⟨b,6,none⟩=some c6∧w.cell? ⟨b,7,none⟩=some c7∧w.cell? ⟨b,8,none⟩=some c8∧w.cell? ⟨b,9,none⟩=some c9∧w.cell? ⟨b,10,none⟩=some c10∧w.cell? ⟨b,11,none⟩=some c11∧w.cell? ⟨b,12,none⟩=some c12∧w.cell? ⟨b,13,none⟩=some c13:=⟨(by rw[zAA h];rfl),(by rw[zAA h];rfl),(by rw[zAA h];rfl),(by rw[zAA h];rfl),(by rw[zAA h];rfl),(by rw[zAA h];rfl),(by rw[zAA h];rfl),(by rw[zAA h];rfl),(by rw[zAA h];rfl),(by rw[zAA h];rfl),(by rw[zAA h];rfl),(by rw[zAA h];rfl),(by rw[zAA h];rfl),(by rw[zAA h];rfl)⟩
theorem froz14 {w:World} {b:Nat} {cs:Array Value} {t:TypeId} (h:w.heap[b]? =some (.cells cs t (0,0))):w.frozen? ⟨b,0,none⟩=false∧w.frozen? ⟨b,1,none⟩=false∧w.frozen? ⟨b,2,none⟩=false∧w.frozen? ⟨b,3,none⟩=false∧w.frozen? ⟨b,4,none⟩=false∧w.frozen? ⟨b,5,none⟩=false∧w.frozen? ⟨b,6,none⟩=false∧w.frozen? ⟨b,7,none⟩=false∧w.frozen? ⟨b,8,none⟩=false∧w.frozen? ⟨b,9,none⟩=false∧w.frozen? ⟨b,10,none⟩=false∧w.frozen? ⟨b,11,none⟩=false∧w.frozen? ⟨b,12,none⟩=false∧w.frozen? ⟨b,13,none⟩=false:=⟨(by simp[World.frozen?,h]),(by simp[World.frozen?,h]),(by simp[World.frozen?,h]),(by simp[World.frozen?,h]),(by simp[World.frozen?,h]),(by simp[World.frozen?,h]),(by simp[World.frozen?,h]),(by simp[World.frozen?,h]),(by simp[World.frozen?,h]),(by simp[World.frozen?,h]),(by simp[World.frozen?,h]),(by simp[World.frozen?,h]),(by simp[World.frozen?,h]),(by simp[World.frozen?,h])⟩
theorem zAg (w:World) (o:Obj):(w.alloc o).heap[w.heap.size]? =some o:=by
 show(w.heap.push o)[w.heap.size]? =_
 simp
theorem zAP {w:World} {b:Nat} {cs:Array Value} {t:TypeId} {fz:Nat×Nat} (h:w.heap[b]? =some (.cells cs t fz)) (o:Nat) (v:Value):(w.setCell ⟨b,o,none⟩ v).heap[b]? =some (.cells (cs.setIfInBounds o v) t fz):=by
 simp[World.setCell,Array.getElem?_modify,h]
structure Ext (w W:World):Prop where
 size:w.heap.size≤W.heap.size
 blk:∀k,k<w.heap.size→W.heap[k]? =w.heap[k]?
theorem zAa {B:Nat} {w w':World} (h:Below B w w') (hB:w.heap.size≤B):Ext w w':=⟨h.size,fun k hk=>h.block k (by omega)⟩
theorem zAS {w:World} {base:Nat} {e:TypeId} {size:Nat} {v:Value} {n:Nat} {xs:List Value} (ho:w.ownsRow base e size v n xs) {g:Nat} (hg:v.ownBlock=some g):base≤g∧g<w.heap.size:=by
 rcases ho.2 with⟨rfl,_⟩|⟨g',cap,cur,rfl,h1,h2,_⟩
 ·cases hg
 ·injection hg with hg;subst hg
  exact⟨h1,(Array.getElem?_eq_some_iff.1 h2).1⟩
theorem zAZ {w w3:World} {base:Nat} {e:TypeId} {size:Nat} {v:Value} {n:Nat} {xs:List Value} (ho:w.ownsRow base e size v n xs) (hk:∀g,v.ownBlock=some g→w3.heap[g]? =w.heap[g]?):w3.ownsRow base e size v n xs:=by
 obtain⟨h1,h2⟩:=ho
 refine⟨h1,?_⟩
 rcases h2 with h2|⟨g,cap,cur,hv,hg,hh,r⟩
 ·exact .inl h2
 ·exact .inr ⟨g,cap,cur,hv,hg,by rw[hk g (by rw[hv];rfl)];exact hh,r⟩
theorem zAQ {w W:World} (h:Ext w W) {base:Nat} {e:TypeId} {size:Nat} {v:Value} {n:Nat} {xs:List Value} (ho:w.ownsRow base e size v n xs):W.ownsRow base e size v n xs:=
 zAZ ho fun g hg=>h.blk g (zAS ho hg).2
theorem ownsRow_base {w:World} {base base':Nat} {e:TypeId} {size:Nat} {v:Value} {n:Nat} {xs:List Value} (h:w.ownsRow base e size v n xs) (hb:base'≤base):w.ownsRow base' e size v n xs:=by
 obtain⟨h1,h2⟩:=h
 refine⟨h1,?_⟩
 rcases h2 with h2|⟨g,cap,cur,hv,hg,r⟩
 ·exact .inl h2
 ·exact .inr ⟨g,cap,cur,hv,by omega,r⟩
theorem keepCell {W w':World} (hb:Below W.heap.size W w') {a:Addr} {v:Value} (h:W.cell? a=some v):w'.cell? a=some v:=by
 rw[hb.cell (World.block_lt_of_cell? _ a h)];exact h
theorem bcell {W w1:World} (hb:Below W.heap.size W w1):(∀b o,b<W.heap.size→w1.cell? ⟨b,o,none⟩=W.cell? ⟨b,o,none⟩)∧(∀b o,b<W.heap.size→w1.frozen? ⟨b,o,none⟩=W.frozen? ⟨b,o,none⟩):=
 ⟨fun b o h=>hb.cell (p:=⟨b,o,none⟩) h,fun b o h=>hb.frozen (p:=⟨b,o,none⟩) h⟩
theorem zAF (w:World) (o1 o2:Obj):Below w.heap.size w ((w.alloc o1).alloc o2):=((Below.refl _ _).alloc (Nat.le_refl _) _).alloc (by simp) _
theorem zAL (w:World) (o1 o2 o3:Obj):Below w.heap.size w (((w.alloc o1).alloc o2).alloc o3):=(zAF w o1 o2).alloc (by simp;omega) _
theorem zAD {B:Nat} {a w:World} (h:Below B a w) {b:Nat} (hb:B≤b) (x y:Value):Below B a ((w.setCell ⟨b,0,none⟩ x).setCell ⟨b,1,none⟩ y):=
 (h.setCell (p:=⟨b,0,none⟩) hb x).setCell (p:=⟨b,1,none⟩) hb y
theorem zAC {w w1 w2:World} (h:Below w.heap.size w w1) (k:Below w1.heap.size w1 w2):Below w.heap.size w w2:=h.trans (k.mono h.size)
theorem hbn {w w1 w2:World} (h:Below w.heap.size w w1) (k:Below w1.heap.size w1 w2):Hid (Below w.heap.size w w2):=zAC h k
theorem hsz {w:World} {b:Nat} {o:Obj} (h:Hid (w.heap[b]? =some o)):b<w.heap.size:=(Array.getElem?_eq_some_iff.1 h).1
def zAE (p:ByteArray):List Nat:=p.data.toList.map UInt8.toNat
theorem zAb (p:ByteArray):(zAE p).length=p.size:=by unfold zAE;rw[List.length_map];rfl
theorem zAx (p:ByteArray) (k:Nat) (h:k<p.size):(zAE p).drop k=p[k].toNat::(zAE p).drop (k+1):=by
 rw[List.drop_eq_getElem_cons (by rw[zAb];exact h)]
 congr 1
 simp[zAE];rfl
theorem zBp (p:ByteArray) (k:Nat) (h:p.size≤k):(zAE p).drop k=[]:=List.drop_eq_nil_of_le (by rw[zAb];exact h)
theorem zBQ (s:ByteArray) (a b:Nat):zAE (s.extract a b)=((zAE s).drop a).take (b-a):=by
 unfold zAE
 rw[←Lib.toList_data,Lib.extract_toList,←List.map_drop,←List.map_take]
theorem nats_inj:∀(a b:List UInt8),a.map UInt8.toNat=b.map UInt8.toNat→a=b
 |[],[],_=>rfl
 |[],_::_,h=>by cases h
 |_::_,[],h=>by cases h
 |x::a,y::b,h=>by
  simp only[List.map_cons,List.cons.injEq] at h
  rw[UInt8.toNat_inj.1 h.1,nats_inj a b h.2]
theorem zCE {s t:ByteArray} (h:zAE s=zAE t):s=t:=by
 have h2:s.data.toList=t.data.toList:=nats_inj _ _ h
 cases s;cases t
 simp only[ByteArray.mk.injEq]
 exact Array.toList_inj.1 h2
theorem bytesOf_append (a b:ByteArray):zAE (a++b)=zAE a++zAE b:=by
 unfold zAE
 rw[←List.map_append]
 congr 1
theorem toList_nil {p:ByteArray} (h:p.size=0):p.toList=[]:=by
 rw[ByteArray.toList_eq]
 exact List.eq_nil_of_length_eq_zero h
theorem toList_ne {p:ByteArray} (h:0<p.size):¬p.toList=[]:=by
 rw[ByteArray.toList_eq]
 intro e
 have:p.data.toList.length=0:=by rw[e];rfl
 have h2:p.size=p.data.toList.length:=rfl
 omega
end Go.Proofs.YthkpckgcgkijbaaGreatDoor
namespace Go.Proofs.YthkpckgcgkijbaaGreatDoor
def digV (c:Nat):Nat:=if 48≤c∧c≤57 then c-48 else if 97≤c∧c≤102 then c-87 else if 65≤c∧c≤70 then c-55 else 99
def isDig (base c:Nat):Bool:=decide (digV c<base)
def runN (base:Nat):List Nat→Nat
 |[]=>0
 |c::r=>if isDig base c then runN base r+1 else 0
def numG (base:Nat):List Nat→Nat→Option Nat
 |[],n=>some n
 |c::r,n=>if (4611686018427387904-digV c)/base<n then none else numG base r (n*base+digV c)
def zBl:List Nat→Bool
 |a::x::d::_=>a==48&&(x==120||x==88)&&isDig 16 d
 |_=>false
def decN (l:List Nat) (places:Nat):RR:=
 match numG 10 l 0 with
 |none=> .error 6
 |some n=>if 9<places then .error 6 else makeN n ((10:Nat)^places:Nat)
def hexN (l:List Nat):RR:=
 match numG 16 l 0 with
 |none=> .error 6
 |some n=>makeN n 1
def zBT (t:List Nat) (k:Nat):Nat:=if t[k]? =some 46 then runN 10 (t.drop (k+1)) else 0
def zAv (t:List Nat):Nat×RR:=
 if zBl t then(2+runN 16 (t.drop 2),hexN ((t.drop 2).take (runN 16 (t.drop 2))))
 else if runN 10 t=0 then(0,.error 4)
 else if zBT t (runN 10 t)=0 then(runN 10 t,decN (t.take (runN 10 t)) 0)
 else(runN 10 t+1+zBT t (runN 10 t),decN (t.take (runN 10 t)++(t.drop (runN 10 t+1)).take (zBT t (runN 10 t))) (zBT t (runN 10 t)))
def zCD (l:List Nat):Bool:= !l.isEmpty&&decide (runN 10 l=l.length)
def zBy (p q:List Nat):RR:=
 if zCD p&&zCD q then
  match numG 10 p 0,numG 10 q 0 with
  |some a,some b=>if b=0 then .error 6 else makeN a b
  |_,_=> .error 6
 else .error 4
def zBL:List Nat→Option Nat
 |[]=>none
 |c::r=>if c=47 then some 0 else(zBL r).map (· +1)
def zAz (t:List Nat):RR:=
 match zBL t with
 |none=>if (zAv t).1=0∨(zAv t).1<t.length then .error 4 else(zAv t).2
 |some k=>zBy (t.take k) (t.drop (k+1))
def minusN:RR→RR
 | .ok a=> .ok (-a.1,a.2)
 | .error e=> .error e
def zBZ (c:Nat):Bool:=c==32||c==9||c==10||c==13
def trimG (l:List Nat):List Nat:=((l.dropWhile zBZ).reverse.dropWhile zBZ).reverse
def signedG:List Nat→RR
 |[]=>zAz []
 |c::r=>if c=45 then minusN (zAz r) else zAz (c::r)
def parseG (l:List Nat):RR:=signedG (trimG l)
theorem zCI (base:Nat):∀l,runN base l≤l.length
 |[]=>Nat.le_refl _
 |c::r=>by
  unfold runN
  split
  ·have:=zCI base r;simp only[List.length_cons];omega
  ·simp
theorem slashAt_some:∀{l:List Nat} {k:Nat},zBL l=some k→k<l.length∧l[k]? =some 47∧∀c∈l.take k,c≠47
 |[],k,h=>by cases h
 |x::r,k,h=>by
  unfold zBL at h
  split at h
  ·rename_i hx
   injection h with h;subst h
   exact⟨by simp,by simp[hx],fun c hc=>by simp at hc⟩
  ·rename_i hx
   cases hr:zBL r with
   |none=>rw[hr] at h;cases h
   |some j=>
    rw[hr] at h
    injection h with h;subst h
    obtain⟨h1,h2,h3⟩:=slashAt_some hr
    refine⟨by simp;omega,by simpa using h2,fun c hc=> ?_⟩
    simp only[List.take_succ_cons,List.mem_cons] at hc
    rcases hc with rfl|hc
    ·exact hx
    ·exact h3 c hc
theorem runN_all (base:Nat):∀(l:List Nat) (k:Nat),k<runN base l→∃c,l[k]? =some c∧isDig base c=true
 |[],k,h=>by cases h
 |c::r,k,h=>by
  unfold runN at h
  split at h
  ·rename_i hc
   cases k with
   |zero=>exact⟨c,rfl,hc⟩
   |succ k=>
    obtain⟨x,h1,h2⟩:=runN_all base r k (by omega)
    exact⟨x,by simpa using h1,h2⟩
  ·cases h
theorem isDig47:isDig 10 47=false:=by decide
theorem isDig47':isDig 16 47=false:=by decide
theorem numeral_slash {t:List Nat} {k:Nat} (hk:t[k]? =some 47):(zAv t).1≤k:=by
 have run:∀(base:Nat) (l:List Nat) (j:Nat),isDig base 47=false→l[j]? =some 47→runN base l≤j:=fun base l j hb hj=>by
  apply Classical.byContradiction
  intro hc
  obtain⟨c,h1,h2⟩:=runN_all base l j (by omega)
  rw[hj] at h1
  injection h1 with h1
  subst h1
  rw[hb] at h2;cases h2
 unfold zAv
 split
 ·rename_i hh
  have hk2:2≤k:=by
   match t,hh,hk with
   |a::x::d::r,hh,hk=>
    simp only[zBl,Bool.and_eq_true,Bool.or_eq_true,beq_iff_eq] at hh
    match k,hk with
    |0,hk=>simp at hk;omega
    |1,hk=>simp at hk;omega
    |k+2,_=>omega
  have:=run 16 (t.drop 2) (k-2) isDig47' (by rw[List.getElem?_drop,show 2+(k-2)=k by omega];exact hk)
  show 2+_≤k
  omega
 ·split
  ·exact Nat.zero_le _
  ·have h1:=run 10 t k isDig47 hk
   split
   ·exact h1
   ·rename_i hp
    unfold zBT at hp ⊢
    by_cases h46:t[runN 10 t]? =some 46
    ·rw[if_pos h46] at hp ⊢
     have hne:k≠runN 10 t:=fun e=>by rw[e,h46] at hk;cases hk
     have:=run 10 (t.drop (runN 10 t+1)) (k-(runN 10 t+1)) isDig47 (by rw[List.getElem?_drop,show runN 10 t+1+(k-(runN 10 t+1))=k by omega];exact hk)
     show runN 10 t+1+_≤k
     omega
    ·rw[if_neg h46] at hp;exact absurd rfl hp
end Go.Proofs.YthkpckgcgkijbaaGreatDoor
namespace Go.Proofs.YthkpckgcgkijbaaGreatDoor
open Go.RowKit Go.Proofs.Lexi
def PureP (w:World) (v:Value) (e:Ending) (w':World):Prop:=e= .returned v∧∃n,w'=w.drewN n
def NumPost (w:World) (R:RR) (e:Ending) (w':World):Prop:=e= .returned (.tuple #[.agg #[.int .i64 (nP R),.int .i64 (nQ R)],.int .i64 (nE R:Nat)])∧Below w.heap.size w w'
theorem zAV {w w':World} {R:RR} {c:Nat} (hR:R= .error c) (hb:Below w.heap.size w w'):NumPost w R (.returned (.tuple #[.agg #[.int .i64 0,.int .i64 0],.int .i64 (c:Int)])) w':=by subst hR;exact⟨rfl,hb⟩
theorem zCL {w w':World} {R:RR} {p q:Int} (hR:R= .ok (p,q)) (hb:Below w.heap.size w w'):NumPost w R (.returned (.tuple #[.agg #[p,q],.int .i64 0])) w':=by subst hR;exact⟨rfl,hb⟩
theorem redPos_range {P Q:Int} {D:Nat} (hD:D=Int.gcd P Q):redPos P Q=rangeN (P/(D:Int)) (Q/(D:Int)):=by subst hD;rfl
theorem rangeN_err {p q:Int} (h:p< -2147483647∨2147483647<p∨2147483647<q):rangeN p q= .error 6:=by
 unfold rangeN
 rw[if_neg]
 simp only[Bool.and_eq_true,inTop_iff,decide_eq_true_eq]
 omega
theorem rangeN_ok {p q:Int} (h1: -2147483647≤p) (h2:p≤2147483647) (h3:q≤2147483647):rangeN p q= .ok (p,q):=by
 unfold rangeN
 rw[if_pos]
 simp only[Bool.and_eq_true,inTop_iff,decide_eq_true_eq]
 omega
theorem quo_bounds {P:Int} {D:Nat} (hD:0<D) (h1: -9223372036854775807≤P) (h2:P≤9223372036854775807): -9223372036854775807≤P/(D:Int)∧P/(D:Int)≤9223372036854775807:=by
 have:=Int.natAbs_ediv_le_natAbs P D
 omega
theorem below_num (w:World) (o:Obj) (n:Nat) (a b:Value):Below w.heap.size w ((((w.alloc o).drewN n).setCell ⟨w.heap.size,0,none⟩ a).setCell ⟨w.heap.size,1,none⟩ b):=
 ((below_drewN ((Below.refl _ _).alloc (Nat.le_refl _) o) n).setCell (p:=⟨w.heap.size,0,none⟩) (Nat.le_refl _) a).setCell (p:=⟨w.heap.size,1,none⟩) (Nat.le_refl _) b
theorem zAe (w:World) (o:Obj):Below w.heap.size w (w.alloc o):=(Below.refl _ _).alloc (Nat.le_refl _) o
theorem u8_le (b:UInt8):b.toNat≤255:=by have:=b.toNat_lt;omega
def pdigV (c:Nat):Int:=if 48≤c∧c≤57 then c-48 else if 97≤c∧c≤122 then c-87 else if 65≤c∧c≤90 then c-55 else-1
theorem pdigV_on {base c:Nat} (hb:base≤16) (h:isDig base c=true):pdigV c=(digV c:Int)∧digV c<base:=by
 unfold isDig at h
 have h:=of_decide_eq_true h
 refine⟨?_,h⟩
 unfold digV at h ⊢
 unfold pdigV
 split at h
 ·rename_i h1;rw[if_pos h1,if_pos h1];omega
 ·rename_i h1
  rw[if_neg h1,if_neg h1]
  split at h
  ·rename_i h2;rw[if_pos h2,if_pos (by omega)];omega
  ·rename_i h2
   split at h
   ·rename_i h3;rw[if_neg h2,if_neg (by omega),if_pos h3,if_pos (by omega)];omega
   ·omega
theorem pdigV_off {base c:Nat} (hb:base=10∨base=16) (h:isDig base c=false):pdigV c<0∨(0≤pdigV c∧(base:Int)≤pdigV c∧pdigV c≤35):=by
 unfold isDig at h
 have h:=of_decide_eq_false h
 unfold digV at h
 unfold pdigV
 split
 ·rename_i h1;rw[if_pos h1] at h;omega
 ·rename_i h1
  rw[if_neg h1] at h
  split
  ·split at h<;>omega
  ·rename_i h2
   rw[if_neg (by omega)] at h
   split
   ·split at h<;>omega
   ·omega
theorem zBw (c:Nat):digV c≤99:=by
 unfold digV
 repeat' split
 all_goals omega
theorem run_step {s:ByteArray} {base i R:Nat} (h:i<s.size) (hr:i+runN base ((zAE s).drop i)=R):(isDig base s[i].toNat=true→(i+1)+runN base ((zAE s).drop (i+1))=R)∧(isDig base s[i].toNat=false→i=R):=by
 rw[zAx s i h] at hr
 unfold runN at hr
 constructor<;>intro hd
 ·rw[if_pos hd] at hr;omega
 ·rw[hd] at hr;simpa using hr
theorem run_stop {s:ByteArray} {base i R:Nat} (h:s.size≤i) (hr:i+runN base ((zAE s).drop i)=R):i=R:=by
 rw[zBp s i h] at hr;exact hr
end Go.Proofs.YthkpckgcgkijbaaGreatDoor
namespace Go.Proofs
open Go.Shelf
def Tryz.lays160_ren:Go.Shelf.Ren:=⟨fun|160=>233|232=>245|231=>244|227=>246|234=>248|233=>247|236=>250|235=>249|228=>255|271=>258|151=>257|197=>256|120=>266|152=>265|260=>264|137=>276|119=>277|224=>269|225=>268|217=>267|266=>278|n=>n,fun|9=>9|4=>4|3=>3|5=>5|117=>199|116=>198|0=>0|124=>202|21=>21|105=>206|46=>193|119=>221|139=>224|138=>223|n=>n,fun|3=>2|4=>3|n=>n⟩
theorem Tryz.lays160:Go.Proofs.Lays.n160 Tryz.prog Tryz.lays160_ren:={
 mixed:=by kernel_rfl
 f119:=Tryz.func277.trans (congrArg some (by kernel_rfl))
 f120:=Tryz.func266.trans (congrArg some (by kernel_rfl))
 f137:=Tryz.func276.trans (congrArg some (by kernel_rfl))
 f151:=Tryz.func257.trans (congrArg some (by kernel_rfl))
 f152:=Tryz.func265.trans (congrArg some (by kernel_rfl))
 f160:=Tryz.func233.trans (congrArg some (by kernel_rfl))
 f197:=Tryz.func256.trans (congrArg some (by kernel_rfl))
 f217:=Tryz.func267.trans (congrArg some (by kernel_rfl))
 f224:=Tryz.func269.trans (congrArg some (by kernel_rfl))
 f225:=Tryz.func268.trans (congrArg some (by kernel_rfl))
 f227:=Tryz.func246.trans (congrArg some (by kernel_rfl))
 f228:=Tryz.func255.trans (congrArg some (by kernel_rfl))
 f231:=Tryz.func244.trans (congrArg some (by kernel_rfl))
 f232:=Tryz.func245.trans (congrArg some (by kernel_rfl))
 f233:=Tryz.func247.trans (congrArg some (by kernel_rfl))
 f234:=Tryz.func248.trans (congrArg some (by kernel_rfl))
 f235:=Tryz.func249.trans (congrArg some (by kernel_rfl))
 f236:=Tryz.func250.trans (congrArg some (by kernel_rfl))
 f260:=Tryz.func264.trans (congrArg some (by kernel_rfl))
 f266:=Tryz.func278.trans (congrArg some (by kernel_rfl))
 f271:=Tryz.func258.trans (congrArg some (by kernel_rfl))
 t0:=Tryz.underlying0
 a0:=Tryz.isAgg0
 z0:=Tryz.sizeOf0
 v0:=Tryz.zeroValue0
 t3:=Tryz.underlying3
 a3:=Tryz.isAgg3
 z3:=Tryz.sizeOf3
 v3:=Tryz.zeroValue3
 t4:=Tryz.underlying4
 a4:=Tryz.isAgg4
 z4:=Tryz.sizeOf4
 v4:=Tryz.zeroValue4
 t5:=Tryz.underlying5
 a5:=Tryz.isAgg5
 z5:=Tryz.sizeOf5
 v5:=Tryz.zeroValue5
 t9:=Tryz.underlying9
 a9:=Tryz.isAgg9
 z9:=Tryz.sizeOf9
 v9:=Tryz.zeroValue9
 t21:=Tryz.underlying21
 a21:=Tryz.isAgg21
 z21:=Tryz.sizeOf21
 v21:=Tryz.zeroValue21
 t46:=Tryz.underlying193
 a46:=Tryz.isAgg193
 z46:=Tryz.sizeOf193
 v46:=Tryz.zeroValue193
 t105:=Tryz.underlying206
 a105:=Tryz.isAgg206
 z105:=Tryz.sizeOf206
 v105:=Tryz.zeroValue206
 t116:=Tryz.underlying198
 a116:=Tryz.isAgg198
 z116:=Tryz.sizeOf198
 t117:=Tryz.underlying199
 a117:=Tryz.isAgg199
 z117:=Tryz.sizeOf199
 v117:=Tryz.zeroValue199
 t119:=Tryz.underlying221
 a119:=Tryz.isAgg221
 z119:=Tryz.sizeOf221
 t124:=Tryz.underlying202
 a124:=Tryz.isAgg202
 z124:=Tryz.sizeOf202
 v124:=Tryz.zeroValue202
 t138:=Tryz.underlying223
 a138:=Tryz.isAgg223
 z138:=Tryz.sizeOf223
 v138:=Tryz.zeroValue223
 t139:=Tryz.underlying224
 a139:=Tryz.isAgg224
 z139:=Tryz.sizeOf224
 v139:=Tryz.zeroValue224
 g3:=by kernel_rfl
 g4:=by kernel_rfl}
def Tryz.lays103_ren:Go.Shelf.Ren:=⟨fun|103=>195|210=>234|206=>251|n=>n,fun|9=>9|4=>4|24=>162|3=>3|n=>n,fun|n=>n⟩
theorem Tryz.lays103:Go.Proofs.Lays.n103 Tryz.prog Tryz.lays103_ren:={
 mixed:=by kernel_rfl
 f103:=Tryz.func195.trans (congrArg some (by kernel_rfl))
 f206:=Tryz.func251.trans (congrArg some (by kernel_rfl))
 f210:=Tryz.func234.trans (congrArg some (by kernel_rfl))
 t3:=Tryz.underlying3
 a3:=Tryz.isAgg3
 z3:=Tryz.sizeOf3
 v3:=Tryz.zeroValue3
 t4:=Tryz.underlying4
 a4:=Tryz.isAgg4
 z4:=Tryz.sizeOf4
 v4:=Tryz.zeroValue4
 t9:=Tryz.underlying9
 a9:=Tryz.isAgg9
 z9:=Tryz.sizeOf9
 v9:=Tryz.zeroValue9
 t24:=Tryz.underlying162
 a24:=Tryz.isAgg162
 z24:=Tryz.sizeOf162
 v24:=Tryz.zeroValue162}
def Tryz.laysM171_ren:Go.Shelf.Ren:=⟨fun|171=>211|243=>239|246=>254|283=>260|284=>261|285=>262|286=>263|129=>272|317=>271|318=>273|319=>274|320=>275|337=>280|338=>281|n=>n,fun|3=>3|9=>9|2=>2|4=>4|171=>210|0=>0|53=>204|37=>205|5=>5|173=>213|212=>218|51=>171|20=>20|213=>219|46=>193|232=>229|233=>230|n=>n,fun|17=>1|18=>4|19=>5|n=>n⟩
theorem Tryz.laysM171:Go.Proofs.LaysM.n171 Tryz.prog Tryz.laysM171_ren:={
 mixed:=by kernel_rfl
 f129:=Tryz.func272.trans (congrArg some (by kernel_rfl))
 f171:=Tryz.func211.trans (congrArg some (by kernel_rfl))
 f243:=Tryz.func239.trans (congrArg some (by kernel_rfl))
 f246:=Tryz.func254.trans (congrArg some (by kernel_rfl))
 f283:=Tryz.func260.trans (congrArg some (by kernel_rfl))
 f284:=Tryz.func261.trans (congrArg some (by kernel_rfl))
 f285:=Tryz.func262.trans (congrArg some (by kernel_rfl))
 f286:=Tryz.func263.trans (congrArg some (by kernel_rfl))
 f317:=Tryz.func271.trans (congrArg some (by kernel_rfl))
 f318:=Tryz.func273.trans (congrArg some (by kernel_rfl))
 f319:=Tryz.func274.trans (congrArg some (by kernel_rfl))
 f320:=Tryz.func275.trans (congrArg some (by kernel_rfl))
 f337:=Tryz.func280.trans (congrArg some (by kernel_rfl))
 f338:=Tryz.func281.trans (congrArg some (by kernel_rfl))
 t0:=Tryz.underlying0
 a0:=Tryz.isAgg0
 z0:=Tryz.sizeOf0
 v0:=Tryz.zeroValue0
 t2:=Tryz.underlying2
 a2:=Tryz.isAgg2
 z2:=Tryz.sizeOf2
 v2:=Tryz.zeroValue2
 t3:=Tryz.underlying3
 a3:=Tryz.isAgg3
 z3:=Tryz.sizeOf3
 v3:=Tryz.zeroValue3
 t4:=Tryz.underlying4
 a4:=Tryz.isAgg4
 z4:=Tryz.sizeOf4
 v4:=Tryz.zeroValue4
 t5:=Tryz.underlying5
 a5:=Tryz.isAgg5
 z5:=Tryz.sizeOf5
 v5:=Tryz.zeroValue5
 t9:=Tryz.underlying9
 a9:=Tryz.isAgg9
 z9:=Tryz.sizeOf9
 v9:=Tryz.zeroValue9
 t20:=Tryz.underlying20
 a20:=Tryz.isAgg20
 z20:=Tryz.sizeOf20
 v20:=Tryz.zeroValue20
 t37:=Tryz.underlying205
 a37:=Tryz.isAgg205
 z37:=Tryz.sizeOf205
 v37:=Tryz.zeroValue205
 t46:=Tryz.underlying193
 a46:=Tryz.isAgg193
 z46:=Tryz.sizeOf193
 v46:=Tryz.zeroValue193
 t51:=Tryz.underlying171
 a51:=Tryz.isAgg171
 z51:=Tryz.sizeOf171
 v51:=Tryz.zeroValue171
 t53:=Tryz.underlying204
 a53:=Tryz.isAgg204
 z53:=Tryz.sizeOf204
 v53:=Tryz.zeroValue204
 t171:=Tryz.underlying210
 a171:=Tryz.isAgg210
 z171:=Tryz.sizeOf210
 v171:=Tryz.zeroValue210
 t173:=Tryz.underlying213
 a173:=Tryz.isAgg213
 z173:=Tryz.sizeOf213
 v173:=Tryz.zeroValue213
 t212:=Tryz.underlying218
 a212:=Tryz.isAgg218
 z212:=Tryz.sizeOf218
 v212:=Tryz.zeroValue218
 t213:=Tryz.underlying219
 a213:=Tryz.isAgg219
 z213:=Tryz.sizeOf219
 t232:=Tryz.underlying229
 a232:=Tryz.isAgg229
 z232:=Tryz.sizeOf229
 v232:=Tryz.zeroValue229
 t233:=Tryz.underlying230
 a233:=Tryz.isAgg230
 z233:=Tryz.sizeOf230
 v233:=Tryz.zeroValue230
 g17:=by kernel_rfl
 g18:=by kernel_rfl
 g19:=by kernel_rfl
 i0:=by kernel_rfl
 i2:=by kernel_rfl
 i3:=by kernel_rfl
 i4:=by kernel_rfl
 i5:=by kernel_rfl
 i9:=by kernel_rfl
 i20:=by kernel_rfl
 i37:=by kernel_rfl
 i46:=by kernel_rfl
 i51:=by kernel_rfl
 i53:=by kernel_rfl
 i171:=by kernel_rfl
 i173:=by kernel_rfl
 i212:=by kernel_rfl
 i232:=by kernel_rfl
 i233:=by kernel_rfl
 m17:=by kernel_rfl
 m18:=by kernel_rfl
 m19:=by kernel_rfl}
def Tryz.lays145_ren:Go.Shelf.Ren:=⟨fun|145=>238|220=>253|219=>259|217=>267|225=>268|224=>269|267=>270|266=>278|314=>279|n=>n,fun|9=>9|4=>4|59=>191|3=>3|5=>5|46=>193|146=>226|51=>171|n=>n,fun|1=>0|n=>n⟩
theorem Tryz.lays145:Go.Proofs.Lays.n145 Tryz.prog Tryz.lays145_ren:={
 mixed:=by kernel_rfl
 f145:=Tryz.func238.trans (congrArg some (by kernel_rfl))
 f217:=Tryz.func267.trans (congrArg some (by kernel_rfl))
 f219:=Tryz.func259.trans (congrArg some (by kernel_rfl))
 f220:=Tryz.func253.trans (congrArg some (by kernel_rfl))
 f224:=Tryz.func269.trans (congrArg some (by kernel_rfl))
 f225:=Tryz.func268.trans (congrArg some (by kernel_rfl))
 f266:=Tryz.func278.trans (congrArg some (by kernel_rfl))
 f267:=Tryz.func270.trans (congrArg some (by kernel_rfl))
 f314:=Tryz.func279.trans (congrArg some (by kernel_rfl))
 t3:=Tryz.underlying3
 a3:=Tryz.isAgg3
 z3:=Tryz.sizeOf3
 v3:=Tryz.zeroValue3
 t4:=Tryz.underlying4
 a4:=Tryz.isAgg4
 z4:=Tryz.sizeOf4
 v4:=Tryz.zeroValue4
 t5:=Tryz.underlying5
 a5:=Tryz.isAgg5
 z5:=Tryz.sizeOf5
 v5:=Tryz.zeroValue5
 t9:=Tryz.underlying9
 a9:=Tryz.isAgg9
 z9:=Tryz.sizeOf9
 v9:=Tryz.zeroValue9
 t46:=Tryz.underlying193
 a46:=Tryz.isAgg193
 z46:=Tryz.sizeOf193
 v46:=Tryz.zeroValue193
 t51:=Tryz.underlying171
 a51:=Tryz.isAgg171
 z51:=Tryz.sizeOf171
 v51:=Tryz.zeroValue171
 t59:=Tryz.underlying191
 a59:=Tryz.isAgg191
 z59:=Tryz.sizeOf191
 v59:=Tryz.zeroValue191
 t146:=Tryz.underlying226
 a146:=Tryz.isAgg226
 z146:=Tryz.sizeOf226
 v146:=Tryz.zeroValue226
 g1:=by kernel_rfl}
end Go.Proofs
namespace Go.Proofs.YthkpckgcgkijbaaGreatDoor
open Go.RowKit Go.Proofs.Lexi
theorem trim_swap {α:Type} (p:α→Bool):∀l:List α,((l.dropWhile p).reverse.dropWhile p).reverse=((l.reverse.dropWhile p).reverse).dropWhile p
 |[]=>rfl
 |c::r=>by
  have ih:=trim_swap p r
  rw[List.reverse_cons,List.dropWhile_append]
  cases hc:p c with
  |true=>
   rw[List.dropWhile_cons_of_pos hc,ih]
   split
   ·rename_i he
    have he:=List.isEmpty_iff.1 he
    rw[he,List.dropWhile_cons_of_pos hc]
    rfl
   ·rw[List.reverse_append,List.reverse_singleton,List.singleton_append,List.dropWhile_cons_of_pos hc]
  |false=>
   have hc':¬p c=true:=by rw[hc];decide
   rw[List.dropWhile_cons_of_neg hc',List.reverse_cons,List.dropWhile_append]
   split
   ·rw[List.dropWhile_cons_of_neg hc',List.reverse_singleton,List.dropWhile_cons_of_neg hc']
   ·rw[List.reverse_append,List.reverse_singleton,List.singleton_append,List.dropWhile_cons_of_neg hc']
theorem blank_contains (b:UInt8):([32,9,10,13]:List UInt8).contains b=zBZ b.toNat:=by
 have h:∀n:Fin 256,([32,9,10,13]:List UInt8).contains (UInt8.ofNat n.val)=zBZ (UInt8.ofNat n.val).toNat:=by decide+kernel
 have:=h ⟨b.toNat,b.toNat_lt⟩
 rwa [UInt8.ofNat_toNat] at this
theorem bytesOf_mk (l:List UInt8):zAE ⟨l.toArray⟩=l.map UInt8.toNat:=rfl
theorem map_drop (l:List UInt8):(l.dropWhile fun b=>([32,9,10,13]:List UInt8).contains b).map UInt8.toNat=(l.map UInt8.toNat).dropWhile zBZ:=by
 induction l with
 |nil=>rfl
 |cons c r ih=>
  rw[List.map_cons]
  have hb:=blank_contains c
  cases hc:zBZ c.toNat with
  |true=>rw[List.dropWhile_cons_of_pos hc,List.dropWhile_cons_of_pos (by rw[hb,hc]),ih]
  |false=>rw[List.dropWhile_cons_of_neg (by first|(rw[hb,hc];decide)|(rw[hc];decide)),List.dropWhile_cons_of_neg (by first|(rw[hb,hc];decide)|(rw[hc];decide)),List.map_cons]
theorem trim_bytes (s:ByteArray):zAE ⟨(Lib.trimS s.data.toList [32,9,10,13]).toArray⟩=trimG (zAE s):=by
 rw[bytesOf_mk]
 unfold trimG
 rw[trim_swap]
 unfold Lib.trimS Lib.trimLeftS Lib.trimRightS
 rw[map_drop,List.map_reverse,map_drop,List.map_reverse]
 rfl
def TrimPost (w:World) (l:List Nat) (e:Ending) (w':World):Prop:=(∃r,e= .returned (.string r)∧zAE r=l)∧Below w.heap.size w w'
theorem ascii4:∀(j:Nat) b,(⟨#[32,9,10,13]⟩:ByteArray).data.toList[j]? =some b→b.toNat<128:=ascii_of_all (by decide)
theorem floor_same {x y:Int} (h:x.tmod y=0∨(0≤x∧0<y)∨(x<0∧y<0)):x.fdiv y=x.tdiv y∧x.fmod y=x.tmod y:=by
 have e:x.fdiv y=x.tdiv y:=by
  rw[Int.fdiv_eq_tdiv]
  by_cases hd:y ∣ x
  ·rw[if_pos hd];omega
  ·have:x.tmod y≠0:=fun e=>hd (Int.dvd_iff_tmod_eq_zero.2 e)
   rw[if_neg hd]
   rcases h with h|⟨h1,h2⟩|⟨h1,h2⟩
   ·exact absurd h this
   ·rw[if_pos h1,if_pos (by omega)];omega
   ·rw[if_neg (by omega),if_neg (by omega)]
    rw[Int.sign_eq_neg_one_of_neg h2];omega
 exact⟨e,by rw[Int.fmod_def,Int.tmod_def,e]⟩
theorem floor_less {x y:Int} (h0:x.tmod y≠0) (h:(0≤x∧y<0)∨(x<0∧0<y)):x.fdiv y=x.tdiv y-1∧x.fmod y=x.tmod y+y:=by
 have e:x.fdiv y=x.tdiv y-1:=by
  rw[Int.fdiv_eq_tdiv]
  have hd:¬y ∣ x:=fun e=>h0 (Int.dvd_iff_tmod_eq_zero.1 e)
  rw[if_neg hd]
  rcases h with⟨h1,h2⟩|⟨h1,h2⟩
  ·rw[if_pos h1,if_neg (by omega)]
  ·rw[if_neg (by omega),if_pos (by omega)]
   first|(rw[Int.sign_eq_one_of_pos h2])|omega
 exact⟨e,by rw[Int.fmod_def,Int.tmod_def,e,Int.mul_sub];omega⟩
theorem tdiv_bounds {x y:Int} (h1: -4611686018427387904≤x) (h2:x≤4611686018427387904): -4611686018427387904≤x.tdiv y∧x.tdiv y≤4611686018427387904:=by
 have:=Int.natAbs_tdiv_le_natAbs x y
 omega
theorem tmod_bounds {x y:Int} (h0:y≠0):(x.tmod y).natAbs<y.natAbs:=by
 rw[Int.natAbs_tmod]
 exact Nat.mod_lt _ (by omega)
theorem pure_done {w:World} {v u:Value} {n:Nat} (h:u=v):PureP w v (.returned u) (w.drewN n):=by subst h;exact⟨rfl,n,rfl⟩
theorem zAu {w w':World} {R:RR} (hb:Below w.heap.size w w'):NumPost w R (.returned (.tuple #[.agg #[.int .i64 (nP R),.int .i64 (nQ R)],.int .i64 (nE R:Nat)])) w':=⟨rfl,hb⟩
theorem fmod_bounds {x y:Int} (h:y≠0): -(2*(y.natAbs:Int))≤Int.fmod x y∧Int.fmod x y≤2*(y.natAbs:Int):=by
 have hb:=tmod_bounds (x:=x) h
 by_cases h0:x.tmod y=0∨(0≤x∧0<y)∨(x<0∧y<0)
 ·rw[(floor_same h0).2];omega
 ·rw[(floor_less (by omega) (by omega)).2];omega
def powP:Option Int→Int
 |some p=>p
 |none=>0
def PowPost (w:World) (R:Option Int) (e:Ending) (w':World):Prop:=e= .returned (.tuple #[.int .i64 (powP R),.bool R.isSome])∧w=w'
def PowRel (w:World) (x:Int) (k:Nat) (R:Option Int) (gg:Nat) (u v:Value) (wr:World):Prop:=∃(j:Nat) (p:Int),w=wr∧gg=k-j∧u= .int .i64 p∧v= .int .i64 (j:Int)∧j≤k∧ -2147483647≤p∧p≤2147483647∧powG x (k-j) p=R
theorem pow_none {w w':World} {R:Option Int} (hR:R=none) (hw:w=w'):PowPost w R (.returned (.tuple #[.int .i64 0,.bool false])) w':=by subst hR;exact⟨rfl,hw⟩
theorem pow_some {w w':World} {R:Option Int} {p:Int} (hR:R=some p) (hw:w=w'):PowPost w R (.returned (.tuple #[.int .i64 p,.bool true])) w':=by subst hR;exact⟨rfl,hw⟩
theorem powG_bounds {x:Int}:∀(n:Nat) (p r:Int), -2147483647≤p→p≤2147483647→powG x n p=some r→ -2147483647≤r∧r≤2147483647
 |0,p,r,h1,h2,h=>by injection h with h;subst h;exact⟨h1,h2⟩
 |n+1,p,r,h1,h2,h=>by
  unfold powG at h
  split at h
  ·rename_i hi
   have:=inTop_iff.1 hi
   exact powG_bounds n _ r this.1 this.2 h
  ·cases h
theorem powG_ne {x:Int} (hx:x≠0):∀(n:Nat) (p r:Int),p≠0→powG x n p=some r→r≠0
 |0,p,r,hp,h=>by injection h with h;subst h;exact hp
 |n+1,p,r,hp,h=>by
  unfold powG at h
  split at h
  ·exact powG_ne hx n _ r (Int.mul_ne_zero hp hx) h
  ·cases h
def numV:Option Nat→Int
 |some n=>n
 |none=>0
def OptPost (w:World) (R:Option Nat) (e:Ending) (w':World):Prop:=e= .returned (.tuple #[.int .i64 (numV R),.bool R.isSome])∧w=w'
theorem num_step {s:ByteArray} {base i n:Nat} {R:Option Nat} (hb:base=10∨base=16) (h:i<s.size) (hr:numG base ((zAE s).drop i) n=R):
  ((4611686018427387904-(digV s[i].toNat:Int))/(base:Int)<n→R=none)∧
  ((n:Int)≤(4611686018427387904-(digV s[i].toNat:Int))/(base:Int)→numG base ((zAE s).drop (i+1)) (n*base+digV s[i].toNat)=R):=by
 have hd:=zBw s[i].toNat
 rw[zAx s i h] at hr
 unfold numG at hr
 generalize digV s[i].toNat=d at*
 have e:((4611686018427387904:Nat)-d)/base<n↔(4611686018427387904-(d:Int))/(base:Int)<n:=by
  rcases hb with rfl|rfl<;>omega
 constructor
 ·intro hc;rw[if_pos (e.2 hc)] at hr;exact hr.symm
 ·intro hc;rw[if_neg (by rw[e];omega)] at hr;exact hr
theorem num_stop {s:ByteArray} {base i n:Nat} {R:Option Nat} (h:s.size≤i) (hr:numG base ((zAE s).drop i) n=R):R=some n:=by
 rw[zBp s i h] at hr;exact hr.symm
theorem opt_none {w w':World} {R:Option Nat} (h:R=none) (hw:w=w'):OptPost w R (.returned (.tuple #[.int .i64 0,.bool false])) w':=by subst h;exact⟨rfl,hw⟩
theorem opt_some {w w':World} {R:Option Nat} {n:Nat} (h:R=some n) (hw:w=w'):OptPost w R (.returned (.tuple #[.int .i64 n,.bool true])) w':=by subst h;exact⟨rfl,hw⟩
def slashI (i:Nat):Option Nat→Int
 |none=> -1
 |some k=>((i+k:Nat):Int)
theorem pow10_le {i:Nat} (h:i≤9):10^i≤1000000000:=Nat.le_trans (Nat.pow_le_pow_right (by decide) h) (by decide)
theorem digits_nil {s:ByteArray} (h:s.size=0):zCD (zAE s)=false:=by
 have:zAE s=[]:=List.eq_nil_of_length_eq_zero (by rw[zAb];exact h)
 rw[this];rfl
theorem digits_run {s:ByteArray} (h:0<s.size):zCD (zAE s)=decide (runN 10 (zAE s)=s.size):=by
 unfold zCD
 have:(zAE s).isEmpty=false:=by
  cases hb:zAE s with
  |nil=>have:=zAb s;rw[hb] at this;simp at this;omega
  |cons _ _=>rfl
 rw[this,zAb];rfl
theorem bytes3 {s:ByteArray} (h:2<s.size):zAE s=s[0].toNat::s[1].toNat::s[2].toNat::(zAE s).drop 3:=by
 have h0:=zAx s 0 (by omega)
 have h1:=zAx s 1 (by omega)
 have h2:=zAx s 2 (by omega)
 rw[List.drop_zero] at h0
 exact h0.trans (congrArg _ (h1.trans (congrArg _ h2)))
theorem hex_short {s:ByteArray} (h:s.size≤2):zBl (zAE s)=false:=by
 have hl:=zAb s
 match hb:zAE s with
 |[]=>rfl
 |[_]=>rfl
 |[_,_]=>rfl
 |_::_::_::_=>rw[hb] at hl;simp at hl;omega
theorem hex_long {s:ByteArray} (h:2<s.size):zBl (zAE s)=(s[0].toNat==48&&(s[1].toNat==120||s[1].toNat==88)&&isDig 16 s[2].toNat):=by
 rw[bytes3 h];rfl
theorem numeral_hex {t:List Nat} (h:zBl t=true):zAv t=(2+runN 16 (t.drop 2),hexN ((t.drop 2).take (runN 16 (t.drop 2)))):=by unfold zAv;rw[if_pos h]
theorem add_run (a b:ByteArray) (h:a.size+b.size≤9223372036854775807) (w:World):(Op.stringOp .add a b).run Tryz.prog w= .ok (.string (a++b)) w:=by
 first|exact run_string_add_sum a b h|exact run_string_add_sum w a b h
theorem zBh (b:UInt8) (n:Nat):((b.toNat:Int)==(n:Int))=decide (b.toNat=n):=by
 rw[Bool.eq_iff_iff,beq_iff_eq,decide_eq_true_eq];omega
theorem byte_at {s:ByteArray} {r:Nat} (h:r<s.size):(zAE s)[r]? =some s[r].toNat:=by
 have h2:((zAE s).drop r)[0]? =some s[r].toNat:=by rw[zAx s r h];rfl
 rw[List.getElem?_drop] at h2
 exact h2
theorem run_head {s:ByteArray} {r:Nat} (h:r<s.size):(runN 10 ((zAE s).drop r)=0→¬digV s[r].toNat<10)∧(runN 10 ((zAE s).drop r)≠0→digV s[r].toNat<10):=by
 rw[zAx s r h]
 unfold runN isDig
 by_cases hd:digV s[r].toNat<10
 ·rw[if_pos (decide_eq_true hd)];exact⟨fun h=>by omega,fun _=>hd⟩
 ·rw[if_neg (by rw[decide_eq_false hd];decide)];exact⟨fun _=>hd,fun h=>absurd rfl h⟩
theorem run_nil {s:ByteArray} {r:Nat} (h:s.size≤r):runN 10 ((zAE s).drop r)=0:=by rw[zBp s r h];rfl
theorem has_places {s:ByteArray} {r:Nat} (h:zBT (zAE s) r≠0):∃h:r+1<s.size,
  ((s[r].toNat:Int)==46)=true∧digV s[r+1].toNat<10∧zBT (zAE s) r=runN 10 ((zAE s).drop (r+1)):=by
 unfold zBT at h ⊢
 by_cases hc:(zAE s)[r]? =some 46
 ·rw[if_pos hc] at h ⊢
  have hl:r+1<s.size:=by
   apply Classical.byContradiction
   intro hn
   exact h (run_nil (by omega))
  refine⟨hl,?_,(run_head hl).2 h,rfl⟩
  rw[byte_at (by omega)] at hc
  injection hc with hc
  exact(zBh s[r] 46).trans (decide_eq_true hc)
 ·rw[if_neg hc] at h;exact absurd rfl h
theorem numeral_dec {t:List Nat} (h:zBl t=false):zAv t=if runN 10 t=0 then(0,.error 4)
  else if zBT t (runN 10 t)=0 then(runN 10 t,decN (t.take (runN 10 t)) 0)
  else(runN 10 t+1+zBT t (runN 10 t),decN (t.take (runN 10 t)++(t.drop (runN 10 t+1)).take (zBT t (runN 10 t))) (zBT t (runN 10 t))):=by
 rw[zAv,h];rfl
abbrev FR:=Option (Bool×Int×Nat×Nat)
def findN (t:List Nat):FR:=
 if zBl t then some (true, -1,2+runN 16 (t.drop 2),2)
 else if runN 10 t=0 then none
 else if zBT t (runN 10 t)=0 then some (false, -1,runN 10 t,0)
 else some (false,(runN 10 t:Nat),runN 10 t+1+zBT t (runN 10 t),0)
def FindPost (w:World) (R:FR) (e:Ending) (w':World):Prop:=match R with
 |some (h,p,n,f)=>e= .returned (.tuple #[.agg #[.bool h,.int .i64 p,.int .i64 (n:Nat),.int .i64 (f:Nat)],.bool true])∧Below w.heap.size w w'
 |none=>e= .returned (.tuple #[.agg #[.bool false,.int .i64 0,.int .i64 0,.int .i64 0],.bool false])∧Below w.heap.size w w'
theorem find_no {w w':World} {R:FR} (h:R=none) (hb:Below w.heap.size w w'):FindPost w R (.returned (.tuple #[.agg #[.bool false,.int .i64 0,.int .i64 0,.int .i64 0],.bool false])) w':=by subst h;exact⟨rfl,hb⟩
theorem zBm {w w':World} {R:FR} {h:Bool} {p:Int} {n f:Nat} {n' f':Int} (hR:R=some (h,p,n,f)) (hn:n'=n) (hf:f'=f) (hb:Below w.heap.size w w'):FindPost w R (.returned (.tuple #[.agg #[.bool h,p,n',f'],.bool true])) w':=by subst hR hn hf;exact⟨rfl,hb⟩
theorem zBO {B:Nat} {a w:World} (h:Below B a w) {b:Nat} (hb:B≤b) (x y z u:Value):Below B a ((((w.setCell ⟨b,0,none⟩ x).setCell ⟨b,1,none⟩ y).setCell ⟨b,2,none⟩ z).setCell ⟨b,3,none⟩ u):=
 (((h.setCell (p:=⟨b,0,none⟩) hb x).setCell (p:=⟨b,1,none⟩) hb y).setCell (p:=⟨b,2,none⟩) hb z).setCell (p:=⟨b,3,none⟩) hb u
theorem digV_x:isDig 10 120=false∧isDig 10 88=false∧isDig 10 48=true:=by decide
theorem hex_run10 {t:List Nat} (h:zBl t=true):runN 10 t=1:=by
 match t,h with
 |a::x::d::r,h=>
  simp only[zBl,Bool.and_eq_true,Bool.or_eq_true,beq_iff_eq] at h
  obtain⟨⟨rfl,hx⟩,_⟩:=h
  unfold runN
  rw[if_pos digV_x.2.2]
  unfold runN
  rw[if_neg]
  rcases hx with rfl|rfl
  ·rw[digV_x.1];decide
  ·rw[digV_x.2.1];decide
end Go.Proofs.YthkpckgcgkijbaaGreatDoor
namespace Go.Proofs.YthkpckgcgkijbaaGreatDoor
structure V where
 k:Int
 p:Int
 q:Int
 s:ByteArray
 r:Int
def V.nil:V:=⟨0,0,0,⟨#[]⟩,0⟩
def V.num (v:V):N2:=(v.p,v.q)
abbrev V.cells (v:V):Array Value:=#[.int .i64 v.k,.int .i64 v.p,.int .i64 v.q,.string v.s,.int .i64 v.r]
abbrev V.v (v:V):Value:= .agg v.cells
def eqV (a b:V):Bool:=a.k==b.k&&a.p==b.p&&a.q==b.q&&zAE a.s==zAE b.s&&a.r==b.r
theorem eqV_iff {a b:V}:eqV a b=true↔a=b:=by
 obtain⟨k,p,q,s,r⟩:=a
 obtain⟨k',p',q',s',r'⟩:=b
 simp only[eqV,Bool.and_eq_true,beq_iff_eq,V.mk.injEq]
 constructor
 ·rintro⟨⟨⟨⟨h1,h2⟩,h3⟩,h4⟩,h5⟩;exact⟨h1,h2,h3,zCE h4,h5⟩
 ·rintro⟨h1,h2,h3,h4,h5⟩;exact⟨⟨⟨⟨h1,h2⟩,h3⟩,by rw[h4]⟩,h5⟩
def noNum (v:V):Bool:=v.p==0&&v.q==0
def noStr (v:V):Bool:=v.s.size==0
def isRef (k:Int):Bool:=k==4||k==5||k==7||k==8
def zAi (v:V):Bool:=
 if v.k=0 then noNum v&&noStr v&&v.r==0
 else if v.k=1 then noNum v&&noStr v&&(v.r==0||v.r==1)
 else if v.k=2 then zAT v.num&&noStr v&&v.r==0
 else if v.k=3 then noNum v&&decide (v.s.size≤4096)&&v.r==0
 else if isRef v.k then noNum v&&noStr v&&decide (1≤v.r)
 else if v.k=6 then noNum v&&decide (1≤v.s.size)&&decide (v.s.size≤4096)&&v.r==0
 else false
def trueV (v:V):Bool:= !(v.k==0)&& !(v.k==1&&v.r==0)
def boolV (b:Bool):V:=⟨1,0,0,⟨#[]⟩,if b then 1 else 0⟩
def intV (n:Int):V:=if inTop n then⟨2,n,1,⟨#[]⟩,0⟩ else V.nil
def numVal (a:N2):V:=if zAT a then⟨2,a.1,a.2,⟨#[]⟩,0⟩ else V.nil
def strV (s:ByteArray):V:=⟨3,0,0,s,0⟩
def zBY (v:V):RR:=
 if v.k=2 then(if zAT v.num then .ok v.num else .error 8)
 else if v.k=3 then(match parseG (zAE v.s) with| .ok a=> .ok a| .error _=> .error 8)
 else .error 8
abbrev VR:=Except Nat V
end Go.Proofs.YthkpckgcgkijbaaGreatDoor
namespace Go.Proofs.YthkpckgcgkijbaaGreatDoor
open Go.RowKit
def Good:RR→Prop
 | .ok a=> -2147483647≤a.1∧a.1≤2147483647∧a.2≤2147483647
 | .error c=>c=4∨c=6∨c=7
theorem good_range (p q:Int):Good (rangeN p q):=by
 unfold rangeN
 split
 ·rename_i h
  rw[Bool.and_eq_true,inTop_iff,decide_eq_true_eq] at h
  exact⟨h.1.1,h.1.2,h.2⟩
 ·exact .inr (.inl rfl)
theorem good_red (p q:Int):Good (redN p q):=by
 unfold redN redPos
 split<;>exact good_range _ _
theorem good_make (p q:Int):Good (makeN p q):=by
 unfold makeN
 split
 ·exact .inr (.inr rfl)
 ·split
  ·exact good_red _ _
  ·exact .inr (.inl rfl)
theorem range_err {p q:Int} {c:Nat} (h:rangeN p q= .error c):c=6:=by
 unfold rangeN at h
 split at h
 ·cases h
 ·injection h with h;exact h.symm
theorem make_err {p q:Int} {c:Nat} (hq:q≠0) (h:makeN p q= .error c):c=6:=by
 unfold makeN at h
 rw[if_neg hq] at h
 split at h
 ·unfold redN redPos at h
  split at h<;>exact range_err h
 ·injection h with h;exact h.symm
theorem pow_ne (P:Nat):((10^P:Nat):Int)≠0:=by
 have:0<10^P:=Nat.pow_pos (by decide)
 omega
theorem good_dec (l:List Nat) (P:Nat):Good (decN l P):=by
 unfold decN
 split
 ·exact .inr (.inl rfl)
 ·split
  ·exact .inr (.inl rfl)
  ·exact good_make _ _
theorem good_hex (l:List Nat):Good (hexN l):=by
 unfold hexN
 split
 ·exact .inr (.inl rfl)
 ·exact good_make _ _
theorem good_numeral (t:List Nat):Good (zAv t).2:=by
 unfold zAv
 split
 ·exact good_hex _
 ·split
  ·exact .inl rfl
  ·split<;>exact good_dec _ _
theorem good_fraction (p q:List Nat):Good (zBy p q):=by
 unfold zBy
 split
 ·split
  ·split
   ·exact .inr (.inl rfl)
   ·exact good_make _ _
  ·exact .inr (.inl rfl)
 ·exact .inl rfl
theorem zBg (t:List Nat):Good (zAz t):=by
 unfold zAz
 split
 ·split
  ·exact .inl rfl
  ·exact good_numeral t
 ·exact good_fraction _ _
theorem good_bounds {R:RR} (h:Good R): -2147483647≤nP R∧nP R≤2147483647∧nE R≤7:=by
 cases R with
 |ok a=>exact⟨h.1,h.2.1,Nat.zero_le _⟩
 |error c=>
  refine⟨show(-2147483647:Int)≤0 from by decide,show(0:Int)≤2147483647 from by decide,?_⟩
  have h:c=4∨c=6∨c=7:=h
  show c≤7
  omega
theorem good_err {c:Nat} (h:Good (.error c)):c≠0:=by
 have h:c=4∨c=6∨c=7:=h
 omega
theorem dropWhile_le (p:Nat→Bool):∀l:List Nat,(l.dropWhile p).length≤l.length
 |[]=>Nat.le_refl _
 |c::r=>by
  rw[List.dropWhile_cons]
  split
  ·exact Nat.le_succ_of_le (dropWhile_le p r)
  ·exact Nat.le_refl _
theorem trimG_le (l:List Nat):(trimG l).length≤l.length:=by
 unfold trimG
 rw[List.length_reverse]
 refine Nat.le_trans (dropWhile_le _ _) ?_
 rw[List.length_reverse]
 exact dropWhile_le _ _
theorem zAG {w:World} {o:Obj} {b k:Nat} (h:b<w.heap.size):(w.alloc o).cell? ⟨b,k,none⟩=w.cell? ⟨b,k,none⟩:=World.cell?_of_block (Below.heap_alloc w o b h)
theorem zAJ {w:World} {o:Obj} {b k:Nat} (h:b<w.heap.size):(w.alloc o).frozen? ⟨b,k,none⟩=w.frozen? ⟨b,k,none⟩:=World.frozen?_of_block (Below.heap_alloc w o b h)
end Go.Proofs.YthkpckgcgkijbaaGreatDoor
namespace Go.Proofs.YthkpckgcgkijbaaGreatDoor
open Go.RowKit Go.Proofs.Lexi
abbrev o4 (h:Bool) (p e f:Int):Obj:= .cells #[.bool h,p,e,f] 165
theorem mk_ways {n q:Int} {R:RR} (hq:q≠0) (hR:R=makeN n q):((((nE (makeN n q):Nat):Int) !=0)=false∧R=makeN n q∧nE R=0)∨((((nE (makeN n q):Nat):Int) !=0)=true∧R= .error 6):=by
 cases hM:makeN n q with
 |ok a=>exact .inl ⟨rfl,by rw[hR,hM],by rw[hR,hM];rfl⟩
 |error c=>
  have:=make_err hq hM
  subst this
  exact .inr ⟨rfl,by rw[hR,hM]⟩
theorem num_ok0 {w w':World} {R M:RR} (h:R=M) (h0:nE R=0) (hb:Below w.heap.size w w'):NumPost w R (.returned (.tuple #[.agg #[.int .i64 (nP M),.int .i64 (nQ M)],.int .i64 0])) w':=by
 subst h
 have:=zAu (R:=R) hb
 rw[h0] at this
 exact this
theorem bytes_to (s:ByteArray) (k:Nat):zAE (s.extract 0 k)=(zAE s).take k:=by rw[zBQ,List.drop_zero,Nat.sub_zero]
theorem size_to (s:ByteArray) {k:Nat} (h:k≤s.size):(s.extract 0 k).size=k:=by rw[ByteArray.size_extract];omega
def AllDig (base:Nat) (l:List Nat):Prop:=∀c∈l,isDig base c=true
theorem run_take (base:Nat):∀l:List Nat,AllDig base (l.take (runN base l))
 |[]=>fun c hc=>by simp at hc
 |x::r=>by
  unfold runN
  split
  ·rename_i hx
   intro c hc
   rw[List.take_succ_cons,List.mem_cons] at hc
   rcases hc with rfl|hc
   ·exact hx
   ·exact run_take base r c hc
  ·intro c hc
   simp at hc
theorem allDig_at {base:Nat} {s:ByteArray} (h:AllDig base (zAE s)) (i:Nat) (hi:i<s.size):isDig base s[i].toNat=true:=
 h _ (List.mem_of_getElem? (byte_at hi))
theorem dec_mk (A:Option Nat) {P:Nat} (h9:¬9<P):(match A with|none=>(.error 6:RR)|some n=>if 9<P then .error 6 else makeN n ((10:Nat)^P:Nat))=mkR A ((10^P:Nat):Int):=by
 cases A with
 |none=>rfl
 |some n=>exact if_neg h9
theorem slash_cons (c:Nat) (r:List Nat):zBL (c::r)=if c=47 then some 0 else(zBL r).map (· +1):=rfl
theorem index_slash:∀l:List UInt8,Lib.index l [47]=slashI 0 (zBL (l.map UInt8.toNat))
 |[]=>rfl
 |b::l=>by
  have ih:=index_slash l
  show(if ([47]:List UInt8).isPrefixOf (b::l) then(0:Int) else if Lib.index l [47]== -1 then-1 else Lib.index l [47]+1)=_
  have hp:([47]:List UInt8).isPrefixOf (b::l)=(47==b):=by simp[List.isPrefixOf]
  rw[hp,ih,List.map_cons,slash_cons]
  by_cases hb:b=47
  ·subst hb;rfl
  ·have h1:((47:UInt8)==b)=false:=by rw[beq_eq_false_iff_ne];exact fun h=>hb h.symm
   have h2:b.toNat≠47:=fun h=>hb (UInt8.toNat_inj.1 h)
   rw[h1,if_neg (by decide),if_neg h2]
   cases zBL (l.map UInt8.toNat) with
   |none=>rfl
   |some k=>
    show(if (((0+k:Nat):Int)== -1)=true then(-1:Int) else((0+k:Nat):Int)+1)=((0+(k+1):Nat):Int)
    rw[if_neg]
    ·omega
    ·rw[beq_iff_eq];omega
theorem cut_none {s:ByteArray} (h:zBL (zAE s)=none):Lib.cut s.data.toList [47]=(s.data.toList,[],false):=by
 unfold Lib.cut
 rw[index_slash,show s.data.toList.map UInt8.toNat=zAE s from rfl,h]
 rfl
theorem cut_some {s:ByteArray} {k:Nat} (h:zBL (zAE s)=some k):Lib.cut s.data.toList [47]=(s.data.toList.take k,s.data.toList.drop (k+1),true):=by
 unfold Lib.cut
 rw[index_slash,show s.data.toList.map UInt8.toNat=zAE s from rfl,h]
 show(if (0:Int)≤((0+k:Nat):Int) then _ else _)=_
 rw[if_pos (by omega)]
 show(s.data.toList.take (((0+k:Nat):Int)).toNat,s.data.toList.drop ((((0+k:Nat):Int)).toNat+1),true)=_
 rw[show(((0+k:Nat):Int)).toNat=k by omega]
theorem bytes_list (l:List UInt8):zAE ⟨l.toArray⟩=l.map UInt8.toNat:=by unfold zAE;simp
def fracN (t:List Nat):RR:=match zBL t with
 |none=> .error 4
 |some k=>zBy (t.take k) (t.drop (k+1))
theorem emp_true {p:ByteArray} (h:p.size=0):p.toList.isEmpty=true:=by rw[toList_nil h];rfl
theorem emp_false {p:ByteArray} (h:0<p.size):p.toList.isEmpty=false:=by
 cases he:p.toList.isEmpty with
 |false=>rfl
 |true=>exact absurd (List.isEmpty_iff.1 he) (toList_ne h)
theorem err_ways {M:RR} (hg:Good M):((((nE M:Nat):Int) !=0)=true∧∃c,M= .error c)∨((((nE M:Nat):Int) !=0)=false∧nE M=0∧∃a,M= .ok a):=by
 cases M with
 |ok a=>exact .inr ⟨rfl,rfl,a,rfl⟩
 |error c=>
  refine .inl ⟨?_,c,rfl⟩
  have:=good_err hg
  rw[bne_iff_ne]
  show(c:Int)≠0
  omega
theorem num_errE {w w':World} {R M:RR} {c:Nat} (h:R= .error c) (hM:M= .error c) (hb:Below w.heap.size w w'):NumPost w R (.returned (.tuple #[.agg #[.int .i64 0,.int .i64 0],.int .i64 (nE M:Nat)])) w':=by subst hM;exact zAV h hb
theorem signed_cons (c:Nat) (r:List Nat):signedG (c::r)=if c=45 then minusN (zAz r) else zAz (c::r):=rfl
theorem numeral_le (t:List Nat):(zAv t).1≤t.length:=by
 cases hx:zBl t with
 |true=>
  rw[numeral_hex hx]
  have h1:=zCI 16 (t.drop 2)
  rw[List.length_drop] at h1
  have h2:2≤t.length:=by
   match t,hx with
   |_::_::_::_,_=>simp
  show 2+runN 16 (t.drop 2)≤_
  omega
 |false=>
  rw[numeral_dec hx]
  have h1:=zCI 10 t
  split
  ·exact Nat.zero_le _
  ·split
   ·exact h1
   ·rename_i hp
    show runN 10 t+1+zBT t (runN 10 t)≤_
    unfold zBT at hp ⊢
    by_cases hc:t[runN 10 t]? =some 46
    ·rw[if_pos hc]
     have h2:=zCI 10 (t.drop (runN 10 t+1))
     have h3:=(List.getElem?_eq_some_iff.1 hc).1
     rw[List.length_drop] at h2
     omega
    ·rw[if_neg hc] at hp;exact absurd rfl hp
theorem uns_num {t:List Nat} (h0:(zAv t).1≠0) (h1:(zAv t).1=t.length):zAz t=(zAv t).2:=by
 unfold zAz
 cases hk:zBL t with
 |none=>
  show(if (zAv t).1=0∨(zAv t).1<t.length then _ else _)=_
  rw[if_neg (by omega)]
 |some k=>
  obtain⟨h2,h3,_⟩:=slashAt_some hk
  have:=numeral_slash h3
  omega
theorem uns_frac {t:List Nat} (h:(zAv t).1=0∨(zAv t).1≠t.length):zAz t=fracN t:=by
 unfold zAz fracN
 cases hk:zBL t with
 |none=>
  show(if (zAv t).1=0∨(zAv t).1<t.length then _ else _)=_
  rw[if_pos]
  have:=numeral_le t
  omega
 |some k=>rfl
theorem find_fst (t:List Nat):(∀h p e f,findN t=some (h,p,e,f)→(zAv t).1=e∧e≠0)∧(findN t=none→(zAv t).1=0):=by
 unfold findN
 cases hx:zBl t with
 |true=>
  rw[numeral_hex hx]
  refine⟨fun h p e f hh=> ?_,fun h=>by cases h⟩
  rw[if_pos rfl] at hh
  injection hh with hh
  simp only[Prod.mk.injEq] at hh
  obtain⟨_,_,rfl,_⟩:=hh
  exact⟨rfl,by omega⟩
 |false=>
  rw[numeral_dec hx]
  by_cases h0:runN 10 t=0
  ·rw[if_neg (by decide),if_pos h0,if_pos h0]
   exact⟨fun h p e f hh=>(by cases hh),fun _=>rfl⟩
  ·rw[if_neg (by decide),if_neg h0,if_neg h0]
   by_cases hp:zBT t (runN 10 t)=0
   ·rw[if_pos hp,if_pos hp]
    refine⟨fun h p e f hh=> ?_,fun h=>by cases h⟩
    injection hh with hh
    simp only[Prod.mk.injEq] at hh
    obtain⟨_,_,rfl,_⟩:=hh
    exact⟨rfl,h0⟩
   ·rw[if_neg hp,if_neg hp]
    refine⟨fun h p e f hh=> ?_,fun h=>by cases h⟩
    injection hh with hh
    simp only[Prod.mk.injEq] at hh
    obtain⟨_,_,rfl,_⟩:=hh
    exact⟨rfl,by omega⟩
theorem digits_len (v:Nat) (h:(v:Int)≤9223372036854775807):(Lib.decDigits v).length≤19:=by
 have key:∀k v:Nat,v<10^(k+1)→(Lib.decDigits v).length≤k+1:=by
  intro k
  induction k with
  |zero=>intro v hv;rw[Lib.decDigits,dif_pos (by simpa using hv)];exact Nat.le_refl _
  |succ k ih=>
   intro v hv
   rw[Lib.decDigits]
   split
   ·simp
   ·have:=ih (v/10) (by rw[Nat.pow_succ] at hv;omega)
    simp;omega
 exact key 18 v (by rw[show(10:Nat)^(18+1)=10000000000000000000 from by decide];omega)
theorem zAl {w:World} {base:Nat} {e:TypeId} {size:Nat} {v:Value} {n:Nat} {xs:List Value} (ho:w.ownsRow base e size v n xs) (hn:0<n):∃g cap,v= .slice (some ⟨g,0,none⟩) n cap:=by
 rcases ho.2 with⟨_,h⟩|⟨g,cap,_,h,_⟩
 ·omega
 ·exact⟨g,cap,h⟩
theorem zBo (w:World) (x:Value) (t:TypeId) (B:Nat) (hB:B=w.heap.size):∀j u,[x][j]? =some u→(w.alloc (.cells #[x] t)).cell? ((⟨B,0,none⟩:Addr).add j)=some u:=by
 intro j u hj
 subst hB
 have e:(⟨w.heap.size,0,none⟩:Addr).add j=⟨w.heap.size,j,none⟩:=by unfold Addr.add;split<;>simp_all
 rw[e,zAA (zAg _ _)]
 simpa using hj
def itoaB (n:Int):ByteArray:=⟨(Lib.itoa n).toArray⟩
def slashB:ByteArray:=⟨#[47]⟩
def textB (a:N2):ByteArray:=if zAT a then(if a.2=1 then itoaB a.1 else itoaB a.1++slashB++itoaB a.2) else⟨#[110,97,110]⟩
def StrB (w:World) (s:ByteArray) (e:Ending) (w':World):Prop:=e= .returned (.string s)∧Below w.heap.size w w'
theorem str_done {w w':World} {s t:ByteArray} (h:s=t) (hb:Below w.heap.size w w'):StrB w s (.returned (.string t)) w':=by subst h;exact⟨rfl,hb⟩
theorem itoaB_size {n:Int} (h1: -2147483647≤n) (h2:n≤2147483647):(itoaB n).size≤20:=by
 have h:=digits_len n.natAbs (by omega)
 have hs:(itoaB n).size=(Lib.itoa n).length:=by unfold itoaB;exact List.size_toArray
 rw[hs]
 unfold Lib.itoa
 split
 ·rw[List.length_cons];omega
 ·rw[show n.toNat=n.natAbs by omega];omega
theorem toList_size (s:ByteArray):s.toList=[]↔s.size=0:=by
 constructor
 ·intro h
  rcases Nat.eq_zero_or_pos s.size with h0|h0
  ·exact h0
  ·exact absurd h (toList_ne h0)
 ·exact toList_nil
theorem sz_le (n:Nat):((n:Int)≤4096)=(n≤4096):=propext ⟨fun h=>by omega,fun h=>by omega⟩
theorem sz_ge (n:Nat):((1:Int)≤(n:Int))=(1≤n):=propext ⟨fun h=>by omega,fun h=>by omega⟩
theorem sz_lt (n:Nat):((4096:Int)<(n:Int))=(4096<n):=propext ⟨fun h=>by omega,fun h=>by omega⟩
theorem sz_lt1 (n:Nat):((n:Int)<1)=(n<1):=propext ⟨fun h=>by omega,fun h=>by omega⟩
theorem ne_eq {n:Nat} {b:Bool} (h:(((n:Nat):Int) !=0)=b):(((n:Nat):Int)==0)= !b:=by rw[←h,bne,Bool.not_not]
def orType:RR→RR
 | .ok a=> .ok a
 | .error _=> .error 8
theorem good_minus {R:RR} (h:Good R):Good (minusN R):=by
 cases R with
 |error c=>exact h
 |ok a=>exact⟨by have:=h.2.1;show-2147483647≤ -a.1;omega,by have:=h.1;show-a.1≤2147483647;omega,h.2.2⟩
theorem good_parse (l:List Nat):Good (parseG l):=by
 unfold parseG
 cases trimG l with
 |nil=>exact(zBg []:Good (zAz []))
 |cons c r=>rw[signed_cons];split;exact good_minus (zBg _);exact zBg _
end Go.Proofs.YthkpckgcgkijbaaGreatDoor
