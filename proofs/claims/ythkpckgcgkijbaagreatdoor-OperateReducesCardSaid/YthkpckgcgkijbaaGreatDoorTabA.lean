import Derived.Test.YthkpckgcgkijbaaGreatDoorValB
set_option linter.unusedVariables false
set_option linter.unusedSimpArgs false
set_option maxRecDepth 100000
namespace Go.Proofs.YthkpckgcgkijbaaGreatDoor
open Go.RowKit Go.Proofs.Lexi
def TMods (S:Obj→Prop) (w w':World):Prop:=Mods (fun b=>∃o,w.heap[b]? =some o∧S o) w w'
theorem TMods.of_below {S:Obj→Prop} {w w':World} (h:Below w.heap.size w w'):TMods S w w':=Mods.of_below h
theorem TMods.refl (S:Obj→Prop) (w:World):TMods S w w:=Mods.refl _ _
theorem TMods.trans {S:Obj→Prop} {a b c:World} (h:TMods S a b) (k:TMods S b c):TMods S a c:=by
 refine⟨k.os.trans h.os,k.tape.trans h.tape,k.output.trans h.output,Nat.le_trans h.size k.size,fun i hi hF=> ?_⟩
 have h1:=h.block i hi hF
 exact(k.block i (Nat.lt_of_lt_of_le hi h.size) (fun⟨o,h2,h3⟩=>hF ⟨o,h1▸h2,h3⟩)).trans h1
theorem TMods.drew {S:Obj→Prop} {a b:World} (h:TMods S a b):TMods S a b.drew:=h.trans (TMods.of_below (Below.refl _ _).drew)
theorem TMods.alloc {S:Obj→Prop} {a b:World} (h:TMods S a b) (o:Obj):TMods S a (b.alloc o):=h.trans (TMods.of_below ((Below.refl _ _).alloc (Nat.le_refl _) o))
theorem TMods.keep {S:Obj→Prop} {w w':World} (h:TMods S w w') {b:Nat} {o:Obj} (hb:w.heap[b]? =some o) (hS:¬S o):w'.heap[b]? =some o:=
 (h.block b (Array.getElem?_eq_some_iff.1 hb).1 (fun⟨o2,h1,h2⟩=>hS (by rw[hb] at h1;injection h1 with h1;rw[h1];exact h2))).trans hb
theorem TMods.setCell {S:Obj→Prop} {a b:World} (h:TMods S a b) {k o:Nat} (hk:a.heap.size≤k∨∃x,a.heap[k]? =some x∧S x) (u:Value):TMods S a (b.setCell ⟨k,o,none⟩ u):=zAO h hk.symm u
def PB:Obj→Prop
 | .map _ _=>True
 | .cells _ t _=>t=159∨t=161∨t=136∨t=104∨t=89
 |_=>False
theorem zAc {w:World} {base e size n:Nat} {sv:Value} {xs:List Value} (h:w.ownsRow base e size sv n xs) {b:Nat} (hb:sv.ownBlock=some b):∃cs,w.heap[b]? =some (.cells cs e (0,0)):=by
 rcases h.2 with⟨h2,_⟩|⟨g',cap',cur,h2,h3,h4,_⟩
 ·rw[h2] at hb;cases hb
 ·rw[h2] at hb
  injection hb with hb
  subst hb
  exact⟨_,h4⟩
structure TabAt (w:World) (t m g:Nat) (sv:Value) (L:List Sl):Prop where
 ht:w.heap[t]? =some (.cells #[.slice none 0 0,.pointer (some ⟨m,0,none⟩)] 136)
 om:OMap w m g sv L
theorem valid_str {s:ByteArray} (h:s.size≤4096):zAi (strV s)=true:=by
 unfold zAi strV noNum
 simp[h]
theorem i64_lit:i64 0∧i64 3:=⟨⟨by decide,by decide⟩,⟨by decide,by decide⟩⟩
theorem wf_str {s:ByteArray} (h:s.size≤4096):WfV (strV s):=⟨i64_lit.2,i64_lit.1,i64_lit.1,by show s.size≤maxLen;unfold maxLen;omega,i64_lit.1⟩
def IntBool (w:World) (n:Int) (b:Bool) (e:Ending) (w':World):Prop:=e= .returned (.tuple #[.int .i64 n,.bool b])∧Below w.heap.size w w'
theorem tab_sep {w:World} {t m g:Nat} {sv:Value} {L:List Sl} (h:TabAt w t m g sv L):¬OmF m g sv t:=by
 have ht:=h.ht
 rintro(h1|h1|h1)
 ·have:=h.om.hm
  rw[←h1,ht] at this
  injection this with this
  injection this with h2 h3
  cases h3
 ·obtain⟨E,f,⟨es,c,hE,_⟩,_⟩:=h.om.map
  rw[←h1,ht] at hE
  cases hE
 ·obtain⟨cs,hc⟩:=zAc h.om.row h1
  rw[ht] at hc
  injection hc with hc
  injection hc with h2 h3
  cases h3
theorem TabAt.keep {w w':World} {t m g:Nat} {sv:Value} {L:List Sl} (h:TabAt w t m g sv L) (h0:w'.heap[t]? =w.heap[t]?) (h1:w'.heap[m]? =w.heap[m]?) (h2:w'.heap[g]? =w.heap[g]?) (h3:∀b,sv.ownBlock=some b→w'.heap[b]? =w.heap[b]?):TabAt w' t m g sv L:=
 ⟨h0.trans h.ht,h.om.keep h1 h2 h3⟩
theorem TabAt.below {w w':World} {t m g:Nat} {sv:Value} {L:List Sl} (h:TabAt w t m g sv L) (hb:Below w.heap.size w w'):TabAt w' t m g sv L:=⟨hkeep hb h.ht,zCK h.om hb⟩
def TabPost (w:World) (t m g:Nat) (sv:Value) (L':List Sl) (e:Ending) (w':World):Prop:=
 e= .returned (.int .i64 0)∧∃sv',TabAt w' t m g sv' L'∧Mods (OmF m g sv) w w'∧∀b,sv'.ownBlock=some b→sv.ownBlock=some b∨w.heap.size≤b
structure LO where
 kind:Int
 mt:V
 L:List Sl
abbrev LH:=List LO
def findL (H:LH) (v:V):Option LO:=
 if 1≤v.r then(match H[v.r.toNat-1]? with|some o=>if o.kind=v.k then some o else none|none=>none) else none
def getH (H:LH) (t:V) (s:ByteArray):VR:=
 match findL H t with
 |some o=>if o.kind=4 then .ok (getM o.L (strV s)) else .error 8
 |none=> .error 8
def metaH (H:LH) (v:V):V:=match findL H v with|some o=>o.mt|none=>V.nil
def handH (H:LH) (v:V) (s:ByteArray):V:=vV (getH H (metaH H v) s)
structure PO where
 kind:Int
 tag:Int
 name:ByteArray
 mt:V
 vals:Value
 o:Nat
 t:Nat
 m:Nat
 g:Nat
 sv:Value
 L:List Sl
def PO.lo (x:PO):LO:=⟨x.kind,x.mt,if x.kind=4 then x.L else[]⟩
def PO.tabv (x:PO):Value:=if x.kind=4 then .pointer (some ⟨x.t,0,none⟩) else .pointer none
abbrev PO.cells (x:PO):Array Value:=#[.int .i64 x.kind,.int .i64 x.tag,.string x.name,x.tabv,.int .i64 x.mt.k,.int .i64 x.mt.p,.int .i64 x.mt.q,.string x.mt.s,.int .i64 x.mt.r,x.vals]
structure PObj (w:World) (x:PO):Prop where
 ho:w.heap[x.o]? =some (.cells x.cells 104)
 kd:x.kind=4∨x.kind=5∨x.kind=8
 wm:WfV x.mt
 fm:x.kind=5→x.mt=V.nil∧x.vals= .slice none 0 0
 tb:x.kind=4→TabAt w x.t x.m x.g x.sv x.L
def PSep (x y:PO):Prop:=x.o≠y.o∧(x.kind=4→y.kind=4→x.m≠y.m∧x.g≠y.g∧∀b,x.sv.ownBlock=some b→y.sv.ownBlock≠some b)
def objE (H:List PO):List (Value×Value):=H.mapIdx fun i x=>(.int .i64 ((i+1:Nat):Int),.pointer (some ⟨x.o,0,none⟩))
structure HpAt (w:World) (h bo bt:Nat) (H:List PO):Prop where
 hh:w.heap[h]? =some (.cells #[.map (some bo),.int .i64 (H.length:Nat),.map (some bt)] 89)
 objs:MapAt Tryz.prog 3 w bo (objE H)
 touched:∃E,MapAt Tryz.prog 3 w bt E
 one:∀x∈H,PObj w x
 sep:H.Pairwise PSep
 ot:bo≠bt
 gs:∀x∈H,x.kind=4→x.g≠bo∧x.g≠bt
def lh (H:List PO):LH:=H.map PO.lo
def Small (n:Nat) (H:List PO):Prop:=∀x∈H,x.L.length≤n
def findP (H:List PO) (v:V):Option PO:=
 if 1≤v.r then(match H[v.r.toNat-1]? with|some o=>if o.kind=v.k then some o else none|none=>none) else none
theorem zCM (H:List PO) (v:V):findL (lh H) v=(findP H v).map PO.lo:=by
 unfold findL findP lh
 by_cases h:1≤v.r
 ·rw[if_pos h,if_pos h,List.getElem?_map]
  cases H[v.r.toNat-1]? with
  |none=>rfl
  |some o=>
   show(if o.lo.kind=v.k then some o.lo else none)=(if o.kind=v.k then some o else none).map PO.lo
   by_cases hk:o.kind=v.k
   ·rw[if_pos hk];rw[if_pos (show o.lo.kind=v.k from hk)];rfl
   ·rw[if_neg hk];rw[if_neg (show¬o.lo.kind=v.k from hk)];rfl
 ·rw[if_neg h,if_neg h];rfl
theorem find_at {H:List PO} {v:V} {x:PO} (h:findP H v=some x):∃i,H[i]? =some x∧x.kind=v.k∧v.r=((i+1:Nat):Int)∧x∈H:=by
 unfold findP at h
 split at h
 ·rename_i h1
  cases ho:H[v.r.toNat-1]? with
  |none=>rw[ho] at h;cases h
  |some o=>
   rw[ho] at h
   simp only at h
   split at h
   ·rename_i hk
    injection h with h
    subst h
    exact⟨_,ho,hk,by omega,List.mem_of_getElem? ho⟩
   ·cases h
 ·cases h
theorem objE_len (H:List PO):(objE H).length=H.length:=by unfold objE;rw[List.length_mapIdx]
theorem objE_get (H:List PO) (i:Nat):(objE H)[i]? =(H[i]?).map fun x=>(.int .i64 ((i+1:Nat):Int),.pointer (some ⟨x.o,0,none⟩)):=by
 unfold objE
 rw[List.getElem?_mapIdx]
theorem objE_mem {H:List PO} {p:Value×Value}:p∈objE H↔∃i x,H[i]? =some x∧p=(.int .i64 ((i+1:Nat):Int),.pointer (some ⟨x.o,0,none⟩)):=by
 constructor
 ·intro hp
  obtain⟨i,hi⟩:=List.getElem?_of_mem hp
  rw[objE_get] at hi
  cases hx:H[i]? with
  |none=>rw[hx] at hi;cases hi
  |some x=>rw[hx] at hi;injection hi with hi;exact⟨i,x,hx,hi.symm⟩
 ·rintro⟨i,x,hx,rfl⟩
  refine List.mem_of_getElem? (i:=i) ?_
  rw[objE_get,hx];rfl
def objAt (H:List PO) (r:Int):Option PO:=if 1≤r then H[r.toNat-1]? else none
def ptrO:Option PO→Value
 |some x=> .pointer (some ⟨x.o,0,none⟩)
 |none=> .pointer none
theorem zero94 (w:World):(zeroValue 94).run Tryz.prog w= .ok (.pointer none) w:=Tryz.zeroValue94 w
theorem obj_look {w:World} {bo:Nat} {H:List PO} (hE:MapAt Tryz.prog 3 w bo (objE H)) {r:Int} (hr:i64 r) (W:World) (hW:W.heap[bo]? =w.heap[bo]?):
  (Instr.lookup 86 (.map (some bo)) (.int .i64 r) false).run Tryz.prog W= .ok (ptrO (objAt H r)) W:=by
 obtain⟨l,hl⟩:=keyI hr
 rcases(hE.keep hW).look keyedI (e:=94) (t:=86) (by kernel_rfl) (zero94 W) hl with⟨h1,h2⟩|⟨v,h1,h2⟩
 ·have:objAt H r=none:=by
   unfold objAt
   split
   ·rename_i h
    cases ho:H[r.toNat-1]? with
    |none=>rfl
    |some x=>
     refine absurd ?_ (h1 _ (objE_mem.2 ⟨_,x,ho,rfl⟩))
     show Value.int .i64 _=Value.int .i64 _
     congr 1
     omega
   ·rfl
  rw[this]
  exact h2 false
 ·obtain⟨i,x,hx,he⟩:=objE_mem.1 h1
  simp only[Prod.mk.injEq,Value.int.injEq,true_and] at he
  obtain⟨rfl,rfl⟩:=he
  have:objAt H ((i+1:Nat):Int)=some x:=by
   unfold objAt
   rw[if_pos (by omega),show((i+1:Nat):Int).toNat-1=i by omega,hx]
  rw[this]
  exact h2 false
def PtrPost (w:World) (v:Value) (e:Ending) (w':World):Prop:=e= .returned v∧Below w.heap.size w w'
theorem heap1 (w:World) (o:Obj):(w.alloc o).heap[w.heap.size]? =some o:=zAg w o
theorem zAI {w:World} {b:Nat} {x:Obj} (h:w.heap[b]? =some x) (o:Obj):(w.alloc o).heap[b]? =some x:=hkeep ((Below.refl _ _).alloc (Nat.le_refl _) o) h
theorem zAm (w:World) (o:Obj):Below w.heap.size w (w.alloc o):=(Below.refl _ _).alloc (Nat.le_refl _) o
theorem HpAt.below {w w':World} {h bo bt:Nat} {H:List PO} (hH:HpAt w h bo bt H) (hb:Below w.heap.size w w'):HpAt w' h bo bt H:=by
 obtain⟨a,b,⟨E,c⟩,d,e,f,g⟩:=hH
 exact⟨hkeep hb a,b.keep (hb.block _ b.lt),⟨E,c.keep (hb.block _ c.lt)⟩,fun x hx=>⟨hkeep hb (d x hx).ho,(d x hx).kd,(d x hx).wm,(d x hx).fm,fun hk=>((d x hx).tb hk).below hb⟩,e,f,g⟩
theorem findP_none {H:List PO} {v:V} (h:objAt H v.r=none):findP H v=none:=by
 unfold findP
 unfold objAt at h
 split
 ·rename_i h1;rw[if_pos h1] at h;rw[h]
 ·rfl
theorem findP_some {H:List PO} {v:V} {x:PO} (h:objAt H v.r=some x):findP H v=if x.kind=v.k then some x else none:=by
 unfold findP
 unfold objAt at h
 split
 ·rename_i h1;rw[if_pos h1] at h;rw[h]
 ·rename_i h1;rw[if_neg h1] at h;cases h
theorem objAt_mem {H:List PO} {r:Int} {x:PO} (h:objAt H r=some x):x∈H:=by
 unfold objAt at h
 split at h
 ·exact List.mem_of_getElem? h
 ·cases h
def tabO:Option PO→Value
 |some x=>x.tabv
 |none=> .pointer none
end Go.Proofs.YthkpckgcgkijbaaGreatDoor
namespace Go.Proofs.YthkpckgcgkijbaaGreatDoor
def symL:List ByteArray:=[⟨#[]⟩,⟨#[43]⟩,⟨#[45]⟩,⟨#[42]⟩,⟨#[47]⟩,⟨#[47,47]⟩,⟨#[37]⟩,⟨#[94]⟩,⟨#[46,46]⟩,⟨#[38]⟩,⟨#[124]⟩,⟨#[126]⟩,⟨#[60,60]⟩,⟨#[62,62]⟩,⟨#[61,61]⟩,⟨#[126,61]⟩,⟨#[60]⟩,⟨#[60,61]⟩,⟨#[62]⟩,⟨#[62,61]⟩,⟨#[45]⟩,⟨#[110,111,116]⟩,⟨#[35]⟩,⟨#[126]⟩]
def evL:List ByteArray:=[⟨#[]⟩,⟨#[95,95,97,100,100]⟩,⟨#[95,95,115,117,98]⟩,⟨#[95,95,109,117,108]⟩,⟨#[95,95,100,105,118]⟩,⟨#[95,95,105,100,105,118]⟩,⟨#[95,95,109,111,100]⟩,⟨#[95,95,112,111,119]⟩,⟨#[95,95,99,111,110,99,97,116]⟩,⟨#[95,95,98,97,110,100]⟩,⟨#[95,95,98,111,114]⟩,⟨#[95,95,98,120,111,114]⟩,⟨#[95,95,115,104,108]⟩,⟨#[95,95,115,104,114]⟩,⟨#[95,95,101,113]⟩,⟨#[95,95,101,113]⟩,⟨#[95,95,108,116]⟩,⟨#[95,95,108,101]⟩,⟨#[95,95,108,116]⟩,⟨#[95,95,108,101]⟩,⟨#[95,95,117,110,109]⟩,⟨#[]⟩,⟨#[95,95,108,101,110]⟩,⟨#[95,95,98,110,111,116]⟩]
def nameM (o:Int):ByteArray:=if 1≤o∧o≤23 then symL.getD o.toNat ⟨#[]⟩ else⟨#[]⟩
def zBK (o:Int):ByteArray:=if 1≤o∧o≤23 then evL.getD o.toNat ⟨#[]⟩ else⟨#[]⟩
def typeM (k:Int):ByteArray:=
 if k=0 then⟨#[110,105,108]⟩ else if k=1 then⟨#[98,111,111,108,101,97,110]⟩ else if k=2 then⟨#[110,117,109,98,101,114]⟩ else if k=3 then⟨#[115,116,114,105,110,103]⟩ else if k=4 then⟨#[116,97,98,108,101]⟩
 else if k=5 then⟨#[102,117,110,99,116,105,111,110]⟩ else if k=6 then⟨#[102,117,110,99,116,105,111,110]⟩ else if k=7 then⟨#[116,104,114,101,97,100]⟩ else if k=8 then⟨#[117,115,101,114,100,97,116,97]⟩ else⟨#[]⟩
def isNum (v:V):Bool:=match zBY v with| .ok _=>true| .error _=>false
def isStr (v:V):Bool:=match strOf v with| .ok _=>true| .error _=>false
abbrev sArith:ByteArray:=⟨#[97,116,116,101,109,112,116,32,116,111,32,112,101,114,102,111,114,109,32,97,114,105,116,104,109,101,116,105,99,32,111,110,32,97,32]⟩
abbrev sBitw:ByteArray:=⟨#[97,116,116,101,109,112,116,32,116,111,32,112,101,114,102,111,114,109,32,98,105,116,119,105,115,101,32,111,112,101,114,97,116,105,111,110,32,111,110,32,97,32]⟩
abbrev sConc:ByteArray:=⟨#[97,116,116,101,109,112,116,32,116,111,32,99,111,110,99,97,116,101,110,97,116,101,32,97,32]⟩
abbrev sNoInt:ByteArray:=⟨#[110,117,109,98,101,114,32,104,97,115,32,110,111,32,105,110,116,101,103,101,114,32,114,101,112,114,101,115,101,110,116,97,116,105,111,110]⟩
abbrev sTwo:ByteArray:=⟨#[97,116,116,101,109,112,116,32,116,111,32,99,111,109,112,97,114,101,32,116,119,111,32]⟩
abbrev sComp:ByteArray:=⟨#[97,116,116,101,109,112,116,32,116,111,32,99,111,109,112,97,114,101,32]⟩
abbrev sValue:ByteArray:=⟨#[32,118,97,108,117,101]⟩
abbrev sValues:ByteArray:=⟨#[32,118,97,108,117,101,115]⟩
abbrev sWith:ByteArray:=⟨#[32,119,105,116,104,32]⟩
abbrev sBad:ByteArray:=⟨#[98,97,100,32,97,114,103,117,109,101,110,116]⟩
abbrev sZero:ByteArray:=⟨#[100,105,118,105,115,105,111,110,32,98,121,32,122,101,114,111]⟩
abbrev sRange:ByteArray:=⟨#[110,117,109,98,101,114,32,111,117,116,32,111,102,32,114,97,110,103,101]⟩
abbrev sLong:ByteArray:=⟨#[115,116,114,105,110,103,32,116,111,111,32,108,111,110,103]⟩
abbrev sLenOf:ByteArray:=⟨#[97,116,116,101,109,112,116,32,116,111,32,103,101,116,32,108,101,110,103,116,104,32,111,102,32,97,32]⟩
def wrongM (o:Int) (a b:V):ByteArray:=
 if (1≤o∧o≤7)∨o=20 then sArith++typeM (if isNum a then b.k else a.k)++sValue
 else if (9≤o∧o≤13)∨o=23 then(if isNum a&&isNum b then sNoInt else sBitw++typeM (if isNum a then b.k else a.k)++sValue)
 else if o=8 then sConc++typeM (if isStr a then b.k else a.k)++sValue
 else if zAE (typeM a.k)=zAE (typeM b.k) then sTwo++typeM a.k++sValues
 else sComp++typeM a.k++sWith++typeM b.k
structure Nd where
 k:Int
 v:V
 f:V
 args:List V
 after:Int
 s:ByteArray
def ndVal (v:V):Nd:=⟨1,v,V.nil,[],0,⟨#[]⟩⟩
def ndErr (s:ByteArray):Nd:=⟨3,V.nil,V.nil,[],0,s⟩
def zBs (f:V) (args:List V) (after:Int):Nd:=⟨2,V.nil,f,args,after,⟨#[]⟩⟩
def findH (hand:V→ByteArray→V) (s:ByteArray) (a b:V):V:=if (hand a s).k=0 then hand b s else hand a s
def zBa (hand:V→ByteArray→V) (o:Int) (R:VR) (a b:V):Nd:=
 match R with
 | .ok v=>ndVal v
 | .error c=>if c=7 then ndErr sZero else if c=6 then ndErr sRange else if c=14 then ndErr sLong
   else if (findH hand (zBK o) a b).k=0 then ndErr (wrongM o a b) else zBs (findH hand (zBK o) a b) [a,b] (if o=16∨o=17 then 2 else 1)
def equalM (hand:V→ByteArray→V) (o:Int) (a b:V):Nd:=
 if eqV a b=true∨a.k≠b.k∨(a.k≠4∧a.k≠8) then ndVal (boolV (eqV a b==decide (o=14)))
 else if (findH hand (zBK o) a b).k=0 then ndVal (boolV (eqV a b==decide (o=14)))
 else zBs (findH hand (zBK o) a b) [a,b] (if o=15 then 3 else 2)
def zAw (hand:V→ByteArray→V) (o:Int) (a b:V):Nd:=
 if ¬(1≤o∧o≤19)∨zAi a=false∨zAi b=false then ndErr sBad
 else if o=18 then zBa hand 16 (zAy 16 b a) b a
 else if o=19 then zBa hand 17 (zAy 17 b a) b a
 else if o=14∨o=15 then equalM hand o a b
 else zBa hand o (zAy o a b) a b
def lenM (hand:V→ByteArray→V) (a:V):Nd:=
 if a.k=3 then ndVal (intV (a.s.size:Int))
 else if (hand a (zBK 22)).k≠0 then zBs (hand a (zBK 22)) [a,a] 1
 else if a.k=4 then ndVal (intV 0)
 else ndErr (sLenOf++typeM a.k++sValue)
def unaryM (hand:V→ByteArray→V) (o:Int) (a:V):Nd:=
 if ¬(20≤o∧o≤23)∨zAi a=false then ndErr sBad
 else if o=22 then lenM hand a
 else zBa hand o (zAy o a V.nil) a a
def tabH (H:LH) (v:V):Bool:=match findL H v with|some o=>o.kind==4|none=>false
def zBc (H:LH) (v m:V):LH:=
 match findL H v with
 |some o=>if (o.kind=4∨o.kind=8)∧(eqV m V.nil=true∨tabH H m=true) then H.set (v.r.toNat-1) ⟨o.kind,m,o.L⟩ else H
 |none=>H
def setH (H:LH) (t:V) (s:ByteArray) (v:V):LH:=
 match findL H t with
 |some o=>if o.kind=4∧s.size≤4096∧zAi v=true then H.set (t.r.toNat-1) ⟨o.kind,o.mt,setM o.L (strV s) v⟩ else H
 |none=>H
structure Fd where
 kind:Int
 t:Int
 m:Int
 name:ByteArray
 val:V
def objM (T D:Int) (i:Int):V:=⟨if i≤T then 4 else if i≤T+D then 8 else 5,0,0,⟨#[]⟩,i⟩
def fieldM (T D:Int) (H:LH) (f:Fd):LH:=if f.kind=1 then zBc H (objM T D f.t) (objM T D f.m) else setH H (objM T D f.t) f.name f.val
def startM (T D F:Nat):LH:=List.replicate T ⟨4,V.nil,[]⟩++List.replicate D ⟨8,V.nil,[]⟩++List.replicate F ⟨5,V.nil,[]⟩
def buildM (T D F:Nat) (fs:List Fd):LH:=fs.foldl (fieldM T D) (startM T D F)
theorem setM_len (L:List Sl) (k v:V):(setM L k v).length≤L.length+1:=by
 unfold setM
 split
 ·split<;>rw[List.length_set]<;>omega
 ·split
  ·omega
  ·rw[List.length_append]
   have:(roomM L).length≤L.length:=by
    unfold roomM
    split
    ·exact List.length_filter_le _ _
    ·exact Nat.le_refl _
   simp
   omega
end Go.Proofs.YthkpckgcgkijbaaGreatDoor
namespace Go.Proofs.YthkpckgcgkijbaaGreatDoor
open Go.RowKit Go.Proofs.Lexi
abbrev v5 (v:V):List Value:=[.int .i64 v.k,.int .i64 v.p,.int .i64 v.q,.string v.s,.int .i64 v.r]
abbrev ndV (n:Nd) (av:Value):Value:= .agg #[.int .i64 n.k,.int .i64 n.v.k,.int .i64 n.v.p,.int .i64 n.v.q,.string n.v.s,.int .i64 n.v.r,.int .i64 n.f.k,.int .i64 n.f.p,.int .i64 n.f.q,.string n.f.s,.int .i64 n.f.r,av,.int .i64 n.after,.string n.s]
def ArgsAt (w:World) (base:Nat) (av:Value) (l:List V):Prop:=
 (l=[]∧av= .slice none 0 0)∨∃(g:Nat) (a b:V),l=[a,b]∧av= .slice (some ⟨g,0,none⟩) 2 2∧base≤g∧w.heap[g]? =some (.cells #[.int .i64 a.k,.int .i64 a.p,.int .i64 a.q,.string a.s,.int .i64 a.r,.int .i64 b.k,.int .i64 b.p,.int .i64 b.q,.string b.s,.int .i64 b.r] 25)
def NdPost (w:World) (n:Nd) (e:Ending) (w':World):Prop:=∃av,e= .returned (ndV n av)∧ArgsAt w' w.heap.size av n.args∧Below w.heap.size w w'
theorem ArgsAt.below {w w':World} {base:Nat} {av:Value} {l:List V} (h:ArgsAt w base av l) (hb:Below w.heap.size w w'):ArgsAt w' base av l:=by
 rcases h with h|⟨g,a,b,h1,h2,h3,h4⟩
 ·exact .inl h
 ·exact .inr ⟨g,a,b,h1,h2,h3,hkeep hb h4⟩
theorem ArgsAt.base {w:World} {base base':Nat} {av:Value} {l:List V} (h:ArgsAt w base av l) (hb:base'≤base):ArgsAt w base' av l:=by
 rcases h with h|⟨g,a,b,h1,h2,h3,h4⟩
 ·exact .inl h
 ·exact .inr ⟨g,a,b,h1,h2,Nat.le_trans hb h3,h4⟩
abbrev oNd:Obj:= .cells #[.int .i64 0,.int .i64 0,.int .i64 0,.int .i64 0,.string ⟨#[]⟩,.int .i64 0,.int .i64 0,.int .i64 0,.int .i64 0,.string ⟨#[]⟩,.int .i64 0,.slice none 0 0,.int .i64 0,.string ⟨#[]⟩] 43
end Go.Proofs.YthkpckgcgkijbaaGreatDoor
namespace Go.Proofs.YthkpckgcgkijbaaGreatDoor
open Go.RowKit
theorem valid_redPos {p q:Int} (hq:0<q) {a:N2} (h:redPos p q= .ok a):zAT a=true:=by
 unfold redPos rangeN at h
 split at h
 ·rename_i hc
  injection h with h
  subst h
  rw[Bool.and_eq_true,inTop_iff,decide_eq_true_eq] at hc
  have hg:0<Int.gcd p q:=gcd_pos_right (by omega)
  rw[validN_iff]
  refine⟨?_,hc.2,hc.1.1,hc.1.2,Int.gcd_ediv_gcd_ediv_gcd hg⟩
  have h1:(Int.gcd p q:Int) ∣ q:=Int.gcd_dvd_right ..
  have h2:=Int.ediv_pos_of_pos_of_dvd hq (by omega) h1
  show 1≤q/(Int.gcd p q:Int)
  omega
 ·cases h
theorem valid_red {p q:Int} (hq:q≠0) {a:N2} (h:redN p q= .ok a):zAT a=true:=by
 unfold redN at h
 split at h
 ·exact valid_redPos (by omega) h
 ·exact valid_redPos (by omega) h
theorem valid_make {p q:Int} {a:N2} (h:makeN p q= .ok a):zAT a=true:=by
 unfold makeN at h
 split at h
 ·cases h
 ·rename_i hq
  split at h
  ·exact valid_red hq h
  ·cases h
theorem valid_dec {l:List Nat} {P:Nat} {a:N2} (h:decN l P= .ok a):zAT a=true:=by
 unfold decN at h
 split at h
 ·cases h
 ·split at h
  ·cases h
  ·exact valid_make h
theorem valid_hex {l:List Nat} {a:N2} (h:hexN l= .ok a):zAT a=true:=by
 unfold hexN at h
 split at h
 ·cases h
 ·exact valid_make h
theorem valid_numeral {t:List Nat} {a:N2} (h:(zAv t).2= .ok a):zAT a=true:=by
 unfold zAv at h
 split at h
 ·exact valid_hex h
 ·split at h
  ·cases h
  ·split at h<;>exact valid_dec h
theorem valid_fraction {p q:List Nat} {a:N2} (h:zBy p q= .ok a):zAT a=true:=by
 unfold zBy at h
 split at h
 ·split at h
  ·split at h
   ·cases h
   ·exact valid_make h
  ·cases h
 ·cases h
theorem valid_unsigned {t:List Nat} {a:N2} (h:zAz t= .ok a):zAT a=true:=by
 unfold zAz at h
 split at h
 ·split at h
  ·cases h
  ·exact valid_numeral h
 ·exact valid_fraction h
theorem valid_minus {R:RR} (hR:∀a,R= .ok a→zAT a=true) {a:N2} (h:minusN R= .ok a):zAT a=true:=by
 cases R with
 |error c=>cases h
 |ok x=>
  injection h with h
  subst h
  have:=validN_iff.1 (hR x rfl)
  rw[validN_iff]
  refine⟨this.1,this.2.1,?_,?_,?_⟩
  ·show-2147483647≤ -x.1;omega
  ·show-x.1≤2147483647;omega
  ·show Int.gcd (-x.1) x.2=1
   rw[Int.neg_gcd]
   exact this.2.2.2.2
theorem valid_parse {l:List Nat} {a:N2} (h:parseG l= .ok a):zAT a=true:=by
 unfold parseG at h
 cases ht:trimG l with
 |nil=>
  rw[ht] at h
  have h:zAz []= .ok a:=h
  exact valid_unsigned h
 |cons c r=>
  rw[ht] at h
  have h:(if c=45 then minusN (zAz r) else zAz (c::r))= .ok a:=h
  split at h
  ·exact valid_minus (fun x hx=>valid_unsigned hx) h
  ·exact valid_unsigned h
theorem valid_number {v:V} {x:N2} (h:zBY v= .ok x):zAT x=true:=by
 unfold zBY at h
 split at h
 ·split at h
  ·rename_i hv;injection h with h;subst h;exact hv
  ·cases h
 ·split at h
  ·split at h
   ·rename_i a ha;injection h with h;subst h;exact valid_parse ha
   ·cases h
  ·cases h
theorem red_err {p q:Int} {c:Nat} (h:redN p q= .error c):c=6:=by
 unfold redN redPos at h
 split at h<;>exact range_err h
theorem int_err {n:Int} {c:Nat} (h:intN n= .error c):c=6:=by
 unfold intN at h
 split at h
 ·cases h
 ·injection h with h;exact h.symm
theorem two_valid {a b:N2} (ha:zAT a=true) (hb:zAT b=true) (f:RR):twoN a b f=f:=by
 unfold twoN
 rw[ha,hb]
 rfl
theorem pow_fix_err {M:RR} {c:Nat} (hM:∀d,M= .error d→d=2∨d=6∨d=7) (h:powFix M= .error c):c=6∨c=7:=by
 cases M with
 |ok a=>cases h
 |error d=>
  have:=hM d rfl
  injection h with h
  split at h<;>omega
theorem pow_fin_err {n:Bool} {P Q:Option Int} {c:Nat} (h:powFin n P Q= .error c):c=6:=by
 unfold powFin at h
 split at h
 ·split at h<;>exact red_err h
 ·injection h with h;exact h.symm
theorem pow_err {a n:N2} {c:Nat} (h:powN a n= .error c):c=2∨c=6∨c=7:=by
 unfold powN at h
 split at h
 ·split at h
  ·injection h with h;omega
  ·have:=pow_fin_err h;omega
 ·injection h with h;omega
theorem bits_err {o:Int} (ho:(9≤o∧o≤13)∨o=23) {x y:N2} (hx:zAT x=true) (hy:zAT y=true) {c:Nat} (h:bitsN o x y= .error c):c=6∨c=8:=by
 have h1:isBitOp o=true:=by unfold isBitOp;simp;omega
 have h2:zAT (bitArg o y)=true:=by
  unfold bitArg
  split
  ·decide
  ·exact hy
 rw[zCO h1,hx,h2] at h
 have h:bitV o x (bitArg o y)= .error c:=h
 unfold bitV at h
 by_cases h3:x.2=1∧(bitArg o y).2=1
 ·rw[if_pos h3] at h;exact .inl (int_err h)
 ·rw[if_neg h3] at h;injection h with h;omega
theorem arith_err {o:Int} (ho:(1≤o∧o≤7)∨o=20∨(9≤o∧o≤13)∨o=23) {x y:N2} (hx:zAT x=true) (hy:zAT y=true) {c:Nat} (h:arithN o x y= .error c):c=6∨c=7∨c=8:=by
 unfold arithN at h
 split at h
 ·unfold addN at h;rw[two_valid hx hy] at h;exact .inl (red_err h)
 ·split at h
  ·unfold subN at h;rw[two_valid hx hy] at h;exact .inl (red_err h)
  ·split at h
   ·unfold mulN at h;rw[two_valid hx hy] at h;exact .inl (red_err h)
   ·split at h
    ·unfold divN at h
     rw[two_valid hx hy] at h
     split at h
     ·injection h with h;omega
     ·exact .inl (red_err h)
    ·split at h
     ·unfold quotN at h
      rw[two_valid hx hy] at h
      split at h
      ·injection h with h;omega
      ·exact .inl (int_err h)
     ·split at h
      ·unfold modN at h
       rw[two_valid hx hy] at h
       split at h
       ·injection h with h;omega
       ·exact .inl (red_err h)
      ·split at h
       ·have:=pow_fix_err (fun d hd=>pow_err hd) h;omega
       ·split at h
        ·unfold negN at h;rw[hx] at h;cases h
        ·have:=bits_err (by omega) hx hy h;omega
theorem err_ok {R:RR} {c:Nat} (h:nE R=c) (hc:c≠0):R= .error c:=by
 cases R with
 |ok a=>exact absurd h.symm hc
 |error d=>have h:d=c:=h;rw[h]
theorem numb_ok {R:RR} (h:¬nE R≠0) (h0:R≠ .error 0):R= .ok (nP R,nQ R):=by
 cases R with
 |ok a=>rfl
 |error d=>
  have:d=0:=by have h:¬d≠0:=h;omega
  subst this
  exact absurd rfl h0
theorem number_err {v:V}:zBY v≠ .error 0:=by
 unfold zBY
 split
 ·split
  ·exact fun h=>by cases h
  ·exact fun h=>by injection h with h;cases h
 ·split
  ·split
   ·exact fun h=>by cases h
   ·exact fun h=>by injection h with h;cases h
  ·exact fun h=>by injection h with h;cases h
theorem second_valid {o:Int} {b:V} {x:N2} (h:zBt o b= .ok x):zAT x=true:=by
 unfold zBt at h
 split at h
 ·injection h with h;subst h;decide
 ·exact valid_number h
theorem second_err {o:Int} {b:V}:zBt o b≠ .error 0:=by
 unfold zBt
 split
 ·exact fun h=>by cases h
 ·exact number_err
theorem numbers_err {o:Int} (ho:(1≤o∧o≤7)∨o=20∨(9≤o∧o≤13)∨o=23) {a b:V} {c:Nat} (h:numbersV o (zBY a) (zBt o b)= .error c):c=6∨c=7∨c=8:=by
 unfold numbersV at h
 split at h
 ·injection h with h;omega
 ·rename_i hn
  have h1:=numb_ok (fun e=>hn (.inl e)) number_err
  have h2:=numb_ok (fun e=>hn (.inr e)) second_err
  split at h
  ·rename_i hc
   injection h with h
   exact arith_err ho (valid_number h1) (second_valid h2) (err_ok h (h▸hc))
  ·cases h
theorem concat_err {a b:V} {c:Nat} (h:concatV (strOf a) (strOf b)= .error c):c=8∨c=14:=by
 unfold concatV at h
 split at h
 ·split at h
  ·injection h with h;omega
  ·cases h
 ·injection h with h;omega
theorem less_err {a b:V} {c:Nat} (h:lessOf a b= .error c):c=8:=by
 unfold lessOf at h
 split at h
 ·split at h
  ·cases h
  ·injection h with h;omega
 ·split at h
  ·cases h
  ·injection h with h;omega
theorem compare_err {o:Int} {a b:V} {c:Nat} (h:compareV o a b= .error c):c=8:=by
 unfold compareV at h
 cases hl:(if o=17∨o=18 then lessOf b a else lessOf a b) with
 |ok l=>rw[hl] at h;cases h
 |error d=>
  rw[hl] at h
  injection h with h
  subst h
  split at hl<;>exact less_err hl
theorem plain_err {o:Int} {a b:V} {c:Nat} (ho:1≤o∧o≤23) (ha:zAi a=true) (hb:o≤19→zAi b=true) (h:zAy o a b= .error c):c=6∨c=7∨c=8∨c=14:=by
 unfold zAy at h
 rw[if_neg (by
  rintro(h1|h1|⟨h1,h2⟩)
  ·exact h1 ho
  ·rw[ha] at h1;cases h1
  ·rw[hb h1] at h2;cases h2)] at h
 split at h
 ·have:=concat_err h;omega
 ·split at h
  ·cases h
  ·split at h
   ·cases h
   ·split at h
    ·have:=compare_err h;omega
    ·split at h
     ·cases h
     ·split at h
      ·split at h
       ·cases h
       ·injection h with h;omega
      ·have:=numbers_err (by omega) h;omega
end Go.Proofs.YthkpckgcgkijbaaGreatDoor
namespace Go.Proofs.YthkpckgcgkijbaaGreatDoor
open Go.RowKit Go.Proofs.Lexi
def nameE:List (Value×Value):=[(.int .i64 0,.string ⟨#[110,105,108]⟩),(.int .i64 1,.string ⟨#[98,111,111,108,101,97,110]⟩),(.int .i64 2,.string ⟨#[110,117,109,98,101,114]⟩),(.int .i64 3,.string ⟨#[115,116,114,105,110,103]⟩),(.int .i64 4,.string ⟨#[116,97,98,108,101]⟩),(.int .i64 5,.string ⟨#[102,117,110,99,116,105,111,110]⟩),(.int .i64 6,.string ⟨#[102,117,110,99,116,105,111,110]⟩),(.int .i64 7,.string ⟨#[116,104,114,101,97,100]⟩),(.int .i64 8,.string ⟨#[117,115,101,114,100,97,116,97]⟩)]
def InsR (w0:World) (b:Nat) (E:List (Value×Value)) (w':World):Prop:=MapAt Tryz.prog 3 w' b E∧Below w0.heap.size w0 w'
theorem ins_at {w0 w:World} {b:Nat} {E:List (Value×Value)} (hE:MapAt Tryz.prog 3 w b E) (hb:Below w0.heap.size w0 w) (hB:w0.heap.size≤b) (n:Int) (hn:i64 n) (hno:∀p∈E,p.1≠ .int .i64 n) (s:ByteArray):
  ∃w',(Instr.mapUpdate 187 (.map (some b)) (.int .i64 n) (.string s)).run Tryz.prog w= .ok () w'∧InsR w0 b (E++[(.int .i64 n,.string s)]) w':=by
 obtain⟨l,hl⟩:=keyI hn
 obtain⟨w',E',h1,h2,h3,h4,_,h6⟩:=hE.store keyedI (e:=9) (t:=187) (by kernel_rfl) hl (.string s)
 have h7:E'=_:=h6 hno
 subst h7
 exact⟨w',h1,h2,hb.trans (h3.below (B:=w0.heap.size) hb.size (fun k hk e=>by omega))⟩
theorem i64s {n:Int} (h:0≤n∧n≤8):i64 n:=⟨by omega,by omega⟩
theorem names_look {w:World} {b:Nat} (hE:MapAt Tryz.prog 3 w b nameE) {k:Int} (hk:i64 k):(Instr.lookup 187 (.map (some b)) (.int .i64 k) false).run Tryz.prog w= .ok (.string (typeM k)) w:=by
 obtain⟨l,hl⟩:=keyI hk
 have hz:(zeroValue 9).run Tryz.prog w= .ok (.string ⟨#[]⟩) w:=Tryz.zeroValue9 w
 rcases hE.look keyedI (e:=9) (t:=187) (by kernel_rfl) hz hl with⟨h1,h2⟩|⟨v,h1,h2⟩
 ·have ne:∀n:Int,(.int .i64 n:Value)∈nameE.map (·.1)→k≠n:=fun n hn e=>by
   rw[List.mem_map] at hn
   obtain⟨p,hp,he⟩:=hn
   exact h1 p hp (by rw[he,e])
  have:typeM k=⟨#[]⟩:=by
   unfold typeM
   rw[if_neg (ne 0 (by simp[nameE])),if_neg (ne 1 (by simp[nameE])),if_neg (ne 2 (by simp[nameE])),if_neg (ne 3 (by simp[nameE])),if_neg (ne 4 (by simp[nameE])),if_neg (ne 5 (by simp[nameE])),if_neg (ne 6 (by simp[nameE])),if_neg (ne 7 (by simp[nameE])),if_neg (ne 8 (by simp[nameE]))]
  rw[this]
  exact h2 false
 ·unfold nameE at h1
  simp only[List.mem_cons,Prod.mk.injEq,Value.int.injEq,true_and,List.not_mem_nil,or_false] at h1
  rcases h1 with⟨rfl,rfl⟩|⟨rfl,rfl⟩|⟨rfl,rfl⟩|⟨rfl,rfl⟩|⟨rfl,rfl⟩|⟨rfl,rfl⟩|⟨rfl,rfl⟩|⟨rfl,rfl⟩|⟨rfl,rfl⟩
  all_goals exact h2 false
theorem prj2 {a p:Prop} (h:a∧Hid p):p:=h.2.out
def StrPost (w:World) (s:ByteArray) (e:Ending) (w':World):Prop:=e= .returned (.string s)∧Below w.heap.size w w'
theorem name_out {o:Int} (h:¬(1≤o∧o≤23)):nameM o=⟨#[]⟩:=if_neg h
theorem event_out {o:Int} (h:¬(1≤o∧o≤23)):zBK o=⟨#[]⟩:=if_neg h
theorem name_in {n:Nat} (h:1≤n∧n≤23):nameM (n:Int)=symL.getD n ⟨#[]⟩:=by unfold nameM;rw[if_pos (by omega)];rfl
theorem event_in {n:Nat} (h:1≤n∧n≤23):zBK (n:Int)=evL.getD n ⟨#[]⟩:=by unfold zBK;rw[if_pos (by omega)];rfl
theorem pw_iff {α:Type} {R:α→α→Prop} {l:List α}:l.Pairwise R↔∀(a b:Nat) (x y:α),a<b→l[a]? =some x→l[b]? =some y→R x y:=by
 rw[List.pairwise_iff_getElem]
 constructor
 ·intro h a b x y hab ha hb
  obtain⟨h1,h2⟩:=List.getElem?_eq_some_iff.1 ha
  obtain⟨h3,h4⟩:=List.getElem?_eq_some_iff.1 hb
  rw[←h2,←h4]
  exact h a b h1 h3 hab
 ·intro h a b ha hb hab
  exact h a b _ _ hab (List.getElem?_eq_getElem ha) (List.getElem?_eq_getElem hb)
theorem PSep.symm {x y:PO} (h:PSep x y):PSep y x:=by
 obtain⟨h1,h2⟩:=h
 refine⟨fun e=>h1 e.symm,fun a b=> ?_⟩
 obtain⟨h3,h4,h5⟩:=h2 b a
 exact⟨fun e=>h3 e.symm,fun e=>h4 e.symm,fun c hc hd=>h5 c hd hc⟩
theorem sep_at {H:List PO} (hs:H.Pairwise PSep) {i j:Nat} {x y:PO} (hi:H[i]? =some x) (hj:H[j]? =some y) (hij:i≠j):PSep x y:=by
 rcases Nat.lt_or_gt_of_ne hij with h|h
 ·exact pw_iff.1 hs i j x y h hi hj
 ·exact(pw_iff.1 hs j i y x h hj hi).symm
theorem zAU {w:World} {a b:Nat} {ca cb:Array Value} {ta tb:TypeId} {fa fb:Nat×Nat} (ha:w.heap[a]? =some (.cells ca ta fa)) (hb:w.heap[b]? =some (.cells cb tb fb)) (hne:ta≠tb):a≠b:=by
 rintro rfl
 rw[ha] at hb
 injection hb with hb
 injection hb with _ h2
 exact hne h2
theorem ne_map {w:World} {a b:Nat} {ca:Array Value} {ta:TypeId} {fa:Nat×Nat} {es:Array MapEntry} {c:Nat} (ha:w.heap[a]? =some (.cells ca ta fa)) (hb:w.heap[b]? =some (.map es c)):a≠b:=by
 rintro rfl
 rw[ha] at hb
 cases hb
theorem MapAt.obj {P:Program} {k:TypeId} {w:World} {b:Nat} {E:List (Value×Value)} (h:MapAt P k w b E):∃es c,w.heap[b]? =some (.map es c):=by
 obtain⟨es,c,hb,_⟩:=h
 exact⟨es,c,hb⟩
def HpF (h bo bt:Nat) (H:List PO) (b:Nat):Prop:=b=h∨b=bo∨b=bt∨∃x∈H,b=x.o∨(x.kind=4∧(b=x.t∨OmF x.m x.g x.sv b))
theorem not_omF {w:World} {m g:Nat} {sv:Value} {L:List Sl} (h:OMap w m g sv L) {b:Nat} {cs:Array Value} {t:TypeId} {fz:Nat×Nat} (hb:w.heap[b]? =some (.cells cs t fz)) (h1:t≠159) (h2:t≠161):¬OmF m g sv b:=by
 rintro(e|e|e)
 ·exact zAU hb h.hm h1 e
 ·obtain⟨E,f,hE,_⟩:=h.map
  obtain⟨es,c,hg⟩:=hE.obj
  exact ne_map hb hg e
 ·obtain⟨c2,hc⟩:=zAc h.row e
  exact zAU hb hc h2 rfl
theorem not_omF_map {w:World} {m g:Nat} {sv:Value} {L:List Sl} (h:OMap w m g sv L) {b:Nat} {es:Array MapEntry} {c:Nat} (hb:w.heap[b]? =some (.map es c)) (h1:g≠b):¬OmF m g sv b:=by
 rintro(e|e|e)
 ·exact ne_map h.hm hb e.symm
 ·exact h1 e.symm
 ·obtain⟨c2,hc⟩:=zAc h.row e
  exact ne_map hc hb rfl
theorem hp_pb {w:World} {h bo bt:Nat} {H:List PO} (hH:HpAt w h bo bt H) {b:Nat} (hb:HpF h bo bt H b):∃o,w.heap[b]? =some o∧PB o:=by
 rcases hb with rfl|rfl|rfl|⟨x,hx,rfl|⟨h4,rfl|hF⟩⟩
 ·exact⟨_,hH.hh,.inr (.inr (.inr (.inr rfl)))⟩
 ·obtain⟨es,c,h1⟩:=hH.objs.obj;exact⟨_,h1,trivial⟩
 ·obtain⟨E,hE⟩:=hH.touched;obtain⟨es,c,h1⟩:=hE.obj;exact⟨_,h1,trivial⟩
 ·exact⟨_,(hH.one x hx).ho,.inr (.inr (.inr (.inl rfl)))⟩
 ·exact⟨_,((hH.one x hx).tb h4).ht,.inr (.inr (.inl rfl))⟩
 ·have hO:=((hH.one x hx).tb h4).om
  rcases hF with rfl|rfl|hF
  ·exact⟨_,hO.hm,.inl rfl⟩
  ·obtain⟨E,f,hE,_⟩:=hO.map;obtain⟨es,c,h1⟩:=hE.obj;exact⟨_,h1,trivial⟩
  ·obtain⟨cs,hc⟩:=zAc hO.row hF;exact⟨_,hc,.inr (.inl rfl)⟩
theorem hp_lt {w:World} {h bo bt:Nat} {H:List PO} (hH:HpAt w h bo bt H) {b:Nat} (hb:HpF h bo bt H b):b<w.heap.size:=by
 obtain⟨o,h1,_⟩:=hp_pb hH hb
 exact(Array.getElem?_eq_some_iff.1 h1).1
theorem PObj.keep {w w':World} {x:PO} (h:PObj w x) (h1:w'.heap[x.o]? =w.heap[x.o]?) (h2:x.kind=4→∀b,(b=x.t∨OmF x.m x.g x.sv b)→w'.heap[b]? =w.heap[b]?):PObj w' x:=
 ⟨h1.trans h.ho,h.kd,h.wm,h.fm,fun h4=>(h.tb h4).keep (h2 h4 _ (.inl rfl)) (h2 h4 _ (.inr (.inl rfl))) (h2 h4 _ (.inr (.inr (.inl rfl)))) (fun b hb=>h2 h4 _ (.inr (.inr (.inr hb))))⟩
theorem HpAt.touch {w w':World} {h bo bt:Nat} {H:List PO} (hH:HpAt w h bo bt H) (hM:Mods (· =bt) w w') (ht:∃E,MapAt Tryz.prog 3 w' bt E):HpAt w' h bo bt H:=by
 have hk:∀b,HpF h bo bt H b→b≠bt→w'.heap[b]? =w.heap[b]? :=fun b hb hne=>hM.block b (hp_lt hH hb) hne
 obtain⟨E,hE⟩:=hH.touched
 obtain⟨es,c,hbt⟩:=hE.obj
 refine⟨(hk h (.inl rfl) (ne_map hH.hh hbt)).trans hH.hh,hH.objs.keep (hk _ (.inr (.inl rfl)) hH.ot),ht,fun x hx=> ?_,hH.sep,hH.ot,hH.gs⟩
 refine(hH.one x hx).keep (hk _ (.inr (.inr (.inr ⟨x,hx,.inl rfl⟩))) (ne_map (hH.one x hx).ho hbt)) (fun h4 b hb=>hk _ (.inr (.inr (.inr ⟨x,hx,.inr ⟨h4,hb⟩⟩))) ?_)
 rcases hb with rfl|hb
 ·exact ne_map ((hH.one x hx).tb h4).ht hbt
 ·rintro rfl
  exact not_omF_map ((hH.one x hx).tb h4).om hbt (hH.gs x hx h4).2 hb
theorem objE_set {H:List PO} {i:Nat} {x x':PO} (hi:H[i]? =some x) (ho:x'.o=x.o):objE (H.set i x')=objE H:=by
 apply List.ext_getElem?
 intro j
 rw[objE_get,objE_get,List.getElem?_set]
 split
 ·rename_i e
  subst e
  rw[if_pos (List.getElem?_eq_some_iff.1 hi).1,hi,Option.map_some,Option.map_some,ho]
 ·rfl
theorem sep_set {H:List PO} (hs:H.Pairwise PSep) {i:Nat} {x x':PO} (hi:H[i]? =some x) (h:∀j y,H[j]? =some y→j≠i→PSep x' y):(H.set i x').Pairwise PSep:=by
 rw[pw_iff]
 intro a b y z hab ha hb
 rw[List.getElem?_set] at ha hb
 split at ha
 ·rename_i e
  subst e
  rw[if_neg (by omega)] at hb
  rw[if_pos (List.getElem?_eq_some_iff.1 hi).1] at ha
  injection ha with ha
  subst ha
  exact h b z hb (by omega)
 ·split at hb
  ·rename_i e
   subst e
   rw[if_pos (List.getElem?_eq_some_iff.1 hi).1] at hb
   injection hb with hb
   subst hb
   exact(h a y ha (by omega)).symm
  ·exact pw_iff.1 hs a b y z hab ha hb
theorem zCF {H:List PO} {i:Nat} {x' y:PO} (hy:y∈H.set i x'):y=x'∨∃j,j≠i∧H[j]? =some y:=by
 obtain⟨j,hj⟩:=List.getElem?_of_mem hy
 rw[List.getElem?_set] at hj
 split at hj
 ·rename_i e
  split at hj
  ·injection hj with hj;exact .inl hj.symm
  ·cases hj
 ·rename_i e
  exact .inr ⟨j,fun e2=>e e2.symm,hj⟩
theorem HpAt.setTab {w w':World} {h bo bt:Nat} {H:List PO} {i:Nat} {x:PO} {sv':Value} {L':List Sl} (hH:HpAt w h bo bt H) (hi:H[i]? =some x) (h4:x.kind=4) (hT:TabAt w' x.t x.m x.g sv' L')
  (hM:Mods (OmF x.m x.g x.sv) w w') (hown:∀b,sv'.ownBlock=some b→x.sv.ownBlock=some b∨w.heap.size≤b):HpAt w' h bo bt (H.set i {x with sv:=sv',L:=L'}):=by
 have hxm:=List.mem_of_getElem? hi
 have hx:=hH.one x hxm
 have hO:=(hx.tb h4).om
 obtain⟨E,hE⟩:=hH.touched
 obtain⟨es,c,hbt⟩:=hE.obj
 obtain⟨es2,c2,hbo⟩:=hH.objs.obj
 have kc:∀{b:Nat} {cs:Array Value} {t:TypeId} {fz:Nat×Nat},w.heap[b]? =some (.cells cs t fz)→t≠159→t≠161→w'.heap[b]? =w.heap[b]? :=fun hb h1 h2=>hM.block _ (Array.getElem?_eq_some_iff.1 hb).1 (not_omF hO hb h1 h2)
 have km:∀{b:Nat} {es:Array MapEntry} {c:Nat},w.heap[b]? =some (.map es c)→x.g≠b→w'.heap[b]? =w.heap[b]? :=fun hb h1=>hM.block _ (Array.getElem?_eq_some_iff.1 hb).1 (not_omF_map hO hb h1)
 refine⟨?_,?_,⟨E,hE.keep (km hbt (hH.gs x hxm h4).2)⟩,fun y hy=> ?_,?_,hH.ot,fun y hy hy4=> ?_⟩
 ·rw[List.length_set];exact(kc hH.hh (by decide) (by decide)).trans hH.hh
 ·rw[objE_set (x':={x with sv:=sv',L:=L'}) hi rfl];exact hH.objs.keep (km hbo (hH.gs x hxm h4).1)
 ·rcases zCF hy with rfl|⟨j,hj,hjy⟩
  ·exact⟨by refine(kc hx.ho (by decide) (by decide)).trans ?_;exact hx.ho,hx.kd,hx.wm,fun h5=>hx.fm h5,fun _=>hT⟩
  ·have hym:=List.mem_of_getElem? hjy
   have hyo:=hH.one y hym
   have hsp:=sep_at hH.sep hi hjy (fun e=>hj e.symm)
   refine hyo.keep (kc hyo.ho (by decide) (by decide)) (fun hy4 b hb=> ?_)
   obtain⟨s1,s2,s3⟩:=hsp.2 h4 hy4
   have hyO:=(hyo.tb hy4).om
   rcases hb with rfl|rfl|rfl|hb
   ·exact kc (hyo.tb hy4).ht (by decide) (by decide)
   ·refine hM.block _ (Array.getElem?_eq_some_iff.1 hyO.hm).1 ?_
    rintro(e|e|e)
    ·exact s1 e.symm
    ·obtain⟨E3,f3,hE3,_⟩:=hO.map
     obtain⟨es3,c3,h3⟩:=hE3.obj
     exact ne_map hyO.hm h3 e
    ·obtain⟨c3,h3⟩:=zAc hO.row e
     exact zAU hyO.hm h3 (by decide) rfl
   ·obtain⟨E3,f3,hE3,_⟩:=hyO.map
    obtain⟨es3,c3,h3⟩:=hE3.obj
    exact km h3 s2
   ·obtain⟨c3,h3⟩:=zAc hyO.row hb
    refine hM.block _ (Array.getElem?_eq_some_iff.1 h3).1 ?_
    rintro(e|e|e)
    ·exact zAU h3 hO.hm (by decide) e
    ·obtain⟨E3,f3,hE3,_⟩:=hO.map
     obtain⟨es3,c4,h4⟩:=hE3.obj
     exact ne_map h3 h4 e
    ·exact s3 _ e hb
 ·refine sep_set hH.sep hi (fun j y hjy hj=> ?_)
  have hsp:=sep_at hH.sep hi hjy (fun e=>hj e.symm)
  refine⟨hsp.1,fun a b=> ?_⟩
  obtain⟨s1,s2,s3⟩:=hsp.2 h4 b
  refine⟨s1,s2,fun c hc hd=> ?_⟩
  rcases hown c hc with h1|h1
  ·exact s3 c h1 hd
  ·have:=(zAS ((hH.one y (List.mem_of_getElem? hjy)).tb b).om.row hd).2
   omega
 ·rcases zCF hy with rfl|⟨j,hj,hjy⟩
  ·exact hH.gs x hxm h4
  ·exact hH.gs y (List.mem_of_getElem? hjy) hy4
theorem HpAt.setMt {w w':World} {h bo bt:Nat} {H:List PO} {i:Nat} {x:PO} {v:V} (hH:HpAt w h bo bt H) (hi:H[i]? =some x) (h5:x.kind≠5) (hv:WfV v)
  (ho:w'.heap[x.o]? =some (.cells {x with mt:=v}.cells 104)) (hM:Mods (· =x.o) w w'):HpAt w' h bo bt (H.set i {x with mt:=v}):=by
 have hxm:=List.mem_of_getElem? hi
 have hx:=hH.one x hxm
 obtain⟨E,hE⟩:=hH.touched
 obtain⟨es,c,hbt⟩:=hE.obj
 obtain⟨es2,c2,hbo⟩:=hH.objs.obj
 have kc:∀{b:Nat} {cs:Array Value} {t:TypeId} {fz:Nat×Nat},w.heap[b]? =some (.cells cs t fz)→t≠104→w'.heap[b]? =w.heap[b]? :=fun hb h1=>hM.block _ (Array.getElem?_eq_some_iff.1 hb).1 (zAU hb hx.ho h1)
 have km:∀{b:Nat} {es:Array MapEntry} {c:Nat},w.heap[b]? =some (.map es c)→w'.heap[b]? =w.heap[b]? :=fun hb=>hM.block _ (Array.getElem?_eq_some_iff.1 hb).1 (fun e=>ne_map hx.ho hb e.symm)
 have kO:∀{m g:Nat} {sv:Value} {L:List Sl},OMap w m g sv L→∀b,OmF m g sv b→w'.heap[b]? =w.heap[b]? :=fun hO b hb=>by
  rcases hb with rfl|rfl|hb
  ·exact kc hO.hm (by decide)
  ·obtain⟨E3,f3,hE3,_⟩:=hO.map
   obtain⟨es3,c3,h3⟩:=hE3.obj
   exact km h3
  ·obtain⟨c3,h3⟩:=zAc hO.row hb
   exact kc h3 (by decide)
 refine⟨?_,?_,⟨E,hE.keep (km hbt)⟩,fun y hy=> ?_,?_,hH.ot,fun y hy hy4=> ?_⟩
 ·rw[List.length_set];exact(kc hH.hh (by decide)).trans hH.hh
 ·rw[objE_set (x':={x with mt:=v}) hi rfl];exact hH.objs.keep (km hbo)
 ·rcases zCF hy with rfl|⟨j,hj,hjy⟩
  ·refine⟨ho,hx.kd,hv,fun h=>absurd h h5,fun h4=> ?_⟩
   have hT:=hx.tb h4
   exact hT.keep (kc hT.ht (by decide)) (kO hT.om _ (.inl rfl)) (kO hT.om _ (.inr (.inl rfl))) (fun b hb=>kO hT.om _ (.inr (.inr hb)))
  ·have hyo:=hH.one y (List.mem_of_getElem? hjy)
   have hsp:=sep_at hH.sep hi hjy (fun e=>hj e.symm)
   refine hyo.keep (hM.block _ (Array.getElem?_eq_some_iff.1 hyo.ho).1 (fun e=>hsp.1 e.symm)) (fun hy4 b hb=> ?_)
   have hT:=hyo.tb hy4
   rcases hb with rfl|hb
   ·exact kc hT.ht (by decide)
   ·exact kO hT.om _ hb
 ·exact sep_set (x:=x) hH.sep hi (fun j y hjy hj=>(show PSep x y from sep_at hH.sep hi hjy (fun e=>hj e.symm)))
 ·rcases zCF hy with rfl|⟨j,hj,hjy⟩
  ·exact hH.gs x hxm hy4
  ·exact hH.gs y (List.mem_of_getElem? hjy) hy4
theorem HpAt.add {w w':World} {h bo bt:Nat} {H:List PO} {x:PO} (hH:HpAt w h bo bt H) (hM:Mods (fun b=>b=h∨b=bo∨b=bt) w w')
  (hh:w'.heap[h]? =some (.cells #[.map (some bo),.int .i64 ((H.length+1:Nat):Int),.map (some bt)] 89)) (hbo:MapAt Tryz.prog 3 w' bo (objE H++[(.int .i64 ((H.length+1:Nat):Int),.pointer (some ⟨x.o,0,none⟩))])) (hbt:∃E,MapAt Tryz.prog 3 w' bt E)
  (hx:PObj w x) (hsep:∀y∈H,PSep y x) (hg:x.kind=4→x.g≠bo∧x.g≠bt):HpAt w' h bo bt (H++[x]):=by
 obtain⟨E0,hE0⟩:=hH.touched
 obtain⟨es,c,hbt0⟩:=hE0.obj
 obtain⟨es2,c2,hbo0⟩:=hH.objs.obj
 have kc:∀{b:Nat} {cs:Array Value} {t:TypeId} {fz:Nat×Nat},w.heap[b]? =some (.cells cs t fz)→t≠89→w'.heap[b]? =w.heap[b]? :=fun hb h1=>hM.block _ (Array.getElem?_eq_some_iff.1 hb).1 (fun e=>by
  rcases e with e|e|e
  ·exact zAU hb hH.hh h1 e
  ·exact ne_map hb hbo0 e
  ·exact ne_map hb hbt0 e)
 have keep:∀y:PO,PObj w y→(y.kind=4→y.g≠bo∧y.g≠bt)→PObj w' y:=fun y hyo hgy=>by
  refine hyo.keep (kc hyo.ho (by decide)) (fun hy4 b hb=> ?_)
  have hT:=hyo.tb hy4
  rcases hb with rfl|rfl|rfl|hb
  ·exact kc hT.ht (by decide)
  ·exact kc hT.om.hm (by decide)
  ·obtain⟨E3,f3,hE3,_⟩:=hT.om.map
   obtain⟨es3,c3,h3⟩:=hE3.obj
   refine hM.block _ hE3.lt (fun e=> ?_)
   rcases e with e|e|e
   ·exact ne_map hH.hh h3 e.symm
   ·exact(hgy hy4).1 e
   ·exact(hgy hy4).2 e
  ·obtain⟨c3,h3⟩:=zAc hT.om.row hb
   exact kc h3 (by decide)
 refine⟨?_,?_,hbt,fun y hy=> ?_,?_,hH.ot,fun y hy hy4=> ?_⟩
 ·rw[List.length_append];exact hh
 ·have:objE (H++[x])=objE H++[(.int .i64 ((H.length+1:Nat):Int),.pointer (some ⟨x.o,0,none⟩))]:=by
   unfold objE
   rw[List.mapIdx_append]
   simp
  rw[this];exact hbo
 ·rcases List.mem_append.1 hy with hy|hy
  ·exact keep y (hH.one y hy) (hH.gs y hy)
  ·rw[List.mem_singleton] at hy
   subst hy
   exact keep y hx hg
 ·rw[List.pairwise_append]
  refine⟨hH.sep,List.pairwise_singleton _ _,fun y hy z hz=> ?_⟩
  rw[List.mem_singleton] at hz
  subst hz
  exact hsep y hy
 ·rcases List.mem_append.1 hy with hy|hy
  ·exact hH.gs y hy hy4
  ·rw[List.mem_singleton] at hy
   subst hy
   exact hg hy4
theorem sep_new {w:World} {h bo bt:Nat} {H:List PO} {x:PO} (hH:HpAt w h bo bt H) (ho:w.heap.size≤x.o) (hm:x.kind=4→w.heap.size≤x.m∧w.heap.size≤x.g) (hnone:x.sv.ownBlock=none):(∀y∈H,PSep y x)∧(x.kind=4→x.g≠bo∧x.g≠bt):=by
 refine⟨fun y hy=> ?_,fun h4=> ?_⟩
 ·have hyo:=hH.one y hy
  refine⟨fun e=> ?_,fun hy4 hz4=>⟨fun e=> ?_,fun e=> ?_,fun b hb hc=> ?_⟩⟩
  ·have:=(Array.getElem?_eq_some_iff.1 hyo.ho).1
   omega
  ·have:=(hm hz4).1
   have:=(Array.getElem?_eq_some_iff.1 (hyo.tb hy4).om.hm).1
   omega
  ·have:=(hm hz4).2
   obtain⟨E3,f3,hE3,_⟩:=(hyo.tb hy4).om.map
   have:=hE3.lt
   omega
  ·rw[hnone] at hc;cases hc
 ·obtain⟨E,hE⟩:=hH.touched
  have:=(hm h4).2
  have:=hE.lt
  have:=hH.objs.lt
  exact⟨by omega,by omega⟩
def elemM (v:V):Int:=if v.k=3∧4096<v.s.size then 14 else if zAi v=true then 0 else 2
theorem elem_valid {v:V} (h:zAi v=true):elemM v=0:=by
 have:=zBW h
 unfold elemM
 rw[if_neg (by omega),if_pos h]
theorem elem_bad {v:V} (h:¬zAi v=true):elemM v≠0:=by
 unfold elemM
 by_cases h1:v.k=3∧4096<v.s.size
 ·rw[if_pos h1];decide
 ·rw[if_neg h1,if_neg h];decide
def TouchR (W:World) (bt:Nat) (w':World):Prop:=(∃E',MapAt Tryz.prog 3 w' bt E')∧Mods (· =bt) W w'∧W.heap.size≤w'.heap.size
theorem touch_at {w:World} {bt:Nat} (hE:∃E,MapAt Tryz.prog 3 w bt E) {r:Int} (hr:i64 r) (W:World) (hW:W.heap[bt]? =w.heap[bt]?):
  ∃w',(Instr.mapUpdate 87 (.map (some bt)) (.int .i64 r) (.bool true)).run Tryz.prog W= .ok () w'∧TouchR W bt w':=by
 obtain⟨E,hE⟩:=hE
 obtain⟨l,hl⟩:=keyI hr
 obtain⟨w',E',h1,h2,h3,h4,_⟩:=(hE.keep hW).store keyedI (e:=4) (t:=87) (by kernel_rfl) hl (.bool true)
 exact⟨w',h1,⟨E',h2⟩,h3,Nat.le_of_eq h4.symm⟩
def TouchPost (w:World) (h bo bt:Nat) (H:List PO) (e:Ending) (w':World):Prop:=e= .returned (.int .i64 0)∧HpAt w' h bo bt H∧Mods (· =bt) w w'
theorem len_at {w:World} {b:Nat} {E:List (Value×Value)} (hE:MapAt Tryz.prog 3 w b E) (W:World) (hW:W.heap[b]? =w.heap[b]?) (ty:TypeId):
  (Builtin.len_ #[86] ty #[.map (some b)]).run Tryz.prog W= .ok (.int .i64 (E.length:Nat)) W:=by
 obtain⟨es,c,hb,he,_⟩:=hE.keep hW
 have h1:=run_len_map (P:=Tryz.prog) W 86 ty b es c (by kernel_rfl) hb
 rw[h1]
 have:es.size=E.length:=by rw[←he,List.length_map,Array.length_toList]
 rw[this]
 rfl
def PutO (W:World) (bo:Nat) (E:List (Value×Value)) (w':World):Prop:=MapAt Tryz.prog 3 w' bo E∧Mods (· =bo) W w'∧W.heap.size≤w'.heap.size
theorem putO_at {w:World} {bo:Nat} {H:List PO} (hE:MapAt Tryz.prog 3 w bo (objE H)) (hl:H.length≤1000) (o:Nat) (W:World) (hW:W.heap[bo]? =w.heap[bo]?):
  ∃w',(Instr.mapUpdate 86 (.map (some bo)) (.int .i64 ((H.length:Int)+1)) (.pointer (some ⟨o,0,none⟩))).run Tryz.prog W= .ok () w'∧
   PutO W bo (objE H++[(.int .i64 ((H.length+1:Nat):Int),.pointer (some ⟨o,0,none⟩))]) w':=by
 have hr:i64 ((H.length:Int)+1):=⟨by omega,by omega⟩
 obtain⟨l,hl⟩:=keyI hr
 obtain⟨w',E',h1,h2,h3,h4,_,h6⟩:=(hE.keep hW).store keyedI (e:=94) (t:=86) (by kernel_rfl) hl (.pointer (some ⟨o,0,none⟩))
 have h7:E'=_:=h6 (fun p hp=>by
  obtain⟨i,x,hi,rfl⟩:=objE_mem.1 hp
  have:=(List.getElem?_eq_some_iff.1 hi).1
  intro e
  injection e with _ e
  omega)
 subst h7
 exact⟨w',h1,h2,h3,Nat.le_of_eq h4.symm⟩
def AddPost (w:World) (h bo bt:Nat) (H:List PO) (x:PO) (e:Ending) (w':World):Prop:=
 e= .returned (.tuple #[.agg #[.int .i64 x.kind,.int .i64 0,.int .i64 0,.string ⟨#[]⟩,.int .i64 ((H.length:Int)+1)],.int .i64 0])∧HpAt w' h bo bt (H++[x])∧Mods (fun b=>b=h∨b=bo∨b=bt) w w'
def BM (base:Nat) (S:Obj→Prop) (w w':World):Prop:=Mods (fun b=>base≤b∧∃o,w.heap[b]? =some o∧S o) w w'
theorem BM.of_below {base:Nat} {S:Obj→Prop} {w w':World} (h:Below w.heap.size w w'):BM base S w w':=Mods.of_below h
theorem BM.refl (base:Nat) (S:Obj→Prop) (w:World):BM base S w w:=Mods.refl _ _
theorem BM.trans {base:Nat} {S:Obj→Prop} {a b c:World} (h:BM base S a b) (k:BM base S b c):BM base S a c:=by
 refine⟨k.os.trans h.os,k.tape.trans h.tape,k.output.trans h.output,Nat.le_trans h.size k.size,fun i hi hF=> ?_⟩
 have h1:=h.block i hi hF
 exact(k.block i (Nat.lt_of_lt_of_le hi h.size) (fun⟨hb,o,h2,h3⟩=>hF ⟨hb,o,h1▸h2,h3⟩)).trans h1
theorem BM.below {base:Nat} {S:Obj→Prop} {w w':World} (h:BM base S w w') (hb:base≤w.heap.size):Below base w w':=Mods.below h hb (fun k hk hF=>by have:=hF.1;omega)
theorem BM.keep {base:Nat} {S:Obj→Prop} {w w':World} (h:BM base S w w') {b:Nat} {o:Obj} (hb:w.heap[b]? =some o) (hS:¬S o):w'.heap[b]? =some o:=
 (h.block b (Array.getElem?_eq_some_iff.1 hb).1 (fun⟨_,o2,h1,h2⟩=>hS (by rw[hb] at h1;injection h1 with h1;rw[h1];exact h2))).trans hb
theorem BM.mono {base:Nat} {S S':Obj→Prop} {w w':World} (h:BM base S w w') (hS:∀o,S o→S' o):BM base S' w w':=Mods.mono h (fun k _ ⟨h1,o,h2,h3⟩=>⟨h1,o,h2,hS o h3⟩)
theorem BM.of_mods {base:Nat} {S:Obj→Prop} {F:Nat→Prop} {w w':World} (h:Mods F w w') (hF:∀b,F b→base≤b∧∃o,w.heap[b]? =some o∧S o):BM base S w w':=h.mono (fun k _ hk=>hF k hk)
structure PHp (base n:Nat) (w:World) (h:Nat) (M:LH):Prop where
 ex:∃bo bt H,HpAt w h bo bt H∧lh H=M∧Small n H∧∀b,HpF h bo bt H b→base≤b
theorem PHp.below {base n:Nat} {w w':World} {h:Nat} {M:LH} (hP:PHp base n w h M) (hb:Below w.heap.size w w'):PHp base n w' h M:=by
 obtain⟨bo,bt,H,h1,h2,h3,h4⟩:=hP.ex
 exact⟨bo,bt,H,h1.below hb,h2,h3,h4⟩
theorem HpAt.keepF {w w':World} {h bo bt:Nat} {H:List PO} (hH:HpAt w h bo bt H) (hk:∀b,HpF h bo bt H b→w'.heap[b]? =w.heap[b]?):HpAt w' h bo bt H:=by
 obtain⟨E,hE⟩:=hH.touched
 exact⟨(hk h (.inl rfl)).trans hH.hh,hH.objs.keep (hk _ (.inr (.inl rfl))),⟨E,hE.keep (hk _ (.inr (.inr (.inl rfl))))⟩,fun x hx=>(hH.one x hx).keep (hk _ (.inr (.inr (.inr ⟨x,hx,.inl rfl⟩)))) (fun h4 b hb=>hk _ (.inr (.inr (.inr ⟨x,hx,.inr ⟨h4,hb⟩⟩)))),hH.sep,hH.ot,hH.gs⟩
theorem PHp.keep {base base' n:Nat} {w w':World} {h:Nat} {M:LH} {S:Obj→Prop} (hP:PHp base n w h M) (hm:BM base' S w w') (hS:∀o,PB o→¬S o):PHp base n w' h M:=by
 obtain⟨bo,bt,H,h1,h2,h3,h4⟩:=hP.ex
 refine⟨bo,bt,H,h1.keepF (fun b hb=> ?_),h2,h3,h4⟩
 obtain⟨o,h5,h6⟩:=hp_pb h1 hb
 rw[h5]
 exact hm.keep h5 (hS o h6)
theorem PHp.up {base n m:Nat} {w:World} {h:Nat} {M:LH} (hP:PHp base n w h M) (hn:n≤m):PHp base m w h M:=by
 obtain⟨bo,bt,H,h1,h2,h3,h4⟩:=hP.ex
 exact⟨bo,bt,H,h1,h2,fun x hx=>Nat.le_trans (h3 x hx) hn,h4⟩
structure SMap (w:World) (m:Nat) (sv:Value) (L:List Sl):Prop where
 hm:w.heap[m]? =some (.cells #[sv] 181)
 row:w.ownsRow 0 186 11 sv L.length (rowSl L)
 gone:∀s∈L,s.g=true→s.v=V.nil
structure STab (w:World) (t m:Nat) (sv:Value) (L:List Sl):Prop where
 ht:w.heap[t]? =some (.cells #[.slice none 0 0,.pointer (some ⟨m,0,none⟩)] 151)
 om:SMap w m sv L
structure RO where
 kind:Int
 tag:Int
 name:ByteArray
 mt:V
 user:Value
 refs:Value
 t:Nat
 m:Nat
 sv:Value
 L:List Sl
def RO.lo (x:RO):LO:=⟨x.kind,x.mt,if x.kind=4 then x.L else[]⟩
def RO.tv (x:RO):Value:=if x.kind=4 then .pointer (some ⟨x.t,0,none⟩) else .pointer none
abbrev RO.cells (x:RO):List Value:=[.int .i64 x.kind,.int .i64 x.tag,.string x.name,x.tv,.int .i64 x.mt.k,.int .i64 x.mt.p,.int .i64 x.mt.q,.string x.mt.s,.int .i64 x.mt.r,x.user,x.refs]
def rowRO (H:List RO):List Value:=H.flatMap RO.cells
theorem RO.cells_len (x:RO):x.cells.length=11:=rfl
theorem rowRO_len (H:List RO):(rowRO H).length=H.length*11:=by
 induction H with
 |nil=>rfl
 |cons s H ih=>show(s.cells++rowRO H).length=_;rw[List.length_append,RO.cells_len,ih,List.length_cons];omega
theorem rowRO_at:∀(H:List RO) (i j:Nat) (x:RO),H[i]? =some x→j<11→(rowRO H)[i*11+j]? =x.cells[j]?
 |[],i,j,x,h,_=>by simp at h
 |y::H,0,j,x,h,hj=>by
  rw[List.getElem?_cons_zero] at h
  injection h with h
  subst h
  show(y.cells++rowRO H)[0*11+j]? =_
  rw[List.getElem?_append_left (by rw[RO.cells_len];omega)]
  congr 1
  omega
 |y::H,i+1,j,x,h,hj=>by
  rw[List.getElem?_cons_succ] at h
  show(y.cells++rowRO H)[(i+1)*11+j]? =_
  rw[List.getElem?_append_right (by rw[RO.cells_len];omega),RO.cells_len,show(i+1)*11+j-11=i*11+j by omega]
  exact rowRO_at H i j x h hj
def RSep (x y:RO):Prop:=x.kind=4→y.kind=4→x.m≠y.m∧∀b,x.sv.ownBlock=some b→y.sv.ownBlock≠some b
structure RObj (w:World) (x:RO):Prop where
 kd:x.kind=4∨x.kind=5∨x.kind=8
 wm:WfV x.mt
 fm:x.kind=5→x.mt=V.nil∧x.refs= .slice none 0 0
 tb:x.kind=4→STab w x.t x.m x.sv x.L
structure RHpAt (w:World) (h:Nat) (av uv:Value) (H:List RO):Prop where
 hh:w.heap[h]? =some (.cells #[av,.int .i64 (H.length:Nat),uv] 93)
 row:w.ownsRow 0 97 11 av H.length (rowRO H)
 tch:∃bs:List Bool,w.ownsRow 0 4 1 uv H.length (bs.map .bool)
 one:∀x∈H,RObj w x
 sep:H.Pairwise RSep
def rlh (H:List RO):LH:=H.map RO.lo
def RSmall (n:Nat) (H:List RO):Prop:=∀x∈H,x.L.length≤n
def SmF (m:Nat) (sv:Value) (b:Nat):Prop:=b=m∨sv.ownBlock=some b
def RF (h:Nat) (av uv:Value) (H:List RO) (b:Nat):Prop:=b=h∨av.ownBlock=some b∨uv.ownBlock=some b∨∃x∈H,x.kind=4∧(b=x.t∨SmF x.m x.sv b)
def SB:Obj→Prop
 | .cells _ t _=>t=181∨t=186∨t=151∨t=97∨t=93∨t=4
 |_=>False
theorem pb_sb (o:Obj) (h:PB o):¬SB o:=by
 intro h2
 cases o with
 |cells c t f=>revert h h2;unfold PB SB;rintro(rfl|rfl|rfl|rfl|rfl) (e|e|e|e|e|e)<;>exact absurd e (by decide)
 |map e c=>exact h2
 |_=>exact h2
theorem sb_pb (o:Obj) (h:SB o):¬PB o:=fun h2=>pb_sb o h2 h
theorem SMap.keep {w w':World} {m:Nat} {sv:Value} {L:List Sl} (h:SMap w m sv L) (h1:w'.heap[m]? =w.heap[m]?) (h3:∀b,sv.ownBlock=some b→w'.heap[b]? =w.heap[b]?):SMap w' m sv L:=⟨h1.trans h.hm,zAZ h.row h3,h.gone⟩
theorem STab.keep {w w':World} {t m:Nat} {sv:Value} {L:List Sl} (h:STab w t m sv L) (hk:∀b,(b=t∨SmF m sv b)→w'.heap[b]? =w.heap[b]?):STab w' t m sv L:=
 ⟨(hk t (.inl rfl)).trans h.ht,h.om.keep (hk m (.inr (.inl rfl))) (fun b hb=>hk b (.inr (.inr hb)))⟩
theorem STab.below {w w':World} {t m:Nat} {sv:Value} {L:List Sl} (h:STab w t m sv L) (hb:Below w.heap.size w w'):STab w' t m sv L:=
 h.keep (fun b e=>hb.block b (by
  rcases e with rfl|rfl|e
  ·exact(Array.getElem?_eq_some_iff.1 h.ht).1
  ·exact(Array.getElem?_eq_some_iff.1 h.om.hm).1
  ·exact(zAS h.om.row e).2))
theorem SMap.below {w w':World} {m:Nat} {sv:Value} {L:List Sl} (h:SMap w m sv L) (hb:Below w.heap.size w w'):SMap w' m sv L:=
 h.keep (hb.block _ (Array.getElem?_eq_some_iff.1 h.hm).1) (fun b e=>hb.block _ (zAS h.row e).2)
theorem rf_sb {w:World} {h:Nat} {av uv:Value} {H:List RO} (hH:RHpAt w h av uv H) {b:Nat} (hb:RF h av uv H b):∃o,w.heap[b]? =some o∧SB o:=by
 rcases hb with rfl|hb|hb|⟨x,hx,h4,rfl|rfl|hb⟩
 ·exact⟨_,hH.hh,.inr (.inr (.inr (.inr (.inl rfl))))⟩
 ·obtain⟨cs,hc⟩:=zAc hH.row hb;exact⟨_,hc,.inr (.inr (.inr (.inl rfl)))⟩
 ·obtain⟨bs,ht⟩:=hH.tch;obtain⟨cs,hc⟩:=zAc ht hb;exact⟨_,hc,.inr (.inr (.inr (.inr (.inr rfl))))⟩
 ·exact⟨_,((hH.one x hx).tb h4).ht,.inr (.inr (.inl rfl))⟩
 ·exact⟨_,((hH.one x hx).tb h4).om.hm,.inl rfl⟩
 ·obtain⟨cs,hc⟩:=zAc ((hH.one x hx).tb h4).om.row hb;exact⟨_,hc,.inr (.inl rfl)⟩
theorem RHpAt.keepF {w w':World} {h:Nat} {av uv:Value} {H:List RO} (hH:RHpAt w h av uv H) (hk:∀b,RF h av uv H b→w'.heap[b]? =w.heap[b]?):RHpAt w' h av uv H:=by
 obtain⟨bs,hT⟩:=hH.tch
 exact⟨(hk h (.inl rfl)).trans hH.hh,zAZ hH.row (fun b hb=>hk b (.inr (.inl hb))),⟨bs,zAZ hT (fun b hb=>hk b (.inr (.inr (.inl hb))))⟩,
  fun x hx=>⟨(hH.one x hx).kd,(hH.one x hx).wm,(hH.one x hx).fm,fun h4=>((hH.one x hx).tb h4).keep (fun b hb=>hk b (.inr (.inr (.inr ⟨x,hx,h4,hb⟩))))⟩,hH.sep⟩
theorem RHpAt.below {w w':World} {h:Nat} {av uv:Value} {H:List RO} (hH:RHpAt w h av uv H) (hb:Below w.heap.size w w'):RHpAt w' h av uv H:=
 hH.keepF (fun b hF=>by obtain⟨o,h1,_⟩:=rf_sb hH hF;exact hb.block b (Array.getElem?_eq_some_iff.1 h1).1)
structure RHp (base n:Nat) (w:World) (h:Nat) (M:LH):Prop where
 ex:∃av uv H,RHpAt w h av uv H∧rlh H=M∧RSmall n H∧∀b,RF h av uv H b→base≤b
theorem RHp.below {base n:Nat} {w w':World} {h:Nat} {M:LH} (hP:RHp base n w h M) (hb:Below w.heap.size w w'):RHp base n w' h M:=by
 obtain⟨av,uv,H,h1,h2,h3,h4⟩:=hP.ex
 exact⟨av,uv,H,h1.below hb,h2,h3,h4⟩
theorem RHp.keep {base base' n:Nat} {w w':World} {h:Nat} {M:LH} {S:Obj→Prop} (hP:RHp base n w h M) (hm:BM base' S w w') (hS:∀o,SB o→¬S o):RHp base n w' h M:=by
 obtain⟨av,uv,H,h1,h2,h3,h4⟩:=hP.ex
 refine⟨av,uv,H,h1.keepF (fun b hb=> ?_),h2,h3,h4⟩
 obtain⟨o,h5,h6⟩:=rf_sb h1 hb
 rw[h5]
 exact hm.keep h5 (hS o h6)
theorem RHp.up {base n m:Nat} {w:World} {h:Nat} {M:LH} (hP:RHp base n w h M) (hn:n≤m):RHp base m w h M:=by
 obtain⟨av,uv,H,h1,h2,h3,h4⟩:=hP.ex
 exact⟨av,uv,H,h1,h2,fun x hx=>Nat.le_trans (h3 x hx) hn,h4⟩
def GrowPost (w:World) (h bo bt:Nat) (H:List PO) (o:LO) (e:Ending) (w':World):Prop:=
 (∃v,e= .returned v)∧∃x,HpAt w' h bo bt (H++[x])∧x.lo=o∧x.L=[]∧Mods (HpF h bo bt H) w w'∧∀b,(b=x.o∨(x.kind=4∧(b=x.t∨OmF x.m x.g x.sv b)))→w.heap.size≤b
theorem info25p:(Tryz.prog.info? 25).map (fun i=>(i.zero,i.size,i.bytes))=some (some (.agg #[.int .i64 0,.int .i64 0,.int .i64 0,.string ⟨#[]⟩,.int .i64 0]),5,48):=by kernel_rfl
theorem box_kept {w3 W:World} {h bo bt:Nat} {H:List PO} {r:Nat} (hA:HpAt w3 h bo bt H) (hr:w3.heap[r]? =some (oV 0 0 0 ⟨#[]⟩ 0)) (hM:Mods (· =r) w3 W):HpAt W h bo bt H:=
 hA.keepF (fun b hb=>hM.block b (hp_lt hA hb) (fun e=>by
  obtain⟨o,h1,h2⟩:=hp_pb hA hb
  rw[e,hr] at h1
  injection h1 with h1
  subst h1
  rcases h2 with h2|h2|h2|h2|h2<;>exact absurd h2 (by decide)))
theorem mods_five {F:Nat→Prop} {a w:World} (h:Mods F a w) {b:Nat} (hb:F b∨a.heap.size≤b) (x y z u v:Value):Mods F a (((((w.setCell ⟨b,0,none⟩ x).setCell ⟨b,1,none⟩ y).setCell ⟨b,2,none⟩ z).setCell ⟨b,3,none⟩ u).setCell ⟨b,4,none⟩ v):=
 zAO (zAO (zAO (zAO (zAO h hb x) hb y) hb z) hb u) hb v
theorem grow_end {w W2 w3 W:World} {h bo bt:Nat} {H:List PO} {x:PO} {o:LO} (hH:HpAt w h bo bt H) (hb:Below w.heap.size w W2) (hA:HpAt w3 h bo bt (H++[x])) (hM:Mods (fun b=>b=h∨b=bo∨b=bt) W2 w3) (hr:w3.heap[w.heap.size]? =some (oV 0 0 0 ⟨#[]⟩ 0))
  (hW:Mods (· =w.heap.size) w3 W) (ho:x.lo=o) (hL:x.L=[]) (hn:∀b,(b=x.o∨(x.kind=4∧(b=x.t∨OmF x.m x.g x.sv b)))→w.heap.size≤b) (v:Value):GrowPost w h bo bt H o (.returned v) W:=by
 refine⟨⟨v,rfl⟩,x,box_kept hA hr hW,ho,hL,?_,hn⟩
 have h1:Mods (HpF h bo bt H) w w3:=(Mods.of_below hb).trans (hM.mono (fun k hk e=>by
  rcases e with e|e|e
  ·exact .inl e
  ·exact .inr (.inl e)
  ·exact .inr (.inr (.inl e))))
 exact⟨hW.os.trans h1.os,hW.tape.trans h1.tape,hW.output.trans h1.output,Nat.le_trans h1.size hW.size,fun k hk hF=>(hW.block k (Nat.lt_of_lt_of_le hk h1.size) (by omega)).trans (h1.block k hk hF)⟩
theorem heap3_old {w:World} {b:Nat} {o:Obj} (h:w.heap[b]? =some o) (o1 o2 o3:Obj):(((w.alloc o1).alloc o2).alloc o3).heap[b]? =some o:=hkeep (zAL w o1 o2 o3) h
theorem drew_heap (w:World):w.drew.heap=w.heap:=rfl
end Go.Proofs.YthkpckgcgkijbaaGreatDoor
