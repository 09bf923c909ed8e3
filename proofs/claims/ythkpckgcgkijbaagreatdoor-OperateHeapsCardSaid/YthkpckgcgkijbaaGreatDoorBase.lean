import Derived.Test.YthkpckgcgkijbaaGreatDoorOmD
import Derived.Maps.RangeWalk
set_option linter.unusedVariables false
set_option linter.unusedSimpArgs false
set_option maxRecDepth 100000
set_option maxHeartbeats 2000000
namespace Go.Proofs.YthkpckgcgkijbaaGreatDoor
open Go.RowKit Go.Proofs.Lexi Go.Proofs.Tryz
theorem Ext.get {w W:World} (h:Ext w W) {b:Nat} {o:Obj} (hb:w.heap[b]? =some o):W.heap[b]? =some o:=by
 rw[h.blk b (Array.getElem?_eq_some_iff.1 hb).1];exact hb
theorem TMods.drewN {S:Obj->Prop} {a b:World} (h:TMods S a b) (n:Nat):TMods S a (b.drewN n):=h.trans (TMods.of_below (below_drewN (Below.refl _ _) n))
end Go.Proofs.YthkpckgcgkijbaaGreatDoor
namespace Go.Proofs.YthkpckgcgkijbaaGreatDoor
open Go.Proofs.Tryz
def Gh (o:Int) (a b:V):V×V:=if o=18\/o=19 then(b,a) else(a,b)
theorem KX (hand:V->ByteArray->V) (o:Int) (R:VR) (a b:V):((ZL hand o R a b).k≠2->((ZL hand o R a b).k=1\/(ZL hand o R a b).k=3)/\(ZL hand o R a b).args=[])/\
  ((ZL hand o R a b).k=2->(ZL hand o R a b).args=[a,b]/\(ZL hand o R a b).f=Zs hand (Q6 o) a b/\(Zs hand (Q6 o) a b).k≠0):=by
 have val:∀v,((Zz v).k≠2->((Zz v).k=1\/(Zz v).k=3)/\(Zz v).args=[])/\((Zz v).k=2->(Zz v).args=[a,b]/\(Zz v).f=Zs hand (Q6 o) a b/\(Zs hand (Q6 o) a b).k≠0):=fun v=>⟨fun _=>⟨.inl rfl,rfl⟩,fun h=>absurd h (show¬(1:Int)=2 by decide)⟩
 have err:∀s,((ZZ s).k≠2->((ZZ s).k=1\/(ZZ s).k=3)/\(ZZ s).args=[])/\((ZZ s).k=2->(ZZ s).args=[a,b]/\(ZZ s).f=Zs hand (Q6 o) a b/\(Zs hand (Q6 o) a b).k≠0):=fun s=>⟨fun _=>⟨.inr rfl,rfl⟩,fun h=>absurd h (show¬(3:Int)=2 by decide)⟩
 cases R with
 |ok v=>exact val v
 |error c=>
  unfold ZL;dsimp only;split
  ·exact err _
  ·split
   ·exact err _
   ·split
    ·exact err _
    ·split
     ·exact err _
     ·rename_i hk
      exact⟨fun h=>absurd rfl h,fun _=>⟨rfl,rfl,hk⟩⟩
theorem LI (hand:V->ByteArray->V) (o:Int) (a b:V):((ZY hand o a b).k≠2->((ZY hand o a b).k=1\/(ZY hand o a b).k=3)/\(ZY hand o a b).args=[])/\
  ((ZY hand o a b).k=2->(ZY hand o a b).args=[(Gh o a b).1,(Gh o a b).2]/\(ZY hand o a b).f=Zs hand (Q6 o) (Gh o a b).1 (Gh o a b).2/\(Zs hand (Q6 o) (Gh o a b).1 (Gh o a b).2).k≠0):=by
 by_cases h0:¬(1<=o/\o<=19)\/Qt a=false\/Qt b=false
 ·have:ZY hand o a b=ZZ sBad:=by unfold ZY;rw[if_pos h0]
  rw[this];exact⟨fun _=>⟨.inr rfl,rfl⟩,fun h=>absurd h (show¬(3:Int)=2 by decide)⟩
 ·have hB:ZY hand o a b=if o=18 then ZL hand 16 (Ze 16 b a) b a else if o=19 then ZL hand 17 (Ze 17 b a) b a else if o=14\/o=15 then Xp hand o a b else ZL hand o (Ze o a b) a b:=by
   unfold ZY;rw[if_neg h0]
  by_cases h18:o=18
  ·subst h18;have hs:Gh 18 a b=(b,a):=rfl;have he:Q6 18=Q6 16:=rfl;rw[hB,hs,he,if_pos rfl];exact KX hand 16 _ b a
  ·by_cases h19:o=19
   ·subst h19;have hs:Gh 19 a b=(b,a):=rfl;have he:Q6 19=Q6 17:=rfl;rw[hB,hs,he,if_neg (by decide),if_pos rfl];exact KX hand 17 _ b a
   ·have hs:Gh o a b=(a,b):=by unfold Gh;rw[if_neg (by omega)]
    rw[hB,hs,if_neg h18,if_neg h19];by_cases he:o=14\/o=15
    ·rw[if_pos he];unfold Xp;split
     ·exact⟨fun _=>⟨.inl rfl,rfl⟩,fun h=>absurd h (show¬(1:Int)=2 by decide)⟩
     ·split
      ·exact⟨fun _=>⟨.inl rfl,rfl⟩,fun h=>absurd h (show¬(1:Int)=2 by decide)⟩
      ·rename_i hk
       exact⟨fun h=>absurd rfl h,fun _=>⟨rfl,rfl,hk⟩⟩
    ·rw[if_neg he];exact KX hand o _ a b
end Go.Proofs.YthkpckgcgkijbaaGreatDoor
namespace Go.Proofs.YthkpckgcgkijbaaGreatDoor
open Go.RowKit Go.Proofs.Lexi Go.ChangeMaps Go.MapKept Go.Proofs.Tryz
open Go.Maps (Keyed)
variable {P : Program}
def RangeAt (w:World) (b r:Nat) (E D:List (Value×Value)):Prop:=
 ∃es clock seen,w.heap[b]? =some (.map es clock)/\w.heap[r]? =some (.mapIter (some b) clock seen clock)/\es.toList.map (fun e=>(e.key,e.val))=E/\Born es clock/\(leftOf es seen).toList.map (fun e=>(e.key,e.val))=D
theorem RangeAt.keep {w w':World} {b r:Nat} {E D:List (Value×Value)} (h:RangeAt w b r E D) (hb:w'.heap[b]? =w.heap[b]?) (hr:w'.heap[r]? =w.heap[r]?):RangeAt w' b r E D:=by
 obtain⟨es,c,seen,h1,h2,h3⟩:=h;exact⟨es,c,seen,hb.trans h1,hr.trans h2,h3⟩
theorem RangeAt.lt {w:World} {b r:Nat} {E D:List (Value×Value)} (h:RangeAt w b r E D):b<w/\r<w:=by
 obtain⟨es,c,seen,h1,h2,h3⟩:=h;exact⟨(Array.getElem?_eq_some_iff.1 h1).1,(Array.getElem?_eq_some_iff.1 h2).1⟩
theorem Mj {e:MapEntry}:∀{l:List MapEntry},(l.map (·.born)).Nodup->e∈l->∃A B,l=A++e::B/\l.filter (fun x=> !(x.born==e.born))=A++B:=by
 intro l hn he;obtain⟨A,B,rfl⟩:=List.append_of_mem he;refine⟨A,B,rfl,?_⟩;rw[List.map_append,List.map_cons,List.nodup_append] at hn;obtain⟨h1,h2,h3⟩:=hn;rw[List.nodup_cons] at h2;rw[List.filter_append,List.filter_cons,beq_self_eq_true];have ha:A.filter (fun x=> !(x.born==e.born))=A:=List.filter_eq_self.2 fun x hx=>by
  have:=h3 x.born (List.mem_map.2 ⟨x,hx,rfl⟩) e.born (by simp);simpa using this
 have hb:B.filter (fun x=> !(x.born==e.born))=B:=List.filter_eq_self.2 fun x hx=>by
  have:x.born≠e.born:=fun hc=>h2.1 (hc▸List.mem_map.2 ⟨x,hx,rfl⟩);simpa using this
 rw[ha,hb];rfl
section
variable {k e t : TypeId} {w : World} {b r : Nat} {E D : List (Value × Value)}
theorem MapAt.range (h:MapAt P k w b E) (ht:P.underlying t=some (.map k e)):
  ∃w',(Instr.range t (.map (some b))).run P w= .ok (.pointer (some w)) w'/\RangeAt w' b w.heap.size E E/\Below w w w'/\w'.heap.size=w.heap.size+1:=by
 have hlt:=h.lt;obtain⟨es,c,hb,hE,_,_,hn⟩:=h;refine⟨_,run_range_map w t k e b es c ht hb,⟨es,c,#[],?_,heap_alloc_new _ _,hE,hn,?_⟩,(Below.refl _ _).alloc zl _,by simp⟩
 ·rw[heap_alloc_old _ _ hlt,hb]
 ·rw[<-hE];unfold leftOf;rw[Array.filter_eq_self.2 (fun x _=>by simp)]
theorem RangeAt.next (h:RangeAt w b r E D) (hne:b≠r) (ty:TypeId):
  (D=[]/\(Instr.next (.pointer (some r)) false ty).run P w= .ok (.tuple #[.bool false]) w)\/
  ∃key v w' A B,(key,v)∈E/\D=A++(key,v)::B/\(Instr.next (.pointer (some r)) false ty).run P w= .ok (.tuple #[.bool true,key,v]) w'/\RangeAt w' b r E (A++B)/\Mods (· =r) w w'/\w'.heap.size=w.heap.size/\
   (Instr.entry (.pointer (some r))).run P w'= .ok (.tuple #[key,v]) w':=by
 obtain⟨es,c,seen,hb,hr,hE,hn,hD⟩:=h;have hold:∀x∈es.toList,x.born<c:=fun x hx=>hn.2 _ (List.mem_map.2 ⟨x,hx,rfl⟩);rcases run_next_at (P:=P) w ty r b c c seen es c hr hb hold zl with⟨h0,hrun⟩|⟨x,hx,w1,hal,hrun⟩
 ·refine .inl ⟨?_,hrun⟩;rw[<-hD,Array.eq_empty_of_size_eq_zero h0];rfl
 ·have hxe:x∈es.toList:=by
   unfold leftOf at hx;simp at hx ⊢;exact hx.1
  have hl:(leftOf es seen).toList=es.toList.filter (fun y=> !seen.contains y.born):=by
   unfold leftOf;exact Array.toList_filter
  have hnl:((leftOf es seen).toList.map (·.born)).Nodup:=by
   rw[hl];exact hn.1.sublist (List.filter_sublist.map _)
  obtain⟨A,B,h1,h2⟩:=Mj hnl hx;have hl2:(leftOf es (seen.push x.born)).toList=A++B:=by
   rw[<-h2,hl,List.filter_filter];have:(leftOf es (seen.push x.born)).toList=es.toList.filter (fun y=> !(seen.push x.born).contains y.born):=by
    unfold leftOf;exact Array.toList_filter
   rw[this];apply List.filter_congr;intro y _;rw[Array.contains_push];cases(y.born==x.born)<;>cases seen.contains y.born<;>rfl
  have hr1:w1.heap[r]? =some (.mapIter (some b) c seen c):=by rcases hal with rfl|rfl<;>exact hr
  have hb1:w1.heap[b]? =some (.map es c):=by rcases hal with rfl|rfl<;>exact hb
  have hset:=heap_set (o':= .mapIter (some b) c (seen.push x.born) c) hr1;have hb':(setBlock w1 r (.mapIter (some b) c (seen.push x.born) c)).heap[b]? =some (.map es c):=(hset.2 b hne).trans hb1;refine .inr ⟨x.key,x.val,_,A.map (fun e=>(e.key,e.val)),B.map (fun e=>(e.key,e.val)),?_,?_,hrun,⟨es,c,seen.push x.born,hb',hset.1,hE,hn,?_⟩,?_,?_,run_entry_at _ r b c seen es c x hset.1 hb' hxe hn.1⟩
  ·rw[<-hE];exact List.mem_map.2 ⟨x,hxe,rfl⟩
  ·rw[<-hD,h1,List.map_append,List.map_cons]
  ·rw[hl2,List.map_append]
  ·rcases hal with rfl|rfl<;>exact⟨rfl,rfl,rfl,by simp[setBlock],fun i _ hi=>hset.2 i hi⟩
  ·rcases hal with rfl|rfl<;>simp[setBlock]
end
end Go.Proofs.YthkpckgcgkijbaaGreatDoor
namespace Go.Proofs.YthkpckgcgkijbaaGreatDoor
open Go.RowKit Go.Proofs.Lexi Go.Proofs.Tryz
def Kv (x:LO):Int:=if x.kind=4 then 12+4*(x.L.length:Int) else if x.kind=5 then 8 else 12
def JG (M:LH):Int:=(M.map Kv).sum
theorem Jz (x:LO):0<=Kv x:=by
 unfold Kv;split
 ·omega
 ·split<;>omega
theorem YM:∀(l:List Int),(∀x∈l,0<=x)->0<=l.sum
 |[],_=>Int.le_refl _
 |x::l,h=>by
  rw[List.sum_cons];have h1:=h x (by simp);have h2:=YM l (fun y hy=>h y (by simp[hy]));omega
def Sv (H:List PO):Value->Int
 | .int _ k=>match H[k.toNat-1]? with|some x=>Kv x.lo|none=>0
 |_=>0
def BK (H:List PO) (D:List (Value×Value)):Int:=(D.map fun p=>Sv H p.1).sum
theorem Fg (H:List PO) (v:Value):0<=Sv H v:=by
 unfold Sv;split
 ·split
  ·exact Jz _
  ·exact Int.le_refl _
 ·exact Int.le_refl _
theorem Fi (H:List PO) (D:List (Value×Value)):0<=BK H D:=YM _ (fun x hx=>by
 obtain⟨p,_,rfl⟩:=List.mem_map.1 hx;exact Fg _ _)
theorem T6 {H:List PO} {i:Nat} {x:PO} (h:H[i]? =some x) (k:IntKind):Sv H (.int k ((i+1:Nat):Int))=Kv x.lo:=by
 have e:(((i+1:Nat):Int)).toNat-1=i:=by omega
 show(match H[(((i+1:Nat):Int)).toNat-1]? with|some x=>Kv x.lo|none=>0)=_;rw[e,h]
theorem Lh (H:List PO) (A B:List (Value×Value)) (p:Value×Value):BK H (A++p::B)=BK H (A++B)+Sv H p.1:=by
 unfold BK;rw[List.map_append,List.map_append,List.map_cons,List.sum_append,List.sum_append,List.sum_cons];omega
theorem Li (H:List PO):BK H (Xx H)=JG (lh H):=by
 unfold BK JG lh
 congr 1
 apply List.ext_getElem?;intro i;rw[List.getElem?_map,G1,List.getElem?_map,List.getElem?_map];cases h:H[i]? with
 |none=>rfl
 |some x=>exact congrArg some (T6 h _)
def SzRel (w:World) (bo r:Nat) (H:List PO) (gg:Nat) (vn:Value) (wr:World):Prop:=
 ∃(D:List (Value×Value)) (s:Int),D.length=gg/\vn= .int .i64 s/\RangeAt wr bo r (Xx H) D/\s+BK H D=JG (lh H)/\Below w w wr/\(∀p∈D,p∈Xx H)/\0<=s
def RzRel (w:World) (H:List RO) (gg:Nat) (vn vi:Value) (wr:World):Prop:=
 ∃(i:Nat) (s:Int),gg=H.length-i/\vn= .int .i64 s/\vi= .int .i64 (i:Nat)/\i<=H.length/\s+JG ((rlh H).drop i)=JG (rlh H)/\Below w w wr/\0<=s
theorem DG (M:LH):0<=JG M:=YM _ (fun x hx=>by
 obtain⟨y,_,rfl⟩:=List.mem_map.1 hx;exact Jz _)
theorem NH {M:LH} {i:Nat} {x:LO} (h:M[i]? =some x):JG (M.drop i)=Kv x+JG (M.drop (i+1)):=by
 obtain⟨hl,he⟩:=List.getElem?_eq_some_iff.1 h;rw[List.drop_eq_getElem_cons hl,he];rfl
theorem Nz (w:World) (m g:Nat) (sv:Value) (L:List Sl) (hO:OMap w m g sv L):Calls prog 192 #[m] w (fun e w'=>e= .returned (.int .i64 (L.length:Nat))/\w'=w):=by
 obtain⟨so,cap,rfl⟩:=Zb hO.row;have t0:w.cell? m=some (.slice so L.length cap):=by rw[QA hO.hm];rfl
 clear hO;go_enter func192,ntmps192;go_wp2
 go_ret
 exact⟨rfl,rfl⟩
theorem qOf {f:FuncId} {args:Array Value} {w:World} {n:Nat} {v:Value} (h:Calls prog f args (w.drewN n) fun e w'=>e= .returned v/\w'=w.drewN n):
  Calls prog f args (w.drewN n) fun e w''=>e= .returned v/\∃m,w''=w.drewN m:=h.mono fun _ _ hh=>⟨hh.1,n,hh.2⟩
theorem Ns (w:World) (t m g:Nat) (sv:Value) (L:List Sl) (hT:TabAt w t m g sv L) (hL:L.length<=1000):Calls prog 139 #[t] w (IntPost w (4+4*(L.length:Nat))):=by
 have t0:w.cell? t=some (.slice none 0 0):=by rw[QA hT.ht];rfl
 have t1:w.cell? ⟨t,1,none⟩=some (.pointer (some m)):=by rw[QA hT.ht];rfl
 have HS:=zh (fun W (h:Below w w W)=>Nz W m g sv L (Zy hT.om h));clear hT;go_enter func139,ntmps139;go_wp2
 go_quiet (first|(go_at_call 192;exact qOf (HS.out _ (below_drewN (Below.refl _ _) _))))
 go_wp2
 go_ret
 exact Qr (by first|rfl|omega|(simp;omega)) (below_drewN (Below.refl _ _) _)
theorem F0 (w:World) (m:Nat) (sv:Value) (L:List Sl) (hO:SMap w m sv L):Calls prog 193 #[m] w (fun e w'=>e= .returned (.int .i64 (L.length:Nat))/\w'=w):=by
 obtain⟨so,cap,rfl⟩:=Zb hO.row;have t0:w.cell? m=some (.slice so L.length cap):=by rw[QA hO.hm];rfl
 clear hO;go_enter func193,ntmps193;go_wp2
 go_ret
 exact⟨rfl,rfl⟩
theorem NQ (w:World) (t m:Nat) (sv:Value) (L:List Sl) (hT:STab w t m sv L) (hL:L.length<=1000):Calls prog 140 #[t] w (IntPost w (4+4*(L.length:Nat))):=by
 have t0:w.cell? t=some (.slice none 0 0):=by rw[QA hT.ht];rfl
 have t1:w.cell? ⟨t,1,none⟩=some (.pointer (some m)):=by rw[QA hT.ht];rfl
 have HS:=zh (fun W (h:Below w w W)=>F0 W m sv L (hT.om.below h));clear hT;go_enter func140,ntmps140;go_wp2
 go_quiet (first|(go_at_call 193;exact qOf (HS.out _ (below_drewN (Below.refl _ _) _))))
 go_wp2
 go_ret
 exact Qr (by first|rfl|omega|(simp;omega)) (below_drewN (Below.refl _ _) _)
end Go.Proofs.YthkpckgcgkijbaaGreatDoor
namespace Go.Proofs.YthkpckgcgkijbaaGreatDoor
open Go.RowKit Go.Proofs.Lexi Go.ChangeMaps Go.MapKept Go.Proofs.Tryz
open Go.Maps (Keyed)
variable {P : Program}
theorem Yr {k e:TypeId} (w:World) {ops:Array Oper} {rest:List Oper} {o:Oper} {a:Act} {Q:Exit->Act->World->Prop}
  (hg:o.guard=none) (m:Operand) (t:TypeId) (hop:o.op=Op.range t m) (ht:P.underlying t=some (.map k e)) {b:Nat} {E:List (Value×Value)} (hm:a.eval m= .map (some b)) (h:MapAt P k w b E)
  (hK:∀w',RangeAt w' b w.heap.size E E->Below w w w'->w'.heap.size=w.heap.size+1->wpList P ops Q rest (a.put o.dst (.pointer (some w))) w'):wpList P ops Q (o::rest) a w:=by
 refine wpList_plain hg fun K' hK'=> ?_;obtain⟨w',hrun,r1,r2,r3⟩:=h.range ht;unfold Oper.wp;simp[execOp,hop,hm,hrun,Result.andThen];exact hK' _ _ (hK w' r1 r2 r3)
theorem XI (w:World) {ops:Array Oper} {rest:List Oper} {o:Oper} {a:Act} {Q:Exit->Act->World->Prop}
  (hg:o.guard=none) (it:Operand) (hop:o.op=Op.next it false) {b r:Nat} {E D:List (Value×Value)} (hit:a.eval it= .pointer (some r)) (h:RangeAt w b r E D) (hne:b≠r)
  (hDone:D=[]->wpList P ops Q rest (a.put o.dst (.tuple #[.bool false])) w)
  (hMore:∀key v w' A B,(key,v)∈E->D=A++(key,v)::B->RangeAt w' b r E (A++B)->Mods (· =r) w w'->w'.heap.size=w.heap.size->(Instr.entry (.pointer (some r))).run P w'= .ok (.tuple #[key,v]) w'->wpList P ops Q rest (a.put o.dst (.tuple #[.bool true,key,v])) w'):
  wpList P ops Q (o::rest) a w:=by
 refine wpList_plain hg fun K' hK'=> ?_;unfold Oper.wp;rcases h.next (P:=P) hne o.type with⟨h0,hrun⟩|⟨key,v,w',A,B,h1,h2,hrun,h3,h4,h5,h6⟩
 ·simp[execOp,hop,hit,hrun,Result.andThen];exact hK' _ _ (hDone h0)
 ·simp[execOp,hop,hit,hrun,Result.andThen];exact hK' _ _ (hMore key v w' A B h1 h2 h3 h4 h5 h6)
end Go.Proofs.YthkpckgcgkijbaaGreatDoor
namespace Go.Proofs.YthkpckgcgkijbaaGreatDoor
open Go.RowKit Go.Proofs.Lexi Go.Proofs.Tryz
theorem SP (w:World) (x:PO) (h:PObj w x) (hL:x.L.length<=1000):Calls prog 82 #[.pointer (some x.o)] w (IntPost w (Kv x.lo)):=by
 obtain⟨ho,kd,_,fm,tb⟩:=h;obtain⟨kind,tag,name,mt,vals,o,t,m,g,sv,L⟩:=x;simp only at kd fm tb hL ho;have c0:w.cell? o=some (.int .i64 kind):=by rw[QA ho];rfl
 have hz:=(Array.getElem?_eq_some_iff.1 ho).1;rcases kd with rfl|rfl|rfl
 ·have c3:w.cell? ⟨o,3,none⟩=some (.pointer (some t)):=by rw[QA ho];rfl
  have HS:=zh (fun W (hb:Below w w W)=>Ns W t m g sv L ((tb rfl).below hb) hL);clear tb fm ho;go_enter func82,ntmps82;go_wp2_with fail
  refine(HS.out _ (Below.refl _ _)).mono ?_;rintro e w1 ⟨rfl,hb⟩;go_wp2
  go_ret
  exact Qr (by unfold Kv PO.lo;simp only[if_true];omega) hb
 ·obtain⟨_,rfl⟩:=fm rfl;have c5:w.cell? ⟨o,9,none⟩=some (.slice none 0 0):=by rw[QA ho];rfl
  clear tb fm ho;go_enter func82,ntmps82;go_wp2
  go_ret
  exact Qr rfl (Below.refl _ _)
 ·clear tb fm ho;go_enter func82,ntmps82;go_wp2
  go_ret
  exact Qr rfl (Below.refl _ _)
theorem Cc (w:World) (h bo bt:Nat) (H:List PO) (hH:HpAt w h bo bt H):Calls prog 28 #[h] w (IntPost w (H.length:Nat)):=by
 have hlen:=Bc hH.objs w rfl;rw[Ps] at hlen;have h0:w.cell? h=some (.map (some bo)):=by rw[QA hH.hh];rfl
 clear hH;go_enter func28,ntmps28;go_wp2
 go_ret
 exact⟨rfl,Below.refl _ _⟩
theorem Af (w:World) (h bo bt:Nat) (H:List PO) (hH:HpAt w h bo bt H) (hS:Small 1000 H) (hz:JG (lh H)<=1000000000):Calls prog 30 #[.pointer (some ⟨h,0,none⟩)] w (IntPost w (JG (lh H))):=by
 have h0:w.cell? ⟨h,0,none⟩=some (.map (some bo)):=by rw[QA hH.hh];rfl
 have hbo:=hH.objs.lt;have HH:=zh hH;have HS:=zh hS;have HZ:=zh hz;have HM:=zh hH.objs;clear hH hS hz;go_enter func30,ntmps30;go_wp2_with (at_range;refine Yr _ rfl _ _ rfl (k:=3) (e:=94) (by kernel_rfl) rfl HM.out ?_;intro w0 hr0 hb0 hs0)
 go_frame
 have HS0:=zh (show SzRel w bo w.heap.size H (Xx H).length (.int .i64 0) w0 from⟨Xx H,0,rfl,rfl,hr0,by rw[Li];omega,hb0,fun p h=>h,Int.le_refl _⟩);clear hr0 hb0 HM h0
 go_loopg [3] (Xx H).length (fun gg vn wr=>SzRel w bo w.heap.size H gg vn wr)
 case atStart=>exact HS0.out
 case round=>
  clear HS0;obtain⟨D,s,rfl,rfl,hr,hs,hb,hD,hs0⟩:=hrel;have HD:=zh hD;have HSUM:=zh hs;have HB:=zh hb;have HRG:=zh hr;clear hD hs hb hr;go_wp2_with (at_next;refine XI _ rfl _ rfl rfl HRG.out (by omega) ?_ ?_)
  ·intro hd;have he:s=JG (lh H):=by
    have h1:=HSUM.out;rw[hd] at h1;have h2:BK H []=0:=rfl;omega
   go_wp2
   go_ret
   exact Qr he HB.out
  ·intro key v w2 A B h1 h2 h3 h4 h5 h6;obtain⟨i,x,hi,he⟩:=objE_mem.1 h1;injection he with hk hv;subst hk hv h2;have hx:=List.mem_of_getElem? hi;have hb2:Below w w w2:=HB.out.trans (h4.below HB.out.size (fun k hk e=>by omega));obtain⟨z,hz⟩:∃z,z=Kv x.lo:=⟨_,rfl⟩
   have hps:=SP w2 x ((HH.out.below hb2).one x hx) (HS.out x hx);rw[<-hz] at hps;have hsum:=HSUM.out;rw[Lh,T6 hi,<-hz] at hsum;have hz0:0<=z:=by rw[hz];exact Jz _
   have hrest:=Fi H (A++B);have htop:s+z<=1000000000:=by have:=HZ.out;omega
   have HR3:=zh h3;have HB2:=zh hb2;have HPS:=zh hps;have HS2:=zh hsum;have hlt:bo<w2/\w.heap.size<w2.heap.size:=h3.lt;clear h1 h3 h4 h5 hb2 hps hsum hrest hi hx hz HSUM HRG HB;go_wp2_with fail
   refine HPS.out.mono ?_;rintro e w3 ⟨rfl,hb⟩;go_wp2
   go_roundg (A++B).length
   case measure=>rw[List.length_append,List.length_append,List.length_cons];omega
   case rel=>
    have hD:=HD.out;refine⟨A++B,s+z,rfl,rfl,HR3.out.keep (hb.block _ hlt.1) (hb.block _ hlt.2),by have:=HS2.out;omega,HB2.out.trans (hb.mono (by omega)),fun p hp=>hD p ?_,by omega⟩;rcases List.mem_append.1 hp with hp|hp
    ·exact List.mem_append.2 (.inl hp)
    ·exact List.mem_append.2 (.inr (List.mem_cons_of_mem _ hp))
theorem Oq (w:World) (kind tag:Int) (name:ByteArray) (tv:Value) (mk mp mq:Int) (ms:ByteArray) (mr:Int) (user refs:Value) (z:Int) (hk:kind=4) (HT:∀W,Below w w W->Calls prog 140 #[tv] W (IntPost W z)) (hz0:0<=z) (hz1:z<=1000000):Calls prog 83 #[.agg #[kind,tag,name,tv,mk,mp,mq,ms,mr,user,refs]] w (IntPost w (8+z)):=by
 have HS:=zh HT;clear HT;subst hk;have hz:w.heap.size<(w.alloc (.cells #[.int .i64 4,tag,name,tv,mk,mp,mq,ms,mr,user,refs] 97)).heap.size:=by simp
 have x0:(w.alloc (.cells #[.int .i64 4,tag,name,tv,mk,mp,mq,ms,mr,user,refs] 97)).cell? w=some (.int .i64 4):=by rw[QA (Qy _ _)];rfl
 have x1:(w.alloc (.cells #[.int .i64 4,tag,name,tv,mk,mp,mq,ms,mr,user,refs] 97)).cell? ⟨w,1,none⟩=some (.int .i64 tag):=by rw[QA (Qy _ _)];rfl
 have x2:(w.alloc (.cells #[.int .i64 4,tag,name,tv,mk,mp,mq,ms,mr,user,refs] 97)).cell? ⟨w,2,none⟩=some (.string name):=by rw[QA (Qy _ _)];rfl
 have x3:(w.alloc (.cells #[.int .i64 4,tag,name,tv,mk,mp,mq,ms,mr,user,refs] 97)).cell? ⟨w,3,none⟩=some (tv):=by rw[QA (Qy _ _)];rfl
 have x4:(w.alloc (.cells #[.int .i64 4,tag,name,tv,mk,mp,mq,ms,mr,user,refs] 97)).cell? ⟨w,4,none⟩=some (.int .i64 mk):=by rw[QA (Qy _ _)];rfl
 have x5:(w.alloc (.cells #[.int .i64 4,tag,name,tv,mk,mp,mq,ms,mr,user,refs] 97)).cell? ⟨w,5,none⟩=some (.int .i64 mp):=by rw[QA (Qy _ _)];rfl
 have x6:(w.alloc (.cells #[.int .i64 4,tag,name,tv,mk,mp,mq,ms,mr,user,refs] 97)).cell? ⟨w,6,none⟩=some (.int .i64 mq):=by rw[QA (Qy _ _)];rfl
 have x7:(w.alloc (.cells #[.int .i64 4,tag,name,tv,mk,mp,mq,ms,mr,user,refs] 97)).cell? ⟨w,7,none⟩=some (.string ms):=by rw[QA (Qy _ _)];rfl
 have x8:(w.alloc (.cells #[.int .i64 4,tag,name,tv,mk,mp,mq,ms,mr,user,refs] 97)).cell? ⟨w,8,none⟩=some (.int .i64 mr):=by rw[QA (Qy _ _)];rfl
 have x9:(w.alloc (.cells #[.int .i64 4,tag,name,tv,mk,mp,mq,ms,mr,user,refs] 97)).cell? ⟨w,9,none⟩=some (user):=by rw[QA (Qy _ _)];rfl
 have x10:(w.alloc (.cells #[.int .i64 4,tag,name,tv,mk,mp,mq,ms,mr,user,refs] 97)).cell? ⟨w,10,none⟩=some (refs):=by rw[QA (Qy _ _)];rfl
 go_enter func83,ntmps83;go_wp2_with fail
 refine(HS.out _ (Qf _ _)).mono ?_;rintro e w1 ⟨rfl,hb⟩;go_wp2
 go_ret
 exact Qr rfl (QC (Qf _ _) hb)
theorem Ot (w:World) (kind tag:Int) (name:ByteArray) (tv:Value) (mk mp mq:Int) (ms:ByteArray) (mr:Int) (user refs:Value) (hk:kind=5) (hr:refs= .slice none 0 0):Calls prog 83 #[.agg #[kind,tag,name,tv,mk,mp,mq,ms,mr,user,refs]] w (IntPost w 8):=by
 subst hk hr;have hz:w.heap.size<(w.alloc (.cells #[.int .i64 5,tag,name,tv,mk,mp,mq,ms,mr,user,.slice none 0 0] 97)).heap.size:=by simp
 have x0:(w.alloc (.cells #[.int .i64 5,tag,name,tv,mk,mp,mq,ms,mr,user,.slice none 0 0] 97)).cell? w=some (.int .i64 5):=by rw[QA (Qy _ _)];rfl
 have x1:(w.alloc (.cells #[.int .i64 5,tag,name,tv,mk,mp,mq,ms,mr,user,.slice none 0 0] 97)).cell? ⟨w,1,none⟩=some (.int .i64 tag):=by rw[QA (Qy _ _)];rfl
 have x2:(w.alloc (.cells #[.int .i64 5,tag,name,tv,mk,mp,mq,ms,mr,user,.slice none 0 0] 97)).cell? ⟨w,2,none⟩=some (.string name):=by rw[QA (Qy _ _)];rfl
 have x3:(w.alloc (.cells #[.int .i64 5,tag,name,tv,mk,mp,mq,ms,mr,user,.slice none 0 0] 97)).cell? ⟨w,3,none⟩=some (tv):=by rw[QA (Qy _ _)];rfl
 have x4:(w.alloc (.cells #[.int .i64 5,tag,name,tv,mk,mp,mq,ms,mr,user,.slice none 0 0] 97)).cell? ⟨w,4,none⟩=some (.int .i64 mk):=by rw[QA (Qy _ _)];rfl
 have x5:(w.alloc (.cells #[.int .i64 5,tag,name,tv,mk,mp,mq,ms,mr,user,.slice none 0 0] 97)).cell? ⟨w,5,none⟩=some (.int .i64 mp):=by rw[QA (Qy _ _)];rfl
 have x6:(w.alloc (.cells #[.int .i64 5,tag,name,tv,mk,mp,mq,ms,mr,user,.slice none 0 0] 97)).cell? ⟨w,6,none⟩=some (.int .i64 mq):=by rw[QA (Qy _ _)];rfl
 have x7:(w.alloc (.cells #[.int .i64 5,tag,name,tv,mk,mp,mq,ms,mr,user,.slice none 0 0] 97)).cell? ⟨w,7,none⟩=some (.string ms):=by rw[QA (Qy _ _)];rfl
 have x8:(w.alloc (.cells #[.int .i64 5,tag,name,tv,mk,mp,mq,ms,mr,user,.slice none 0 0] 97)).cell? ⟨w,8,none⟩=some (.int .i64 mr):=by rw[QA (Qy _ _)];rfl
 have x9:(w.alloc (.cells #[.int .i64 5,tag,name,tv,mk,mp,mq,ms,mr,user,.slice none 0 0] 97)).cell? ⟨w,9,none⟩=some (user):=by rw[QA (Qy _ _)];rfl
 have x10:(w.alloc (.cells #[.int .i64 5,tag,name,tv,mk,mp,mq,ms,mr,user,.slice none 0 0] 97)).cell? ⟨w,10,none⟩=some (.slice none 0 0):=by rw[QA (Qy _ _)];rfl
 go_enter func83,ntmps83;go_wp2
 go_ret
 exact Qr rfl (Qf _ _)
theorem Ou (w:World) (kind tag:Int) (name:ByteArray) (tv:Value) (mk mp mq:Int) (ms:ByteArray) (mr:Int) (user refs:Value) (hk:kind=8):Calls prog 83 #[.agg #[kind,tag,name,tv,mk,mp,mq,ms,mr,user,refs]] w (IntPost w 12):=by
 subst hk;have hz:w.heap.size<(w.alloc (.cells #[.int .i64 8,tag,name,tv,mk,mp,mq,ms,mr,user,refs] 97)).heap.size:=by simp
 have x0:(w.alloc (.cells #[.int .i64 8,tag,name,tv,mk,mp,mq,ms,mr,user,refs] 97)).cell? w=some (.int .i64 8):=by rw[QA (Qy _ _)];rfl
 have x1:(w.alloc (.cells #[.int .i64 8,tag,name,tv,mk,mp,mq,ms,mr,user,refs] 97)).cell? ⟨w,1,none⟩=some (.int .i64 tag):=by rw[QA (Qy _ _)];rfl
 have x2:(w.alloc (.cells #[.int .i64 8,tag,name,tv,mk,mp,mq,ms,mr,user,refs] 97)).cell? ⟨w,2,none⟩=some (.string name):=by rw[QA (Qy _ _)];rfl
 have x3:(w.alloc (.cells #[.int .i64 8,tag,name,tv,mk,mp,mq,ms,mr,user,refs] 97)).cell? ⟨w,3,none⟩=some (tv):=by rw[QA (Qy _ _)];rfl
 have x4:(w.alloc (.cells #[.int .i64 8,tag,name,tv,mk,mp,mq,ms,mr,user,refs] 97)).cell? ⟨w,4,none⟩=some (.int .i64 mk):=by rw[QA (Qy _ _)];rfl
 have x5:(w.alloc (.cells #[.int .i64 8,tag,name,tv,mk,mp,mq,ms,mr,user,refs] 97)).cell? ⟨w,5,none⟩=some (.int .i64 mp):=by rw[QA (Qy _ _)];rfl
 have x6:(w.alloc (.cells #[.int .i64 8,tag,name,tv,mk,mp,mq,ms,mr,user,refs] 97)).cell? ⟨w,6,none⟩=some (.int .i64 mq):=by rw[QA (Qy _ _)];rfl
 have x7:(w.alloc (.cells #[.int .i64 8,tag,name,tv,mk,mp,mq,ms,mr,user,refs] 97)).cell? ⟨w,7,none⟩=some (.string ms):=by rw[QA (Qy _ _)];rfl
 have x8:(w.alloc (.cells #[.int .i64 8,tag,name,tv,mk,mp,mq,ms,mr,user,refs] 97)).cell? ⟨w,8,none⟩=some (.int .i64 mr):=by rw[QA (Qy _ _)];rfl
 have x9:(w.alloc (.cells #[.int .i64 8,tag,name,tv,mk,mp,mq,ms,mr,user,refs] 97)).cell? ⟨w,9,none⟩=some (user):=by rw[QA (Qy _ _)];rfl
 have x10:(w.alloc (.cells #[.int .i64 8,tag,name,tv,mk,mp,mq,ms,mr,user,refs] 97)).cell? ⟨w,10,none⟩=some (refs):=by rw[QA (Qy _ _)];rfl
 go_enter func83,ntmps83;go_wp2
 go_ret
 exact Qr rfl (Qf _ _)
theorem B9 (w:World) (x:RO) (h:RObj w x) (hL:x.L.length<=1000):Calls prog 83 #[.agg #[.int .i64 x.kind,.int .i64 x.tag,.string x.name,x.tv,.int .i64 x.mt.k,.int .i64 x.mt.p,.int .i64 x.mt.q,.string x.mt.s,.int .i64 x.mt.r,x.user,x.refs]] w (IntPost w (Kv x.lo)):=by
 obtain⟨kd,_,fm,tb⟩:=h;obtain⟨kind,tag,name,⟨mk,mp,mq,ms,mr⟩,user,refs,t,m,sv,L⟩:=x;simp only at kd fm tb hL;rcases kd with rfl|rfl|rfl
 ·have e:Kv (RO.lo ⟨4,tag,name,⟨mk,mp,mq,ms,mr⟩,user,refs,t,m,sv,L⟩)=8+(4+4*(L.length:Nat)):=by
   unfold Kv RO.lo;simp only[if_true];omega
  rw[e];exact Oq w 4 tag name _ mk mp mq ms mr user refs _ rfl (fun W hb=>NQ W t m sv L ((tb rfl).below hb) hL) (by omega) (by omega)
 ·exact Ot w 5 tag name _ mk mp mq ms mr user refs rfl (fm rfl).2
 ·exact Ou w 8 tag name _ mk mp mq ms mr user refs rfl
theorem L7 (w:World) (h:Nat) (av uv:Value) (H:List RO) (hH:RHpAt w h av uv H):Calls prog 29 #[h] w (IntPost w (H.length:Nat)):=by
 have h1:w.cell? ⟨h,1,none⟩=some (.int .i64 (H.length:Nat)):=by rw[QA hH.hh];rfl
 clear hH;go_enter func29,ntmps29;go_wp2
 go_ret
 exact⟨rfl,Below.refl _ _⟩
theorem Og (w:World) (h:Nat) (av uv:Value) (H:List RO) (hH:RHpAt w h av uv H) (hS:RSmall 1000 H) (hl:H.length<=1000) (hz:JG (rlh H)<=1000000000):Calls prog 31 #[h] w (IntPost w (JG (rlh H))):=by
 obtain⟨so,cap,rfl⟩:=Zb hH.row;have HH:=zh hH;have HS:=zh hS;have HZ:=zh hz;have HS0:=zh (show RzRel w H H.length (.int .i64 0) (.int .i64 0) w from⟨0,0,rfl,rfl,rfl,Nat.zero_le _,by rw[List.drop_zero];omega,Below.refl _ _,Int.le_refl _⟩);clear hH hS hz;go_enter func31,ntmps31;go_wp2
 go_loopg [3,4] H.length (fun gg vn vi wr=>RzRel w H gg vn vi wr)
 case atStart=>exact HS0.out
 case round=>
  clear HS0;obtain⟨i,s,rfl,rfl,rfl,hi,hs,hb,hs0⟩:=hrel;have HB:=zh hb;have hR:=HH.out.below hb;have h0:wr.cell? h=some (.slice so H.length cap):=by rw[QA hR.hh];rfl
  by_cases hlt:i<H.length
  ·obtain⟨rb,cap',he⟩:=Qh hR.row (by omega);injection he with he _ _;subst he;obtain⟨x,hx⟩:∃x,H[i]? =some x:=⟨_,List.getElem?_eq_getElem hlt⟩
   have hxm:=List.mem_of_getElem? hx;have hM:(rlh H)[i]? =some x.lo:=by unfold rlh;rw[List.getElem?_map,hx];rfl
   rw[NH hM] at hs;obtain⟨z,hz⟩:∃z,z=Kv x.lo:=⟨_,rfl⟩
   have hps:=fun W (hw:Below wr wr W)=>B9 W x ((hR.below hw).one x hxm) (HS.out x hxm);rw[<-hz] at hps hs;have hz0:0<=z:=by rw[hz];exact Jz _
   have htop:s+z<=1000000000:=by have h1:=HZ.out;have h2:=DG ((rlh H).drop (i+1));omega
   have hk0:(x.kind !=0)=true:=by rw[bne_iff_ne];have:=(hR.one x hxm).kd;omega
   have rc0:wr.cell? ⟨rb,i*11,none⟩=some (.int .i64 x.kind):=(hR.row.cellAt (i*11+0) (by omega)).trans (Q8 H i 0 x hx (by decide));have rc1:wr.cell? ⟨rb,i*11+1,none⟩=some (.int .i64 x.tag):=(hR.row.cellAt (i*11+1) (by omega)).trans (Q8 H i 1 x hx (by decide));have rc2:wr.cell? ⟨rb,i*11+2,none⟩=some (.string x.name):=(hR.row.cellAt (i*11+2) (by omega)).trans (Q8 H i 2 x hx (by decide));have rc3:wr.cell? ⟨rb,i*11+3,none⟩=some (x.tv):=(hR.row.cellAt (i*11+3) (by omega)).trans (Q8 H i 3 x hx (by decide));have rc4:wr.cell? ⟨rb,i*11+4,none⟩=some (.int .i64 x.mt.k):=(hR.row.cellAt (i*11+4) (by omega)).trans (Q8 H i 4 x hx (by decide));have rc5:wr.cell? ⟨rb,i*11+5,none⟩=some (.int .i64 x.mt.p):=(hR.row.cellAt (i*11+5) (by omega)).trans (Q8 H i 5 x hx (by decide));have rc6:wr.cell? ⟨rb,i*11+6,none⟩=some (.int .i64 x.mt.q):=(hR.row.cellAt (i*11+6) (by omega)).trans (Q8 H i 6 x hx (by decide));have rc7:wr.cell? ⟨rb,i*11+7,none⟩=some (.string x.mt.s):=(hR.row.cellAt (i*11+7) (by omega)).trans (Q8 H i 7 x hx (by decide));have rc8:wr.cell? ⟨rb,i*11+8,none⟩=some (.int .i64 x.mt.r):=(hR.row.cellAt (i*11+8) (by omega)).trans (Q8 H i 8 x hx (by decide));have rc9:wr.cell? ⟨rb,i*11+9,none⟩=some (x.user):=(hR.row.cellAt (i*11+9) (by omega)).trans (Q8 H i 9 x hx (by decide));have rc10:wr.cell? ⟨rb,i*11+10,none⟩=some (x.refs):=(hR.row.cellAt (i*11+10) (by omega)).trans (Q8 H i 10 x hx (by decide));have HPS:=zh hps;have HSU:=zh hs;clear hps hs hR hb hM hxm hx hz;go_wp2_with fail
   refine(HPS.out _ (Below.refl _ _)).mono ?_;rintro e w3 ⟨rfl,hb⟩;go_wp2
   go_roundg (H.length-(i+1))
   case measure=>omega
   case rel=>exact⟨i+1,s+z,rfl,rfl,rfl,by omega,by have:=HSU.out;omega,HB.out.trans (hb.mono HB.out.size),by omega⟩
  ·have he:s=JG (rlh H):=by
    have e:(rlh H).drop i=[]:=List.drop_eq_nil_of_le (by unfold rlh;rw[List.length_map];omega);rw[e] at hs;have e2:JG []=0:=rfl;omega
   have hie:i=H.length:=by omega
   clear hs hb hR;go_wp2
   go_ret
   exact Qr he HB.out
end Go.Proofs.YthkpckgcgkijbaaGreatDoor
