import Derived.Test.YthkpckgcgkijbaaGreatDoorRatC
set_option linter.unusedVariables false
set_option linter.unusedSimpArgs false
set_option maxRecDepth 100000
namespace Go.Proofs.YthkpckgcgkijbaaGreatDoor
open Go.RowKit Go.Proofs.Lexi Go.Proofs.Tryz
def PutR (W:World) (g:Nat) (f:V->Option Nat) (k:V) (n:Nat) (w':World):Prop:=(∃E',MapAt prog 25 w' g E'/\Graph E' (Mv f k (some n)))/\Mods (· =g) W w'/\w'.heap.size=W.heap.size
theorem Yk {w:World} {g:Nat} {E:List (Value×Value)} {f:V->Option Nat} (hE:MapAt prog 25 w g E) (hG:Graph E f) {k:V} (hk:WfV k) (n:Nat) (W:World) (hW:W.heap[g]? =w.heap[g]?):
  ∃w',(Instr.mapUpdate 157 (.map (some g)) k.v (.int .i64 (n:Int))).run prog W= .ok () w'/\PutR W g f k n w':=by
 obtain⟨l,hl⟩:=Rg hk;obtain⟨w',E',h1,h2,h3,h4,h5,_⟩:=(hE.keep hW).store Py (e:=3) (t:=157) (by kernel_rfl) hl (.int .i64 (n:Int));refine⟨w',h1,⟨E',h2,fun p=> ?_⟩,h3,h4⟩;rw[h5,hG];constructor
 ·rintro(rfl|⟨⟨v,j,rfl,hv⟩,hne⟩)
  ·exact⟨k,n,rfl,JZ _ _ _⟩
  ·exact⟨v,j,rfl,by rw[Zx (fun e=>hne (by rw[e]))];exact hv⟩
 ·rintro⟨v,j,rfl,hv⟩;by_cases hvk:v=k
  ·subst hvk;rw[JZ] at hv;injection hv with hv;subst hv;exact .inl rfl
  ·rw[Zx hvk] at hv;exact .inr ⟨⟨v,j,rfl,hv⟩,fun e=>hvk (V.v_inj e)⟩
abbrev slZero:Value:= .agg #[(0:Int),(0:Int),(0:Int),.string ⟨#[]⟩,(0:Int),(0:Int),(0:Int),(0:Int),.string ⟨#[]⟩,(0:Int),.bool false]
theorem YA:(prog.info? 161).map (fun i=>(i.zero,i.size,i.bytes))=some (some slZero,11,104):=by kernel_rfl
theorem Qn {F:Nat->Prop} {W w':World} (h:Mods F W w') {b:Nat} {o:Obj} (hb:W.heap[b]? =some o) (hne:¬F b):w'.heap[b]? =some o:=(h.block b (Array.getElem?_eq_some_iff.1 hb).1 hne).trans hb
theorem GO {w:World} {base g n cap size:Nat} {e:TypeId} {so:Option Addr} {xs:List Value} (h:w.ownsRow base e size (.slice so n cap) n xs) {es:Array MapEntry} {c:Nat} (hg:w.heap[g]? =some (.map es c)) (b:Nat) (hb:(Value.slice so n cap).ownBlock=some b):b≠g:=by
 rcases h.2 with⟨h2,_⟩|⟨g',cap',cur,h2,h3,h4,_⟩
 ·rw[h2] at hb;cases hb
 ·rw[h2] at hb;injection hb with hb;subst hb;rintro rfl;have h4:w.heap[g']? =some (.cells cur e (0,0)):=h4;rw[hg] at h4;cases h4
theorem Y3 {w:World} {base m n cap size:Nat} {so:Option Addr} {xs:List Value} {cs:Array Value} (h:w.ownsRow base 161 size (.slice so n cap) n xs) (hm:w.heap[m]? =some (.cells cs 159 (0,0))) (b:Nat) (hb:(Value.slice so n cap).ownBlock=some b):b≠m:=by
 rcases h.2 with⟨h2,_⟩|⟨g',cap',cur,h2,h3,h4,_⟩
 ·rw[h2] at hb;cases hb
 ·rw[h2] at hb;injection hb with hb;subst hb;rintro rfl;have h4:w.heap[g']? =some (.cells cur 161 (0,0)):=h4;rw[hm] at h4;injection h4 with h4;injection h4 with _ h6;cases h6
theorem J6 (w:World) (x0 x1 x2 x3 x4 x5 x6 x7 x8 x9 x10:Value) (t:TypeId) (B:Nat) (hB:B=w.heap.size):∀j u,[x0,x1,x2,x3,x4,x5,x6,x7,x8,x9,x10][j]? =some u->(w.alloc (.cells #[x0,x1,x2,x3,x4,x5,x6,x7,x8,x9,x10] t)).cell? ((⟨B,0,none⟩:Addr).add j)=some u:=by
 intro j u hj;subst hB;have e:(⟨w.heap.size,0,none⟩:Addr).add j=⟨w.heap.size,j,none⟩:=by unfold Addr.add;split<;>simp_all
 rw[e,QA (Qg _ _)];simpa using hj
theorem ZM (w:World) (x0 x1 x2 x3 x4 x5 x6 x7 x8 x9 x10:Value) (t:TypeId) (B:Nat) (hB:B=w.heap.size):∀j u,[x0,x1,x2,x3,x4,x5,x6,x7,x8,x9,x10][j]? =some u->(w.alloc (.cells #[x0,x1,x2,x3,x4,x5,x6,x7,x8,x9,x10] t)).drew.cell? ((⟨B,0,none⟩:Addr).add j)=some u:=J6 w x0 x1 x2 x3 x4 x5 x6 x7 x8 x9 x10 t B hB
theorem MZ (L:List Sl) (k v:V):Q1 (L++[⟨k,v,false⟩])=Q1 L+1:=by
 unfold Q1;rw[List.filter_append,List.length_append];rfl
theorem KF (L:List Sl) (s:Sl):ZA (L++[s])=ZA L++ZP s:=by
 unfold ZA;rw[List.flatMap_append]
 congr 1
theorem Gv {w3 w4:World} {m g rb cap:Nat} {sv0:Value} {L:List Sl} {f:V->Option Nat} {k v:V}
  (hm4:w4.heap[m]? =some (.cells #[sv0,.map (some g),.int .i64 (Q1 L:Nat)] 159))
  (hown:w4.ownsRow 0 161 11 (.slice (some rb) (L.length+1) cap) (L.length+1) (ZA L++ZP ⟨k,v,false⟩))
  (hput:∃E',MapAt prog 25 w3 g E'/\Graph E' (Mv f k (some L.length))) (hg4:w4.heap[g]? =w3.heap[g]?) (hmg:m≠g) (hI:Idx L f) (hno:NoLive L f k) (hwf:∀s∈L,WfV s.k/\WfV s.v) (hk:WfV k) (hv:WfV v):
  OMap ((w4.setCell m (.slice (some rb) (L.length+1) cap)).setCell ⟨m,2,none⟩ (.int .i64 ((Q1 L:Nat)+1))) m g (.slice (some rb) (L.length+1) cap) (L++[⟨k,v,false⟩]):=by
 have hrm:rb≠m:=fun e=>mrb hm4 hown e.symm;obtain⟨E',h1,h2⟩:=hput;refine⟨?_,?_,?_,E',_,h1.keep ?_,h2,hI.push hno⟩
 ·have:=Ql (Ql hm4 0 (.slice (some rb) (L.length+1) cap)) 2 (.int .i64 ((Q1 L:Nat)+1));rw[MZ];exact this
 ·rw[KF,List.length_append];refine Qb hown fun b hb=> ?_;have hb:some rb=some b:=hb;injection hb with hb;subst hb;rw[Below.heap_setCell _ _ _ _ hrm,Below.heap_setCell _ _ _ _ hrm]
 ·intro s hs;rcases List.mem_append.1 hs with h|h
  ·exact hwf s h
  ·rw[List.mem_singleton] at h;subst h;exact⟨hk,hv⟩
 ·rw[Below.heap_setCell _ _ _ _ (fun e=>hmg e.symm),Below.heap_setCell _ _ _ _ (fun e=>hmg e.symm),hg4]
theorem Gw {w w2 w3 w3a w4:World} {F:Nat->Prop} {m g:Nat} {o:Option Nat} {u x:Value} (h2:Mods F w w2) (h3:Mods (· =g) w2 w3) (h3a:Below w3 w3 w3a) (h4:w3a.grownBy w4 o) (hm:F m) (hg:F g) (ho:∀b,o=some b->F b\/w.heap.size<=b):
  Mods F w ((w4.setCell m u).setCell ⟨m,2,none⟩ x):=by
 have a:Mods F w w3a:=(h2.trans (h3.mono (fun k _ e=>by rw[e];exact hg))).trans (Mods.of_below h3a);have hz:=a.size;have b:Mods F w w4:=⟨h4.os.trans a.os,h4.tape.trans a.tape,h4.output.trans a.output,Nat.le_trans hz h4.size,fun k hk hF=>(h4.block k (Nat.lt_of_lt_of_le hk hz) (fun e=>by
  rcases ho k e.symm with h|h
  ·exact hF h
  ·omega)).trans (a.block k hk hF)⟩
 exact QQ (QQ b (.inl hm) _) (.inl hm) _
def DropRel (w:World) (g:Nat) (L:List Sl) (f:V->Option Nat) (gg:Nat) (vl vi:Value) (wr:World):Prop:=
 ∃(i cap2:Nat) (so2:Option Addr),L.length-i=gg/\ .slice so2 (Qq (L.take i)).length cap2=vl/\ .int .i64 (i:Nat)=vi/\i<=L.length/\
  wr.ownsRow w.heap.size 161 11 (.slice so2 (Qq (L.take i)).length cap2) (Qq (L.take i)).length (ZA (Qq (L.take i)))/\
  (∃E,MapAt prog 25 wr g E/\Graph E (Kn L f i))/\Mods (· =g) w wr
def DropPost (w:World) (m g:Nat) (L:List Sl) (f:V->Option Nat) (e:Ending) (w':World):Prop:=
 e= .returned (.tuple #[])/\∃(so:Option Addr) (cap:Nat),w'.heap[m]? =some (.cells #[.slice so (Qq L).length cap,.map (some g),.int .i64 (Q1 L:Nat)] 159)/\
  w'.ownsRow w.heap.size 161 11 (.slice so (Qq L).length cap) (Qq L).length (ZA (Qq L))/\(∃E,MapAt prog 25 w' g E/\Graph E (Kn L f L.length))/\Mods (fun b=>b=m\/b=g) w w'
theorem Zb {w:World} {base:Nat} {e:TypeId} {size:Nat} {v:Value} {n:Nat} {xs:List Value} (ho:w.ownsRow base e size v n xs):∃so cap,v= .slice so n cap:=by
 rcases ho.2 with⟨h1,h2,_⟩|⟨g',cap',cur,h2,_⟩
 ·first
  |exact⟨none,0,by rw[h1];simp_all⟩
  |(subst h1;exact⟨none,0,by simp_all⟩)
 ·exact⟨_,_,h2⟩
theorem MX {w:World} {g:Nat} {E:List (Value×Value)} {f:V->Option Nat} (hE:MapAt prog 25 w g E) (hG:Graph E f) {k:V} (hk:WfV k) (W:World) (hW:W.heap[g]? =w.heap[g]?):
  (Instr.lookup 157 (.map (some g)) k.v false).run prog W= .ok (.int .i64 (((f k).getD 0:Nat):Int)) W:=by
 obtain⟨l,hl⟩:=Rg hk;have hz:(zeroValue 3).run prog W= .ok (.int .i64 0) W:=zeroValue3 W;rcases(hE.keep hW).look Py (e:=3) (t:=157) (by kernel_rfl) hz hl with⟨h1,h2⟩|⟨v,h1,h2⟩
 ·have:f k=none:=by
   cases hf:f k with
   |none=>rfl
   |some n=>exact absurd rfl (h1 _ ((hG _).2 ⟨k,n,rfl,hf⟩))
  rw[this];exact h2 false
 ·obtain⟨v2,n,h3,h4⟩:=(hG _).1 h1;simp only[Prod.mk.injEq] at h3;obtain⟨h5,rfl⟩:=h3;have:=V.v_inj h5;subst this;rw[h4];exact h2 false
def DelR (W:World) (g:Nat) (f:V->Option Nat) (k:V) (w':World):Prop:=(∃E',MapAt prog 25 w' g E'/\Graph E' (Mv f k none))/\Mods (· =g) W w'/\W.heap.size<=w'.heap.size
theorem Rc {w:World} {g:Nat} {E:List (Value×Value)} {f:V->Option Nat} (hE:MapAt prog 25 w g E) (hG:Graph E f) {k:V} (hk:WfV k) (ty:TypeId) (W:World) (hW:W.heap[g]? =w.heap[g]?):
  ∃w',(Builtin.delete_ #[157,25] ty #[.map (some g),k.v]).run prog W= .ok (.tuple #[]) w'/\DelR W g f k w':=by
 obtain⟨l,hl⟩:=Rg hk;obtain⟨w',E',h1,h2,h3,h4,h5⟩:=(hE.keep hW).drop Py (e:=3) (t:=157) (by kernel_rfl) hl ty;refine⟨w',h1,⟨E',h2,fun p=> ?_⟩,h3,Nat.le_of_eq h4.symm⟩;rw[h5,hG];constructor
 ·rintro⟨⟨v,j,rfl,hv⟩,hne⟩;exact⟨v,j,rfl,by rw[Zx (fun e=>hne (by rw[e]))];exact hv⟩
 ·rintro⟨v,j,rfl,hv⟩;by_cases hvk:v=k
  ·subst hvk;rw[JZ] at hv;cases hv
  ·rw[Zx hvk] at hv;exact⟨⟨v,j,rfl,hv⟩,fun e=>hvk (V.v_inj e)⟩
theorem O3 {f:V->Option Nat} {k:V} (h:f k=none):Mv f k none=f:=by
 funext y
 by_cases hy:y=k
 ·subst hy;rw[JZ,h]
 ·exact Zx hy
theorem Cz {L:List Sl} {f:V->Option Nat} (h:Idx L f) {i:Nat} {s:Sl} (hi:L[i]? =some s) (hg:s.g=true) (ht:(Kn L f i s.k).getD 0=i):Kn L f (i+1)=Mv (Kn L f i) s.k none:=by
 rw[Px h hi hg];split
 ·rfl
 ·rename_i hne
  cases hx:Kn L f i s.k with
  |none=>rw[O3 hx]
  |some j=>
   rw[hx] at ht hne;exact absurd (congrArg some ht) hne
theorem Sj {L:List Sl} {f:V->Option Nat} (h:Idx L f) {i:Nat} {s:Sl} (hi:L[i]? =some s) (hg:s.g=true) (ht:(Kn L f i s.k).getD 0≠i):Kn L f (i+1)=Kn L f i:=by
 rw[Px h hi hg];split
 ·rename_i he
  rw[he] at ht;exact absurd rfl ht
 ·rfl
theorem YE {L:List Sl} {i:Nat} {s:Sl} (hi:L[i]? =some s) (hg:s.g=true):Qq (L.take (i+1))=Qq (L.take i):=by
 rw[Z7 hi,hg];rfl
theorem Xq {L:List Sl} {i:Nat} {s:Sl} (hi:L[i]? =some s) (hg:s.g=false):Qq (L.take (i+1))=Qq (L.take i)++[s]:=by
 rw[Z7 hi,hg];rfl
theorem Ki (L:List Sl):(Qq L).length<=L.length:=List.length_filter_le _ _
theorem PV {W:World} {B:Nat} {L:List Sl} {i:Nat} {so2:Option Addr} {cap2:Nat} (h:W.ownsRow B 161 11 (.slice so2 (Qq (L.take i)).length cap2) (Qq (L.take i)).length (ZA (Qq (L.take i)))) {j:Nat} (e:Qq (L.take j)=Qq (L.take i)):
  W.ownsRow B 161 11 (.slice so2 (Qq (L.take j)).length cap2) (Qq (L.take j)).length (ZA (Qq (L.take j))):=by rw[e];exact h
theorem GE (s:Sl) (L:List Sl):Q1 (s::L)=(if s.g then 0 else 1)+Q1 L:=by
 unfold Q1;cases hg:s.g<;>simp[hg]<;>omega
theorem G7:∀(L:List Sl) (n:Nat) (s x:Sl),L[n]? =some s->s.g=false->Q1 (L.set n x)=Q1 L-(if x.g then 1 else 0)/\1<=Q1 L
 |[],n,s,x,h,_=>by simp at h
 |a::L,0,s,x,h,hg=>by
  rw[List.getElem?_cons_zero] at h;injection h with h;subst h;rw[List.set_cons_zero,GE,GE,hg];cases x.g<;>simp
 |a::L,n+1,s,x,h,hg=>by
  rw[List.getElem?_cons_succ] at h;obtain⟨h1,h2⟩:=G7 L n s x h hg;rw[List.set_cons_succ,GE,GE,h1];cases x.g<;>simp<;>omega
theorem BJ {L:List Sl} (h:∀s∈L,WfV s.k/\WfV s.v) (n:Nat) {x:Sl} (hx:WfV x.k/\WfV x.v):∀s∈L.set n x,WfV s.k/\WfV s.v:=by
 intro s hs;rcases List.mem_or_eq_of_mem_set hs with h1|h1
 ·exact h s h1
 ·rw[h1];exact hx
theorem Yf:WfV V.nil:=⟨⟨by decide,by decide⟩,⟨by decide,by decide⟩,⟨by decide,by decide⟩,by decide,⟨by decide,by decide⟩⟩
theorem Zy {w w':World} {m g:Nat} {sv:Value} {L:List Sl} (h:OMap w m g sv L) (hb:Below w w w'):OMap w' m g sv L:=
 h.keep (hb.block _ (Array.getElem?_eq_some_iff.1 h.hm).1) (by obtain⟨E,f,hE,_⟩:=h.map;exact hb.block _ hE.lt) (fun b e=>hb.block _ (QS h.row e).2)
theorem Al {w w':World} {m g:Nat} {sv:Value} {L:List Sl} {e:Ending} (h:OMap w m g sv L) (he:e= .returned (.int .i64 0)) (hb:Below w w w'):OmPost w m g sv L e w':=
 ⟨he,sv,Zy h hb,Mods.of_below hb,fun _ h=> .inl h⟩
theorem Am {w w2:World} {m g rb cap n:Nat} {L:List Sl} {sl:Sl} {k:V} {f:V->Option Nat} {E:List (Value×Value)}
  (hm:w.heap[m]? =some (.cells #[.slice (some rb) L.length cap,.map (some g),.int .i64 (Q1 L:Nat)] 159)) (hrow:w.ownsRow 0 161 11 (.slice (some rb) L.length cap) L.length (ZA L))
  (hwf:∀s∈L,WfV s.k/\WfV s.v) (hE:MapAt prog 25 w g E) (hG:Graph E f) (hI:Idx L f) (hf:f k=some n) (hs:L[n]? =some sl) (hg:sl.g=false) (hk:WfV k) (hb:Below w w w2):
  OmPost w m g (.slice (some rb) L.length cap) (L.set n ⟨k,V.nil,true⟩) (.returned (.int .i64 0)) ((setCells w2 rb (n*11) (ZP ⟨k,V.nil,true⟩)).setCell ⟨m,2,none⟩ (.int .i64 ((Q1 L:Nat)-1:Int))):=by
 have hn:n<L.length:=(List.getElem?_eq_some_iff.1 hs).1;have hmr:m≠rb:=fun e=>mrb hm hrow e;have hgr:g≠rb:=by obtain⟨es,c,hh,_⟩:=id hE;exact fun e=>GO hrow hh rb rfl e.symm
 have hgm:g≠m:=by obtain⟨es,c,hh,_⟩:=id hE;intro e;rw[e,hm] at hh;cases hh
 have hml:=(Array.getElem?_eq_some_iff.1 hm).1;obtain⟨l1,l2⟩:=G7 L n sl ⟨k,V.nil,true⟩ hs hg;have hm2:(setCells w2 rb (n*11) (ZP ⟨k,V.nil,true⟩)).heap[m]? =some (.cells #[.slice (some rb) L.length cap,.map (some g),.int .i64 (Q1 L:Nat)] 159):=by
  rw[ZS hmr];exact QL hb hm
 refine⟨rfl,_,⟨?_,?_,BJ hwf n ⟨hk,Yf⟩,E,f,hE.keep ?_,hG,hI.remove hf⟩,?_,fun _ h=> .inl h⟩
 ·rw[Ql hm2 2 (.int .i64 ((Q1 L:Nat)-1:Int)),l1];have:(((Q1 L-(if (⟨k,V.nil,true⟩:Sl).g=true then 1 else 0):Nat)):Int)=(Q1 L:Nat)-1:=by
   show(((Q1 L-1:Nat)):Int)=_;omega
  rw[this];rfl
 ·have h3:=ZG (ZP ⟨k,V.nil,true⟩) w2 (ZA L) (n*11) (QR (QV hb zl) hrow);rw[XR hn] at h3;rw[List.length_set];exact Qb h3 (fun b hb=>Below.heap_setCell _ _ _ _ (by injection hb with hb;subst hb;exact fun e=>hmr e.symm))
 ·rw[Below.heap_setCell _ _ _ _ hgm,ZS hgr];exact hb.block _ hE.lt
 ·exact QQ (Zd (.inl (.inr (.inr rfl))) _ _ _ (Mods.of_below hb)) (.inl (.inl rfl)) _
theorem Cd {w w2:World} {m g rb cap n:Nat} {L:List Sl} {sl:Sl} {k v:V} {f:V->Option Nat} {E:List (Value×Value)}
  (hm:w.heap[m]? =some (.cells #[.slice (some rb) L.length cap,.map (some g),.int .i64 (Q1 L:Nat)] 159)) (hrow:w.ownsRow 0 161 11 (.slice (some rb) L.length cap) L.length (ZA L))
  (hwf:∀s∈L,WfV s.k/\WfV s.v) (hE:MapAt prog 25 w g E) (hG:Graph E f) (hI:Idx L f) (hf:f k=some n) (hs:L[n]? =some sl) (hg:sl.g=false) (hk:WfV k) (hv:WfV v) (hb:Below w w w2):
  OmPost w m g (.slice (some rb) L.length cap) (L.set n ⟨k,v,false⟩) (.returned (.int .i64 0)) (setCells w2 rb (n*11+5) (ZC v)):=by
 have hn:n<L.length:=(List.getElem?_eq_some_iff.1 hs).1;have hmr:m≠rb:=fun e=>mrb hm hrow e;have hgr:g≠rb:=by obtain⟨es,c,hh,_⟩:=id hE;exact fun e=>GO hrow hh rb rfl e.symm
 have hsk:sl.k=k:=by
  obtain⟨s',h1,h2⟩:=hI.key k n hf;rw[hs] at h1;injection h1 with h1;subst h1;exact h2
 obtain⟨l1,l2⟩:=G7 L n sl ⟨k,v,false⟩ hs hg;refine⟨rfl,_,⟨?_,?_,BJ hwf n ⟨hk,hv⟩,E,f,hE.keep ?_,hG,hI.write hf⟩,?_,fun _ h=> .inl h⟩
 ·rw[ZS hmr,l1];exact QL hb hm
 ·have h3:=ZG (ZC v) w2 (ZA L) (n*11+5) (QR (QV hb zl) hrow);rw[Yj hs,hsk,hg] at h3;rw[List.length_set];exact h3
 ·rw[ZS hgr];exact hb.block _ hE.lt
 ·exact Zd (.inl (.inr (.inr rfl))) _ _ _ (Mods.of_below hb)
def TMods (S:Obj->Prop) (w w':World):Prop:=Mods (fun b=>∃o,w.heap[b]? =some o/\S o) w w'
theorem TMods.of_below {S:Obj->Prop} {w w':World} (h:Below w w w'):TMods S w w':=Mods.of_below h
theorem TMods.refl (S:Obj->Prop) (w:World):TMods S w w:=Mods.refl _ _
theorem TMods.trans {S:Obj->Prop} {a b c:World} (h:TMods S a b) (k:TMods S b c):TMods S a c:=by
 refine⟨k.os.trans h.os,k.tape.trans h.tape,k.output.trans h.output,Nat.le_trans h.size k.size,fun i hi hF=> ?_⟩;have h1:=h.block i hi hF;exact(k.block i (Nat.lt_of_lt_of_le hi h.size) (fun⟨o,h2,h3⟩=>hF ⟨o,h1▸h2,h3⟩)).trans h1
theorem TMods.drew {S:Obj->Prop} {a b:World} (h:TMods S a b):TMods S a b.drew:=h.trans (TMods.of_below (Below.refl _ _).drew)
theorem TMods.alloc {S:Obj->Prop} {a b:World} (h:TMods S a b) (o:Obj):TMods S a (b.alloc o):=h.trans (TMods.of_below ((Below.refl _ _).alloc zl o))
theorem TMods.keep {S:Obj->Prop} {w w':World} (h:TMods S w w') {b:Nat} {o:Obj} (hb:w.heap[b]? =some o) (hS:¬S o):w'.heap[b]? =some o:=
 (h.block b (Array.getElem?_eq_some_iff.1 hb).1 (fun⟨o2,h1,h2⟩=>hS (by rw[hb] at h1;injection h1 with h1;rw[h1];exact h2))).trans hb
theorem TMods.setCell {S:Obj->Prop} {a b:World} (h:TMods S a b) {k o:Nat} (hk:a<=k\/∃x,a.heap[k]? =some x/\S x) (u:Value):TMods S a (b.setCell ⟨k,o,none⟩ u):=QQ h hk.symm u
def PB:Obj->Prop
 | .map _ _=>True
 | .cells _ t _=>t=159\/t=161\/t=136\/t=104\/t=89
 |_=>False
theorem Qd {w:World} {base e size n:Nat} {sv:Value} {xs:List Value} (h:w.ownsRow base e size sv n xs) {b:Nat} (hb:sv.ownBlock=some b):∃cs,w.heap[b]? =some (.cells cs e (0,0)):=by
 rcases h.2 with⟨h2,_⟩|⟨g',cap',cur,h2,h3,h4,_⟩
 ·rw[h2] at hb;cases hb
 ·rw[h2] at hb;injection hb with hb;subst hb;exact⟨_,h4⟩
structure TabAt (w:World) (t m g:Nat) (sv:Value) (L:List Sl):Prop where
 ht:w.heap[t]? =some (.cells #[.slice none 0 0,m] 136)
 om:OMap w m g sv L
theorem Jo {s:ByteArray} (h:s.size<=4096):Qt (KR s)=true:=by
 unfold Qt KR Xh;simp[h]
theorem i64_lit:i64 0/\i64 3:=⟨⟨by decide,by decide⟩,⟨by decide,by decide⟩⟩
theorem BH {s:ByteArray} (h:s.size<=4096):WfV (KR s):=⟨i64_lit.2,i64_lit.1,i64_lit.1,by show s.size<=maxLen;unfold maxLen;omega,i64_lit.1⟩
def IntBool (w:World) (n:Int) (b:Bool) (e:Ending) (w':World):Prop:=e= .returned (.tuple #[.int .i64 n,.bool b])/\Below w w w'
theorem Bk {w:World} {t m g:Nat} {sv:Value} {L:List Sl} (h:TabAt w t m g sv L):¬OmF m g sv t:=by
 have ht:=h.ht;rintro(h1|h1|h1)
 ·have:=h.om.hm;rw[<-h1,ht] at this;injection this with this;injection this with h2 h3;cases h3
 ·obtain⟨E,f,⟨es,c,hE,_⟩,_⟩:=h.om.map;rw[<-h1,ht] at hE;cases hE
 ·obtain⟨cs,hc⟩:=Qd h.om.row h1;rw[ht] at hc;injection hc with hc;injection hc with h2 h3;cases h3
theorem TabAt.keep {w w':World} {t m g:Nat} {sv:Value} {L:List Sl} (h:TabAt w t m g sv L) (h0:w'.heap[t]? =w.heap[t]?) (h1:w'.heap[m]? =w.heap[m]?) (h2:w'.heap[g]? =w.heap[g]?) (h3:∀b,sv.ownBlock=some b->w'.heap[b]? =w.heap[b]?):TabAt w' t m g sv L:=
 ⟨h0.trans h.ht,h.om.keep h1 h2 h3⟩
theorem TabAt.below {w w':World} {t m g:Nat} {sv:Value} {L:List Sl} (h:TabAt w t m g sv L) (hb:Below w w w'):TabAt w' t m g sv L:=⟨QL hb h.ht,Zy h.om hb⟩
def TabPost (w:World) (t m g:Nat) (sv:Value) (L':List Sl) (e:Ending) (w':World):Prop:=
 e= .returned (.int .i64 0)/\∃sv',TabAt w' t m g sv' L'/\Mods (OmF m g sv) w w'/\∀b,sv'.ownBlock=some b->sv.ownBlock=some b\/w.heap.size<=b
structure LO where
 kind:Int
 mt:V
 L:List Sl
abbrev LH:=List LO
def Ev (H:LH) (v:V):Option LO:=
 if 1<=v.r then(match H[v.r.toNat-1]? with|some o=>if o.kind=v.k then some o else none|none=>none) else none
def UP (H:LH) (t:V) (s:ByteArray):VR:=
 match Ev H t with
 |some o=>if o.kind=4 then .ok (FQ o.L (KR s)) else .error 8
 |none=> .error 8
def Jt (H:LH) (v:V):V:=match Ev H v with|some o=>o.mt|none=>V.nil
def ZN (H:LH) (v:V) (s:ByteArray):V:=vV (UP H (Jt H v) s)
structure PO where
 kind:Int
 tag:Int
 name:ByteArray
 mt:V
 vals:Value
 o:Nat
 t:Nat
 m:Nat
 g:Nat
 sv:Value
 L:List Sl
def PO.lo (x:PO):LO:=⟨x.kind,x.mt,if x.kind=4 then x.L else[]⟩
def PO.tabv (x:PO):Value:=if x.kind=4 then .pointer (some x.t) else .pointer none
abbrev PO.cells (x:PO):Array Value:=#[.int .i64 x.kind,.int .i64 x.tag,.string x.name,x.tabv,.int .i64 x.mt.k,.int .i64 x.mt.p,.int .i64 x.mt.q,.string x.mt.s,.int .i64 x.mt.r,x.vals]
structure PObj (w:World) (x:PO):Prop where
 ho:w.heap[x.o]? =some (.cells x.cells 104)
 kd:x.kind=4\/x.kind=5\/x.kind=8
 wm:WfV x.mt
 fm:x.kind=5->x.mt=V.nil/\x.vals= .slice none 0 0
 tb:x.kind=4->TabAt w x.t x.m x.g x.sv x.L
def PSep (x y:PO):Prop:=x.o≠y.o/\(x.kind=4->y.kind=4->x.m≠y.m/\x.g≠y.g/\∀b,x.sv.ownBlock=some b->y.sv.ownBlock≠some b)
def Xx (H:List PO):List (Value×Value):=H.mapIdx fun i x=>(.int .i64 ((i+1:Nat):Int),.pointer (some ⟨x.o,0,none⟩))
structure HpAt (w:World) (h bo bt:Nat) (H:List PO):Prop where
 hh:w.heap[h]? =some (.cells #[.map (some bo),.int .i64 (H.length:Nat),.map (some bt)] 89)
 objs:MapAt prog 3 w bo (Xx H)
 touched:∃E,MapAt prog 3 w bt E
 one:∀x∈H,PObj w x
 sep:H.Pairwise PSep
 ot:bo≠bt
 gs:∀x∈H,x.kind=4->x.g≠bo/\x.g≠bt
def lh (H:List PO):LH:=H.map PO.lo
def Small (n:Nat) (H:List PO):Prop:=∀x∈H,x.L.length<=n
def KO (H:List PO) (v:V):Option PO:=
 if 1<=v.r then(match H[v.r.toNat-1]? with|some o=>if o.kind=v.k then some o else none|none=>none) else none
theorem JJ (H:List PO) (v:V):Ev (lh H) v=(KO H v).map PO.lo:=by
 unfold Ev KO lh;by_cases h:1<=v.r
 ·rw[if_pos h,if_pos h,List.getElem?_map];cases H[v.r.toNat-1]? with
  |none=>rfl
  |some o=>
   show(if o.lo.kind=v.k then some o.lo else none)=(if o.kind=v.k then some o else none).map PO.lo;by_cases hk:o.kind=v.k
   ·rw[if_pos hk];rw[if_pos (show o.lo.kind=v.k from hk)];rfl
   ·rw[if_neg hk];rw[if_neg (show¬o.lo.kind=v.k from hk)];rfl
 ·rw[if_neg h,if_neg h];rfl
theorem K1 {H:List PO} {v:V} {x:PO} (h:KO H v=some x):∃i,H[i]? =some x/\x.kind=v.k/\v.r=((i+1:Nat):Int)/\x∈H:=by
 unfold KO at h;split at h
 ·rename_i h1
  cases ho:H[v.r.toNat-1]? with
  |none=>rw[ho] at h;cases h
  |some o=>
   rw[ho] at h;simp only at h;split at h
   ·rename_i hk
    injection h with h;subst h;exact⟨_,ho,hk,by omega,List.mem_of_getElem? ho⟩
   ·cases h
 ·cases h
theorem Ps (H:List PO):(Xx H).length=H.length:=by unfold Xx;rw[List.length_mapIdx]
theorem G1 (H:List PO) (i:Nat):(Xx H)[i]? =(H[i]?).map fun x=>(.int .i64 ((i+1:Nat):Int),.pointer (some ⟨x.o,0,none⟩)):=by
 unfold Xx;rw[List.getElem?_mapIdx]
theorem objE_mem {H:List PO} {p:Value×Value}:p∈Xx H↔∃i x,H[i]? =some x/\p=(.int .i64 ((i+1:Nat):Int),.pointer (some ⟨x.o,0,none⟩)):=by
 constructor
 ·intro hp;obtain⟨i,hi⟩:=List.getElem?_of_mem hp;rw[G1] at hi;cases hx:H[i]? with
  |none=>rw[hx] at hi;cases hi
  |some x=>rw[hx] at hi;injection hi with hi;exact⟨i,x,hx,hi.symm⟩
 ·rintro⟨i,x,hx,rfl⟩;refine List.mem_of_getElem? (i:=i) ?_;rw[G1,hx];rfl
def Gb (H:List PO) (r:Int):Option PO:=if 1<=r then H[r.toNat-1]? else none
def SK:Option PO->Value
 |some x=> .pointer (some ⟨x.o,0,none⟩)
 |none=> .pointer none
theorem Su (w:World):(zeroValue 94).run prog w= .ok (.pointer none) w:=zeroValue94 w
theorem Ej {w:World} {bo:Nat} {H:List PO} (hE:MapAt prog 3 w bo (Xx H)) {r:Int} (hr:i64 r) (W:World) (hW:W.heap[bo]? =w.heap[bo]?):
  (Instr.lookup 86 (.map (some bo)) (.int .i64 r) false).run prog W= .ok (SK (Gb H r)) W:=by
 obtain⟨l,hl⟩:=RW hr;rcases(hE.keep hW).look FK (e:=94) (t:=86) (by kernel_rfl) (Su W) hl with⟨h1,h2⟩|⟨v,h1,h2⟩
 ·have:Gb H r=none:=by
   unfold Gb;split
   ·rename_i h
    cases ho:H[r.toNat-1]? with
    |none=>rfl
    |some x=>
     refine absurd ?_ (h1 _ (objE_mem.2 ⟨_,x,ho,rfl⟩));show Value.int .i64 _=Value.int .i64 _
     congr 1
     omega
   ·rfl
  rw[this];exact h2 false
 ·obtain⟨i,x,hx,he⟩:=objE_mem.1 h1;simp only[Prod.mk.injEq,Value.int.injEq,true_and] at he;obtain⟨rfl,rfl⟩:=he;have:Gb H ((i+1:Nat):Int)=some x:=by
   unfold Gb;rw[if_pos (by omega),show((i+1:Nat):Int).toNat-1=i by omega,hx]
  rw[this];exact h2 false
def PtrPost (w:World) (v:Value) (e:Ending) (w':World):Prop:=e= .returned v/\Below w w w'
theorem Qy (w:World) (o:Obj):(w.alloc o).heap[w.heap.size]? =some o:=Qg w o
theorem QI {w:World} {b:Nat} {x:Obj} (h:w.heap[b]? =some x) (o:Obj):(w.alloc o).heap[b]? =some x:=QL ((Below.refl _ _).alloc zl o) h
theorem Qf (w:World) (o:Obj):Below w w (w.alloc o):=(Below.refl _ _).alloc zl o
theorem HpAt.below {w w':World} {h bo bt:Nat} {H:List PO} (hH:HpAt w h bo bt H) (hb:Below w w w'):HpAt w' h bo bt H:=by
 obtain⟨a,b,⟨E,c⟩,d,e,f,g⟩:=hH;exact⟨QL hb a,b.keep (hb.block _ b.lt),⟨E,c.keep (hb.block _ c.lt)⟩,fun x hx=>⟨QL hb (d x hx).ho,(d x hx).kd,(d x hx).wm,(d x hx).fm,fun hk=>((d x hx).tb hk).below hb⟩,e,f,g⟩
theorem Mi {H:List PO} {v:V} (h:Gb H v.r=none):KO H v=none:=by
 unfold KO;unfold Gb at h;split
 ·rename_i h1;rw[if_pos h1] at h;rw[h]
 ·rfl
theorem Mh {H:List PO} {v:V} {x:PO} (h:Gb H v.r=some x):KO H v=if x.kind=v.k then some x else none:=by
 unfold KO;unfold Gb at h;split
 ·rename_i h1;rw[if_pos h1] at h;rw[h]
 ·rename_i h1;rw[if_neg h1] at h;cases h
theorem FJ {H:List PO} {r:Int} {x:PO} (h:Gb H r=some x):x∈H:=by
 unfold Gb at h;split at h
 ·exact List.mem_of_getElem? h
 ·cases h
def tabO:Option PO->Value
 |some x=>x.tabv
 |none=> .pointer none
end Go.Proofs.YthkpckgcgkijbaaGreatDoor
namespace Go.Proofs.YthkpckgcgkijbaaGreatDoor
open Go.Proofs.Tryz
def symL:List ByteArray:=[⟨#[]⟩,⟨#[43]⟩,⟨#[45]⟩,⟨#[42]⟩,⟨#[47]⟩,⟨#[47,47]⟩,⟨#[37]⟩,⟨#[94]⟩,⟨#[46,46]⟩,⟨#[38]⟩,⟨#[124]⟩,⟨#[126]⟩,⟨#[60,60]⟩,⟨#[62,62]⟩,⟨#[61,61]⟩,⟨#[126,61]⟩,⟨#[60]⟩,⟨#[60,61]⟩,⟨#[62]⟩,⟨#[62,61]⟩,⟨#[45]⟩,⟨#[110,111,116]⟩,⟨#[35]⟩,⟨#[126]⟩]
def evL:List ByteArray:=[⟨#[]⟩,⟨#[95,95,97,100,100]⟩,⟨#[95,95,115,117,98]⟩,⟨#[95,95,109,117,108]⟩,⟨#[95,95,100,105,118]⟩,⟨#[95,95,105,100,105,118]⟩,⟨#[95,95,109,111,100]⟩,⟨#[95,95,112,111,119]⟩,⟨#[95,95,99,111,110,99,97,116]⟩,⟨#[95,95,98,97,110,100]⟩,⟨#[95,95,98,111,114]⟩,⟨#[95,95,98,120,111,114]⟩,⟨#[95,95,115,104,108]⟩,⟨#[95,95,115,104,114]⟩,⟨#[95,95,101,113]⟩,⟨#[95,95,101,113]⟩,⟨#[95,95,108,116]⟩,⟨#[95,95,108,101]⟩,⟨#[95,95,108,116]⟩,⟨#[95,95,108,101]⟩,⟨#[95,95,117,110,109]⟩,⟨#[]⟩,⟨#[95,95,108,101,110]⟩,⟨#[95,95,98,110,111,116]⟩]
def Au (o:Int):ByteArray:=if 1<=o/\o<=23 then symL.getD o.toNat ⟨#[]⟩ else⟨#[]⟩
def Q6 (o:Int):ByteArray:=if 1<=o/\o<=23 then evL.getD o.toNat ⟨#[]⟩ else⟨#[]⟩
def Zg (k:Int):ByteArray:=
 if k=0 then⟨#[110,105,108]⟩ else if k=1 then⟨#[98,111,111,108,101,97,110]⟩ else if k=2 then⟨#[110,117,109,98,101,114]⟩ else if k=3 then⟨#[115,116,114,105,110,103]⟩ else if k=4 then⟨#[116,97,98,108,101]⟩
 else if k=5 then⟨#[102,117,110,99,116,105,111,110]⟩ else if k=6 then⟨#[102,117,110,99,116,105,111,110]⟩ else if k=7 then⟨#[116,104,114,101,97,100]⟩ else if k=8 then⟨#[117,115,101,114,100,97,116,97]⟩ else⟨#[]⟩
def Ko (v:V):Bool:=match ZW v with| .ok _=>true| .error _=>false
def Eo (v:V):Bool:=match JE v with| .ok _=>true| .error _=>false
abbrev sArith:ByteArray:=⟨#[97,116,116,101,109,112,116,32,116,111,32,112,101,114,102,111,114,109,32,97,114,105,116,104,109,101,116,105,99,32,111,110,32,97,32]⟩
abbrev sBitw:ByteArray:=⟨#[97,116,116,101,109,112,116,32,116,111,32,112,101,114,102,111,114,109,32,98,105,116,119,105,115,101,32,111,112,101,114,97,116,105,111,110,32,111,110,32,97,32]⟩
abbrev sConc:ByteArray:=⟨#[97,116,116,101,109,112,116,32,116,111,32,99,111,110,99,97,116,101,110,97,116,101,32,97,32]⟩
abbrev sNoInt:ByteArray:=⟨#[110,117,109,98,101,114,32,104,97,115,32,110,111,32,105,110,116,101,103,101,114,32,114,101,112,114,101,115,101,110,116,97,116,105,111,110]⟩
abbrev sTwo:ByteArray:=⟨#[97,116,116,101,109,112,116,32,116,111,32,99,111,109,112,97,114,101,32,116,119,111,32]⟩
abbrev sComp:ByteArray:=⟨#[97,116,116,101,109,112,116,32,116,111,32,99,111,109,112,97,114,101,32]⟩
abbrev sValue:ByteArray:=⟨#[32,118,97,108,117,101]⟩
abbrev sValues:ByteArray:=⟨#[32,118,97,108,117,101,115]⟩
abbrev sWith:ByteArray:=⟨#[32,119,105,116,104,32]⟩
abbrev sBad:ByteArray:=⟨#[98,97,100,32,97,114,103,117,109,101,110,116]⟩
abbrev sZero:ByteArray:=⟨#[100,105,118,105,115,105,111,110,32,98,121,32,122,101,114,111]⟩
abbrev sRange:ByteArray:=⟨#[110,117,109,98,101,114,32,111,117,116,32,111,102,32,114,97,110,103,101]⟩
abbrev sLong:ByteArray:=⟨#[115,116,114,105,110,103,32,116,111,111,32,108,111,110,103]⟩
abbrev sLenOf:ByteArray:=⟨#[97,116,116,101,109,112,116,32,116,111,32,103,101,116,32,108,101,110,103,116,104,32,111,102,32,97,32]⟩
def XH (o:Int) (a b:V):ByteArray:=
 if (1<=o/\o<=7)\/o=20 then sArith++Zg (if Ko a then b.k else a.k)++sValue
 else if (9<=o/\o<=13)\/o=23 then(if Ko a&&Ko b then sNoInt else sBitw++Zg (if Ko a then b.k else a.k)++sValue)
 else if o=8 then sConc++Zg (if Eo a then b.k else a.k)++sValue
 else if QF (Zg a.k)=QF (Zg b.k) then sTwo++Zg a.k++sValues
 else sComp++Zg a.k++sWith++Zg b.k
structure Nd where
 k:Int
 v:V
 f:V
 args:List V
 after:Int
 s:ByteArray
def Zz (v:V):Nd:=⟨1,v,V.nil,[],0,⟨#[]⟩⟩
def ZZ (s:ByteArray):Nd:=⟨3,V.nil,V.nil,[],0,s⟩
def Zr (f:V) (args:List V) (after:Int):Nd:=⟨2,V.nil,f,args,after,⟨#[]⟩⟩
def Zs (hand:V->ByteArray->V) (s:ByteArray) (a b:V):V:=if (hand a s).k=0 then hand b s else hand a s
def ZL (hand:V->ByteArray->V) (o:Int) (R:VR) (a b:V):Nd:=
 match R with
 | .ok v=>Zz v
 | .error c=>if c=7 then ZZ sZero else if c=6 then ZZ sRange else if c=14 then ZZ sLong
   else if (Zs hand (Q6 o) a b).k=0 then ZZ (XH o a b) else Zr (Zs hand (Q6 o) a b) [a,b] (if o=16\/o=17 then 2 else 1)
def Xp (hand:V->ByteArray->V) (o:Int) (a b:V):Nd:=
 if eqV a b=true\/a.k≠b.k\/(a.k≠4/\a.k≠8) then Zz (JK (eqV a b==decide (o=14)))
 else if (Zs hand (Q6 o) a b).k=0 then Zz (JK (eqV a b==decide (o=14)))
 else Zr (Zs hand (Q6 o) a b) [a,b] (if o=15 then 3 else 2)
def ZY (hand:V->ByteArray->V) (o:Int) (a b:V):Nd:=
 if ¬(1<=o/\o<=19)\/Qt a=false\/Qt b=false then ZZ sBad
 else if o=18 then ZL hand 16 (Ze 16 b a) b a
 else if o=19 then ZL hand 17 (Ze 17 b a) b a
 else if o=14\/o=15 then Xp hand o a b
 else ZL hand o (Ze o a b) a b
def RV (hand:V->ByteArray->V) (a:V):Nd:=
 if a.k=3 then Zz (Xl (a.s.size:Int))
 else if (hand a (Q6 22)).k≠0 then Zr (hand a (Q6 22)) [a,a] 1
 else if a.k=4 then Zz (Xl 0)
 else ZZ (sLenOf++Zg a.k++sValue)
def Kl (hand:V->ByteArray->V) (o:Int) (a:V):Nd:=
 if ¬(20<=o/\o<=23)\/Qt a=false then ZZ sBad
 else if o=22 then RV hand a
 else ZL hand o (Ze o a V.nil) a a
def E1 (H:LH) (v:V):Bool:=match Ev H v with|some o=>o.kind==4|none=>false
def Zc (H:LH) (v m:V):LH:=
 match Ev H v with
 |some o=>if (o.kind=4\/o.kind=8)/\(eqV m V.nil=true\/E1 H m=true) then H.set (v.r.toNat-1) ⟨o.kind,m,o.L⟩ else H
 |none=>H
def Fm (H:LH) (t:V) (s:ByteArray) (v:V):LH:=
 match Ev H t with
 |some o=>if o.kind=4/\s.size<=4096/\Qt v=true then H.set (t.r.toNat-1) ⟨o.kind,o.mt,Yu o.L (KR s) v⟩ else H
 |none=>H
structure Fd where
 kind:Int
 t:Int
 m:Int
 name:ByteArray
 val:V
def KB (T D:Int) (i:Int):V:=⟨if i<=T then 4 else if i<=T+D then 8 else 5,0,0,⟨#[]⟩,i⟩
def Ja (T D:Int) (H:LH) (f:Fd):LH:=if f.kind=1 then Zc H (KB T D f.t) (KB T D f.m) else Fm H (KB T D f.t) f.name f.val
def GN (T D F:Nat):LH:=List.replicate T ⟨4,V.nil,[]⟩++List.replicate D ⟨8,V.nil,[]⟩++List.replicate F ⟨5,V.nil,[]⟩
def JN (T D F:Nat) (fs:List Fd):LH:=fs.foldl (Ja T D) (GN T D F)
theorem PE (L:List Sl) (k v:V):(Yu L k v).length<=L.length+1:=by
 unfold Yu;split
 ·split<;>rw[List.length_set]<;>omega
 ·split
  ·omega
  ·rw[List.length_append];have:(UC L).length<=L.length:=by
    unfold UC;split
    ·exact List.length_filter_le _ _
    ·exact Nat.le_refl _
   simp;omega
end Go.Proofs.YthkpckgcgkijbaaGreatDoor
namespace Go.Proofs.YthkpckgcgkijbaaGreatDoor
open Go.RowKit Go.Proofs.Lexi Go.Proofs.Tryz
theorem pw_iff {α:Type} {R:α->α->Prop} {l:List α}:l.Pairwise R↔∀(a b:Nat) (x y:α),a<b->l[a]? =some x->l[b]? =some y->R x y:=by
 rw[List.pairwise_iff_getElem];constructor
 ·intro h a b x y hab ha hb;obtain⟨h1,h2⟩:=List.getElem?_eq_some_iff.1 ha;obtain⟨h3,h4⟩:=List.getElem?_eq_some_iff.1 hb;rw[<-h2,<-h4];exact h a b h1 h3 hab
 ·intro h a b ha hb hab;exact h a b _ _ hab (List.getElem?_eq_getElem ha) (List.getElem?_eq_getElem hb)
theorem PSep.symm {x y:PO} (h:PSep x y):PSep y x:=by
 obtain⟨h1,h2⟩:=h;refine⟨fun e=>h1 e.symm,fun a b=> ?_⟩;obtain⟨h3,h4,h5⟩:=h2 b a;exact⟨fun e=>h3 e.symm,fun e=>h4 e.symm,fun c hc hd=>h5 c hd hc⟩
theorem PF {H:List PO} (hs:H.Pairwise PSep) {i j:Nat} {x y:PO} (hi:H[i]? =some x) (hj:H[j]? =some y) (hij:i≠j):PSep x y:=by
 rcases Nat.lt_or_gt_of_ne hij with h|h
 ·exact pw_iff.1 hs i j x y h hi hj
 ·exact(pw_iff.1 hs j i y x h hj hi).symm
theorem QW {w:World} {a b:Nat} {ca cb:Array Value} {ta tb:TypeId} {fa fb:Nat×Nat} (ha:w.heap[a]? =some (.cells ca ta fa)) (hb:w.heap[b]? =some (.cells cb tb fb)) (hne:ta≠tb):a≠b:=by
 rintro rfl;rw[ha] at hb;injection hb with hb;injection hb with _ h2;exact hne h2
theorem Jf {w:World} {a b:Nat} {ca:Array Value} {ta:TypeId} {fa:Nat×Nat} {es:Array MapEntry} {c:Nat} (ha:w.heap[a]? =some (.cells ca ta fa)) (hb:w.heap[b]? =some (.map es c)):a≠b:=by
 rintro rfl;rw[ha] at hb;cases hb
theorem MapAt.obj {P:Program} {k:TypeId} {w:World} {b:Nat} {E:List (Value×Value)} (h:MapAt P k w b E):∃es c,w.heap[b]? =some (.map es c):=by
 obtain⟨es,c,hb,_⟩:=h;exact⟨es,c,hb⟩
def HpF (h bo bt:Nat) (H:List PO) (b:Nat):Prop:=b=h\/b=bo\/b=bt\/∃x∈H,b=x.o\/(x.kind=4/\(b=x.t\/OmF x.m x.g x.sv b))
theorem SZ {w:World} {m g:Nat} {sv:Value} {L:List Sl} (h:OMap w m g sv L) {b:Nat} {cs:Array Value} {t:TypeId} {fz:Nat×Nat} (hb:w.heap[b]? =some (.cells cs t fz)) (h1:t≠159) (h2:t≠161):¬OmF m g sv b:=by
 rintro(e|e|e)
 ·exact QW hb h.hm h1 e
 ·obtain⟨E,f,hE,_⟩:=h.map;obtain⟨es,c,hg⟩:=hE.obj;exact Jf hb hg e
 ·obtain⟨c2,hc⟩:=Qd h.row e;exact QW hb hc h2 rfl
theorem Xg {w:World} {m g:Nat} {sv:Value} {L:List Sl} (h:OMap w m g sv L) {b:Nat} {es:Array MapEntry} {c:Nat} (hb:w.heap[b]? =some (.map es c)) (h1:g≠b):¬OmF m g sv b:=by
 rintro(e|e|e)
 ·exact Jf h.hm hb e.symm
 ·exact h1 e.symm
 ·obtain⟨c2,hc⟩:=Qd h.row e;exact Jf hc hb rfl
theorem Mb {w:World} {h bo bt:Nat} {H:List PO} (hH:HpAt w h bo bt H) {b:Nat} (hb:HpF h bo bt H b):∃o,w.heap[b]? =some o/\PB o:=by
 rcases hb with rfl|rfl|rfl|⟨x,hx,rfl|⟨h4,rfl|hF⟩⟩
 ·exact⟨_,hH.hh,.inr (.inr (.inr (.inr rfl)))⟩
 ·obtain⟨es,c,h1⟩:=hH.objs.obj;exact⟨_,h1,trivial⟩
 ·obtain⟨E,hE⟩:=hH.touched;obtain⟨es,c,h1⟩:=hE.obj;exact⟨_,h1,trivial⟩
 ·exact⟨_,(hH.one x hx).ho,.inr (.inr (.inr (.inl rfl)))⟩
 ·exact⟨_,((hH.one x hx).tb h4).ht,.inr (.inr (.inl rfl))⟩
 ·have hO:=((hH.one x hx).tb h4).om;rcases hF with rfl|rfl|hF
  ·exact⟨_,hO.hm,.inl rfl⟩
  ·obtain⟨E,f,hE,_⟩:=hO.map;obtain⟨es,c,h1⟩:=hE.obj;exact⟨_,h1,trivial⟩
  ·obtain⟨cs,hc⟩:=Qd hO.row hF;exact⟨_,hc,.inr (.inl rfl)⟩
theorem LC {w:World} {h bo bt:Nat} {H:List PO} (hH:HpAt w h bo bt H) {b:Nat} (hb:HpF h bo bt H b):b<w:=by
 obtain⟨o,h1,_⟩:=Mb hH hb;exact(Array.getElem?_eq_some_iff.1 h1).1
theorem PObj.keep {w w':World} {x:PO} (h:PObj w x) (h1:w'.heap[x.o]? =w.heap[x.o]?) (h2:x.kind=4->∀b,(b=x.t\/OmF x.m x.g x.sv b)->w'.heap[b]? =w.heap[b]?):PObj w' x:=
 ⟨h1.trans h.ho,h.kd,h.wm,h.fm,fun h4=>(h.tb h4).keep (h2 h4 _ (.inl rfl)) (h2 h4 _ (.inr (.inl rfl))) (h2 h4 _ (.inr (.inr (.inl rfl)))) (fun b hb=>h2 h4 _ (.inr (.inr (.inr hb))))⟩
theorem HpAt.touch {w w':World} {h bo bt:Nat} {H:List PO} (hH:HpAt w h bo bt H) (hM:Mods (· =bt) w w') (ht:∃E,MapAt prog 3 w' bt E):HpAt w' h bo bt H:=by
 have hk:∀b,HpF h bo bt H b->b≠bt->w'.heap[b]? =w.heap[b]? :=fun b hb hne=>hM.block b (LC hH hb) hne;obtain⟨E,hE⟩:=hH.touched;obtain⟨es,c,hbt⟩:=hE.obj;refine⟨(hk h (.inl rfl) (Jf hH.hh hbt)).trans hH.hh,hH.objs.keep (hk _ (.inr (.inl rfl)) hH.ot),ht,fun x hx=> ?_,hH.sep,hH.ot,hH.gs⟩;refine(hH.one x hx).keep (hk _ (.inr (.inr (.inr ⟨x,hx,.inl rfl⟩))) (Jf (hH.one x hx).ho hbt)) (fun h4 b hb=>hk _ (.inr (.inr (.inr ⟨x,hx,.inr ⟨h4,hb⟩⟩))) ?_);rcases hb with rfl|hb
 ·exact Jf ((hH.one x hx).tb h4).ht hbt
 ·rintro rfl;exact Xg ((hH.one x hx).tb h4).om hbt (hH.gs x hx h4).2 hb
theorem Pr {H:List PO} {i:Nat} {x x':PO} (hi:H[i]? =some x) (ho:x'.o=x.o):Xx (H.set i x')=Xx H:=by
 apply List.ext_getElem?;intro j;rw[G1,G1,List.getElem?_set];split
 ·rename_i e
  subst e;rw[if_pos (List.getElem?_eq_some_iff.1 hi).1,hi,Option.map_some,Option.map_some,ho]
 ·rfl
theorem OI {H:List PO} (hs:H.Pairwise PSep) {i:Nat} {x x':PO} (hi:H[i]? =some x) (h:∀j y,H[j]? =some y->j≠i->PSep x' y):(H.set i x').Pairwise PSep:=by
 rw[pw_iff];intro a b y z hab ha hb;rw[List.getElem?_set] at ha hb;split at ha
 ·rename_i e
  subst e;rw[if_neg (by omega)] at hb;rw[if_pos (List.getElem?_eq_some_iff.1 hi).1] at ha;injection ha with ha;subst ha;exact h b z hb (by omega)
 ·split at hb
  ·rename_i e
   subst e;rw[if_pos (List.getElem?_eq_some_iff.1 hi).1] at hb;injection hb with hb;subst hb;exact(h a y ha (by omega)).symm
  ·exact pw_iff.1 hs a b y z hab ha hb
theorem JC {H:List PO} {i:Nat} {x' y:PO} (hy:y∈H.set i x'):y=x'\/∃j,j≠i/\H[j]? =some y:=by
 obtain⟨j,hj⟩:=List.getElem?_of_mem hy;rw[List.getElem?_set] at hj;split at hj
 ·rename_i e
  split at hj
  ·injection hj with hj;exact .inl hj.symm
  ·cases hj
 ·rename_i e
  exact .inr ⟨j,fun e2=>e e2.symm,hj⟩
theorem HpAt.setTab {w w':World} {h bo bt:Nat} {H:List PO} {i:Nat} {x:PO} {sv':Value} {L':List Sl} (hH:HpAt w h bo bt H) (hi:H[i]? =some x) (h4:x.kind=4) (hT:TabAt w' x.t x.m x.g sv' L')
  (hM:Mods (OmF x.m x.g x.sv) w w') (hown:∀b,sv'.ownBlock=some b->x.sv.ownBlock=some b\/w.heap.size<=b):HpAt w' h bo bt (H.set i {x with sv:=sv',L:=L'}):=by
 have hxm:=List.mem_of_getElem? hi;have hx:=hH.one x hxm;have hO:=(hx.tb h4).om;obtain⟨E,hE⟩:=hH.touched;obtain⟨es,c,hbt⟩:=hE.obj;obtain⟨es2,c2,hbo⟩:=hH.objs.obj;have kc:∀{b:Nat} {cs:Array Value} {t:TypeId} {fz:Nat×Nat},w.heap[b]? =some (.cells cs t fz)->t≠159->t≠161->w'.heap[b]? =w.heap[b]? :=fun hb h1 h2=>hM.block _ (Array.getElem?_eq_some_iff.1 hb).1 (SZ hO hb h1 h2);have km:∀{b:Nat} {es:Array MapEntry} {c:Nat},w.heap[b]? =some (.map es c)->x.g≠b->w'.heap[b]? =w.heap[b]? :=fun hb h1=>hM.block _ (Array.getElem?_eq_some_iff.1 hb).1 (Xg hO hb h1);refine⟨?_,?_,⟨E,hE.keep (km hbt (hH.gs x hxm h4).2)⟩,fun y hy=> ?_,?_,hH.ot,fun y hy hy4=> ?_⟩
 ·rw[List.length_set];exact(kc hH.hh (by decide) (by decide)).trans hH.hh
 ·rw[Pr (x':={x with sv:=sv',L:=L'}) hi rfl];exact hH.objs.keep (km hbo (hH.gs x hxm h4).1)
 ·rcases JC hy with rfl|⟨j,hj,hjy⟩
  ·exact⟨by refine(kc hx.ho (by decide) (by decide)).trans ?_;exact hx.ho,hx.kd,hx.wm,fun h5=>hx.fm h5,fun _=>hT⟩
  ·have hym:=List.mem_of_getElem? hjy;have hyo:=hH.one y hym;have hsp:=PF hH.sep hi hjy (fun e=>hj e.symm);refine hyo.keep (kc hyo.ho (by decide) (by decide)) (fun hy4 b hb=> ?_);obtain⟨s1,s2,s3⟩:=hsp.2 h4 hy4;have hyO:=(hyo.tb hy4).om;rcases hb with rfl|rfl|rfl|hb
   ·exact kc (hyo.tb hy4).ht (by decide) (by decide)
   ·refine hM.block _ (Array.getElem?_eq_some_iff.1 hyO.hm).1 ?_;rintro(e|e|e)
    ·exact s1 e.symm
    ·obtain⟨E3,f3,hE3,_⟩:=hO.map;obtain⟨es3,c3,h3⟩:=hE3.obj;exact Jf hyO.hm h3 e
    ·obtain⟨c3,h3⟩:=Qd hO.row e;exact QW hyO.hm h3 (by decide) rfl
   ·obtain⟨E3,f3,hE3,_⟩:=hyO.map;obtain⟨es3,c3,h3⟩:=hE3.obj;exact km h3 s2
   ·obtain⟨c3,h3⟩:=Qd hyO.row hb;refine hM.block _ (Array.getElem?_eq_some_iff.1 h3).1 ?_;rintro(e|e|e)
    ·exact QW h3 hO.hm (by decide) e
    ·obtain⟨E3,f3,hE3,_⟩:=hO.map;obtain⟨es3,c4,h4⟩:=hE3.obj;exact Jf h3 h4 e
    ·exact s3 _ e hb
 ·refine OI hH.sep hi (fun j y hjy hj=> ?_);have hsp:=PF hH.sep hi hjy (fun e=>hj e.symm);refine⟨hsp.1,fun a b=> ?_⟩;obtain⟨s1,s2,s3⟩:=hsp.2 h4 b;refine⟨s1,s2,fun c hc hd=> ?_⟩;rcases hown c hc with h1|h1
  ·exact s3 c h1 hd
  ·have:=(QS ((hH.one y (List.mem_of_getElem? hjy)).tb b).om.row hd).2;omega
 ·rcases JC hy with rfl|⟨j,hj,hjy⟩
  ·exact hH.gs x hxm h4
  ·exact hH.gs y (List.mem_of_getElem? hjy) hy4
theorem HpAt.setMt {w w':World} {h bo bt:Nat} {H:List PO} {i:Nat} {x:PO} {v:V} (hH:HpAt w h bo bt H) (hi:H[i]? =some x) (h5:x.kind≠5) (hv:WfV v)
  (ho:w'.heap[x.o]? =some (.cells {x with mt:=v}.cells 104)) (hM:Mods (· =x.o) w w'):HpAt w' h bo bt (H.set i {x with mt:=v}):=by
 have hxm:=List.mem_of_getElem? hi;have hx:=hH.one x hxm;obtain⟨E,hE⟩:=hH.touched;obtain⟨es,c,hbt⟩:=hE.obj;obtain⟨es2,c2,hbo⟩:=hH.objs.obj;have kc:∀{b:Nat} {cs:Array Value} {t:TypeId} {fz:Nat×Nat},w.heap[b]? =some (.cells cs t fz)->t≠104->w'.heap[b]? =w.heap[b]? :=fun hb h1=>hM.block _ (Array.getElem?_eq_some_iff.1 hb).1 (QW hb hx.ho h1);have km:∀{b:Nat} {es:Array MapEntry} {c:Nat},w.heap[b]? =some (.map es c)->w'.heap[b]? =w.heap[b]? :=fun hb=>hM.block _ (Array.getElem?_eq_some_iff.1 hb).1 (fun e=>Jf hx.ho hb e.symm);have kO:∀{m g:Nat} {sv:Value} {L:List Sl},OMap w m g sv L->∀b,OmF m g sv b->w'.heap[b]? =w.heap[b]? :=fun hO b hb=>by
  rcases hb with rfl|rfl|hb
  ·exact kc hO.hm (by decide)
  ·obtain⟨E3,f3,hE3,_⟩:=hO.map;obtain⟨es3,c3,h3⟩:=hE3.obj;exact km h3
  ·obtain⟨c3,h3⟩:=Qd hO.row hb;exact kc h3 (by decide)
 refine⟨?_,?_,⟨E,hE.keep (km hbt)⟩,fun y hy=> ?_,?_,hH.ot,fun y hy hy4=> ?_⟩
 ·rw[List.length_set];exact(kc hH.hh (by decide)).trans hH.hh
 ·rw[Pr (x':={x with mt:=v}) hi rfl];exact hH.objs.keep (km hbo)
 ·rcases JC hy with rfl|⟨j,hj,hjy⟩
  ·refine⟨ho,hx.kd,hv,fun h=>absurd h h5,fun h4=> ?_⟩;have hT:=hx.tb h4;exact hT.keep (kc hT.ht (by decide)) (kO hT.om _ (.inl rfl)) (kO hT.om _ (.inr (.inl rfl))) (fun b hb=>kO hT.om _ (.inr (.inr hb)))
  ·have hyo:=hH.one y (List.mem_of_getElem? hjy);have hsp:=PF hH.sep hi hjy (fun e=>hj e.symm);refine hyo.keep (hM.block _ (Array.getElem?_eq_some_iff.1 hyo.ho).1 (fun e=>hsp.1 e.symm)) (fun hy4 b hb=> ?_);have hT:=hyo.tb hy4;rcases hb with rfl|hb
   ·exact kc hT.ht (by decide)
   ·exact kO hT.om _ hb
 ·exact OI (x:=x) hH.sep hi (fun j y hjy hj=>(show PSep x y from PF hH.sep hi hjy (fun e=>hj e.symm)))
 ·rcases JC hy with rfl|⟨j,hj,hjy⟩
  ·exact hH.gs x hxm hy4
  ·exact hH.gs y (List.mem_of_getElem? hjy) hy4
theorem HpAt.add {w w':World} {h bo bt:Nat} {H:List PO} {x:PO} (hH:HpAt w h bo bt H) (hM:Mods (fun b=>b=h\/b=bo\/b=bt) w w')
  (hh:w'.heap[h]? =some (.cells #[.map (some bo),((H.length+1:Nat):Int),.map (some bt)] 89)) (hbo:MapAt prog 3 w' bo (Xx H++[(.int .i64 ((H.length+1:Nat):Int),.pointer (some x.o))])) (hbt:∃E,MapAt prog 3 w' bt E)
  (hx:PObj w x) (hsep:∀y∈H,PSep y x) (hg:x.kind=4->x.g≠bo/\x.g≠bt):HpAt w' h bo bt (H++[x]):=by
 obtain⟨E0,hE0⟩:=hH.touched;obtain⟨es,c,hbt0⟩:=hE0.obj;obtain⟨es2,c2,hbo0⟩:=hH.objs.obj;have kc:∀{b:Nat} {cs:Array Value} {t:TypeId} {fz:Nat×Nat},w.heap[b]? =some (.cells cs t fz)->t≠89->w'.heap[b]? =w.heap[b]? :=fun hb h1=>hM.block _ (Array.getElem?_eq_some_iff.1 hb).1 (fun e=>by
  rcases e with e|e|e
  ·exact QW hb hH.hh h1 e
  ·exact Jf hb hbo0 e
  ·exact Jf hb hbt0 e)
 have keep:∀y:PO,PObj w y->(y.kind=4->y.g≠bo/\y.g≠bt)->PObj w' y:=fun y hyo hgy=>by
  refine hyo.keep (kc hyo.ho (by decide)) (fun hy4 b hb=> ?_);have hT:=hyo.tb hy4;rcases hb with rfl|rfl|rfl|hb
  ·exact kc hT.ht (by decide)
  ·exact kc hT.om.hm (by decide)
  ·obtain⟨E3,f3,hE3,_⟩:=hT.om.map;obtain⟨es3,c3,h3⟩:=hE3.obj;refine hM.block _ hE3.lt (fun e=> ?_);rcases e with e|e|e
   ·exact Jf hH.hh h3 e.symm
   ·exact(hgy hy4).1 e
   ·exact(hgy hy4).2 e
  ·obtain⟨c3,h3⟩:=Qd hT.om.row hb;exact kc h3 (by decide)
 refine⟨?_,?_,hbt,fun y hy=> ?_,?_,hH.ot,fun y hy hy4=> ?_⟩
 ·rw[List.length_append];exact hh
 ·have:Xx (H++[x])=Xx H++[(.int .i64 ((H.length+1:Nat):Int),.pointer (some x.o))]:=by
   unfold Xx;rw[List.mapIdx_append];simp
  rw[this];exact hbo
 ·rcases List.mem_append.1 hy with hy|hy
  ·exact keep y (hH.one y hy) (hH.gs y hy)
  ·rw[List.mem_singleton] at hy;subst hy;exact keep y hx hg
 ·rw[List.pairwise_append];refine⟨hH.sep,List.pairwise_singleton _ _,fun y hy z hz=> ?_⟩;rw[List.mem_singleton] at hz;subst hz;exact hsep y hy
 ·rcases List.mem_append.1 hy with hy|hy
  ·exact hH.gs y hy hy4
  ·rw[List.mem_singleton] at hy;subst hy;exact hg hy4
theorem Fn {w:World} {h bo bt:Nat} {H:List PO} {x:PO} (hH:HpAt w h bo bt H) (ho:w<=x.o) (hm:x.kind=4->w.heap.size<=x.m/\w.heap.size<=x.g) (hnone:x.sv.ownBlock=none):(∀y∈H,PSep y x)/\(x.kind=4->x.g≠bo/\x.g≠bt):=by
 refine⟨fun y hy=> ?_,fun h4=> ?_⟩
 ·have hyo:=hH.one y hy;refine⟨fun e=> ?_,fun hy4 hz4=>⟨fun e=> ?_,fun e=> ?_,fun b hb hc=> ?_⟩⟩
  ·have:=(Array.getElem?_eq_some_iff.1 hyo.ho).1;omega
  ·have:=(hm hz4).1;have:=(Array.getElem?_eq_some_iff.1 (hyo.tb hy4).om.hm).1;omega
  ·have:=(hm hz4).2;obtain⟨E3,f3,hE3,_⟩:=(hyo.tb hy4).om.map;have:=hE3.lt;omega
  ·rw[hnone] at hc;cases hc
 ·obtain⟨E,hE⟩:=hH.touched;have:=(hm h4).2;have:=hE.lt;have:=hH.objs.lt;exact⟨by omega,by omega⟩
def BM (base:Nat) (S:Obj->Prop) (w w':World):Prop:=Mods (fun b=>base<=b/\∃o,w.heap[b]? =some o/\S o) w w'
theorem BM.of_below {base:Nat} {S:Obj->Prop} {w w':World} (h:Below w w w'):BM base S w w':=Mods.of_below h
theorem BM.refl (base:Nat) (S:Obj->Prop) (w:World):BM base S w w:=Mods.refl _ _
theorem BM.trans {base:Nat} {S:Obj->Prop} {a b c:World} (h:BM base S a b) (k:BM base S b c):BM base S a c:=by
 refine⟨k.os.trans h.os,k.tape.trans h.tape,k.output.trans h.output,Nat.le_trans h.size k.size,fun i hi hF=> ?_⟩;have h1:=h.block i hi hF;exact(k.block i (Nat.lt_of_lt_of_le hi h.size) (fun⟨hb,o,h2,h3⟩=>hF ⟨hb,o,h1▸h2,h3⟩)).trans h1
theorem BM.below {base:Nat} {S:Obj->Prop} {w w':World} (h:BM base S w w') (hb:base<=w):Below base w w':=Mods.below h hb (fun k hk hF=>by have:=hF.1;omega)
theorem BM.keep {base:Nat} {S:Obj->Prop} {w w':World} (h:BM base S w w') {b:Nat} {o:Obj} (hb:w.heap[b]? =some o) (hS:¬S o):w'.heap[b]? =some o:=
 (h.block b (Array.getElem?_eq_some_iff.1 hb).1 (fun⟨_,o2,h1,h2⟩=>hS (by rw[hb] at h1;injection h1 with h1;rw[h1];exact h2))).trans hb
theorem BM.mono {base:Nat} {S S':Obj->Prop} {w w':World} (h:BM base S w w') (hS:∀o,S o->S' o):BM base S' w w':=Mods.mono h (fun k _ ⟨h1,o,h2,h3⟩=>⟨h1,o,h2,hS o h3⟩)
theorem BM.of_mods {base:Nat} {S:Obj->Prop} {F:Nat->Prop} {w w':World} (h:Mods F w w') (hF:∀b,F b->base<=b/\∃o,w.heap[b]? =some o/\S o):BM base S w w':=h.mono (fun k _ hk=>hF k hk)
structure PHp (base n:Nat) (w:World) (h:Nat) (M:LH):Prop where
 ex:∃bo bt H,HpAt w h bo bt H/\lh H=M/\Small n H/\∀b,HpF h bo bt H b->base<=b
theorem PHp.below {base n:Nat} {w w':World} {h:Nat} {M:LH} (hP:PHp base n w h M) (hb:Below w w w'):PHp base n w' h M:=by
 obtain⟨bo,bt,H,h1,h2,h3,h4⟩:=hP.ex;exact⟨bo,bt,H,h1.below hb,h2,h3,h4⟩
theorem HpAt.keepF {w w':World} {h bo bt:Nat} {H:List PO} (hH:HpAt w h bo bt H) (hk:∀b,HpF h bo bt H b->w'.heap[b]? =w.heap[b]?):HpAt w' h bo bt H:=by
 obtain⟨E,hE⟩:=hH.touched;exact⟨(hk h (.inl rfl)).trans hH.hh,hH.objs.keep (hk _ (.inr (.inl rfl))),⟨E,hE.keep (hk _ (.inr (.inr (.inl rfl))))⟩,fun x hx=>(hH.one x hx).keep (hk _ (.inr (.inr (.inr ⟨x,hx,.inl rfl⟩)))) (fun h4 b hb=>hk _ (.inr (.inr (.inr ⟨x,hx,.inr ⟨h4,hb⟩⟩)))),hH.sep,hH.ot,hH.gs⟩
theorem PHp.keep {base base' n:Nat} {w w':World} {h:Nat} {M:LH} {S:Obj->Prop} (hP:PHp base n w h M) (hm:BM base' S w w') (hS:∀o,PB o->¬S o):PHp base n w' h M:=by
 obtain⟨bo,bt,H,h1,h2,h3,h4⟩:=hP.ex;refine⟨bo,bt,H,h1.keepF (fun b hb=> ?_),h2,h3,h4⟩;obtain⟨o,h5,h6⟩:=Mb h1 hb;rw[h5];exact hm.keep h5 (hS o h6)
theorem PHp.up {base n m:Nat} {w:World} {h:Nat} {M:LH} (hP:PHp base n w h M) (hn:n<=m):PHp base m w h M:=by
 obtain⟨bo,bt,H,h1,h2,h3,h4⟩:=hP.ex;exact⟨bo,bt,H,h1,h2,fun x hx=>Nat.le_trans (h3 x hx) hn,h4⟩
structure SMap (w:World) (m:Nat) (sv:Value) (L:List Sl):Prop where
 hm:w.heap[m]? =some (.cells #[sv] 181)
 row:w.ownsRow 0 186 11 sv L.length (ZA L)
 gone:∀s∈L,s.g=true->s.v=V.nil
structure STab (w:World) (t m:Nat) (sv:Value) (L:List Sl):Prop where
 ht:w.heap[t]? =some (.cells #[.slice none 0 0,m] 151)
 om:SMap w m sv L
structure RO where
 kind:Int
 tag:Int
 name:ByteArray
 mt:V
 user:Value
 refs:Value
 t:Nat
 m:Nat
 sv:Value
 L:List Sl
def RO.lo (x:RO):LO:=⟨x.kind,x.mt,if x.kind=4 then x.L else[]⟩
def RO.tv (x:RO):Value:=if x.kind=4 then .pointer (some x.t) else .pointer none
abbrev RO.cells (x:RO):List Value:=[.int .i64 x.kind,.int .i64 x.tag,.string x.name,x.tv,.int .i64 x.mt.k,.int .i64 x.mt.p,.int .i64 x.mt.q,.string x.mt.s,.int .i64 x.mt.r,x.user,x.refs]
def Zv (H:List RO):List Value:=H.flatMap RO.cells
theorem RO.cells_len (x:RO):x.cells.length=11:=rfl
theorem Dd (H:List RO):(Zv H).length=H.length*11:=by
 induction H with
 |nil=>rfl
 |cons s H ih=>show(s.cells++Zv H).length=_;rw[List.length_append,RO.cells_len,ih,List.length_cons];omega
theorem Q8:∀(H:List RO) (i j:Nat) (x:RO),H[i]? =some x->j<11->(Zv H)[i*11+j]? =x.cells[j]?
 |[],i,j,x,h,_=>by simp at h
 |y::H,0,j,x,h,hj=>by
  rw[List.getElem?_cons_zero] at h;injection h with h;subst h;show(y.cells++Zv H)[0*11+j]? =_;rw[List.getElem?_append_left (by rw[RO.cells_len];omega)]
  congr 1
  omega
 |y::H,i+1,j,x,h,hj=>by
  rw[List.getElem?_cons_succ] at h;show(y.cells++Zv H)[(i+1)*11+j]? =_;rw[List.getElem?_append_right (by rw[RO.cells_len];omega),RO.cells_len,show(i+1)*11+j-11=i*11+j by omega];exact Q8 H i j x h hj
def RSep (x y:RO):Prop:=x.kind=4->y.kind=4->x.m≠y.m/\∀b,x.sv.ownBlock=some b->y.sv.ownBlock≠some b
structure RObj (w:World) (x:RO):Prop where
 kd:x.kind=4\/x.kind=5\/x.kind=8
 wm:WfV x.mt
 fm:x.kind=5->x.mt=V.nil/\x.refs= .slice none 0 0
 tb:x.kind=4->STab w x.t x.m x.sv x.L
structure RHpAt (w:World) (h:Nat) (av uv:Value) (H:List RO):Prop where
 hh:w.heap[h]? =some (.cells #[av,.int .i64 (H.length:Nat),uv] 93)
 row:w.ownsRow 0 97 11 av H.length (Zv H)
 tch:∃bs:List Bool,w.ownsRow 0 4 1 uv H.length (bs.map .bool)
 one:∀x∈H,RObj w x
 sep:H.Pairwise RSep
def rlh (H:List RO):LH:=H.map RO.lo
def RSmall (n:Nat) (H:List RO):Prop:=∀x∈H,x.L.length<=n
def SmF (m:Nat) (sv:Value) (b:Nat):Prop:=b=m\/sv.ownBlock=some b
def RF (h:Nat) (av uv:Value) (H:List RO) (b:Nat):Prop:=b=h\/av.ownBlock=some b\/uv.ownBlock=some b\/∃x∈H,x.kind=4/\(b=x.t\/SmF x.m x.sv b)
def SB:Obj->Prop
 | .cells _ t _=>t=181\/t=186\/t=151\/t=97\/t=93\/t=4
 |_=>False
theorem MA (o:Obj) (h:PB o):¬SB o:=by
 intro h2;cases o with
 |cells c t f=>revert h h2;unfold PB SB;rintro(rfl|rfl|rfl|rfl|rfl) (e|e|e|e|e|e)<;>exact absurd e (by decide)
 |map e c=>exact h2
 |_=>exact h2
theorem OQ (o:Obj) (h:SB o):¬PB o:=fun h2=>MA o h2 h
theorem SMap.keep {w w':World} {m:Nat} {sv:Value} {L:List Sl} (h:SMap w m sv L) (h1:w'.heap[m]? =w.heap[m]?) (h3:∀b,sv.ownBlock=some b->w'.heap[b]? =w.heap[b]?):SMap w' m sv L:=⟨h1.trans h.hm,Qb h.row h3,h.gone⟩
theorem STab.keep {w w':World} {t m:Nat} {sv:Value} {L:List Sl} (h:STab w t m sv L) (hk:∀b,(b=t\/SmF m sv b)->w'.heap[b]? =w.heap[b]?):STab w' t m sv L:=
 ⟨(hk t (.inl rfl)).trans h.ht,h.om.keep (hk m (.inr (.inl rfl))) (fun b hb=>hk b (.inr (.inr hb)))⟩
theorem STab.below {w w':World} {t m:Nat} {sv:Value} {L:List Sl} (h:STab w t m sv L) (hb:Below w w w'):STab w' t m sv L:=
 h.keep (fun b e=>hb.block b (by
  rcases e with rfl|rfl|e
  ·exact(Array.getElem?_eq_some_iff.1 h.ht).1
  ·exact(Array.getElem?_eq_some_iff.1 h.om.hm).1
  ·exact(QS h.om.row e).2))
theorem SMap.below {w w':World} {m:Nat} {sv:Value} {L:List Sl} (h:SMap w m sv L) (hb:Below w w w'):SMap w' m sv L:=
 h.keep (hb.block _ (Array.getElem?_eq_some_iff.1 h.hm).1) (fun b e=>hb.block _ (QS h.row e).2)
theorem F9 {w:World} {h:Nat} {av uv:Value} {H:List RO} (hH:RHpAt w h av uv H) {b:Nat} (hb:RF h av uv H b):∃o,w.heap[b]? =some o/\SB o:=by
 rcases hb with rfl|hb|hb|⟨x,hx,h4,rfl|rfl|hb⟩
 ·exact⟨_,hH.hh,.inr (.inr (.inr (.inr (.inl rfl))))⟩
 ·obtain⟨cs,hc⟩:=Qd hH.row hb;exact⟨_,hc,.inr (.inr (.inr (.inl rfl)))⟩
 ·obtain⟨bs,ht⟩:=hH.tch;obtain⟨cs,hc⟩:=Qd ht hb;exact⟨_,hc,.inr (.inr (.inr (.inr (.inr rfl))))⟩
 ·exact⟨_,((hH.one x hx).tb h4).ht,.inr (.inr (.inl rfl))⟩
 ·exact⟨_,((hH.one x hx).tb h4).om.hm,.inl rfl⟩
 ·obtain⟨cs,hc⟩:=Qd ((hH.one x hx).tb h4).om.row hb;exact⟨_,hc,.inr (.inl rfl)⟩
theorem RHpAt.keepF {w w':World} {h:Nat} {av uv:Value} {H:List RO} (hH:RHpAt w h av uv H) (hk:∀b,RF h av uv H b->w'.heap[b]? =w.heap[b]?):RHpAt w' h av uv H:=by
 obtain⟨bs,hT⟩:=hH.tch;exact⟨(hk h (.inl rfl)).trans hH.hh,Qb hH.row (fun b hb=>hk b (.inr (.inl hb))),⟨bs,Qb hT (fun b hb=>hk b (.inr (.inr (.inl hb))))⟩,
  fun x hx=>⟨(hH.one x hx).kd,(hH.one x hx).wm,(hH.one x hx).fm,fun h4=>((hH.one x hx).tb h4).keep (fun b hb=>hk b (.inr (.inr (.inr ⟨x,hx,h4,hb⟩))))⟩,hH.sep⟩
theorem RHpAt.below {w w':World} {h:Nat} {av uv:Value} {H:List RO} (hH:RHpAt w h av uv H) (hb:Below w w w'):RHpAt w' h av uv H:=
 hH.keepF (fun b hF=>by obtain⟨o,h1,_⟩:=F9 hH hF;exact hb.block b (Array.getElem?_eq_some_iff.1 h1).1)
structure RHp (base n:Nat) (w:World) (h:Nat) (M:LH):Prop where
 ex:∃av uv H,RHpAt w h av uv H/\rlh H=M/\RSmall n H/\∀b,RF h av uv H b->base<=b
theorem RHp.below {base n:Nat} {w w':World} {h:Nat} {M:LH} (hP:RHp base n w h M) (hb:Below w w w'):RHp base n w' h M:=by
 obtain⟨av,uv,H,h1,h2,h3,h4⟩:=hP.ex;exact⟨av,uv,H,h1.below hb,h2,h3,h4⟩
theorem RHp.keep {base base' n:Nat} {w w':World} {h:Nat} {M:LH} {S:Obj->Prop} (hP:RHp base n w h M) (hm:BM base' S w w') (hS:∀o,SB o->¬S o):RHp base n w' h M:=by
 obtain⟨av,uv,H,h1,h2,h3,h4⟩:=hP.ex;refine⟨av,uv,H,h1.keepF (fun b hb=> ?_),h2,h3,h4⟩;obtain⟨o,h5,h6⟩:=F9 h1 hb;rw[h5];exact hm.keep h5 (hS o h6)
theorem RHp.up {base n m:Nat} {w:World} {h:Nat} {M:LH} (hP:RHp base n w h M) (hn:n<=m):RHp base m w h M:=by
 obtain⟨av,uv,H,h1,h2,h3,h4⟩:=hP.ex;exact⟨av,uv,H,h1,h2,fun x hx=>Nat.le_trans (h3 x hx) hn,h4⟩
theorem RSep.symm {x y:RO} (h:RSep x y):RSep y x:=fun a b=>by
 obtain⟨h3,h5⟩:=h b a;exact⟨fun e=>h3 e.symm,fun c hc hd=>h5 c hd hc⟩
theorem F6 {H:List RO} (hs:H.Pairwise RSep) {i j:Nat} {x y:RO} (hi:H[i]? =some x) (hj:H[j]? =some y) (hij:i≠j):RSep x y:=by
 rcases Nat.lt_or_gt_of_ne hij with h|h
 ·exact pw_iff.1 hs i j x y h hi hj
 ·exact(pw_iff.1 hs j i y x h hj hi).symm
theorem PT {H:List RO} (hs:H.Pairwise RSep) {i:Nat} {x x':RO} (hi:H[i]? =some x) (h:∀j y,H[j]? =some y->j≠i->RSep x' y):(H.set i x').Pairwise RSep:=by
 rw[pw_iff];intro a b y z hab ha hb;rw[List.getElem?_set] at ha hb;split at ha
 ·rename_i e
  subst e;rw[if_neg (by omega)] at hb;rw[if_pos (List.getElem?_eq_some_iff.1 hi).1] at ha;injection ha with ha;subst ha;exact h b z hb (by omega)
 ·split at hb
  ·rename_i e
   subst e;rw[if_pos (List.getElem?_eq_some_iff.1 hi).1] at hb;injection hb with hb;subst hb;exact(h a y ha (by omega)).symm
  ·exact pw_iff.1 hs a b y z hab ha hb
theorem JR {H:List RO} {i:Nat} {x' y:RO} (hy:y∈H.set i x'):y=x'\/∃j,j≠i/\H[j]? =some y:=by
 obtain⟨j,hj⟩:=List.getElem?_of_mem hy;rw[List.getElem?_set] at hj;split at hj
 ·split at hj
  ·injection hj with hj;exact .inl hj.symm
  ·cases hj
 ·rename_i e
  exact .inr ⟨j,fun e2=>e e2.symm,hj⟩
theorem Tn {w:World} {m:Nat} {sv:Value} {L:List Sl} (h:SMap w m sv L) {b:Nat} {cs:Array Value} {t:TypeId} {fz:Nat×Nat} (hb:w.heap[b]? =some (.cells cs t fz)) (h1:t≠181) (h2:t≠186):¬SmF m sv b:=by
 rintro(e|e)
 ·exact QW hb h.hm h1 e
 ·obtain⟨c2,hc⟩:=Qd h.row e;exact QW hb hc h2 rfl
theorem Gt (H:List RO) (a b:Nat) (hb:b<11):(Zv H)[a*11+b]? =(H[a]?).bind fun s=>(s.cells)[b]? :=by
 cases h:H[a]? with
 |some s=>rw[Q8 H a b s h hb];rfl
 |none=>
  have:=List.getElem?_eq_none_iff.1 h;rw[List.getElem?_eq_none_iff.2 (by rw[Dd];omega)];rfl
theorem Np {H:List RO} {i:Nat} {x x':RO} (hi:H[i]? =some x) (he:x'.cells=x.cells):Zv (H.set i x')=Zv H:=by
 apply List.ext_getElem?;intro j;obtain⟨a,b,hb,rfl⟩:∃a b,b<11/\j=a*11+b:=⟨j/11,j%11,by omega,by omega⟩
 rw[Gt _ _ _ hb,Gt _ _ _ hb,List.getElem?_set];split
 ·rename_i e
  subst e;rw[if_pos (List.getElem?_eq_some_iff.1 hi).1,hi];show x'.cells[b]? =x.cells[b]?;rw[he]
 ·rfl
theorem F7 {H:List RO} {i:Nat} {x:RO} (hi:H[i]? =some x) (v:V):YP (Zv H) (i*11+4) (ZC v)=Zv (H.set i {x with mt:=v}):=by
 have hl:i<H.length:=(List.getElem?_eq_some_iff.1 hi).1;apply List.ext_getElem?;intro j;obtain⟨a,b,hb,rfl⟩:∃a b,b<11/\j=a*11+b:=⟨j/11,j%11,by omega,by omega⟩
 have h5:(ZC v).length=5:=rfl;rw[Gq _ _ _ _ (by rw[h5,Dd];omega),Gt _ _ _ hb,Gt _ _ _ hb,h5,List.getElem?_set];by_cases h:i=a
 ·subst h;rw[if_pos rfl,if_pos hl,hi];have hb2:b=0\/b=1\/b=2\/b=3\/b=4\/b=5\/b=6\/b=7\/b=8\/b=9\/b=10:=by omega
  rcases hb2 with rfl|rfl|rfl|rfl|rfl|rfl|rfl|rfl|rfl|rfl|rfl;all_goals
   first
   |(rw[if_neg (by omega)];rfl)
   |(rw[if_pos (by omega)];rw[show i*11+4-(i*11+4)=0 by omega];rfl)
   |(rw[if_pos (by omega)];rw[show i*11+5-(i*11+4)=1 by omega];rfl)
   |(rw[if_pos (by omega)];rw[show i*11+6-(i*11+4)=2 by omega];rfl)
   |(rw[if_pos (by omega)];rw[show i*11+7-(i*11+4)=3 by omega];rfl)
   |(rw[if_pos (by omega)];rw[show i*11+8-(i*11+4)=4 by omega];rfl)
 ·rw[if_neg (by omega),if_neg h]
theorem RHpAt.touch {w w':World} {h:Nat} {av uv:Value} {H:List RO} (hH:RHpAt w h av uv H) (hM:Mods (fun b=>uv.ownBlock=some b) w w') (ht:∃bs:List Bool,w'.ownsRow 0 4 1 uv H.length (bs.map .bool)):RHpAt w' h av uv H:=by
 obtain⟨bs,hT⟩:=hH.tch;have kc:∀{b:Nat} {cs:Array Value} {t:TypeId} {fz:Nat×Nat},w.heap[b]? =some (.cells cs t fz)->t≠4->w'.heap[b]? =w.heap[b]? :=fun hb h1=>hM.block _ (Array.getElem?_eq_some_iff.1 hb).1 (fun e=>by
  obtain⟨c2,hc⟩:=Qd hT e;exact QW hb hc h1 rfl)
 refine⟨(kc hH.hh (by decide)).trans hH.hh,Qb hH.row (fun b hb=>by obtain⟨c2,hc⟩:=Qd hH.row hb;exact kc hc (by decide)),ht,fun x hx=>⟨(hH.one x hx).kd,(hH.one x hx).wm,(hH.one x hx).fm,fun h4=> ?_⟩,hH.sep⟩;have hS:=(hH.one x hx).tb h4;refine hS.keep (fun b hb=> ?_);rcases hb with rfl|rfl|hb
 ·exact kc hS.ht (by decide)
 ·exact kc hS.om.hm (by decide)
 ·obtain⟨c2,hc⟩:=Qd hS.om.row hb;exact kc hc (by decide)
theorem RHpAt.setTab {w w':World} {h:Nat} {av uv:Value} {H:List RO} {i:Nat} {x:RO} {sv':Value} {L':List Sl} (hH:RHpAt w h av uv H) (hi:H[i]? =some x) (h4:x.kind=4) (hT:SMap w' x.m sv' L')
  (hM:Mods (SmF x.m x.sv) w w') (hown:∀b,sv'.ownBlock=some b->x.sv.ownBlock=some b\/w.heap.size<=b):RHpAt w' h av uv (H.set i {x with sv:=sv',L:=L'}):=by
 have hxm:=List.mem_of_getElem? hi;have hx:=hH.one x hxm;have hO:=(hx.tb h4).om;obtain⟨bs,hTc⟩:=hH.tch;have kc:∀{b:Nat} {cs:Array Value} {t:TypeId} {fz:Nat×Nat},w.heap[b]? =some (.cells cs t fz)->t≠181->t≠186->w'.heap[b]? =w.heap[b]? :=fun hb h1 h2=>hM.block _ (Array.getElem?_eq_some_iff.1 hb).1 (Tn hO hb h1 h2);refine⟨?_,?_,⟨bs,?_⟩,fun y hy=> ?_,?_⟩
 ·rw[List.length_set];exact(kc hH.hh (by decide) (by decide)).trans hH.hh
 ·rw[List.length_set,Np (x':={x with sv:=sv',L:=L'}) hi rfl];exact Qb hH.row (fun b hb=>by obtain⟨c2,hc⟩:=Qd hH.row hb;exact kc hc (by decide) (by decide))
 ·rw[List.length_set];exact Qb hTc (fun b hb=>by obtain⟨c2,hc⟩:=Qd hTc hb;exact kc hc (by decide) (by decide))
 ·rcases JR hy with rfl|⟨j,hj,hjy⟩
  ·exact⟨hx.kd,hx.wm,hx.fm,fun _=>⟨(kc (hx.tb h4).ht (by decide) (by decide)).trans (hx.tb h4).ht,hT⟩⟩
  ·have hyo:=hH.one y (List.mem_of_getElem? hjy);have hsp:=F6 hH.sep hi hjy (fun e=>hj e.symm);refine⟨hyo.kd,hyo.wm,hyo.fm,fun hy4=>(hyo.tb hy4).keep (fun b hb=> ?_)⟩;obtain⟨s1,s3⟩:=hsp h4 hy4;have hyO:=(hyo.tb hy4).om;rcases hb with rfl|rfl|hb
   ·exact kc (hyo.tb hy4).ht (by decide) (by decide)
   ·refine hM.block _ (Array.getElem?_eq_some_iff.1 hyO.hm).1 ?_;rintro(e|e)
    ·exact s1 e.symm
    ·obtain⟨c3,h3⟩:=Qd hO.row e;exact QW hyO.hm h3 (by decide) rfl
   ·obtain⟨c3,h3⟩:=Qd hyO.row hb;refine hM.block _ (Array.getElem?_eq_some_iff.1 h3).1 ?_;rintro(e|e)
    ·exact QW h3 hO.hm (by decide) e
    ·exact s3 _ e hb
 ·refine PT hH.sep hi (fun j y hjy hj=> ?_);have hsp:=F6 hH.sep hi hjy (fun e=>hj e.symm);intro a b;obtain⟨s1,s3⟩:=hsp h4 b;refine⟨s1,fun c hc hd=> ?_⟩;rcases hown c hc with h1|h1
  ·exact s3 c h1 hd
  ·have:=(QS ((hH.one y (List.mem_of_getElem? hjy)).tb b).om.row hd).2;omega
theorem RHpAt.setMt {w w':World} {h:Nat} {av uv:Value} {H:List RO} {i:Nat} {x:RO} {v:V} (hH:RHpAt w h av uv H) (hi:H[i]? =some x) (h5:x.kind≠5) (hv:WfV v)
  (hr:w'.ownsRow 0 97 11 av H.length (YP (Zv H) (i*11+4) (ZC v))) (hM:Mods (fun b=>av.ownBlock=some b) w w'):RHpAt w' h av uv (H.set i {x with mt:=v}):=by
 have hxm:=List.mem_of_getElem? hi;have hx:=hH.one x hxm;obtain⟨bs,hTc⟩:=hH.tch;have kc:∀{b:Nat} {cs:Array Value} {t:TypeId} {fz:Nat×Nat},w.heap[b]? =some (.cells cs t fz)->t≠97->w'.heap[b]? =w.heap[b]? :=fun hb h1=>hM.block _ (Array.getElem?_eq_some_iff.1 hb).1 (fun e=>by
  obtain⟨c2,hc⟩:=Qd hH.row e;exact QW hb hc h1 rfl)
 have kS:∀{y:RO},STab w y.t y.m y.sv y.L->STab w' y.t y.m y.sv y.L:=fun hS=>hS.keep (fun b hb=>by
  rcases hb with rfl|rfl|hb
  ·exact kc hS.ht (by decide)
  ·exact kc hS.om.hm (by decide)
  ·obtain⟨c2,hc⟩:=Qd hS.om.row hb;exact kc hc (by decide))
 refine⟨?_,?_,⟨bs,?_⟩,fun y hy=> ?_,?_⟩
 ·rw[List.length_set];exact(kc hH.hh (by decide)).trans hH.hh
 ·rw[List.length_set,<-F7 hi];exact hr
 ·rw[List.length_set];exact Qb hTc (fun b hb=>by obtain⟨c2,hc⟩:=Qd hTc hb;exact kc hc (by decide))
 ·rcases JR hy with rfl|⟨j,hj,hjy⟩
  ·exact⟨hx.kd,hv,fun h=>absurd h h5,fun h4=>kS (hx.tb h4)⟩
  ·have hyo:=hH.one y (List.mem_of_getElem? hjy);exact⟨hyo.kd,hyo.wm,hyo.fm,fun h4=>kS (hyo.tb h4)⟩
 ·exact PT (x:=x) hH.sep hi (fun j y hjy hj=>(show RSep x y from F6 hH.sep hi hjy (fun e=>hj e.symm)))
theorem RHpAt.add {w w':World} {h:Nat} {av uv av' uv':Value} {H:List RO} {x:RO} (hH:RHpAt w h av uv H) (hM:Mods (fun b=>b=h\/av.ownBlock=some b\/uv.ownBlock=some b) w w')
  (hh:w'.heap[h]? =some (.cells #[av',((H.length+1:Nat):Int),uv'] 93)) (hr:w'.ownsRow 0 97 11 av' (H.length+1) (Zv H++x.cells))
  (ht:∃bs:List Bool,w'.ownsRow 0 4 1 uv' (H.length+1) (bs.map .bool)) (hx:RObj w' x) (hn:x.kind=4->w.heap.size<=x.m) (hnone:x.sv.ownBlock=none):RHpAt w' h av' uv' (H++[x]):=by
 obtain⟨bs,hTc⟩:=hH.tch;have kc:∀{b:Nat} {cs:Array Value} {t:TypeId} {fz:Nat×Nat},w.heap[b]? =some (.cells cs t fz)->t≠93->t≠97->t≠4->w'.heap[b]? =w.heap[b]? :=fun hb h1 h2 h3=>hM.block _ (Array.getElem?_eq_some_iff.1 hb).1 (fun e=>by
  rcases e with e|e|e
  ·exact QW hb hH.hh h1 e
  ·obtain⟨c2,hc⟩:=Qd hH.row e;exact QW hb hc h2 rfl
  ·obtain⟨c2,hc⟩:=Qd hTc e;exact QW hb hc h3 rfl)
 refine⟨?_,?_,?_,fun y hy=> ?_,?_⟩
 ·rw[List.length_append];exact hh
 ·rw[List.length_append];have:Zv (H++[x])=Zv H++x.cells:=by
   unfold Zv;rw[List.flatMap_append]
   congr 1
  rw[this];exact hr
 ·rw[List.length_append];exact ht
 ·rcases List.mem_append.1 hy with hy|hy
  ·have hyo:=hH.one y hy;refine⟨hyo.kd,hyo.wm,hyo.fm,fun hy4=>(hyo.tb hy4).keep (fun b hb=> ?_)⟩;have hS:=hyo.tb hy4;rcases hb with rfl|rfl|hb
   ·exact kc hS.ht (by decide) (by decide) (by decide)
   ·exact kc hS.om.hm (by decide) (by decide) (by decide)
   ·obtain⟨c3,h3⟩:=Qd hS.om.row hb;exact kc h3 (by decide) (by decide) (by decide)
  ·rw[List.mem_singleton] at hy;subst hy;exact hx
 ·rw[List.pairwise_append];refine⟨hH.sep,List.pairwise_singleton _ _,fun y hy z hz=> ?_⟩;rw[List.mem_singleton] at hz;subst hz;have hyo:=hH.one y hy;refine fun hy4 hz4=>⟨fun e=> ?_,fun b hb hc=> ?_⟩
  ·have:=hn hz4;have:=(Array.getElem?_eq_some_iff.1 (hyo.tb hy4).om.hm).1;omega
  ·rw[hnone] at hc;cases hc
def sfM (k:V):List Sl->Nat->Int->Int
 |[],_,at_=>at_
 |s::L,i,at_=>if eqV s.k k=true then(if s.g=true then sfM k L (i+1) (i:Nat) else(i:Nat)) else sfM k L (i+1) at_
theorem PD {k:V} {L:List Sl} {i:Nat} {sl:Sl} {at_:Int} (h:L[i]? =some sl):sfM k (L.drop i) i at_=if eqV sl.k k=true then(if sl.g=true then sfM k (L.drop (i+1)) (i+1) (i:Nat) else(i:Nat)) else sfM k (L.drop (i+1)) (i+1) at_:=by
 obtain⟨h1,h2⟩:=List.getElem?_eq_some_iff.1 h;rw[List.drop_eq_getElem_cons h1,h2];rfl
def FindAt (L:List Sl) (k:V) (r:Int):Prop:=
 (∃(i:Nat) (s:Sl),r=(i:Nat)/\L[i]? =some s/\s.k=k/\s.g=false/\L.findIdx? (Sl.hit k)=some i)\/
 (∃(i:Nat) (s:Sl),r=(i:Nat)/\L[i]? =some s/\s.k=k/\s.g=true/\L.findIdx? (Sl.hit k)=none)\/(r= -1/\L.findIdx? (Sl.hit k)=none)
theorem S3 (k:V) (L:List Sl):∀(n i:Nat) (at_:Int),L.length-i=n->i<=L.length->(∀j s,j<i->L[j]? =some s->Sl.hit k s=false)->
  (at_= -1\/∃(j:Nat) (s:Sl),at_=(j:Nat)/\L[j]? =some s/\s.k=k/\s.g=true)->FindAt L k (sfM k (L.drop i) i at_):=by
 intro n
 induction n with
 |zero=>
  intro i at_ hn hi hno hat;have hiL:i=L.length:=by omega
  have hnone:L.findIdx? (Sl.hit k)=none:=by
   rw[List.findIdx?_eq_none_iff];intro s hs;obtain⟨j,hj⟩:=List.getElem?_of_mem hs;exact hno j s (by have:=(List.getElem?_eq_some_iff.1 hj).1;omega) hj
  rw[List.drop_eq_nil_of_le (by omega)];show FindAt L k at_;rcases hat with h|⟨j,s,h1,h2,h3,h4⟩
  ·exact .inr (.inr ⟨h,hnone⟩)
  ·exact .inr (.inl ⟨j,s,h1,h2,h3,h4,hnone⟩)
 |succ n ih=>
  intro i at_ hn hi hno hat;have hlt:i<L.length:=by omega
  have hn1:L.length-(i+1)=n:=by clear hat hno ih;omega
  have hn2:i+1<=L.length:=by clear hat hno ih;omega
  obtain⟨sl,hsl⟩:∃sl,L[i]? =some sl:=⟨_,List.getElem?_eq_getElem hlt⟩
  rw[PD hsl];by_cases he:eqV sl.k k=true
  ·rw[if_pos he];have hk:=eqV_iff.1 he;by_cases hg:sl.g=true
   ·rw[if_pos hg];refine ih (i+1) _ hn1 hn2 (fun j s hj hs=> ?_) (.inr ⟨i,sl,rfl,hsl,hk,hg⟩);rcases Nat.lt_or_ge j i with h|h
    ·exact hno j s h hs
    ·have:j=i:=by omega
     subst this;rw[hsl] at hs;injection hs with hs;subst hs;unfold Sl.hit;rw[hg];rfl
   ·rw[if_neg hg];have hgf:sl.g=false:=by cases h:sl.g;rfl;exact absurd h hg
    refine .inl ⟨i,sl,rfl,hsl,hk,hgf,?_⟩;rw[List.findIdx?_eq_some_iff_getElem];obtain⟨h1,h2⟩:=List.getElem?_eq_some_iff.1 hsl;refine⟨h1,by rw[h2];exact hit_iff.2 ⟨hgf,hk⟩,fun j hj hc=> ?_⟩;rw[hno j _ hj (List.getElem?_eq_getElem (by omega))] at hc;cases hc
  ·rw[if_neg he];refine ih (i+1) _ hn1 hn2 (fun j s hj hs=> ?_) hat;rcases Nat.lt_or_ge j i with h|h
   ·exact hno j s h hs
   ·have:j=i:=by omega
    subst this;rw[hsl] at hs;injection hs with hs;subst hs;unfold Sl.hit;cases he2:eqV sl.k k with
    |true=>exact absurd he2 he
    |false=>rw[Bool.and_false]
theorem BQ (k:V) (L:List Sl):FindAt L k (sfM k L 0 (-1)):=S3 k L L.length 0 (-1) (by omega) (Nat.zero_le _) (fun j s h _=>absurd h (by omega)) (.inl rfl)
def SFRel (w:World) (k:V) (L:List Sl) (R:Int) (gg:Nat) (va vi:Value) (wr:World):Prop:=
 ∃(i:Nat) (at_:Int),L.length-i=gg/\ .int .i64 at_=va/\ .int .i64 (i:Nat)=vi/\i<=L.length/\sfM k (L.drop i) i at_=R/\Below w w wr
theorem MY {L:List Sl} {i:Nat} {s:Sl} (h:L[i]? =some s):Q1 (L.take (i+1))=Q1 (L.take i)+(if s.g then 0 else 1):=by
 have hd:=Z7 h;unfold Qq at hd;unfold Q1;rw[hd];cases s.g<;>simp
def LenRel (w:World) (L:List Sl) (gg:Nat) (va vi:Value) (wr:World):Prop:=∃i:Nat,w=wr/\L.length-i=gg/\ .int .i64 (Q1 (L.take i):Nat)=va/\ .int .i64 (i:Nat)=vi/\i<=L.length
def SmPost (w:World) (m:Nat) (sv:Value) (L':List Sl) (e:Ending) (w':World):Prop:=
 e= .returned (.int .i64 0)/\∃sv',SMap w' m sv' L'/\Mods (SmF m sv) w w'/\∀b,sv'.ownBlock=some b->sv.ownBlock=some b\/w.heap.size<=b
theorem LB:(prog.info? 186).map (·.size)=some 11:=by kernel_rfl
theorem GF:(prog.info? 186).map (fun i=>(i.zero,i.size,i.bytes))=some (some slZero,11,104):=by kernel_rfl
theorem LK {L:List Sl} (h:∀s∈L,s.g=true->s.v=V.nil) (k v:V):∀s∈L++[⟨k,v,false⟩],s.g=true->s.v=V.nil:=by
 intro s hs hg;rcases List.mem_append.1 hs with h1|h1
 ·exact h s h1 hg
 ·rw[List.mem_singleton] at h1;subst h1;cases hg
theorem FO (L:List Sl):∀s∈Qq L,s.g=true->s.v=V.nil:=by
 intro s hs hg;have:=(mem_drop.1 hs).2;rw[this] at hg;cases hg
theorem Uv {w5:World} {m rb cap:Nat} {sv0:Value} {L:List Sl} {k v:V} (hm:w5.heap[m]? =some (.cells #[sv0] 181)) (hown:w5.ownsRow 0 186 11 (.slice (some rb) (L.length+1) cap) (L.length+1) (ZA L++ZP ⟨k,v,false⟩)) (hg:∀s∈L,s.g=true->s.v=V.nil):
  SMap (w5.setCell m (.slice (some rb) (L.length+1) cap)) m (.slice (some rb) (L.length+1) cap) (L++[⟨k,v,false⟩]):=by
 have hrm:rb≠m:=by
  obtain⟨c2,hc⟩:=Qd hown rfl;exact QW hc hm (by decide)
 refine⟨Ql hm 0 _,?_,LK hg k v⟩;rw[KF,List.length_append];exact Qb hown fun b hb=>by
  have hb:some rb=some b:=hb;injection hb with hb;subst hb;exact Below.heap_setCell _ _ _ _ hrm
theorem KN {F:Nat->Prop} {w w3 w5:World} {o:Option Nat} (h:Mods F w w3) (hg:w3.grownBy w5 o) (ho:∀b,o=some b->F b\/w.heap.size<=b):Mods F w w5:=
 ⟨hg.os.trans h.os,hg.tape.trans h.tape,hg.output.trans h.output,Nat.le_trans h.size hg.size,fun k hk hF=>(hg.block k (Nat.lt_of_lt_of_le hk h.size) (fun e=>by
  rcases ho k e.symm with h1|h1
  ·exact hF h1
  ·omega)).trans (h.block k hk hF)⟩
def RoomRel (w:World) (L:List Sl) (gg:Nat) (vl vi:Value) (wr:World):Prop:=
 ∃(i cap2:Nat) (so2:Option Addr),L.length-i=gg/\ .slice so2 (Qq (L.take i)).length cap2=vl/\ .int .i64 (i:Nat)=vi/\i<=L.length/\
  wr.ownsRow w.heap.size 186 11 (.slice so2 (Qq (L.take i)).length cap2) (Qq (L.take i)).length (ZA (Qq (L.take i)))/\Below w w wr
theorem Dc {W:World} {B:Nat} {L:List Sl} {i j:Nat} {so2:Option Addr} {cap2:Nat} (h:W.ownsRow B 186 11 (.slice so2 (Qq (L.take i)).length cap2) (Qq (L.take i)).length (ZA (Qq (L.take i)))) (e:Qq (L.take j)=Qq (L.take i)):
  W.ownsRow B 186 11 (.slice so2 (Qq (L.take j)).length cap2) (Qq (L.take j)).length (ZA (Qq (L.take j))):=by rw[e];exact h
theorem Pz {L:List Sl} (h:∀s∈L,s.g=true->s.v=V.nil) (n:Nat) {x:Sl} (hx:x.g=true->x.v=V.nil):∀s∈L.set n x,s.g=true->s.v=V.nil:=by
 intro s hs hg;rcases List.mem_or_eq_of_mem_set hs with h1|h1
 ·exact h s h1 hg
 ·rw[h1] at hg ⊢;exact hx hg
theorem Uw {w w2:World} {m rb cap n:Nat} {L L':List Sl} {vs:List Value} {o:Nat} (hO:SMap w m (.slice (some rb) L.length cap) L) (hb:Below w w w2) (hl:L'.length=L.length) (hr:YP (ZA L) o vs=ZA L') (hg:∀s∈L',s.g=true->s.v=V.nil) (_hn:n=n):
  SmPost w m (.slice (some rb) L.length cap) L' (.returned (.int .i64 0)) (setCells w2 rb o vs):=by
 have hmr:m≠rb:=by
  obtain⟨c2,hc⟩:=Qd hO.row (b:=rb) rfl;exact fun e=>QW hO.hm hc (by decide) e
 refine⟨rfl,_,⟨?_,?_,hg⟩,Zd (.inl (.inr rfl)) _ _ _ (Mods.of_below hb),fun _ h=> .inl h⟩
 ·rw[ZS hmr];exact QL hb hO.hm
 ·have h3:=ZG vs w2 (ZA L) o (QR (QV hb zl) hO.row);rw[hr] at h3;rw[hl];exact h3
def STabPost (w:World) (t m:Nat) (sv:Value) (L':List Sl) (e:Ending) (w':World):Prop:=
 e= .returned (.int .i64 0)/\∃sv',SMap w' m sv' L'/\Mods (SmF m sv) w w'/\∀b,sv'.ownBlock=some b->sv.ownBlock=some b\/w.heap.size<=b
def Zp (H:List RO) (v:V):Option RO:=
 if 1<=v.r then(match H[v.r.toNat-1]? with|some o=>if o.kind=v.k then some o else none|none=>none) else none
theorem Jl (H:List RO) (v:V):Ev (rlh H) v=(Zp H v).map RO.lo:=by
 unfold Ev Zp rlh;by_cases h:1<=v.r
 ·rw[if_pos h,if_pos h,List.getElem?_map];cases H[v.r.toNat-1]? with
  |none=>rfl
  |some o=>
   show(if o.lo.kind=v.k then some o.lo else none)=(if o.kind=v.k then some o else none).map RO.lo;by_cases hk:o.kind=v.k
   ·rw[if_pos hk];rw[if_pos (show o.lo.kind=v.k from hk)];rfl
   ·rw[if_neg hk];rw[if_neg (show¬o.lo.kind=v.k from hk)];rfl
 ·rw[if_neg h,if_neg h];rfl
theorem Jg {H:List RO} {v:V} {x:RO} (h:Zp H v=some x):∃i,H[i]? =some x/\x.kind=v.k/\v.r=((i:Nat):Int)+1/\x∈H:=by
 unfold Zp at h;split at h
 ·rename_i h1
  cases ho:H[v.r.toNat-1]? with
  |none=>rw[ho] at h;cases h
  |some o=>
   rw[ho] at h;simp only at h;split at h
   ·rename_i hk
    injection h with h;subst h;exact⟨_,ho,hk,by omega,List.mem_of_getElem? ho⟩
   ·cases h
 ·cases h
def Uq (H:List RO) (v:V):Int:=if (Zp H v).isSome&&(v.k==4) then 0 else 8
def GK (v:V):Int:=if v.k=3/\4096<v.s.size then 14 else if Qt v=true then 0 else 2
theorem Ul {v:V} (h:Qt v=true):GK v=0:=by
 have:=ZU h;unfold GK;rw[if_neg (by omega),if_pos h]
theorem P1 {v:V} (h:¬Qt v=true):GK v≠0:=by
 unfold GK;by_cases h1:v.k=3/\4096<v.s.size
 ·rw[if_pos h1];decide
 ·rw[if_neg h1,if_neg h];decide
def TouchR (W:World) (bt:Nat) (w':World):Prop:=(∃E',MapAt prog 3 w' bt E')/\Mods (· =bt) W w'/\W.heap.size<=w'.heap.size
theorem T4 {w:World} {bt:Nat} (hE:∃E,MapAt prog 3 w bt E) {r:Int} (hr:i64 r) (W:World) (hW:W.heap[bt]? =w.heap[bt]?):
  ∃w',(Instr.mapUpdate 87 (.map (some bt)) (.int .i64 r) (.bool true)).run prog W= .ok () w'/\TouchR W bt w':=by
 obtain⟨E,hE⟩:=hE;obtain⟨l,hl⟩:=RW hr;obtain⟨w',E',h1,h2,h3,h4,_⟩:=(hE.keep hW).store FK (e:=4) (t:=87) (by kernel_rfl) hl (.bool true);exact⟨w',h1,⟨E',h2⟩,h3,Nat.le_of_eq h4.symm⟩
def TouchPost (w:World) (h bo bt:Nat) (H:List PO) (e:Ending) (w':World):Prop:=e= .returned (.int .i64 0)/\HpAt w' h bo bt H/\Mods (· =bt) w w'
theorem Bc {w:World} {b:Nat} {E:List (Value×Value)} (hE:MapAt prog 3 w b E) (W:World) (hW:W.heap[b]? =w.heap[b]?) (ty:TypeId):
  (Builtin.len_ #[86] ty #[.map (some b)]).run prog W= .ok (.int .i64 (E.length:Nat)) W:=by
 obtain⟨es,c,hb,he,_⟩:=hE.keep hW;have h1:=run_len_map (P:=prog) W 86 ty b es c (by kernel_rfl) hb;rw[h1];have:es.size=E.length:=by rw[<-he,List.length_map,Array.length_toList]
 rw[this];rfl
def PutO (W:World) (bo:Nat) (E:List (Value×Value)) (w':World):Prop:=MapAt prog 3 w' bo E/\Mods (· =bo) W w'/\W.heap.size<=w'.heap.size
theorem SI {w:World} {bo:Nat} {H:List PO} (hE:MapAt prog 3 w bo (Xx H)) (hl:H.length<=1000) (o:Nat) (W:World) (hW:W.heap[bo]? =w.heap[bo]?):
  ∃w',(Instr.mapUpdate 86 (.map (some bo)) (.int .i64 ((H.length:Int)+1)) (.pointer (some o))).run prog W= .ok () w'/\
   PutO W bo (Xx H++[(.int .i64 ((H.length+1:Nat):Int),.pointer (some o))]) w':=by
 have hr:i64 ((H.length:Int)+1):=⟨by omega,by omega⟩
 obtain⟨l,hl⟩:=RW hr;obtain⟨w',E',h1,h2,h3,h4,_,h6⟩:=(hE.keep hW).store FK (e:=94) (t:=86) (by kernel_rfl) hl (.pointer (some o));have h7:E'=_:=h6 (fun p hp=>by
  obtain⟨i,x,hi,rfl⟩:=objE_mem.1 hp;have:=(List.getElem?_eq_some_iff.1 hi).1;intro e;injection e with _ e;omega)
 subst h7;exact⟨w',h1,h2,h3,Nat.le_of_eq h4.symm⟩
def AddPost (w:World) (h bo bt:Nat) (H:List PO) (x:PO) (e:Ending) (w':World):Prop:=
 e= .returned (.tuple #[.agg #[.int .i64 x.kind,(0:Int),(0:Int),.string ⟨#[]⟩,.int .i64 ((H.length:Int)+1)],.int .i64 0])/\HpAt w' h bo bt (H++[x])/\Mods (fun b=>b=h\/b=bo\/b=bt) w w'
def GrowPost (w:World) (h bo bt:Nat) (H:List PO) (o:LO) (e:Ending) (w':World):Prop:=
 (∃v,e= .returned v)/\∃x,HpAt w' h bo bt (H++[x])/\x.lo=o/\x.L=[]/\Mods (HpF h bo bt H) w w'/\∀b,(b=x.o\/(x.kind=4/\(b=x.t\/OmF x.m x.g x.sv b)))->w.heap.size<=b
theorem LA:(prog.info? 25).map (fun i=>(i.zero,i.size,i.bytes))=some (some (.agg #[(0:Int),(0:Int),(0:Int),.string ⟨#[]⟩,(0:Int)]),5,48):=by kernel_rfl
theorem BC {w3 W:World} {h bo bt:Nat} {H:List PO} {r:Nat} (hA:HpAt w3 h bo bt H) (hr:w3.heap[r]? =some (oV 0 0 0 ⟨#[]⟩ 0)) (hM:Mods (· =r) w3 W):HpAt W h bo bt H:=
 hA.keepF (fun b hb=>hM.block b (LC hA hb) (fun e=>by
  obtain⟨o,h1,h2⟩:=Mb hA hb;rw[e,hr] at h1;injection h1 with h1;subst h1;rcases h2 with h2|h2|h2|h2|h2<;>exact absurd h2 (by decide)))
theorem Z5 {F:Nat->Prop} {a w:World} (h:Mods F a w) {b:Nat} (hb:F b\/a<=b) (x y z u v:Value):Mods F a (((((w.setCell b x).setCell ⟨b,1,none⟩ y).setCell ⟨b,2,none⟩ z).setCell ⟨b,3,none⟩ u).setCell ⟨b,4,none⟩ v):=
 QQ (QQ (QQ (QQ (QQ h hb x) hb y) hb z) hb u) hb v
theorem Es {w W2 w3 W:World} {h bo bt:Nat} {H:List PO} {x:PO} {o:LO} (hH:HpAt w h bo bt H) (hb:Below w w W2) (hA:HpAt w3 h bo bt (H++[x])) (hM:Mods (fun b=>b=h\/b=bo\/b=bt) W2 w3) (hr:w3.heap[w.heap.size]? =some (oV 0 0 0 ⟨#[]⟩ 0))
  (hW:Mods (· =w.heap.size) w3 W) (ho:x.lo=o) (hL:x.L=[]) (hn:∀b,(b=x.o\/(x.kind=4/\(b=x.t\/OmF x.m x.g x.sv b)))->w.heap.size<=b) (v:Value):GrowPost w h bo bt H o (.returned v) W:=by
 refine⟨⟨v,rfl⟩,x,BC hA hr hW,ho,hL,?_,hn⟩;have h1:Mods (HpF h bo bt H) w w3:=(Mods.of_below hb).trans (hM.mono (fun k hk e=>by
  rcases e with e|e|e
  ·exact .inl e
  ·exact .inr (.inl e)
  ·exact .inr (.inr (.inl e))))
 exact⟨hW.os.trans h1.os,hW.tape.trans h1.tape,hW.output.trans h1.output,Nat.le_trans h1.size hW.size,fun k hk hF=>(hW.block k (Nat.lt_of_lt_of_le hk h1.size) (by omega)).trans (h1.block k hk hF)⟩
def RTouchPost (w:World) (h:Nat) (av uv:Value) (H:List RO) (e:Ending) (w':World):Prop:=e= .returned (.int .i64 0)/\RHpAt w' h av uv H/\Mods (fun b=>uv.ownBlock=some b) w w'
def RAddPost (w:World) (h:Nat) (av uv:Value) (H:List RO) (x:RO) (e:Ending) (w':World):Prop:=
 (∃v,e= .returned (.tuple #[.agg #[.int .i64 x.kind,(0:Int),(0:Int),.string ⟨#[]⟩,.int .i64 v],.int .i64 0]))/\∃av' uv',RHpAt w' h av' uv' (H++[x])/\Mods (fun b=>b=h\/av.ownBlock=some b\/uv.ownBlock=some b) w w'/\
  (∀b,av'.ownBlock=some b->av.ownBlock=some b\/w.heap.size<=b)/\(∀b,uv'.ownBlock=some b->uv.ownBlock=some b\/w.heap.size<=b)
theorem Ov {w W:World} {h:Nat} {av uv:Value} {H:List RO} {x:RO} (hM:Mods (fun b=>b=h\/av.ownBlock=some b\/uv.ownBlock=some b) w W) (hH:RHpAt w h av uv H) (hx:RObj w x) (hn:x.sv.ownBlock=none):RObj W x:=by
 obtain⟨bs,hTc⟩:=hH.tch;have kc:∀{b:Nat} {cs:Array Value} {t:TypeId} {fz:Nat×Nat},w.heap[b]? =some (.cells cs t fz)->t≠93->t≠97->t≠4->W.heap[b]? =w.heap[b]? :=fun hb h1 h2 h3=>hM.block _ (Array.getElem?_eq_some_iff.1 hb).1 (fun e=>by
  rcases e with e|e|e
  ·exact QW hb hH.hh h1 e
  ·obtain⟨c2,hc⟩:=Qd hH.row e;exact QW hb hc h2 rfl
  ·obtain⟨c2,hc⟩:=Qd hTc e;exact QW hb hc h3 rfl)
 refine⟨hx.kd,hx.wm,hx.fm,fun h4=>(hx.tb h4).keep (fun b hb=> ?_)⟩;have hS:=hx.tb h4;rcases hb with rfl|rfl|hb
 ·exact kc hS.ht (by decide) (by decide) (by decide)
 ·exact kc hS.om.hm (by decide) (by decide) (by decide)
 ·rw[hn] at hb;cases hb
theorem RHpAt.add2 {w w':World} {h:Nat} {av uv av' uv':Value} {H:List RO} {x:RO} (hH:RHpAt w h av uv H) (hM:Mods (fun b=>b=h\/av.ownBlock=some b\/uv.ownBlock=some b) w w')
  (hh:w'.heap[h]? =some (.cells #[av',.int .i64 ((H.length:Int)+1),uv'] 93)) (hr:w'.ownsRow 0 97 11 av' (H.length+1) (Zv H++x.cells))
  (ht:∃bs:List Bool,w'.ownsRow 0 4 1 uv' (H.length+1) (bs.map .bool)) (hx:RObj w' x) (hsep:∀y∈H,RSep y x):RHpAt w' h av' uv' (H++[x]):=by
 obtain⟨bs,hTc⟩:=hH.tch;have kc:∀{b:Nat} {cs:Array Value} {t:TypeId} {fz:Nat×Nat},w.heap[b]? =some (.cells cs t fz)->t≠93->t≠97->t≠4->w'.heap[b]? =w.heap[b]? :=fun hb h1 h2 h3=>hM.block _ (Array.getElem?_eq_some_iff.1 hb).1 (fun e=>by
  rcases e with e|e|e
  ·exact QW hb hH.hh h1 e
  ·obtain⟨c2,hc⟩:=Qd hH.row e;exact QW hb hc h2 rfl
  ·obtain⟨c2,hc⟩:=Qd hTc e;exact QW hb hc h3 rfl)
 refine⟨?_,?_,?_,fun y hy=> ?_,?_⟩
 ·rw[List.length_append];exact hh
 ·rw[List.length_append];have:Zv (H++[x])=Zv H++x.cells:=by
   unfold Zv;rw[List.flatMap_append]
   congr 1
  rw[this];exact hr
 ·rw[List.length_append];exact ht
 ·rcases List.mem_append.1 hy with hy|hy
  ·have hyo:=hH.one y hy;refine⟨hyo.kd,hyo.wm,hyo.fm,fun hy4=>(hyo.tb hy4).keep (fun b hb=> ?_)⟩;have hS:=hyo.tb hy4;rcases hb with rfl|rfl|hb
   ·exact kc hS.ht (by decide) (by decide) (by decide)
   ·exact kc hS.om.hm (by decide) (by decide) (by decide)
   ·obtain⟨c3,h3⟩:=Qd hS.om.row hb;exact kc h3 (by decide) (by decide) (by decide)
  ·rw[List.mem_singleton] at hy;subst hy;exact hx
 ·rw[List.pairwise_append];refine⟨hH.sep,List.pairwise_singleton _ _,fun y hy z hz=> ?_⟩;rw[List.mem_singleton] at hz;subst hz;exact hsep y hy
theorem Sg:(prog.info? 97).map (fun i=>(i.zero,i.size,i.bytes))=some (some (.agg #[(0:Int),(0:Int),.string ⟨#[]⟩,.pointer none,(0:Int),(0:Int),(0:Int),.string ⟨#[]⟩,(0:Int),.slice none 0 0,.slice none 0 0]),11,136):=by kernel_rfl
theorem RY:(prog.info? 4).map (fun i=>(i.zero,i.size,i.bytes))=some (some (.bool false),1,1):=by kernel_rfl
def SSetPost (w:World) (h:Nat) (av uv:Value) (H:List RO) (i:Nat) (x:RO) (L':List Sl) (e:Ending) (w':World):Prop:=
 (∃v,e= .returned v)/\∃sv',RHpAt w' h av uv (H.set i {x with sv:=sv',L:=L'})/\Mods (RF h av uv H) w w'/\∀b,sv'.ownBlock=some b->x.sv.ownBlock=some b\/w.heap.size<=b
def HSetPost (w:World) (h bo bt:Nat) (H:List PO) (i:Nat) (x:PO) (L':List Sl) (e:Ending) (w':World):Prop:=
 (∃v,e= .returned v)/\∃sv',HpAt w' h bo bt (H.set i {x with sv:=sv',L:=L'})/\Mods (HpF h bo bt H) w w'/\∀b,sv'.ownBlock=some b->x.sv.ownBlock=some b\/w.heap.size<=b
theorem GD {w:World} {x:PO} {t:TypeId} (h:w.heap[x.o]? =some (.cells x.cells t)) (k p q:Int) (s:ByteArray) (r:Int):
  (((((w.setCell ⟨x.o,4,none⟩ (.int .i64 k)).setCell ⟨x.o,5,none⟩ (.int .i64 p)).setCell ⟨x.o,6,none⟩ (.int .i64 q)).setCell ⟨x.o,7,none⟩ (.string s)).setCell ⟨x.o,8,none⟩ (.int .i64 r)).heap[x.o]? =some (.cells {x with mt:=⟨k,p,q,s,r⟩}.cells t):=
 Ql (Ql (Ql (Ql (Ql h 4 _) 5 _) 6 _) 7 _) 8 _
theorem G4 (w:World) (o:Nat) (x y z u v:Value):Mods (fun b=>b=o) w (((((w.setCell ⟨o,4,none⟩ x).setCell ⟨o,5,none⟩ y).setCell ⟨o,6,none⟩ z).setCell ⟨o,7,none⟩ u).setCell ⟨o,8,none⟩ v):=
 QQ (QQ (QQ (QQ (QQ (F:=fun b=>b=o) (Mods.refl _ w) (.inl rfl) x) (.inl rfl) y) (.inl rfl) z) (.inl rfl) u) (.inl rfl) v
def HMetaPost (w:World) (h bo bt:Nat) (H:List PO) (i:Nat) (x:PO) (m:V) (e:Ending) (w':World):Prop:=
 (∃v,e= .returned v)/\HpAt w' h bo bt (H.set i {x with mt:=m})/\Mods (HpF h bo bt H) w w'
theorem Kf {base n:Nat} {w w':World} {h:Nat} {M M':LH} {c:Int} {e:Ending} (hP:PHp base n w h M) (hM:M'=M) (hpost:IntPost w c e w'):(∃v,e= .returned v)/\PHp base n w' h M'/\BM base PB w w':=by
 subst hM;exact⟨⟨_,hpost.1⟩,hP.below hpost.2,BM.of_below hpost.2⟩
theorem M8 {s:ByteArray} (h:¬s.size<=4096):Qt (KR s)=false:=by
 unfold Qt KR Xh;simp[h]
def SMetaPost (w:World) (h:Nat) (av uv:Value) (H:List RO) (i:Nat) (x:RO) (m:V) (e:Ending) (w':World):Prop:=
 (∃v,e= .returned v)/\RHpAt w' h av uv (H.set i {x with mt:=m})/\Mods (RF h av uv H) w w'
theorem Jp {base n:Nat} {w w':World} {h:Nat} {M M':LH} {c:Int} {e:Ending} (hP:RHp base n w h M) (hM:M'=M) (hpost:IntPost w c e w'):(∃v,e= .returned v)/\RHp base n w' h M'/\BM base SB w w':=by
 subst hM;exact⟨⟨_,hpost.1⟩,hP.below hpost.2,BM.of_below hpost.2⟩
theorem rtab_find {H:List RO} {v:V}:E1 (rlh H) v=((Zp H v).isSome&&(v.k==4)):=by
 unfold E1;rw[Jl];cases hf:Zp H v with
 |none=>rfl
 |some x=>
  obtain⟨i,hi,hk,hri,hxm⟩:=Jg hf;show(x.kind==4)=(true&&(v.k==4));rw[hk];rfl
def RGrow (w:World) (h:Nat) (av uv:Value) (H:List RO) (o:LO) (e:Ending) (w':World):Prop:=
 (∃v,e= .returned v)/\∃av' uv' x,RHpAt w' h av' uv' (H++[x])/\x.lo=o/\x.L=[]/\Mods (RF h av uv H) w w'/\
  (∀b,av'.ownBlock=some b->av.ownBlock=some b\/w.heap.size<=b)/\(∀b,uv'.ownBlock=some b->uv.ownBlock=some b\/w.heap.size<=b)/\∀b,x.kind=4/\(b=x.t\/SmF x.m x.sv b)->w.heap.size<=b
theorem Ox {w3 W:World} {h:Nat} {av uv:Value} {H:List RO} {r:Nat} {k p q:Int} {s:ByteArray} {c:Int} (hA:RHpAt w3 h av uv H) (hr:w3.heap[r]? =some (oV k p q s c)) (hM:Mods (· =r) w3 W):RHpAt W h av uv H:=
 hA.keepF (fun b hb=>by
  obtain⟨o,h1,h2⟩:=F9 hA hb;refine hM.block b (Array.getElem?_eq_some_iff.1 h1).1 (fun e=> ?_);rw[e,hr] at h1;injection h1 with h1;subst h1;rcases h2 with h2|h2|h2|h2|h2|h2<;>exact absurd h2 (by decide))
theorem XU {w W2 w3 W:World} {h:Nat} {av uv av' uv':Value} {H:List RO} {x:RO} {o:LO} (hb:Below w w W2) (hA:RHpAt w3 h av' uv' (H++[x])) (hM:Mods (fun b=>b=h\/av.ownBlock=some b\/uv.ownBlock=some b) W2 w3)
  (h3:∀b,av'.ownBlock=some b->av.ownBlock=some b\/W2.heap.size<=b) (h4:∀b,uv'.ownBlock=some b->uv.ownBlock=some b\/W2.heap.size<=b) (hr:w3.heap[w.heap.size]? =some (oV 0 0 0 ⟨#[]⟩ 0))
  (hW:Mods (· =w.heap.size) w3 W) (ho:x.lo=o) (hL:x.L=[]) (hn:∀b,x.kind=4/\(b=x.t\/SmF x.m x.sv b)->w.heap.size<=b) (v:Value):RGrow w h av uv H o (.returned v) W:=by
 have h1:Mods (RF h av uv H) w w3:=(Mods.of_below hb).trans (hM.mono (fun k hk e=>by
  rcases e with e|e|e
  ·exact .inl e
  ·exact .inr (.inl e)
  ·exact .inr (.inr (.inl e))))
 refine⟨⟨v,rfl⟩,av',uv',x,Ox hA hr hW,ho,hL,?_,fun b hb2=> ?_,fun b hb2=> ?_,hn⟩
 ·exact⟨hW.os.trans h1.os,hW.tape.trans h1.tape,hW.output.trans h1.output,Nat.le_trans h1.size hW.size,fun k hk hF=>(hW.block k (Nat.lt_of_lt_of_le hk h1.size) (by omega)).trans (h1.block k hk hF)⟩
 ·rcases h3 b hb2 with h|h
  ·exact .inl h
  ·exact .inr (Nat.le_trans hb.size h)
 ·rcases h4 b hb2 with h|h
  ·exact .inl h
  ·exact .inr (Nat.le_trans hb.size h)
theorem Mp (w:World) (x0 x1 x2 x3 x4:Value) (t:TypeId) (B:Nat) (hB:B=w.heap.size):∀j u,[x0,x1,x2,x3,x4][j]? =some u->(w.alloc (.cells #[x0,x1,x2,x3,x4] t)).cell? ((⟨B,0,none⟩:Addr).add j)=some u:=by
 intro j u hj;subst hB;have e:(⟨w.heap.size,0,none⟩:Addr).add j=⟨w.heap.size,j,none⟩:=by unfold Addr.add;split<;>simp_all
 rw[e,QA (Qg _ _)];simpa using hj
def DRel (w0:World) (base gg:Nat) (sv iv:Value) (wr:World):Prop:=∃(j:Nat) (so:Option Addr) (cap:Nat) (xs:List Value),iv= .int .i64 (j:Nat)/\sv= .slice so j cap/\16-j=gg/\j<=16/\wr.ownsRow base 25 5 sv j xs/\Below base w0 wr
theorem KM {w:World} {b:Nat} {o:Obj} (h:w.heap[b]? =some o) (o1 o2 o3:Obj):(((w.alloc o1).alloc o2).alloc o3).heap[b]? =some o:=QL (QM w o1 o2 o3) h
end Go.Proofs.YthkpckgcgkijbaaGreatDoor
