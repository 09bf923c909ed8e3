import Derived.Test.YthkpckgcgkijbaaGreatDoorOmD
import Derived.Test.YthkpckgcgkijbaaGreatDoorOpD
set_option linter.unusedVariables false
set_option linter.unusedSimpArgs false
set_option maxRecDepth 100000
set_option maxHeartbeats 8000000
namespace Go.Proofs.YthkpckgcgkijbaaGreatDoor
open Go.RowKit Go.Proofs.Lexi Go.Proofs.Tryz
theorem BZ {T Dt i:Int} (hi:i64 i):WfV (KB T Dt i):=by
 unfold KB;refine⟨?_,show i64 0 from⟨by decide,by decide⟩,show i64 0 from⟨by decide,by decide⟩,show(0:Nat)<=maxLen from Nat.zero_le _,hi⟩;show i64 (if i<=T then 4 else if i<=T+Dt then 8 else 5);split
 ·exact⟨by decide,by decide⟩
 ·split<;>exact⟨by decide,by decide⟩
theorem RHp.base {base base' n:Nat} {w:World} {h:Nat} {M:LH} (hP:RHp base n w h M) (hb:base'<=base):RHp base' n w h M:=by
 obtain⟨av,uv,H,h1,h2,h3,h4⟩:=hP.ex;exact⟨av,uv,H,h1,h2,h3,fun b hb2=>Nat.le_trans hb (h4 b hb2)⟩
abbrev Fd.cells (f:Fd):List Value:=[.int .i64 f.kind,.int .i64 f.t,.int .i64 f.m,.string f.name,.int .i64 f.val.k,.int .i64 f.val.p,.int .i64 f.val.q,.string f.val.s,.int .i64 f.val.r]
theorem Fl (H:LH) (v m:V):(Zc H v m).length=H.length:=by
 unfold Zc;split
 ·split
  ·rw[List.length_set]
  ·rfl
 ·rfl
theorem Lq (H:LH) (t:V) (s:ByteArray) (v:V):(Fm H t s v).length=H.length:=by
 unfold Fm;split
 ·split
  ·rw[List.length_set]
  ·rfl
 ·rfl
theorem YD (T Dt:Int):∀(fs:List Fd) (H:LH),(fs.foldl (Ja T Dt) H).length=H.length
 |[],_=>rfl
 |f::fs,H=>by
  rw[List.foldl_cons,YD T Dt fs];unfold Ja;split
  ·exact Fl _ _ _
  ·exact Lq _ _ _ _
theorem YC {fs:List Fd} {j:Nat} {f:Fd} (hf:fs[j]? =some f) (T Dt:Int) (M:LH):(fs.take (j+1)).foldl (Ja T Dt) M=Ja T Dt ((fs.take j).foldl (Ja T Dt) M) f:=by
 rw[List.take_add_one,hf,Option.toList_some,List.foldl_append];rfl
theorem Gi (T Dt F:Nat):(GN T Dt F).length=T+Dt+F:=by
 unfold GN;simp;omega
structure FdWf (f:Fd):Prop where
 t:i64 f.t
 m:i64 f.m
 v:WfV f.val
theorem K9 (M:LH) (o:LO) (j:Nat):M++List.replicate j o++[o]=M++List.replicate (j+1) o:=by rw[List.append_assoc,List.replicate_succ']
def GRel (w0:World) (base hp hs:Nat) (M:LH) (o:LO) (N gg:Nat) (iv:Value) (wr:World):Prop:=
 ∃j:Nat,iv= .int .i64 (j:Nat)/\N-j=gg/\j<=N/\PHp base 0 wr hp (M++List.replicate j o)/\RHp base 0 wr hs (M++List.replicate j o)/\Below base w0 wr
def FRel (w0:World) (base hp hs:Nat) (T Dt:Int) (M:LH) (fs:List Fd) (gg:Nat) (iv:Value) (wr:World):Prop:=
 ∃j:Nat,iv= .int .i64 (j:Nat)/\fs.length-j=gg/\j<=fs.length/\PHp base j wr hp ((fs.take j).foldl (Ja T Dt) M)/\RHp base j wr hs ((fs.take j).foldl (Ja T Dt) M)/\Below base w0 wr
end Go.Proofs.YthkpckgcgkijbaaGreatDoor
namespace Go.Proofs.YthkpckgcgkijbaaGreatDoor
open Go.ChangeShapes Go.WideShapes Go.ChangeAt Go.WideMaps Go.WideElems Go.RowKit Go.Proofs.Tryz
theorem UW:∃fs,prog.underlying 35=some (.struct fs)/\fs.toList.map (fun f=>(f.type,f.offset))=[(3,0),(3,1),(3,2),(33,3)]:=Jy (by kernel_rfl)
theorem NJ:∃fs,prog.underlying 66=some (.struct fs)/\fs.toList.map (fun f=>(f.type,f.offset))=[(3,0),(3,1),(3,2),(9,3),(25,4)]:=Jy (by kernel_rfl)
theorem Mq:prog.cellsOf 35=4:=by kernel_rfl
theorem Tv:prog.cellsOf 33=1:=by kernel_rfl
theorem Ye:prog.cellsOf 66=9:=by kernel_rfl
theorem Fe:prog.underlying 33=some (.slice 66):=by kernel_rfl
theorem Sf {α:Type} {l:List α} (h:l.length=4):∃a b c d,l=[a,b,c,d]:=by
 match l,h with
 |[a,b,c,d],_=>exact⟨a,b,c,d,rfl⟩
theorem Se {α:Type} {l:List α} (h:l.length=9):∃a b c d e f g h i,l=[a,b,c,d,e,f,g,h,i]:=by
 match l,h with
 |[a,b,c,d,e,f,g,h,i],_=>exact⟨a,b,c,d,e,f,g,h,i,rfl⟩
theorem Sd {α:Type} {P:Nat->α->Prop}:∀(n:Nat),(∀k,k<n->∃x,P k x)->∃l:List α,l.length=n/\∀k x,l[k]? =some x->P k x:=by
 intro n
 induction n with
 |zero=>exact fun _=>⟨[],rfl,fun k x h=>by simp at h⟩
 |succ n ih=>
  intro h;obtain⟨l,hl,hp⟩:=ih (fun k hk=>h k (by omega));obtain⟨x,hx⟩:=h n (by omega);refine⟨l++[x],by simp[hl],fun k y hy=> ?_⟩;by_cases hk:k<l.length
  ·rw[List.getElem?_append_left hk] at hy;exact hp k y hy
  ·rw[List.getElem?_append_right (by omega)] at hy;have hlt:=(List.getElem?_eq_some_iff.1 hy).1;simp at hlt;have e:k=n:=by omega
   subst e;rw[hl,Nat.sub_self] at hy;simp at hy;rw[<-hy];exact hx
theorem Uf {H:Type} {enc:TypeId×Value->H} {w:World} {base:Nat} {sp:Nat->Bool} {held:Bool} {fuel:Nat} {cs:List Value} {x:DataW H×List MemPlace} (h:DataW.trod enc prog w base sp held fuel 66 cs=some x):
  ∃f:Fd,cs=f.cells/\FdWf f:=by
 obtain⟨hl,n,hf⟩:=K4 NJ h;rw[Ye] at hl;obtain⟨y0,h0⟩:=hf 0 3 0 rfl;obtain⟨y1,h1⟩:=hf 1 3 1 rfl;obtain⟨y2,h2⟩:=hf 2 3 2 rfl;obtain⟨y3,h3⟩:=hf 3 9 3 rfl;obtain⟨y4,h4⟩:=hf 4 25 4 rfl;rw[celT3] at h0 h1 h2;rw[celT9] at h3;rw[zc25] at h4;obtain⟨a,b,c,d,e,f,g,h,i,hcs⟩:=Se hl;rw[hcs] at h0 h1 h2 h3 h4;obtain⟨k,hk,_,wk⟩:=DataW.trod_int underlying3 h0;obtain⟨t,ht,_,wt⟩:=DataW.trod_int underlying3 h1;obtain⟨m,hm,_,wm⟩:=DataW.trod_int underlying3 h2;obtain⟨s,hs,_,ws⟩:=DataW.trod_string underlying9 h3;obtain⟨v,hv,wv⟩:=Ug h4;simp at hk ht hm hs hv;obtain⟨v1,v2,v3,v4,v5⟩:=hv;subst hk ht hm hs v1 v2 v3 v4 v5;exact⟨⟨k,t,m,s,v⟩,hcs,⟨KL wt,KL wm,wv⟩⟩
theorem YX {H:Type} {enc:TypeId×Value->H} {w:World} {b0:Nat} {sp:Nat->Bool} {v:Value} {d:DataW H} {ps:List MemPlace} (hval:Value.okWide prog w .any b0 35 v) (h:DataW.Trod enc prog w 0 sp true 35 v d ps):
  ∃(T D F:Int) (so:Option Addr) (cap:Nat) (fs:List Fd),v= .agg #[T,D,F,.slice so fs.length cap]/\(∀f∈fs,FdWf f)/\
   (0<fs.length->∃g o,so=some ⟨g,o,none⟩/\g<w.heap.size/\∀k f,fs[k]? =some f->∀j c,f.cells[j]? =some c->w.cell? ⟨g,o+k*9+j,none⟩=some c):=by
 obtain⟨fs,hfs,_⟩:=UW;obtain⟨cs,rfl,_,_⟩:∃cs,v= .agg cs/\cs.size=prog.cellsOf 35/\Row.okWide prog w .any b0 35 cs:=by
  unfold Value.okWide at hval;rw[hfs] at hval;exact hval
 obtain⟨fuel,h⟩:=h;obtain⟨hl,n,hf⟩:=K4 UW h;rw[Mq] at hl;obtain⟨y0,h0⟩:=hf 0 3 0 rfl;obtain⟨y1,h1⟩:=hf 1 3 1 rfl;obtain⟨y2,h2⟩:=hf 2 3 2 rfl;obtain⟨y3,h3⟩:=hf 3 33 3 rfl;rw[celT3] at h0 h1 h2;rw[Tv] at h3;have hl2:cs.toList.length=4:=hl;have e0:(Value.cells (.agg cs)).toList=cs.toList:=rfl;rw[e0] at h0 h1 h2 h3;obtain⟨a,b,c,s,hcs⟩:=Sf hl2;rw[hcs] at h0 h1 h2 h3;obtain⟨T,hT,_,_⟩:=DataW.trod_int underlying3 h0;obtain⟨D,hD,_,_⟩:=DataW.trod_int underlying3 h1;obtain⟨F,hF,_,_⟩:=DataW.trod_int underlying3 h2;simp at hT hD hF;subst hT hD hF;have hv:∀x:Value,s=x->Value.agg cs= .agg #[T,D,F,x]:=fun x hx=>congrArg Value.agg (Array.toList_inj.1 (by rw[hcs,hx]));rcases DataW.trod_slice Fe h3 with⟨e,_⟩|⟨ad,len,cap,elems,rest,m,_,e,_,_,hlc,_,hel,hin,_⟩
 ·simp at e;exact⟨T,D,F,none,0,[],hv _ e,fun f hf=>absurd hf (by simp),fun h=>absurd h (by simp)⟩
 ·simp at e;obtain⟨g,o,spot⟩:=ad;have hadd:∀a n,(⟨g,a,none⟩:Addr).add n=⟨g,a+n,none⟩:=fun a n=>by
   unfold Addr.add;split
   ·rename_i h
    subst h;rfl
   ·rfl
  have hfirst:0<len->spot=none:=by
   intro h;have h0:=hin 0 h;rw[List.getElem?_eq_getElem (by omega),Option.bind_eq_some_iff,Ye] at h0;obtain⟨cs,hc,ht⟩:=h0;obtain⟨f,rfl,wf⟩:=Uf ht;obtain⟨_,_,hcell⟩:=World.cells?_some hc;have e0:=hcell 0 (by simp);simpa [Addr.add] using World.cell?_spot e0
  have each:∀k,k<len->∃f:Fd,FdWf f/\spot=none/\g<w.heap.size/\∀j c,f.cells[j]? =some c->w.cell? ⟨g,o+k*9+j,none⟩=some c:=by
   intro k hk;have h0:=hin k hk;rw[List.getElem?_eq_getElem (by omega),Option.bind_eq_some_iff,Ye] at h0;obtain⟨cs,hc,ht⟩:=h0;obtain⟨f,rfl,wf⟩:=Uf ht;obtain⟨_,_,hcell⟩:=World.cells?_some hc;have e0:=hcell 0 (by simp);have hspot:=hfirst (by omega);subst hspot;rw[hadd,hadd] at e0;refine⟨f,wf,rfl,Sp e0,fun j c hj=> ?_⟩;have hlt:=(List.getElem?_eq_some_iff.1 hj).1;have h1:=hcell j (by simpa using hlt);rw[hadd,hadd] at h1;rw[h1,<-hj]
  obtain⟨fs,hlen,hfs⟩:=Sd len each;refine⟨T,D,F,some ⟨g,o,spot⟩,cap,fs,hv _ (by rw[e,hlen]),fun f hf=> ?_,fun hpos=> ?_⟩
  ·obtain⟨k,hk⟩:=List.getElem?_of_mem hf;exact(hfs k f hk).1
  ·obtain⟨f0,_,hs,hg,_⟩:=each 0 (by omega);subst hs;exact⟨g,o,rfl,hg,fun k f hk j c hj=>(hfs k f hk).2.2.2 j c hj⟩
end Go.Proofs.YthkpckgcgkijbaaGreatDoor
namespace Go.Proofs.YthkpckgcgkijbaaGreatDoor
open Go.RowKit Go.Proofs.Lexi Go.Proofs.Tryz
abbrev v5 (v:V):List Value:=[.int .i64 v.k,.int .i64 v.p,.int .i64 v.q,.string v.s,.int .i64 v.r]
abbrev ndV (n:Nd) (av:Value):Value:= .agg #[.int .i64 n.k,.int .i64 n.v.k,.int .i64 n.v.p,.int .i64 n.v.q,.string n.v.s,.int .i64 n.v.r,.int .i64 n.f.k,.int .i64 n.f.p,.int .i64 n.f.q,.string n.f.s,.int .i64 n.f.r,av,.int .i64 n.after,.string n.s]
def ArgsAt (w:World) (base:Nat) (av:Value) (l:List V):Prop:=
 (l=[]/\av= .slice none 0 0)\/∃(g:Nat) (a b:V),l=[a,b]/\av= .slice (some g) 2 2/\base<=g/\w.heap[g]? =some (.cells #[.int .i64 a.k,.int .i64 a.p,.int .i64 a.q,.string a.s,.int .i64 a.r,.int .i64 b.k,.int .i64 b.p,.int .i64 b.q,.string b.s,.int .i64 b.r] 25)
def NdPost (w:World) (n:Nd) (e:Ending) (w':World):Prop:=∃av,e= .returned (ndV n av)/\ArgsAt w' w.heap.size av n.args/\Below w w w'
theorem ArgsAt.below {w w':World} {base:Nat} {av:Value} {l:List V} (h:ArgsAt w base av l) (hb:Below w w w'):ArgsAt w' base av l:=by
 rcases h with h|⟨g,a,b,h1,h2,h3,h4⟩
 ·exact .inl h
 ·exact .inr ⟨g,a,b,h1,h2,h3,QL hb h4⟩
theorem ArgsAt.base {w:World} {base base':Nat} {av:Value} {l:List V} (h:ArgsAt w base av l) (hb:base'<=base):ArgsAt w base' av l:=by
 rcases h with h|⟨g,a,b,h1,h2,h3,h4⟩
 ·exact .inl h
 ·exact .inr ⟨g,a,b,h1,h2,Nat.le_trans hb h3,h4⟩
abbrev oNd:Obj:= .cells #[(0:Int),(0:Int),(0:Int),(0:Int),.string ⟨#[]⟩,(0:Int),(0:Int),(0:Int),(0:Int),.string ⟨#[]⟩,(0:Int),.slice none 0 0,(0:Int),.string ⟨#[]⟩] 43
end Go.Proofs.YthkpckgcgkijbaaGreatDoor
namespace Go.Proofs.YthkpckgcgkijbaaGreatDoor
open Go.RowKit Go.Proofs.Tryz
theorem Yh {p q:Int} (hq:0<q) {a:N2} (h:KG p q= .ok a):QT a=true:=by
 unfold KG KH at h;split at h
 ·rename_i hc
  injection h with h;subst h;rw[Bool.and_eq_true,inTop_iff,decide_eq_true_eq] at hc;have hg:0<Int.gcd p q:=Kh (by omega);rw[validN_iff];refine⟨?_,hc.2,hc.1.1,hc.1.2,Int.gcd_ediv_gcd_ediv_gcd hg⟩;have h1:(Int.gcd p q:Int) ∣ q:=Int.gcd_dvd_right ..;have h2:=Int.ediv_pos_of_pos_of_dvd hq (by omega) h1;show 1<=q/(Int.gcd p q:Int);omega
 ·cases h
theorem Mx {p q:Int} (hq:q≠0) {a:N2} (h:JS p q= .ok a):QT a=true:=by
 unfold JS at h;split at h
 ·exact Yh (by omega) h
 ·exact Yh (by omega) h
theorem YK {p q:Int} {a:N2} (h:Q2 p q= .ok a):QT a=true:=by
 unfold Q2 at h;split at h
 ·cases h
 ·rename_i hq
  split at h
  ·exact Mx hq h
  ·cases h
theorem Mz {l:List Nat} {P:Nat} {a:N2} (h:P3 l P= .ok a):QT a=true:=by
 unfold P3 at h;split at h
 ·cases h
 ·split at h
  ·cases h
  ·exact YK h
theorem My {l:List Nat} {a:N2} (h:Be l= .ok a):QT a=true:=by
 unfold Be at h;split at h
 ·cases h
 ·exact YK h
theorem Up {t:List Nat} {a:N2} (h:(Q0 t).2= .ok a):QT a=true:=by
 unfold Q0 at h;split at h
 ·exact My h
 ·split at h
  ·cases h
  ·split at h<;>exact Mz h
theorem Xy {p q:List Nat} {a:N2} (h:Z6 p q= .ok a):QT a=true:=by
 unfold Z6 at h;split at h
 ·split at h
  ·split at h
   ·cases h
   ·exact YK h
  ·cases h
 ·cases h
theorem J9 {t:List Nat} {a:N2} (h:Q4 t= .ok a):QT a=true:=by
 unfold Q4 at h;split at h
 ·split at h
  ·cases h
  ·exact Up h
 ·exact Xy h
theorem Fc {R:RR} (hR:∀a,R= .ok a->QT a=true) {a:N2} (h:G5 R= .ok a):QT a=true:=by
 cases R with
 |error c=>cases h
 |ok x=>
  injection h with h;subst h;have:=validN_iff.1 (hR x rfl);rw[validN_iff];refine⟨this.1,this.2.1,?_,?_,?_⟩
  ·show-2147483647<= -x.1;omega
  ·show-x.1<=2147483647;omega
  ·show Int.gcd (-x.1) x.2=1;rw[Int.neg_gcd];exact this.2.2.2.2
theorem Fb {l:List Nat} {a:N2} (h:Je l= .ok a):QT a=true:=by
 unfold Je at h;cases ht:Ys l with
 |nil=>
  rw[ht] at h;have h:Q4 []= .ok a:=h;exact J9 h
 |cons c r=>
  rw[ht] at h;have h:(if c=45 then G5 (Q4 r) else Q4 (c::r))= .ok a:=h;split at h
  ·exact Fc (fun x hx=>J9 hx) h
  ·exact J9 h
theorem Yi {v:V} {x:N2} (h:ZW v= .ok x):QT x=true:=by
 unfold ZW at h;split at h
 ·split at h
  ·rename_i hv;injection h with h;subst h;exact hv
  ·cases h
 ·split at h
  ·split at h
   ·rename_i a ha;injection h with h;subst h;exact Fb ha
   ·cases h
  ·cases h
theorem YS {p q:Int} {c:Nat} (h:JS p q= .error c):c=6:=by
 unfold JS KG at h;split at h<;>exact Dg h
theorem A9 {n:Int} {c:Nat} (h:Jk n= .error c):c=6:=by
 unfold Jk at h;split at h
 ·cases h
 ·injection h with h;exact h.symm
theorem KE {a b:N2} (ha:QT a=true) (hb:QT b=true) (f:RR):YI a b f=f:=by
 unfold YI;rw[ha,hb];rfl
theorem TH {M:RR} {c:Nat} (hM:∀d,M= .error d->d=2\/d=6\/d=7) (h:Dn M= .error c):c=6\/c=7:=by
 cases M with
 |ok a=>cases h
 |error d=>
  have:=hM d rfl;injection h with h;split at h<;>omega
theorem TI {n:Bool} {P Q:Option Int} {c:Nat} (h:Do n P Q= .error c):c=6:=by
 unfold Do at h;split at h
 ·split at h<;>exact YS h
 ·injection h with h;exact h.symm
theorem SQ {a n:N2} {c:Nat} (h:Dm a n= .error c):c=2\/c=6\/c=7:=by
 unfold Dm at h;split at h
 ·split at h
  ·injection h with h;omega
  ·have:=TI h;omega
 ·injection h with h;omega
theorem BE {o:Int} (ho:(9<=o/\o<=13)\/o=23) {x y:N2} (hx:QT x=true) (hy:QT y=true) {c:Nat} (h:JU o x y= .error c):c=6\/c=8:=by
 have h1:K0 o=true:=by unfold K0;simp;omega
 have h2:QT (GR o y)=true:=by
  unfold GR;split
  ·decide
  ·exact hy
 rw[JL h1,hx,h2] at h;have h:XG o x (GR o y)= .error c:=h;unfold XG at h;by_cases h3:x.2=1/\(GR o y).2=1
 ·rw[if_pos h3] at h;exact .inl (A9 h)
 ·rw[if_neg h3] at h;injection h with h;omega
theorem LX {o:Int} (ho:(1<=o/\o<=7)\/o=20\/(9<=o/\o<=13)\/o=23) {x y:N2} (hx:QT x=true) (hy:QT y=true) {c:Nat} (h:J8 o x y= .error c):c=6\/c=7\/c=8:=by
 unfold J8 at h;split at h
 ·unfold La at h;rw[KE hx hy] at h;exact .inl (YS h)
 ·split at h
  ·unfold M7 at h;rw[KE hx hy] at h;exact .inl (YS h)
  ·split at h
   ·unfold Av at h;rw[KE hx hy] at h;exact .inl (YS h)
   ·split at h
    ·unfold Bg at h;rw[KE hx hy] at h;split at h
     ·injection h with h;omega
     ·exact .inl (YS h)
    ·split at h
     ·unfold Dh at h;rw[KE hx hy] at h;split at h
      ·injection h with h;omega
      ·exact .inl (A9 h)
     ·split at h
      ·unfold Bb at h;rw[KE hx hy] at h;split at h
       ·injection h with h;omega
       ·exact .inl (YS h)
      ·split at h
       ·have:=TH (fun d hd=>SQ hd) h;omega
       ·split at h
        ·unfold Pv at h;rw[hx] at h;cases h
        ·have:=BE (by omega) hx hy h;omega
theorem Ra {R:RR} {c:Nat} (h:nE R=c) (hc:c≠0):R= .error c:=by
 cases R with
 |ok a=>exact absurd h.symm hc
 |error d=>have h:d=c:=h;rw[h]
theorem Ao {R:RR} (h:¬nE R≠0) (h0:R≠ .error 0):R= .ok (nP R,nQ R):=by
 cases R with
 |ok a=>rfl
 |error d=>
  have:d=0:=by have h:¬d≠0:=h;omega
  subst this;exact absurd rfl h0
theorem YY {v:V}:ZW v≠ .error 0:=by
 unfold ZW;split
 ·split
  ·exact fun h=>by cases h
  ·exact fun h=>by injection h with h;cases h
 ·split
  ·split
   ·exact fun h=>by cases h
   ·exact fun h=>by injection h with h;cases h
  ·exact fun h=>by injection h with h;cases h
theorem DL {o:Int} {b:V} {x:N2} (h:JQ o b= .ok x):QT x=true:=by
 unfold JQ at h;split at h
 ·injection h with h;subst h;decide
 ·exact Yi h
theorem NL {o:Int} {b:V}:JQ o b≠ .error 0:=by
 unfold JQ;split
 ·exact fun h=>by cases h
 ·exact YY
theorem Tl {o:Int} (ho:(1<=o/\o<=7)\/o=20\/(9<=o/\o<=13)\/o=23) {a b:V} {c:Nat} (h:Jj o (ZW a) (JQ o b)= .error c):c=6\/c=7\/c=8:=by
 unfold Jj at h;split at h
 ·injection h with h;omega
 ·rename_i hn
  have h1:=Ao (fun e=>hn (.inl e)) YY;have h2:=Ao (fun e=>hn (.inr e)) NL;split at h
  ·rename_i hc
   injection h with h;exact LX ho (Yi h1) (DL h2) (Ra h (h▸hc))
  ·cases h
theorem Mo {a b:V} {c:Nat} (h:Kj (JE a) (JE b)= .error c):c=8\/c=14:=by
 unfold Kj at h;split at h
 ·split at h
  ·injection h with h;omega
  ·cases h
 ·injection h with h;omega
theorem Cp {a b:V} {c:Nat} (h:JM a b= .error c):c=8:=by
 unfold JM at h;split at h
 ·split at h
  ·cases h
  ·injection h with h;omega
 ·split at h
  ·cases h
  ·injection h with h;omega
theorem Tu {o:Int} {a b:V} {c:Nat} (h:YF o a b= .error c):c=8:=by
 unfold YF at h;cases hl:(if o=17\/o=18 then JM b a else JM a b) with
 |ok l=>rw[hl] at h;cases h
 |error d=>
  rw[hl] at h;injection h with h;subst h;split at hl<;>exact Cp hl
theorem Jr {o:Int} {a b:V} {c:Nat} (ho:1<=o/\o<=23) (ha:Qt a=true) (hb:o<=19->Qt b=true) (h:Ze o a b= .error c):c=6\/c=7\/c=8\/c=14:=by
 unfold Ze at h;rw[if_neg (by
  rintro(h1|h1|⟨h1,h2⟩)
  ·exact h1 ho
  ·rw[ha] at h1;cases h1
  ·rw[hb h1] at h2;cases h2)] at h
 split at h
 ·have:=Mo h;omega
 ·split at h
  ·cases h
  ·split at h
   ·cases h
   ·split at h
    ·have:=Tu h;omega
    ·split at h
     ·cases h
     ·split at h
      ·split at h
       ·cases h
       ·injection h with h;omega
      ·have:=Tl (by omega) h;omega
end Go.Proofs.YthkpckgcgkijbaaGreatDoor
namespace Go.Proofs.YthkpckgcgkijbaaGreatDoor
open Go.RowKit Go.Proofs.Lexi Go.Proofs.Tryz
def nameE:List (Value×Value):=[(.int .i64 0,.string ⟨#[110,105,108]⟩),(.int .i64 1,.string ⟨#[98,111,111,108,101,97,110]⟩),(.int .i64 2,.string ⟨#[110,117,109,98,101,114]⟩),(.int .i64 3,.string ⟨#[115,116,114,105,110,103]⟩),(.int .i64 4,.string ⟨#[116,97,98,108,101]⟩),(.int .i64 5,.string ⟨#[102,117,110,99,116,105,111,110]⟩),(.int .i64 6,.string ⟨#[102,117,110,99,116,105,111,110]⟩),(.int .i64 7,.string ⟨#[116,104,114,101,97,100]⟩),(.int .i64 8,.string ⟨#[117,115,101,114,100,97,116,97]⟩)]
def InsR (w0:World) (b:Nat) (E:List (Value×Value)) (w':World):Prop:=MapAt prog 3 w' b E/\Below w0 w0 w'
theorem G9 {w0 w:World} {b:Nat} {E:List (Value×Value)} (hE:MapAt prog 3 w b E) (hb:Below w0 w0 w) (hB:w0<=b) (n:Int) (hn:i64 n) (hno:∀p∈E,p.1≠ .int .i64 n) (s:ByteArray):
  ∃w',(Instr.mapUpdate 187 (.map (some b)) (.int .i64 n) (.string s)).run prog w= .ok () w'/\InsR w0 b (E++[(.int .i64 n,.string s)]) w':=by
 obtain⟨l,hl⟩:=RW hn;obtain⟨w',E',h1,h2,h3,h4,_,h6⟩:=hE.store FK (e:=9) (t:=187) (by kernel_rfl) hl (.string s);have h7:E'=_:=h6 hno;subst h7;exact⟨w',h1,h2,hb.trans (h3.below (B:=w0.heap.size) hb.size (fun k hk e=>by omega))⟩
theorem Cq {n:Int} (h:0<=n/\n<=8):i64 n:=⟨by omega,by omega⟩
theorem MW {w:World} {b:Nat} (hE:MapAt prog 3 w b nameE) {k:Int} (hk:i64 k):(Instr.lookup 187 (.map (some b)) (.int .i64 k) false).run prog w= .ok (.string (Zg k)) w:=by
 obtain⟨l,hl⟩:=RW hk;have hz:(zeroValue 9).run prog w= .ok (.string ⟨#[]⟩) w:=zeroValue9 w;rcases hE.look FK (e:=9) (t:=187) (by kernel_rfl) hz hl with⟨h1,h2⟩|⟨v,h1,h2⟩
 ·have ne:∀n:Int,(.int .i64 n:Value)∈nameE.map (·.1)->k≠n:=fun n hn e=>by
   rw[List.mem_map] at hn;obtain⟨p,hp,he⟩:=hn;exact h1 p hp (by rw[he,e])
  have:Zg k=⟨#[]⟩:=by
   unfold Zg;rw[if_neg (ne 0 (by simp[nameE])),if_neg (ne 1 (by simp[nameE])),if_neg (ne 2 (by simp[nameE])),if_neg (ne 3 (by simp[nameE])),if_neg (ne 4 (by simp[nameE])),if_neg (ne 5 (by simp[nameE])),if_neg (ne 6 (by simp[nameE])),if_neg (ne 7 (by simp[nameE])),if_neg (ne 8 (by simp[nameE]))]
  rw[this];exact h2 false
 ·unfold nameE at h1;simp only[List.mem_cons,Prod.mk.injEq,Value.int.injEq,true_and,List.not_mem_nil,or_false] at h1;rcases h1 with⟨rfl,rfl⟩|⟨rfl,rfl⟩|⟨rfl,rfl⟩|⟨rfl,rfl⟩|⟨rfl,rfl⟩|⟨rfl,rfl⟩|⟨rfl,rfl⟩|⟨rfl,rfl⟩|⟨rfl,rfl⟩;all_goals exact h2 false
theorem prj2 {a p:Prop} (h:a/\Hid p):p:=h.2.out
def StrPost (w:World) (s:ByteArray) (e:Ending) (w':World):Prop:=e= .returned (.string s)/\Below w w w'
theorem Ck {o:Int} (h:¬(1<=o/\o<=23)):Au o=⟨#[]⟩:=if_neg h
theorem FV {o:Int} (h:¬(1<=o/\o<=23)):Q6 o=⟨#[]⟩:=if_neg h
theorem Sb {n:Nat} (h:1<=n/\n<=23):Au (n:Int)=symL.getD n ⟨#[]⟩:=by unfold Au;rw[if_pos (by omega)];rfl
theorem P0 {n:Nat} (h:1<=n/\n<=23):Q6 (n:Int)=evL.getD n ⟨#[]⟩:=by unfold Q6;rw[if_pos (by omega)];rfl
theorem Qu (w:World) (o:Obj):(w.drew.alloc o).heap[w.heap.size]? =some o:=Qg w.drew o
theorem CF {a b c d e p:Prop} (h:a/\b/\c/\d/\e/\Hid p):p:=h.2.2.2.2.2.out
theorem Ax {w:World} {h bo bt:Nat} {H:List PO} (hH:HpAt w h bo bt H) (v:V):WfV (Jt (lh H) v):=by
 unfold Jt;rw[JJ];cases hf:KO H v with
 |none=>exact Yf
 |some x=>
  obtain⟨i,hi,hk,hri,hxm⟩:=K1 hf;exact(hH.one x hxm).wm
theorem Cu {w:World} {h bo bt:Nat} {H:List PO} (hH:HpAt w h bo bt H) {v:V} (hm:(Jt (lh H) v).k=0) (s:ByteArray):ZN (lh H) v s=V.nil:=by
 unfold ZN UP;rw[JJ];cases hf:KO H (Jt (lh H) v) with
 |none=>rfl
 |some x=>
  obtain⟨i,hi,hk,hri,hxm⟩:=K1 hf;have:=(hH.one x hxm).kd;omega
theorem QP {F:Nat->Prop} {a w:World} (h:Mods F a w) {b:Nat} (hb:F b\/a<=b) (x0 x1 x2 x3 x4 x5 x6 x7 x8 x9 x10 x11 x12 x13:Value):
  Mods F a ((((((((((((((w.setCell b x0).setCell ⟨b,1,none⟩ x1).setCell ⟨b,2,none⟩ x2).setCell ⟨b,3,none⟩ x3).setCell ⟨b,4,none⟩ x4).setCell ⟨b,5,none⟩ x5).setCell ⟨b,6,none⟩ x6).setCell ⟨b,7,none⟩ x7).setCell ⟨b,8,none⟩ x8).setCell ⟨b,9,none⟩ x9).setCell ⟨b,10,none⟩ x10).setCell ⟨b,11,none⟩ x11).setCell ⟨b,12,none⟩ x12).setCell ⟨b,13,none⟩ x13):=
 QQ (QQ (QQ (QQ (QQ (QQ (QQ (QQ (QQ (QQ (QQ (QQ (QQ (QQ h hb x0) hb x1) hb x2) hb x3) hb x4) hb x5) hb x6) hb x7) hb x8) hb x9) hb x10) hb x11) hb x12) hb x13
theorem Qx {w w2 W:World} {n:Nd} {av:Value} {base r:Nat} (hb:Below w w w2) (hA:ArgsAt w2 base av n.args) (h1:w<=base) (h2:w<=r) (h3:r<base) (hW:Mods (· =r) w2 W):NdPost w n (.returned (ndV n av)) W:=by
 refine⟨av,rfl,?_,?_⟩
 ·rcases hA with h|⟨g,a,b,h4,h5,h6,h7⟩
  ·exact .inl h
  ·exact .inr ⟨g,a,b,h4,h5,by omega,(hW.block g (Array.getElem?_eq_some_iff.1 h7).1 (by omega)).trans h7⟩
 ·exact⟨hW.os.trans hb.os,hW.tape.trans hb.tape,hW.output.trans hb.output,Nat.le_trans hb.size hW.size,fun k hk=>(hW.block k (Nat.lt_of_lt_of_le (Nat.lt_of_lt_of_le hk zl) hb.size) (by omega)).trans (hb.block k hk)⟩
theorem ArgsAt.shape {w:World} {base:Nat} {av:Value} {l:List V} (h:ArgsAt w base av l):∃so n cap,av= .slice so n cap:=by
 rcases h with⟨_,h⟩|⟨g,a,b,_,h,_⟩
 ·exact⟨none,0,0,h⟩
 ·exact⟨some ⟨g,0,none⟩,2,2,h⟩
theorem Qw (k:Int):(Zg k).size<=8:=by
 unfold Zg;split
 ·decide
 ·split
  ·decide
  ·split
   ·decide
   ·split
    ·decide
    ·split
     ·decide
     ·split
      ·decide
      ·split
       ·decide
       ·split
        ·decide
        ·split<;>decide
theorem A6 (v:V):((((nE (ZW v):Nat)):Int)==0)=Ko v:=by
 unfold Ko;cases h:ZW v with
 |ok x=>rfl
 |error c=>
  show(((c:Nat):Int)==0)=false;rw[beq_eq_false_iff_ne];intro e;have:c=0:=by omega
  subst this;exact YY h
theorem A4 (v:V):((((sE (JE v):Nat)):Int)==0)=Eo v:=by
 unfold Eo;have h1:=(Kt v).1;cases h:JE v with
 |ok x=>rfl
 |error c=>
  show(((c:Nat):Int)==0)=false;rw[beq_eq_false_iff_ne];intro e;have:c=0:=by omega
  subst this;exact h1 h
def NdB (w:World) (base:Nat) (n:Nd) (e:Ending) (w':World):Prop:=∃av,e= .returned (ndV n av)/\ArgsAt w' base av n.args/\Below w w w'
theorem BG {w:World} {base:Nat} {av:Value} (h:ArgsAt w base av []) (W:World) (base':Nat):ArgsAt W base' av []:=by
 rcases h with h|⟨g,a,b,h,_⟩
 ·exact .inl h
 ·cases h
theorem Xi {w w2 W:World} {n:Nd} {av:Value} {b base r:Nat} (hn:n.args=[]) (hb:Below w w w2) (hA:ArgsAt w2 b av n.args) (h2:w<=r) (hW:Mods (· =r) w2 W):NdB w base n (.returned (ndV n av)) W:=by
 rw[hn] at hA;exact⟨av,rfl,hn▸BG hA W base,⟨hW.os.trans hb.os,hW.tape.trans hb.tape,hW.output.trans hb.output,Nat.le_trans hb.size hW.size,fun k hk=>(hW.block k (Nat.lt_of_lt_of_le hk hb.size) (by omega)).trans (hb.block k hk)⟩⟩
theorem Cj {w w2 W:World} {f a b:V} {af:Int} {base r g:Nat} (hb:Below w w w2) (hg:w2.heap[g]? =some (.cells #[.int .i64 a.k,.int .i64 a.p,.int .i64 a.q,.string a.s,.int .i64 a.r,.int .i64 b.k,.int .i64 b.p,.int .i64 b.q,.string b.s,.int .i64 b.r] 25)) (hbase:base<=g) (hgr:g≠r)
  (h2:w<=r) (hW:Mods (· =r) w2 W):NdB w base (Zr f [a,b] af) (.returned (ndV (Zr f [a,b] af) (.slice (some g) 2 2))) W:=
 ⟨_,rfl,.inr ⟨g,a,b,rfl,rfl,hbase,(hW.block g (Array.getElem?_eq_some_iff.1 hg).1 hgr).trans hg⟩,⟨hW.os.trans hb.os,hW.tape.trans hb.tape,hW.output.trans hb.output,Nat.le_trans hb.size hW.size,fun k hk=>(hW.block k (Nat.lt_of_lt_of_le hk hb.size) (by omega)).trans (hb.block k hk)⟩⟩
structure RegTo (B W:World) (xb:Nat) (o:Obj):Prop where
 hb:Below B B W
 hx:W.heap[xb]? =some o
 ge:B<=xb
theorem JX {B nw:World} (hb:Below B B nw) (x y z u v:Value):∃W xb,nw.alloc (.cells #[x,y,z,u,v] 25)=W/\nw.heap.size=xb/\RegTo B W xb (.cells #[x,y,z,u,v] 25):=
 ⟨_,_,rfl,rfl,hb.alloc hb.size _,Qy nw _,hb.size⟩
theorem ZJ {B nw:World} (hb:Below B B nw) {b:Nat} (hB:B<=b) {x0 y0 z0 u0 v0:Value} {t:TypeId} {fz:Nat×Nat} (hz:nw.heap[b]? =some (.cells #[x0,y0,z0,u0,v0] t fz)) (x y z u v:Value):
  ∃W xb,(((((nw.setCell b x).setCell ⟨b,1,none⟩ y).setCell ⟨b,2,none⟩ z).setCell ⟨b,3,none⟩ u).setCell ⟨b,4,none⟩ v)=W/\b=xb/\RegTo B W xb (.cells #[x,y,z,u,v] t fz):=
 ⟨_,_,rfl,rfl,QG hb hB x y z u v,Qp hz x y z u v,hB⟩
theorem RegTo.to {w B W:World} {xb:Nat} {o:Obj} (h:RegTo B W xb o) (hB:Below w w B):Hid (Below w w W)/\Hid (W.heap[xb]? =some o)/\w<=xb:=⟨hbn hB h.hb,zh h.hx,Nat.le_trans hB.size h.ge⟩
theorem RegTo.old {B W:World} {xb b:Nat} {o u:Obj} (h:RegTo B W xb o) (hu:Hid (B.heap[b]? =some u)):Hid (W.heap[b]? =some u):=hkh h.hb hu.out
theorem at5 {w:World} {b:Nat} {c0 c1 c2 c3 c4:Value} {t:TypeId} {fz:Nat×Nat} (h:w.heap[b]? =some (.cells #[c0,c1,c2,c3,c4] t fz)) {P:Prop} (p:P):w.cell? b=some c0/\w.cell? ⟨b,1,none⟩=some c1/\w.cell? ⟨b,2,none⟩=some c2/\w.cell? ⟨b,3,none⟩=some c3/\w.cell? ⟨b,4,none⟩=some c4/\P:=⟨(by rw[QA h];rfl),(by rw[QA h];rfl),(by rw[QA h];rfl),(by rw[QA h];rfl),(by rw[QA h];rfl),p⟩
theorem at10 {w:World} {b:Nat} {c0 c1 c2 c3 c4 c5 c6 c7 c8 c9:Value} {t:TypeId} {fz:Nat×Nat} (h:w.heap[b]? =some (.cells #[c0,c1,c2,c3,c4,c5,c6,c7,c8,c9] t fz)) {P:Prop} (p:P):w.cell? b=some c0/\w.cell? ⟨b,1,none⟩=some c1/\w.cell? ⟨b,2,none⟩=some c2/\w.cell? ⟨b,3,none⟩=some c3/\w.cell? ⟨b,4,none⟩=some c4/\w.cell? ⟨b,5,none⟩=some c5/\w.cell? ⟨b,6,none⟩=some c6/\w.cell? ⟨b,7,none⟩=some c7/\w.cell? ⟨b,8,none⟩=some c8/\w.cell? ⟨b,9,none⟩=some c9/\P:=⟨(by rw[QA h];rfl),(by rw[QA h];rfl),(by rw[QA h];rfl),(by rw[QA h];rfl),(by rw[QA h];rfl),(by rw[QA h];rfl),(by rw[QA h];rfl),(by rw[QA h];rfl),(by rw[QA h];rfl),(by rw[QA h];rfl),p⟩
theorem Sn:∀x∈evL,x.size<=4096:=by decide
theorem JD (o:Int):(Q6 o).size<=4096:=by
 unfold Q6;split
 ·rw[List.getD_eq_getElem?_getD];cases h:evL[o.toNat]? with
  |none=>exact Nat.zero_le _
  |some x=>exact Sn x (List.mem_of_getElem? h)
 ·exact Nat.zero_le _
theorem LN {a b:ByteArray} (h:QF a=QF b):(a.toList==b.toList)=true:=by
 rw[beq_iff_eq,JV];exact h
theorem Ar {a b:ByteArray} (h:¬QF a=QF b):(a.toList==b.toList)=false:=by
 rw[beq_eq_false_iff_ne];intro e;rw[JV] at e;exact h e
theorem KP (w:World):w.drew.heap=w.heap:=rfl
theorem J4 {w W W':World} {f a b:V} {af:Int} {r:Nat} (hb:Below w w W) (hr:w<=r) (hW:Mods (· =r) W W') (hsz:W'.heap.size=W.heap.size):
  NdPost w (Zr f [a,b] af) (.returned (ndV (Zr f [a,b] af) (.slice (some W) 2 2))) (W'.alloc (.cells #[.int .i64 a.k,.int .i64 a.p,.int .i64 a.q,.string a.s,.int .i64 a.r,.int .i64 b.k,.int .i64 b.p,.int .i64 b.q,.string b.s,.int .i64 b.r] 25)):=by
 have hB:Below w w W':=⟨hW.os.trans hb.os,hW.tape.trans hb.tape,hW.output.trans hb.output,Nat.le_trans hb.size hW.size,fun k hk=>(hW.block k (Nat.lt_of_lt_of_le hk hb.size) (by omega)).trans (hb.block k hk)⟩
 exact⟨_,rfl,.inr ⟨W.heap.size,a,b,rfl,rfl,hb.size,by rw[<-hsz];exact Qy _ _⟩,hB.alloc hB.size _⟩
theorem YH {w:World} {base:Nat} {av:Value} {a b:V} (h:ArgsAt w base av [a,b]):∃g,av= .slice (some ⟨g,0,none⟩) 2 2/\base<=g/\w.heap[g]? =some (.cells #[.int .i64 a.k,.int .i64 a.p,.int .i64 a.q,.string a.s,.int .i64 a.r,.int .i64 b.k,.int .i64 b.p,.int .i64 b.q,.string b.s,.int .i64 b.r] 25):=by
 rcases h with⟨h,_⟩|⟨g,a',b',h1,h2,h3,h4⟩
 ·cases h
 ·injection h1 with h1 h5;injection h5 with h5;subst h1 h5;exact⟨g,h2,h3,h4⟩
theorem Xv {w:World} {base:Nat} {av:Value} (h:ArgsAt w base av []):av= .slice none 0 0:=by
 rcases h with⟨_,h⟩|⟨g,a,b,h,_⟩
 ·exact h
 ·cases h
theorem Za {n:Int} (h:(decide (-9223372036854775808<=n)&&decide (n<=9223372036854775807))=true):i64 n:=by
 rw[Bool.and_eq_true,decide_eq_true_eq,decide_eq_true_eq] at h;exact h
abbrev awF:List Fd:=[(⟨0,2,0,⟨#[95,95,97,100,100]⟩,⟨5,0,0,⟨#[]⟩,3⟩⟩:Fd),(⟨1,1,2,⟨#[]⟩,V.nil⟩:Fd)]
theorem aw1:Ze 1 ⟨3,0,0,⟨#[49,48]⟩,0⟩ ⟨2,1,1,⟨#[]⟩,0⟩= .ok ⟨2,11,1,⟨#[]⟩,0⟩:=by kernel_rfl
theorem aw2:ZY (ZN (JN 2 0 1 awF)) 1 ⟨0,0,0,⟨#[]⟩,0⟩ ⟨4,0,0,⟨#[]⟩,1⟩=Zr ⟨5,0,0,⟨#[]⟩,3⟩ [⟨0,0,0,⟨#[]⟩,0⟩,⟨4,0,0,⟨#[]⟩,1⟩] 1:=by kernel_rfl
theorem aw3:ZY (ZN (JN 2 0 1 awF)) 18 ⟨2,1,1,⟨#[]⟩,0⟩ ⟨0,0,0,⟨#[]⟩,0⟩=ZZ ⟨#[97,116,116,101,109,112,116,32,116,111,32,99,111,109,112,97,114,101,32,110,105,108,32,119,105,116,104,32,110,117,109,98,101,114]⟩:=by kernel_rfl
theorem aw4:Kl (ZN (JN 2 0 1 awF)) 20 ⟨3,0,0,⟨#[51]⟩,0⟩=Zz ⟨2, -3,1,⟨#[]⟩,0⟩:=by kernel_rfl
theorem aw5:Au 5=⟨#[47,47]⟩:=by kernel_rfl
theorem aw6:Q6 19=⟨#[95,95,108,101]⟩:=by kernel_rfl
theorem Rn:∀f∈awF,FdWf f:=by
 intro f hf;rcases List.mem_cons.1 hf with rfl|hf
 ·exact⟨Za rfl,Za rfl,Za rfl,Za rfl,Za rfl,Nat.zero_le _,Za rfl⟩
 ·rcases List.mem_cons.1 hf with rfl|hf
  ·exact⟨Za rfl,Za rfl,Za rfl,Za rfl,Za rfl,Nat.zero_le _,Za rfl⟩
  ·cases hf
theorem BF {W:World} {b:Nat} (h:W.heap[b]? =some (.cells #[(0:Int),.int .i64 2,(0:Int),.string ⟨#[95,95,97,100,100]⟩,.int .i64 5,(0:Int),(0:Int),.string ⟨#[]⟩,.int .i64 3,.int .i64 1,.int .i64 1,.int .i64 2,.string ⟨#[]⟩,(0:Int),(0:Int),(0:Int),.string ⟨#[]⟩,(0:Int)] 66)):∀k f,awF[k]? =some f->∀j c,f.cells[j]? =some c->W.cell? ⟨b,0+k*9+j,none⟩=some c:=by
 intro k f hf j c hc;rw[QA h];have hj:j<9:=(List.getElem?_eq_some_iff.1 hc).1;have e:∀i,(#[.int .i64 0,.int .i64 2,.int .i64 0,.string ⟨#[95,95,97,100,100]⟩,.int .i64 5,.int .i64 0,.int .i64 0,.string ⟨#[]⟩,.int .i64 3,.int .i64 1,.int .i64 1,.int .i64 2,.string ⟨#[]⟩,.int .i64 0,.int .i64 0,.int .i64 0,.string ⟨#[]⟩,.int .i64 0]:Array Value)[i]? =(Fd.cells (⟨0,2,0,⟨#[95,95,97,100,100]⟩,⟨5,0,0,⟨#[]⟩,3⟩⟩:Fd)++Fd.cells (⟨1,1,2,⟨#[]⟩,V.nil⟩:Fd))[i]? :=fun i=>Array.getElem?_toList.symm;rw[e];have hk:k=0\/k=1:=by
  have:=(List.getElem?_eq_some_iff.1 hf).1;have h2:awF.length=2:=rfl;omega
 rcases hk with rfl|rfl
 ·injection hf with hf;subst hf;rw[List.getElem?_append_left (by show 0+0*9+j<9;omega),show 0+0*9+j=j by omega];exact hc
 ·injection hf with hf;subst hf;rw[List.getElem?_append_right (by show 9<=0+1*9+j;omega),show 0+1*9+j-(Fd.cells (⟨0,2,0,⟨#[95,95,97,100,100]⟩,⟨5,0,0,⟨#[]⟩,3⟩⟩:Fd)).length=j by show 0+1*9+j-9=j;omega];exact hc
theorem RJ {c0 c1 c2 c3 c4 c5 c6 c7 c8 c9 c10 c11 c12 p:Prop} (h:c0/\c1/\c2/\c3/\c4/\c5/\c6/\c7/\c8/\c9/\c10/\c11/\c12/\Hid p):p:=h.2.2.2.2.2.2.2.2.2.2.2.2.2.out
theorem Pc {c0 c1 c2 c3 c4 c5 c6 c7 c8 c9 c10 c11 c12 c13 c14 c15 c16 c17 c18 c19 c20 c21 c22 c23 c24 c25 c26 c27 c28 p:Prop} (h:c0/\c1/\c2/\c3/\c4/\c5/\c6/\c7/\c8/\c9/\c10/\c11/\c12/\c13/\c14/\c15/\c16/\c17/\c18/\c19/\c20/\c21/\c22/\c23/\c24/\c25/\c26/\c27/\c28/\Hid p):p:=h.2.2.2.2.2.2.2.2.2.2.2.2.2.2.2.2.2.2.2.2.2.2.2.2.2.2.2.2.2.out
theorem NK (v x:V):Uz 2 1 v x=x:=by
 unfold Uz;rw[if_neg (by decide),if_neg (by decide),if_pos rfl]
theorem Xa {base:Nat} (hb:base=10\/base=16) {s:ByteArray} (hs:s.size<=2000000000) (h:AllDig base (QF s)) (W:World) {A:Option Nat} (hA:Km base (QF s) 0=A):
  Calls prog 236 #[s,.int .i64 base] W (OptPost W A):=hA▸N4 W s hs base hb (LZ h)
theorem AD (w:World) (s:ByteArray) (hs:s.size<=2000000000) (hx:Bool) (p:Int) (e f:Nat) (hF:UQ (QF s)=some (hx,p,e,f)):
  Calls prog 197 #[.agg #[.bool hx,p,.int .i64 (e:Nat),.int .i64 (f:Nat)],s] w (NumPost w (Q0 (QF s)).2):=by
 unfold UQ at hF;cases hh:Zm (QF s) with
 |true=>
  rw[hh,if_pos rfl] at hF;injection hF with hF;simp only[Prod.mk.injEq] at hF;obtain⟨rfl,rfl,rfl,rfl⟩:=hF;rw[Kc hh];have hrl:=JH 16 ((QF s).drop 2);rw[List.length_drop,Qc] at hrl;have h2:2<s.size:=by
   apply Classical.byContradiction;intro hc;rw[Xm (by omega)] at hh;cases hh
  obtain⟨j,hj⟩:∃j,2+ZT 16 ((QF s).drop 2)=j:=⟨_,rfl⟩
  have hbx:QF (s.extract 2 j)=((QF s).drop 2).take (ZT 16 ((QF s).drop 2)):=by rw[ZO,<-hj,Nat.add_sub_cancel_left]
  have had:AllDig 16 (QF (s.extract 2 j)):=by rw[hbx];exact Gr 16 _
  have hz:(s.extract 2 j).size<=2000000000:=by rw[ByteArray.size_extract];omega
  rw[hj,<-hbx];show Calls _ _ _ _ (NumPost w (Be (QF (s.extract 2 j))));obtain⟨A,hA⟩:∃A,Km 16 (QF (s.extract 2 j)) 0=A:=⟨_,rfl⟩
  have hint:∀W,Calls prog 236 #[.string (s.extract 2 j),.int .i64 16] W (OptPost W A):=fun W=>Xa (.inr rfl) hz had W hA;unfold Be;rw[hA];cases A with
  |none=>exact KJ w s true 16 (.inl ⟨rfl,rfl⟩) 2 j (by omega) (by omega) hs hint _ rfl
  |some n=>exact KI w s true 16 (.inl ⟨rfl,rfl⟩) 2 j (by omega) (by omega) hs n hint _ rfl
 |false=>
  rw[hh,if_neg (by decide)] at hF;rw[Kd hh];have hrl:=JH 10 (QF s);rw[Qc] at hrl;have hdig:=Gr 10 (QF s);obtain⟨r,hr⟩:∃r,ZT 10 (QF s)=r:=⟨_,rfl⟩
  rw[hr] at hF hrl hdig ⊢;by_cases h0:r=0
  ·rw[if_pos h0] at hF;cases hF
  ·rw[if_neg h0] at hF ⊢;have hbx:QF (s.extract 0 r)=(QF s).take r:=P5 s r;have hz:(s.extract 0 r).size<=2000000000:=by rw[Ux s hrl];omega
   rw[<-hbx] at hdig;by_cases hp:ZQ (QF s) r=0
   ·rw[if_pos hp] at hF ⊢;injection hF with hF;simp only[Prod.mk.injEq] at hF;obtain⟨rfl,rfl,rfl,rfl⟩:=hF;rw[<-hbx];show Calls _ _ _ _ (NumPost w (P3 (QF (s.extract 0 r)) 0));obtain⟨A,hA⟩:∃A,Km 10 (QF (s.extract 0 r)) 0=A:=⟨_,rfl⟩
    have hint:∀W,Calls prog 236 #[.string (s.extract 0 r),.int .i64 10] W (OptPost W A):=fun W=>Xa (.inl rfl) hz hdig W hA;unfold P3;rw[hA];cases A with
    |none=>exact KJ w s false 10 (.inr ⟨rfl,rfl⟩) 0 r (by omega) (by omega) hs hint _ rfl
    |some n=>exact KI w s false 10 (.inr ⟨rfl,rfl⟩) 0 r (by omega) (by omega) hs n hint _ rfl
   ·rw[if_neg hp] at hF ⊢;obtain⟨hl1,hp1,hp2,hp3⟩:=Yb hp;injection hF with hF;simp only[Prod.mk.injEq] at hF;obtain⟨rfl,rfl,rfl,rfl⟩:=hF;rw[hp3];have hrl1:=JH 10 ((QF s).drop (r+1));rw[List.length_drop,Qc] at hrl1;have hdig2:=Gr 10 ((QF s).drop (r+1));obtain⟨P,hP⟩:∃P,ZT 10 ((QF s).drop (r+1))=P:=⟨_,rfl⟩
    rw[hP] at hrl1 hdig2 ⊢;obtain⟨e,he⟩:∃e,r+1+P=e:=⟨_,rfl⟩
    rw[he];have hby:QF (s.extract (r+1) e)=((QF s).drop (r+1)).take P:=by rw[ZO,<-he,Nat.add_sub_cancel_left]
    have hyz:(s.extract (r+1) e).size=P:=by rw[ByteArray.size_extract];omega
    have had:=Jx (s.extract 0 r) (s.extract (r+1) e) (by rw[Ux s hrl];omega);rw[<-hby] at hdig2;rw[<-hbx,<-hby,<-KC];have hXz:(s.extract 0 r++s.extract (r+1) e).size<=2000000000:=by rw[ByteArray.size_append,Ux s hrl];omega
    have hXd:AllDig 10 (QF (s.extract 0 r++s.extract (r+1) e)):=by
     rw[KC];intro c hc;rcases List.mem_append.1 hc with hc|hc
     ·exact hdig c hc
     ·exact hdig2 c hc
    show Calls _ _ _ _ (NumPost w (P3 (QF (s.extract 0 r++s.extract (r+1) e)) P));obtain⟨A,hA⟩:∃A,Km 10 (QF (s.extract 0 r++s.extract (r+1) e)) 0=A:=⟨_,rfl⟩
    unfold P3;rw[hA];by_cases h9:9<P
    ·have hR:(match A with|none=>(.error 6:RR)|some n=>if 9<P then .error 6 else Q2 n ((10:Nat)^P:Nat))= .error 6:=by
      cases A with
      |none=>rfl
      |some n=>exact if_pos h9
     exact Ds w s r e (by omega) (by omega) hs (by omega) _ hR
    ·have hR:=Rd A h9;exact UG w s _ r e P (by omega) (by omega) hs (by omega) (by omega) had A (fun W=>Xa (.inl rfl) hXz hXd W hA) _ hR
def FormWays (p q:ByteArray):Prop:=
 p.toList.isEmpty=true\/(p.toList.isEmpty=false/\q.toList.isEmpty=true/\(p.toList.isEmpty||q.toList.isEmpty)=true)\/
 (p.toList.isEmpty=false/\q.toList.isEmpty=false/\(p.toList.isEmpty||q.toList.isEmpty)=false/\∃a:Nat,PRuns p 0 10 a/\((a:Int) !=(p.size:Int))=true)\/
 (p.toList.isEmpty=false/\q.toList.isEmpty=false/\(p.toList.isEmpty||q.toList.isEmpty)=false/\(∃a:Nat,PRuns p 0 10 a/\((a:Int) !=(p.size:Int))=false)/\∃a:Nat,PRuns q 0 10 a/\((a:Int) !=(q.size:Int))=true)
theorem YU (w:World) (s p q:ByteArray) (b:Bool) (R:RR) (hcut:CutTo s p q b w) (h00:0<w.heap.size)
  (hw:b=false\/(b=true/\FormWays p q))
  (hps:p.size<=2000000000) (hqs:q.size<=2000000000) (hR:R= .error 4):
  Calls prog 198 #[s] w (NumPost w R):=by
 have HB:=zh (((Below.refl w.heap.size w).alloc zl (o2 0 0)));have HCUT:=zh (hcut (w.alloc (o2 0 0)) (QH h00));have HR:=zh hR;clear hcut hR;rcases hw with rfl|⟨rfl,hp|⟨hp,hq,hpq⟩|⟨hp,hq,hpq,a,ha,hae⟩|⟨hp,hq,hpq,⟨a,ha,hae⟩,a2,ha2,hae2⟩⟩
 ·go_enter func198,ntmps198;go_wp2_with fail
  refine HCUT.out.mono ?_;rintro e w1 ⟨rfl,n,rfl⟩;go_wp2;refine zr (by simp[results,results198,go_sem]<;>rfl) ?_;exact QZ HR.out (by first|exact HB.out|exact HB.out.drew|exact below_drewN HB.out _|exact QD HB.out (by simp<;>omega) _ _|exact QD HB.out zl _ _|exact QD HB.out.drew (by simp<;>omega) _ _|exact QD HB.out.drew zl _ _|exact QD (below_drewN HB.out _) (by simp<;>omega) _ _)
 ·go_enter func198,ntmps198;go_wp2_with fail
  refine HCUT.out.mono ?_;rintro e w1 ⟨rfl,n,rfl⟩;go_wp2;refine zr (by simp[results,results198,go_sem]<;>rfl) ?_;exact QZ HR.out (by first|exact HB.out|exact HB.out.drew|exact below_drewN HB.out _|exact QD HB.out (by simp<;>omega) _ _|exact QD HB.out zl _ _|exact QD HB.out.drew (by simp<;>omega) _ _|exact QD HB.out.drew zl _ _|exact QD (below_drewN HB.out _) (by simp<;>omega) _ _)
 ·go_enter func198,ntmps198;go_wp2_with fail
  refine HCUT.out.mono ?_;rintro e w1 ⟨rfl,n,rfl⟩;go_wp2;refine zr (by simp[results,results198,go_sem]<;>rfl) ?_;exact QZ HR.out (by first|exact HB.out|exact HB.out.drew|exact below_drewN HB.out _|exact QD HB.out (by simp<;>omega) _ _|exact QD HB.out zl _ _|exact QD HB.out.drew (by simp<;>omega) _ _|exact QD HB.out.drew zl _ _|exact QD (below_drewN HB.out _) (by simp<;>omega) _ _)
 ·have HA:=zh ha;clear ha;go_enter func198,ntmps198;go_wp2_with fail
  refine HCUT.out.mono ?_;rintro e w1 ⟨rfl,n,rfl⟩;go_wp2_with fail
  refine(HA.out _).mono ?_;rintro e w1 ⟨rfl,rfl⟩;go_wp2;refine zr (by simp[results,results198,go_sem]<;>rfl) ?_;exact QZ HR.out (by first|exact HB.out|exact HB.out.drew|exact below_drewN HB.out _|exact QD HB.out (by simp<;>omega) _ _|exact QD HB.out zl _ _|exact QD HB.out.drew (by simp<;>omega) _ _|exact QD HB.out.drew zl _ _|exact QD (below_drewN HB.out _) (by simp<;>omega) _ _)
 ·have HA:=zh ha;have HA2:=zh ha2;clear ha ha2;go_enter func198,ntmps198;go_wp2_with fail
  refine HCUT.out.mono ?_;rintro e w1 ⟨rfl,n,rfl⟩;go_wp2_with fail
  refine(HA.out _).mono ?_;rintro e w1 ⟨rfl,rfl⟩;go_wp2_with fail
  refine(HA2.out _).mono ?_;rintro e w1 ⟨rfl,rfl⟩;go_wp2;refine zr (by simp[results,results198,go_sem]<;>rfl) ?_;exact QZ HR.out (by first|exact HB.out|exact HB.out.drew|exact below_drewN HB.out _|exact QD HB.out (by simp<;>omega) _ _|exact QD HB.out zl _ _|exact QD HB.out.drew (by simp<;>omega) _ _|exact QD HB.out.drew zl _ _|exact QD (below_drewN HB.out _) (by simp<;>omega) _ _)
def IntTo (s:ByteArray) (A:Option Nat):Prop:=∀W,Calls prog 236 #[s,.int .i64 10] W (OptPost W A)
theorem N7 (w:World) (s p q:ByteArray) (A B:Option Nat) (R:RR) (hcut:CutTo s p q true w) (h00:0<w.heap.size)
  (hp:p.toList.isEmpty=false) (hq:q.toList.isEmpty=false) (hpq:(p.toList.isEmpty||q.toList.isEmpty)=false) (a a2:Nat) (ha:PRuns p 0 10 a) (hae:((a:Int) !=(p.size:Int))=false) (ha2:PRuns q 0 10 a2) (hae2:((a2:Int) !=(q.size:Int))=false)
  (hps:p.size<=2000000000) (hqs:q.size<=2000000000) (hA:IntTo p A) (hB:IntTo q B)
  (hR:(R= .error 6/\(A=none\/∃x,A=some x/\B=none))\/∃x y,A=some x/\B=some y/\(R= .error 6/\((((nE (Q2 (Kp (some x)) (Kp (some y))):Nat):Int) !=0)=true)\/((((nE (Q2 (Kp (some x)) (Kp (some y))):Nat):Int) !=0)=false/\R=Q2 (Kp (some x)) (Kp (some y))/\nE R=0))):
  Calls prog 198 #[s] w (NumPost w R):=by
 have HB:=zh (((Below.refl w.heap.size w).alloc zl (o2 0 0)));have HCUT:=zh (hcut (w.alloc (o2 0 0)) (QH h00));have HA:=zh ha;have HA2:=zh ha2;have HI:=zh hA;have HI2:=zh hB;clear hcut ha ha2 hA hB;rcases hR with⟨hR,rfl|⟨x,rfl,rfl⟩⟩|⟨x,y,rfl,rfl,⟨hR,hE⟩|⟨hE,hR⟩⟩;all_goals
  have HR:=zh hR;clear hR;go_enter func198,ntmps198;go_wp2_with fail
  refine HCUT.out.mono ?_;rintro e w1 ⟨rfl,n,rfl⟩;go_wp2_with fail
  refine(HA.out _).mono ?_;rintro e w1 ⟨rfl,rfl⟩;go_wp2_with fail
  refine(HA2.out _).mono ?_;rintro e w1 ⟨rfl,rfl⟩;go_wp2_with fail
  refine(HI.out _).mono ?_;rintro e w1 ⟨rfl,rfl⟩;go_wp2_with fail
  refine(HI2.out _).mono ?_;rintro e w1 ⟨rfl,rfl⟩;go_wp2_with fail
 ·refine zr (by simp[results,results198,go_sem]<;>rfl) ?_;exact QZ HR.out (by first|exact HB.out|exact HB.out.drew|exact below_drewN HB.out _|exact QD HB.out (by simp<;>omega) _ _|exact QD HB.out zl _ _|exact QD HB.out.drew (by simp<;>omega) _ _|exact QD HB.out.drew zl _ _|exact QD (below_drewN HB.out _) (by simp<;>omega) _ _)
 ·refine zr (by simp[results,results198,go_sem]<;>rfl) ?_;exact QZ HR.out (by first|exact HB.out|exact HB.out.drew|exact below_drewN HB.out _|exact QD HB.out (by simp<;>omega) _ _|exact QD HB.out zl _ _|exact QD HB.out.drew (by simp<;>omega) _ _|exact QD HB.out.drew zl _ _|exact QD (below_drewN HB.out _) (by simp<;>omega) _ _)
 all_goals
  refine(F8 _ _ _).mono ?_;rintro e w2 ⟨rfl,hb⟩;have hz:=hb.size;simp at hz;obtain⟨hc,hf⟩:=QN hb;have c0:∀x y,(w2.alloc (.cells #[x,y] 23)).cell? w=some (.int .i64 0):=fun x y=>(QH (by omega)).trans ((hc _ _ (by simp)).trans (by simp[go_sem]));have c1:∀x y,(w2.alloc (.cells #[x,y] 23)).cell? ⟨w,1,none⟩=some (.int .i64 0):=fun x y=>(QH (by omega)).trans ((hc _ _ (by simp)).trans (by simp[go_sem]));have f0:∀x y,(w2.alloc (.cells #[x,y] 23)).frozen? w=false:=fun x y=>(QJ (by omega)).trans ((hf _ _ (by simp)).trans (by simp[go_sem]));have f1:∀x y,(w2.alloc (.cells #[x,y] 23)).frozen? ⟨w,1,none⟩=false:=fun x y=>(QJ (by omega)).trans ((hf _ _ (by simp)).trans (by simp[go_sem]));have HB2:=fun x y=>zh ((QC (below_drewN HB.out _) hb).alloc (by omega) (.cells #[x,y] 23));clear hb hc hf;go_wp2;refine zr (by simp[results,results198,go_sem,c0,c1]<;>rfl) ?_;first
  |exact QZ HR.out (QD (HB2 _ _).out zl _ _)
  |exact Tm HR.out.1 HR.out.2 (QD (HB2 _ _).out zl _ _)
theorem Yo {p:ByteArray} (hs:p.size<=2000000000) (h:JA (QF p)=false):p.toList.isEmpty=true\/(p.toList.isEmpty=false/\∃a:Nat,PRuns p 0 10 a/\((a:Int) !=(p.size:Int))=true):=by
 by_cases h0:p.size=0
 ·exact .inl (C6 h0)
 ·refine .inr ⟨FW (by omega),ZT 10 (QF p),Dj p hs 0 (by omega) 10 (.inl rfl) _ (by rw[Nat.zero_add];rfl),?_⟩;rw[Yc (by omega)] at h;have:=of_decide_eq_false h;rw[bne_iff_ne];omega
theorem Xr {p:ByteArray} (hs:p.size<=2000000000) (h:JA (QF p)=true):p.toList.isEmpty=false/\(∃a:Nat,PRuns p 0 10 a/\((a:Int) !=(p.size:Int))=false)/\AllDig 10 (QF p):=by
 by_cases h0:p.size=0
 ·rw[Um h0] at h;cases h
 ·rw[Yc (by omega)] at h;have h:=of_decide_eq_true h;refine⟨FW (by omega),⟨ZT 10 (QF p),Dj p hs 0 (by omega) 10 (.inl rfl) _ (by rw[Nat.zero_add];rfl),?_⟩,?_⟩
  ·rw[bne_eq_false_iff_eq];omega
  ·have:=Gr 10 (QF p);rw[h,List.take_of_length_le (by rw[Qc];exact Nat.le_refl _)] at this;exact this
theorem AK (w:World) (s:ByteArray) (hs:s.size<=2000000000) (m:Int) (hm:w.cell? ⟨0,0,none⟩=some (.int .i64 m)):
  Calls prog 198 #[.string s] w (NumPost w (LM (QF s))):=by
 have h00:0<w.heap.size:=World.block_lt_of_cell? _ _ hm;obtain⟨R,hR⟩:∃R,R=LM (QF s):=⟨_,rfl⟩
 rw[<-hR];unfold LM at hR;cases hk:ZI (QF s) with
 |none=>
  rw[hk] at hR;exact YU w s s ⟨#[]⟩ false R (Mn hs hm hk) h00 (.inl rfl) hs (by decide) hR
 |some k=>
  rw[hk] at hR;have hR:R=Z6 ((QF s).take k) ((QF s).drop (k+1)):=hR;have hcut:=Mm hs hm hk;obtain⟨p,hp⟩:∃p:ByteArray,p=⟨(s.data.toList.take k).toArray⟩:=⟨_,rfl⟩
  obtain⟨q,hq⟩:∃q:ByteArray,q=⟨(s.data.toList.drop (k+1)).toArray⟩:=⟨_,rfl⟩
  have hbp:QF p=(QF s).take k:=by rw[hp,KQ,List.map_take];rfl
  have hbq:QF q=(QF s).drop (k+1):=by rw[hq,KQ,List.map_drop];rfl
  rw[<-hp,<-hq] at hcut;have zp:p.size<=2000000000:=by rw[<-Qc,hbp,List.length_take,Qc];omega
  have zq:q.size<=2000000000:=by rw[<-Qc,hbq,List.length_drop,Qc];omega
  rw[<-hbp,<-hbq] at hR;unfold Z6 at hR;cases d1:JA (QF p) with
  |false=>
   rw[d1,Bool.false_and,if_neg (by decide)] at hR;refine YU w s p q true R hcut h00 (.inr ⟨rfl,?_⟩) zp zq hR;rcases Yo zp d1 with h|⟨h,h2⟩
   ·exact .inl h
   ·cases hqe:q.toList.isEmpty with
    |true=>exact .inr (.inl ⟨h,hqe,by rw[h,hqe];rfl⟩)
    |false=>exact .inr (.inr (.inl ⟨h,hqe,by rw[h,hqe];rfl,h2⟩))
  |true=>
   obtain⟨e1,e2,e3⟩:=Xr zp d1;cases d2:JA (QF q) with
   |false=>
    rw[d1,d2,if_neg (by decide)] at hR;refine YU w s p q true R hcut h00 (.inr ⟨rfl,.inr ?_⟩) zp zq hR;rcases Yo zq d2 with h|⟨h,h2⟩
    ·exact .inl ⟨e1,h,by rw[e1,h];rfl⟩
    ·exact .inr (.inr ⟨e1,h,by rw[e1,h];rfl,e2,h2⟩)
   |true=>
    obtain⟨f1,f2,f3⟩:=Xr zq d2;obtain⟨a,ha,hae⟩:=e2;obtain⟨a2,ha2,hae2⟩:=f2;rw[d1,d2,if_pos (by decide)] at hR;refine N7 w s p q _ _ R hcut h00 e1 f1 (by rw[e1,f1];rfl) a a2 ha hae ha2 hae2 zp zq (fun W=>Xa (.inl rfl) zp e3 W rfl) (fun W=>Xa (.inl rfl) zq f3 W rfl) ?_;cases hA:Km 10 (QF p) 0 with
    |none=>rw[hA] at hR;exact .inl ⟨hR,.inl rfl⟩
    |some x=>
     cases hB:Km 10 (QF q) 0 with
     |none=>rw[hA,hB] at hR;exact .inl ⟨hR,.inr ⟨x,rfl,rfl⟩⟩
     |some y=>
      rw[hA,hB] at hR;have hR:R=if y=0 then .error 6 else Q2 x y:=hR
      refine .inr ⟨x,y,rfl,rfl,?_⟩;by_cases hy:y=0
      ·subst hy;exact .inl ⟨hR,by show(((nE (Q2 (x:Int) 0):Nat):Int) !=0)=true;unfold Q2;rw[if_pos rfl];rfl⟩
      ·rw[if_neg hy] at hR;rcases To (n:=(x:Int)) (q:=(y:Int)) (R:=R) (by omega) hR with h|h
       ·exact .inr h
       ·exact .inl ⟨h.2,h.1⟩
def PreTo (s u:ByteArray) (b:Bool):Prop:=∀W,Calls prog 195 #[s,.string ⟨#[45]⟩] W fun e w'=>e= .returned (.tuple #[.string u,.bool b])/\w'=W
theorem CG (s:ByteArray) (hs:s.size<=2000000000):∃u b,PreTo s u b/\u.size<=2000000000/\Uy (QF s)=if b then G5 (Q4 (QF u)) else Q4 (QF u):=by
 have hc:=fun W=>strings_CutPrefix s ⟨#[45]⟩ W;rw[show(⟨#[45]⟩:ByteArray).data.toList=[45] from rfl] at hc;cases hd:s.data.toList with
 |nil=>
  have hb:QF s=[]:=by unfold QF;rw[hd];rfl
  refine⟨s,false,fun W=> ?_,hs,by rw[hb];rfl⟩;have:=hc W;rw[hd] at this;have e:(⟨(Lib.trimPrefix [] [45]).toArray⟩:ByteArray)=s:=JB (by rw[KQ,hb];rfl);rw[e] at this;exact this
 |cons c r=>
  have hb:QF s=c.toNat::r.map UInt8.toNat:=by unfold QF;rw[hd];rfl
  have hp:Lib.hasPrefix (c::r) [45]=(45==c):=by unfold Lib.hasPrefix;simp[List.isPrefixOf]
  by_cases h45:c=45
  ·subst h45;refine⟨⟨r.toArray⟩,true,fun W=> ?_,?_,?_⟩
   ·have:=hc W;rw[hd] at this;unfold Lib.trimPrefix at this;rw[hp] at this;exact this
   ·have h1:s.size=s.data.toList.length:=rfl;rw[hd] at h1;show r.toArray.size<=_;simp at h1 ⊢;omega
   ·rw[hb,KQ,KW,if_pos (by rfl),if_pos rfl]
  ·have h1:((45:UInt8)==c)=false:=by rw[beq_eq_false_iff_ne];exact fun h=>h45 h.symm
   have h2:c.toNat≠45:=fun h=>h45 (UInt8.toNat_inj.1 h);refine⟨s,false,fun W=> ?_,hs,?_⟩
   ·have:=hc W;rw[hd] at this;unfold Lib.trimPrefix at this;rw[hp,h1,if_neg (by decide)] at this;have e:(⟨(c::r).toArray⟩:ByteArray)=s:=JB (by rw[KQ,hb];rfl);rw[e] at this;exact this
   ·rw[hb,KW,if_neg h2,if_neg (by decide)]
def NumbAt (u:ByteArray) (hx:Bool) (p:Int) (e f:Nat) (M:RR):Prop:=∀W,Calls prog 197 #[.agg #[.bool hx,p,.int .i64 (e:Nat),.int .i64 (f:Nat)],u] W (NumPost W M)
def TailWays (u:ByteArray) (M:RR) (w:World):Prop:=∃F:FR,(∀W,Calls prog 196 #[u,(0:Int)] W (FindPost W F))/\
 ((F=none/\∀W,W.cell? ⟨0,0,none⟩=w.cell? ⟨0,0,none⟩->Calls prog 198 #[u] W (NumPost W M))\/
 (∃hx p e f,F=some (hx,p,e,f)/\(((e:Nat):Int)==(u.size:Int))=false/\∀W,W.cell? ⟨0,0,none⟩=w.cell? ⟨0,0,none⟩->Calls prog 198 #[u] W (NumPost W M))\/
 (∃hx p e f,F=some (hx,p,e,f)/\(((e:Nat):Int)==(u.size:Int))=true/\NumbAt u hx p e f M))
theorem M6 (u:ByteArray) (hu:u.size<=2000000000) (w:World) (m:Int) (hm:w.cell? ⟨0,0,none⟩=some (.int .i64 m)):TailWays u (Q4 (QF u)) w:=by
 obtain⟨hs,hn⟩:=C3 (QF u);refine⟨UQ (QF u),fun W=>SU W u hu,?_⟩;cases hF:UQ (QF u) with
 |none=>
  refine .inl ⟨rfl,fun W hW=> ?_⟩;rw[T0 (.inl (hn hF))];exact AK W u hu m (hW.trans hm)
 |some x=>
  obtain⟨hx,p,e,f⟩:=x;obtain⟨h1,h2⟩:=hs _ _ _ _ hF;by_cases he:e=u.size
  ·refine .inr (.inr ⟨hx,p,e,f,rfl,by rw[beq_iff_eq];omega,fun W=> ?_⟩);rw[Bh (by omega) (by rw[h1,Qc];exact he)];exact AD W u hu hx p e f hF
  ·refine .inr (.inl ⟨hx,p,e,f,rfl,by rw[beq_eq_false_iff_ne];omega,fun W hW=> ?_⟩);rw[T0 (.inr (by rw[h1,Qc];exact he))];exact AK W u hu m (hW.trans hm)
def PTrimTo (s t:ByteArray):Prop:=∀W,Calls prog 194 #[s] W (fun e w'=>e= .returned (.string t)/\Below W W w')
theorem TF (w:World) (s t u:ByteArray) (M R:RR) (m:Int) (hus:u.size<=2000000000) (hm:w.cell? ⟨0,0,none⟩=some (.int .i64 m))
  (htrim:PTrimTo s t) (hpre:PreTo t u true) (htw:∀W:World,W.cell? ⟨0,0,none⟩=some (.int .i64 m)->TailWays u M W) (hg:Good M) (hE:((((nE M:Nat):Int) !=0)=true)) (hc:∃c,M= .error c) (hR:R=G5 M):
  Calls prog 144 #[s] w (NumPost w R):=by
 have h00:0<w.heap.size:=World.block_lt_of_cell? _ _ hm;have HB:=zh (((Below.refl w.heap.size w).alloc zl (o2 0 0)));have HTRIM:=zh htrim;have HR2:=zh hR;have HM:=zh hm;have HPRE:=zh hpre;have HTW:=zh htw;have HC:=zh hc;have hgb:=Jv hg;obtain⟨g1,g2,g3⟩:=hgb;clear hR hm htrim hpre htw hc hg;go_enter func144,ntmps144;go_wp2_with fail
 refine(HTRIM.out _).mono ?_;rintro e w1 ⟨rfl,hb⟩;have hz1:=hb.size;simp at hz1;obtain⟨hc1,hf1⟩:=QN hb;have q0:w1.cell? w=some (.int .i64 0):=(hc1 _ _ (by simp)).trans (by simp[go_sem]);have q1:w1.cell? ⟨w,1,none⟩=some (.int .i64 0):=(hc1 _ _ (by simp)).trans (by simp[go_sem]);have p0:w1.frozen? w=false:=(hf1 _ _ (by simp)).trans (by simp[go_sem]);have p1:w1.frozen? ⟨w,1,none⟩=false:=(hf1 _ _ (by simp)).trans (by simp[go_sem]);have m0:w1.cell? ⟨0,0,none⟩=some (.int .i64 m):=(hc1 _ _ (by simp)).trans ((QH h00).trans HM.out);have HB1:=hbn HB hb;obtain⟨F,hfind,hF⟩:=HTW.out w1 m0;have HFIND:=zh hfind;clear HTRIM hb hc1 hf1 hfind HTW;go_wp2_with fail
 refine(HPRE.out _).mono ?_;rintro e w1 ⟨rfl,rfl⟩;rcases hF with⟨rfl,hcall⟩|⟨hx,p,e,f,rfl,he,hcall⟩|⟨hx,p,e,f,rfl,he,hcall⟩
 ·have HCALL:=zh hcall;clear hcall;go_wp2_with fail
  refine(HFIND.out _).mono ?_;rintro e w2 ⟨rfl,hb⟩;have hz2:=hb.size;obtain⟨hc2,hf2⟩:=QN hb;have HB2:=hbn HB1 hb;have r0:w2.cell? w=some (.int .i64 0):=(hc2 _ _ (by omega)).trans q0;have r1:w2.cell? ⟨w,1,none⟩=some (.int .i64 0):=(hc2 _ _ (by omega)).trans q1;have s0:w2.frozen? w=false:=(hf2 _ _ (by omega)).trans p0;have s1:w2.frozen? ⟨w,1,none⟩=false:=(hf2 _ _ (by omega)).trans p1;have M0:=zh (hc2 0 0 (by omega));clear HFIND hb hc2 hf2 q0 q1 p0 p1 m0;go_wp2_with fail
  refine(HCALL.out _ ((QH (by simp)).trans ((QH (by omega)).trans M0.out))).mono ?_;rintro e w3 ⟨rfl,hb⟩;have hz3:=hb.size;simp at hz3;obtain⟨hc3,hf3⟩:=QN hb;have c0:w3.cell? w=some (.int .i64 0):=(hc3 _ _ (by simp;omega)).trans ((QH (by simp;omega)).trans ((QH (by omega)).trans r0));have c1:w3.cell? ⟨w,1,none⟩=some (.int .i64 0):=(hc3 _ _ (by simp;omega)).trans ((QH (by simp;omega)).trans ((QH (by omega)).trans r1));have f0:w3.frozen? w=false:=(hf3 _ _ (by simp;omega)).trans ((QJ (by simp;omega)).trans ((QJ (by omega)).trans s0));have f1:w3.frozen? ⟨w,1,none⟩=false:=(hf3 _ _ (by simp;omega)).trans ((QJ (by simp;omega)).trans ((QJ (by omega)).trans s1));have d0:w3.cell? ⟨w2+1,0,none⟩=some (.int .i64 0):=(hc3 _ _ (by simp)).trans (by simp[go_sem]);have d1:w3.cell? ⟨w2+1,1,none⟩=some (.int .i64 0):=(hc3 _ _ (by simp)).trans (by simp[go_sem]);have k0:w3.frozen? ⟨w2+1,0,none⟩=false:=(hf3 _ _ (by simp)).trans (by simp[go_sem]);have k1:w3.frozen? ⟨w2+1,1,none⟩=false:=(hf3 _ _ (by simp)).trans (by simp[go_sem]);have HB3:=hbn HB2 (QC (QE _ _ _) hb);have hb8:w.heap.size<=w2.heap.size+1:=by omega
  clear hb hc3 hf3 r0 r1 s0 s1;go_wp2;refine zr (by simp[results,results144,go_sem,c0,c1]<;>rfl) ?_;obtain⟨a,ha⟩:=HC.out;have hR2:=HR2.out;rw[ha] at hR2;exact Ke hR2 ha (QD (QD HB3.out hb8 _ _) zl _ _)
 ·have HCALL:=zh hcall;clear hcall;go_wp2_with fail
  refine(HFIND.out _).mono ?_;rintro e w2 ⟨rfl,hb⟩;have hz2:=hb.size;obtain⟨hc2,hf2⟩:=QN hb;have HB2:=hbn HB1 hb;have r0:w2.cell? w=some (.int .i64 0):=(hc2 _ _ (by omega)).trans q0;have r1:w2.cell? ⟨w,1,none⟩=some (.int .i64 0):=(hc2 _ _ (by omega)).trans q1;have s0:w2.frozen? w=false:=(hf2 _ _ (by omega)).trans p0;have s1:w2.frozen? ⟨w,1,none⟩=false:=(hf2 _ _ (by omega)).trans p1;have M0:=zh (hc2 0 0 (by omega));clear HFIND hb hc2 hf2 q0 q1 p0 p1 m0;go_wp2_with fail
  refine(HCALL.out _ ((QH (by simp)).trans ((QH (by omega)).trans M0.out))).mono ?_;rintro e w3 ⟨rfl,hb⟩;have hz3:=hb.size;simp at hz3;obtain⟨hc3,hf3⟩:=QN hb;have c0:w3.cell? w=some (.int .i64 0):=(hc3 _ _ (by simp;omega)).trans ((QH (by simp;omega)).trans ((QH (by omega)).trans r0));have c1:w3.cell? ⟨w,1,none⟩=some (.int .i64 0):=(hc3 _ _ (by simp;omega)).trans ((QH (by simp;omega)).trans ((QH (by omega)).trans r1));have f0:w3.frozen? w=false:=(hf3 _ _ (by simp;omega)).trans ((QJ (by simp;omega)).trans ((QJ (by omega)).trans s0));have f1:w3.frozen? ⟨w,1,none⟩=false:=(hf3 _ _ (by simp;omega)).trans ((QJ (by simp;omega)).trans ((QJ (by omega)).trans s1));have d0:w3.cell? ⟨w2+1,0,none⟩=some (.int .i64 0):=(hc3 _ _ (by simp)).trans (by simp[go_sem]);have d1:w3.cell? ⟨w2+1,1,none⟩=some (.int .i64 0):=(hc3 _ _ (by simp)).trans (by simp[go_sem]);have k0:w3.frozen? ⟨w2+1,0,none⟩=false:=(hf3 _ _ (by simp)).trans (by simp[go_sem]);have k1:w3.frozen? ⟨w2+1,1,none⟩=false:=(hf3 _ _ (by simp)).trans (by simp[go_sem]);have HB3:=hbn HB2 (QC (QE _ _ _) hb);have hb8:w.heap.size<=w2.heap.size+1:=by omega
  clear hb hc3 hf3 r0 r1 s0 s1;go_wp2;refine zr (by simp[results,results144,go_sem,c0,c1]<;>rfl) ?_;obtain⟨a,ha⟩:=HC.out;have hR2:=HR2.out;rw[ha] at hR2;exact Ke hR2 ha (QD (QD HB3.out hb8 _ _) zl _ _)
 ·have HCALL:=zh hcall;clear hcall;go_wp2_with fail
  refine(HFIND.out _).mono ?_;rintro e w2 ⟨rfl,hb⟩;have hz2:=hb.size;obtain⟨hc2,hf2⟩:=QN hb;have HB2:=hbn HB1 hb;have r0:w2.cell? w=some (.int .i64 0):=(hc2 _ _ (by omega)).trans q0;have r1:w2.cell? ⟨w,1,none⟩=some (.int .i64 0):=(hc2 _ _ (by omega)).trans q1;have s0:w2.frozen? w=false:=(hf2 _ _ (by omega)).trans p0;have s1:w2.frozen? ⟨w,1,none⟩=false:=(hf2 _ _ (by omega)).trans p1;have M0:=zh (hc2 0 0 (by omega));clear HFIND hb hc2 hf2 q0 q1 p0 p1 m0;go_wp2_with fail
  refine(HCALL.out _).mono ?_;rintro e w3 ⟨rfl,hb⟩;have hz3:=hb.size;simp at hz3;obtain⟨hc3,hf3⟩:=QN hb;have c0:w3.cell? w=some (.int .i64 0):=(hc3 _ _ (by simp;omega)).trans ((QH (by simp;omega)).trans ((QH (by omega)).trans r0));have c1:w3.cell? ⟨w,1,none⟩=some (.int .i64 0):=(hc3 _ _ (by simp;omega)).trans ((QH (by simp;omega)).trans ((QH (by omega)).trans r1));have f0:w3.frozen? w=false:=(hf3 _ _ (by simp;omega)).trans ((QJ (by simp;omega)).trans ((QJ (by omega)).trans s0));have f1:w3.frozen? ⟨w,1,none⟩=false:=(hf3 _ _ (by simp;omega)).trans ((QJ (by simp;omega)).trans ((QJ (by omega)).trans s1));have d0:w3.cell? ⟨w2+1,0,none⟩=some (.int .i64 0):=(hc3 _ _ (by simp)).trans (by simp[go_sem]);have d1:w3.cell? ⟨w2+1,1,none⟩=some (.int .i64 0):=(hc3 _ _ (by simp)).trans (by simp[go_sem]);have k0:w3.frozen? ⟨w2+1,0,none⟩=false:=(hf3 _ _ (by simp)).trans (by simp[go_sem]);have k1:w3.frozen? ⟨w2+1,1,none⟩=false:=(hf3 _ _ (by simp)).trans (by simp[go_sem]);have HB3:=hbn HB2 (QC (QE _ _ _) hb);have hb8:w.heap.size<=w2.heap.size+1:=by omega
  clear hb hc3 hf3 r0 r1 s0 s1;go_wp2;refine zr (by simp[results,results144,go_sem,c0,c1]<;>rfl) ?_;obtain⟨a,ha⟩:=HC.out;have hR2:=HR2.out;rw[ha] at hR2;exact Ke hR2 ha (QD (QD HB3.out hb8 _ _) zl _ _)
theorem TG (w:World) (s t u:ByteArray) (M R:RR) (m:Int) (hus:u.size<=2000000000) (hm:w.cell? ⟨0,0,none⟩=some (.int .i64 m))
  (htrim:PTrimTo s t) (hpre:PreTo t u false) (htw:∀W:World,W.cell? ⟨0,0,none⟩=some (.int .i64 m)->TailWays u M W) (hg:Good M) (hE:((((nE M:Nat):Int) !=0)=true)) (hc:∃c,M= .error c) (hR:R=M):
  Calls prog 144 #[s] w (NumPost w R):=by
 have h00:0<w.heap.size:=World.block_lt_of_cell? _ _ hm;have HB:=zh (((Below.refl w.heap.size w).alloc zl (o2 0 0)));have HTRIM:=zh htrim;have HR2:=zh hR;have HM:=zh hm;have HPRE:=zh hpre;have HTW:=zh htw;have HC:=zh hc;have hgb:=Jv hg;obtain⟨g1,g2,g3⟩:=hgb;clear hR hm htrim hpre htw hc hg;go_enter func144,ntmps144;go_wp2_with fail
 refine(HTRIM.out _).mono ?_;rintro e w1 ⟨rfl,hb⟩;have hz1:=hb.size;simp at hz1;obtain⟨hc1,hf1⟩:=QN hb;have q0:w1.cell? w=some (.int .i64 0):=(hc1 _ _ (by simp)).trans (by simp[go_sem]);have q1:w1.cell? ⟨w,1,none⟩=some (.int .i64 0):=(hc1 _ _ (by simp)).trans (by simp[go_sem]);have p0:w1.frozen? w=false:=(hf1 _ _ (by simp)).trans (by simp[go_sem]);have p1:w1.frozen? ⟨w,1,none⟩=false:=(hf1 _ _ (by simp)).trans (by simp[go_sem]);have m0:w1.cell? ⟨0,0,none⟩=some (.int .i64 m):=(hc1 _ _ (by simp)).trans ((QH h00).trans HM.out);have HB1:=hbn HB hb;obtain⟨F,hfind,hF⟩:=HTW.out w1 m0;have HFIND:=zh hfind;clear HTRIM hb hc1 hf1 hfind HTW;go_wp2_with fail
 refine(HPRE.out _).mono ?_;rintro e w1 ⟨rfl,rfl⟩;rcases hF with⟨rfl,hcall⟩|⟨hx,p,e,f,rfl,he,hcall⟩|⟨hx,p,e,f,rfl,he,hcall⟩
 ·have HCALL:=zh hcall;clear hcall;go_wp2_with fail
  refine(HFIND.out _).mono ?_;rintro e w2 ⟨rfl,hb⟩;have hz2:=hb.size;obtain⟨hc2,hf2⟩:=QN hb;have HB2:=hbn HB1 hb;have r0:w2.cell? w=some (.int .i64 0):=(hc2 _ _ (by omega)).trans q0;have r1:w2.cell? ⟨w,1,none⟩=some (.int .i64 0):=(hc2 _ _ (by omega)).trans q1;have s0:w2.frozen? w=false:=(hf2 _ _ (by omega)).trans p0;have s1:w2.frozen? ⟨w,1,none⟩=false:=(hf2 _ _ (by omega)).trans p1;have M0:=zh (hc2 0 0 (by omega));clear HFIND hb hc2 hf2 q0 q1 p0 p1 m0;go_wp2_with fail
  refine(HCALL.out _ ((QH (by simp)).trans ((QH (by omega)).trans M0.out))).mono ?_;rintro e w3 ⟨rfl,hb⟩;have hz3:=hb.size;simp at hz3;obtain⟨hc3,hf3⟩:=QN hb;have c0:w3.cell? w=some (.int .i64 0):=(hc3 _ _ (by simp;omega)).trans ((QH (by simp;omega)).trans ((QH (by omega)).trans r0));have c1:w3.cell? ⟨w,1,none⟩=some (.int .i64 0):=(hc3 _ _ (by simp;omega)).trans ((QH (by simp;omega)).trans ((QH (by omega)).trans r1));have f0:w3.frozen? w=false:=(hf3 _ _ (by simp;omega)).trans ((QJ (by simp;omega)).trans ((QJ (by omega)).trans s0));have f1:w3.frozen? ⟨w,1,none⟩=false:=(hf3 _ _ (by simp;omega)).trans ((QJ (by simp;omega)).trans ((QJ (by omega)).trans s1));have d0:w3.cell? ⟨w2+1,0,none⟩=some (.int .i64 0):=(hc3 _ _ (by simp)).trans (by simp[go_sem]);have d1:w3.cell? ⟨w2+1,1,none⟩=some (.int .i64 0):=(hc3 _ _ (by simp)).trans (by simp[go_sem]);have k0:w3.frozen? ⟨w2+1,0,none⟩=false:=(hf3 _ _ (by simp)).trans (by simp[go_sem]);have k1:w3.frozen? ⟨w2+1,1,none⟩=false:=(hf3 _ _ (by simp)).trans (by simp[go_sem]);have HB3:=hbn HB2 (QC (QE _ _ _) hb);have hb8:w.heap.size<=w2.heap.size+1:=by omega
  clear hb hc3 hf3 r0 r1 s0 s1;go_wp2;refine zr (by simp[results,results144,go_sem,c0,c1]<;>rfl) ?_;obtain⟨a,ha⟩:=HC.out;have hR2:=HR2.out;rw[ha] at hR2;exact Ke hR2 ha (QD (QD HB3.out hb8 _ _) zl _ _)
 ·have HCALL:=zh hcall;clear hcall;go_wp2_with fail
  refine(HFIND.out _).mono ?_;rintro e w2 ⟨rfl,hb⟩;have hz2:=hb.size;obtain⟨hc2,hf2⟩:=QN hb;have HB2:=hbn HB1 hb;have r0:w2.cell? w=some (.int .i64 0):=(hc2 _ _ (by omega)).trans q0;have r1:w2.cell? ⟨w,1,none⟩=some (.int .i64 0):=(hc2 _ _ (by omega)).trans q1;have s0:w2.frozen? w=false:=(hf2 _ _ (by omega)).trans p0;have s1:w2.frozen? ⟨w,1,none⟩=false:=(hf2 _ _ (by omega)).trans p1;have M0:=zh (hc2 0 0 (by omega));clear HFIND hb hc2 hf2 q0 q1 p0 p1 m0;go_wp2_with fail
  refine(HCALL.out _ ((QH (by simp)).trans ((QH (by omega)).trans M0.out))).mono ?_;rintro e w3 ⟨rfl,hb⟩;have hz3:=hb.size;simp at hz3;obtain⟨hc3,hf3⟩:=QN hb;have c0:w3.cell? w=some (.int .i64 0):=(hc3 _ _ (by simp;omega)).trans ((QH (by simp;omega)).trans ((QH (by omega)).trans r0));have c1:w3.cell? ⟨w,1,none⟩=some (.int .i64 0):=(hc3 _ _ (by simp;omega)).trans ((QH (by simp;omega)).trans ((QH (by omega)).trans r1));have f0:w3.frozen? w=false:=(hf3 _ _ (by simp;omega)).trans ((QJ (by simp;omega)).trans ((QJ (by omega)).trans s0));have f1:w3.frozen? ⟨w,1,none⟩=false:=(hf3 _ _ (by simp;omega)).trans ((QJ (by simp;omega)).trans ((QJ (by omega)).trans s1));have d0:w3.cell? ⟨w2+1,0,none⟩=some (.int .i64 0):=(hc3 _ _ (by simp)).trans (by simp[go_sem]);have d1:w3.cell? ⟨w2+1,1,none⟩=some (.int .i64 0):=(hc3 _ _ (by simp)).trans (by simp[go_sem]);have k0:w3.frozen? ⟨w2+1,0,none⟩=false:=(hf3 _ _ (by simp)).trans (by simp[go_sem]);have k1:w3.frozen? ⟨w2+1,1,none⟩=false:=(hf3 _ _ (by simp)).trans (by simp[go_sem]);have HB3:=hbn HB2 (QC (QE _ _ _) hb);have hb8:w.heap.size<=w2.heap.size+1:=by omega
  clear hb hc3 hf3 r0 r1 s0 s1;go_wp2;refine zr (by simp[results,results144,go_sem,c0,c1]<;>rfl) ?_;obtain⟨a,ha⟩:=HC.out;have hR2:=HR2.out;rw[ha] at hR2;exact Ke hR2 ha (QD (QD HB3.out hb8 _ _) zl _ _)
 ·have HCALL:=zh hcall;clear hcall;go_wp2_with fail
  refine(HFIND.out _).mono ?_;rintro e w2 ⟨rfl,hb⟩;have hz2:=hb.size;obtain⟨hc2,hf2⟩:=QN hb;have HB2:=hbn HB1 hb;have r0:w2.cell? w=some (.int .i64 0):=(hc2 _ _ (by omega)).trans q0;have r1:w2.cell? ⟨w,1,none⟩=some (.int .i64 0):=(hc2 _ _ (by omega)).trans q1;have s0:w2.frozen? w=false:=(hf2 _ _ (by omega)).trans p0;have s1:w2.frozen? ⟨w,1,none⟩=false:=(hf2 _ _ (by omega)).trans p1;have M0:=zh (hc2 0 0 (by omega));clear HFIND hb hc2 hf2 q0 q1 p0 p1 m0;go_wp2_with fail
  refine(HCALL.out _).mono ?_;rintro e w3 ⟨rfl,hb⟩;have hz3:=hb.size;simp at hz3;obtain⟨hc3,hf3⟩:=QN hb;have c0:w3.cell? w=some (.int .i64 0):=(hc3 _ _ (by simp;omega)).trans ((QH (by simp;omega)).trans ((QH (by omega)).trans r0));have c1:w3.cell? ⟨w,1,none⟩=some (.int .i64 0):=(hc3 _ _ (by simp;omega)).trans ((QH (by simp;omega)).trans ((QH (by omega)).trans r1));have f0:w3.frozen? w=false:=(hf3 _ _ (by simp;omega)).trans ((QJ (by simp;omega)).trans ((QJ (by omega)).trans s0));have f1:w3.frozen? ⟨w,1,none⟩=false:=(hf3 _ _ (by simp;omega)).trans ((QJ (by simp;omega)).trans ((QJ (by omega)).trans s1));have d0:w3.cell? ⟨w2+1,0,none⟩=some (.int .i64 0):=(hc3 _ _ (by simp)).trans (by simp[go_sem]);have d1:w3.cell? ⟨w2+1,1,none⟩=some (.int .i64 0):=(hc3 _ _ (by simp)).trans (by simp[go_sem]);have k0:w3.frozen? ⟨w2+1,0,none⟩=false:=(hf3 _ _ (by simp)).trans (by simp[go_sem]);have k1:w3.frozen? ⟨w2+1,1,none⟩=false:=(hf3 _ _ (by simp)).trans (by simp[go_sem]);have HB3:=hbn HB2 (QC (QE _ _ _) hb);have hb8:w.heap.size<=w2.heap.size+1:=by omega
  clear hb hc3 hf3 r0 r1 s0 s1;go_wp2;refine zr (by simp[results,results144,go_sem,c0,c1]<;>rfl) ?_;obtain⟨a,ha⟩:=HC.out;have hR2:=HR2.out;rw[ha] at hR2;exact Ke hR2 ha (QD (QD HB3.out hb8 _ _) zl _ _)
theorem Nx (w:World) (s t u:ByteArray) (M R:RR) (m:Int) (hus:u.size<=2000000000) (hm:w.cell? ⟨0,0,none⟩=some (.int .i64 m))
  (htrim:PTrimTo s t) (hpre:PreTo t u true) (htw:∀W:World,W.cell? ⟨0,0,none⟩=some (.int .i64 m)->TailWays u M W) (hg:Good M) (hE:((((nE M:Nat):Int) !=0)=false)) (hc:∃a,M= .ok a) (hR:R=G5 M):
  Calls prog 144 #[s] w (NumPost w R):=by
 have h00:0<w.heap.size:=World.block_lt_of_cell? _ _ hm;have HB:=zh (((Below.refl w.heap.size w).alloc zl (o2 0 0)));have HTRIM:=zh htrim;have HR2:=zh hR;have HM:=zh hm;have HPRE:=zh hpre;have HTW:=zh htw;have HC:=zh hc;have hgb:=Jv hg;obtain⟨g1,g2,g3⟩:=hgb;clear hR hm htrim hpre htw hc hg;go_enter func144,ntmps144;go_wp2_with fail
 refine(HTRIM.out _).mono ?_;rintro e w1 ⟨rfl,hb⟩;have hz1:=hb.size;simp at hz1;obtain⟨hc1,hf1⟩:=QN hb;have q0:w1.cell? w=some (.int .i64 0):=(hc1 _ _ (by simp)).trans (by simp[go_sem]);have q1:w1.cell? ⟨w,1,none⟩=some (.int .i64 0):=(hc1 _ _ (by simp)).trans (by simp[go_sem]);have p0:w1.frozen? w=false:=(hf1 _ _ (by simp)).trans (by simp[go_sem]);have p1:w1.frozen? ⟨w,1,none⟩=false:=(hf1 _ _ (by simp)).trans (by simp[go_sem]);have m0:w1.cell? ⟨0,0,none⟩=some (.int .i64 m):=(hc1 _ _ (by simp)).trans ((QH h00).trans HM.out);have HB1:=hbn HB hb;obtain⟨F,hfind,hF⟩:=HTW.out w1 m0;have HFIND:=zh hfind;clear HTRIM hb hc1 hf1 hfind HTW;go_wp2_with fail
 refine(HPRE.out _).mono ?_;rintro e w1 ⟨rfl,rfl⟩;rcases hF with⟨rfl,hcall⟩|⟨hx,p,e,f,rfl,he,hcall⟩|⟨hx,p,e,f,rfl,he,hcall⟩
 ·have HCALL:=zh hcall;clear hcall;go_wp2_with fail
  refine(HFIND.out _).mono ?_;rintro e w2 ⟨rfl,hb⟩;have hz2:=hb.size;obtain⟨hc2,hf2⟩:=QN hb;have HB2:=hbn HB1 hb;have r0:w2.cell? w=some (.int .i64 0):=(hc2 _ _ (by omega)).trans q0;have r1:w2.cell? ⟨w,1,none⟩=some (.int .i64 0):=(hc2 _ _ (by omega)).trans q1;have s0:w2.frozen? w=false:=(hf2 _ _ (by omega)).trans p0;have s1:w2.frozen? ⟨w,1,none⟩=false:=(hf2 _ _ (by omega)).trans p1;have M0:=zh (hc2 0 0 (by omega));clear HFIND hb hc2 hf2 q0 q1 p0 p1 m0;go_wp2_with fail
  refine(HCALL.out _ ((QH (by simp)).trans ((QH (by omega)).trans M0.out))).mono ?_;rintro e w3 ⟨rfl,hb⟩;have hz3:=hb.size;simp at hz3;obtain⟨hc3,hf3⟩:=QN hb;have c0:w3.cell? w=some (.int .i64 0):=(hc3 _ _ (by simp;omega)).trans ((QH (by simp;omega)).trans ((QH (by omega)).trans r0));have c1:w3.cell? ⟨w,1,none⟩=some (.int .i64 0):=(hc3 _ _ (by simp;omega)).trans ((QH (by simp;omega)).trans ((QH (by omega)).trans r1));have f0:w3.frozen? w=false:=(hf3 _ _ (by simp;omega)).trans ((QJ (by simp;omega)).trans ((QJ (by omega)).trans s0));have f1:w3.frozen? ⟨w,1,none⟩=false:=(hf3 _ _ (by simp;omega)).trans ((QJ (by simp;omega)).trans ((QJ (by omega)).trans s1));have d0:w3.cell? ⟨w2+1,0,none⟩=some (.int .i64 0):=(hc3 _ _ (by simp)).trans (by simp[go_sem]);have d1:w3.cell? ⟨w2+1,1,none⟩=some (.int .i64 0):=(hc3 _ _ (by simp)).trans (by simp[go_sem]);have k0:w3.frozen? ⟨w2+1,0,none⟩=false:=(hf3 _ _ (by simp)).trans (by simp[go_sem]);have k1:w3.frozen? ⟨w2+1,1,none⟩=false:=(hf3 _ _ (by simp)).trans (by simp[go_sem]);have HB3:=hbn HB2 (QC (QE _ _ _) hb);have hb8:w.heap.size<=w2.heap.size+1:=by omega
  clear hb hc3 hf3 r0 r1 s0 s1;go_wp2;refine zr (by simp[results,results144,go_sem,c0,c1]<;>rfl) ?_;obtain⟨a,ha⟩:=HC.out;have hR2:=HR2.out;rw[ha] at hR2;rw[ha];exact JI hR2 (QD ((QD HB3.out hb8 _ _).setCell (p:=⟨w2.heap.size+1,0,none⟩) hb8 _) zl _ _)
 ·have HCALL:=zh hcall;clear hcall;go_wp2_with fail
  refine(HFIND.out _).mono ?_;rintro e w2 ⟨rfl,hb⟩;have hz2:=hb.size;obtain⟨hc2,hf2⟩:=QN hb;have HB2:=hbn HB1 hb;have r0:w2.cell? w=some (.int .i64 0):=(hc2 _ _ (by omega)).trans q0;have r1:w2.cell? ⟨w,1,none⟩=some (.int .i64 0):=(hc2 _ _ (by omega)).trans q1;have s0:w2.frozen? w=false:=(hf2 _ _ (by omega)).trans p0;have s1:w2.frozen? ⟨w,1,none⟩=false:=(hf2 _ _ (by omega)).trans p1;have M0:=zh (hc2 0 0 (by omega));clear HFIND hb hc2 hf2 q0 q1 p0 p1 m0;go_wp2_with fail
  refine(HCALL.out _ ((QH (by simp)).trans ((QH (by omega)).trans M0.out))).mono ?_;rintro e w3 ⟨rfl,hb⟩;have hz3:=hb.size;simp at hz3;obtain⟨hc3,hf3⟩:=QN hb;have c0:w3.cell? w=some (.int .i64 0):=(hc3 _ _ (by simp;omega)).trans ((QH (by simp;omega)).trans ((QH (by omega)).trans r0));have c1:w3.cell? ⟨w,1,none⟩=some (.int .i64 0):=(hc3 _ _ (by simp;omega)).trans ((QH (by simp;omega)).trans ((QH (by omega)).trans r1));have f0:w3.frozen? w=false:=(hf3 _ _ (by simp;omega)).trans ((QJ (by simp;omega)).trans ((QJ (by omega)).trans s0));have f1:w3.frozen? ⟨w,1,none⟩=false:=(hf3 _ _ (by simp;omega)).trans ((QJ (by simp;omega)).trans ((QJ (by omega)).trans s1));have d0:w3.cell? ⟨w2+1,0,none⟩=some (.int .i64 0):=(hc3 _ _ (by simp)).trans (by simp[go_sem]);have d1:w3.cell? ⟨w2+1,1,none⟩=some (.int .i64 0):=(hc3 _ _ (by simp)).trans (by simp[go_sem]);have k0:w3.frozen? ⟨w2+1,0,none⟩=false:=(hf3 _ _ (by simp)).trans (by simp[go_sem]);have k1:w3.frozen? ⟨w2+1,1,none⟩=false:=(hf3 _ _ (by simp)).trans (by simp[go_sem]);have HB3:=hbn HB2 (QC (QE _ _ _) hb);have hb8:w.heap.size<=w2.heap.size+1:=by omega
  clear hb hc3 hf3 r0 r1 s0 s1;go_wp2;refine zr (by simp[results,results144,go_sem,c0,c1]<;>rfl) ?_;obtain⟨a,ha⟩:=HC.out;have hR2:=HR2.out;rw[ha] at hR2;rw[ha];exact JI hR2 (QD ((QD HB3.out hb8 _ _).setCell (p:=⟨w2.heap.size+1,0,none⟩) hb8 _) zl _ _)
 ·have HCALL:=zh hcall;clear hcall;go_wp2_with fail
  refine(HFIND.out _).mono ?_;rintro e w2 ⟨rfl,hb⟩;have hz2:=hb.size;obtain⟨hc2,hf2⟩:=QN hb;have HB2:=hbn HB1 hb;have r0:w2.cell? w=some (.int .i64 0):=(hc2 _ _ (by omega)).trans q0;have r1:w2.cell? ⟨w,1,none⟩=some (.int .i64 0):=(hc2 _ _ (by omega)).trans q1;have s0:w2.frozen? w=false:=(hf2 _ _ (by omega)).trans p0;have s1:w2.frozen? ⟨w,1,none⟩=false:=(hf2 _ _ (by omega)).trans p1;have M0:=zh (hc2 0 0 (by omega));clear HFIND hb hc2 hf2 q0 q1 p0 p1 m0;go_wp2_with fail
  refine(HCALL.out _).mono ?_;rintro e w3 ⟨rfl,hb⟩;have hz3:=hb.size;simp at hz3;obtain⟨hc3,hf3⟩:=QN hb;have c0:w3.cell? w=some (.int .i64 0):=(hc3 _ _ (by simp;omega)).trans ((QH (by simp;omega)).trans ((QH (by omega)).trans r0));have c1:w3.cell? ⟨w,1,none⟩=some (.int .i64 0):=(hc3 _ _ (by simp;omega)).trans ((QH (by simp;omega)).trans ((QH (by omega)).trans r1));have f0:w3.frozen? w=false:=(hf3 _ _ (by simp;omega)).trans ((QJ (by simp;omega)).trans ((QJ (by omega)).trans s0));have f1:w3.frozen? ⟨w,1,none⟩=false:=(hf3 _ _ (by simp;omega)).trans ((QJ (by simp;omega)).trans ((QJ (by omega)).trans s1));have d0:w3.cell? ⟨w2+1,0,none⟩=some (.int .i64 0):=(hc3 _ _ (by simp)).trans (by simp[go_sem]);have d1:w3.cell? ⟨w2+1,1,none⟩=some (.int .i64 0):=(hc3 _ _ (by simp)).trans (by simp[go_sem]);have k0:w3.frozen? ⟨w2+1,0,none⟩=false:=(hf3 _ _ (by simp)).trans (by simp[go_sem]);have k1:w3.frozen? ⟨w2+1,1,none⟩=false:=(hf3 _ _ (by simp)).trans (by simp[go_sem]);have HB3:=hbn HB2 (QC (QE _ _ _) hb);have hb8:w.heap.size<=w2.heap.size+1:=by omega
  clear hb hc3 hf3 r0 r1 s0 s1;go_wp2;refine zr (by simp[results,results144,go_sem,c0,c1]<;>rfl) ?_;obtain⟨a,ha⟩:=HC.out;have hR2:=HR2.out;rw[ha] at hR2;rw[ha];exact JI hR2 (QD ((QD HB3.out hb8 _ _).setCell (p:=⟨w2.heap.size+1,0,none⟩) hb8 _) zl _ _)
theorem Dl (w:World) (s t u:ByteArray) (M R:RR) (m:Int) (hus:u.size<=2000000000) (hm:w.cell? ⟨0,0,none⟩=some (.int .i64 m))
  (htrim:PTrimTo s t) (hpre:PreTo t u false) (htw:∀W:World,W.cell? ⟨0,0,none⟩=some (.int .i64 m)->TailWays u M W) (hg:Good M) (hE:((((nE M:Nat):Int) !=0)=false)) (hc:∃a,M= .ok a) (hR:R=M):
  Calls prog 144 #[s] w (NumPost w R):=by
 have h00:0<w.heap.size:=World.block_lt_of_cell? _ _ hm;have HB:=zh (((Below.refl w.heap.size w).alloc zl (o2 0 0)));have HTRIM:=zh htrim;have HR2:=zh hR;have HM:=zh hm;have HPRE:=zh hpre;have HTW:=zh htw;have HC:=zh hc;have hgb:=Jv hg;obtain⟨g1,g2,g3⟩:=hgb;clear hR hm htrim hpre htw hc hg;go_enter func144,ntmps144;go_wp2_with fail
 refine(HTRIM.out _).mono ?_;rintro e w1 ⟨rfl,hb⟩;have hz1:=hb.size;simp at hz1;obtain⟨hc1,hf1⟩:=QN hb;have q0:w1.cell? w=some (.int .i64 0):=(hc1 _ _ (by simp)).trans (by simp[go_sem]);have q1:w1.cell? ⟨w,1,none⟩=some (.int .i64 0):=(hc1 _ _ (by simp)).trans (by simp[go_sem]);have p0:w1.frozen? w=false:=(hf1 _ _ (by simp)).trans (by simp[go_sem]);have p1:w1.frozen? ⟨w,1,none⟩=false:=(hf1 _ _ (by simp)).trans (by simp[go_sem]);have m0:w1.cell? ⟨0,0,none⟩=some (.int .i64 m):=(hc1 _ _ (by simp)).trans ((QH h00).trans HM.out);have HB1:=hbn HB hb;obtain⟨F,hfind,hF⟩:=HTW.out w1 m0;have HFIND:=zh hfind;clear HTRIM hb hc1 hf1 hfind HTW;go_wp2_with fail
 refine(HPRE.out _).mono ?_;rintro e w1 ⟨rfl,rfl⟩;rcases hF with⟨rfl,hcall⟩|⟨hx,p,e,f,rfl,he,hcall⟩|⟨hx,p,e,f,rfl,he,hcall⟩
 ·have HCALL:=zh hcall;clear hcall;go_wp2_with fail
  refine(HFIND.out _).mono ?_;rintro e w2 ⟨rfl,hb⟩;have hz2:=hb.size;obtain⟨hc2,hf2⟩:=QN hb;have HB2:=hbn HB1 hb;have r0:w2.cell? w=some (.int .i64 0):=(hc2 _ _ (by omega)).trans q0;have r1:w2.cell? ⟨w,1,none⟩=some (.int .i64 0):=(hc2 _ _ (by omega)).trans q1;have s0:w2.frozen? w=false:=(hf2 _ _ (by omega)).trans p0;have s1:w2.frozen? ⟨w,1,none⟩=false:=(hf2 _ _ (by omega)).trans p1;have M0:=zh (hc2 0 0 (by omega));clear HFIND hb hc2 hf2 q0 q1 p0 p1 m0;go_wp2_with fail
  refine(HCALL.out _ ((QH (by simp)).trans ((QH (by omega)).trans M0.out))).mono ?_;rintro e w3 ⟨rfl,hb⟩;have hz3:=hb.size;simp at hz3;obtain⟨hc3,hf3⟩:=QN hb;have c0:w3.cell? w=some (.int .i64 0):=(hc3 _ _ (by simp;omega)).trans ((QH (by simp;omega)).trans ((QH (by omega)).trans r0));have c1:w3.cell? ⟨w,1,none⟩=some (.int .i64 0):=(hc3 _ _ (by simp;omega)).trans ((QH (by simp;omega)).trans ((QH (by omega)).trans r1));have f0:w3.frozen? w=false:=(hf3 _ _ (by simp;omega)).trans ((QJ (by simp;omega)).trans ((QJ (by omega)).trans s0));have f1:w3.frozen? ⟨w,1,none⟩=false:=(hf3 _ _ (by simp;omega)).trans ((QJ (by simp;omega)).trans ((QJ (by omega)).trans s1));have d0:w3.cell? ⟨w2+1,0,none⟩=some (.int .i64 0):=(hc3 _ _ (by simp)).trans (by simp[go_sem]);have d1:w3.cell? ⟨w2+1,1,none⟩=some (.int .i64 0):=(hc3 _ _ (by simp)).trans (by simp[go_sem]);have k0:w3.frozen? ⟨w2+1,0,none⟩=false:=(hf3 _ _ (by simp)).trans (by simp[go_sem]);have k1:w3.frozen? ⟨w2+1,1,none⟩=false:=(hf3 _ _ (by simp)).trans (by simp[go_sem]);have HB3:=hbn HB2 (QC (QE _ _ _) hb);have hb8:w.heap.size<=w2.heap.size+1:=by omega
  clear hb hc3 hf3 r0 r1 s0 s1;go_wp2;refine zr (by simp[results,results144,go_sem,c0,c1]<;>rfl) ?_;obtain⟨a,ha⟩:=HC.out;have hR2:=HR2.out;rw[ha] at hR2;rw[ha];exact JI hR2 (QD (QD HB3.out hb8 _ _) zl _ _)
 ·have HCALL:=zh hcall;clear hcall;go_wp2_with fail
  refine(HFIND.out _).mono ?_;rintro e w2 ⟨rfl,hb⟩;have hz2:=hb.size;obtain⟨hc2,hf2⟩:=QN hb;have HB2:=hbn HB1 hb;have r0:w2.cell? w=some (.int .i64 0):=(hc2 _ _ (by omega)).trans q0;have r1:w2.cell? ⟨w,1,none⟩=some (.int .i64 0):=(hc2 _ _ (by omega)).trans q1;have s0:w2.frozen? w=false:=(hf2 _ _ (by omega)).trans p0;have s1:w2.frozen? ⟨w,1,none⟩=false:=(hf2 _ _ (by omega)).trans p1;have M0:=zh (hc2 0 0 (by omega));clear HFIND hb hc2 hf2 q0 q1 p0 p1 m0;go_wp2_with fail
  refine(HCALL.out _ ((QH (by simp)).trans ((QH (by omega)).trans M0.out))).mono ?_;rintro e w3 ⟨rfl,hb⟩;have hz3:=hb.size;simp at hz3;obtain⟨hc3,hf3⟩:=QN hb;have c0:w3.cell? w=some (.int .i64 0):=(hc3 _ _ (by simp;omega)).trans ((QH (by simp;omega)).trans ((QH (by omega)).trans r0));have c1:w3.cell? ⟨w,1,none⟩=some (.int .i64 0):=(hc3 _ _ (by simp;omega)).trans ((QH (by simp;omega)).trans ((QH (by omega)).trans r1));have f0:w3.frozen? w=false:=(hf3 _ _ (by simp;omega)).trans ((QJ (by simp;omega)).trans ((QJ (by omega)).trans s0));have f1:w3.frozen? ⟨w,1,none⟩=false:=(hf3 _ _ (by simp;omega)).trans ((QJ (by simp;omega)).trans ((QJ (by omega)).trans s1));have d0:w3.cell? ⟨w2+1,0,none⟩=some (.int .i64 0):=(hc3 _ _ (by simp)).trans (by simp[go_sem]);have d1:w3.cell? ⟨w2+1,1,none⟩=some (.int .i64 0):=(hc3 _ _ (by simp)).trans (by simp[go_sem]);have k0:w3.frozen? ⟨w2+1,0,none⟩=false:=(hf3 _ _ (by simp)).trans (by simp[go_sem]);have k1:w3.frozen? ⟨w2+1,1,none⟩=false:=(hf3 _ _ (by simp)).trans (by simp[go_sem]);have HB3:=hbn HB2 (QC (QE _ _ _) hb);have hb8:w.heap.size<=w2.heap.size+1:=by omega
  clear hb hc3 hf3 r0 r1 s0 s1;go_wp2;refine zr (by simp[results,results144,go_sem,c0,c1]<;>rfl) ?_;obtain⟨a,ha⟩:=HC.out;have hR2:=HR2.out;rw[ha] at hR2;rw[ha];exact JI hR2 (QD (QD HB3.out hb8 _ _) zl _ _)
 ·have HCALL:=zh hcall;clear hcall;go_wp2_with fail
  refine(HFIND.out _).mono ?_;rintro e w2 ⟨rfl,hb⟩;have hz2:=hb.size;obtain⟨hc2,hf2⟩:=QN hb;have HB2:=hbn HB1 hb;have r0:w2.cell? w=some (.int .i64 0):=(hc2 _ _ (by omega)).trans q0;have r1:w2.cell? ⟨w,1,none⟩=some (.int .i64 0):=(hc2 _ _ (by omega)).trans q1;have s0:w2.frozen? w=false:=(hf2 _ _ (by omega)).trans p0;have s1:w2.frozen? ⟨w,1,none⟩=false:=(hf2 _ _ (by omega)).trans p1;have M0:=zh (hc2 0 0 (by omega));clear HFIND hb hc2 hf2 q0 q1 p0 p1 m0;go_wp2_with fail
  refine(HCALL.out _).mono ?_;rintro e w3 ⟨rfl,hb⟩;have hz3:=hb.size;simp at hz3;obtain⟨hc3,hf3⟩:=QN hb;have c0:w3.cell? w=some (.int .i64 0):=(hc3 _ _ (by simp;omega)).trans ((QH (by simp;omega)).trans ((QH (by omega)).trans r0));have c1:w3.cell? ⟨w,1,none⟩=some (.int .i64 0):=(hc3 _ _ (by simp;omega)).trans ((QH (by simp;omega)).trans ((QH (by omega)).trans r1));have f0:w3.frozen? w=false:=(hf3 _ _ (by simp;omega)).trans ((QJ (by simp;omega)).trans ((QJ (by omega)).trans s0));have f1:w3.frozen? ⟨w,1,none⟩=false:=(hf3 _ _ (by simp;omega)).trans ((QJ (by simp;omega)).trans ((QJ (by omega)).trans s1));have d0:w3.cell? ⟨w2+1,0,none⟩=some (.int .i64 0):=(hc3 _ _ (by simp)).trans (by simp[go_sem]);have d1:w3.cell? ⟨w2+1,1,none⟩=some (.int .i64 0):=(hc3 _ _ (by simp)).trans (by simp[go_sem]);have k0:w3.frozen? ⟨w2+1,0,none⟩=false:=(hf3 _ _ (by simp)).trans (by simp[go_sem]);have k1:w3.frozen? ⟨w2+1,1,none⟩=false:=(hf3 _ _ (by simp)).trans (by simp[go_sem]);have HB3:=hbn HB2 (QC (QE _ _ _) hb);have hb8:w.heap.size<=w2.heap.size+1:=by omega
  clear hb hc3 hf3 r0 r1 s0 s1;go_wp2;refine zr (by simp[results,results144,go_sem,c0,c1]<;>rfl) ?_;obtain⟨a,ha⟩:=HC.out;have hR2:=HR2.out;rw[ha] at hR2;rw[ha];exact JI hR2 (QD (QD HB3.out hb8 _ _) zl _ _)
theorem CH (w:World) (s:ByteArray) (hs:s.size<=2000000000) (m:Int) (hm:w.cell? ⟨0,0,none⟩=some (.int .i64 m)):Calls prog 144 #[s] w (NumPost w (Je (QF s))):=by
 obtain⟨t,ht⟩:∃t:ByteArray,QF t=Ys (QF s):=⟨_,UU s⟩
 have htrim:PTrimTo s t:=fun W=>(SJ W s hs).mono (by
  rintro e w' ⟨⟨r,rfl,hr⟩,hb⟩;have:r=t:=JB (hr.trans ht.symm);subst this;exact⟨rfl,hb⟩)
 have hts:t.size<=2000000000:=by
  rw[<-Qc,ht];exact Nat.le_trans (T3 _) (by rw[Qc];exact hs)
 obtain⟨u,minus,hpre,hus,hsg⟩:=CG t hts;have hg:=Zh (QF u);have htw:∀W:World,W.cell? ⟨0,0,none⟩=some (.int .i64 m)->TailWays u (Q4 (QF u)) W:=fun W h=>M6 u hus W m h;unfold Je;rw[<-ht,hsg];rcases XD hg with⟨hE,hc⟩|⟨hE, -,hc⟩<;>cases minus
 ·exact TG w s t u _ _ m hus hm htrim hpre htw hg hE hc rfl
 ·exact TF w s t u _ _ m hus hm htrim hpre htw hg hE hc rfl
 ·exact Dl w s t u _ _ m hus hm htrim hpre htw hg hE hc rfl
 ·exact Nx w s t u _ _ m hus hm htrim hpre htw hg hE hc rfl
theorem Ji (w:World) (s:ByteArray):Calls prog 72 #[s] w (NdPost w (ZZ s)):=by
 go_enter func72,ntmps72;go_wp2;refine zr (by simp[results,results72,go_sem]<;>rfl) ?_;exact⟨.slice none 0 0,rfl,.inl ⟨rfl,rfl⟩,by first|exact Qf _ _|trace_state⟩
theorem AE (w:World) (s:ByteArray):Calls prog 130 #[s] w (NdPost w (ZZ s)):=by
 go_enter func130,ntmps130;go_wp2;refine zr (by simp[results,results130,go_sem]<;>rfl) ?_;exact⟨.slice none 0 0,rfl,.inl ⟨rfl,rfl⟩,by first|exact Qf _ _|trace_state⟩
theorem MK (w:World) (k1 p1 q1:Int) (s1:ByteArray) (r1:Int):Calls prog 120 #[.agg #[k1,p1,q1,s1,r1]] w (NdPost w (Zz ⟨k1,p1,q1,s1,r1⟩)):=by
 go_enter func120,ntmps120;go_wp2;refine zr (by simp[results,results120,go_sem]<;>rfl) ?_;exact⟨.slice none 0 0,rfl,.inl ⟨rfl,rfl⟩,by first|exact QE _ _ _|trace_state⟩
theorem BT (w:World) (k1 p1 q1:Int) (s1:ByteArray) (r1:Int):Calls prog 126 #[.agg #[k1,p1,q1,s1,r1]] w (NdPost w (Zz ⟨k1,p1,q1,s1,r1⟩)):=by
 go_enter func126,ntmps126;go_wp2;refine zr (by simp[results,results126,go_sem]<;>rfl) ?_;exact⟨.slice none 0 0,rfl,.inl ⟨rfl,rfl⟩,by first|exact QE _ _ _|trace_state⟩
theorem N3 (w:World) (base g:Nat) (hbase:base<=g) (k1 p1 q1:Int) (s1:ByteArray) (r1:Int) (af:Int) (a b:V) (ha:w.heap[g]? =some (.cells #[.int .i64 a.k,.int .i64 a.p,.int .i64 a.q,.string a.s,.int .i64 a.r,.int .i64 b.k,.int .i64 b.p,.int .i64 b.q,.string b.s,.int .i64 b.r] 25)):
  Calls prog 128 #[.agg #[k1,p1,q1,s1,r1],af,.slice (some g) 2 2] w (fun e w'=>∃av,e= .returned (ndV (Zr ⟨k1,p1,q1,s1,r1⟩ [a,b] af) av)/\ArgsAt w' base av [a,b]/\Below w w w'):=by
 have HA:=zh ha;clear ha;go_enter func128,ntmps128;go_wp2;refine zr (by simp[results,results128,go_sem]<;>rfl) ?_;exact⟨_,rfl,.inr ⟨g,a,b,rfl,rfl,hbase,QL (QE _ _ _) HA.out⟩,QE _ _ _⟩
end Go.Proofs.YthkpckgcgkijbaaGreatDoor
