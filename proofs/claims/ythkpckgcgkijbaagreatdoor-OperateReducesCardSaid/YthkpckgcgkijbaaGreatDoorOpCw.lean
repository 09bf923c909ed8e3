import Derived.Test.YthkpckgcgkijbaaGreatDoorTabA
set_option linter.unusedVariables false
set_option linter.unusedSimpArgs false
set_option maxRecDepth 100000
set_option maxHeartbeats 4000000
namespace Go.Proofs.YthkpckgcgkijbaaGreatDoor
open Go.RowKit Go.Proofs.Lexi
theorem prj10 {c0 c1 c2 c3 c4 c5 c6 c7 c8 c9 p:Prop} (h:c0∧c1∧c2∧c3∧c4∧c5∧c6∧c7∧c8∧c9∧Hid p):p:=h.2.2.2.2.2.2.2.2.2.2.out
def sfM (k:V):List Sl→Nat→Int→Int
 |[],_,at_=>at_
 |s::L,i,at_=>if eqV s.k k=true then(if s.g=true then sfM k L (i+1) (i:Nat) else(i:Nat)) else sfM k L (i+1) at_
theorem sfM_step {k:V} {L:List Sl} {i:Nat} {sl:Sl} {at_:Int} (h:L[i]? =some sl):sfM k (L.drop i) i at_=if eqV sl.k k=true then(if sl.g=true then sfM k (L.drop (i+1)) (i+1) (i:Nat) else(i:Nat)) else sfM k (L.drop (i+1)) (i+1) at_:=by
 obtain⟨h1,h2⟩:=List.getElem?_eq_some_iff.1 h
 rw[List.drop_eq_getElem_cons h1,h2]
 rfl
def FindAt (L:List Sl) (k:V) (r:Int):Prop:=
 (∃(i:Nat) (s:Sl),r=(i:Nat)∧L[i]? =some s∧s.k=k∧s.g=false∧L.findIdx? (Sl.hit k)=some i)∨
 (∃(i:Nat) (s:Sl),r=(i:Nat)∧L[i]? =some s∧s.k=k∧s.g=true∧L.findIdx? (Sl.hit k)=none)∨(r= -1∧L.findIdx? (Sl.hit k)=none)
theorem sfM_go (k:V) (L:List Sl):∀(n i:Nat) (at_:Int),L.length-i=n→i≤L.length→(∀j s,j<i→L[j]? =some s→Sl.hit k s=false)→
  (at_= -1∨∃(j:Nat) (s:Sl),at_=(j:Nat)∧L[j]? =some s∧s.k=k∧s.g=true)→FindAt L k (sfM k (L.drop i) i at_):=by
 intro n
 induction n with
 |zero=>
  intro i at_ hn hi hno hat
  have hiL:i=L.length:=by omega
  have hnone:L.findIdx? (Sl.hit k)=none:=by
   rw[List.findIdx?_eq_none_iff]
   intro s hs
   obtain⟨j,hj⟩:=List.getElem?_of_mem hs
   exact hno j s (by have:=(List.getElem?_eq_some_iff.1 hj).1;omega) hj
  rw[List.drop_eq_nil_of_le (by omega)]
  show FindAt L k at_
  rcases hat with h|⟨j,s,h1,h2,h3,h4⟩
  ·exact .inr (.inr ⟨h,hnone⟩)
  ·exact .inr (.inl ⟨j,s,h1,h2,h3,h4,hnone⟩)
 |succ n ih=>
  intro i at_ hn hi hno hat
  have hlt:i<L.length:=by omega
  have hn1:L.length-(i+1)=n:=by clear hat hno ih;omega
  have hn2:i+1≤L.length:=by clear hat hno ih;omega
  obtain⟨sl,hsl⟩:∃sl,L[i]? =some sl:=⟨_,List.getElem?_eq_getElem hlt⟩
  rw[sfM_step hsl]
  by_cases he:eqV sl.k k=true
  ·rw[if_pos he]
   have hk:=eqV_iff.1 he
   by_cases hg:sl.g=true
   ·rw[if_pos hg]
    refine ih (i+1) _ hn1 hn2 (fun j s hj hs=> ?_) (.inr ⟨i,sl,rfl,hsl,hk,hg⟩)
    rcases Nat.lt_or_ge j i with h|h
    ·exact hno j s h hs
    ·have:j=i:=by omega
     subst this
     rw[hsl] at hs
     injection hs with hs
     subst hs
     unfold Sl.hit
     rw[hg];rfl
   ·rw[if_neg hg]
    have hgf:sl.g=false:=by cases h:sl.g;rfl;exact absurd h hg
    refine .inl ⟨i,sl,rfl,hsl,hk,hgf,?_⟩
    rw[List.findIdx?_eq_some_iff_getElem]
    obtain⟨h1,h2⟩:=List.getElem?_eq_some_iff.1 hsl
    refine⟨h1,by rw[h2];exact hit_iff.2 ⟨hgf,hk⟩,fun j hj hc=> ?_⟩
    rw[hno j _ hj (List.getElem?_eq_getElem (by omega))] at hc
    cases hc
  ·rw[if_neg he]
   refine ih (i+1) _ hn1 hn2 (fun j s hj hs=> ?_) hat
   rcases Nat.lt_or_ge j i with h|h
   ·exact hno j s h hs
   ·have:j=i:=by omega
    subst this
    rw[hsl] at hs
    injection hs with hs
    subst hs
    unfold Sl.hit
    cases he2:eqV sl.k k with
    |true=>exact absurd he2 he
    |false=>rw[Bool.and_false]
theorem sfM_at (k:V) (L:List Sl):FindAt L k (sfM k L 0 (-1)):=sfM_go k L L.length 0 (-1) (by omega) (Nat.zero_le _) (fun j s h _=>absurd h (by omega)) (.inl rfl)
def SFRel (w:World) (k:V) (L:List Sl) (R:Int) (gg:Nat) (va vi:Value) (wr:World):Prop:=
 ∃(i:Nat) (at_:Int),L.length-i=gg∧ .int .i64 at_=va∧ .int .i64 (i:Nat)=vi∧i≤L.length∧sfM k (L.drop i) i at_=R∧Below w.heap.size w wr
theorem liveN_take {L:List Sl} {i:Nat} {s:Sl} (h:L[i]? =some s):liveN (L.take (i+1))=liveN (L.take i)+(if s.g then 0 else 1):=by
 have hd:=zBz h
 unfold dropM at hd
 unfold liveN
 rw[hd]
 cases s.g<;>simp
def LenRel (w:World) (L:List Sl) (gg:Nat) (va vi:Value) (wr:World):Prop:=∃i:Nat,w=wr∧L.length-i=gg∧ .int .i64 (liveN (L.take i):Nat)=va∧ .int .i64 (i:Nat)=vi∧i≤L.length
def SSetPost (w:World) (h:Nat) (av uv:Value) (H:List RO) (i:Nat) (x:RO) (L':List Sl) (e:Ending) (w':World):Prop:=
 (∃v,e= .returned v)∧∃sv',RHpAt w' h av uv (H.set i {x with sv:=sv',L:=L'})∧Mods (RF h av uv H) w w'∧∀b,sv'.ownBlock=some b→x.sv.ownBlock=some b∨w.heap.size≤b
def HSetPost (w:World) (h bo bt:Nat) (H:List PO) (i:Nat) (x:PO) (L':List Sl) (e:Ending) (w':World):Prop:=
 (∃v,e= .returned v)∧∃sv',HpAt w' h bo bt (H.set i {x with sv:=sv',L:=L'})∧Mods (HpF h bo bt H) w w'∧∀b,sv'.ownBlock=some b→x.sv.ownBlock=some b∨w.heap.size≤b
theorem meta_cells {w:World} {x:PO} {t:TypeId} (h:w.heap[x.o]? =some (.cells x.cells t)) (k p q:Int) (s:ByteArray) (r:Int):
  (((((w.setCell ⟨x.o,4,none⟩ (.int .i64 k)).setCell ⟨x.o,5,none⟩ (.int .i64 p)).setCell ⟨x.o,6,none⟩ (.int .i64 q)).setCell ⟨x.o,7,none⟩ (.string s)).setCell ⟨x.o,8,none⟩ (.int .i64 r)).heap[x.o]? =some (.cells {x with mt:=⟨k,p,q,s,r⟩}.cells t):=
 zAP (zAP (zAP (zAP (zAP h 4 _) 5 _) 6 _) 7 _) 8 _
theorem mods_meta (w:World) (o:Nat) (x y z u v:Value):Mods (fun b=>b=o) w (((((w.setCell ⟨o,4,none⟩ x).setCell ⟨o,5,none⟩ y).setCell ⟨o,6,none⟩ z).setCell ⟨o,7,none⟩ u).setCell ⟨o,8,none⟩ v):=
 zAO (zAO (zAO (zAO (zAO (F:=fun b=>b=o) (Mods.refl _ w) (.inl rfl) x) (.inl rfl) y) (.inl rfl) z) (.inl rfl) u) (.inl rfl) v
def HMetaPost (w:World) (h bo bt:Nat) (H:List PO) (i:Nat) (x:PO) (m:V) (e:Ending) (w':World):Prop:=
 (∃v,e= .returned v)∧HpAt w' h bo bt (H.set i {x with mt:=m})∧Mods (HpF h bo bt H) w w'
theorem int_keep {base n:Nat} {w w':World} {h:Nat} {M M':LH} {c:Int} {e:Ending} (hP:PHp base n w h M) (hM:M'=M) (hpost:IntPost w c e w'):(∃v,e= .returned v)∧PHp base n w' h M'∧BM base PB w w':=by
 subst hM
 exact⟨⟨_,hpost.1⟩,hP.below hpost.2,BM.of_below hpost.2⟩
theorem str_bad {s:ByteArray} (h:¬s.size≤4096):zAi (strV s)=false:=by
 unfold zAi strV noNum
 simp[h]
def RGrow (w:World) (h:Nat) (av uv:Value) (H:List RO) (o:LO) (e:Ending) (w':World):Prop:=
 (∃v,e= .returned v)∧∃av' uv' x,RHpAt w' h av' uv' (H++[x])∧x.lo=o∧x.L=[]∧Mods (RF h av uv H) w w'∧
  (∀b,av'.ownBlock=some b→av.ownBlock=some b∨w.heap.size≤b)∧(∀b,uv'.ownBlock=some b→uv.ownBlock=some b∨w.heap.size≤b)∧∀b,x.kind=4∧(b=x.t∨SmF x.m x.sv b)→w.heap.size≤b
theorem rbox_kept {w3 W:World} {h:Nat} {av uv:Value} {H:List RO} {r:Nat} {k p q:Int} {s:ByteArray} {c:Int} (hA:RHpAt w3 h av uv H) (hr:w3.heap[r]? =some (oV k p q s c)) (hM:Mods (· =r) w3 W):RHpAt W h av uv H:=
 hA.keepF (fun b hb=>by
  obtain⟨o,h1,h2⟩:=rf_sb hA hb
  refine hM.block b (Array.getElem?_eq_some_iff.1 h1).1 (fun e=> ?_)
  rw[e,hr] at h1
  injection h1 with h1
  subst h1
  rcases h2 with h2|h2|h2|h2|h2|h2<;>exact absurd h2 (by decide))
theorem rgrow_end {w W2 w3 W:World} {h:Nat} {av uv av' uv':Value} {H:List RO} {x:RO} {o:LO} (hb:Below w.heap.size w W2) (hA:RHpAt w3 h av' uv' (H++[x])) (hM:Mods (fun b=>b=h∨av.ownBlock=some b∨uv.ownBlock=some b) W2 w3)
  (h3:∀b,av'.ownBlock=some b→av.ownBlock=some b∨W2.heap.size≤b) (h4:∀b,uv'.ownBlock=some b→uv.ownBlock=some b∨W2.heap.size≤b) (hr:w3.heap[w.heap.size]? =some (oV 0 0 0 ⟨#[]⟩ 0))
  (hW:Mods (· =w.heap.size) w3 W) (ho:x.lo=o) (hL:x.L=[]) (hn:∀b,x.kind=4∧(b=x.t∨SmF x.m x.sv b)→w.heap.size≤b) (v:Value):RGrow w h av uv H o (.returned v) W:=by
 have h1:Mods (RF h av uv H) w w3:=(Mods.of_below hb).trans (hM.mono (fun k hk e=>by
  rcases e with e|e|e
  ·exact .inl e
  ·exact .inr (.inl e)
  ·exact .inr (.inr (.inl e))))
 refine⟨⟨v,rfl⟩,av',uv',x,rbox_kept hA hr hW,ho,hL,?_,fun b hb2=> ?_,fun b hb2=> ?_,hn⟩
 ·exact⟨hW.os.trans h1.os,hW.tape.trans h1.tape,hW.output.trans h1.output,Nat.le_trans h1.size hW.size,fun k hk hF=>(hW.block k (Nat.lt_of_lt_of_le hk h1.size) (by omega)).trans (h1.block k hk hF)⟩
 ·rcases h3 b hb2 with h|h
  ·exact .inl h
  ·exact .inr (Nat.le_trans hb.size h)
 ·rcases h4 b hb2 with h|h
  ·exact .inl h
  ·exact .inr (Nat.le_trans hb.size h)
theorem obj_wf {T Dt i:Int} (hi:i64 i):WfV (objM T Dt i):=by
 unfold objM
 refine⟨?_,show i64 0 from⟨by decide,by decide⟩,show i64 0 from⟨by decide,by decide⟩,show(0:Nat)≤maxLen from Nat.zero_le _,hi⟩
 show i64 (if i≤T then 4 else if i≤T+Dt then 8 else 5)
 split
 ·exact⟨by decide,by decide⟩
 ·split<;>exact⟨by decide,by decide⟩
theorem RHp.base {base base' n:Nat} {w:World} {h:Nat} {M:LH} (hP:RHp base n w h M) (hb:base'≤base):RHp base' n w h M:=by
 obtain⟨av,uv,H,h1,h2,h3,h4⟩:=hP.ex
 exact⟨av,uv,H,h1,h2,h3,fun b hb2=>Nat.le_trans hb (h4 b hb2)⟩
abbrev Fd.cells (f:Fd):List Value:=[.int .i64 f.kind,.int .i64 f.t,.int .i64 f.m,.string f.name,.int .i64 f.val.k,.int .i64 f.val.p,.int .i64 f.val.q,.string f.val.s,.int .i64 f.val.r]
theorem setMeta_len (H:LH) (v m:V):(zBc H v m).length=H.length:=by
 unfold zBc
 split
 ·split
  ·rw[List.length_set]
  ·rfl
 ·rfl
theorem setH_len (H:LH) (t:V) (s:ByteArray) (v:V):(setH H t s v).length=H.length:=by
 unfold setH
 split
 ·split
  ·rw[List.length_set]
  ·rfl
 ·rfl
theorem fold_len (T Dt:Int):∀(fs:List Fd) (H:LH),(fs.foldl (fieldM T Dt) H).length=H.length
 |[],_=>rfl
 |f::fs,H=>by
  rw[List.foldl_cons,fold_len T Dt fs]
  unfold fieldM
  split
  ·exact setMeta_len _ _ _
  ·exact setH_len _ _ _ _
theorem fold_take {fs:List Fd} {j:Nat} {f:Fd} (hf:fs[j]? =some f) (T Dt:Int) (M:LH):(fs.take (j+1)).foldl (fieldM T Dt) M=fieldM T Dt ((fs.take j).foldl (fieldM T Dt) M) f:=by
 rw[List.take_add_one,hf,Option.toList_some,List.foldl_append]
 rfl
theorem start_len (T Dt F:Nat):(startM T Dt F).length=T+Dt+F:=by
 unfold startM
 simp
 omega
structure FdWf (f:Fd):Prop where
 t:i64 f.t
 m:i64 f.m
 v:WfV f.val
theorem rep_succ (M:LH) (o:LO) (j:Nat):M++List.replicate j o++[o]=M++List.replicate (j+1) o:=by rw[List.append_assoc,List.replicate_succ']
def GRel (w0:World) (base hp hs:Nat) (M:LH) (o:LO) (N gg:Nat) (iv:Value) (wr:World):Prop:=
 ∃j:Nat,iv= .int .i64 (j:Nat)∧N-j=gg∧j≤N∧PHp base 0 wr hp (M++List.replicate j o)∧RHp base 0 wr hs (M++List.replicate j o)∧Below base w0 wr
def FRel (w0:World) (base hp hs:Nat) (T Dt:Int) (M:LH) (fs:List Fd) (gg:Nat) (iv:Value) (wr:World):Prop:=
 ∃j:Nat,iv= .int .i64 (j:Nat)∧fs.length-j=gg∧j≤fs.length∧PHp base j wr hp ((fs.take j).foldl (fieldM T Dt) M)∧RHp base j wr hs ((fs.take j).foldl (fieldM T Dt) M)∧Below base w0 wr
theorem args_two {w:World} {base:Nat} {av:Value} {a b:V} (h:ArgsAt w base av [a,b]):∃g,av= .slice (some ⟨g,0,none⟩) 2 2∧base≤g∧w.heap[g]? =some (.cells #[.int .i64 a.k,.int .i64 a.p,.int .i64 a.q,.string a.s,.int .i64 a.r,.int .i64 b.k,.int .i64 b.p,.int .i64 b.q,.string b.s,.int .i64 b.r] 25):=by
 rcases h with⟨h,_⟩|⟨g,a',b',h1,h2,h3,h4⟩
 ·cases h
 ·injection h1 with h1 h5
  injection h5 with h5
  subst h1 h5
  exact⟨g,h2,h3,h4⟩
theorem args_none {w:World} {base:Nat} {av:Value} (h:ArgsAt w base av []):av= .slice none 0 0:=by
 rcases h with⟨_,h⟩|⟨g,a,b,h,_⟩
 ·exact h
 ·cases h
theorem zBb {n:Int} (h:(decide (-9223372036854775808≤n)&&decide (n≤9223372036854775807))=true):i64 n:=by
 rw[Bool.and_eq_true,decide_eq_true_eq,decide_eq_true_eq] at h
 exact h
end Go.Proofs.YthkpckgcgkijbaaGreatDoor
namespace Go.Proofs.Lexi
open Go
section
variable {P : Program} {ops : Array Oper} {Q : Exit → Act → World → Prop}
theorem zAK {id:Nat} {l:List Oper} {a:Act} {w:World} (hm:P.follows .mixedOrders=true) (hB:lexCheck P l.toArray (Region.before l.toArray)=true)
  (h:wpList P l.toArray (Behind l.toArray Q) l a w.drew):(Code.region id l.toArray true).wp P Q a w:=by
 have hQ:OnlyN (Behind l.toArray Q):=fun e a w h=>by cases e<;>first|rfl|exact h.elim
 refine Code.wp_mono (Q:=Behind l.toArray Q) (fun e a w h=>by cases e<;>first|exact h.2|exact h.elim) ?_
 refine wp_region_any hm ?_
 refine any_of_lex (lexed_of hB) hQ (fun a w h=>h.1) l.toArray.size 0 _ a _ (by simp) (by simp) (fun x hx=>by
  simp only[Array.getD_eq_getD_getElem?,Array.getElem?_replicate,Nat.not_lt_zero,decide_false]
  split<;>rfl) ?_
 have:=wpOps_eq_wpList (P:=P) (ops:=l.toArray) (Q:=Behind l.toArray Q) l 0 (by simp)
 simp only[List.size_toArray]
 rw[this]
 exact h
end
end Go.Proofs.Lexi
namespace Go.Proofs.YthkpckgcgkijbaaGreatDoor
open Go.RowKit Go.Proofs.Lexi
theorem gcd_c (w:World) (x y:Int) (a b:Nat) (hx:x=a) (hy:y=b) (ha:a≤9223372036854775807) (hb:b≤9223372036854775807):
  Calls Tryz.prog 143 #[.int .i64 x,.int .i64 y] w (PureP w (.int .i64 (Nat.gcd a b:Nat))):=by
 subst hx hy
 obtain⟨G,hG⟩:∃G,G=Nat.gcd a b:=⟨_,rfl⟩
 rw[←hG]
 have HG:=Lib.hid hG.symm
 clear hG
 go_enter Tryz.func143,Tryz.ntmps143
 go_wp2
 go_loopg [0,1] b (fun gg u v wr=>∃x y n:Nat,wr=w.drewN n∧y=gg∧u= .int .i64 (x:Int)∧v= .int .i64 (y:Int)∧x≤9223372036854775807∧y≤9223372036854775807∧Hid (Nat.gcd x y=G))
 case atStart=>exact⟨a,b,0,rfl,rfl,rfl,rfl,ha,hb,HG⟩
 case round=>
  obtain⟨x,y,n,rfl,rfl,rfl,rfl,h1,h2,h3⟩:=hrel
  by_cases h0:y=0
  ·subst h0
   have HX:=Lib.hid (show(x:Int)=G from by have:=h3.out;rw[Nat.gcd_zero_right] at this;omega)
   go_wp2
   go_ret
   exact⟨zBE HX.out,n,rfl⟩
  ·have t0:((y:Int) !=0)=true:=by rw[bne_iff_ne];omega
   have hy0:0<y:=by omega
   have hm:=Nat.mod_lt x hy0
   have HN:=Lib.hid (show Nat.gcd y (x%y)=G from by rw[←h3.out,Nat.gcd_comm x y];exact(Nat.gcd_rec y x).symm▸(Nat.gcd_comm _ _))
   clear h0
   go_wp2
   refine zAK mixed (by kernel_rfl) ?_
   go_wp2
   refine⟨by kernel_rfl,?_⟩
   go_wp2
   go_roundg (x%y)
   case measure=>omega
   case rel=>exact⟨y,x%y,_,rfl,rfl,rfl,(by first|rfl|simp),h2,by omega,HN⟩
theorem reduce_c (w:World) (p q:Int) (hp1: -9223372036854775807≤p) (hp2:p≤9223372036854775807) (hq1: -9223372036854775807≤q) (hq2:q≤9223372036854775807) (h0:q≠0):
  Calls Tryz.prog 201 #[.int .i64 p,.int .i64 q] w (NumPost w (redN p q)):=by
 obtain⟨P,Q,hPQ⟩:∃P Q:Int,(q<0∧ -p=P∧ -q=Q)∨(0≤q∧p=P∧q=Q):=by
  by_cases h:q<0
  ·exact⟨-p, -q,.inl ⟨h,rfl,rfl⟩⟩
  ·exact⟨p,q,.inr ⟨by omega,rfl,rfl⟩⟩
 have hR:redN p q=redPos P Q:=by
  rcases hPQ with⟨h,rfl,rfl⟩|⟨h,rfl,rfl⟩
  ·exact redN_neg h
  ·exact redN_pos h
 rw[hR]
 have hP1: -9223372036854775807≤P:=by omega
 have hP2:P≤9223372036854775807:=by omega
 have hQ1:1≤Q:=by omega
 have hQ2:Q≤9223372036854775807:=by omega
 obtain⟨D,hD⟩:∃D,D=Int.gcd P Q:=⟨_,rfl⟩
 have hD0:0<D:=by rw[hD];exact gcd_pos_right (by omega)
 have hD1:D≤9223372036854775807:=by
  have:=Int.gcd_le_natAbs_right (a:=P) (b:=Q) (by omega)
  omega
 have hqp:=quo_bounds (P:=P) hD0 hP1 hP2
 have hqq:=quo_bounds (P:=Q) hD0 (by omega) hQ2
 have HTP:=Lib.hid (show Int.tdiv P (D:Int)=P/(D:Int) by rw[hD];exact tdiv_gcd_left P Q)
 have HTQ:=Lib.hid (show Int.tdiv Q (D:Int)=Q/(D:Int) by rw[hD];exact tdiv_gcd_right P Q)
 have HRR:=Lib.hid (redPos_range hD)
 have HGC:=Lib.hid (fun W x y hx hy=>gcd_c W x y P.natAbs Q.natAbs hx hy (by omega) (by omega))
 have HDD:=Lib.hid (show Nat.gcd P.natAbs Q.natAbs=D from hD.symm)
 clear hR hD
 obtain⟨X,hX⟩:∃X,X=P/(D:Int):=⟨_,rfl⟩
 obtain⟨Y,hY⟩:∃Y,Y=Q/(D:Int):=⟨_,rfl⟩
 rw[←hX] at hqp HTP HRR
 rw[←hY] at hqq HTQ HRR
 have HE:=Lib.hid (show X< -2147483647∨2147483647<X∨2147483647<Y→redPos P Q= .error 6 from fun h=>HRR.out.trans (rangeN_err h))
 have HO:=Lib.hid (show-2147483647≤X→X≤2147483647→Y≤2147483647→redPos P Q= .ok (X,Y) from fun h1 h2 h3=>HRR.out.trans (rangeN_ok h1 h2 h3))
 have HX:=Lib.hid hX
 have HY:=Lib.hid hY
 clear hX hY HRR
 rcases hPQ with⟨h,e1,e2⟩|⟨h,rfl,rfl⟩
 ·have t0:decide (q<0)=true:=decide_eq_true h
  go_enter Tryz.func201,Tryz.ntmps201
  go_wp2_with fail
  all_goals
   refine(HGC.out _ _ _ (by omega) (by omega)).mono ?_
   rw[HDD.out]
   rintro e w1 ⟨rfl,n,rfl⟩
   clear e1 e2
   have htp:=HTP.out
   have htq:=HTQ.out
   have hyq:=HY.out.symm
   go_wp2
   refine zAK mixed (by kernel_rfl) ?_
   go_wp2
   refine⟨by kernel_rfl,?_⟩
   clear htp htq hyq
   go_wp2
   all_goals
    refine bodyPost_ret (by simp[results,Tryz.results201,go_sem];first|done|rfl) rfl ?_
    first|exact zAV (HE.out (by omega)) (below_num _ _ _ _ _)|exact zCL (HO.out (by omega) (by omega) (by omega)) (below_num _ _ _ _ _)
 ·have t0:decide (q<0)=false:=decide_eq_false (by omega)
  go_enter Tryz.func201,Tryz.ntmps201
  go_wp2_with fail
  all_goals
   refine(HGC.out _ _ _ (by omega) (by omega)).mono ?_
   rw[HDD.out]
   rintro e w1 ⟨rfl,n,rfl⟩
   have htp:=HTP.out
   have htq:=HTQ.out
   have hyq:=HY.out.symm
   go_wp2
   refine zAK mixed (by kernel_rfl) ?_
   go_wp2
   refine⟨by kernel_rfl,?_⟩
   clear htp htq hyq
   go_wp2
   all_goals
    refine bodyPost_ret (by simp[results,Tryz.results201,go_sem];first|done|rfl) rfl ?_
    first|exact zAV (HE.out (by omega)) (below_num _ _ _ _ _)|exact zCL (HO.out (by omega) (by omega) (by omega)) (below_num _ _ _ _ _)
theorem zBA (w:World) (p q:Int):Calls Tryz.prog 88 #[.agg #[.int .i64 p,.int .i64 q]] w (BoolPost w (zAT (p,q))):=by
 have HB:=Lib.hid (zAe w (.cells #[.int .i64 p,.int .i64 q] 23))
 by_cases h:1≤q∧q≤2147483647∧ -2147483647≤p∧p≤2147483647
 ·obtain⟨h1,h2,h3,h4⟩:=h
  have HGC:=Lib.hid (fun W x y hx hy=>gcd_c W x y p.natAbs q.natAbs hx hy (by omega) (by omega))
  obtain⟨D,hD⟩:∃D,D=Nat.gcd p.natAbs q.natAbs:=⟨_,rfl⟩
  have HV:=Lib.hid (validN_good h1 h2 h3 h4 hD.symm)
  have HDD:=Lib.hid hD.symm
  clear hD
  go_enter Tryz.func88,Tryz.ntmps88
  go_wp2_with fail
  all_goals
   refine(HGC.out _ _ _ (by omega) (by omega)).mono ?_
   rw[HDD.out]
   rintro e w1 ⟨rfl,n,rfl⟩
   go_wp2
   go_ret
   exact zBD HV.out.symm (below_drewN HB.out n)
 ·have HV:=Lib.hid (validN_bad (p:=p) (q:=q) (by omega))
  have hc:q<1∨(1≤q∧2147483647<q)∨(1≤q∧q≤2147483647∧p< -2147483647)∨(1≤q∧q≤2147483647∧ -2147483647≤p∧2147483647<p):=by omega
  clear h
  rcases hc with k1|⟨k1,k2⟩|⟨k1,k2,k3⟩|⟨k1,k2,k3,k4⟩
  all_goals
   go_enter Tryz.func88,Tryz.ntmps88
   go_wp2
   go_ret
   exact zBD HV.out.symm HB.out
theorem rint_c (w:World) (n:Int):Calls Tryz.prog 207 #[.int .i64 n] w (NumPost w (intN n)):=by
 by_cases h: -2147483647≤n∧n≤2147483647
 ·obtain⟨h1,h2⟩:=h
  have HR:=Lib.hid (show intN n= .ok (n,1) from by unfold intN;rw[if_pos (inTop_iff.2 ⟨h1,h2⟩)])
  go_enter Tryz.func207,Tryz.ntmps207
  go_wp2
  refine bodyPost_ret (by simp[results,Tryz.results207,go_sem];first|done|rfl) rfl ?_
  exact zCL HR.out (zAe _ _)
 ·have HR:=Lib.hid (show intN n= .error 6 from by unfold intN;rw[if_neg (fun e=>h (inTop_iff.1 e))])
  have hc:n< -2147483647∨(-2147483647≤n∧2147483647<n):=by omega
  clear h
  rcases hc with k1|⟨k1,k2⟩
  all_goals
   go_enter Tryz.func207,Tryz.ntmps207
   go_wp2
   refine bodyPost_ret (by simp[results,Tryz.results207,go_sem];first|done|rfl) rfl ?_
   exact zAV HR.out (zAe _ _)
theorem rneg_c (w:World) (p q:Int):Calls Tryz.prog 152 #[.agg #[.int .i64 p,.int .i64 q]] w (NumPost w (negN (p,q))):=by
 have HB:=Lib.hid (zAF w (.cells #[.int .i64 p,.int .i64 q] 23) (.cells #[.int .i64 0,.int .i64 0] 23))
 have HV:=Lib.hid (zBA ((w.alloc (.cells #[.int .i64 p,.int .i64 q] 23)).alloc (.cells #[.int .i64 0,.int .i64 0] 23)) p q)
 cases hv:zAT (p,q) with
 |true=>
  have hb:=zAN hv
  simp only[] at hb
  obtain⟨h1,h2,h3,h4⟩:=hb
  have HR:=Lib.hid (show negN (p,q)= .ok (-p,q) from by unfold negN;rw[hv];rfl)
  have HVV:=Lib.hid hv
  clear hv
  go_enter Tryz.func152,Tryz.ntmps152
  go_wp2_with fail
  refine HV.out.mono ?_
  rw[HVV.out]
  rintro e w1 ⟨rfl,hb⟩
  have HB1:=hbn HB.out hb
  obtain⟨hc,hf⟩:=bcell hb
  have hz:=hb.size
  simp at hz
  clear hb
  go_wp2
  refine bodyPost_ret (by simp[results,Tryz.results152,go_sem,hc];first|done|rfl) rfl ?_
  exact zCL HR.out (zAD HB1.out (Nat.le_succ _) _ _)
 |false=>
  have HR:=Lib.hid (show negN (p,q)= .error 2 from by unfold negN;rw[hv];rfl)
  have HVV:=Lib.hid hv
  clear hv
  go_enter Tryz.func152,Tryz.ntmps152
  go_wp2_with fail
  refine HV.out.mono ?_
  rw[HVV.out]
  rintro e w1 ⟨rfl,hb⟩
  have HB1:=hbn HB.out hb
  obtain⟨hc,hf⟩:=bcell hb
  have hz:=hb.size
  simp at hz
  clear hb
  go_wp2
  refine bodyPost_ret (by simp[results,Tryz.results152,go_sem,hc];first|done|rfl) rfl ?_
  exact zAV HR.out (zAD HB1.out (Nat.le_succ _) _ _)
theorem rorder_c (w:World) (x y:Int):Calls Tryz.prog 212 #[.int .i64 x,.int .i64 y] w fun e w'=>e= .returned (.int .i64 (zBX x y))∧w=w':=by
 have hc:x<y∨y<x∨x=y:=by omega
 rcases hc with h|h|rfl
 ·have HR:=Lib.hid (show zBX x y= -1 from by unfold zBX;rw[if_pos h])
  go_enter Tryz.func212,Tryz.ntmps212
  go_wp2
  go_ret
  exact⟨zBE HR.out.symm,rfl⟩
 ·have HR:=Lib.hid (show zBX x y=1 from by unfold zBX;rw[if_neg (by omega),if_pos h])
  have h':¬x<y:=by omega
  go_enter Tryz.func212,Tryz.ntmps212
  go_wp2
  go_ret
  exact⟨zBE HR.out.symm,rfl⟩
 ·have HR:=Lib.hid (show zBX x x=0 from by unfold zBX;rw[if_neg (by omega),if_neg (by omega)])
  go_enter Tryz.func212,Tryz.ntmps212
  go_wp2
  go_ret
  exact⟨zBE HR.out.symm,rfl⟩
theorem rfloor_c (w:World) (x y:Int) (hx1: -4611686018427387904≤x) (hx2:x≤4611686018427387904) (hy1: -4611686018427387904≤y) (hy2:y≤4611686018427387904) (h0:y≠0):
  Calls Tryz.prog 206 #[.int .i64 x,.int .i64 y] w (PureP w (.tuple #[.int .i64 (Int.fdiv x y),.int .i64 (Int.fmod x y)])):=by
 obtain⟨T,hT⟩:∃T,T=x.tdiv y:=⟨_,rfl⟩
 obtain⟨M,hM⟩:∃M,M=x.tmod y:=⟨_,rfl⟩
 have hb:=tdiv_bounds (y:=y) hx1 hx2
 have hm:=tmod_bounds (x:=x) h0
 have HS:=Lib.hid (floor_same (x:=x) (y:=y))
 have HL:=Lib.hid (floor_less (x:=x) (y:=y))
 rw[←hT,←hM] at HS HL
 have HW:=Lib.hid (show wrap64 (x.tdiv y)=T from by rw[hT];exact IntWalk.wrap64_in _ (by omega))
 have HT:=Lib.hid (show x.tdiv y=T from hT.symm)
 have HM:=Lib.hid (show x.tmod y=M from hM.symm)
 have HP:=Lib.hid (show 0≤x→x/y=T∧x%y=M from fun h=>⟨by rw[hT,Int.tdiv_eq_ediv_of_nonneg h],by rw[hM,Int.tmod_eq_emod_of_nonneg h]⟩)
 have hs1:0≤x→0≤M:=fun h=>by rw[hM];exact Int.tmod_nonneg _ h
 have hs2:x<0→M≤0:=fun h=>by
  rw[hM]
  have:=Int.tmod_nonneg y (a:= -x) (by omega)
  rw[Int.neg_tmod] at this
  omega
 rw[←hT] at hb
 rw[←hM] at hm
 obtain⟨hb1,hb2⟩:=hb
 have hm1: -4611686018427387904≤M:=by omega
 have hm2:M≤4611686018427387904:=by omega
 clear hT hM hm
 have hc:((0≤x∧0<y)∨(0≤x∧y<0)∨(x<0∧0<y)∨(x<0∧y<0))∧((M≤0∧0≤M)∨M<0∨0<M):=by omega
 obtain⟨hc,hm0⟩:=hc
 have hfin:(M=0∨(0≤x∧0<y)∨(x<0∧y<0))∨(M≠0∧((0≤x∧y<0)∨(x<0∧0<y))):=by omega
 have HFIN:=Lib.hid hfin
 clear hfin
 rcases hc with⟨k1,k2⟩|⟨k1,k2⟩|⟨k1,k2⟩|⟨k1,k2⟩
 all_goals
  rcases hm0 with⟨m0,m00⟩|m0|m0
  all_goals
   first
   |(exfalso;have:=hs1 (by omega);omega;done)
   |(exfalso;have:=hs2 (by omega);omega;done)
   |skip
 all_goals
  have tm:(M !=0)=decide (M≠0):=by by_cases h:M=0<;>simp[h]
  first|rw[decide_eq_true (show M≠0 by omega)] at tm|rw[decide_eq_false (show¬M≠0 by omega)] at tm
  obtain⟨dm,hdm⟩:∃b,decide (M<0)=b:=⟨_,rfl⟩
  obtain⟨dy,hdy⟩:∃b,decide (y<0)=b:=⟨_,rfl⟩
  clear hs1 hs2
  cases dm<;>cases dy
 all_goals
  have hdm2:=hdm
  have hdy2:=hdy
  simp only[decide_eq_true_eq,decide_eq_false_iff_not] at hdm2 hdy2
  first|(exfalso;omega;done)|skip
 all_goals
  clear hdm2 hdy2
  go_enter Tryz.func206,Tryz.ntmps206
  go_wp2
  refine zAK mixed (by kernel_rfl) ?_
  go_wp2
  refine⟨by kernel_rfl,?_⟩
  first|rw[(HP.out k1).1,(HP.out k1).2]|rw[HW.out,(HP.out k1).2]|rw[HW.out,HM.out]|rw[HT.out,HM.out]
  go_wp2
  go_ret2
  first|exact pure_done (n:=1) (by rw[(HS.out (by omega)).1,(HS.out (by omega)).2];rfl)|exact pure_done (n:=1) (by rw[(HL.out (by omega) (by omega)).1,(HL.out (by omega) (by omega)).2];rfl)
theorem rwith_c (w:World) (p q p' q':Int) (F:Nat) (caps:Array Value) (hF:∀args w,(callFunc F args).run Tryz.prog w= .ok (.enter F args) w) (R:RR)
  (hf:zAT (p,q)=true→zAT (p',q')=true→∀W,Below w.heap.size w W→Calls Tryz.prog F (#[.int .i64 (p*q'),.int .i64 (p'*q)]++caps) W (NumPost W R)):
  Calls Tryz.prog 199 #[.agg #[p,q],.agg #[p',q'],.func (.func F) #[] caps] w (NumPost w (twoN (p,q) (p',q') R)):=by
 have HB:=Lib.hid (zAL w (o2 p q) (o2 p' q') (o2 0 0))
 have HV1:=Lib.hid (zBA (((w.alloc (o2 p q)).alloc (o2 p' q')).alloc (o2 0 0)) p q)
 have HV2:=Lib.hid (fun W=>zBA W p' q')
 have HF:=Lib.hid hf
 clear hf
 cases hv:zAT (p,q) with
 |false=>
  have HR:=Lib.hid (show twoN (p,q) (p',q') R= .error 2 from by unfold twoN;rw[hv];rfl)
  have HVV:=Lib.hid hv
  clear hv
  go_enter Tryz.func199,Tryz.ntmps199
  go_wp2_with fail
  refine HV1.out.mono ?_
  rw[HVV.out]
  rintro e w1 ⟨rfl,hb⟩
  have HB1:=hbn HB.out hb
  obtain⟨hc,hf⟩:=bcell hb
  have hz:=hb.size
  simp at hz
  clear hb
  go_wp2
  refine bodyPost_ret (by simp[results,Tryz.results199,go_sem,hc];first|done|rfl) rfl ?_
  exact zAV HR.out (zAD HB1.out (by omega) _ _)
 |true=>
  cases hv2:zAT (p',q') with
  |false=>
   have HR:=Lib.hid (show twoN (p,q) (p',q') R= .error 2 from by unfold twoN;rw[hv,hv2];rfl)
   have HVV:=Lib.hid hv
   have HVV2:=Lib.hid hv2
   clear hv hv2
   go_enter Tryz.func199,Tryz.ntmps199
   go_wp2_with fail
   refine HV1.out.mono ?_
   rw[HVV.out]
   rintro e w1 ⟨rfl,hb⟩
   have HB1:=hbn HB.out hb
   have HW1:=Lib.hid hb
   obtain⟨hc,hf⟩:=bcell hb
   have hz:=hb.size
   simp at hz
   clear hb
   go_wp2_with fail
   refine(HV2.out _).mono ?_
   rw[HVV2.out]
   rintro e w2 ⟨rfl,hb⟩
   have HB2:=hbn HB1.out hb
   have HW2:=hbn HW1.out hb
   clear hc hf
   obtain⟨hc,hf⟩:=bcell HW2.out
   have hz2:=hb.size
   clear hb
   go_wp2
   refine bodyPost_ret (by simp[results,Tryz.results199,go_sem,hc];first|done|rfl) rfl ?_
   exact zAV HR.out (zAD HB2.out (by omega) _ _)
  |true=>
   have HR:=Lib.hid (show twoN (p,q) (p',q') R=R from by unfold twoN;rw[hv,hv2];rfl)
   have hb1:=zAN hv
   have hb2:=zAN hv2
   simp only[] at hb1 hb2
   obtain⟨a1,a2,a3,a4⟩:=hb1
   obtain⟨b1,b2,b3,b4⟩:=hb2
   have hm1:=zAd a3 a4 (show-2147483647≤q' by omega) b2
   have hm2:=zAd b3 b4 (show-2147483647≤q by omega) a2
   have HVV:=Lib.hid hv
   have HVV2:=Lib.hid hv2
   clear hv hv2
   go_enter Tryz.func199,Tryz.ntmps199
   go_wp2_with fail
   refine HV1.out.mono ?_
   rw[HVV.out]
   rintro e w1 ⟨rfl,hb⟩
   have HB1:=hbn HB.out hb
   have HW1:=Lib.hid hb
   obtain⟨hc,hf⟩:=bcell hb
   have hz:=hb.size
   simp at hz
   clear hb
   go_wp2_with fail
   refine(HV2.out _).mono ?_
   rw[HVV2.out]
   rintro e w2 ⟨rfl,hb⟩
   have HB2:=hbn HB1.out hb
   have HW2:=hbn HW1.out hb
   clear hc hf
   obtain⟨hc,hf⟩:=bcell HW2.out
   have hz2:=hb.size
   clear hb
   go_wp2_with fail
   refine(HF.out HVV.out HVV2.out _ HB2.out).mono ?_
   rintro e w3 ⟨rfl,hb⟩
   have HB3:=hbn HB2.out hb
   clear hc hf
   obtain⟨hc,hf⟩:=bcell (zAC HW2.out hb)
   have hz3:=hb.size
   clear hb
   go_wp2
   refine bodyPost_ret (by simp[results,Tryz.results199,go_sem,hc];first|done|rfl) rfl ?_
   rw[HR.out]
   exact⟨rfl,zAD HB3.out (by omega) _ _⟩
theorem sgcd_c (w:World) (x y:Int) (a b:Nat) (hx:x=a) (hy:y=b) (ha:a≤9223372036854775807) (hb:b≤9223372036854775807):
  Calls Tryz.prog 137 #[.int .i64 x,.int .i64 y] w (PureP w (.int .i64 (Nat.gcd a b:Nat))):=by
 subst hx hy
 obtain⟨G,hG⟩:∃G,G=Nat.gcd a b:=⟨_,rfl⟩
 rw[←hG]
 have HG:=Lib.hid hG.symm
 clear hG
 go_enter Tryz.func137,Tryz.ntmps137
 go_wp2
 go_loopg [0,1] b (fun gg u v wr=>∃x y n:Nat,wr=w.drewN n∧y=gg∧u= .int .i64 (x:Int)∧v= .int .i64 (y:Int)∧x≤9223372036854775807∧y≤9223372036854775807∧Hid (Nat.gcd x y=G))
 case atStart=>exact⟨a,b,0,rfl,rfl,rfl,rfl,ha,hb,HG⟩
 case round=>
  obtain⟨x,y,n,rfl,rfl,rfl,rfl,h1,h2,h3⟩:=hrel
  by_cases h0:y=0
  ·subst h0
   have HX:=Lib.hid (show(x:Int)=G from by have:=h3.out;rw[Nat.gcd_zero_right] at this;omega)
   go_wp2
   go_ret
   exact⟨zBE HX.out,n,rfl⟩
  ·have t0:((y:Int) !=0)=true:=by rw[bne_iff_ne];omega
   have hy0:0<y:=by omega
   have hm:=Nat.mod_lt x hy0
   have HN:=Lib.hid (show Nat.gcd y (x%y)=G from by rw[←h3.out,Nat.gcd_comm x y];exact(Nat.gcd_rec y x).symm▸(Nat.gcd_comm _ _))
   clear h0
   go_wp2
   refine zAK mixed (by kernel_rfl) ?_
   go_wp2
   refine⟨by kernel_rfl,?_⟩
   go_wp2
   go_roundg (x%y)
   case measure=>omega
   case rel=>exact⟨y,x%y,_,rfl,rfl,rfl,(by first|rfl|simp),h2,by omega,HN⟩
theorem sabs_c (w:World) (x:Int) (h1: -9223372036854775807≤x) (h2:x≤9223372036854775807):Calls Tryz.prog 138 #[.int .i64 x] w fun e w'=>e= .returned (.int .i64 (x.natAbs:Int))∧w'=w:=by
 by_cases h:x<0
 all_goals
  go_enter Tryz.func138,Tryz.ntmps138
  go_wp2
  go_ret
  exact⟨zBE (by omega),rfl⟩
theorem zBB (w:World) (p q:Int):Calls Tryz.prog 81 #[.agg #[.int .i64 p,.int .i64 q]] w (BoolPost w (zAT (p,q))):=by
 have HB:=Lib.hid (zAe w (.cells #[.int .i64 p,.int .i64 q] 23))
 by_cases h:1≤q∧q≤2147483647∧ -2147483647≤p∧p≤2147483647
 ·obtain⟨h1,h2,h3,h4⟩:=h
  have HGC:=Lib.hid (fun W x y hx hy=>sgcd_c W x y p.natAbs q.natAbs hx hy (by omega) (by omega))
  have HA1:=Lib.hid (fun W=>sabs_c W p (by omega) (by omega))
  obtain⟨D,hD⟩:∃D,D=Nat.gcd p.natAbs q.natAbs:=⟨_,rfl⟩
  have HV:=Lib.hid (validN_good h1 h2 h3 h4 hD.symm)
  rw[←hD] at HGC
  have hq:q=(q.natAbs:Int):=by omega
  have HQ:=Lib.hid hq
  have d1:decide (1≤q)=true:=decide_eq_true h1
  have d2:decide (q≤2147483647)=true:=decide_eq_true h2
  have d3:decide (-2147483647≤p)=true:=decide_eq_true h3
  have d4:decide (p≤2147483647)=true:=decide_eq_true h4
  clear hD hq
  go_enter Tryz.func81,Tryz.ntmps81
  go_wp2
  go_quiet (first|((go_at_call 138;exact Calls.quiet_of_same (HA1.out _)))|((go_at_call 137;exact Calls.quiet_of (HGC.out _ _ _ rfl HQ.out))))
  go_wp2
  go_ret
  exact zBD HV.out.symm (below_drewN HB.out _)
 ·have HV:=Lib.hid (validN_bad (p:=p) (q:=q) (by omega))
  have hc:q<1∨(1≤q∧2147483647<q)∨(1≤q∧q≤2147483647∧2147483647<p)∨(1≤q∧q≤2147483647∧p≤2147483647∧p< -2147483647):=by omega
  clear h
  rcases hc with k1|⟨k1,k2⟩|⟨k1,k2,k3⟩|⟨k1,k2,k3,k4⟩
  ·have d1:decide (1≤q)=false:=decide_eq_false (by omega)
   go_enter Tryz.func81,Tryz.ntmps81
   go_wp2
   go_quiet (fail)
   go_wp2
   go_ret
   exact zBD HV.out.symm (below_drewN HB.out _)
  ·have d1:decide (1≤q)=true:=decide_eq_true k1
   have d2:decide (q≤2147483647)=false:=decide_eq_false (by omega)
   go_enter Tryz.func81,Tryz.ntmps81
   go_wp2
   go_quiet (fail)
   go_wp2
   go_ret
   exact zBD HV.out.symm (below_drewN HB.out _)
  ·have d1:decide (1≤q)=true:=decide_eq_true k1
   have d2:decide (q≤2147483647)=true:=decide_eq_true k2
   have d4:decide (p≤2147483647)=false:=decide_eq_false (by omega)
   go_enter Tryz.func81,Tryz.ntmps81
   go_wp2
   go_quiet (fail)
   go_wp2
   go_ret
   exact zBD HV.out.symm (below_drewN HB.out _)
  ·have d1:decide (1≤q)=true:=decide_eq_true k1
   have d2:decide (q≤2147483647)=true:=decide_eq_true k2
   have d4:decide (p≤2147483647)=true:=decide_eq_true k3
   have d3:decide (-2147483647≤p)=false:=decide_eq_false (by omega)
   go_enter Tryz.func81,Tryz.ntmps81
   go_wp2
   go_quiet (fail)
   go_wp2
   go_ret
   exact zBD HV.out.symm (below_drewN HB.out _)
theorem rpower_c (w:World) (x n:Int) (k:Nat) (hn:n=k) (hk:k≤1000) (h1: -2147483647≤x) (h2:x≤2147483647):Calls Tryz.prog 209 #[.int .i64 x,.int .i64 n] w (PowPost w (powG x k 1)):=by
 subst hn
 obtain⟨R,hR⟩:∃R,R=powG x k 1:=⟨_,rfl⟩
 rw[←hR]
 have HS:=Lib.hid (show PowRel w x k R k (.int .i64 1) (.int .i64 0) w from⟨0,1,rfl,rfl,rfl,rfl,Nat.zero_le _,by omega,by omega,hR.symm⟩)
 clear hR
 go_enter Tryz.func209,Tryz.ntmps209
 go_wp2
 go_loopg [6,8] k (fun gg u v wr=>PowRel w x k R gg u v wr)
 case atStart=>exact HS.out
 case round=>
  clear HS
  obtain⟨j,p,rfl,rfl,rfl,rfl,hj,p1,p2,hp⟩:=hrel
  by_cases hlt:j<k
  ·have hm:=zAd p1 p2 h1 h2
   obtain⟨d,hd⟩:∃d,k-j=d+1:=⟨k-j-1,by omega⟩
   rw[hd] at hp
   obtain⟨y,hy⟩:∃y,y=p*x:=⟨_,rfl⟩
   have hp2:(if inTop y then powG x d y else none)=R:=by rw[hy];exact hp
   have HY:=Lib.hid hy
   have HD:=Lib.hid hd
   rw[←hy] at hm
   clear hp hy hd
   by_cases hin: -2147483647≤y∧y≤2147483647
   ·rw[if_pos (inTop_iff.2 hin)] at hp2
    have HN:=Lib.hid (show PowRel w x k R (k-(j+1)) (.int .i64 y) (.int .i64 ((j:Int)+1)) w from⟨j+1,y,rfl,rfl,rfl,rfl,by omega,hin.1,hin.2,by rw[show k-(j+1)=d by have:=HD.out;omega];exact hp2⟩)
    obtain⟨y1,y2⟩:=hin
    have hyy:=HY.out.symm
    clear hp2
    go_wp2
    go_roundg (k-(j+1))
    case measure=>omega
    case rel=>exact HN.out
   ·rw[if_neg (fun e=>hin (inTop_iff.1 e))] at hp2
    have HN:=Lib.hid hp2.symm
    have hc:2147483647<y∨(y≤2147483647∧y< -2147483647):=by omega
    have hyy:=HY.out.symm
    clear hp2 hin
    rcases hc with c1|⟨c1,c2⟩
    all_goals
     go_wp2
     go_ret2
     exact pow_none HN.out rfl
  ·have HN:=Lib.hid (show R=some p from by rw[←hp,show k-j=0 by omega];rfl)
   clear hp
   go_wp2
   go_ret2
   exact pow_some HN.out rfl
theorem rcmp_c (w:World) (p q p' q':Int):Calls Tryz.prog 155 #[.agg #[p,q],.agg #[p',q']] w (IntPost w (cmpN (p,q) (p',q'))):=by
 have HB:=Lib.hid (zAF w (o2 p q) (o2 p' q'))
 have HV1:=Lib.hid (zBA ((w.alloc (o2 p q)).alloc (o2 p' q')) p q)
 have HV2:=Lib.hid (fun W=>zBA W p' q')
 obtain⟨R,hR⟩:∃R,R=cmpN (p,q) (p',q'):=⟨_,rfl⟩
 rw[←hR]
 have low:(zAT (p,q)&&zAT (p',q'))=false→(p=p'∧R=zBX q q')∨(p≠p'∧R=zBX p p'∧zBX p p'≠0):=fun h=>by
  unfold cmpN at hR
  rw[h] at hR
  by_cases e:p=p'
  ·exact .inl ⟨e,by rw[hR];simp[e]⟩
  ·refine .inr ⟨e,by rw[hR];simp[e],?_⟩
   unfold zBX
   split
   ·omega
   ·split<;>omega
 have HL:=Lib.hid low
 have HR0:=Lib.hid hR
 clear low hR
 cases hv:zAT (p,q) with
 |false=>
  have HVV:=Lib.hid hv
  have hoc:=HL.out (by rw[hv];rfl)
  clear hv HL HR0
  rcases hoc with⟨e,hR⟩|⟨e,hR,hne⟩
  ·have HRR:=Lib.hid hR
   have he:zBX p p'=0:=by rw[e];unfold zBX;rw[if_neg (by omega),if_neg (by omega)]
   clear hR e
   go_enter Tryz.func155,Tryz.ntmps155
   go_wp2_with fail
   refine HV1.out.mono ?_
   rw[HVV.out]
   rintro e w1 ⟨rfl,hb⟩
   have HB1:=hbn HB.out hb
   have HW1:=Lib.hid hb
   obtain⟨hc,hf⟩:=bcell hb
   have hz:=hb.size
   simp at hz
   clear hb
   go_wp2_with fail
   refine(rorder_c _ _ _).mono ?_
   rw[he]
   rintro e w3 ⟨rfl,rfl⟩
   go_wp2_with fail
   refine(rorder_c _ _ _).mono ?_
   rintro e w3 ⟨rfl,rfl⟩
   go_wp2
   go_ret
   exact zAq HRR.out.symm HB1.out
  ·have HRR:=Lib.hid hR
   obtain⟨o,ho⟩:∃o,o=zBX p p':=⟨_,rfl⟩
   rw[←ho] at hne HRR
   have HOO:=Lib.hid ho.symm
   have hn2:(o !=0)=true:=by rw[bne_iff_ne];exact hne
   clear hR e hne ho
   go_enter Tryz.func155,Tryz.ntmps155
   go_wp2_with fail
   refine HV1.out.mono ?_
   rw[HVV.out]
   rintro e w1 ⟨rfl,hb⟩
   have HB1:=hbn HB.out hb
   have HW1:=Lib.hid hb
   obtain⟨hc,hf⟩:=bcell hb
   have hz:=hb.size
   simp at hz
   clear hb
   go_wp2_with fail
   refine(rorder_c _ _ _).mono ?_
   rw[HOO.out]
   rintro e w3 ⟨rfl,rfl⟩
   go_wp2
   go_ret
   exact zAq HRR.out.symm HB1.out
 |true=>
  cases hv2:zAT (p',q') with
  |false=>
   have HVV:=Lib.hid hv
   have HVV2:=Lib.hid hv2
   have hoc:=HL.out (by rw[hv,hv2];rfl)
   clear hv hv2 HL HR0
   rcases hoc with⟨e,hR⟩|⟨e,hR,hne⟩
   ·have HRR:=Lib.hid hR
    have he:zBX p p'=0:=by rw[e];unfold zBX;rw[if_neg (by omega),if_neg (by omega)]
    clear hR e
    go_enter Tryz.func155,Tryz.ntmps155
    go_wp2_with fail
    refine HV1.out.mono ?_
    rw[HVV.out]
    rintro e w1 ⟨rfl,hb⟩
    have HB1:=hbn HB.out hb
    have HW1:=Lib.hid hb
    obtain⟨hc,hf⟩:=bcell hb
    have hz:=hb.size
    simp at hz
    clear hb
    go_wp2_with fail
    refine(HV2.out _).mono ?_
    rw[HVV2.out]
    rintro e w2 ⟨rfl,hb⟩
    have HB2:=hbn HB1.out hb
    clear hc hf
    obtain⟨hc,hf⟩:=bcell (zAC HW1.out hb)
    have hz2:=hb.size
    clear hb
    go_wp2_with fail
    refine(rorder_c _ _ _).mono ?_
    rw[he]
    rintro e w3 ⟨rfl,rfl⟩
    go_wp2_with fail
    refine(rorder_c _ _ _).mono ?_
    rintro e w3 ⟨rfl,rfl⟩
    go_wp2
    go_ret
    exact zAq HRR.out.symm HB2.out
   ·have HRR:=Lib.hid hR
    obtain⟨o,ho⟩:∃o,o=zBX p p':=⟨_,rfl⟩
    rw[←ho] at hne HRR
    have HOO:=Lib.hid ho.symm
    have hn2:(o !=0)=true:=by rw[bne_iff_ne];exact hne
    clear hR e hne ho
    go_enter Tryz.func155,Tryz.ntmps155
    go_wp2_with fail
    refine HV1.out.mono ?_
    rw[HVV.out]
    rintro e w1 ⟨rfl,hb⟩
    have HB1:=hbn HB.out hb
    have HW1:=Lib.hid hb
    obtain⟨hc,hf⟩:=bcell hb
    have hz:=hb.size
    simp at hz
    clear hb
    go_wp2_with fail
    refine(HV2.out _).mono ?_
    rw[HVV2.out]
    rintro e w2 ⟨rfl,hb⟩
    have HB2:=hbn HB1.out hb
    clear hc hf
    obtain⟨hc,hf⟩:=bcell (zAC HW1.out hb)
    have hz2:=hb.size
    clear hb
    go_wp2_with fail
    refine(rorder_c _ _ _).mono ?_
    rw[HOO.out]
    rintro e w3 ⟨rfl,rfl⟩
    go_wp2
    go_ret
    exact zAq HRR.out.symm HB2.out
  |true=>
   have hb1:=zAN hv
   have hb2:=zAN hv2
   simp only[] at hb1 hb2
   obtain⟨a1,a2,a3,a4⟩:=hb1
   obtain⟨b1,b2,b3,b4⟩:=hb2
   have m1:=zAd a3 a4 (show-2147483647≤q' by omega) b2
   have m2:=zAd b3 b4 (show-2147483647≤q by omega) a2
   have HRR:=Lib.hid (show R=zBX (p*q') (p'*q) from by rw[HR0.out];unfold cmpN;rw[hv,hv2];rfl)
   have HVV:=Lib.hid hv
   have HVV2:=Lib.hid hv2
   clear hv hv2 HL HR0
   go_enter Tryz.func155,Tryz.ntmps155
   go_wp2_with fail
   refine HV1.out.mono ?_
   rw[HVV.out]
   rintro e w1 ⟨rfl,hb⟩
   have HB1:=hbn HB.out hb
   have HW1:=Lib.hid hb
   obtain⟨hc,hf⟩:=bcell hb
   have hz:=hb.size
   simp at hz
   clear hb
   go_wp2_with fail
   refine(HV2.out _).mono ?_
   rw[HVV2.out]
   rintro e w2 ⟨rfl,hb⟩
   have HB2:=hbn HB1.out hb
   clear hc hf
   obtain⟨hc,hf⟩:=bcell (zAC HW1.out hb)
   have hz2:=hb.size
   clear hb
   go_wp2_with fail
   refine(rorder_c _ _ _).mono ?_
   rintro e w3 ⟨rfl,rfl⟩
   go_wp2
   go_ret
   exact zAq HRR.out.symm HB2.out
theorem rpow_c (w:World) (p q p' q':Int):Calls Tryz.prog 151 #[.agg #[p,q],.agg #[p',q']] w (NumPost w (powN (p,q) (p',q'))):=by
 have HB:=Lib.hid (zAL w (o2 p q) (o2 p' q') (o2 0 0))
 have HV1:=Lib.hid (zBA (((w.alloc (o2 p q)).alloc (o2 p' q')).alloc (o2 0 0)) p q)
 have HV2:=Lib.hid (fun W=>zBA W p' q')
 obtain⟨R,hR⟩:∃R,R=powN (p,q) (p',q'):=⟨_,rfl⟩
 rw[←hR]
 cases hv:zAT (p,q) with
 |false=>
  have HR:=Lib.hid (show R= .error 2 from by rw[hR];unfold powN;rw[hv];rfl)
  have HVV:=Lib.hid hv
  clear hv hR
  go_enter Tryz.func151,Tryz.ntmps151
  go_wp2_with fail
  refine HV1.out.mono ?_
  rw[HVV.out]
  rintro e w1 ⟨rfl,hb⟩
  have HB1:=hbn HB.out hb
  have HW1:=Lib.hid hb
  obtain⟨hc,hf⟩:=bcell hb
  have hz:=hb.size
  simp at hz
  clear hb
  go_wp2
  refine bodyPost_ret (by simp[results,Tryz.results151,go_sem,hc];first|done|rfl) rfl ?_
  exact zAV HR.out (zAD HB1.out (by omega) _ _)
 |true=>
  cases hv2:zAT (p',q') with
  |false=>
   have HR:=Lib.hid (show R= .error 2 from by rw[hR];unfold powN;rw[hv,hv2];rfl)
   have HVV:=Lib.hid hv
   have HVV2:=Lib.hid hv2
   clear hv hv2 hR
   go_enter Tryz.func151,Tryz.ntmps151
   go_wp2_with fail
   refine HV1.out.mono ?_
   rw[HVV.out]
   rintro e w1 ⟨rfl,hb⟩
   have HB1:=hbn HB.out hb
   have HW1:=Lib.hid hb
   obtain⟨hc,hf⟩:=bcell hb
   have hz:=hb.size
   simp at hz
   clear hb
   go_wp2_with fail
   refine(HV2.out _).mono ?_
   rw[HVV2.out]
   rintro e w2 ⟨rfl,hb⟩
   have HB2:=hbn HB1.out hb
   clear hc hf
   obtain⟨hc,hf⟩:=bcell (zAC HW1.out hb)
   have hz2:=hb.size
   clear hb
   go_wp2
   refine bodyPost_ret (by simp[results,Tryz.results151,go_sem,hc];first|done|rfl) rfl ?_
   exact zAV HR.out (zAD HB2.out (by omega) _ _)
  |true=>
   have hb1:=zAN hv
   have hb2:=zAN hv2
   simp only[] at hb1 hb2
   obtain⟨a1,a2,a3,a4⟩:=hb1
   obtain⟨b1,b2,b3,b4⟩:=hb2
   have hR2:R=if q'=1∧ -64≤p'∧p'≤64 then(if p=0∧p'<0 then .error 7 else powFin (decide (p'<0)) (powG p p'.natAbs 1) (powG q p'.natAbs 1)) else .error 2:=by
    rw[hR];unfold powN;rw[hv,hv2]
    by_cases h:q'=1∧ -64≤p'∧p'≤64
    ·rw[if_pos h,decide_eq_true h];rfl
    ·rw[if_neg h,decide_eq_false h];rfl
   have HVV:=Lib.hid hv
   have HVV2:=Lib.hid hv2
   clear hv hv2 hR
   by_cases hbad:¬(q'=1∧ -64≤p'∧p'≤64)
   ·have HR:=Lib.hid (show R= .error 2 from by rw[hR2,if_neg hbad])
    have hcs:1<q'∨(q'≤1∧p'< -64)∨(q'≤1∧ -64≤p'∧64<p'):=by omega
    have tq:(q' !=1)=decide (1<q'):=by rw[Bool.eq_iff_iff,bne_iff_ne,decide_eq_true_eq];omega
    clear hbad hR2
    rcases hcs with c1|⟨c1,c2⟩|⟨c1,c2,c3⟩
    all_goals
     first|rw[decide_eq_true (show 1<q' from c1)] at tq|rw[decide_eq_false (show¬1<q' from Int.not_lt.2 c1)] at tq
     go_enter Tryz.func151,Tryz.ntmps151
     go_wp2_with fail
     refine HV1.out.mono ?_
     rw[HVV.out]
     rintro e w1 ⟨rfl,hb⟩
     have HB1:=hbn HB.out hb
     have HW1:=Lib.hid hb
     obtain⟨hc,hf⟩:=bcell hb
     have hz:=hb.size
     simp at hz
     clear hb
     go_wp2_with fail
     refine(HV2.out _).mono ?_
     rw[HVV2.out]
     rintro e w2 ⟨rfl,hb⟩
     have HB2:=hbn HB1.out hb
     clear hc hf
     obtain⟨hc,hf⟩:=bcell (zAC HW1.out hb)
     have hz2:=hb.size
     clear hb
     go_wp2
     refine bodyPost_ret (by simp[results,Tryz.results151,go_sem,hc];first|done|rfl) rfl ?_
     exact zAV HR.out (zAD HB2.out (by omega) _ _)
   ·have hgood:q'=1∧ -64≤p'∧p'≤64:=Classical.not_not.1 hbad
    rw[if_pos hgood] at hR2
    obtain⟨g1,g2,g3⟩:=hgood
    have tq:(q' !=1)=false:=by rw[g1];rfl
    clear hbad g1
    by_cases hz0:p=0∧p'<0
    ·have HR:=Lib.hid (show R= .error 7 from by rw[hR2,if_pos hz0])
     obtain⟨z1,z2⟩:=hz0
     have tp:(p==0)=true:=by rw[z1];rfl
     clear hR2 z1
     go_enter Tryz.func151,Tryz.ntmps151
     go_wp2_with fail
     refine HV1.out.mono ?_
     rw[HVV.out]
     rintro e w1 ⟨rfl,hb⟩
     have HB1:=hbn HB.out hb
     have HW1:=Lib.hid hb
     obtain⟨hc,hf⟩:=bcell hb
     have hz:=hb.size
     simp at hz
     clear hb
     go_wp2_with fail
     refine(HV2.out _).mono ?_
     rw[HVV2.out]
     rintro e w2 ⟨rfl,hb⟩
     have HB2:=hbn HB1.out hb
     clear hc hf
     obtain⟨hc,hf⟩:=bcell (zAC HW1.out hb)
     have hz2:=hb.size
     clear hb
     go_wp2
     refine bodyPost_ret (by simp[results,Tryz.results151,go_sem,hc];first|done|rfl) rfl ?_
     exact zAV HR.out (zAD HB2.out (by omega) _ _)
    ·rw[if_neg hz0] at hR2
     obtain⟨k,hk⟩:∃k,k=p'.natAbs:=⟨_,rfl⟩
     rw[←hk] at hR2
     have hk2:k≤64:=by omega
     obtain⟨X,hX⟩:∃X,X=powG p k 1:=⟨_,rfl⟩
     obtain⟨Y,hY⟩:∃Y,Y=powG q k 1:=⟨_,rfl⟩
     rw[←hX,←hY] at hR2
     have hzc:(p<0∨0<p)∨(p≤0∧0≤p∧0≤p'):=by omega
     have HP1:=Lib.hid (fun W n (hn:n=(k:Int))=>rpower_c W p n k hn (by omega) a3 a4)
     have HP2:=Lib.hid (fun W n (hn:n=(k:Int))=>rpower_c W q n k hn (by omega) (by omega) a2)
     rw[←hX] at HP1
     rw[←hY] at HP2
     have HK:=Lib.hid hk
     have HR:=Lib.hid hR2
     have HZ:=Lib.hid hz0
     have HXX:=Lib.hid hX
     have HYY:=Lib.hid hY
     clear hR2 hk hX hY hz0
     have HX1:=Lib.hid (fun x (h:X=some x)=>powG_bounds k 1 x (by omega) (by omega) (HXX.out.symm.trans h))
     have HY1:=Lib.hid (fun y (h:Y=some y)=>powG_bounds k 1 y (by omega) (by omega) (HYY.out.symm.trans h))
     have HX2:=Lib.hid (fun x (h:X=some x) (hp:p≠0)=>powG_ne hp k 1 x (by omega) (HXX.out.symm.trans h))
     have HY2:=Lib.hid (fun y (h:Y=some y)=>powG_ne (show q≠0 by omega) k 1 y (by omega) (HYY.out.symm.trans h))
     have tp:(p==0)=decide (p≤0∧0≤p):=by rw[Bool.eq_iff_iff,beq_iff_eq,decide_eq_true_eq];omega
     rcases hzc with hp0|⟨hp0,hp1,hp2⟩
     ·rw[decide_eq_false (show¬(p≤0∧0≤p) by omega)] at tp
      cases X with
      |none=>
       have HE:=Lib.hid (show R= .error 6 from HR.out)
       clear HX1 HX2 HXX HR
       go_enter Tryz.func151,Tryz.ntmps151
       go_wp2_with fail
       refine HV1.out.mono ?_
       rw[HVV.out]
       rintro e w1 ⟨rfl,hb⟩
       have HB1:=hbn HB.out hb
       have HW1:=Lib.hid hb
       obtain⟨hc,hf⟩:=bcell hb
       have hz:=hb.size
       simp at hz
       clear hb
       go_wp2_with fail
       refine(HV2.out _).mono ?_
       rw[HVV2.out]
       rintro e w2 ⟨rfl,hb⟩
       have HB2:=hbn HB1.out hb
       clear hc hf
       obtain⟨hc,hf⟩:=bcell (zAC HW1.out hb)
       have HW2:=hbn HW1.out hb
       have hz2:=hb.size
       clear hb
       go_wp2_with fail
       all_goals
        refine(HP1.out _ _ (by have:=HK.out;omega)).mono ?_
        rintro e w3 ⟨rfl,rfl⟩
        go_wp2_with fail
        refine(HP2.out _ _ (by have:=HK.out;omega)).mono ?_
        rintro e w3 ⟨rfl,rfl⟩
        go_wp2
        refine bodyPost_ret (by simp[results,Tryz.results151,go_sem,hc];first|done|rfl) rfl ?_
        exact zAV HE.out (zAD HB2.out (by omega) _ _)
      |some x=>
       cases Y with
       |none=>
        have HE:=Lib.hid (show R= .error 6 from HR.out)
        clear HX1 HX2 HXX HR HY1 HY2 HYY
        go_enter Tryz.func151,Tryz.ntmps151
        go_wp2_with fail
        refine HV1.out.mono ?_
        rw[HVV.out]
        rintro e w1 ⟨rfl,hb⟩
        have HB1:=hbn HB.out hb
        have HW1:=Lib.hid hb
        obtain⟨hc,hf⟩:=bcell hb
        have hz:=hb.size
        simp at hz
        clear hb
        go_wp2_with fail
        refine(HV2.out _).mono ?_
        rw[HVV2.out]
        rintro e w2 ⟨rfl,hb⟩
        have HB2:=hbn HB1.out hb
        clear hc hf
        obtain⟨hc,hf⟩:=bcell (zAC HW1.out hb)
        have HW2:=hbn HW1.out hb
        have hz2:=hb.size
        clear hb
        go_wp2_with fail
        all_goals
         refine(HP1.out _ _ (by have:=HK.out;omega)).mono ?_
         rintro e w3 ⟨rfl,rfl⟩
         go_wp2_with fail
         refine(HP2.out _ _ (by have:=HK.out;omega)).mono ?_
         rintro e w3 ⟨rfl,rfl⟩
         go_wp2
         refine bodyPost_ret (by simp[results,Tryz.results151,go_sem,hc];first|done|rfl) rfl ?_
         exact zAV HE.out (zAD HB2.out (by omega) _ _)
       |some y=>
        obtain⟨x1,x2⟩:=HX1.out x rfl
        obtain⟨y1,y2⟩:=HY1.out y rfl
        have xn:=HX2.out x rfl (by omega)
        have yn:=HY2.out y rfl
        by_cases hneg:p'<0
        ·have HE:=Lib.hid (show redN y x=R from by rw[HR.out,decide_eq_true hneg];rfl)
         clear HX1 HX2 HXX HR HY1 HY2 HYY
         go_enter Tryz.func151,Tryz.ntmps151
         go_wp2_with fail
         refine HV1.out.mono ?_
         rw[HVV.out]
         rintro e w1 ⟨rfl,hb⟩
         have HB1:=hbn HB.out hb
         have HW1:=Lib.hid hb
         obtain⟨hc,hf⟩:=bcell hb
         have hz:=hb.size
         simp at hz
         clear hb
         go_wp2_with fail
         refine(HV2.out _).mono ?_
         rw[HVV2.out]
         rintro e w2 ⟨rfl,hb⟩
         have HB2:=hbn HB1.out hb
         clear hc hf
         obtain⟨hc,hf⟩:=bcell (zAC HW1.out hb)
         have HW2:=hbn HW1.out hb
         have hz2:=hb.size
         clear hb
         go_wp2_with fail
         all_goals
          refine(HP1.out _ _ (by have:=HK.out;omega)).mono ?_
          rintro e w3 ⟨rfl,rfl⟩
          go_wp2_with fail
          refine(HP2.out _ _ (by have:=HK.out;omega)).mono ?_
          rintro e w3 ⟨rfl,rfl⟩
          go_wp2_with fail
          refine(reduce_c _ y x (by omega) (by omega) (by omega) (by omega) xn).mono ?_
          rw[HE.out]
          rintro e w4 ⟨rfl,hb⟩
          have HB4:=hbn HB2.out hb
          have HW4:=hbn HW2.out hb
          clear hc hf
          obtain⟨hc,hf⟩:=bcell HW4.out
          have hz4:=hb.size
          clear hb
          go_wp2
          refine bodyPost_ret (by simp[results,Tryz.results151,go_sem,hc];first|done|rfl) rfl ?_
          refine zAu (zAD HB4.out ?_ _ _)
          omega
        ·have HE:=Lib.hid (show redN x y=R from by rw[HR.out,decide_eq_false hneg];rfl)
         clear HX1 HX2 HXX HR HY1 HY2 HYY
         go_enter Tryz.func151,Tryz.ntmps151
         go_wp2_with fail
         refine HV1.out.mono ?_
         rw[HVV.out]
         rintro e w1 ⟨rfl,hb⟩
         have HB1:=hbn HB.out hb
         have HW1:=Lib.hid hb
         obtain⟨hc,hf⟩:=bcell hb
         have hz:=hb.size
         simp at hz
         clear hb
         go_wp2_with fail
         refine(HV2.out _).mono ?_
         rw[HVV2.out]
         rintro e w2 ⟨rfl,hb⟩
         have HB2:=hbn HB1.out hb
         clear hc hf
         obtain⟨hc,hf⟩:=bcell (zAC HW1.out hb)
         have HW2:=hbn HW1.out hb
         have hz2:=hb.size
         clear hb
         go_wp2_with fail
         all_goals
          refine(HP1.out _ _ (by have:=HK.out;omega)).mono ?_
          rintro e w3 ⟨rfl,rfl⟩
          go_wp2_with fail
          refine(HP2.out _ _ (by have:=HK.out;omega)).mono ?_
          rintro e w3 ⟨rfl,rfl⟩
          go_wp2_with fail
          refine(reduce_c _ x y (by omega) (by omega) (by omega) (by omega) yn).mono ?_
          rw[HE.out]
          rintro e w4 ⟨rfl,hb⟩
          have HB4:=hbn HB2.out hb
          have HW4:=hbn HW2.out hb
          clear hc hf
          obtain⟨hc,hf⟩:=bcell HW4.out
          have hz4:=hb.size
          clear hb
          go_wp2
          refine bodyPost_ret (by simp[results,Tryz.results151,go_sem,hc];first|done|rfl) rfl ?_
          refine zAu (zAD HB4.out ?_ _ _)
          omega
     ·rw[decide_eq_true (show p≤0∧0≤p from⟨hp0,hp1⟩)] at tp
      cases X with
      |none=>
       have HE:=Lib.hid (show R= .error 6 from HR.out)
       clear HX1 HX2 HXX HR
       go_enter Tryz.func151,Tryz.ntmps151
       go_wp2_with fail
       refine HV1.out.mono ?_
       rw[HVV.out]
       rintro e w1 ⟨rfl,hb⟩
       have HB1:=hbn HB.out hb
       have HW1:=Lib.hid hb
       obtain⟨hc,hf⟩:=bcell hb
       have hz:=hb.size
       simp at hz
       clear hb
       go_wp2_with fail
       refine(HV2.out _).mono ?_
       rw[HVV2.out]
       rintro e w2 ⟨rfl,hb⟩
       have HB2:=hbn HB1.out hb
       clear hc hf
       obtain⟨hc,hf⟩:=bcell (zAC HW1.out hb)
       have HW2:=hbn HW1.out hb
       have hz2:=hb.size
       clear hb
       go_wp2_with fail
       all_goals
        refine(HP1.out _ _ (by have:=HK.out;omega)).mono ?_
        rintro e w3 ⟨rfl,rfl⟩
        go_wp2_with fail
        refine(HP2.out _ _ (by have:=HK.out;omega)).mono ?_
        rintro e w3 ⟨rfl,rfl⟩
        go_wp2
        refine bodyPost_ret (by simp[results,Tryz.results151,go_sem,hc];first|done|rfl) rfl ?_
        exact zAV HE.out (zAD HB2.out (by omega) _ _)
      |some x=>
       cases Y with
       |none=>
        have HE:=Lib.hid (show R= .error 6 from HR.out)
        clear HX1 HX2 HXX HR HY1 HY2 HYY
        go_enter Tryz.func151,Tryz.ntmps151
        go_wp2_with fail
        refine HV1.out.mono ?_
        rw[HVV.out]
        rintro e w1 ⟨rfl,hb⟩
        have HB1:=hbn HB.out hb
        have HW1:=Lib.hid hb
        obtain⟨hc,hf⟩:=bcell hb
        have hz:=hb.size
        simp at hz
        clear hb
        go_wp2_with fail
        refine(HV2.out _).mono ?_
        rw[HVV2.out]
        rintro e w2 ⟨rfl,hb⟩
        have HB2:=hbn HB1.out hb
        clear hc hf
        obtain⟨hc,hf⟩:=bcell (zAC HW1.out hb)
        have HW2:=hbn HW1.out hb
        have hz2:=hb.size
        clear hb
        go_wp2_with fail
        all_goals
         refine(HP1.out _ _ (by have:=HK.out;omega)).mono ?_
         rintro e w3 ⟨rfl,rfl⟩
         go_wp2_with fail
         refine(HP2.out _ _ (by have:=HK.out;omega)).mono ?_
         rintro e w3 ⟨rfl,rfl⟩
         go_wp2
         refine bodyPost_ret (by simp[results,Tryz.results151,go_sem,hc];first|done|rfl) rfl ?_
         exact zAV HE.out (zAD HB2.out (by omega) _ _)
       |some y=>
        obtain⟨x1,x2⟩:=HX1.out x rfl
        obtain⟨y1,y2⟩:=HY1.out y rfl
        have yn:=HY2.out y rfl
        have HE:=Lib.hid (show redN x y=R from by rw[HR.out,decide_eq_false (by omega)];rfl)
        clear HX1 HX2 HXX HR HY1 HY2 HYY
        go_enter Tryz.func151,Tryz.ntmps151
        go_wp2_with fail
        refine HV1.out.mono ?_
        rw[HVV.out]
        rintro e w1 ⟨rfl,hb⟩
        have HB1:=hbn HB.out hb
        have HW1:=Lib.hid hb
        obtain⟨hc,hf⟩:=bcell hb
        have hz:=hb.size
        simp at hz
        clear hb
        go_wp2_with fail
        refine(HV2.out _).mono ?_
        rw[HVV2.out]
        rintro e w2 ⟨rfl,hb⟩
        have HB2:=hbn HB1.out hb
        clear hc hf
        obtain⟨hc,hf⟩:=bcell (zAC HW1.out hb)
        have HW2:=hbn HW1.out hb
        have hz2:=hb.size
        clear hb
        go_wp2_with fail
        all_goals
         refine(HP1.out _ _ (by have:=HK.out;omega)).mono ?_
         rintro e w3 ⟨rfl,rfl⟩
         go_wp2_with fail
         refine(HP2.out _ _ (by have:=HK.out;omega)).mono ?_
         rintro e w3 ⟨rfl,rfl⟩
         go_wp2_with fail
         refine(reduce_c _ x y (by omega) (by omega) (by omega) (by omega) yn).mono ?_
         rw[HE.out]
         rintro e w4 ⟨rfl,hb⟩
         have HB4:=hbn HB2.out hb
         have HW4:=hbn HW2.out hb
         clear hc hf
         obtain⟨hc,hf⟩:=bcell HW4.out
         have hz4:=hb.size
         clear hb
         go_wp2
         refine bodyPost_ret (by simp[results,Tryz.results151,go_sem,hc];first|done|rfl) rfl ?_
         refine zAu (zAD HB4.out ?_ _ _)
         omega
theorem rmake_c (w:World) (p q:Int):Calls Tryz.prog 237 #[.int .i64 p,.int .i64 q] w (NumPost w (makeN p q)):=by
 have HB:=Lib.hid (zAe w (o2 0 0))
 obtain⟨R,hR⟩:∃R,R=makeN p q:=⟨_,rfl⟩
 rw[←hR]
 by_cases h0:q=0
 ·have HR:=Lib.hid (show R= .error 7 from by rw[hR];unfold makeN;rw[if_pos h0])
  have t0:(q==0)=true:=by rw[h0];rfl
  clear h0 hR
  go_enter Tryz.func237,Tryz.ntmps237
  go_wp2
  refine bodyPost_ret (by simp[results,Tryz.results237,go_sem];first|done|rfl) rfl ?_
  exact zAV HR.out HB.out
 ·have t0:(q==0)=false:=by rw[beq_eq_false_iff_ne];exact h0
  by_cases hb: -4611686018427387904≤p∧p≤4611686018427387904∧ -4611686018427387904≤q∧q≤4611686018427387904
  ·obtain⟨b1,b2,b3,b4⟩:=hb
   have HR:=Lib.hid (show redN p q=R from by rw[hR];unfold makeN;rw[if_neg h0,if_pos];simp[in62];omega)
   have HC:=Lib.hid (reduce_c (w.alloc (o2 0 0)) p q (by omega) (by omega) (by omega) (by omega) h0)
   clear h0 hR
   go_enter Tryz.func237,Tryz.ntmps237
   go_wp2_with fail
   refine HC.out.mono ?_
   rw[HR.out]
   rintro e w1 ⟨rfl,hb⟩
   obtain⟨hc,hf⟩:=bcell hb
   have hz:=hb.size
   simp at hz
   have HB1:=hbn HB.out hb
   clear hb
   go_wp2
   refine bodyPost_ret (by simp[results,Tryz.results237,go_sem,hc];first|done|rfl) rfl ?_
   exact zAu (zAD HB1.out (Nat.le_refl _) _ _)
  ·have HR:=Lib.hid (show R= .error 6 from by rw[hR];unfold makeN;rw[if_neg h0,if_neg];simp[in62];omega)
   have hcs:p< -4611686018427387904∨4611686018427387904<p∨((-4611686018427387904≤p∧p≤4611686018427387904)∧(q< -4611686018427387904∨4611686018427387904<q)):=by omega
   clear hb h0 hR
   rcases hcs with c|c|⟨⟨c1,c2⟩,c|c⟩
   all_goals
    go_enter Tryz.func237,Tryz.ntmps237
    go_wp2
    refine bodyPost_ret (by simp[results,Tryz.results237,go_sem];first|done|rfl) rfl ?_
    exact zAV HR.out HB.out
theorem zBj (w:World) (k p q:Int) (s:ByteArray) (r:Int):Calls Tryz.prog 26 #[.agg #[k,p,q,s,r]] w (BoolPost w (zAi ⟨k,p,q,s,r⟩)):=by
 obtain⟨R,hR⟩:∃R,R=zAi ⟨k,p,q,s,r⟩:=⟨_,rfl⟩
 rw[←hR]
 have HR:=Lib.hid hR
 clear hR
 go_enter Tryz.func26,Tryz.ntmps26
 go_wp2_with (first|(go_at_call 81;refine(zBB _ _ _).mono ?_;rintro e w1 ⟨rfl,hb⟩))
 all_goals
  go_ret
  have h:=HR.out
  clear HR
  first
  |(refine zBD ?_ (zAe _ _);subst h;simp_all[zAi,noNum,noStr,isRef,V.num,toList_size,sz_le,sz_ge,sz_lt,sz_lt1]<;>omega)
  |(refine zBD ?_ (zAC (zAe _ _) (by assumption));subst h;simp_all[zAi,noNum,noStr,isRef,V.num,toList_size,sz_le,sz_ge,sz_lt,sz_lt1]<;>omega)
  |trace_state
theorem pvalidV_c (w:World) (k p q:Int) (s:ByteArray) (r:Int):Calls Tryz.prog 36 #[.agg #[k,p,q,s,r]] w (BoolPost w (zAi ⟨k,p,q,s,r⟩)):=by
 obtain⟨R,hR⟩:∃R,R=zAi ⟨k,p,q,s,r⟩:=⟨_,rfl⟩
 rw[←hR]
 have HR:=Lib.hid hR
 clear hR
 go_enter Tryz.func36,Tryz.ntmps36
 go_wp2_with (first|(go_at_call 88;refine(zBA _ _ _).mono ?_;rintro e w1 ⟨rfl,hb⟩;obtain⟨hc,hf⟩:=bcell hb))
 all_goals
  go_ret
  have h:=HR.out
  clear HR
  first
  |(refine zBD ?_ (zAF _ _ _);subst h;simp_all[zAi,noNum,noStr,isRef,V.num,toList_size,sz_le,sz_ge,sz_lt,sz_lt1]<;>omega)
  |(refine zBD ?_ (zAC (zAF _ _ _) (by assumption));subst h;simp_all[zAi,noNum,noStr,isRef,V.num,toList_size,sz_le,sz_ge,sz_lt,sz_lt1]<;>omega)
  |trace_state
end Go.Proofs.YthkpckgcgkijbaaGreatDoor
