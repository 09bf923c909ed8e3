import Derived.Test.YthkpckgcgkijbaaGreatDoorOpCw
import Derived.Test.YthkpckgcgkijbaaGreatDoorMapL
set_option linter.unusedVariables false
set_option linter.unusedSimpArgs false
set_option maxRecDepth 100000
set_option maxHeartbeats 2000000
namespace Go.Proofs.YthkpckgcgkijbaaGreatDoor
open Go.RowKit Go.Proofs.Lexi
theorem zBC (w:World) (o:Obj):(w.drew.alloc o).heap[w.heap.size]? =some o:=zAg w.drew o
theorem prj6 {a b c d e p:Prop} (h:a∧b∧c∧d∧e∧Hid p):p:=h.2.2.2.2.2.out
theorem meta_wf {w:World} {h bo bt:Nat} {H:List PO} (hH:HpAt w h bo bt H) (v:V):WfV (metaH (lh H) v):=by
 unfold metaH
 rw[zCM]
 cases hf:findP H v with
 |none=>exact wf_nil
 |some x=>
  obtain⟨i,hi,hk,hri,hxm⟩:=find_at hf
  exact(hH.one x hxm).wm
theorem hand_nil {w:World} {h bo bt:Nat} {H:List PO} (hH:HpAt w h bo bt H) {v:V} (hm:(metaH (lh H) v).k=0) (s:ByteArray):handH (lh H) v s=V.nil:=by
 unfold handH getH
 rw[zCM]
 cases hf:findP H (metaH (lh H) v) with
 |none=>rfl
 |some x=>
  obtain⟨i,hi,hk,hri,hxm⟩:=find_at hf
  have:=(hH.one x hxm).kd
  omega
theorem zAM {F:Nat→Prop} {a w:World} (h:Mods F a w) {b:Nat} (hb:F b∨a.heap.size≤b) (x0 x1 x2 x3 x4 x5 x6 x7 x8 x9 x10 x11 x12 x13:Value):
  Mods F a ((((((((((((((w.setCell ⟨b,0,none⟩ x0).setCell ⟨b,1,none⟩ x1).setCell ⟨b,2,none⟩ x2).setCell ⟨b,3,none⟩ x3).setCell ⟨b,4,none⟩ x4).setCell ⟨b,5,none⟩ x5).setCell ⟨b,6,none⟩ x6).setCell ⟨b,7,none⟩ x7).setCell ⟨b,8,none⟩ x8).setCell ⟨b,9,none⟩ x9).setCell ⟨b,10,none⟩ x10).setCell ⟨b,11,none⟩ x11).setCell ⟨b,12,none⟩ x12).setCell ⟨b,13,none⟩ x13):=
 zAO (zAO (zAO (zAO (zAO (zAO (zAO (zAO (zAO (zAO (zAO (zAO (zAO (zAO h hb x0) hb x1) hb x2) hb x3) hb x4) hb x5) hb x6) hb x7) hb x8) hb x9) hb x10) hb x11) hb x12) hb x13
theorem zAt {w w2 W:World} {n:Nd} {av:Value} {base r:Nat} (hb:Below w.heap.size w w2) (hA:ArgsAt w2 base av n.args) (h1:w.heap.size≤base) (h2:w.heap.size≤r) (h3:r<base) (hW:Mods (· =r) w2 W):NdPost w n (.returned (ndV n av)) W:=by
 refine⟨av,rfl,?_,?_⟩
 ·rcases hA with h|⟨g,a,b,h4,h5,h6,h7⟩
  ·exact .inl h
  ·exact .inr ⟨g,a,b,h4,h5,by omega,(hW.block g (Array.getElem?_eq_some_iff.1 h7).1 (by omega)).trans h7⟩
 ·exact⟨hW.os.trans hb.os,hW.tape.trans hb.tape,hW.output.trans hb.output,Nat.le_trans hb.size hW.size,fun k hk=>(hW.block k (Nat.lt_of_lt_of_le (Nat.lt_of_lt_of_le hk (Nat.le_refl _)) hb.size) (by omega)).trans (hb.block k hk)⟩
theorem ArgsAt.shape {w:World} {base:Nat} {av:Value} {l:List V} (h:ArgsAt w base av l):∃so n cap,av= .slice so n cap:=by
 rcases h with⟨_,h⟩|⟨g,a,b,_,h,_⟩
 ·exact⟨none,0,0,h⟩
 ·exact⟨some ⟨g,0,none⟩,2,2,h⟩
theorem zAs (k:Int):(typeM k).size≤8:=by
 unfold typeM
 split
 ·decide
 ·split
  ·decide
  ·split
   ·decide
   ·split
    ·decide
    ·split
     ·decide
     ·split
      ·decide
      ·split
       ·decide
       ·split
        ·decide
        ·split<;>decide
theorem isNum_e (v:V):((((nE (zBY v):Nat)):Int)==0)=isNum v:=by
 unfold isNum
 cases h:zBY v with
 |ok x=>rfl
 |error c=>
  show(((c:Nat):Int)==0)=false
  rw[beq_eq_false_iff_ne]
  intro e
  have:c=0:=by omega
  subst this
  exact number_err h
theorem isStr_e (v:V):((((sE (strOf v):Nat)):Int)==0)=isStr v:=by
 unfold isStr
 have h1:=(strOf_err v).1
 cases h:strOf v with
 |ok x=>rfl
 |error c=>
  show(((c:Nat):Int)==0)=false
  rw[beq_eq_false_iff_ne]
  intro e
  have:c=0:=by omega
  subst this
  exact h1 h
def NdB (w:World) (base:Nat) (n:Nd) (e:Ending) (w':World):Prop:=∃av,e= .returned (ndV n av)∧ArgsAt w' base av n.args∧Below w.heap.size w w'
theorem args_nil {w:World} {base:Nat} {av:Value} (h:ArgsAt w base av []) (W:World) (base':Nat):ArgsAt W base' av []:=by
 rcases h with h|⟨g,a,b,h,_⟩
 ·exact .inl h
 ·cases h
theorem ndb_nil {w w2 W:World} {n:Nd} {av:Value} {b base r:Nat} (hn:n.args=[]) (hb:Below w.heap.size w w2) (hA:ArgsAt w2 b av n.args) (h2:w.heap.size≤r) (hW:Mods (· =r) w2 W):NdB w base n (.returned (ndV n av)) W:=by
 rw[hn] at hA
 exact⟨av,rfl,hn▸args_nil hA W base,⟨hW.os.trans hb.os,hW.tape.trans hb.tape,hW.output.trans hb.output,Nat.le_trans hb.size hW.size,fun k hk=>(hW.block k (Nat.lt_of_lt_of_le hk hb.size) (by omega)).trans (hb.block k hk)⟩⟩
theorem ndb_call {w w2 W:World} {f a b:V} {af:Int} {base r g:Nat} (hb:Below w.heap.size w w2) (hg:w2.heap[g]? =some (.cells #[.int .i64 a.k,.int .i64 a.p,.int .i64 a.q,.string a.s,.int .i64 a.r,.int .i64 b.k,.int .i64 b.p,.int .i64 b.q,.string b.s,.int .i64 b.r] 25)) (hbase:base≤g) (hgr:g≠r)
  (h2:w.heap.size≤r) (hW:Mods (· =r) w2 W):NdB w base (zBs f [a,b] af) (.returned (ndV (zBs f [a,b] af) (.slice (some ⟨g,0,none⟩) 2 2))) W:=
 ⟨_,rfl,.inr ⟨g,a,b,rfl,rfl,hbase,(hW.block g (Array.getElem?_eq_some_iff.1 hg).1 hgr).trans hg⟩,⟨hW.os.trans hb.os,hW.tape.trans hb.tape,hW.output.trans hb.output,Nat.le_trans hb.size hW.size,fun k hk=>(hW.block k (Nat.lt_of_lt_of_le hk hb.size) (by omega)).trans (hb.block k hk)⟩⟩
theorem ev_size:∀x∈evL,x.size≤4096:=by decide
theorem event_size (o:Int):(zBK o).size≤4096:=by
 unfold zBK
 split
 ·rw[List.getD_eq_getElem?_getD]
  cases h:evL[o.toNat]? with
  |none=>exact Nat.zero_le _
  |some x=>exact ev_size x (List.mem_of_getElem? h)
 ·exact Nat.zero_le _
theorem eqs_of {a b:ByteArray} (h:zAE a=zAE b):(a.toList==b.toList)=true:=by
 rw[beq_iff_eq,toList_bytes]
 exact h
theorem nes_of {a b:ByteArray} (h:¬zAE a=zAE b):(a.toList==b.toList)=false:=by
 rw[beq_eq_false_iff_ne]
 intro e
 rw[toList_bytes] at e
 exact h e
theorem RSep.symm {x y:RO} (h:RSep x y):RSep y x:=fun a b=>by
 obtain⟨h3,h5⟩:=h b a
 exact⟨fun e=>h3 e.symm,fun c hc hd=>h5 c hd hc⟩
theorem rsep_at {H:List RO} (hs:H.Pairwise RSep) {i j:Nat} {x y:RO} (hi:H[i]? =some x) (hj:H[j]? =some y) (hij:i≠j):RSep x y:=by
 rcases Nat.lt_or_gt_of_ne hij with h|h
 ·exact pw_iff.1 hs i j x y h hi hj
 ·exact(pw_iff.1 hs j i y x h hj hi).symm
theorem rsep_set {H:List RO} (hs:H.Pairwise RSep) {i:Nat} {x x':RO} (hi:H[i]? =some x) (h:∀j y,H[j]? =some y→j≠i→RSep x' y):(H.set i x').Pairwise RSep:=by
 rw[pw_iff]
 intro a b y z hab ha hb
 rw[List.getElem?_set] at ha hb
 split at ha
 ·rename_i e
  subst e
  rw[if_neg (by omega)] at hb
  rw[if_pos (List.getElem?_eq_some_iff.1 hi).1] at ha
  injection ha with ha
  subst ha
  exact h b z hb (by omega)
 ·split at hb
  ·rename_i e
   subst e
   rw[if_pos (List.getElem?_eq_some_iff.1 hi).1] at hb
   injection hb with hb
   subst hb
   exact(h a y ha (by omega)).symm
  ·exact pw_iff.1 hs a b y z hab ha hb
theorem rmem_set_at {H:List RO} {i:Nat} {x' y:RO} (hy:y∈H.set i x'):y=x'∨∃j,j≠i∧H[j]? =some y:=by
 obtain⟨j,hj⟩:=List.getElem?_of_mem hy
 rw[List.getElem?_set] at hj
 split at hj
 ·split at hj
  ·injection hj with hj;exact .inl hj.symm
  ·cases hj
 ·rename_i e
  exact .inr ⟨j,fun e2=>e e2.symm,hj⟩
theorem not_smF {w:World} {m:Nat} {sv:Value} {L:List Sl} (h:SMap w m sv L) {b:Nat} {cs:Array Value} {t:TypeId} {fz:Nat×Nat} (hb:w.heap[b]? =some (.cells cs t fz)) (h1:t≠181) (h2:t≠186):¬SmF m sv b:=by
 rintro(e|e)
 ·exact zAU hb h.hm h1 e
 ·obtain⟨c2,hc⟩:=zAc h.row e
  exact zAU hb hc h2 rfl
theorem rowRO_get (H:List RO) (a b:Nat) (hb:b<11):(rowRO H)[a*11+b]? =(H[a]?).bind fun s=>(s.cells)[b]? :=by
 cases h:H[a]? with
 |some s=>rw[rowRO_at H a b s h hb];rfl
 |none=>
  have:=List.getElem?_eq_none_iff.1 h
  rw[List.getElem?_eq_none_iff.2 (by rw[rowRO_len];omega)]
  rfl
theorem rowRO_same {H:List RO} {i:Nat} {x x':RO} (hi:H[i]? =some x) (he:x'.cells=x.cells):rowRO (H.set i x')=rowRO H:=by
 apply List.ext_getElem?
 intro j
 obtain⟨a,b,hb,rfl⟩:∃a b,b<11∧j=a*11+b:=⟨j/11,j%11,by omega,by omega⟩
 rw[rowRO_get _ _ _ hb,rowRO_get _ _ _ hb,List.getElem?_set]
 split
 ·rename_i e
  subst e
  rw[if_pos (List.getElem?_eq_some_iff.1 hi).1,hi]
  show x'.cells[b]? =x.cells[b]?
  rw[he]
 ·rfl
theorem rowRO_setMt {H:List RO} {i:Nat} {x:RO} (hi:H[i]? =some x) (v:V):setAt (rowRO H) (i*11+4) (zBF v)=rowRO (H.set i {x with mt:=v}):=by
 have hl:i<H.length:=(List.getElem?_eq_some_iff.1 hi).1
 apply List.ext_getElem?
 intro j
 obtain⟨a,b,hb,rfl⟩:∃a b,b<11∧j=a*11+b:=⟨j/11,j%11,by omega,by omega⟩
 have h5:(zBF v).length=5:=rfl
 rw[setAt_get _ _ _ _ (by rw[h5,rowRO_len];omega),rowRO_get _ _ _ hb,rowRO_get _ _ _ hb,h5,List.getElem?_set]
 by_cases h:i=a
 ·subst h
  rw[if_pos rfl,if_pos hl,hi]
  have hb2:b=0∨b=1∨b=2∨b=3∨b=4∨b=5∨b=6∨b=7∨b=8∨b=9∨b=10:=by omega
  rcases hb2 with rfl|rfl|rfl|rfl|rfl|rfl|rfl|rfl|rfl|rfl|rfl
  all_goals
   first
   |(rw[if_neg (by omega)];rfl)
   |(rw[if_pos (by omega)];rw[show i*11+4-(i*11+4)=0 by omega];rfl)
   |(rw[if_pos (by omega)];rw[show i*11+5-(i*11+4)=1 by omega];rfl)
   |(rw[if_pos (by omega)];rw[show i*11+6-(i*11+4)=2 by omega];rfl)
   |(rw[if_pos (by omega)];rw[show i*11+7-(i*11+4)=3 by omega];rfl)
   |(rw[if_pos (by omega)];rw[show i*11+8-(i*11+4)=4 by omega];rfl)
 ·rw[if_neg (by omega),if_neg h]
theorem RHpAt.touch {w w':World} {h:Nat} {av uv:Value} {H:List RO} (hH:RHpAt w h av uv H) (hM:Mods (fun b=>uv.ownBlock=some b) w w') (ht:∃bs:List Bool,w'.ownsRow 0 4 1 uv H.length (bs.map .bool)):RHpAt w' h av uv H:=by
 obtain⟨bs,hT⟩:=hH.tch
 have kc:∀{b:Nat} {cs:Array Value} {t:TypeId} {fz:Nat×Nat},w.heap[b]? =some (.cells cs t fz)→t≠4→w'.heap[b]? =w.heap[b]? :=fun hb h1=>hM.block _ (Array.getElem?_eq_some_iff.1 hb).1 (fun e=>by
  obtain⟨c2,hc⟩:=zAc hT e
  exact zAU hb hc h1 rfl)
 refine⟨(kc hH.hh (by decide)).trans hH.hh,zAZ hH.row (fun b hb=>by obtain⟨c2,hc⟩:=zAc hH.row hb;exact kc hc (by decide)),ht,fun x hx=>⟨(hH.one x hx).kd,(hH.one x hx).wm,(hH.one x hx).fm,fun h4=> ?_⟩,hH.sep⟩
 have hS:=(hH.one x hx).tb h4
 refine hS.keep (fun b hb=> ?_)
 rcases hb with rfl|rfl|hb
 ·exact kc hS.ht (by decide)
 ·exact kc hS.om.hm (by decide)
 ·obtain⟨c2,hc⟩:=zAc hS.om.row hb;exact kc hc (by decide)
theorem RHpAt.setTab {w w':World} {h:Nat} {av uv:Value} {H:List RO} {i:Nat} {x:RO} {sv':Value} {L':List Sl} (hH:RHpAt w h av uv H) (hi:H[i]? =some x) (h4:x.kind=4) (hT:SMap w' x.m sv' L')
  (hM:Mods (SmF x.m x.sv) w w') (hown:∀b,sv'.ownBlock=some b→x.sv.ownBlock=some b∨w.heap.size≤b):RHpAt w' h av uv (H.set i {x with sv:=sv',L:=L'}):=by
 have hxm:=List.mem_of_getElem? hi
 have hx:=hH.one x hxm
 have hO:=(hx.tb h4).om
 obtain⟨bs,hTc⟩:=hH.tch
 have kc:∀{b:Nat} {cs:Array Value} {t:TypeId} {fz:Nat×Nat},w.heap[b]? =some (.cells cs t fz)→t≠181→t≠186→w'.heap[b]? =w.heap[b]? :=fun hb h1 h2=>hM.block _ (Array.getElem?_eq_some_iff.1 hb).1 (not_smF hO hb h1 h2)
 refine⟨?_,?_,⟨bs,?_⟩,fun y hy=> ?_,?_⟩
 ·rw[List.length_set];exact(kc hH.hh (by decide) (by decide)).trans hH.hh
 ·rw[List.length_set,rowRO_same (x':={x with sv:=sv',L:=L'}) hi rfl]
  exact zAZ hH.row (fun b hb=>by obtain⟨c2,hc⟩:=zAc hH.row hb;exact kc hc (by decide) (by decide))
 ·rw[List.length_set]
  exact zAZ hTc (fun b hb=>by obtain⟨c2,hc⟩:=zAc hTc hb;exact kc hc (by decide) (by decide))
 ·rcases rmem_set_at hy with rfl|⟨j,hj,hjy⟩
  ·exact⟨hx.kd,hx.wm,hx.fm,fun _=>⟨(kc (hx.tb h4).ht (by decide) (by decide)).trans (hx.tb h4).ht,hT⟩⟩
  ·have hyo:=hH.one y (List.mem_of_getElem? hjy)
   have hsp:=rsep_at hH.sep hi hjy (fun e=>hj e.symm)
   refine⟨hyo.kd,hyo.wm,hyo.fm,fun hy4=>(hyo.tb hy4).keep (fun b hb=> ?_)⟩
   obtain⟨s1,s3⟩:=hsp h4 hy4
   have hyO:=(hyo.tb hy4).om
   rcases hb with rfl|rfl|hb
   ·exact kc (hyo.tb hy4).ht (by decide) (by decide)
   ·refine hM.block _ (Array.getElem?_eq_some_iff.1 hyO.hm).1 ?_
    rintro(e|e)
    ·exact s1 e.symm
    ·obtain⟨c3,h3⟩:=zAc hO.row e
     exact zAU hyO.hm h3 (by decide) rfl
   ·obtain⟨c3,h3⟩:=zAc hyO.row hb
    refine hM.block _ (Array.getElem?_eq_some_iff.1 h3).1 ?_
    rintro(e|e)
    ·exact zAU h3 hO.hm (by decide) e
    ·exact s3 _ e hb
 ·refine rsep_set hH.sep hi (fun j y hjy hj=> ?_)
  have hsp:=rsep_at hH.sep hi hjy (fun e=>hj e.symm)
  intro a b
  obtain⟨s1,s3⟩:=hsp h4 b
  refine⟨s1,fun c hc hd=> ?_⟩
  rcases hown c hc with h1|h1
  ·exact s3 c h1 hd
  ·have:=(zAS ((hH.one y (List.mem_of_getElem? hjy)).tb b).om.row hd).2
   omega
theorem RHpAt.setMt {w w':World} {h:Nat} {av uv:Value} {H:List RO} {i:Nat} {x:RO} {v:V} (hH:RHpAt w h av uv H) (hi:H[i]? =some x) (h5:x.kind≠5) (hv:WfV v)
  (hr:w'.ownsRow 0 97 11 av H.length (setAt (rowRO H) (i*11+4) (zBF v))) (hM:Mods (fun b=>av.ownBlock=some b) w w'):RHpAt w' h av uv (H.set i {x with mt:=v}):=by
 have hxm:=List.mem_of_getElem? hi
 have hx:=hH.one x hxm
 obtain⟨bs,hTc⟩:=hH.tch
 have kc:∀{b:Nat} {cs:Array Value} {t:TypeId} {fz:Nat×Nat},w.heap[b]? =some (.cells cs t fz)→t≠97→w'.heap[b]? =w.heap[b]? :=fun hb h1=>hM.block _ (Array.getElem?_eq_some_iff.1 hb).1 (fun e=>by
  obtain⟨c2,hc⟩:=zAc hH.row e
  exact zAU hb hc h1 rfl)
 have kS:∀{y:RO},STab w y.t y.m y.sv y.L→STab w' y.t y.m y.sv y.L:=fun hS=>hS.keep (fun b hb=>by
  rcases hb with rfl|rfl|hb
  ·exact kc hS.ht (by decide)
  ·exact kc hS.om.hm (by decide)
  ·obtain⟨c2,hc⟩:=zAc hS.om.row hb;exact kc hc (by decide))
 refine⟨?_,?_,⟨bs,?_⟩,fun y hy=> ?_,?_⟩
 ·rw[List.length_set];exact(kc hH.hh (by decide)).trans hH.hh
 ·rw[List.length_set,←rowRO_setMt hi];exact hr
 ·rw[List.length_set]
  exact zAZ hTc (fun b hb=>by obtain⟨c2,hc⟩:=zAc hTc hb;exact kc hc (by decide))
 ·rcases rmem_set_at hy with rfl|⟨j,hj,hjy⟩
  ·exact⟨hx.kd,hv,fun h=>absurd h h5,fun h4=>kS (hx.tb h4)⟩
  ·have hyo:=hH.one y (List.mem_of_getElem? hjy)
   exact⟨hyo.kd,hyo.wm,hyo.fm,fun h4=>kS (hyo.tb h4)⟩
 ·exact rsep_set (x:=x) hH.sep hi (fun j y hjy hj=>(show RSep x y from rsep_at hH.sep hi hjy (fun e=>hj e.symm)))
theorem RHpAt.add {w w':World} {h:Nat} {av uv av' uv':Value} {H:List RO} {x:RO} (hH:RHpAt w h av uv H) (hM:Mods (fun b=>b=h∨av.ownBlock=some b∨uv.ownBlock=some b) w w')
  (hh:w'.heap[h]? =some (.cells #[av',.int .i64 ((H.length+1:Nat):Int),uv'] 93)) (hr:w'.ownsRow 0 97 11 av' (H.length+1) (rowRO H++x.cells))
  (ht:∃bs:List Bool,w'.ownsRow 0 4 1 uv' (H.length+1) (bs.map .bool)) (hx:RObj w' x) (hn:x.kind=4→w.heap.size≤x.m) (hnone:x.sv.ownBlock=none):RHpAt w' h av' uv' (H++[x]):=by
 obtain⟨bs,hTc⟩:=hH.tch
 have kc:∀{b:Nat} {cs:Array Value} {t:TypeId} {fz:Nat×Nat},w.heap[b]? =some (.cells cs t fz)→t≠93→t≠97→t≠4→w'.heap[b]? =w.heap[b]? :=fun hb h1 h2 h3=>hM.block _ (Array.getElem?_eq_some_iff.1 hb).1 (fun e=>by
  rcases e with e|e|e
  ·exact zAU hb hH.hh h1 e
  ·obtain⟨c2,hc⟩:=zAc hH.row e;exact zAU hb hc h2 rfl
  ·obtain⟨c2,hc⟩:=zAc hTc e;exact zAU hb hc h3 rfl)
 refine⟨?_,?_,?_,fun y hy=> ?_,?_⟩
 ·rw[List.length_append];exact hh
 ·rw[List.length_append]
  have:rowRO (H++[x])=rowRO H++x.cells:=by
   unfold rowRO
   rw[List.flatMap_append]
   congr 1
  rw[this];exact hr
 ·rw[List.length_append];exact ht
 ·rcases List.mem_append.1 hy with hy|hy
  ·have hyo:=hH.one y hy
   refine⟨hyo.kd,hyo.wm,hyo.fm,fun hy4=>(hyo.tb hy4).keep (fun b hb=> ?_)⟩
   have hS:=hyo.tb hy4
   rcases hb with rfl|rfl|hb
   ·exact kc hS.ht (by decide) (by decide) (by decide)
   ·exact kc hS.om.hm (by decide) (by decide) (by decide)
   ·obtain⟨c3,h3⟩:=zAc hS.om.row hb
    exact kc h3 (by decide) (by decide) (by decide)
  ·rw[List.mem_singleton] at hy
   subst hy
   exact hx
 ·rw[List.pairwise_append]
  refine⟨hH.sep,List.pairwise_singleton _ _,fun y hy z hz=> ?_⟩
  rw[List.mem_singleton] at hz
  subst hz
  have hyo:=hH.one y hy
  refine fun hy4 hz4=>⟨fun e=> ?_,fun b hb hc=> ?_⟩
  ·have:=hn hz4
   have:=(Array.getElem?_eq_some_iff.1 (hyo.tb hy4).om.hm).1
   omega
  ·rw[hnone] at hc;cases hc
def SmPost (w:World) (m:Nat) (sv:Value) (L':List Sl) (e:Ending) (w':World):Prop:=
 e= .returned (.int .i64 0)∧∃sv',SMap w' m sv' L'∧Mods (SmF m sv) w w'∧∀b,sv'.ownBlock=some b→sv.ownBlock=some b∨w.heap.size≤b
theorem info186:(Tryz.prog.info? 186).map (·.size)=some 11:=by kernel_rfl
theorem info186p:(Tryz.prog.info? 186).map (fun i=>(i.zero,i.size,i.bytes))=some (some slZero,11,104):=by kernel_rfl
theorem gone_push {L:List Sl} (h:∀s∈L,s.g=true→s.v=V.nil) (k v:V):∀s∈L++[⟨k,v,false⟩],s.g=true→s.v=V.nil:=by
 intro s hs hg
 rcases List.mem_append.1 hs with h1|h1
 ·exact h s h1 hg
 ·rw[List.mem_singleton] at h1;subst h1;cases hg
theorem gone_drop (L:List Sl):∀s∈dropM L,s.g=true→s.v=V.nil:=by
 intro s hs hg
 have:=(mem_drop.1 hs).2
 rw[this] at hg;cases hg
theorem sm_push {w5:World} {m rb cap:Nat} {sv0:Value} {L:List Sl} {k v:V} (hm:w5.heap[m]? =some (.cells #[sv0] 181)) (hown:w5.ownsRow 0 186 11 (.slice (some ⟨rb,0,none⟩) (L.length+1) cap) (L.length+1) (rowSl L++zBS ⟨k,v,false⟩)) (hg:∀s∈L,s.g=true→s.v=V.nil):
  SMap (w5.setCell ⟨m,0,none⟩ (.slice (some ⟨rb,0,none⟩) (L.length+1) cap)) m (.slice (some ⟨rb,0,none⟩) (L.length+1) cap) (L++[⟨k,v,false⟩]):=by
 have hrm:rb≠m:=by
  obtain⟨c2,hc⟩:=zAc hown rfl
  exact zAU hc hm (by decide)
 refine⟨zAP hm 0 _,?_,gone_push hg k v⟩
 rw[rowSl_push,List.length_append]
 exact zAZ hown fun b hb=>by
  have hb:some rb=some b:=hb
  injection hb with hb
  subst hb
  exact Below.heap_setCell _ _ _ _ hrm
theorem grow_mods {F:Nat→Prop} {w w3 w5:World} {o:Option Nat} (h:Mods F w w3) (hg:w3.grownBy w5 o) (ho:∀b,o=some b→F b∨w.heap.size≤b):Mods F w w5:=
 ⟨hg.os.trans h.os,hg.tape.trans h.tape,hg.output.trans h.output,Nat.le_trans h.size hg.size,fun k hk hF=>(hg.block k (Nat.lt_of_lt_of_le hk h.size) (fun e=>by
  rcases ho k e.symm with h1|h1
  ·exact hF h1
  ·omega)).trans (h.block k hk hF)⟩
theorem gone_set {L:List Sl} (h:∀s∈L,s.g=true→s.v=V.nil) (n:Nat) {x:Sl} (hx:x.g=true→x.v=V.nil):∀s∈L.set n x,s.g=true→s.v=V.nil:=by
 intro s hs hg
 rcases List.mem_or_eq_of_mem_set hs with h1|h1
 ·exact h s h1 hg
 ·rw[h1] at hg ⊢;exact hx hg
theorem sm_cells {w w2:World} {m rb cap n:Nat} {L L':List Sl} {vs:List Value} {o:Nat} (hO:SMap w m (.slice (some ⟨rb,0,none⟩) L.length cap) L) (hb:Below w.heap.size w w2) (hl:L'.length=L.length) (hr:setAt (rowSl L) o vs=rowSl L') (hg:∀s∈L',s.g=true→s.v=V.nil) (_hn:n=n):
  SmPost w m (.slice (some ⟨rb,0,none⟩) L.length cap) L' (.returned (.int .i64 0)) (setCells w2 rb o vs):=by
 have hmr:m≠rb:=by
  obtain⟨c2,hc⟩:=zAc hO.row (b:=rb) rfl
  exact fun e=>zAU hO.hm hc (by decide) e
 refine⟨rfl,_,⟨?_,?_,hg⟩,zBd (.inl (.inr rfl)) _ _ _ (Mods.of_below hb),fun _ h=> .inl h⟩
 ·rw[zBV hmr];exact hkeep hb hO.hm
 ·have h3:=zBI vs w2 (rowSl L) o (zAQ (zAa hb (Nat.le_refl _)) hO.row)
  rw[hr] at h3
  rw[hl]
  exact h3
def STabPost (w:World) (t m:Nat) (sv:Value) (L':List Sl) (e:Ending) (w':World):Prop:=
 e= .returned (.int .i64 0)∧∃sv',SMap w' m sv' L'∧Mods (SmF m sv) w w'∧∀b,sv'.ownBlock=some b→sv.ownBlock=some b∨w.heap.size≤b
def zCN (H:List RO) (v:V):Option RO:=
 if 1≤v.r then(match H[v.r.toNat-1]? with|some o=>if o.kind=v.k then some o else none|none=>none) else none
theorem find_rlo (H:List RO) (v:V):findL (rlh H) v=(zCN H v).map RO.lo:=by
 unfold findL zCN rlh
 by_cases h:1≤v.r
 ·rw[if_pos h,if_pos h,List.getElem?_map]
  cases H[v.r.toNat-1]? with
  |none=>rfl
  |some o=>
   show(if o.lo.kind=v.k then some o.lo else none)=(if o.kind=v.k then some o else none).map RO.lo
   by_cases hk:o.kind=v.k
   ·rw[if_pos hk];rw[if_pos (show o.lo.kind=v.k from hk)];rfl
   ·rw[if_neg hk];rw[if_neg (show¬o.lo.kind=v.k from hk)];rfl
 ·rw[if_neg h,if_neg h];rfl
theorem rfind_at {H:List RO} {v:V} {x:RO} (h:zCN H v=some x):∃i,H[i]? =some x∧x.kind=v.k∧v.r=((i:Nat):Int)+1∧x∈H:=by
 unfold zCN at h
 split at h
 ·rename_i h1
  cases ho:H[v.r.toNat-1]? with
  |none=>rw[ho] at h;cases h
  |some o=>
   rw[ho] at h
   simp only at h
   split at h
   ·rename_i hk
    injection h with h
    subst h
    exact⟨_,ho,hk,by omega,List.mem_of_getElem? ho⟩
   ·cases h
 ·cases h
def tabE (H:List RO) (v:V):Int:=if (zCN H v).isSome&&(v.k==4) then 0 else 8
def RTouchPost (w:World) (h:Nat) (av uv:Value) (H:List RO) (e:Ending) (w':World):Prop:=e= .returned (.int .i64 0)∧RHpAt w' h av uv H∧Mods (fun b=>uv.ownBlock=some b) w w'
def RAddPost (w:World) (h:Nat) (av uv:Value) (H:List RO) (x:RO) (e:Ending) (w':World):Prop:=
 (∃v,e= .returned (.tuple #[.agg #[.int .i64 x.kind,.int .i64 0,.int .i64 0,.string ⟨#[]⟩,.int .i64 v],.int .i64 0]))∧∃av' uv',RHpAt w' h av' uv' (H++[x])∧Mods (fun b=>b=h∨av.ownBlock=some b∨uv.ownBlock=some b) w w'∧
  (∀b,av'.ownBlock=some b→av.ownBlock=some b∨w.heap.size≤b)∧(∀b,uv'.ownBlock=some b→uv.ownBlock=some b∨w.heap.size≤b)
theorem robj_keep {w W:World} {h:Nat} {av uv:Value} {H:List RO} {x:RO} (hM:Mods (fun b=>b=h∨av.ownBlock=some b∨uv.ownBlock=some b) w W) (hH:RHpAt w h av uv H) (hx:RObj w x) (hn:x.sv.ownBlock=none):RObj W x:=by
 obtain⟨bs,hTc⟩:=hH.tch
 have kc:∀{b:Nat} {cs:Array Value} {t:TypeId} {fz:Nat×Nat},w.heap[b]? =some (.cells cs t fz)→t≠93→t≠97→t≠4→W.heap[b]? =w.heap[b]? :=fun hb h1 h2 h3=>hM.block _ (Array.getElem?_eq_some_iff.1 hb).1 (fun e=>by
  rcases e with e|e|e
  ·exact zAU hb hH.hh h1 e
  ·obtain⟨c2,hc⟩:=zAc hH.row e;exact zAU hb hc h2 rfl
  ·obtain⟨c2,hc⟩:=zAc hTc e;exact zAU hb hc h3 rfl)
 refine⟨hx.kd,hx.wm,hx.fm,fun h4=>(hx.tb h4).keep (fun b hb=> ?_)⟩
 have hS:=hx.tb h4
 rcases hb with rfl|rfl|hb
 ·exact kc hS.ht (by decide) (by decide) (by decide)
 ·exact kc hS.om.hm (by decide) (by decide) (by decide)
 ·rw[hn] at hb;cases hb
theorem RHpAt.add2 {w w':World} {h:Nat} {av uv av' uv':Value} {H:List RO} {x:RO} (hH:RHpAt w h av uv H) (hM:Mods (fun b=>b=h∨av.ownBlock=some b∨uv.ownBlock=some b) w w')
  (hh:w'.heap[h]? =some (.cells #[av',.int .i64 ((H.length:Int)+1),uv'] 93)) (hr:w'.ownsRow 0 97 11 av' (H.length+1) (rowRO H++x.cells))
  (ht:∃bs:List Bool,w'.ownsRow 0 4 1 uv' (H.length+1) (bs.map .bool)) (hx:RObj w' x) (hsep:∀y∈H,RSep y x):RHpAt w' h av' uv' (H++[x]):=by
 obtain⟨bs,hTc⟩:=hH.tch
 have kc:∀{b:Nat} {cs:Array Value} {t:TypeId} {fz:Nat×Nat},w.heap[b]? =some (.cells cs t fz)→t≠93→t≠97→t≠4→w'.heap[b]? =w.heap[b]? :=fun hb h1 h2 h3=>hM.block _ (Array.getElem?_eq_some_iff.1 hb).1 (fun e=>by
  rcases e with e|e|e
  ·exact zAU hb hH.hh h1 e
  ·obtain⟨c2,hc⟩:=zAc hH.row e;exact zAU hb hc h2 rfl
  ·obtain⟨c2,hc⟩:=zAc hTc e;exact zAU hb hc h3 rfl)
 refine⟨?_,?_,?_,fun y hy=> ?_,?_⟩
 ·rw[List.length_append];exact hh
 ·rw[List.length_append]
  have:rowRO (H++[x])=rowRO H++x.cells:=by
   unfold rowRO
   rw[List.flatMap_append]
   congr 1
  rw[this];exact hr
 ·rw[List.length_append];exact ht
 ·rcases List.mem_append.1 hy with hy|hy
  ·have hyo:=hH.one y hy
   refine⟨hyo.kd,hyo.wm,hyo.fm,fun hy4=>(hyo.tb hy4).keep (fun b hb=> ?_)⟩
   have hS:=hyo.tb hy4
   rcases hb with rfl|rfl|hb
   ·exact kc hS.ht (by decide) (by decide) (by decide)
   ·exact kc hS.om.hm (by decide) (by decide) (by decide)
   ·obtain⟨c3,h3⟩:=zAc hS.om.row hb
    exact kc h3 (by decide) (by decide) (by decide)
  ·rw[List.mem_singleton] at hy
   subst hy
   exact hx
 ·rw[List.pairwise_append]
  refine⟨hH.sep,List.pairwise_singleton _ _,fun y hy z hz=> ?_⟩
  rw[List.mem_singleton] at hz
  subst hz
  exact hsep y hy
theorem info97p:(Tryz.prog.info? 97).map (fun i=>(i.zero,i.size,i.bytes))=some (some (.agg #[.int .i64 0,.int .i64 0,.string ⟨#[]⟩,.pointer none,.int .i64 0,.int .i64 0,.int .i64 0,.string ⟨#[]⟩,.int .i64 0,.slice none 0 0,.slice none 0 0]),11,136):=by kernel_rfl
theorem info4p:(Tryz.prog.info? 4).map (fun i=>(i.zero,i.size,i.bytes))=some (some (.bool false),1,1):=by kernel_rfl
def SMetaPost (w:World) (h:Nat) (av uv:Value) (H:List RO) (i:Nat) (x:RO) (m:V) (e:Ending) (w':World):Prop:=
 (∃v,e= .returned v)∧RHpAt w' h av uv (H.set i {x with mt:=m})∧Mods (RF h av uv H) w w'
theorem rint_keep {base n:Nat} {w w':World} {h:Nat} {M M':LH} {c:Int} {e:Ending} (hP:RHp base n w h M) (hM:M'=M) (hpost:IntPost w c e w'):(∃v,e= .returned v)∧RHp base n w' h M'∧BM base SB w w':=by
 subst hM
 exact⟨⟨_,hpost.1⟩,hP.below hpost.2,BM.of_below hpost.2⟩
theorem rtab_find {H:List RO} {v:V}:tabH (rlh H) v=((zCN H v).isSome&&(v.k==4)):=by
 unfold tabH
 rw[find_rlo]
 cases hf:zCN H v with
 |none=>rfl
 |some x=>
  obtain⟨i,hi,hk,hri,hxm⟩:=rfind_at hf
  show(x.kind==4)=(true&&(v.k==4))
  rw[hk]
  rfl
theorem cells_five (w:World) (x0 x1 x2 x3 x4:Value) (t:TypeId) (B:Nat) (hB:B=w.heap.size):∀j u,[x0,x1,x2,x3,x4][j]? =some u→(w.alloc (.cells #[x0,x1,x2,x3,x4] t)).cell? ((⟨B,0,none⟩:Addr).add j)=some u:=by
 intro j u hj
 subst hB
 have e:(⟨w.heap.size,0,none⟩:Addr).add j=⟨w.heap.size,j,none⟩:=by unfold Addr.add;split<;>simp_all
 rw[e,zAA (zAg _ _)]
 simpa using hj
def DRel (w0:World) (base gg:Nat) (sv iv:Value) (wr:World):Prop:=∃(j:Nat) (so:Option Addr) (cap:Nat) (xs:List Value),iv= .int .i64 (j:Nat)∧sv= .slice so j cap∧16-j=gg∧j≤16∧wr.ownsRow base 25 5 sv j xs∧Below base w0 wr
abbrev awF:List Fd:=[(⟨0,2,0,⟨#[95,95,97,100,100]⟩,⟨5,0,0,⟨#[]⟩,3⟩⟩:Fd),(⟨1,1,2,⟨#[]⟩,V.nil⟩:Fd)]
theorem aw1:zAy 1 ⟨3,0,0,⟨#[49,48]⟩,0⟩ ⟨2,1,1,⟨#[]⟩,0⟩= .ok ⟨2,11,1,⟨#[]⟩,0⟩:=by kernel_rfl
theorem aw2:zAw (handH (buildM 2 0 1 awF)) 1 ⟨0,0,0,⟨#[]⟩,0⟩ ⟨4,0,0,⟨#[]⟩,1⟩=zBs ⟨5,0,0,⟨#[]⟩,3⟩ [⟨0,0,0,⟨#[]⟩,0⟩,⟨4,0,0,⟨#[]⟩,1⟩] 1:=by kernel_rfl
theorem aw3:zAw (handH (buildM 2 0 1 awF)) 18 ⟨2,1,1,⟨#[]⟩,0⟩ ⟨0,0,0,⟨#[]⟩,0⟩=ndErr ⟨#[97,116,116,101,109,112,116,32,116,111,32,99,111,109,112,97,114,101,32,110,105,108,32,119,105,116,104,32,110,117,109,98,101,114]⟩:=by kernel_rfl
theorem aw4:unaryM (handH (buildM 2 0 1 awF)) 20 ⟨3,0,0,⟨#[51]⟩,0⟩=ndVal ⟨2, -3,1,⟨#[]⟩,0⟩:=by kernel_rfl
theorem aw5:nameM 5=⟨#[47,47]⟩:=by kernel_rfl
theorem aw6:zBK 19=⟨#[95,95,108,101]⟩:=by kernel_rfl
theorem aw_wf:∀f∈awF,FdWf f:=by
 intro f hf
 rcases List.mem_cons.1 hf with rfl|hf
 ·exact⟨zBb rfl,zBb rfl,zBb rfl,zBb rfl,zBb rfl,Nat.zero_le _,zBb rfl⟩
 ·rcases List.mem_cons.1 hf with rfl|hf
  ·exact⟨zBb rfl,zBb rfl,zBb rfl,zBb rfl,zBb rfl,Nat.zero_le _,zBb rfl⟩
  ·cases hf
theorem aw_cells {W:World} {b:Nat} (h:W.heap[b]? =some (.cells #[.int .i64 0,.int .i64 2,.int .i64 0,.string ⟨#[95,95,97,100,100]⟩,.int .i64 5,.int .i64 0,.int .i64 0,.string ⟨#[]⟩,.int .i64 3,.int .i64 1,.int .i64 1,.int .i64 2,.string ⟨#[]⟩,.int .i64 0,.int .i64 0,.int .i64 0,.string ⟨#[]⟩,.int .i64 0] 66)):∀k f,awF[k]? =some f→∀j c,f.cells[j]? =some c→W.cell? ⟨b,0+k*9+j,none⟩=some c:=by
 intro k f hf j c hc
 rw[zAA h]
 have hj:j<9:=(List.getElem?_eq_some_iff.1 hc).1
 have e:∀i,(#[.int .i64 0,.int .i64 2,.int .i64 0,.string ⟨#[95,95,97,100,100]⟩,.int .i64 5,.int .i64 0,.int .i64 0,.string ⟨#[]⟩,.int .i64 3,.int .i64 1,.int .i64 1,.int .i64 2,.string ⟨#[]⟩,.int .i64 0,.int .i64 0,.int .i64 0,.string ⟨#[]⟩,.int .i64 0]:Array Value)[i]? =(Fd.cells (⟨0,2,0,⟨#[95,95,97,100,100]⟩,⟨5,0,0,⟨#[]⟩,3⟩⟩:Fd)++Fd.cells (⟨1,1,2,⟨#[]⟩,V.nil⟩:Fd))[i]? :=fun i=>Array.getElem?_toList.symm
 rw[e]
 have hk:k=0∨k=1:=by
  have:=(List.getElem?_eq_some_iff.1 hf).1
  have h2:awF.length=2:=rfl
  omega
 rcases hk with rfl|rfl
 ·injection hf with hf
  subst hf
  rw[List.getElem?_append_left (by show 0+0*9+j<9;omega),show 0+0*9+j=j by omega]
  exact hc
 ·injection hf with hf
  subst hf
  rw[List.getElem?_append_right (by show 9≤0+1*9+j;omega),show 0+1*9+j-(Fd.cells (⟨0,2,0,⟨#[95,95,97,100,100]⟩,⟨5,0,0,⟨#[]⟩,3⟩⟩:Fd)).length=j by show 0+1*9+j-9=j;omega]
  exact hc
theorem prj13a {c0 c1 c2 c3 c4 c5 c6 c7 c8 c9 c10 c11 c12 p:Prop} (h:c0∧c1∧c2∧c3∧c4∧c5∧c6∧c7∧c8∧c9∧c10∧c11∧c12∧Hid p):p:=h.2.2.2.2.2.2.2.2.2.2.2.2.2.out
theorem prj29a {c0 c1 c2 c3 c4 c5 c6 c7 c8 c9 c10 c11 c12 c13 c14 c15 c16 c17 c18 c19 c20 c21 c22 c23 c24 c25 c26 c27 c28 p:Prop} (h:c0∧c1∧c2∧c3∧c4∧c5∧c6∧c7∧c8∧c9∧c10∧c11∧c12∧c13∧c14∧c15∧c16∧c17∧c18∧c19∧c20∧c21∧c22∧c23∧c24∧c25∧c26∧c27∧c28∧Hid p):p:=h.2.2.2.2.2.2.2.2.2.2.2.2.2.2.2.2.2.2.2.2.2.2.2.2.2.2.2.2.2.out
theorem settle_one (v x:V):settleR 2 1 v x=x:=by
 unfold settleR
 rw[if_neg (by decide),if_neg (by decide),if_pos rfl]
theorem radd1_c (W:World) (x y:Int) (hx1: -4611686014132420609≤x) (hx2:x≤4611686014132420609) (hy1: -4611686014132420609≤y) (hy2:y≤4611686014132420609) (b1 b2:Nat) (p q p' q':Int) (c1:W.cell? ⟨b1,1,none⟩=some (.int .i64 q)) (c2:W.cell? ⟨b2,1,none⟩=some (.int .i64 q')) (c3:W.cell? ⟨b1,0,none⟩=some (.int .i64 p)) (c4:W.cell? ⟨b2,0,none⟩=some (.int .i64 p')) (a1:1≤q) (a2:q≤2147483647) (a3: -2147483647≤p) (a4:p≤2147483647) (b1':1≤q') (b2':q'≤2147483647) (b3': -2147483647≤p') (b4':p'≤2147483647):Calls Tryz.prog 200 #[x,y,.pointer (some ⟨b1,0,none⟩),.pointer (some ⟨b2,0,none⟩)] W (NumPost W (redN (x+y) (q*q'))):=by
 have l1:=World.block_lt_of_cell? _ _ c1
 have l2:=World.block_lt_of_cell? _ _ c2
 simp only[] at l1 l2
 have hqq:=zAd (show-2147483647≤q by omega) a2 (show-2147483647≤q' by omega) b2'
 have hq0:0<q*q':=Int.mul_pos (by omega) (by omega)
 have HA:=Lib.hid (zAe W (o2 0 0))
 go_enter Tryz.func200,Tryz.ntmps200
 go_wp2_with fail
 all_goals
  refine(reduce_c _ _ _ (by omega) (by omega) (by omega) (by omega) (by omega)).mono ?_
  rintro e w1 ⟨rfl,hb⟩
  obtain⟨hc,hf⟩:=bcell hb
  have hz:=hb.size
  simp at hz
  have HB:=hbn HA.out hb
  clear hb
  go_wp2
  refine bodyPost_ret (by simp[results,Tryz.results200,go_sem,hc];first|done|rfl) rfl ?_
  exact zAu (zAD HB.out (Nat.le_refl _) _ _)
theorem rsub1_c (W:World) (x y:Int) (hx1: -4611686014132420609≤x) (hx2:x≤4611686014132420609) (hy1: -4611686014132420609≤y) (hy2:y≤4611686014132420609) (b1 b2:Nat) (p q p' q':Int) (c1:W.cell? ⟨b1,1,none⟩=some (.int .i64 q)) (c2:W.cell? ⟨b2,1,none⟩=some (.int .i64 q')) (c3:W.cell? ⟨b1,0,none⟩=some (.int .i64 p)) (c4:W.cell? ⟨b2,0,none⟩=some (.int .i64 p')) (a1:1≤q) (a2:q≤2147483647) (a3: -2147483647≤p) (a4:p≤2147483647) (b1':1≤q') (b2':q'≤2147483647) (b3': -2147483647≤p') (b4':p'≤2147483647):Calls Tryz.prog 202 #[x,y,.pointer (some ⟨b1,0,none⟩),.pointer (some ⟨b2,0,none⟩)] W (NumPost W (redN (x-y) (q*q'))):=by
 have l1:=World.block_lt_of_cell? _ _ c1
 have l2:=World.block_lt_of_cell? _ _ c2
 simp only[] at l1 l2
 have hqq:=zAd (show-2147483647≤q by omega) a2 (show-2147483647≤q' by omega) b2'
 have hq0:0<q*q':=Int.mul_pos (by omega) (by omega)
 have HA:=Lib.hid (zAe W (o2 0 0))
 go_enter Tryz.func202,Tryz.ntmps202
 go_wp2_with fail
 all_goals
  refine(reduce_c _ _ _ (by omega) (by omega) (by omega) (by omega) (by omega)).mono ?_
  rintro e w1 ⟨rfl,hb⟩
  obtain⟨hc,hf⟩:=bcell hb
  have hz:=hb.size
  simp at hz
  have HB:=hbn HA.out hb
  clear hb
  go_wp2
  refine bodyPost_ret (by simp[results,Tryz.results202,go_sem,hc];first|done|rfl) rfl ?_
  exact zAu (zAD HB.out (Nat.le_refl _) _ _)
theorem rmul1_c (W:World) (x y:Int) (b1 b2:Nat) (p q p' q':Int) (c1:W.cell? ⟨b1,1,none⟩=some (.int .i64 q)) (c2:W.cell? ⟨b2,1,none⟩=some (.int .i64 q')) (c3:W.cell? ⟨b1,0,none⟩=some (.int .i64 p)) (c4:W.cell? ⟨b2,0,none⟩=some (.int .i64 p')) (a1:1≤q) (a2:q≤2147483647) (a3: -2147483647≤p) (a4:p≤2147483647) (b1':1≤q') (b2':q'≤2147483647) (b3': -2147483647≤p') (b4':p'≤2147483647):Calls Tryz.prog 203 #[x,y,.pointer (some ⟨b1,0,none⟩),.pointer (some ⟨b2,0,none⟩)] W (NumPost W (redN (p*p') (q*q'))):=by
 have l1:=World.block_lt_of_cell? _ _ c1
 have l2:=World.block_lt_of_cell? _ _ c2
 simp only[] at l1 l2
 have hqq:=zAd (show-2147483647≤q by omega) a2 (show-2147483647≤q' by omega) b2'
 have hq0:0<q*q':=Int.mul_pos (by omega) (by omega)
 have hpp:=zAd a3 a4 b3' b4'
 have HA:=Lib.hid (zAe W (o2 0 0))
 go_enter Tryz.func203,Tryz.ntmps203
 go_wp2_with fail
 all_goals
  refine(reduce_c _ _ _ (by omega) (by omega) (by omega) (by omega) (by omega)).mono ?_
  rintro e w1 ⟨rfl,hb⟩
  obtain⟨hc,hf⟩:=bcell hb
  have hz:=hb.size
  simp at hz
  have HB:=hbn HA.out hb
  clear hb
  go_wp2
  refine bodyPost_ret (by simp[results,Tryz.results203,go_sem,hc];first|done|rfl) rfl ?_
  exact zAu (zAD HB.out (Nat.le_refl _) _ _)
theorem rdiv1_c (W:World) (x y:Int) (hx1: -4611686014132420609≤x) (hx2:x≤4611686014132420609) (hy1: -4611686014132420609≤y) (hy2:y≤4611686014132420609):Calls Tryz.prog 204 #[.int .i64 x,.int .i64 y] W (NumPost W (if y=0 then .error 7 else redN x y:RR)):=by
 by_cases h0:y=0
 ·subst h0
  have HA:=Lib.hid (zAe W (o2 0 0))
  go_enter Tryz.func204,Tryz.ntmps204
  go_wp2
  refine bodyPost_ret (by simp[results,Tryz.results204,go_sem];first|done|rfl) rfl ?_
  exact zAV (c:=7) rfl HA.out
 have ty:(y==0)=false:=by rw[beq_eq_false_iff_ne];exact h0
 rw[show(if y=0 then .error 7 else redN x y:RR)=redN x y from if_neg h0]
 have HA:=Lib.hid (zAe W (o2 0 0))
 go_enter Tryz.func204,Tryz.ntmps204
 go_wp2_with fail
 all_goals
  refine(reduce_c _ _ _ (by omega) (by omega) (by omega) (by omega) h0).mono ?_
  rintro e w1 ⟨rfl,hb⟩
  obtain⟨hc,hf⟩:=bcell hb
  have hz:=hb.size
  simp at hz
  have HB:=hbn HA.out hb
  clear hb
  go_wp2
  refine bodyPost_ret (by simp[results,Tryz.results204,go_sem,hc];first|done|rfl) rfl ?_
  exact zAu (zAD HB.out (Nat.le_refl _) _ _)
theorem rquot1_c (W:World) (x y:Int) (hx1: -4611686014132420609≤x) (hx2:x≤4611686014132420609) (hy1: -4611686014132420609≤y) (hy2:y≤4611686014132420609):Calls Tryz.prog 205 #[.int .i64 x,.int .i64 y] W (NumPost W (if y=0 then .error 7 else intN (Int.fdiv x y):RR)):=by
 by_cases h0:y=0
 ·subst h0
  have HA:=Lib.hid (zAe W (o2 0 0))
  go_enter Tryz.func205,Tryz.ntmps205
  go_wp2
  refine bodyPost_ret (by simp[results,Tryz.results205,go_sem];first|done|rfl) rfl ?_
  exact zAV (c:=7) rfl HA.out
 have ty:(y==0)=false:=by rw[beq_eq_false_iff_ne];exact h0
 rw[show(if y=0 then .error 7 else intN (Int.fdiv x y):RR)=intN (Int.fdiv x y) from if_neg h0]
 have HA:=Lib.hid (zAe W (o2 0 0))
 go_enter Tryz.func205,Tryz.ntmps205
 go_wp2_with fail
 all_goals
  refine(rfloor_c _ _ _ (by omega) (by omega) (by omega) (by omega) h0).mono ?_
  rintro e w0 ⟨rfl,n,rfl⟩
  have HD:=Lib.hid (below_drewN HA.out n)
  clear HA
  have HA:=HD
  clear HD
  go_wp2_with fail
  refine(rint_c _ _).mono ?_
  rintro e w1 ⟨rfl,hb⟩
  obtain⟨hc,hf⟩:=bcell hb
  have hz:=hb.size
  simp at hz
  have HB:=hbn HA.out hb
  clear hb
  go_wp2
  refine bodyPost_ret (by simp[results,Tryz.results205,go_sem,hc];first|done|rfl) rfl ?_
  exact zAu (zAD HB.out (Nat.le_refl _) _ _)
theorem rmod1_c (W:World) (x y:Int) (hx1: -4611686014132420609≤x) (hx2:x≤4611686014132420609) (hy1: -4611686014132420609≤y) (hy2:y≤4611686014132420609) (b1 b2:Nat) (p q p' q':Int) (c1:W.cell? ⟨b1,1,none⟩=some (.int .i64 q)) (c2:W.cell? ⟨b2,1,none⟩=some (.int .i64 q')) (c3:W.cell? ⟨b1,0,none⟩=some (.int .i64 p)) (c4:W.cell? ⟨b2,0,none⟩=some (.int .i64 p')) (a1:1≤q) (a2:q≤2147483647) (a3: -2147483647≤p) (a4:p≤2147483647) (b1':1≤q') (b2':q'≤2147483647) (b3': -2147483647≤p') (b4':p'≤2147483647):Calls Tryz.prog 208 #[x,y,.pointer (some ⟨b1,0,none⟩),.pointer (some ⟨b2,0,none⟩)] W (NumPost W (if y=0 then .error 7 else redN (Int.fmod x y) (q*q'):RR)):=by
 have l1:=World.block_lt_of_cell? _ _ c1
 have l2:=World.block_lt_of_cell? _ _ c2
 simp only[] at l1 l2
 have hqq:=zAd (show-2147483647≤q by omega) a2 (show-2147483647≤q' by omega) b2'
 have hq0:0<q*q':=Int.mul_pos (by omega) (by omega)
 by_cases h0:y=0
 ·subst h0
  have HA:=Lib.hid (zAe W (o2 0 0))
  go_enter Tryz.func208,Tryz.ntmps208
  go_wp2
  refine bodyPost_ret (by simp[results,Tryz.results208,go_sem];first|done|rfl) rfl ?_
  exact zAV (c:=7) rfl HA.out
 have ty:(y==0)=false:=by rw[beq_eq_false_iff_ne];exact h0
 rw[show(if y=0 then .error 7 else redN (Int.fmod x y) (q*q'):RR)=redN (Int.fmod x y) (q*q') from if_neg h0]
 have HA:=Lib.hid (zAe W (o2 0 0))
 go_enter Tryz.func208,Tryz.ntmps208
 go_wp2_with fail
 all_goals
  have hfm:=fmod_bounds (x:=x) h0
  refine(rfloor_c _ _ _ (by omega) (by omega) (by omega) (by omega) h0).mono ?_
  rintro e w0 ⟨rfl,n,rfl⟩
  have HD:=Lib.hid (below_drewN HA.out n)
  clear HA
  have HA:=HD
  clear HD
  go_wp2_with fail
  refine(reduce_c _ _ _ (by omega) (by omega) (by omega) (by omega) (by omega)).mono ?_
  rintro e w1 ⟨rfl,hb⟩
  obtain⟨hc,hf⟩:=bcell hb
  have hz:=hb.size
  simp at hz
  have HB:=hbn HA.out hb
  clear hb
  go_wp2
  refine bodyPost_ret (by simp[results,Tryz.results208,go_sem,hc];first|done|rfl) rfl ?_
  exact zAu (zAD HB.out (Nat.le_refl _) _ _)
theorem radd_c (w:World) (p q p' q':Int):Calls Tryz.prog 145 #[.agg #[p,q],.agg #[p',q']] w (NumPost w (addN (p,q) (p',q'))):=by
 have HA:=Lib.hid (zAL w (o2 p q) (o2 p' q') (o2 0 0))
 obtain⟨R,hR⟩:∃R,R=addN (p,q) (p',q'):=⟨_,rfl⟩
 rw[←hR]
 have HW:=Lib.hid (show Calls Tryz.prog 199 #[.agg #[p,q],.agg #[p',q'],.func (.func 200) #[] #[.pointer (some ⟨w.heap.size,0,none⟩),.pointer (some ⟨w.heap.size+1,0,none⟩)]] (((w.alloc (o2 p q)).alloc (o2 p' q')).alloc (o2 0 0)) (NumPost (((w.alloc (o2 p q)).alloc (o2 p' q')).alloc (o2 0 0)) R) from by
  rw[hR]
  exact rwith_c (((w.alloc (o2 p q)).alloc (o2 p' q')).alloc (o2 0 0)) p q p' q' 200 #[.pointer (some ⟨w.heap.size,0,none⟩),.pointer (some ⟨w.heap.size+1,0,none⟩)] (fun args w=>by kernel_rfl) (redN (p*q'+p'*q) (q*q')) (fun hv hv2 W hW=>by
   have hb1:=zAN hv
   have hb2:=zAN hv2
   simp only[] at hb1 hb2
   obtain⟨a1,a2,a3,a4⟩:=hb1
   obtain⟨b1,b2,b3,b4⟩:=hb2
   have m1:=zAd a3 a4 (show-2147483647≤q' by omega) b2
   have m2:=zAd b3 b4 (show-2147483647≤q by omega) a2
   have k0:W.cell? ⟨w.heap.size,0,none⟩=some (.int .i64 p):=by rw[(bcell hW).1 _ _ (by simp;omega)];simp[go_sem]
   have k1:W.cell? ⟨w.heap.size,1,none⟩=some (.int .i64 q):=by rw[(bcell hW).1 _ _ (by simp;omega)];simp[go_sem]
   have k2:W.cell? ⟨w.heap.size+1,0,none⟩=some (.int .i64 p'):=by rw[(bcell hW).1 _ _ (by simp)];simp[go_sem]
   have k3:W.cell? ⟨w.heap.size+1,1,none⟩=some (.int .i64 q'):=by rw[(bcell hW).1 _ _ (by simp)];simp[go_sem]
   exact radd1_c W _ _ m1.1 m1.2 m2.1 m2.2 _ _ p q p' q' k1 k3 k0 k2 a1 a2 a3 a4 b1 b2 b3 b4))
 clear hR
 go_enter Tryz.func145,Tryz.ntmps145
 go_wp2_with fail
 refine HW.out.mono ?_
 rintro e w1 ⟨rfl,hb⟩
 obtain⟨hc,hf⟩:=bcell hb
 have hz:=hb.size
 simp at hz
 have HB:=hbn HA.out hb
 clear hb
 go_wp2
 refine bodyPost_ret (by simp[results,Tryz.results145,go_sem,hc];first|done|rfl) rfl ?_
 refine zAu (zAD HB.out ?_ _ _)
 omega
theorem rsub_c (w:World) (p q p' q':Int):Calls Tryz.prog 146 #[.agg #[p,q],.agg #[p',q']] w (NumPost w (subN (p,q) (p',q'))):=by
 have HA:=Lib.hid (zAL w (o2 p q) (o2 p' q') (o2 0 0))
 obtain⟨R,hR⟩:∃R,R=subN (p,q) (p',q'):=⟨_,rfl⟩
 rw[←hR]
 have HW:=Lib.hid (show Calls Tryz.prog 199 #[.agg #[p,q],.agg #[p',q'],.func (.func 202) #[] #[.pointer (some ⟨w.heap.size,0,none⟩),.pointer (some ⟨w.heap.size+1,0,none⟩)]] (((w.alloc (o2 p q)).alloc (o2 p' q')).alloc (o2 0 0)) (NumPost (((w.alloc (o2 p q)).alloc (o2 p' q')).alloc (o2 0 0)) R) from by
  rw[hR]
  exact rwith_c (((w.alloc (o2 p q)).alloc (o2 p' q')).alloc (o2 0 0)) p q p' q' 202 #[.pointer (some ⟨w.heap.size,0,none⟩),.pointer (some ⟨w.heap.size+1,0,none⟩)] (fun args w=>by kernel_rfl) (redN (p*q'-p'*q) (q*q')) (fun hv hv2 W hW=>by
   have hb1:=zAN hv
   have hb2:=zAN hv2
   simp only[] at hb1 hb2
   obtain⟨a1,a2,a3,a4⟩:=hb1
   obtain⟨b1,b2,b3,b4⟩:=hb2
   have m1:=zAd a3 a4 (show-2147483647≤q' by omega) b2
   have m2:=zAd b3 b4 (show-2147483647≤q by omega) a2
   have k0:W.cell? ⟨w.heap.size,0,none⟩=some (.int .i64 p):=by rw[(bcell hW).1 _ _ (by simp;omega)];simp[go_sem]
   have k1:W.cell? ⟨w.heap.size,1,none⟩=some (.int .i64 q):=by rw[(bcell hW).1 _ _ (by simp;omega)];simp[go_sem]
   have k2:W.cell? ⟨w.heap.size+1,0,none⟩=some (.int .i64 p'):=by rw[(bcell hW).1 _ _ (by simp)];simp[go_sem]
   have k3:W.cell? ⟨w.heap.size+1,1,none⟩=some (.int .i64 q'):=by rw[(bcell hW).1 _ _ (by simp)];simp[go_sem]
   exact rsub1_c W _ _ m1.1 m1.2 m2.1 m2.2 _ _ p q p' q' k1 k3 k0 k2 a1 a2 a3 a4 b1 b2 b3 b4))
 clear hR
 go_enter Tryz.func146,Tryz.ntmps146
 go_wp2_with fail
 refine HW.out.mono ?_
 rintro e w1 ⟨rfl,hb⟩
 obtain⟨hc,hf⟩:=bcell hb
 have hz:=hb.size
 simp at hz
 have HB:=hbn HA.out hb
 clear hb
 go_wp2
 refine bodyPost_ret (by simp[results,Tryz.results146,go_sem,hc];first|done|rfl) rfl ?_
 refine zAu (zAD HB.out ?_ _ _)
 omega
theorem rmul_c (w:World) (p q p' q':Int):Calls Tryz.prog 147 #[.agg #[p,q],.agg #[p',q']] w (NumPost w (mulN (p,q) (p',q'))):=by
 have HA:=Lib.hid (zAL w (o2 p q) (o2 p' q') (o2 0 0))
 obtain⟨R,hR⟩:∃R,R=mulN (p,q) (p',q'):=⟨_,rfl⟩
 rw[←hR]
 have HW:=Lib.hid (show Calls Tryz.prog 199 #[.agg #[p,q],.agg #[p',q'],.func (.func 203) #[] #[.pointer (some ⟨w.heap.size,0,none⟩),.pointer (some ⟨w.heap.size+1,0,none⟩)]] (((w.alloc (o2 p q)).alloc (o2 p' q')).alloc (o2 0 0)) (NumPost (((w.alloc (o2 p q)).alloc (o2 p' q')).alloc (o2 0 0)) R) from by
  rw[hR]
  exact rwith_c (((w.alloc (o2 p q)).alloc (o2 p' q')).alloc (o2 0 0)) p q p' q' 203 #[.pointer (some ⟨w.heap.size,0,none⟩),.pointer (some ⟨w.heap.size+1,0,none⟩)] (fun args w=>by kernel_rfl) (redN (p*p') (q*q')) (fun hv hv2 W hW=>by
   have hb1:=zAN hv
   have hb2:=zAN hv2
   simp only[] at hb1 hb2
   obtain⟨a1,a2,a3,a4⟩:=hb1
   obtain⟨b1,b2,b3,b4⟩:=hb2
   have m1:=zAd a3 a4 (show-2147483647≤q' by omega) b2
   have m2:=zAd b3 b4 (show-2147483647≤q by omega) a2
   have k0:W.cell? ⟨w.heap.size,0,none⟩=some (.int .i64 p):=by rw[(bcell hW).1 _ _ (by simp;omega)];simp[go_sem]
   have k1:W.cell? ⟨w.heap.size,1,none⟩=some (.int .i64 q):=by rw[(bcell hW).1 _ _ (by simp;omega)];simp[go_sem]
   have k2:W.cell? ⟨w.heap.size+1,0,none⟩=some (.int .i64 p'):=by rw[(bcell hW).1 _ _ (by simp)];simp[go_sem]
   have k3:W.cell? ⟨w.heap.size+1,1,none⟩=some (.int .i64 q'):=by rw[(bcell hW).1 _ _ (by simp)];simp[go_sem]
   exact rmul1_c W _ _ _ _ p q p' q' k1 k3 k0 k2 a1 a2 a3 a4 b1 b2 b3 b4))
 clear hR
 go_enter Tryz.func147,Tryz.ntmps147
 go_wp2_with fail
 refine HW.out.mono ?_
 rintro e w1 ⟨rfl,hb⟩
 obtain⟨hc,hf⟩:=bcell hb
 have hz:=hb.size
 simp at hz
 have HB:=hbn HA.out hb
 clear hb
 go_wp2
 refine bodyPost_ret (by simp[results,Tryz.results147,go_sem,hc];first|done|rfl) rfl ?_
 refine zAu (zAD HB.out ?_ _ _)
 omega
theorem rdiv_c (w:World) (p q p' q':Int):Calls Tryz.prog 148 #[.agg #[p,q],.agg #[p',q']] w (NumPost w (divN (p,q) (p',q'))):=by
 have HA:=Lib.hid (zAL w (o2 p q) (o2 p' q') (o2 0 0))
 obtain⟨R,hR⟩:∃R,R=divN (p,q) (p',q'):=⟨_,rfl⟩
 rw[←hR]
 have HW:=Lib.hid (show Calls Tryz.prog 199 #[.agg #[p,q],.agg #[p',q'],.func (.func 204) #[] #[]] (((w.alloc (o2 p q)).alloc (o2 p' q')).alloc (o2 0 0)) (NumPost (((w.alloc (o2 p q)).alloc (o2 p' q')).alloc (o2 0 0)) R) from by
  rw[hR]
  exact rwith_c (((w.alloc (o2 p q)).alloc (o2 p' q')).alloc (o2 0 0)) p q p' q' 204 #[] (fun args w=>by kernel_rfl) (if p'*q=0 then .error 7 else redN (p*q') (p'*q)) (fun hv hv2 W hW=>by
   have hb1:=zAN hv
   have hb2:=zAN hv2
   simp only[] at hb1 hb2
   obtain⟨a1,a2,a3,a4⟩:=hb1
   obtain⟨b1,b2,b3,b4⟩:=hb2
   have m1:=zAd a3 a4 (show-2147483647≤q' by omega) b2
   have m2:=zAd b3 b4 (show-2147483647≤q by omega) a2
   exact rdiv1_c W _ _ m1.1 m1.2 m2.1 m2.2))
 clear hR
 go_enter Tryz.func148,Tryz.ntmps148
 go_wp2_with fail
 refine HW.out.mono ?_
 rintro e w1 ⟨rfl,hb⟩
 obtain⟨hc,hf⟩:=bcell hb
 have hz:=hb.size
 simp at hz
 have HB:=hbn HA.out hb
 clear hb
 go_wp2
 refine bodyPost_ret (by simp[results,Tryz.results148,go_sem,hc];first|done|rfl) rfl ?_
 refine zAu (zAD HB.out ?_ _ _)
 omega
theorem rquot_c (w:World) (p q p' q':Int):Calls Tryz.prog 149 #[.agg #[p,q],.agg #[p',q']] w (NumPost w (quotN (p,q) (p',q'))):=by
 have HA:=Lib.hid (zAL w (o2 p q) (o2 p' q') (o2 0 0))
 obtain⟨R,hR⟩:∃R,R=quotN (p,q) (p',q'):=⟨_,rfl⟩
 rw[←hR]
 have HW:=Lib.hid (show Calls Tryz.prog 199 #[.agg #[p,q],.agg #[p',q'],.func (.func 205) #[] #[]] (((w.alloc (o2 p q)).alloc (o2 p' q')).alloc (o2 0 0)) (NumPost (((w.alloc (o2 p q)).alloc (o2 p' q')).alloc (o2 0 0)) R) from by
  rw[hR]
  exact rwith_c (((w.alloc (o2 p q)).alloc (o2 p' q')).alloc (o2 0 0)) p q p' q' 205 #[] (fun args w=>by kernel_rfl) (if p'*q=0 then .error 7 else intN (Int.fdiv (p*q') (p'*q))) (fun hv hv2 W hW=>by
   have hb1:=zAN hv
   have hb2:=zAN hv2
   simp only[] at hb1 hb2
   obtain⟨a1,a2,a3,a4⟩:=hb1
   obtain⟨b1,b2,b3,b4⟩:=hb2
   have m1:=zAd a3 a4 (show-2147483647≤q' by omega) b2
   have m2:=zAd b3 b4 (show-2147483647≤q by omega) a2
   exact rquot1_c W _ _ m1.1 m1.2 m2.1 m2.2))
 clear hR
 go_enter Tryz.func149,Tryz.ntmps149
 go_wp2_with fail
 refine HW.out.mono ?_
 rintro e w1 ⟨rfl,hb⟩
 obtain⟨hc,hf⟩:=bcell hb
 have hz:=hb.size
 simp at hz
 have HB:=hbn HA.out hb
 clear hb
 go_wp2
 refine bodyPost_ret (by simp[results,Tryz.results149,go_sem,hc];first|done|rfl) rfl ?_
 refine zAu (zAD HB.out ?_ _ _)
 omega
theorem rmod_c (w:World) (p q p' q':Int):Calls Tryz.prog 150 #[.agg #[p,q],.agg #[p',q']] w (NumPost w (modN (p,q) (p',q'))):=by
 have HA:=Lib.hid (zAL w (o2 p q) (o2 p' q') (o2 0 0))
 obtain⟨R,hR⟩:∃R,R=modN (p,q) (p',q'):=⟨_,rfl⟩
 rw[←hR]
 have HW:=Lib.hid (show Calls Tryz.prog 199 #[.agg #[p,q],.agg #[p',q'],.func (.func 208) #[] #[.pointer (some ⟨w.heap.size,0,none⟩),.pointer (some ⟨w.heap.size+1,0,none⟩)]] (((w.alloc (o2 p q)).alloc (o2 p' q')).alloc (o2 0 0)) (NumPost (((w.alloc (o2 p q)).alloc (o2 p' q')).alloc (o2 0 0)) R) from by
  rw[hR]
  exact rwith_c (((w.alloc (o2 p q)).alloc (o2 p' q')).alloc (o2 0 0)) p q p' q' 208 #[.pointer (some ⟨w.heap.size,0,none⟩),.pointer (some ⟨w.heap.size+1,0,none⟩)] (fun args w=>by kernel_rfl) (if p'*q=0 then .error 7 else redN (Int.fmod (p*q') (p'*q)) (q*q')) (fun hv hv2 W hW=>by
   have hb1:=zAN hv
   have hb2:=zAN hv2
   simp only[] at hb1 hb2
   obtain⟨a1,a2,a3,a4⟩:=hb1
   obtain⟨b1,b2,b3,b4⟩:=hb2
   have m1:=zAd a3 a4 (show-2147483647≤q' by omega) b2
   have m2:=zAd b3 b4 (show-2147483647≤q by omega) a2
   have k0:W.cell? ⟨w.heap.size,0,none⟩=some (.int .i64 p):=by rw[(bcell hW).1 _ _ (by simp;omega)];simp[go_sem]
   have k1:W.cell? ⟨w.heap.size,1,none⟩=some (.int .i64 q):=by rw[(bcell hW).1 _ _ (by simp;omega)];simp[go_sem]
   have k2:W.cell? ⟨w.heap.size+1,0,none⟩=some (.int .i64 p'):=by rw[(bcell hW).1 _ _ (by simp)];simp[go_sem]
   have k3:W.cell? ⟨w.heap.size+1,1,none⟩=some (.int .i64 q'):=by rw[(bcell hW).1 _ _ (by simp)];simp[go_sem]
   exact rmod1_c W _ _ m1.1 m1.2 m2.1 m2.2 _ _ p q p' q' k1 k3 k0 k2 a1 a2 a3 a4 b1 b2 b3 b4))
 clear hR
 go_enter Tryz.func150,Tryz.ntmps150
 go_wp2_with fail
 refine HW.out.mono ?_
 rintro e w1 ⟨rfl,hb⟩
 obtain⟨hc,hf⟩:=bcell hb
 have hz:=hb.size
 simp at hz
 have HB:=hbn HA.out hb
 clear hb
 go_wp2
 refine bodyPost_ret (by simp[results,Tryz.results150,go_sem,hc];first|done|rfl) rfl ?_
 refine zAu (zAD HB.out ?_ _ _)
 omega
theorem pSettled_ok (w:World) (ho:Option Addr) (o:Int) (vk vp vq:Int) (vs:ByteArray) (vr:Int) (c:Int) (base g:Nat) (hbase:base≤g) (k1 p1 q1:Int) (s1:ByteArray) (r1:Int) (k2 p2 q2:Int) (s2:ByteArray) (r2:Int) (hg:w.heap[g]? =some (.cells #[k1,p1,q1,s1,r1,k2,p2,q2,s2,r2] 25)) (h0:(c==0)=true):Calls Tryz.prog 74 #[.pointer ho,o,.agg #[vk,vp,vq,vs,vr],c,.slice (some ⟨g,0,none⟩) 2 2] w (NdB w base (ndVal ⟨vk,vp,vq,vs,vr⟩)):=by
 clear hg
 go_enter Tryz.func74,Tryz.ntmps74
 go_wp2_with fail
 refine(pIs_c _ _ _ _ _ _).mono ?_
 rintro e w1 ⟨av,rfl,hA,hb⟩
 obtain⟨ao,an,ac,rfl⟩:=hA.shape
 have HA:=Lib.hid hA
 clear hA
 have Hu1:=hkh hb (zAW _ _ _)
 have HW1:=hbn (zAF _ _ _) hb
 have hz1:=hb.size
 try simp at hz1
 clear hb
 have hyu:w.heap.size+1<w1.heap.size:=hsz Hu1
 obtain⟨u0,u1,u2,u3,u4,u5,u6,u7,u8,u9,u10,u11,u12,u13⟩:=cells14 Hu1.out
 obtain⟨fu0,fu1,fu2,fu3,fu4,fu5,fu6,fu7,fu8,fu9,fu10,fu11,fu12,fu13⟩:=froz14 Hu1.out
 go_wp2
 refine bodyPost_ret (by simp[results,Tryz.results74,go_sem,hyu,u0,u1,u2,u3,u4,u5,u6,u7,u8,u9,u10,u11,u12,u13];first|done|rfl) rfl ?_
 exact ndb_nil (r:=w.heap.size+1) rfl HW1.out HA.out (by omega) (zAM (F:=fun b=>b=w.heap.size+1) (Mods.refl _ _) (.inl rfl) _ _ _ _ _ _ _ _ _ _ _ _ _ _)
theorem pSettled_zero (w:World) (ho:Option Addr) (o:Int) (vk vp vq:Int) (vs:ByteArray) (vr:Int) (c:Int) (base g:Nat) (hbase:base≤g) (k1 p1 q1:Int) (s1:ByteArray) (r1:Int) (k2 p2 q2:Int) (s2:ByteArray) (r2:Int) (hg:w.heap[g]? =some (.cells #[k1,p1,q1,s1,r1,k2,p2,q2,s2,r2] 25)) (h0:(c==0)=false) (h1:(c==7)=true):Calls Tryz.prog 74 #[.pointer ho,o,.agg #[vk,vp,vq,vs,vr],c,.slice (some ⟨g,0,none⟩) 2 2] w (NdB w base (ndErr sZero)):=by
 clear hg
 go_enter Tryz.func74,Tryz.ntmps74
 go_wp2_with fail
 refine(zCC _ _).mono ?_
 rintro e w1 ⟨av,rfl,hA,hb⟩
 obtain⟨ao,an,ac,rfl⟩:=hA.shape
 have HA:=Lib.hid hA
 clear hA
 have Hu1:=hkh hb (zAW _ _ _)
 have HW1:=hbn (zAF _ _ _) hb
 have hz1:=hb.size
 try simp at hz1
 clear hb
 have hyu:w.heap.size+1<w1.heap.size:=hsz Hu1
 obtain⟨u0,u1,u2,u3,u4,u5,u6,u7,u8,u9,u10,u11,u12,u13⟩:=cells14 Hu1.out
 obtain⟨fu0,fu1,fu2,fu3,fu4,fu5,fu6,fu7,fu8,fu9,fu10,fu11,fu12,fu13⟩:=froz14 Hu1.out
 go_wp2
 refine bodyPost_ret (by simp[results,Tryz.results74,go_sem,hyu,u0,u1,u2,u3,u4,u5,u6,u7,u8,u9,u10,u11,u12,u13];first|done|rfl) rfl ?_
 exact ndb_nil (r:=w.heap.size+1) rfl HW1.out HA.out (by omega) (zAM (F:=fun b=>b=w.heap.size+1) (Mods.refl _ _) (.inl rfl) _ _ _ _ _ _ _ _ _ _ _ _ _ _)
theorem pSettled_range (w:World) (ho:Option Addr) (o:Int) (vk vp vq:Int) (vs:ByteArray) (vr:Int) (c:Int) (base g:Nat) (hbase:base≤g) (k1 p1 q1:Int) (s1:ByteArray) (r1:Int) (k2 p2 q2:Int) (s2:ByteArray) (r2:Int) (hg:w.heap[g]? =some (.cells #[k1,p1,q1,s1,r1,k2,p2,q2,s2,r2] 25)) (h0:(c==0)=false) (h1:(c==7)=false) (h2:(c==6)=true):Calls Tryz.prog 74 #[.pointer ho,o,.agg #[vk,vp,vq,vs,vr],c,.slice (some ⟨g,0,none⟩) 2 2] w (NdB w base (ndErr sRange)):=by
 clear hg
 go_enter Tryz.func74,Tryz.ntmps74
 go_wp2_with fail
 refine(zCC _ _).mono ?_
 rintro e w1 ⟨av,rfl,hA,hb⟩
 obtain⟨ao,an,ac,rfl⟩:=hA.shape
 have HA:=Lib.hid hA
 clear hA
 have Hu1:=hkh hb (zAW _ _ _)
 have HW1:=hbn (zAF _ _ _) hb
 have hz1:=hb.size
 try simp at hz1
 clear hb
 have hyu:w.heap.size+1<w1.heap.size:=hsz Hu1
 obtain⟨u0,u1,u2,u3,u4,u5,u6,u7,u8,u9,u10,u11,u12,u13⟩:=cells14 Hu1.out
 obtain⟨fu0,fu1,fu2,fu3,fu4,fu5,fu6,fu7,fu8,fu9,fu10,fu11,fu12,fu13⟩:=froz14 Hu1.out
 go_wp2
 refine bodyPost_ret (by simp[results,Tryz.results74,go_sem,hyu,u0,u1,u2,u3,u4,u5,u6,u7,u8,u9,u10,u11,u12,u13];first|done|rfl) rfl ?_
 exact ndb_nil (r:=w.heap.size+1) rfl HW1.out HA.out (by omega) (zAM (F:=fun b=>b=w.heap.size+1) (Mods.refl _ _) (.inl rfl) _ _ _ _ _ _ _ _ _ _ _ _ _ _)
theorem pSettled_long (w:World) (ho:Option Addr) (o:Int) (vk vp vq:Int) (vs:ByteArray) (vr:Int) (c:Int) (base g:Nat) (hbase:base≤g) (k1 p1 q1:Int) (s1:ByteArray) (r1:Int) (k2 p2 q2:Int) (s2:ByteArray) (r2:Int) (hg:w.heap[g]? =some (.cells #[k1,p1,q1,s1,r1,k2,p2,q2,s2,r2] 25)) (h0:(c==0)=false) (h1:(c==7)=false) (h2:(c==6)=false) (h3:(c==14)=true):Calls Tryz.prog 74 #[.pointer ho,o,.agg #[vk,vp,vq,vs,vr],c,.slice (some ⟨g,0,none⟩) 2 2] w (NdB w base (ndErr sLong)):=by
 clear hg
 go_enter Tryz.func74,Tryz.ntmps74
 go_wp2_with fail
 refine(zCC _ _).mono ?_
 rintro e w1 ⟨av,rfl,hA,hb⟩
 obtain⟨ao,an,ac,rfl⟩:=hA.shape
 have HA:=Lib.hid hA
 clear hA
 have Hu1:=hkh hb (zAW _ _ _)
 have HW1:=hbn (zAF _ _ _) hb
 have hz1:=hb.size
 try simp at hz1
 clear hb
 have hyu:w.heap.size+1<w1.heap.size:=hsz Hu1
 obtain⟨u0,u1,u2,u3,u4,u5,u6,u7,u8,u9,u10,u11,u12,u13⟩:=cells14 Hu1.out
 obtain⟨fu0,fu1,fu2,fu3,fu4,fu5,fu6,fu7,fu8,fu9,fu10,fu11,fu12,fu13⟩:=froz14 Hu1.out
 go_wp2
 refine bodyPost_ret (by simp[results,Tryz.results74,go_sem,hyu,u0,u1,u2,u3,u4,u5,u6,u7,u8,u9,u10,u11,u12,u13];first|done|rfl) rfl ?_
 exact ndb_nil (r:=w.heap.size+1) rfl HW1.out HA.out (by omega) (zAM (F:=fun b=>b=w.heap.size+1) (Mods.refl _ _) (.inl rfl) _ _ _ _ _ _ _ _ _ _ _ _ _ _)
end Go.Proofs.YthkpckgcgkijbaaGreatDoor
