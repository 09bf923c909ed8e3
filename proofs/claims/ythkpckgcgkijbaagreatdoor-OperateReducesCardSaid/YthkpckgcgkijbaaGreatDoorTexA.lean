import Derived.Test.YthkpckgcgkijbaaGreatDoorValB
set_option linter.unusedVariables false
set_option linter.unusedSimpArgs false
set_option maxRecDepth 100000
set_option maxHeartbeats 2000000
namespace Go.Proofs.YthkpckgcgkijbaaGreatDoor
open Go.RowKit Go.Proofs.Lexi
def bv (c:UInt8):Value:= .int .u8 (c.toNat:Int)
end Go.Proofs.YthkpckgcgkijbaaGreatDoor
namespace Go.Proofs.YthkpckgcgkijbaaGreatDoor
open Go.ChangeShapes Go.WideShapes Go.ChangeAt Go.WideMaps Go.WideElems Go.RowKit
section
variable {H : Type} {enc : TypeId × Value → H} {P : Program} {w : World} {base : Nat} {sp : Nat → Bool} {held : Bool}
theorem under_struct {t:TypeId} {l:List (TypeId×Nat)} (h:(match P.underlying t with|some (.struct fs)=>decide (fs.toList.map (fun f=>(f.type,f.offset))=l)|_=>false)=true):∃fs,P.underlying t=some (.struct fs)∧fs.toList.map (fun f=>(f.type,f.offset))=l:=by
 split at h
 ·rename_i fs hfs;exact⟨fs,hfs,of_decide_eq_true h⟩
 ·cases h
theorem trod_field {t:TypeId} {l:List (TypeId×Nat)} (hs:∃fs,P.underlying t=some (.struct fs)∧fs.toList.map (fun f=>(f.type,f.offset))=l) {fuel:Nat} {cs:List Value} {x:DataW H×List MemPlace} (h:DataW.trod enc P w base sp held fuel t cs=some x):
  cs.length=P.cellsOf t∧∃n,∀(i:Nat) (ty:TypeId) (off:Nat),l[i]? =some (ty,off)→∃y,DataW.trod enc P w base sp held n ty ((cs.drop off).take (P.cellsOf ty))=some y:=by
 obtain⟨fs,hf,rfl⟩:=hs
 obtain⟨xs,n,_,_,hl,hlen,hx⟩:=DataW.trod_struct hf h
 refine⟨hl,n,fun i ty off hi=> ?_⟩
 rw[List.getElem?_map,Option.map_eq_some_iff] at hi
 obtain⟨f,hf1,hf2⟩:=hi
 have hf1':fs[i]? =some f:=by simpa using hf1
 have:=hx i f hf1'
 injection hf2 with e1 e2
 subst e1 e2
 have hi':i<xs.length:=by rw[hlen];exact(Array.getElem?_eq_some_iff.1 hf1').1
 exact⟨xs[i],by rw[this];exact List.getElem?_eq_getElem hi'⟩
end
theorem i64_of_wf {n:Int} (h:(Lit.int .i64 n).wf=true):i64 n:=by
 have h2:(decide ((-9223372036854775808:Int)≤n)&&decide (n≤(9223372036854775807:Int)))=true:=h
 rw[Bool.and_eq_true,decide_eq_true_eq,decide_eq_true_eq] at h2
 exact h2
theorem shape25:∃fs,Tryz.prog.underlying 25=some (.struct fs)∧fs.toList.map (fun f=>(f.type,f.offset))=[(3,0),(23,1),(9,3),(3,4)]:=under_struct (by kernel_rfl)
theorem shape23:∃fs,Tryz.prog.underlying 23=some (.struct fs)∧fs.toList.map (fun f=>(f.type,f.offset))=[(3,0),(3,1)]:=under_struct (by kernel_rfl)
theorem list_five {α:Type} {l:List α} (h:l.length=5):∃a b c d e,l=[a,b,c,d,e]:=by
 match l,h with
 |[a,b,c,d,e],_=>exact⟨a,b,c,d,e,rfl⟩
theorem open_cells {H:Type} {enc:TypeId×Value→H} {w:World} {base:Nat} {sp:Nat→Bool} {held:Bool} {fuel:Nat} {cs:List Value} {x:DataW H×List MemPlace} (h:DataW.trod enc Tryz.prog w base sp held fuel 25 cs=some x):
  ∃v:V,cs=[.int .i64 v.k,.int .i64 v.p,.int .i64 v.q,.string v.s,.int .i64 v.r]∧WfV v:=by
 obtain⟨hl,n,hf⟩:=trod_field shape25 h
 rw[cells25] at hl
 obtain⟨a,b,c,d,e,rfl⟩:=list_five hl
 obtain⟨y0,h0⟩:=hf 0 3 0 rfl
 obtain⟨y1,h1⟩:=hf 1 23 1 rfl
 obtain⟨y2,h2⟩:=hf 2 9 3 rfl
 obtain⟨y3,h3⟩:=hf 3 3 4 rfl
 rw[celT3] at h0 h3
 rw[cells23] at h1
 rw[celT9] at h2
 obtain⟨_,m,hg⟩:=trod_field shape23 h1
 obtain⟨z0,g0⟩:=hg 0 3 0 rfl
 obtain⟨z1,g1⟩:=hg 1 3 1 rfl
 rw[celT3] at g0 g1
 obtain⟨k,hk,_,wk⟩:=DataW.trod_int Tryz.underlying3 h0
 obtain⟨p,hp,_,wp⟩:=DataW.trod_int Tryz.underlying3 g0
 obtain⟨q,hq,_,wq⟩:=DataW.trod_int Tryz.underlying3 g1
 obtain⟨s,hs,_,ws⟩:=DataW.trod_string Tryz.underlying9 h2
 obtain⟨r,hr,_,wr⟩:=DataW.trod_int Tryz.underlying3 h3
 simp at hk hp hq hs hr
 exact⟨⟨k,p,q,s,r⟩,by rw[hk,hp,hq,hs,hr],⟨i64_of_wf wk,i64_of_wf wp,i64_of_wf wq,ws,i64_of_wf wr⟩⟩
theorem open_val {H:Type} {enc:TypeId×Value→H} {w:World} {b0:Nat} {sp:Nat→Bool} {v:Value} {d:DataW H} {ps:List MemPlace} (hval:Value.okWide Tryz.prog w .any b0 25 v) (h:DataW.Trod enc Tryz.prog w 0 sp true 25 v d ps):
  ∃x:V,v= .agg #[.int .i64 x.k,.int .i64 x.p,.int .i64 x.q,.string x.s,.int .i64 x.r]∧WfV x:=by
 obtain⟨fs,hfs,_⟩:=shape25
 obtain⟨cs,rfl,_,_⟩:∃cs,v= .agg cs∧cs.size=Tryz.prog.cellsOf 25∧Row.okWide Tryz.prog w .any b0 25 cs:=by
  unfold Value.okWide at hval
  rw[hfs] at hval
  exact hval
 obtain⟨fuel,h⟩:=h
 obtain⟨x,hx,hw⟩:=open_cells h
 refine⟨x,?_,hw⟩
 have:cs.toList=_:=hx
 rw[←Array.toList_inj.1 (show cs.toList=(#[.int .i64 x.k,.int .i64 x.p,.int .i64 x.q,.string x.s,.int .i64 x.r]:Array Value).toList from hx)]
theorem Tryz.laidOut:laidOutB Tryz.prog=true:=by kernel_rfl
end Go.Proofs.YthkpckgcgkijbaaGreatDoor
namespace Go.Proofs.YthkpckgcgkijbaaGreatDoor
open Go.ChangeShapes Go.WideShapes Go.ChangeAt Go.WideMaps Go.WideElems Go.RowKit
theorem cell_in {w:World} {a:Addr} {v:Value} (h:w.cell? a=some v):a.block<w.heap.size:=World.block_lt_of_cell? _ a h
end Go.Proofs.YthkpckgcgkijbaaGreatDoor
namespace Go.Proofs.YthkpckgcgkijbaaGreatDoor
open Go.RowKit Go.Proofs.Lexi
theorem zBR (w:World) (b:Bool):Calls Tryz.prog 48 #[.bool b] w (ValPost w (boolV b)):=by
 cases b
 all_goals
  go_enter Tryz.func48,Tryz.ntmps48
  go_wp2
  refine bodyPost_ret (by simp[results,Tryz.results48,go_sem];first|done|rfl) rfl ?_
  exact zAo rfl (zAe _ _)
theorem sTrue_c (w:World) (k p q:Int) (s:ByteArray) (r:Int):Calls Tryz.prog 50 #[.agg #[k,p,q,s,r]] w (BoolPost w (trueV ⟨k,p,q,s,r⟩)):=by
 obtain⟨R,hR⟩:∃R,R=trueV ⟨k,p,q,s,r⟩:=⟨_,rfl⟩
 rw[←hR]
 have HR:=Lib.hid hR
 clear hR
 go_enter Tryz.func50,Tryz.ntmps50
 go_wp2
 all_goals
  go_ret
  have h:=HR.out
  clear HR
  refine zBD ?_ (by first|exact zAe _ _|exact(zAe _ _).drew|exact below_drewN (zAe _ _) _)
  subst h
  simp_all[trueV,bne]
end Go.Proofs.YthkpckgcgkijbaaGreatDoor
