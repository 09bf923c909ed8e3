import Derived.Tactics
import Derived.Orders
import Derived.Laws.Sem
import Derived.Laws.Panics
import Derived.WalkKit
import Derived.Test.YthkpckgcgkijbaaGreatDoorProg
import Derived.KernelRfl
import Derived.Lib.Hide
import Derived.Lib.Strings
import Derived.Laws.EntriesVeiled
import Derived.Maps.AppendAt
import Derived.RegionTactic
import Derived.BigRegion
import Derived.Below
import Derived.IntWalk
import Derived.Deep.LoopGhost
import Derived.Deep.Draws
import Derived.Deep.RegionHeld3
import Derived.Deep.QuietTactic
import Derived.BigQuiet
import Derived.BigFrame
import Derived.Laws.MakeOwn
import Derived.Lib.SliceRun
import Derived.Lib.AppendStr
import Derived.WalkSmall
import Derived.Shelf.Strings.Trim
import Derived.Shelf.Small.Utf8
import Derived.Shelf.Small.Strs
import Derived.Shelf.Small.Wraps
import Derived.Shelf.Strconv.Itoa0
import Derived.Shelf.Strconv.Itoa1
import Derived.Shelf.LaysM
import Derived.Shelf.Strconv.Itoa2
import Derived.Shelf.Strconv.Itoa3
import Derived.Shelf.Strings.Search1
import Derived.Shelf.Strings.Search2
import Derived.Shelf.Strings.Cut
import Derived.Shelf.Strings.Shaped
import Derived.Shelf.Strings.Prefix
import Derived.Shelf.Unicode.Decode
import Derived.Shelf.Strings.Runes
import Derived.Shelf.Strings.AsciiSet
import Derived.Shelf.Unicode.DecodeSlow
import Derived.Shelf.Unicode.DecodeAny
import Derived.Shelf.Unicode.DecodeLast
import Derived.Shelf.Strings.SlTrimAscii
set_option linter.unusedVariables false
set_option linter.unusedSimpArgs false
namespace Go.Proofs.Lexi
open Go
section
variable {P : Program}
structure Ext (w W:World):Prop where
 size:w.heap.size<=W.heap.size
 block:∀k,k<w.heap.size->W.heap[k]? =w.heap[k]?
theorem Ext.refl (w:World):Ext w w:=⟨Nat.le_refl _,fun _ _=>rfl⟩
theorem Ext.trans {a b c:World} (h:Ext a b) (k:Ext b c):Ext a c:=
 ⟨Nat.le_trans h.size k.size,fun i hi=>(k.block i (Nat.lt_of_lt_of_le hi h.size)).trans (h.block i hi)⟩
def Pureish {α:Type} (P:Program) (s:Sem α):Prop:=∀w x w',s.run P w= .ok x w'->w'=w/\∀W,s.run P W= .ok x W
def Readish {α:Type} (P:Program) (s:Sem α):Prop:=∀w x w',s.run P w= .ok x w'->w'=w/\∀W,Ext w W->s.run P W= .ok x W
def Newish {α:Type} (P:Program) (s:Sem α):Prop:=∀w x w',s.run P w= .ok x w'->Ext w w'
theorem Pureish.read {α:Type} {s:Sem α} (h:Pureish P s):Readish P s:=fun w x w' e=>⟨(h w x w' e).1,fun W _=>(h w x w' e).2 W⟩
theorem Readish.new {α:Type} {s:Sem α} (h:Readish P s):Newish P s:=fun w x w' e=>by rw[(h w x w' e).1];exact Ext.refl _
theorem Pureish.pure {α:Type} (a:α):Pureish P (Pure.pure a:Sem α):=fun w x w' e=>by
 simp only[Sem.run_pure] at e;injection e with e1 e2;subst e1;subst e2;exact⟨rfl,fun _=>by simp⟩
theorem Pureish.bind {α β:Type} {s:Sem α} {f:α->Sem β} (h:Pureish P s) (hf:∀a,Pureish P (f a)):Pureish P (s >>= f):=fun w x w' e=>by
 rw[Sem.run_bind] at e;cases hs:s.run P w with
 |halt h w1=>rw[hs] at e;cases e
 |ok a w1=>
  rw[hs] at e;obtain⟨rfl,h1⟩:=h _ _ _ hs;obtain⟨h2,h3⟩:=hf a _ _ _ e;exact⟨h2,fun W=>by rw[Sem.run_bind,h1 W];exact h3 W⟩
theorem Readish.bind {α β:Type} {s:Sem α} {f:α->Sem β} (h:Readish P s) (hf:∀a,Readish P (f a)):Readish P (s >>= f):=fun w x w' e=>by
 rw[Sem.run_bind] at e;cases hs:s.run P w with
 |halt h w1=>rw[hs] at e;cases e
 |ok a w1=>
  rw[hs] at e;obtain⟨rfl,h1⟩:=h _ _ _ hs;obtain⟨h2,h3⟩:=hf a _ _ _ e;exact⟨h2,fun W hW=>by rw[Sem.run_bind,h1 W hW];exact h3 W hW⟩
theorem Newish.bind {α β:Type} {s:Sem α} {f:α->Sem β} (h:Newish P s) (hf:∀a,Newish P (f a)):Newish P (s >>= f):=fun w x w' e=>by
 rw[Sem.run_bind] at e;cases hs:s.run P w with
 |halt h w1=>rw[hs] at e;cases e
 |ok a w1=>rw[hs] at e;exact(h _ _ _ hs).trans (hf a _ _ _ e)
theorem Pureish.never {α:Type} {s:Sem α} (h:∀w,∃x w',s.run P w= .halt x w'):Pureish P s:=fun w x w' e=>by
 obtain⟨_,_,h⟩:=h w;rw[h] at e;cases e
theorem Pureish.halt {α:Type} (h:Halt):Pureish P (Sem.halt h:Sem α):=Pureish.never fun w=>⟨h,w,rfl⟩
theorem Pureish.stuck {α:Type} (h:String):Pureish P (Go.stuck h:Sem α):=Pureish.halt _
theorem Pureish.unsupported {α:Type} (h:Unsupported):Pureish P (Go.unsupported h:Sem α):=Pureish.halt _
theorem Pureish.boundsPanic {α:Type} (k:IntKind) (x y:Int) (c:BoundsCode):Pureish P (boundsPanic k x y c:Sem α):=
 Pureish.never fun w=>by obtain⟨s,w',h⟩:=run_boundsPanic (P:=P) (w:=w) (α:=α) k x y c;exact⟨_,_,h⟩
theorem Pureish.program:Pureish P Go.program:=fun w x w' e=>by
 simp only[Go.program,Sem.run] at e;injection e with e1 e2;subst e1;subst e2;exact⟨rfl,fun _=>rfl⟩
theorem Pureish.ite {α:Type} {c:Prop} [Decidable c] {s t:Sem α} (h:Pureish P s) (k:Pureish P t):Pureish P (if c then s else t):=by split<;>assumption
theorem Pureish.underlying (t:TypeId):Pureish P (Go.underlying t):=by
 unfold Go.underlying;refine Pureish.bind Pureish.program fun p=> ?_;split
 ·exact Pureish.pure _
 ·exact Pureish.stuck _
theorem Pureish.typeInfo (t:TypeId):Pureish P (Go.typeInfo t):=by
 unfold Go.typeInfo;refine Pureish.bind Pureish.program fun p=> ?_;split
 ·exact Pureish.pure _
 ·exact Pureish.stuck _
theorem Pureish.sizeOf (t:TypeId):Pureish P (Go.sizeOf t):=by
 unfold Go.sizeOf;exact Pureish.bind (Pureish.typeInfo t) fun _=>Pureish.pure _
theorem Pureish.isAgg (t:TypeId):Pureish P (Go.isAgg t):=by
 unfold Go.isAgg;refine Pureish.bind (Pureish.underlying t) fun d=> ?_;split<;>exact Pureish.pure _
theorem Pureish.zeroValue (t:TypeId):Pureish P (Go.zeroValue t):=by
 unfold Go.zeroValue;refine Pureish.bind (Pureish.typeInfo t) fun d=> ?_;split
 ·exact Pureish.pure _
 ·exact Pureish.unsupported _
theorem Pureish.part (t:TypeId) (cs:Array Value) (off:Nat):Pureish P (Go.part t cs off):=by
 unfold Go.part;refine Pureish.bind (Pureish.isAgg t) fun b=> ?_;split
 ·exact Pureish.bind (Pureish.sizeOf t) fun _=>Pureish.pure _
 ·split
  ·exact Pureish.pure _
  ·exact Pureish.stuck _
theorem Pureish.asIntOf (v:Value):Pureish P (Go.asIntOf v):=by
 unfold Go.asIntOf;split<;>first|exact Pureish.pure _|exact Pureish.stuck _|exact Pureish.unsupported _
theorem Pureish.asInt (v:Value):Pureish P (Go.asInt v):=by
 unfold Go.asInt;exact Pureish.bind (Pureish.asIntOf v) fun _=>Pureish.pure _
theorem Pureish.asBool (v:Value):Pureish P (Go.asBool v):=by
 unfold Go.asBool;split<;>first|exact Pureish.pure _|exact Pureish.stuck _|exact Pureish.unsupported _
theorem Pureish.asAgg (v:Value):Pureish P (Go.asAgg v):=by
 unfold Go.asAgg;split<;>first|exact Pureish.pure _|exact Pureish.stuck _|exact Pureish.unsupported _
theorem Pureish.sureAddr (v:Value):Pureish P (Instr.sureAddr v):=by
 unfold Instr.sureAddr;split<;>first|exact Pureish.pure _|exact Pureish.stuck _
def Never {α:Type} (P:Program) (s:Sem α):Prop:=∀w,∃x w',s.run P w= .halt x w'
theorem Never.bind {α β:Type} (s:Sem α) {f:α->Sem β} (hf:∀a,Never P (f a)):Never P (s >>= f):=fun w=>by
 rw[Sem.run_bind];cases hs:s.run P w with
 |halt h w1=>exact⟨h,w1,rfl⟩
 |ok a w1=>exact hf a w1
theorem Never.goPanic {α:Type} (v:Value):Never P (Go.goPanic v:Sem α):=fun w=>⟨_,w,rfl⟩
theorem Pureish.runtimePanic {α:Type} (e:RuntimeError):Pureish P (Go.runtimePanic e:Sem α):=by
 refine Pureish.never ?_;unfold Go.runtimePanic;refine Never.bind _ fun p=> ?_;cases e<;>dsimp only<;>first|exact Never.goPanic _|exact Never.bind _ fun _=>Never.bind _ fun _=>Never.goPanic _
theorem Pureish.asAddr (v:Value):Pureish P (Go.asAddr v):=by
 unfold Go.asAddr;split<;>first|exact Pureish.pure _|exact Pureish.stuck _|exact Pureish.runtimePanic _
theorem Pureish.sliceBound (x:Value) (y:Nat) (c:BoundsCode):Pureish P (Instr.sliceBound x y c):=by
 unfold Instr.sliceBound;refine Pureish.bind (Pureish.asIntOf x) fun p=> ?_;exact Pureish.ite (Pureish.pure _) (Pureish.boundsPanic _ _ _ _)
theorem Pureish.sliceBounds (b:Bool) (l c:Nat) (lo hi mx:Option Value):Pureish P (Instr.sliceBounds b l c lo hi mx):=by
 unfold Instr.sliceBounds;cases mx<;>cases hi<;>cases lo<;>dsimp only<;>
  repeat' (first|exact Pureish.pure _|exact Pureish.stuck _|exact Pureish.sliceBound _ _ _|refine Pureish.bind ?_ (fun _=> ?_))
theorem Pureish.slice (t:TypeId) (x:Value) (lo hi mx:Option Value):Pureish P (Instr.slice t x lo hi mx):=by
 unfold Instr.slice;refine Pureish.bind (Pureish.underlying t) fun d=> ?_;split
 ·refine Pureish.ite (Pureish.bind (Pureish.stuck _) fun _=> ?_) ?_;all_goals exact Pureish.bind (Pureish.sliceBounds _ _ _ _ _ _) fun _=>Pureish.pure _
 ·exact Pureish.bind (Pureish.sliceBounds _ _ _ _ _ _) fun _=>Pureish.bind (Pureish.sizeOf _) fun _=>Pureish.pure _
 ·refine Pureish.bind (Pureish.asAddr _) fun _=>Pureish.bind (Pureish.underlying _) fun _=> ?_;split
  ·exact Pureish.bind (Pureish.sliceBounds _ _ _ _ _ _) fun _=>Pureish.bind (Pureish.sizeOf _) fun _=>Pureish.pure _
  ·exact Pureish.stuck _
 ·exact Pureish.stuck _
theorem Pureish.sliceAt (t:TypeId) (x:Value) (lo hi mx:Option Value):Pureish P (Instr.sliceAt t x lo hi mx):=by
 unfold Instr.sliceAt;refine Pureish.bind (Pureish.underlying t) fun d=> ?_;split
 ·exact Pureish.bind (Pureish.sureAddr _) fun _=>Pureish.bind (Pureish.sliceBounds _ _ _ _ _ _) fun _=>Pureish.bind (Pureish.sizeOf _) fun _=>Pureish.pure _
 ·exact Pureish.slice _ _ _ _ _
theorem Pureish.indexAt (t:TypeId) (x i:Value):Pureish P (Instr.indexAt t x i):=by
 unfold Instr.indexAt;dsimp only
 repeat' (first|exact Pureish.pure _|exact Pureish.stuck _|exact Pureish.unsupported _|exact Pureish.boundsPanic _ _ _ _|exact Pureish.underlying _|exact Pureish.sizeOf _|exact Pureish.asIntOf _|exact Pureish.sureAddr _|refine Pureish.bind ?_ (fun _=> ?_)|refine Pureish.ite ?_ ?_|split)
theorem Pureish.index (t:TypeId) (x i:Value):Pureish P (Instr.index t x i):=by
 unfold Instr.index;refine Pureish.bind (Pureish.asIntOf _) fun p=>Pureish.bind (Pureish.underlying t) fun d=> ?_;split
 ·exact Pureish.ite (Pureish.bind (Pureish.sizeOf _) fun _=>Pureish.part _ _ _) (Pureish.boundsPanic _ _ _ _)
 ·split
  ·exact Pureish.pure _
  ·exact Pureish.boundsPanic _ _ _ _
 ·exact Pureish.stuck _
theorem Pureish.field (t:TypeId) (x:Value) (i:Nat):Pureish P (Instr.field t x i):=by
 unfold Instr.field;refine Pureish.bind (Pureish.underlying t) fun d=> ?_;split
 ·split
  ·exact Pureish.bind (Pureish.asAgg _) fun _=>Pureish.part _ _ _
  ·exact Pureish.stuck _
 ·exact Pureish.stuck _
theorem Pureish.extract (t:Value) (i:Nat):Pureish P (Instr.extract t i):=by
 unfold Instr.extract;split
 ·split
  ·exact Pureish.pure _
  ·exact Pureish.stuck _
 ·exact Pureish.stuck _
def Ts (P:Program) (s:TypeId) (f:Nat):Bool:=
 match P.underlying s with
 |some (.struct fields)=>(fields[f]?).all fun fd=>(P.info? fd.type).all fun i=>i.size !=0
 |_=>true
theorem Pureish.fieldAt (s:TypeId) (x:Value) (f:Nat) (h:Ts P s f=true):Pureish P (Instr.fieldAt s x f):=by
 intro w v w' e;unfold Instr.fieldAt at e ⊢;simp only[Sem.run_bind,Go.underlying,Go.program] at e ⊢;simp only[Sem.run,Result.andThen_ok] at e ⊢;unfold Ts at h;cases hu:P.underlying s with
 |none=>rw[hu] at e;simp[Go.stuck] at e
 |some d=>
  rw[hu] at e h;simp only[Sem.run_pure,Result.andThen_ok] at e ⊢;cases d<;>simp only[] at e h ⊢ <;>try(simp[Go.stuck] at e;done)
  rename_i fields
  cases hf:fields[f]? with
  |none=>rw[hf] at e;simp[Go.stuck] at e
  |some fd=>
   rw[hf] at e h;simp only[Option.all_some] at h;simp only[Sem.run_bind] at e ⊢;cases x with
   |pointer p=>
    cases p with
    |none=>simp[Instr.sureAddr,Go.stuck] at e
    |some a=>
     simp only[Instr.sureAddr,Sem.run_pure,Result.andThen_ok,fieldPlace,Go.sizeOf,Go.typeInfo,Go.program,Sem.run_bind,Sem.run] at e ⊢;cases hi:P.info? fd.type with
     |none=>rw[hi] at e;simp[Go.stuck] at e
     |some i=>
      rw[hi] at e h;simp only[Option.all_some,bne_iff_ne] at h;simp only[Sem.run_pure,Result.andThen_ok,if_neg h] at e ⊢;injection e with e1 e2;subst e1;subst e2;exact⟨rfl,fun _=>rfl⟩
   |_=>simp[Instr.sureAddr,Go.stuck] at e
theorem Pureish.build (t:TypeId) (ps:Array (Nat×Value)):Pureish P (Instr.build t ps):=by
 unfold Instr.build;refine Pureish.bind (Pureish.zeroValue _) fun z=>Pureish.bind (Pureish.underlying _) fun d=> ?_;split
 ·refine Pureish.bind ?_ fun _=> ?_
  ·rename_i fields
   have key:∀(l:List Field) (acc:Array (Nat×Nat)),Pureish P (l.foldlM (init:=acc) fun bs a=>bs.push <$> (do let s <-Go.sizeOf a.type;Pure.pure (a.offset,s))):=by
    intro l
    induction l with
    |nil=>intro acc;exact Pureish.pure _
    |cons x xs ih=>
     intro acc;rw[List.foldlM_cons];refine Pureish.bind ?_ fun _=>ih _;rw[<-bind_pure_comp];exact Pureish.bind (Pureish.bind (Pureish.sizeOf _) fun _=>Pureish.pure _) fun _=>Pureish.pure _
   have:=key fields.toList #[];rw[Array.mapM_eq_foldlM];simpa using this
  ·split
   ·exact Pureish.pure _
   ·exact Pureish.stuck _
 ·refine Pureish.bind (Pureish.sizeOf _) fun _=> ?_;split
  ·exact Pureish.pure _
  ·exact Pureish.stuck _
 ·exact Pureish.stuck _
def Js:Value->Value->Bool
 | .int ..,.int .. | .string _,.string _| .bool _,.bool _=>true
 | .pointer none,.pointer _| .pointer _,.pointer none=>true
 | .slice none ..,.slice .. | .slice ..,.slice none .. =>true
 | .nilFunc,.nilFunc| .nilFunc,.func .. | .func ..,.nilFunc=>true
 | .map none,.map _| .map _,.map none=>true
 | .nilIface,.iface .. | .iface ..,.nilIface=>true
 |_,_=>false
theorem Ak {α:Type} (a:Option α):a=none\/∃x,a=some x:=by cases a<;>simp
theorem GY {x y:Value} (h:Js x y=true):
  (∃k a k' b,x= .int k a/\y= .int k' b)\/
  (∃a b,x= .string a/\y= .string b)\/
  (∃a b,x= .bool a/\y= .bool b)\/
  (x= .pointer none/\y= .pointer none)\/
  (∃a,x= .pointer none/\y= .pointer (some a))\/
  (∃a,x= .pointer (some a)/\y= .pointer none)\/
  (∃l c l' c',x= .slice none l c/\y= .slice none l' c')\/
  (∃l c a l' c',x= .slice none l c/\y= .slice (some a) l' c')\/
  (∃a l c l' c',x= .slice (some a) l c/\y= .slice none l' c')\/
  (x= .nilFunc/\y= .nilFunc)\/
  (∃f a b,x= .nilFunc/\y= .func f a b)\/
  (∃f a b,x= .func f a b/\y= .nilFunc)\/
  (x= .map none/\y= .map none)\/
  (∃a,x= .map none/\y= .map (some a))\/
  (∃a,x= .map (some a)/\y= .map none)\/
  (∃t v,x= .nilIface/\y= .iface t v)\/
  (∃t v,x= .iface t v/\y= .nilIface):=by
 unfold Js at h;split at h<;>first|(cases h;done)|(simp;done)|(simp;exact Ak _)
theorem Pureish.equalIn (d:Nat) (t:TypeId) (x y:Value) (h:Js x y=true):Pureish P (Op.equalIn (d+1) t x y):=by
 unfold Op.equalIn;refine Pureish.bind (Pureish.underlying t) fun u=> ?_;rcases GY h with⟨k,a,k',b,rfl,rfl⟩|⟨a,b,rfl,rfl⟩|⟨a,b,rfl,rfl⟩|⟨rfl,rfl⟩|⟨a,rfl,rfl⟩|⟨a,rfl,rfl⟩|⟨l,c,l',c',rfl,rfl⟩|⟨l,c,a,l',c',rfl,rfl⟩|⟨a,l,c,l',c',rfl,rfl⟩|⟨rfl,rfl⟩|⟨f,a,b,rfl,rfl⟩|⟨f,a,b,rfl,rfl⟩|⟨rfl,rfl⟩|⟨a,rfl,rfl⟩|⟨a,rfl,rfl⟩|⟨t,v,rfl,rfl⟩|⟨t,v,rfl,rfl⟩;all_goals
  cases u<;>dsimp only<;>repeat' (first|exact Pureish.pure _|exact Pureish.stuck _|exact Pureish.unsupported _|exact Pureish.runtimePanic _|refine Pureish.ite ?_ ?_|split)
theorem Pureish.equal (t:TypeId) (x y:Value) (h:Js x y=true):Pureish P (Op.equal t x y):=Pureish.equalIn 9999 t x y h
theorem Pureish.binOp (op:BinOp) (t:TypeId) (x y:Value) (h:Js x y=true):Pureish P (Go.binOp op t x y):=by
 have he:=Pureish.equal (P:=P) t x y h;have e1:Pureish P (do Pure.pure (Value.bool (<-Op.equal t x y))):=Pureish.bind he fun _=>Pureish.pure _;have e2:Pureish P (do Pure.pure (Value.bool (!(<-Op.equal t x y)))):=Pureish.bind he fun _=>Pureish.pure _;rcases GY h with⟨k,a,k',b,rfl,rfl⟩|⟨a,b,rfl,rfl⟩|⟨a,b,rfl,rfl⟩|⟨rfl,rfl⟩|⟨a,rfl,rfl⟩|⟨a,rfl,rfl⟩|⟨l,c,l',c',rfl,rfl⟩|⟨l,c,a,l',c',rfl,rfl⟩|⟨a,l,c,l',c',rfl,rfl⟩|⟨rfl,rfl⟩|⟨f,a,b,rfl,rfl⟩|⟨f,a,b,rfl,rfl⟩|⟨rfl,rfl⟩|⟨a,rfl,rfl⟩|⟨a,rfl,rfl⟩|⟨t,v,rfl,rfl⟩|⟨t,v,rfl,rfl⟩;all_goals
  unfold Go.binOp;cases op<;>dsimp only[Op.shift,Op.intArith,Op.intDiv,Op.intBits,Op.intCmp,Op.stringOp]<;>first|exact e1|exact e2|(repeat' (first|exact Pureish.pure _|exact Pureish.stuck _|exact Pureish.unsupported _|exact Pureish.runtimePanic _|refine Pureish.ite ?_ ?_|split))
theorem Pureish.eqGuard (op:BinOp) (t:TypeId) (x y:Operand) (a b:Value) (h:Js a b=true):Pureish P (Go.eqGuard op t x y a b):=by
 unfold Go.eqGuard;rcases GY h with⟨k,a,k',b,rfl,rfl⟩|⟨a,b,rfl,rfl⟩|⟨a,b,rfl,rfl⟩|⟨rfl,rfl⟩|⟨a,rfl,rfl⟩|⟨a,rfl,rfl⟩|⟨l,c,l',c',rfl,rfl⟩|⟨l,c,a,l',c',rfl,rfl⟩|⟨a,l,c,l',c',rfl,rfl⟩|⟨rfl,rfl⟩|⟨f,a,b,rfl,rfl⟩|⟨f,a,b,rfl,rfl⟩|⟨rfl,rfl⟩|⟨a,rfl,rfl⟩|⟨a,rfl,rfl⟩|⟨t,v,rfl,rfl⟩|⟨t,v,rfl,rfl⟩;all_goals
  cases op<;>dsimp only<;>repeat' (first|exact Pureish.pure _|exact Pureish.stuck _|exact Pureish.unsupported _|exact Pureish.runtimePanic _|refine Pureish.ite ?_ ?_|split)
theorem Pureish.unary (op:UnOp) (x:Value):Pureish P (Op.unary op x):=by
 unfold Op.unary;split<;>(try dsimp only[Op.intArith,Op.intBits])<;>first|exact Pureish.pure _|exact Pureish.unsupported _|exact Pureish.stuck _
def Pi:Value->Bool
 | .string _| .slice .. =>true
 |_=>false
theorem Pureish.len (ts:Array TypeId) (t:TypeId) (x:Value) (h:Pi x=true):Pureish P (Builtin.len_ ts t #[x]):=by
 unfold Builtin.len_;cases x<;>first|(cases h;done)|skip
 all_goals
  split
  ·refine Pureish.bind (Pureish.underlying _) fun u=> ?_
   rename_i heq
   simp only[List.getElem?_toArray,List.length_cons,List.length_nil,Nat.zero_add,Nat.lt_add_one,getElem?_pos,List.getElem_cons_zero,Prod.mk.injEq,Option.some.injEq] at heq;obtain⟨_,rfl⟩:=heq;cases u<;>dsimp only<;>repeat' (first|exact Pureish.pure _|exact Pureish.stuck _|exact Pureish.underlying _|refine Pureish.bind ?_ (fun _=> ?_)|split)
  ·exact Pureish.stuck _
theorem Ext.get {w W:World} (h:Ext w W) {b:Nat} {o:Obj} (e:w.heap[b]? =some o):W.heap[b]? =some o:=by
 rw[h.block b ((Array.getElem?_eq_some_iff.1 e).1)];exact e
theorem Lr {w W:World} (h:Ext w W) {at_ k:Addr} {u:TypeId} {m:Bool} {r} (e:w.seen P at_ u k m= .ok r):W.seen P at_ u k m= .ok r:=by
 cases hb:w.heap[at_.block]? with
 |some o=>unfold World.seen at e ⊢;rw[h.get hb];rw[hb] at e;exact e
 |none=>
  exfalso;unfold World.seen at e;rw[hb] at e;simp only[bind,Except.bind] at e
  repeat' (split at e<;>first|(cases e;done)|skip)
theorem E5 {w W:World} (h:Ext w W) {at_ k:Addr} {u:TypeId} {m:Bool} {r} (e:w.viewLoad P at_ u k m= .ok r):W.viewLoad P at_ u k m= .ok r:=by
 unfold World.viewLoad at e ⊢;cases hs:w.seen P at_ u k m with
 |error x=>rw[hs] at e;cases e
 |ok r'=>rw[Lr h hs];rw[hs] at e;exact e
theorem Readish.load (a:Addr) (m:Mode):Readish P (Go.load a m):=by
 intro w x w' e;rw[run_load] at e;cases hc:w.cell? a with
 |some v=>
  rw[hc] at e;simp only[] at e;injection e with e1 e2;subst e1;subst e2;refine⟨rfl,fun W hW=> ?_⟩;have hb:∃o,w.heap[a.block]? =some o:=by
   unfold World.cell? at hc;cases h:w.heap[a.block]? with
   |none=>rw[h] at hc;cases hc
   |some o=>exact⟨o,rfl⟩
  obtain⟨o,ho⟩:=hb;have:W.cell? a=some v:=by rw[<-hc];unfold World.cell?;rw[ho,hW.get ho]
  rw[run_load,this]
 |none=>
  rw[hc] at e;simp only[] at e;cases hf:w.farLoad P a (m== .atomic) with
  |error x=>rw[hf] at e;cases e
  |ok r=>
   rw[hf] at e;obtain⟨v,l⟩:=r;simp only[] at e;injection e with e1 e2;subst e1;subst e2;refine⟨rfl,fun W hW=> ?_⟩;unfold World.farLoad at hf;cases hb:w.heap[a.block]? with
   |none=>rw[hb] at hf;cases hf
   |some o=>
    rw[hb] at hf;have h1:W.cell? a=none:=by rw[<-hc];unfold World.cell?;rw[hb,hW.get hb]
    have h2:W.farLoad P a (m== .atomic)= .ok (v,l):=by
     unfold World.farLoad;rw[hW.get hb];cases o<;>first|(cases hf;done)|skip
     rename_i at_ u
     simp only[] at hf ⊢;cases hv:w.viewLoad P at_ u a (m== .atomic) with
     |error y=>rw[hv] at hf;cases hf
     |ok r=>rw[hv] at hf;rw[E5 hW hv];exact hf
    rw[run_load,h1,h2]
theorem Readish.loadCellsFrom (a:Addr):∀(n i:Nat) (acc:Array Value),Readish P (Go.loadCellsFrom a i n acc)
 |0,_,_=>(Pureish.pure _).read
 |n+1,i,acc=>by
  unfold Go.loadCellsFrom;exact Readish.bind (Readish.load _ _) fun v=>Readish.loadCellsFrom a n (i+1) _
theorem Readish.loadAt (t:TypeId) (v:Value):Readish P (Instr.loadAt t v):=by
 unfold Instr.loadAt Go.loadVar;refine Readish.bind (Pureish.sureAddr v).read fun a=>Readish.bind (Pureish.isAgg t).read fun b=> ?_;split
 ·exact Readish.bind (Pureish.sizeOf t).read fun n=>Readish.bind (Readish.loadCellsFrom _ _ _ _) fun _=>(Pureish.pure _).read
 ·exact Readish.load _ _
theorem Newish.newObj (o:Obj):Newish P (Go.newObj o):=fun w x w' e=>by
 simp only[Go.newObj,Sem.run] at e;injection e with e1 e2;subst e2;refine⟨by simp,fun k hk=> ?_⟩;show(w.heap.push o)[k]? =_;rw[Array.getElem?_push,if_neg (by omega)]
theorem Newish.newRow (e:TypeId) (c:Array Value):Newish P (Go.newRow e c):=by
 unfold Go.newRow;exact Newish.bind (Newish.newObj _) fun _=>(Pureish.pure _).read.new
theorem Newish.alloc (e:TypeId) (v:Value):Newish P (Instr.alloc e true v):=by
 unfold Instr.alloc;refine Newish.bind (Pureish.zeroValue _).read.new fun z=> ?_;split
 ·rename_i h;cases h
 ·exact Newish.bind (Newish.newRow _ _) fun _=>(Pureish.pure _).read.new
theorem Newish.box (e:TypeId) (v:Value):Newish P (Instr.box e v):=by
 unfold Instr.box;exact Newish.bind (Newish.newRow _ _) fun _=>(Pureish.pure _).read.new
theorem Newish.buildSlice (t:TypeId) (n:Nat) (ps:Array (Nat×Value)):Newish P (Instr.buildSlice t n ps):=by
 unfold Instr.buildSlice;dsimp only
 repeat' (first|exact(Pureish.pure _).read.new|exact(Pureish.stuck _).read.new|exact(Pureish.unsupported _).read.new|exact(Pureish.underlying _).read.new|exact(Pureish.sizeOf _).read.new|exact(Pureish.zeroValue _).read.new|exact Newish.newRow _ _|refine Newish.bind ?_ (fun _=> ?_)|split)
theorem Newish.askRoom (n:Nat):Newish P (Go.askRoom n):=by
 unfold Go.askRoom;split
 ·intro w x w' e;simp only[Go.mark,Sem.run] at e;injection e with e1 e2;subst e2;exact Ext.refl _
 ·exact(Pureish.pure _).read.new
theorem Newish.choose (q:Question):Newish P (Go.choose q):=fun w x w' e=>by
 simp only[Go.choose,Sem.run] at e;split at e
 ·injection e with e1 e2;subst e2;exact Ext.refl _
 ·injection e with e1 e2;subst e2;exact⟨Nat.le_refl _,fun _ _=>rfl⟩
theorem Newish.makeSlice (t:TypeId) (l c:Value):Newish P (Instr.makeSlice t l c):=by
 unfold Instr.makeSlice;dsimp only
 repeat' (first|exact(Pureish.pure _).read.new|exact(Pureish.stuck _).read.new|exact(Pureish.unsupported _).read.new|exact(Pureish.underlying _).read.new|exact(Pureish.sizeOf _).read.new|exact(Pureish.typeInfo _).read.new|exact(Pureish.asInt _).read.new|exact(Pureish.zeroValue _).read.new|exact(Pureish.runtimePanic _).read.new|exact Newish.askRoom _|exact Newish.choose _|exact Newish.newRow _ _|refine Newish.bind ?_ (fun _=> ?_)|split)
def Gc (c:Call):Option Operand:=
 match c.callee with
 | .builtin .len=>if c.args.size=1 then c.args[0]? else none
 |_=>none
def G8 (P:Program):Op->Bool
 | .move _| .assign _| .pick .. | .extract .. | .makeFunc .. | .index .. | .indexAddr .. | .slice .. | .field .. | .build .. | .unOp .. | .binOp .. | .nilCheck _=>true
 | .fieldAddr s _ f=>Ts P s f
 | .call c=>(Gc c).isSome
 |_=>false
def Yn:Op->Bool
 | .load .. =>true
 |_=>false
def A7:Op->Bool
 | .alloc _| .box .. | .buildSlice .. | .makeSlice .. =>true
 |_=>false
def Ph:Value->Bool
 | .pointer _=>true
 |_=>false
def Ga (ρ:Operand->Value):Op->Bool
 | .binOp _ _ x y _=>Js (ρ x) (ρ y)
 | .nilCheck x=>Ph (ρ x)
 | .call c=>(Gc c).all fun x=>Pi (ρ x)
 |_=>true
theorem Pureish.value {s:Sem Value} (h:Pureish P s):Pureish P (do Pure.pure (Next.value (<-s))):=Pureish.bind h fun _=>Pureish.pure _
theorem O4 (ρ:Operand->Value) (o:Oper) (h:G8 P o.op=true) (hv:Ga ρ o.op=true):Pureish P (execOp ρ o):=by
 obtain⟨dst,op,type,pos,after,guard⟩:=o;cases op<;>first|(cases h;done)|skip
 case move=>exact Pureish.pure _
 case assign=>exact Pureish.pure _
 case pick=>exact Pureish.bind (Pureish.asBool _) fun _=>Pureish.pure _
 case extract=>exact(Pureish.extract _ _).value
 case makeFunc=>exact(Pureish.pure _).value
 case index=>exact(Pureish.index _ _ _).value
 case indexAddr=>exact(Pureish.indexAt _ _ _).value
 case slice=>exact(Pureish.sliceAt _ _ _ _ _).value
 case field=>exact(Pureish.field _ _ _).value
 case build=>exact(Pureish.build _ _).value
 case unOp=>exact(Pureish.unary _ _).value
 case binOp=>exact(Pureish.bind (Pureish.eqGuard _ _ _ _ _ _ hv) fun _=>Pureish.binOp _ _ _ _ hv).value
 case fieldAddr=>exact(Pureish.fieldAt _ _ _ h).value
 case nilCheck x=>
  simp only[Ga,Ph] at hv;simp only[execOp];split at hv<;>first|(cases hv;done)|skip
  rename_i p e
  rw[e];cases p
  ·exact Pureish.runtimePanic _
  ·exact Pureish.pure _
 case call c=>
  obtain⟨callee,args,ts⟩:=c;simp only[G8,Ga,Gc] at h hv;cases callee<;>first|(cases h;done)|skip
  rename_i bi
  cases bi<;>first|(cases h;done)|skip
  simp only[] at h hv;split at h<;>first|(cases h;done)|skip
  rename_i hs
  obtain⟨x,rfl⟩:=Array.size_eq_one_iff.1 hs;simp at hv;have:=Pureish.len (P:=P) ts type (ρ x) hv;simp only[execOp,resolve,invoke,builtin];simpa using this.value
theorem Df (ρ:Operand->Value) (o:Oper) (h:Yn o.op=true):Readish P (execOp ρ o):=by
 obtain⟨dst,op,type,pos,after,guard⟩:=o;cases op<;>first|(cases h;done)|skip
 exact Readish.bind (Readish.loadAt _ _) fun _=>(Pureish.pure _).read
theorem Ci (ρ:Operand->Value) (o:Oper) (h:A7 o.op=true):Newish P (execOp ρ o):=by
 obtain⟨dst,op,type,pos,after,guard⟩:=o;cases op<;>first|(cases h;done)|skip
 case alloc=>exact Newish.bind (Newish.alloc _ _) fun _=>(Pureish.pure _).read.new
 case box=>exact Newish.bind (Newish.box _ _) fun _=>(Pureish.pure _).read.new
 case buildSlice=>exact Newish.bind (Newish.buildSlice _ _ _) fun _=>(Pureish.pure _).read.new
 case makeSlice=>exact Newish.bind (Newish.makeSlice _ _ _) fun _=>(Pureish.pure _).read.new
end
end Go.Proofs.Lexi
namespace Go.Proofs.Lexi
open Go
section
variable {P : Program} {ops : Array Oper} {Q : Exit → Act → World → Prop}
def G (o:Oper) (g:Act->Act):Prop:=
 (∃v,g=fun a=>a.put o.dst v)\/(∃d,g=fun a=>({a with defers:=d::a.defers}:Act).put o.dst undef)
theorem G.comm {o:Oper} {g:Act->Act} (h:G o g) (a:Act) (x:Option Tmp) (v:Value) (hx:∀d,x=some d->o.dst≠some d):
  g (a.put x v)=(g a).put x v:=by
 rcases h with⟨u,rfl⟩|⟨d,rfl⟩
 ·exact Act.put_comm a v u hx
 ·dsimp only;rw[Act.put_defers];exact Act.put_comm _ v undef hx
theorem G.tmps {o:Oper} {g:Act->Act} (h:G o g) (a:Act) (t:Tmp) (ht:o.dst≠some t):(g a).tmps[t]? =a.tmps[t]? :=by
 rcases h with⟨u,rfl⟩|⟨d,rfl⟩;all_goals
  cases hd:o.dst with
  |none=>rfl
  |some e=>
   have:e≠t:=fun h=>ht (by rw[hd,h]);simp[Act.put,Array.getElem?_setIfInBounds_ne this]
theorem G.exec {o:Oper} {g:Act->Act} (h:G o g) (a:Act) (oi:Oper) (hs:∀cs b,oi.op≠ .select cs b) (hd:∀d,o.dst=some d->d∉oi.looksAt ops):
  execOp (g a).eval oi=execOp a.eval oi:=by
 rcases h with⟨u,rfl⟩|⟨d,rfl⟩
 ·exact execOp_put oi hs a o.dst u hd
 ·rw[execOp_put (ops:=ops) oi hs _ o.dst undef hd];rfl
theorem G.wanted {o:Oper} {g:Act->Act} (h:G o g) (a:Act) (oi:Oper) (hd:∀d,o.dst=some d->d∉oi.looksAt ops):
  Region.wanted oi (yielded ops (g a).tmps)=Region.wanted oi (yielded ops a.tmps):=by
 rcases h with⟨u,rfl⟩|⟨d,rfl⟩
 ·exact wanted_put oi a o.dst u hd
 ·rw[wanted_put oi _ o.dst undef hd]
def upon' (P:Program) (o:Oper) (K:(Act->Act)->World->Prop):Result Next->Prop
 | .ok (.value v) w'=>K (fun a=>a.put o.dst v) w'
 | .ok .skip w'=>K (fun a=>a.put o.dst undef) w'
 | .ok (.defer d) w'=>K (fun a=>({a with defers:=d::a.defers}:Act).put o.dst undef) w'
 | .ok (.enter f args) w'=>Calls P f args w' fun
   | .returned v,w''=>K (fun a=>a.put o.dst v) w''
   |_,_=>False
 | .ok (.row row args) w'=>Rows P row args w' fun v w''=>K (fun a=>a.put o.dst v) w''
 |_=>False
def eff (P:Program) (ops:Array Oper) (o:Oper) (a:Act) (w:World) (K:(Act->Act)->World->Prop):Prop:=
 if Region.wanted o (yielded ops a.tmps) then upon' P o K ((execOp a.eval o).run P w) else K (fun a=>a.put o.dst undef) w
theorem upon'_mono {o:Oper} {K K':(Act->Act)->World->Prop} (h:∀g w,G o g->K g w->K' g w) (r:Result Next) (hh:upon' P o K r):upon' P o K' r:=by
 cases r with
 |halt x w'=>exact hh
 |ok n w'=>
  cases n<;>simp only[upon'] at hh ⊢
  case value v=>exact h _ _ (.inl ⟨v,rfl⟩) hh
  case skip=>exact h _ _ (.inl ⟨_,rfl⟩) hh
  case defer d=>exact h _ _ (.inr ⟨d,rfl⟩) hh
  case enter f args=>exact Calls.mono hh (fun e w'' he=>by cases e<;>first|exact h _ _ (.inl ⟨_,rfl⟩) he|exact he)
  case row r args=>exact Rows.mono hh (fun v _ he=>h _ _ (.inl ⟨v,rfl⟩) he)
theorem XE {o:Oper} {a:Act} {w:World} {K K':(Act->Act)->World->Prop} (h:∀g w,G o g->K g w->K' g w) (hh:eff P ops o a w K):eff P ops o a w K':=by
 unfold eff at*;split
 ·rename_i hw;rw[if_pos hw] at hh;exact upon'_mono h _ hh
 ·rename_i hw;rw[if_neg hw] at hh;exact h _ _ (.inl ⟨undef,rfl⟩) hh
theorem GI {o:Oper} {a:Act} {w:World} {K:(Act->Act)->World->Prop} (hh:eff P ops o a w K):∃g w',G o g/\K g w':=by
 unfold eff at hh;split at hh
 ·generalize (execOp a.eval o).run P w=r at hh;cases r with
  |halt x w'=>exact hh.elim
  |ok n w'=>
   cases n<;>simp only[upon'] at hh
   case value v=>exact⟨_,_,.inl ⟨v,rfl⟩,hh⟩
   case skip=>exact⟨_,_,.inl ⟨undef,rfl⟩,hh⟩
   case defer d=>exact⟨_,_,.inr ⟨d,rfl⟩,hh⟩
   case enter f args=>
    obtain⟨e,w'',fr,hR,_⟩:=hh [];cases e<;>first|exact⟨_,_,.inl ⟨_,rfl⟩,hR⟩|exact hR.elim
   case row r args=>
    obtain⟨v,w'',hR,_⟩:=hh default [];exact⟨_,_,.inl ⟨v,rfl⟩,hR⟩
 ·exact⟨_,_,.inl ⟨undef,rfl⟩,hh⟩
theorem P2 {o:Oper} {a a':Act} {w:World} {K:(Act->Act)->World->Prop} (he:execOp a'.eval o=execOp a.eval o)
  (hw:Region.wanted o (yielded ops a'.tmps)=Region.wanted o (yielded ops a.tmps)) (hh:eff P ops o a w K):eff P ops o a' w K:=by
 unfold eff at*;rw[he,hw];exact hh
def OnlyN (Q:Exit->Act->World->Prop):Prop:=∀e a w,Q e a w->e= .normal
theorem Z8 {i:Nat} {o:Oper} (hi:ops[i]? =some o) (hQ:OnlyN Q) (K:Act->World->Prop) (a:Act) (w:World):
  wpOp P ops Q i K a w↔eff P ops o a w (fun g w'=>K (g a) w'):=by
 unfold wpOp eff;simp only[hi];split
 ·have hout:¬LetsOut Q:=fun⟨a,w,h⟩=>by have:=hQ _ _ _ h;cases this
  simp only[hout,and_false,or_false];unfold Oper.wp;generalize (execOp a.eval o).run P w=r;cases r with
  |halt x w'=>
   cases x<;>simp only[Oper.upon,upon',iff_self,iff_false]
   exact fun h=>by have:=hQ _ _ _ h;cases this
  |ok n w'=>
   cases n<;>simp only[Oper.upon,upon',iff_self]
   case enter f args=>
    constructor
    ·exact fun h=>h.mono fun e w'' he=>by
      cases e with
      |returned v=>exact he
      |panicked c=>have:=hQ _ _ _ he;cases this
      |outgrown=>exact(hout he).elim
    ·exact fun h=>h.mono fun e w'' he=>by
      cases e with
      |returned v=>exact he
      |panicked c=>exact he.elim
      |outgrown=>exact he.elim
 ·exact Iff.rfl
def Gives (P:Program) (ops:Array Oper) (o:Oper) (a:Act) (C:World->Prop) (v:Value):Prop:=
 (Region.wanted o (yielded ops a.tmps)=true/\∀W,C W->(execOp a.eval o).run P W= .ok (.value v) W)\/(Region.wanted o (yielded ops a.tmps)=false/\v=undef)
theorem Gives.eff {o:Oper} {a:Act} {C:World->Prop} {v:Value} (h:Gives P ops o a C v) (w:World) (hC:C w) (K:(Act->Act)->World->Prop):
  eff P ops o a w K↔K (fun a=>a.put o.dst v) w:=by
 unfold Lexi.eff;rcases h with⟨h1,h2⟩|⟨h1,rfl⟩
 ·rw[if_pos h1,h2 w hC];exact Iff.rfl
 ·rw[if_neg (by simp[h1])]
theorem Gives.same {o:Oper} {a a':Act} {C:World->Prop} {v:Value} (h:Gives P ops o a C v) (he:execOp a'.eval o=execOp a.eval o)
  (hw:Region.wanted o (yielded ops a'.tmps)=Region.wanted o (yielded ops a.tmps)):Gives P ops o a' C v:=by
 unfold Gives at *; rw[he,hw];exact h
def Valued (P:Program) (s:Sem Next):Prop:=∀w x w',s.run P w= .ok x w'->∃v,x= .value v
theorem Valued.mk (s:Sem Value):Valued P (do Pure.pure (Next.value (<-s))):=fun w x w' e=>by
 rw[Sem.run_bind] at e;cases hs:s.run P w with
 |halt h w1=>rw[hs] at e;cases e
 |ok a w1=>rw[hs] at e;simp only[Result.andThen_ok,Sem.run_pure] at e;injection e with e1 _;exact⟨a,e1.symm⟩
theorem Valued.bind {α:Type} (s:Sem α) {f:α->Sem Next} (h:∀a,Valued P (f a)):Valued P (s >>= f):=fun w x w' e=>by
 rw[Sem.run_bind] at e;cases hs:s.run P w with
 |halt h w1=>rw[hs] at e;cases e
 |ok a w1=>rw[hs] at e;exact h a _ _ _ e
theorem Valued.pure (v:Value):Valued P (Pure.pure (Next.value v)):=fun w x w' e=>by injection e with e1 _;exact⟨v,e1.symm⟩
theorem Valued.never {s:Sem Next} (h:Never P s):Valued P s:=fun w x w' e=>by obtain⟨_,_,h⟩:=h w;rw[h] at e;cases e
theorem Never.nilDeref:Never P (runtimePanic .nilDeref:Sem Next):=Never.bind _ fun _=>Never.goPanic _
theorem Xf {ρ ρ':Operand->Value} (op:Op) (h:∀x∈op.operands,ρ x=ρ' x):Ga ρ op=Ga ρ' op:=by
 cases op<;>first|rfl|skip
 case binOp=>simp only[Ga];rw[h _ (by simp[Op.operands]),h _ (by simp[Op.operands])]
 case nilCheck=>simp only[Ga];rw[h _ (by simp[Op.operands])]
 case call c=>
  obtain⟨callee,args,ts⟩:=c;simp only[Ga,Gc];cases callee<;>first|rfl|skip
  rename_i bi
  cases bi<;>first|rfl|skip
  simp only[];split
  ·rename_i hs
   obtain⟨x,rfl⟩:=Array.size_eq_one_iff.1 hs;simp only[List.getElem?_toArray,List.getElem?_cons_zero,Option.all_some];rw[h x (by simp[Op.operands,Call.operands])]
  ·rfl
theorem G.evals {o:Oper} {g:Act->Act} (h:G o g) (a:Act) (oi:Oper) (hd:∀d,o.dst=some d->d∉oi.looksAt ops):∀x∈oi.op.operands,(g a).eval x=a.eval x:=by
 intro x hx;have key:∀(b:Act) (u:Value),(b.put o.dst u).eval x=b.eval x:=fun b u=>Act.eval_put fun d hd' hxd=>hd d hd' (by
  subst hxd;exact List.mem_append_left _ (List.mem_filterMap.2 ⟨.tmp d,by simpa using hx,rfl⟩))
 rcases h with⟨u,rfl⟩|⟨d,rfl⟩
 ·exact key a u
 ·dsimp only;rw[key];rfl
theorem GS (ρ:Operand->Value) (o:Oper) (h:(G8 P o.op||Yn o.op||A7 o.op)=true):Valued P (execOp ρ o):=by
 obtain⟨dst,op,type,pos,after,guard⟩:=o;cases op<;>first|(cases h;done)|exact Valued.mk _|skip
 case move=>intro w x w' e;injection e with e1 _;exact⟨_,e1.symm⟩
 case assign=>intro w x w' e;injection e with e1 _;exact⟨_,e1.symm⟩
 case pick c a b=>
  intro w x w' e;simp only[execOp,Sem.run_bind] at e;cases hs:(asBool (ρ c)).run P w with
  |halt h w1=>rw[hs] at e;cases e
  |ok b w1=>rw[hs] at e;simp only[Result.andThen_ok,Sem.run_pure] at e;injection e with e1 _;exact⟨_,e1.symm⟩
 case nilCheck y=>
  simp only[execOp]
  repeat' (first|exact Valued.pure _|exact Valued.never Never.nilDeref|exact Valued.never (fun w=>⟨_,w,rfl⟩)|refine Valued.bind _ (fun _=> ?_)|split)
 case call c=>
  obtain⟨callee,args,ts⟩:=c;simp only[G8,Yn,A7,Bool.or_false,Gc] at h;cases callee<;>first|(cases h;done)|skip
  rename_i bi
  cases bi<;>first|(cases h;done)|skip
  simp only[execOp,resolve,invoke,builtin];exact Valued.mk (Builtin.len_ ts type _)
theorem YB {o:Oper} {a:Act} {w:World} {K:(Act->Act)->World->Prop} (hp:G8 P o.op=true)
  (hv:Region.wanted o (yielded ops a.tmps)=true->Ga a.eval o.op=true) (h:eff P ops o a w K):∃v,Gives P ops o a (fun _=>True) v:=by
 cases hw:Region.wanted o (yielded ops a.tmps) with
 |false=>exact⟨undef,.inr ⟨hw,rfl⟩⟩
 |true=>
  unfold eff at h;rw[if_pos hw] at h;have hpure:=O4 a.eval o hp (hv hw);cases hr:(execOp a.eval o).run P w with
  |halt x w'=>rw[hr] at h;exact h.elim
  |ok x w'=>
   obtain⟨v,rfl⟩:=GS a.eval o (by simp[hp]) w x w' hr;exact⟨v,.inl ⟨hw,fun W _=>(hpure _ _ _ hr).2 W⟩⟩
theorem Eu {o:Oper} {a:Act} {w:World} {K:(Act->Act)->World->Prop} (hp:Yn o.op=true) (h:eff P ops o a w K):∃v,Gives P ops o a (Ext w) v:=by
 cases hw:Region.wanted o (yielded ops a.tmps) with
 |false=>exact⟨undef,.inr ⟨hw,rfl⟩⟩
 |true=>
  unfold eff at h;rw[if_pos hw] at h;have hread:=Df (P:=P) a.eval o hp;cases hr:(execOp a.eval o).run P w with
  |halt x w'=>rw[hr] at h;exact h.elim
  |ok x w'=>
   obtain⟨v,rfl⟩:=GS (P:=P) a.eval o (by simp[hp]) w x w' hr;exact⟨v,.inl ⟨hw,fun W hW=>(hread _ _ _ hr).2 W hW⟩⟩
theorem Mk {o:Oper} {a:Act} {w:World} {K:(Act->Act)->World->Prop} (hp:(Yn o.op||A7 o.op)=true) (h:eff P ops o a w K):
  eff P ops o a w (fun g w'=>Ext w w'/\K g w'):=by
 unfold eff at*;split
 ·rename_i hw
  rw[if_pos hw] at h;cases hr:(execOp a.eval o).run P w with
  |halt x w'=>rw[hr] at h;exact h.elim
  |ok x w'=>
   obtain⟨v,rfl⟩:=GS (P:=P) a.eval o (by rw[Bool.or_assoc,hp];simp) w x w' hr;rw[hr] at h;refine⟨?_,h⟩;cases h1:Yn o.op with
   |true=>exact(Df (P:=P) a.eval o h1).new _ _ _ hr
   |false=>exact Ci (P:=P) a.eval o (by simpa [h1] using hp) _ _ _ hr
 ·rename_i hw;rw[if_neg hw] at h;exact⟨Ext.refl _,h⟩
def E8 (P:Program) (ops:Array Oper) (x y:Oper):Bool:=
 x.apart ops y&&(G8 P x.op||G8 P y.op||(Yn x.op&&(Yn y.op||A7 y.op)))
theorem So {i j:Nat} {oi oj:Oper} (hi:ops[i]? =some oi) (hj:ops[j]? =some oj) (hQ:OnlyN Q) (hsw:E8 P ops oi oj=true)
  (hsi:∀cs b,oi.op≠ .select cs b) (hsj:∀cs b,oj.op≠ .select cs b) {a:Act} {w:World} {K:Act->World->Prop}
  (hvi:Region.wanted oi (yielded ops a.tmps)=true->Ga a.eval oi.op=true) (hvj:Region.wanted oj (yielded ops a.tmps)=true->Ga a.eval oj.op=true)
  (H:wpOp P ops Q i (wpOp P ops Q j K) a w):wpOp P ops Q j (wpOp P ops Q i K) a w:=by
 simp only[E8,Bool.and_eq_true] at hsw;obtain⟨hap,hcl⟩:=hsw;obtain⟨h1,h2,h3⟩:=Oper.apart_spec hap;have h2':∀d,oj.dst=some d->oi.dst≠some d:=fun d e e'=>h2 d e' e;rw[Z8 hi hQ] at H;rw[Z8 hj hQ];have stepj:∀v,eff P ops oj (a.put oi.dst v) w (fun g w'=>K (g (a.put oi.dst v)) w')->eff P ops oj a w (fun g w'=>K ((g a).put oi.dst v) w'):=by
  intro v hh;have:=P2 (a':=a) (execOp_put oj hsj a oi.dst v h1).symm (wanted_put oj a oi.dst v h1).symm hh;exact XE (fun g w' hg hk=>by rw[<-hg.comm a oi.dst v h2];exact hk) this
 by_cases c1:G8 P oi.op=true
 ·obtain⟨v,hv⟩:=YB c1 hvi H;rw[hv.eff w trivial] at H;rw[Z8 hj hQ] at H;refine XE (fun g w' hg hk=> ?_) (stepj v H);rw[Z8 hi hQ];have hv':=hv.same (hg.exec (ops:=ops) a oi hsi h3) (hg.wanted a oi h3);rw[hv'.eff w' trivial];exact hk
 ·by_cases c2:G8 P oj.op=true
  ·obtain⟨g0,w0,hg0,hk0⟩:=GI H;rw[Z8 hj hQ] at hk0;obtain⟨v,hv0⟩:=YB c2 (fun hw=>by
    have hw':Region.wanted oj (yielded ops a.tmps)=true:=by rw[<-hg0.wanted (ops:=ops) a oj h1];exact hw
    have:=hvj hw';rw[Xf oj.op (hg0.evals (ops:=ops) a oj h1)];exact this) hk0
   have hv:=hv0.same (hg0.exec (ops:=ops) a oj hsj h1).symm (hg0.wanted a oj h1).symm;rw[hv.eff w trivial,Z8 hi hQ];have H':eff P ops oi a w (fun g w'=>K (g (a.put oj.dst v)) w'):=XE (fun g w' hg hk=>by
    rw[Z8 hj hQ] at hk;have hv':=hv.same (hg.exec (ops:=ops) a oj hsj h1) (hg.wanted a oj h1);rw[hv'.eff w' trivial] at hk;rw[hg.comm a oj.dst v h2'];exact hk) H
   exact P2 (execOp_put oi hsi a oj.dst v h3) (wanted_put oi a oj.dst v h3) H'
  ·simp only[c1,c2,Bool.false_or,Bool.and_eq_true] at hcl;obtain⟨c3,c4⟩:=hcl;obtain⟨v,hv⟩:=Eu c3 H;rw[hv.eff w (Ext.refl _)] at H;rw[Z8 hj hQ] at H;refine XE (fun g w' hg hk=> ?_) (Mk c4 (stepj v H));rw[Z8 hi hQ];have hv':=hv.same (hg.exec (ops:=ops) a oi hsi h3) (hg.wanted a oi h3);rw[hv'.eff w' hk.1];exact hk.2
def LW:Op->Bool
 | .binOp .. | .nilCheck _=>true
 | .call c=>(Gc c).isSome
 |_=>false
theorem G0 (ρ:Operand->Value) (op:Op) (h:LW op=false):Ga ρ op=true:=by
 cases op<;>first|rfl|(cases h;done)|skip
 case call c=>
  simp only[LW] at h;simp only[Ga];cases hc:Gc c with
  |none=>rfl
  |some x=>rw[hc] at h;cases h
def Rm:Op->Bool
 | .select .. =>false
 |_=>true
def En (P:Program) (ops:Array Oper) (m:Array Nat):Bool:=
 let n:=ops.size
 (List.range n).all fun j=>(ops[j]?).all fun oj=>
  Rm oj.op&&
  (oj.after.toList.all fun e=> !Region.binds .any e||e.on<j)&&
  (List.range n).all fun i=>(ops[i]?).all fun oi=>
   (!(m.getD j 0).testBit i||oj.after.toList.any fun e=>Region.binds .any e&&(e.on==i||(m.getD e.on 0).testBit i))&&
   (!(i<j)||(m.getD j 0).testBit i||E8 P ops oi oj)&&
   (!LW oj.op||(match oi.dst with|some d=> !(oj.looksAt ops).contains d||(m.getD j 0).testBit i|none=>true))
structure Lexed (P:Program) (ops:Array Oper) (m:Array Nat):Prop where
 sel:∀(j:Nat) oj,ops[j]? =some oj->∀cs b,oj.op≠ .select cs b
 low:∀(j:Nat) oj,ops[j]? =some oj->∀e∈oj.after,Region.binds .any e=true->e.on<j
 mask:∀(j i:Nat) oj oi,ops[j]? =some oj->ops[i]? =some oi->(m.getD j 0).testBit i=true->∃e∈oj.after,Region.binds .any e=true/\(e.on=i\/(m.getD e.on 0).testBit i=true)
 swap:∀(j i:Nat) oj oi,ops[j]? =some oj->ops[i]? =some oi->i<j->(m.getD j 0).testBit i=true\/E8 P ops oi oj=true
 dsts:∀(j i:Nat) oj oi d,ops[j]? =some oj->ops[i]? =some oi->LW oj.op=true->oi.dst=some d->d∈oj.looksAt ops->(m.getD j 0).testBit i=true
theorem Co {m:Array Nat} (h:En P ops m=true):Lexed P ops m:=by
 unfold En at h;simp only[List.all_eq_true,List.mem_range] at h;have lt:∀{j:Nat} {o:Oper},ops[j]? =some o->j<ops.size:=fun e=>(Array.getElem?_eq_some_iff.1 e).1;have hj:∀(j:Nat) oj,ops[j]? =some oj->_:=fun j oj e=>by
  have:=h j (lt e);rw[e] at this;simp only[Option.all_some,Bool.and_eq_true,List.all_eq_true,List.mem_range] at this;exact this
 have hji:∀(j i:Nat) oj oi,ops[j]? =some oj->ops[i]? =some oi->_:=fun j i oj oi e e'=>by
  have:=(hj j oj e).2 i (lt e');rw[e'] at this;simp only[Option.all_some,Bool.and_eq_true] at this;exact this
 refine⟨?_,?_,?_,?_,?_⟩
 ·intro j oj e cs b hs;have:=(hj j oj e).1.1;rw[hs] at this;cases this
 ·intro j oj e ed hed hb;have:=(hj j oj e).1.2 ed (by simpa using hed);rw[hb] at this;simpa using this
 ·intro j i oj oi e e' hb;have:=(hji j i oj oi e e').1.1;rw[hb] at this;simp only[Bool.not_true,Bool.false_or,List.any_eq_true,Bool.and_eq_true,Bool.or_eq_true,beq_iff_eq] at this;obtain⟨ed,h1,h2,h3⟩:=this;exact⟨ed,by simpa using h1,h2,h3⟩
 ·intro j i oj oi e e' hlt;have:=(hji j i oj oi e e').1.2;simpa [hlt] using this
 ·intro j i oj oi d e e' ha hd hm;have:=(hji j i oj oi e e').2;rw[ha,hd] at this;simpa [hm] using this
def Down (ops:Array Oper) (listed:Array Bool):Prop:=
 ∀(x:Nat) o,listed.getD x false=true->ops[x]? =some o->∀e∈o.after,Region.binds .any e=true->listed.getD e.on false=true
theorem ready_iff {listed:Array Bool} {i:Nat}:i∈Region.ready .any ops listed↔
  ∃o,ops[i]? =some o/\listed.getD i true=false/\∀e∈o.after,Region.binds .any e=true->listed.getD e.on false=true:=by
 unfold Region.ready;simp only[List.mem_filter,List.mem_range,Bool.and_eq_true,Bool.not_eq_true'];constructor
 ·rintro⟨h1,h2,h3⟩;cases ho:ops[i]? with
  |none=>rw[ho] at h3;cases h3
  |some o=>
   rw[ho] at h3;simp only[Option.map_some,Option.getD_some,Array.all_eq_true] at h3;refine⟨o,rfl,h2,fun e he hb=> ?_⟩;obtain⟨k,hk,rfl⟩:=Array.mem_iff_getElem.1 he;have:=h3 k hk;rw[hb] at this;simpa using this
 ·rintro⟨o,ho,h2,h3⟩;refine⟨(Array.getElem?_eq_some_iff.1 ho).1,h2,?_⟩;rw[ho];simp only[Option.map_some,Option.getD_some,Array.all_eq_true];intro k hk;cases hb:Region.binds .any o.after[k] with
  |false=>rfl
  |true=>simp[h3 _ (Array.getElem_mem hk) hb]
theorem GQ {m:Array Nat} (L:Lexed P ops m) {listed:Array Bool} (hd:Down ops listed):∀(n x:Nat),x<n->∀o,ops[x]? =some o->
  (∀e∈o.after,Region.binds .any e=true->listed.getD e.on false=true)->∀i oi,ops[i]? =some oi->(m.getD x 0).testBit i=true->listed.getD i false=true:=by
 intro n
 induction n with
 |zero=>intro x hx;omega
 |succ n ih=>
  intro x hx o ho hr i oi hi hb;obtain⟨e,he,hbe,h⟩:=L.mask x i o oi ho hi hb;have hl:=hr e he hbe;rcases h with rfl|h
  ·exact hl
  ·have hlt:=L.low x o ho e he hbe;have hsz:e.on<ops.size:=Nat.lt_trans hlt (Array.getElem?_eq_some_iff.1 ho).1;have ho':ops[e.on]? =some ops[e.on]:=Array.getElem?_eq_getElem hsz;exact ih e.on (by omega) _ ho' (fun e' he' hb'=>hd e.on _ hl ho' e' he' hb') i oi hi h
theorem Kg (listed:Array Bool) (i x:Nat) (d:Bool) (hi:i<listed.size):(listed.setIfInBounds i true).getD x d=if x=i then true else listed.getD x d:=by
 simp only[Array.getD_eq_getD_getElem?];by_cases h:x=i
 ·subst h;simp[hi]
 ·rw[Array.getElem?_setIfInBounds_ne (by omega),if_neg h]
theorem Xo {listed:Array Bool} {x:Nat} (hx:x<listed.size):listed.getD x true=listed.getD x false:=by
 simp[Array.getD_eq_getD_getElem?,hx]
theorem Down.set {listed:Array Bool} (hd:Down ops listed) {i:Nat} (hi:i∈Region.ready .any ops listed) (hs:listed.size=ops.size):Down ops (listed.setIfInBounds i true):=by
 obtain⟨o,ho,_,hr⟩:=ready_iff.1 hi;have hlt:i<listed.size:=by rw[hs];exact(Array.getElem?_eq_some_iff.1 ho).1
 intro x ox hx hox e he hb;rw[Kg _ _ _ _ hlt] at hx ⊢;split
 ·rfl
 ·split at hx
  ·rename_i h;subst h;rw[ho] at hox;injection hox with hox;subst hox;exact hr e he hb
  ·exact hd x ox hx hox e he hb
theorem XV {listed:Array Bool} {i j:Nat} (hs:listed.size=ops.size) (hi:i∈Region.ready .any ops listed) (hj:j∈Region.ready .any ops listed) (hne:j≠i):j∈Region.ready .any ops (listed.setIfInBounds i true):=by
 obtain⟨o,ho,hu,hr⟩:=ready_iff.1 hj;obtain⟨oi,hoi,_,_⟩:=ready_iff.1 hi;have hlt:i<listed.size:=by rw[hs];exact(Array.getElem?_eq_some_iff.1 hoi).1
 refine ready_iff.2 ⟨o,ho,by rw[Kg _ _ _ _ hlt,if_neg hne];exact hu,fun e he hb=> ?_⟩;rw[Kg _ _ _ _ hlt];split
 ·rfl
 ·exact hr e he hb
theorem C4 (hQ:OnlyN Q):∀(fuel:Nat) (listed:Array Bool) (a:Act) (w:World),listed.size=ops.size->wpAny P .any ops Q fuel listed a w->
  ∃a' w',Q .normal a' w'/\∀t:Tmp,(∀(x:Nat) o,ops[x]? =some o->listed.getD x true=false->o.dst≠some t)->a'.tmps[t]? =a.tmps[t]? :=by
 intro fuel
 induction fuel with
 |zero=>intro listed a w _ h;exact⟨a,w,h.2,fun _ _=>rfl⟩
 |succ fuel ih=>
  intro listed a w hs h;cases hr:Region.ready .any ops listed with
  |nil=>exact⟨a,w,h.1 hr,fun _ _=>rfl⟩
  |cons i rest=>
   have hi:i∈Region.ready .any ops listed:=by rw[hr];exact List.mem_cons_self
   obtain⟨o,ho,hu,_⟩:=ready_iff.1 hi;have hlt:i<listed.size:=by rw[hs];exact(Array.getElem?_eq_some_iff.1 ho).1
   have h1:=h.2 i hi;rw[Z8 ho hQ] at h1;obtain⟨g,w1,hg,hk⟩:=GI h1;obtain⟨a',w',hq,ht⟩:=ih _ _ _ (by simpa using hs) hk;refine⟨a',w',hq,fun t hx=> ?_⟩;rw[ht t (fun x ox hox hux=>hx x ox hox (by
    rw[Kg _ _ _ _ hlt] at hux;split at hux
    ·cases hux
    ·exact hux))]
   exact hg.tmps a t (hx i o ho hu)
def An (ops:Array Oper) (a:Act):Bool:=ops.toList.all fun o=> !Region.wanted o (yielded ops a.tmps)||Ga a.eval o.op
theorem Sm {a a':Act} {x:Operand} (h:∀t,x= .tmp t->a'.tmps[t]? =a.tmps[t]?):a'.eval x=a.eval x:=by
 cases x with
 |tmp t=>
  have:=h t rfl;simp only[Act.eval];simp[Array.getD_eq_getD_getElem?,this]
 |_=>rfl
theorem BY {m:Array Nat} (L:Lexed P ops m) (hQ:OnlyN Q) (hend:∀a w,Q .normal a w->An ops a=true) {listed:Array Bool} {a:Act}
  (hs:listed.size=ops.size) (hd:Down ops listed) (h:∃a1 w1 fuel' listed',listed'.size=ops.size/\(∀x,listed'.getD x true=false->listed.getD x true=false)/\
   (∀t:Tmp,(∀(x:Nat) o,ops[x]? =some o->listed.getD x true=false->o.dst≠some t)->a1.tmps[t]? =a.tmps[t]?)/\wpAny P .any ops Q fuel' listed' a1 w1)
  {j:Nat} {oj:Oper} (hj:j∈Region.ready .any ops listed) (hoj:ops[j]? =some oj) (hw:Region.wanted oj (yielded ops a.tmps)=true):Ga a.eval oj.op=true:=by
 cases ha:LW oj.op with
 |false=>exact G0 _ _ ha
 |true=>
  obtain⟨a1,w1,fuel',listed',hs',hsub,ht1,hany⟩:=h;obtain⟨a',w',hq,ht⟩:=C4 hQ fuel' listed' a1 w1 hs' hany;have hok:=hend a' w' hq;obtain⟨o,ho,hu,hr⟩:=ready_iff.1 hj;rw[hoj] at ho;injection ho with ho;subst ho;have same:∀t∈oj.looksAt ops,a'.tmps[t]? =a.tmps[t]? :=by
   intro t htm;have hno:∀(x:Nat) o,ops[x]? =some o->listed.getD x true=false->o.dst≠some t:=by
    intro x ox hox hux hdx;have hb:=L.dsts j x oj ox t hoj hox ha hdx htm;have hl:=GQ L hd (j+1) j (by omega) oj hoj hr x ox hox hb;rw[Xo (by rw[hs];exact(Array.getElem?_eq_some_iff.1 hox).1),hl] at hux;cases hux
   rw[ht t (fun x ox hox hux=>hno x ox hox (hsub x hux)),ht1 t hno]
  have hev:∀x∈oj.op.operands,a'.eval x=a.eval x:=fun x hx=>Sm fun t e=>same t (by
   subst e;exact List.mem_append_left _ (List.mem_filterMap.2 ⟨.tmp t,by simpa using hx,rfl⟩))
  have hwt:Region.wanted oj (yielded ops a'.tmps)=Region.wanted oj (yielded ops a.tmps):=by
   unfold Region.wanted;cases hg:oj.guard with
   |none=>rfl
   |some p=>
    obtain⟨k,b⟩:=p;simp only[];have:yielded ops a'.tmps k=yielded ops a.tmps k:=by
     unfold yielded;cases hk:(ops[k]?).bind (·.dst) with
     |none=>rfl
     |some t=>
      have:=same t (by unfold Oper.looksAt;rw[hg];simp[hk]);simp[this]
    rw[this]
  unfold An at hok;have:=List.all_eq_true.1 hok oj (by
   have:=Array.mem_of_getElem? hoj;simpa using this)
  rw[hwt,hw] at this;rw[<-Xf oj.op hev];simpa using this
theorem LY {m:Array Nat} (L:Lexed P ops m) (hQ:OnlyN Q) (hend:∀a w,Q .normal a w->An ops a=true) {i:Nat} {oi:Oper} (hi:ops[i]? =some oi):
  ∀(fuel:Nat) (listed:Array Bool) (a:Act) (w:World),listed.size=ops.size->Down ops listed->(∀x,x<i->listed.getD x true=true)->i∈Region.ready .any ops listed->
   wpOp P ops Q i (wpAny P .any ops Q fuel (listed.setIfInBounds i true)) a w->wpAny P .any ops Q (fuel+1) listed a w:=by
 intro fuel
 induction fuel with
 |zero=>
  intro listed a w hs hd hlow hr H;refine⟨fun h=>(by rw[h] at hr;cases hr),fun j hj=> ?_⟩;by_cases hji:j=i
  ·subst hji;exact H
  ·exfalso;rw[Z8 hi hQ] at H;obtain⟨g,w1,_,hk⟩:=GI H;have:=XV hs hr hj hji;rw[hk.1] at this;cases this
 |succ fuel ih=>
  intro listed a w hs hd hlow hr H;refine⟨fun h=>(by rw[h] at hr;cases hr),fun j hj=> ?_⟩;by_cases hji:j=i
  ·subst hji;exact H
  ·have hlti:i<listed.size:=by rw[hs];exact(Array.getElem?_eq_some_iff.1 hi).1
   obtain⟨oj,hoj,huj,hrj⟩:=ready_iff.1 hj;have hltj:j<listed.size:=by rw[hs];exact(Array.getElem?_eq_some_iff.1 hoj).1
   obtain⟨_,hoi',hui,_⟩:=ready_iff.1 hr;have hlt:i<j:=by
    rcases Nat.lt_or_ge j i with h|h
    ·rw[hlow j h] at huj;cases huj
    ·omega
   have hswap:E8 P ops oi oj=true:=by
    rcases L.swap j i oj oi hoj hi hlt with h|h
    ·have:=GQ L hd (j+1) j (by omega) oj hoj hrj i oi hi h;rw[Xo hlti,this] at hui;cases hui
    ·exact h
   have H':wpOp P ops Q i (wpOp P ops Q j (wpAny P .any ops Q fuel ((listed.setIfInBounds i true).setIfInBounds j true))) a w:=
    wpOp_mono (fun a w h=>h.2 j (XV hs hr hj hji)) H
   have hex:∃a1 w1 fuel' listed',listed'.size=ops.size/\(∀x,listed'.getD x true=false->listed.getD x true=false)/\
     (∀t:Tmp,(∀(x:Nat) o,ops[x]? =some o->listed.getD x true=false->o.dst≠some t)->a1.tmps[t]? =a.tmps[t]?)/\wpAny P .any ops Q fuel' listed' a1 w1:=by
    rw[Z8 hi hQ] at H;obtain⟨g,w1,hg,hk⟩:=GI H;refine⟨g a,w1,_,_,by simpa using hs,fun x hx=> ?_,fun t ht=>hg.tmps a t (ht i oi hi hui),hk⟩;rw[Kg _ _ _ _ hlti] at hx;split at hx
    ·cases hx
    ·exact hx
   have H2:=So hi hoj hQ hswap (L.sel i oi hi) (L.sel j oj hoj) (fun hw=>BY L hQ hend hs hd hex hr hi hw) (fun hw=>BY L hQ hend hs hd hex hj hoj hw) H';refine wpOp_mono (fun a' w' h=> ?_) H2;refine ih _ a' w' (by simpa using hs) (hd.set hj hs) (fun x hx=> ?_) (XV hs hj hr (Ne.symm hji)) ?_
   ·rw[Kg _ _ _ _ hltj];split
    ·rfl
    ·exact hlow x hx
   ·rw[Array.setIfInBounds_comm _ _ (Ne.symm hji)] at h;exact h
theorem Mu {m:Array Nat} (L:Lexed P ops m) (hQ:OnlyN Q) (hend:∀a w,Q .normal a w->An ops a=true):
  ∀(r k:Nat) (listed:Array Bool) (a:Act) (w:World),k+r=ops.size->listed.size=ops.size->(∀x,x<ops.size->listed.getD x false=decide (x<k))->
   wpOps P ops Q (List.range' k r) a w->wpAny P .any ops Q r listed a w:=by
 intro r
 induction r with
 |zero=>
  intro k listed a w hk hs hl h;refine⟨?_,h⟩;rw[List.eq_nil_iff_forall_not_mem];intro i hi;obtain⟨o,ho,hu,_⟩:=ready_iff.1 hi;have hlt:=(Array.getElem?_eq_some_iff.1 ho).1;rw[Xo (by rw[hs];exact hlt),hl i hlt] at hu;simp at hu;omega
 |succ r ih=>
  intro k listed a w hk hs hl h;rw[List.range'_succ,wpOps_cons] at h;have hlt:k<ops.size:=by omega
  have ho:ops[k]? =some ops[k]:=Array.getElem?_eq_getElem hlt;have hd:Down ops listed:=by
   intro x o hx hox e he hb;have hxs:=(Array.getElem?_eq_some_iff.1 hox).1;have h1:=L.low x o hox e he hb;rw[hl x hxs] at hx;rw[hl e.on (by omega)];simp at hx ⊢;omega
  have hready:k∈Region.ready .any ops listed:=by
   refine ready_iff.2 ⟨_,ho,?_,fun e he hb=> ?_⟩
   ·rw[Xo (by rw[hs];exact hlt),hl k hlt];simp
   ·have h1:=L.low k _ ho e he hb;rw[hl e.on (by omega)];simp;omega
  refine LY L hQ hend ho r listed a w hs hd (fun x hx=> ?_) hready (wpOp_mono (fun a w h=>ih (k+1) _ a w (by omega) (by simpa using hs) (fun x hx=> ?_) h) h)
  ·rw[Xo (by rw[hs];omega),hl x (by omega)];simp;omega
  ·rw[Kg _ _ _ _ (by rw[hs];exact hlt),hl x hx];split
   ·rename_i e;subst e;simp
   ·rename_i hne
    by_cases h1:x<k<;>simp[h1]<;>omega
def Behind (ops:Array Oper) (Q:Exit->Act->World->Prop):Exit->Act->World->Prop
 | .normal,a,w=>An ops a=true/\Q .normal a w
 |_,_,_=>False
end
end Go.Proofs.Lexi
namespace Go.Proofs.YthkpckgcgkijbaaGreatDoor
open Go.RowKit Go.Proofs.Lexi Go.Proofs.Tryz
theorem mixed:prog.follows .mixedOrders=true:=by kernel_rfl
theorem Zw {a b:Bool} (h:a=b):Ending.returned (.bool a)= .returned (.bool b):=by rw[h]
theorem ZB {a b:Int} (h:a=b):Ending.returned (.int .i64 a)= .returned (.int .i64 b):=by rw[h]
theorem QA {w:World} {b o:Nat} {cs:Array Value} {t:TypeId} {fz:Nat×Nat} (h:w.heap[b]? =some (.cells cs t fz)):w.cell? ⟨b,o,none⟩=cs[o]? :=by
 simp[World.cell?,h]
theorem zh {p:Prop} (h:p):Hid p:=Lib.hid h
theorem zl {n:Nat}:n<=n:=Nat.le_refl n
theorem zr {fn:Func} {R:Ending->World->Prop} {a:Act} {w:World} {v:Value} (hr:(results fn a.tmps).run prog w= .ok v w) (hR:R (.returned v) w) (hd:a.defers=[]:=by rfl):bodyPost prog fn R .ret a w:=bodyPost_ret hr hd hR
instance:Coe World Nat:=⟨fun w=>w.heap.size⟩
instance:Coe Nat Addr:=⟨fun b=>⟨b,0,none⟩⟩
instance:Coe Addr Value:=⟨fun a=> .pointer (some a)⟩
instance:Coe Int Value:=⟨fun n=> .int .i64 n⟩
instance:Coe ByteArray Value:=⟨fun s=> .string s⟩
theorem zc3 {w:World} {b:Nat} {c0 c1 c2:Value} {t:TypeId} {fz:Nat×Nat} (h:w.heap[b]? =some (.cells #[c0,c1,c2] t fz)):w.cell? b=some c0/\w.cell? ⟨b,1,none⟩=some c1/\w.cell? ⟨b,2,none⟩=some c2:=⟨(by rw[QA h];rfl),(by rw[QA h];rfl),(by rw[QA h];rfl)⟩
theorem zf3 {w:World} {b:Nat} {cs:Array Value} {t:TypeId} (h:w.heap[b]? =some (.cells cs t (0,0))):w.frozen? b=false/\w.frozen? ⟨b,1,none⟩=false/\w.frozen? ⟨b,2,none⟩=false:=⟨(by simp[World.frozen?,h]),(by simp[World.frozen?,h]),(by simp[World.frozen?,h])⟩
theorem zc5 {w:World} {b:Nat} {c0 c1 c2 c3 c4:Value} {t:TypeId} {fz:Nat×Nat} (h:w.heap[b]? =some (.cells #[c0,c1,c2,c3,c4] t fz)):w.cell? b=some c0/\w.cell? ⟨b,1,none⟩=some c1/\w.cell? ⟨b,2,none⟩=some c2/\w.cell? ⟨b,3,none⟩=some c3/\w.cell? ⟨b,4,none⟩=some c4:=⟨(by rw[QA h];rfl),(by rw[QA h];rfl),(by rw[QA h];rfl),(by rw[QA h];rfl),(by rw[QA h];rfl)⟩
theorem zf5 {w:World} {b:Nat} {cs:Array Value} {t:TypeId} (h:w.heap[b]? =some (.cells cs t (0,0))):w.frozen? b=false/\w.frozen? ⟨b,1,none⟩=false/\w.frozen? ⟨b,2,none⟩=false/\w.frozen? ⟨b,3,none⟩=false/\w.frozen? ⟨b,4,none⟩=false:=⟨(by simp[World.frozen?,h]),(by simp[World.frozen?,h]),(by simp[World.frozen?,h]),(by simp[World.frozen?,h]),(by simp[World.frozen?,h])⟩
theorem zc9 {w:World} {b:Nat} {c0 c1 c2 c3 c4 c5 c6 c7 c8:Value} {t:TypeId} {fz:Nat×Nat} (h:w.heap[b]? =some (.cells #[c0,c1,c2,c3,c4,c5,c6,c7,c8] t fz)):w.cell? b=some c0/\w.cell? ⟨b,1,none⟩=some c1/\w.cell? ⟨b,2,none⟩=some c2/\w.cell? ⟨b,3,none⟩=some c3/\w.cell? ⟨b,4,none⟩=some c4/\w.cell? ⟨b,5,none⟩=some c5/\w.cell? ⟨b,6,none⟩=some c6/\w.cell? ⟨b,7,none⟩=some c7/\w.cell? ⟨b,8,none⟩=some c8:=⟨(by rw[QA h];rfl),(by rw[QA h];rfl),(by rw[QA h];rfl),(by rw[QA h];rfl),(by rw[QA h];rfl),(by rw[QA h];rfl),(by rw[QA h];rfl),(by rw[QA h];rfl),(by rw[QA h];rfl)⟩
theorem zf9 {w:World} {b:Nat} {cs:Array Value} {t:TypeId} (h:w.heap[b]? =some (.cells cs t (0,0))):w.frozen? b=false/\w.frozen? ⟨b,1,none⟩=false/\w.frozen? ⟨b,2,none⟩=false/\w.frozen? ⟨b,3,none⟩=false/\w.frozen? ⟨b,4,none⟩=false/\w.frozen? ⟨b,5,none⟩=false/\w.frozen? ⟨b,6,none⟩=false/\w.frozen? ⟨b,7,none⟩=false/\w.frozen? ⟨b,8,none⟩=false:=⟨(by simp[World.frozen?,h]),(by simp[World.frozen?,h]),(by simp[World.frozen?,h]),(by simp[World.frozen?,h]),(by simp[World.frozen?,h]),(by simp[World.frozen?,h]),(by simp[World.frozen?,h]),(by simp[World.frozen?,h]),(by simp[World.frozen?,h])⟩
theorem zc10 {w:World} {b:Nat} {c0 c1 c2 c3 c4 c5 c6 c7 c8 c9:Value} {t:TypeId} {fz:Nat×Nat} (h:w.heap[b]? =some (.cells #[c0,c1,c2,c3,c4,c5,c6,c7,c8,c9] t fz)):w.cell? b=some c0/\w.cell? ⟨b,1,none⟩=some c1/\w.cell? ⟨b,2,none⟩=some c2/\w.cell? ⟨b,3,none⟩=some c3/\w.cell? ⟨b,4,none⟩=some c4/\w.cell? ⟨b,5,none⟩=some c5/\w.cell? ⟨b,6,none⟩=some c6/\w.cell? ⟨b,7,none⟩=some c7/\w.cell? ⟨b,8,none⟩=some c8/\w.cell? ⟨b,9,none⟩=some c9:=⟨(by rw[QA h];rfl),(by rw[QA h];rfl),(by rw[QA h];rfl),(by rw[QA h];rfl),(by rw[QA h];rfl),(by rw[QA h];rfl),(by rw[QA h];rfl),(by rw[QA h];rfl),(by rw[QA h];rfl),(by rw[QA h];rfl)⟩
theorem zf10 {w:World} {b:Nat} {cs:Array Value} {t:TypeId} (h:w.heap[b]? =some (.cells cs t (0,0))):w.frozen? b=false/\w.frozen? ⟨b,1,none⟩=false/\w.frozen? ⟨b,2,none⟩=false/\w.frozen? ⟨b,3,none⟩=false/\w.frozen? ⟨b,4,none⟩=false/\w.frozen? ⟨b,5,none⟩=false/\w.frozen? ⟨b,6,none⟩=false/\w.frozen? ⟨b,7,none⟩=false/\w.frozen? ⟨b,8,none⟩=false/\w.frozen? ⟨b,9,none⟩=false:=⟨(by simp[World.frozen?,h]),(by simp[World.frozen?,h]),(by simp[World.frozen?,h]),(by simp[World.frozen?,h]),(by simp[World.frozen?,h]),(by simp[World.frozen?,h]),(by simp[World.frozen?,h]),(by simp[World.frozen?,h]),(by simp[World.frozen?,h]),(by simp[World.frozen?,h])⟩
theorem zc11 {w:World} {b:Nat} {c0 c1 c2 c3 c4 c5 c6 c7 c8 c9 c10:Value} {t:TypeId} {fz:Nat×Nat} (h:w.heap[b]? =some (.cells #[c0,c1,c2,c3,c4,c5,c6,c7,c8,c9,c10] t fz)):w.cell? b=some c0/\w.cell? ⟨b,1,none⟩=some c1/\w.cell? ⟨b,2,none⟩=some c2/\w.cell? ⟨b,3,none⟩=some c3/\w.cell? ⟨b,4,none⟩=some c4/\w.cell? ⟨b,5,none⟩=some c5/\w.cell? ⟨b,6,none⟩=some c6/\w.cell? ⟨b,7,none⟩=some c7/\w.cell? ⟨b,8,none⟩=some c8/\w.cell? ⟨b,9,none⟩=some c9/\w.cell? ⟨b,10,none⟩=some c10:=⟨(by rw[QA h];rfl),(by rw[QA h];rfl),(by rw[QA h];rfl),(by rw[QA h];rfl),(by rw[QA h];rfl),(by rw[QA h];rfl),(by rw[QA h];rfl),(by rw[QA h];rfl),(by rw[QA h];rfl),(by rw[QA h];rfl),(by rw[QA h];rfl)⟩
theorem zf11 {w:World} {b:Nat} {cs:Array Value} {t:TypeId} (h:w.heap[b]? =some (.cells cs t (0,0))):w.frozen? b=false/\w.frozen? ⟨b,1,none⟩=false/\w.frozen? ⟨b,2,none⟩=false/\w.frozen? ⟨b,3,none⟩=false/\w.frozen? ⟨b,4,none⟩=false/\w.frozen? ⟨b,5,none⟩=false/\w.frozen? ⟨b,6,none⟩=false/\w.frozen? ⟨b,7,none⟩=false/\w.frozen? ⟨b,8,none⟩=false/\w.frozen? ⟨b,9,none⟩=false/\w.frozen? ⟨b,10,none⟩=false:=⟨(by simp[World.frozen?,h]),(by simp[World.frozen?,h]),(by simp[World.frozen?,h]),(by simp[World.frozen?,h]),(by simp[World.frozen?,h]),(by simp[World.frozen?,h]),(by simp[World.frozen?,h]),(by simp[World.frozen?,h]),(by simp[World.frozen?,h]),(by simp[World.frozen?,h]),(by simp[World.frozen?,h])⟩
theorem zc14 {w:World} {b:Nat} {c0 c1 c2 c3 c4 c5 c6 c7 c8 c9 c10 c11 c12 c13:Value} {t:TypeId} {fz:Nat×Nat} (h:w.heap[b]? =some (.cells #[c0,c1,c2,c3,c4,c5,c6,c7,c8,c9,c10,c11,c12,c13] t fz)):w.cell? b=some c0/\w.cell? ⟨b,1,none⟩=some c1/\w.cell? ⟨b,2,none⟩=some c2/\w.cell? ⟨b,3,none⟩=some c3/\w.cell? ⟨b,4,none⟩=some c4/\w.cell? ⟨b,5,none⟩=some c5/\w.cell? ⟨b,6,none⟩=some c6/\w.cell? ⟨b,7,none⟩=some c7/\w.cell? ⟨b,8,none⟩=some c8/\w.cell? ⟨b,9,none⟩=some c9/\w.cell? ⟨b,10,none⟩=some c10/\w.cell? ⟨b,11,none⟩=some c11/\w.cell? ⟨b,12,none⟩=some c12/\w.cell? ⟨b,13,none⟩=some c13:=⟨(by rw[QA h];rfl),(by rw[QA h];rfl),(by rw[QA h];rfl),(by rw[QA h];rfl),(by rw[QA h];rfl),(by rw[QA h];rfl),(by rw[QA h];rfl),(by rw[QA h];rfl),(by rw[QA h];rfl),(by rw[QA h];rfl),(by rw[QA h];rfl),(by rw[QA h];rfl),(by rw[QA h];rfl),(by rw[QA h];rfl)⟩
theorem zf14 {w:World} {b:Nat} {cs:Array Value} {t:TypeId} (h:w.heap[b]? =some (.cells cs t (0,0))):w.frozen? b=false/\w.frozen? ⟨b,1,none⟩=false/\w.frozen? ⟨b,2,none⟩=false/\w.frozen? ⟨b,3,none⟩=false/\w.frozen? ⟨b,4,none⟩=false/\w.frozen? ⟨b,5,none⟩=false/\w.frozen? ⟨b,6,none⟩=false/\w.frozen? ⟨b,7,none⟩=false/\w.frozen? ⟨b,8,none⟩=false/\w.frozen? ⟨b,9,none⟩=false/\w.frozen? ⟨b,10,none⟩=false/\w.frozen? ⟨b,11,none⟩=false/\w.frozen? ⟨b,12,none⟩=false/\w.frozen? ⟨b,13,none⟩=false:=⟨(by simp[World.frozen?,h]),(by simp[World.frozen?,h]),(by simp[World.frozen?,h]),(by simp[World.frozen?,h]),(by simp[World.frozen?,h]),(by simp[World.frozen?,h]),(by simp[World.frozen?,h]),(by simp[World.frozen?,h]),(by simp[World.frozen?,h]),(by simp[World.frozen?,h]),(by simp[World.frozen?,h]),(by simp[World.frozen?,h]),(by simp[World.frozen?,h]),(by simp[World.frozen?,h])⟩
theorem Qg (w:World) (o:Obj):(w.alloc o).heap[w.heap.size]? =some o:=by
 show(w.heap.push o)[w.heap.size]? =_;simp
theorem Ql {w:World} {b:Nat} {cs:Array Value} {t:TypeId} {fz:Nat×Nat} (h:w.heap[b]? =some (.cells cs t fz)) (o:Nat) (v:Value):(w.setCell ⟨b,o,none⟩ v).heap[b]? =some (.cells (cs.setIfInBounds o v) t fz):=by
 simp[World.setCell,Array.getElem?_modify,h]
structure Ext (w W:World):Prop where
 size:w.heap.size<=W.heap.size
 blk:∀k,k<w.heap.size->W.heap[k]? =w.heap[k]?
theorem QV {B:Nat} {w w':World} (h:Below B w w') (hB:w.heap.size<=B):Ext w w':=⟨h.size,fun k hk=>h.block k (by omega)⟩
theorem QS {w:World} {base:Nat} {e:TypeId} {size:Nat} {v:Value} {n:Nat} {xs:List Value} (ho:w.ownsRow base e size v n xs) {g:Nat} (hg:v.ownBlock=some g):base<=g/\g<w:=by
 rcases ho.2 with⟨rfl,_⟩|⟨g',cap,cur,rfl,h1,h2,_⟩
 ·cases hg
 ·injection hg with hg;subst hg;exact⟨h1,(Array.getElem?_eq_some_iff.1 h2).1⟩
theorem Qb {w w3:World} {base:Nat} {e:TypeId} {size:Nat} {v:Value} {n:Nat} {xs:List Value} (ho:w.ownsRow base e size v n xs) (hk:∀g,v.ownBlock=some g->w3.heap[g]? =w.heap[g]?):w3.ownsRow base e size v n xs:=by
 obtain⟨h1,h2⟩:=ho;refine⟨h1,?_⟩;rcases h2 with h2|⟨g,cap,cur,hv,hg,hh,r⟩
 ·exact .inl h2
 ·exact .inr ⟨g,cap,cur,hv,hg,by rw[hk g (by rw[hv];rfl)];exact hh,r⟩
theorem QR {w W:World} (h:Ext w W) {base:Nat} {e:TypeId} {size:Nat} {v:Value} {n:Nat} {xs:List Value} (ho:w.ownsRow base e size v n xs):W.ownsRow base e size v n xs:=
 Qb ho fun g hg=>h.blk g (QS ho hg).2
theorem J2 {w:World} {base base':Nat} {e:TypeId} {size:Nat} {v:Value} {n:Nat} {xs:List Value} (h:w.ownsRow base e size v n xs) (hb:base'<=base):w.ownsRow base' e size v n xs:=by
 obtain⟨h1,h2⟩:=h;refine⟨h1,?_⟩;rcases h2 with h2|⟨g,cap,cur,hv,hg,r⟩
 ·exact .inl h2
 ·exact .inr ⟨g,cap,cur,hv,by omega,r⟩
theorem XB {W w':World} (hb:Below W W w') {a:Addr} {v:Value} (h:W.cell? a=some v):w'.cell? a=some v:=by
 rw[hb.cell (World.block_lt_of_cell? _ a h)];exact h
theorem QN {W w1:World} (hb:Below W W w1):(∀b o,b<W.heap.size->w1.cell? ⟨b,o,none⟩=W.cell? ⟨b,o,none⟩)/\(∀b o,b<W.heap.size->w1.frozen? ⟨b,o,none⟩=W.frozen? ⟨b,o,none⟩):=
 ⟨fun b o h=>hb.cell (p:=⟨b,o,none⟩) h,fun b o h=>hb.frozen (p:=⟨b,o,none⟩) h⟩
theorem QE (w:World) (o1 o2:Obj):Below w w ((w.alloc o1).alloc o2):=((Below.refl _ _).alloc zl _).alloc (by simp) _
theorem QM (w:World) (o1 o2 o3:Obj):Below w w (((w.alloc o1).alloc o2).alloc o3):=(QE w o1 o2).alloc (by simp;omega) _
theorem QD {B:Nat} {a w:World} (h:Below B a w) {b:Nat} (hb:B<=b) (x y:Value):Below B a ((w.setCell b x).setCell ⟨b,1,none⟩ y):=
 (h.setCell (p:=⟨b,0,none⟩) hb x).setCell (p:=⟨b,1,none⟩) hb y
theorem QC {w w1 w2:World} (h:Below w w w1) (k:Below w1 w1 w2):Below w w w2:=h.trans (k.mono h.size)
theorem hbn {w w1 w2:World} (h:Below w w w1) (k:Below w1 w1 w2):Hid (Below w w w2):=QC h k
theorem hsz {w:World} {b:Nat} {o:Obj} (h:Hid (w.heap[b]? =some o)):b<w:=(Array.getElem?_eq_some_iff.1 h).1
def QF (p:ByteArray):List Nat:=p.data.toList.map UInt8.toNat
theorem Qc (p:ByteArray):(QF p).length=p.size:=by unfold QF;rw[List.length_map];rfl
theorem Q3 (p:ByteArray) (k:Nat) (h:k<p.size):(QF p).drop k=p[k].toNat::(QF p).drop (k+1):=by
 rw[List.drop_eq_getElem_cons (by rw[Qc];exact h)]
 congr 1
 simp[QF];rfl
theorem Zu (p:ByteArray) (k:Nat) (h:p.size<=k):(QF p).drop k=[]:=List.drop_eq_nil_of_le (by rw[Qc];exact h)
theorem ZO (s:ByteArray) (a b:Nat):QF (s.extract a b)=((QF s).drop a).take (b-a):=by
 unfold QF;rw[<-Lib.toList_data,Lib.extract_toList,<-List.map_drop,<-List.map_take]
theorem Em:∀(a b:List UInt8),a.map UInt8.toNat=b.map UInt8.toNat->a=b
 |[],[],_=>rfl
 |[],_::_,h=>by cases h
 |_::_,[],h=>by cases h
 |x::a,y::b,h=>by
  simp only[List.map_cons,List.cons.injEq] at h;rw[UInt8.toNat_inj.1 h.1,Em a b h.2]
theorem JB {s t:ByteArray} (h:QF s=QF t):s=t:=by
 have h2:s.data.toList=t.data.toList:=Em _ _ h;cases s;cases t
 simp only[ByteArray.mk.injEq];exact Array.toList_inj.1 h2
theorem KC (a b:ByteArray):QF (a++b)=QF a++QF b:=by
 unfold QF;rw[<-List.map_append]
 congr 1
theorem K5 {p:ByteArray} (h:p.size=0):p.toList=[]:=by
 rw[ByteArray.toList_eq];exact List.eq_nil_of_length_eq_zero h
theorem Gf {p:ByteArray} (h:0<p.size):¬p.toList=[]:=by
 rw[ByteArray.toList_eq];intro e;have:p.data.toList.length=0:=by rw[e];rfl
 have h2:p.size=p.data.toList.length:=rfl;omega
end Go.Proofs.YthkpckgcgkijbaaGreatDoor
namespace Go.Proofs.YthkpckgcgkijbaaGreatDoor
open Go.Proofs.Tryz
abbrev N2:=Int×Int
abbrev RR:=Except Nat N2
def UO (n:Int):Bool:=decide (-2147483647<=n)&&decide (n<=2147483647)
def QT (a:N2):Bool:=decide (1<=a.2)&&decide (a.2<=2147483647)&&UO a.1&&decide (Int.gcd a.1 a.2=1)
theorem inTop_iff {n:Int}:UO n=true↔ -2147483647<=n/\n<=2147483647:=by simp[UO]
theorem validN_iff {a:N2}:QT a=true↔1<=a.2/\a.2<=2147483647/\ -2147483647<=a.1/\a.1<=2147483647/\Int.gcd a.1 a.2=1:=by
 simp only[QT,UO,Bool.and_eq_true,decide_eq_true_eq];constructor
 ·rintro⟨⟨⟨h1,h2⟩,h3,h4⟩,h5⟩;exact⟨h1,h2,h3,h4,h5⟩
 ·rintro⟨h1,h2,h3,h4,h5⟩;exact⟨⟨⟨h1,h2⟩,h3,h4⟩,h5⟩
def KH (p q:Int):RR:=if UO p&&decide (q<=2147483647) then .ok (p,q) else .error 6
def KG (p q:Int):RR:=KH (p/(Int.gcd p q:Nat)) (q/(Int.gcd p q:Nat))
def JS (p q:Int):RR:=if q<0 then KG (-p) (-q) else KG p q
def St (n:Int):Bool:=decide (-4611686018427387904<=n)&&decide (n<=4611686018427387904)
def Q2 (p q:Int):RR:=if q=0 then .error 7 else if St p&&St q then JS p q else .error 6
def Jk (n:Int):RR:=if UO n then .ok (n,1) else .error 6
def Pv (a:N2):RR:=if QT a then .ok (-a.1,a.2) else .error 2
def YI (a b:N2) (f:RR):RR:=if QT a&&QT b then f else .error 2
def La (a b:N2):RR:=YI a b (JS (a.1*b.2+b.1*a.2) (a.2*b.2))
def M7 (a b:N2):RR:=YI a b (JS (a.1*b.2-b.1*a.2) (a.2*b.2))
def Av (a b:N2):RR:=YI a b (JS (a.1*b.1) (a.2*b.2))
def Bg (a b:N2):RR:=YI a b (if b.1*a.2=0 then .error 7 else JS (a.1*b.2) (b.1*a.2))
def Dh (a b:N2):RR:=YI a b (if b.1*a.2=0 then .error 7 else Jk (Int.fdiv (a.1*b.2) (b.1*a.2)))
def Bb (a b:N2):RR:=YI a b (if b.1*a.2=0 then .error 7 else JS (Int.fmod (a.1*b.2) (b.1*a.2)) (a.2*b.2))
def Xw (x:Int):Nat->Int->Option Int
 |0,p=>some p
 |n+1,p=>if UO (p*x) then Xw x n (p*x) else none
def Do (neg:Bool):Option Int->Option Int->RR
 |some p,some q=>if neg then JS q p else JS p q
 |_,_=> .error 6
def Dm (a n:N2):RR:=
 if QT a&&QT n&&decide (n.2=1/\ -64<=n.1/\n.1<=64) then
  if a.1=0/\n.1<0 then .error 7 else Do (decide (n.1<0)) (Xw a.1 n.1.natAbs 1) (Xw a.2 n.1.natAbs 1)
 else .error 2
def ZV (x y:Int):Int:=if x<y then-1 else if y<x then 1 else 0
def FY (a b:N2):Int:=if QT a&&QT b then ZV (a.1*b.2) (b.1*a.2) else if a.1=b.1 then ZV a.2 b.2 else ZV a.1 b.1
def nP:RR->Int
 | .ok a=>a.1
 | .error _=>0
def nQ:RR->Int
 | .ok a=>a.2
 | .error _=>0
def nE:RR->Nat
 | .ok _=>0
 | .error e=>e
theorem QO {a:N2} (h:QT a=true):1<=a.2/\a.2<=2147483647/\ -2147483647<=a.1/\a.1<=2147483647:=by
 have:=validN_iff.1 h;exact⟨this.1,this.2.1,this.2.2.1,this.2.2.2.1⟩
theorem Qe {x y:Int} (h1: -2147483647<=x) (h2:x<=2147483647) (h3: -2147483647<=y) (h4:y<=2147483647): -4611686014132420609<=x*y/\x*y<=4611686014132420609:=by
 have e1:x.natAbs<=2147483647:=by omega
 have e2:y.natAbs<=2147483647:=by omega
 have h:(x*y).natAbs<=2147483647*2147483647:=by rw[Int.natAbs_mul];exact Nat.mul_le_mul e1 e2
 omega
theorem Kh {p q:Int} (h:q≠0):0<Int.gcd p q:=by
 rcases Nat.eq_zero_or_pos (Int.gcd p q) with h0|h0
 ·exact absurd (Int.gcd_eq_zero_iff.1 h0).2 h
 ·exact h0
theorem Pa {p q:Int} (h:q<0):JS p q=KG (-p) (-q):=by unfold JS;rw[if_pos h]
theorem PZ {p q:Int} (h:0<=q):JS p q=KG p q:=by unfold JS;rw[if_neg (by omega)]
theorem Gg (p q:Int):Int.tdiv p (Int.gcd p q:Nat)=p/(Int.gcd p q:Nat):=Int.tdiv_eq_ediv_of_dvd (Int.gcd_dvd_left ..)
theorem GL (p q:Int):Int.tdiv q (Int.gcd p q:Nat)=q/(Int.gcd p q:Nat):=Int.tdiv_eq_ediv_of_dvd (Int.gcd_dvd_right ..)
end Go.Proofs.YthkpckgcgkijbaaGreatDoor
namespace Go.Proofs.YthkpckgcgkijbaaGreatDoor
open Go.Proofs.Tryz
def KT (c:Nat):Nat:=if 48<=c/\c<=57 then c-48 else if 97<=c/\c<=102 then c-87 else if 65<=c/\c<=70 then c-55 else 99
def Jd (base c:Nat):Bool:=decide (KT c<base)
def ZT (base:Nat):List Nat->Nat
 |[]=>0
 |c::r=>if Jd base c then ZT base r+1 else 0
def Km (base:Nat):List Nat->Nat->Option Nat
 |[],n=>some n
 |c::r,n=>if (4611686018427387904-KT c)/base<n then none else Km base r (n*base+KT c)
def Zm:List Nat->Bool
 |a::x::d::_=>a==48&&(x==120||x==88)&&Jd 16 d
 |_=>false
def P3 (l:List Nat) (places:Nat):RR:=
 match Km 10 l 0 with
 |none=> .error 6
 |some n=>if 9<places then .error 6 else Q2 n ((10:Nat)^places:Nat)
def Be (l:List Nat):RR:=
 match Km 16 l 0 with
 |none=> .error 6
 |some n=>Q2 n 1
def ZQ (t:List Nat) (k:Nat):Nat:=if t[k]? =some 46 then ZT 10 (t.drop (k+1)) else 0
def Q0 (t:List Nat):Nat×RR:=
 if Zm t then(2+ZT 16 (t.drop 2),Be ((t.drop 2).take (ZT 16 (t.drop 2))))
 else if ZT 10 t=0 then(0,.error 4)
 else if ZQ t (ZT 10 t)=0 then(ZT 10 t,P3 (t.take (ZT 10 t)) 0)
 else(ZT 10 t+1+ZQ t (ZT 10 t),P3 (t.take (ZT 10 t)++(t.drop (ZT 10 t+1)).take (ZQ t (ZT 10 t))) (ZQ t (ZT 10 t)))
def JA (l:List Nat):Bool:= !l.isEmpty&&decide (ZT 10 l=l.length)
def Z6 (p q:List Nat):RR:=
 if JA p&&JA q then
  match Km 10 p 0,Km 10 q 0 with
  |some a,some b=>if b=0 then .error 6 else Q2 a b
  |_,_=> .error 6
 else .error 4
def ZI:List Nat->Option Nat
 |[]=>none
 |c::r=>if c=47 then some 0 else(ZI r).map (· +1)
def Q4 (t:List Nat):RR:=
 match ZI t with
 |none=>if (Q0 t).1=0\/(Q0 t).1<t.length then .error 4 else(Q0 t).2
 |some k=>Z6 (t.take k) (t.drop (k+1))
def G5:RR->RR
 | .ok a=> .ok (-a.1,a.2)
 | .error e=> .error e
def ZX (c:Nat):Bool:=c==32||c==9||c==10||c==13
def Ys (l:List Nat):List Nat:=((l.dropWhile ZX).reverse.dropWhile ZX).reverse
def Uy:List Nat->RR
 |[]=>Q4 []
 |c::r=>if c=45 then G5 (Q4 r) else Q4 (c::r)
def Je (l:List Nat):RR:=Uy (Ys l)
theorem JH (base:Nat):∀l,ZT base l<=l.length
 |[]=>Nat.le_refl _
 |c::r=>by
  unfold ZT;split
  ·have:=JH base r;simp only[List.length_cons];omega
  ·simp
theorem Ku:∀{l:List Nat} {k:Nat},ZI l=some k->k<l.length/\l[k]? =some 47/\∀c∈l.take k,c≠47
 |[],k,h=>by cases h
 |x::r,k,h=>by
  unfold ZI at h;split at h
  ·rename_i hx
   injection h with h;subst h;exact⟨by simp,by simp[hx],fun c hc=>by simp at hc⟩
  ·rename_i hx
   cases hr:ZI r with
   |none=>rw[hr] at h;cases h
   |some j=>
    rw[hr] at h;injection h with h;subst h;obtain⟨h1,h2,h3⟩:=Ku hr;refine⟨by simp;omega,by simpa using h2,fun c hc=> ?_⟩;simp only[List.take_succ_cons,List.mem_cons] at hc;rcases hc with rfl|hc
    ·exact hx
    ·exact h3 c hc
theorem PR (base:Nat):∀(l:List Nat) (k:Nat),k<ZT base l->∃c,l[k]? =some c/\Jd base c=true
 |[],k,h=>by cases h
 |c::r,k,h=>by
  unfold ZT at h;split at h
  ·rename_i hc
   cases k with
   |zero=>exact⟨c,rfl,hc⟩
   |succ k=>
    obtain⟨x,h1,h2⟩:=PR base r k (by omega);exact⟨x,by simpa using h1,h2⟩
  ·cases h
theorem A8:Jd 10 47=false:=by decide
theorem isDig47':Jd 16 47=false:=by decide
theorem El {t:List Nat} {k:Nat} (hk:t[k]? =some 47):(Q0 t).1<=k:=by
 have run:∀(base:Nat) (l:List Nat) (j:Nat),Jd base 47=false->l[j]? =some 47->ZT base l<=j:=fun base l j hb hj=>by
  apply Classical.byContradiction;intro hc;obtain⟨c,h1,h2⟩:=PR base l j (by omega);rw[hj] at h1;injection h1 with h1;subst h1;rw[hb] at h2;cases h2
 unfold Q0;split
 ·rename_i hh
  have hk2:2<=k:=by
   match t,hh,hk with
   |a::x::d::r,hh,hk=>
    simp only[Zm,Bool.and_eq_true,Bool.or_eq_true,beq_iff_eq] at hh
    match k,hk with
    |0,hk=>simp at hk;omega
    |1,hk=>simp at hk;omega
    |k+2,_=>omega
  have:=run 16 (t.drop 2) (k-2) isDig47' (by rw[List.getElem?_drop,show 2+(k-2)=k by omega];exact hk);show 2+_<=k;omega
 ·split
  ·exact Nat.zero_le _
  ·have h1:=run 10 t k A8 hk;split
   ·exact h1
   ·rename_i hp
    unfold ZQ at hp ⊢;by_cases h46:t[ZT 10 t]? =some 46
    ·rw[if_pos h46] at hp ⊢;have hne:k≠ZT 10 t:=fun e=>by rw[e,h46] at hk;cases hk
     have:=run 10 (t.drop (ZT 10 t+1)) (k-(ZT 10 t+1)) A8 (by rw[List.getElem?_drop,show ZT 10 t+1+(k-(ZT 10 t+1))=k by omega];exact hk);show ZT 10 t+1+_<=k;omega
    ·rw[if_neg h46] at hp;exact absurd rfl hp
end Go.Proofs.YthkpckgcgkijbaaGreatDoor
namespace Go.Proofs.YthkpckgcgkijbaaGreatDoor
open Go.RowKit Go.Proofs.Lexi Go.Proofs.Tryz
def PureP (w:World) (v:Value) (e:Ending) (w':World):Prop:=e= .returned v/\∃n,w'=w.drewN n
def NumPost (w:World) (R:RR) (e:Ending) (w':World):Prop:=e= .returned (.tuple #[.agg #[.int .i64 (nP R),.int .i64 (nQ R)],.int .i64 (nE R:Nat)])/\Below w w w'
theorem QZ {w w':World} {R:RR} {c:Nat} (hR:R= .error c) (hb:Below w w w'):NumPost w R (.returned (.tuple #[.agg #[(0:Int),(0:Int)],.int .i64 (c:Int)])) w':=by subst hR;exact⟨rfl,hb⟩
theorem JI {w w':World} {R:RR} {p q:Int} (hR:R= .ok (p,q)) (hb:Below w w w'):NumPost w R (.returned (.tuple #[.agg #[p,q],.int .i64 0])) w':=by subst hR;exact⟨rfl,hb⟩
theorem Kx {P Q:Int} {D:Nat} (hD:D=Int.gcd P Q):KG P Q=KH (P/(D:Int)) (Q/(D:Int)):=by subst hD;rfl
theorem YT {p q:Int} (h:p< -2147483647\/2147483647<p\/2147483647<q):KH p q= .error 6:=by
 unfold KH;rw[if_neg];simp only[Bool.and_eq_true,inTop_iff,decide_eq_true_eq];omega
theorem XW {p q:Int} (h1: -2147483647<=p) (h2:p<=2147483647) (h3:q<=2147483647):KH p q= .ok (p,q):=by
 unfold KH;rw[if_pos];simp only[Bool.and_eq_true,inTop_iff,decide_eq_true_eq];omega
theorem GA {P:Int} {D:Nat} (hD:0<D) (h1: -9223372036854775807<=P) (h2:P<=9223372036854775807): -9223372036854775807<=P/(D:Int)/\P/(D:Int)<=9223372036854775807:=by
 have:=Int.natAbs_ediv_le_natAbs P D;omega
theorem Jc (w:World) (o:Obj) (n:Nat) (a b:Value):Below w w ((((w.alloc o).drewN n).setCell w a).setCell ⟨w,1,none⟩ b):=
 ((below_drewN ((Below.refl _ _).alloc zl o) n).setCell (p:=⟨w.heap.size,0,none⟩) zl a).setCell (p:=⟨w.heap.size,1,none⟩) zl b
theorem Qj (w:World) (o:Obj):Below w w (w.alloc o):=(Below.refl _ _).alloc zl o
def BoolPost (w:World) (b:Bool) (e:Ending) (w':World):Prop:=e= .returned (.bool b)/\Below w w w'
def IntPost (w:World) (v:Int) (e:Ending) (w':World):Prop:=e= .returned (.int .i64 v)/\Below w w w'
theorem Q9 {w w':World} {b c:Bool} (h:c=b) (hb:Below w w w'):BoolPost w b (.returned (.bool c)) w':=by subst h;exact⟨rfl,hb⟩
theorem Qr {w w':World} {v u:Int} (h:u=v) (hb:Below w w w'):IntPost w v (.returned (.int .i64 u)) w':=by subst h;exact⟨rfl,hb⟩
theorem UT {p q:Int} (h:q<1\/2147483647<q\/p< -2147483647\/2147483647<p):QT (p,q)=false:=by
 cases hv:QT (p,q) with
 |false=>rfl
 |true=>have:=QO hv;simp only[] at this;omega
theorem XK {p q:Int} (h1:1<=q) (h2:q<=2147483647) (h3: -2147483647<=p) (h4:p<=2147483647) {D:Nat} (hD:Nat.gcd p.natAbs q.natAbs=D):QT (p,q)=((D:Int)==1):=by
 rw[Bool.eq_iff_iff,validN_iff];simp only[beq_iff_eq];have e:Int.gcd p q=D:=hD;constructor
 ·intro h;have:=h.2.2.2.2;omega
 ·intro h;exact⟨h1,h2,h3,h4,by rw[e];omega⟩
theorem Ge (b:UInt8):b.toNat<=255:=by have:=b.toNat_lt;omega
def Kz (c:Nat):Int:=if 48<=c/\c<=57 then c-48 else if 97<=c/\c<=122 then c-87 else if 65<=c/\c<=90 then c-55 else-1
theorem Pk {base c:Nat} (hb:base<=16) (h:Jd base c=true):Kz c=(KT c:Int)/\KT c<base:=by
 unfold Jd at h;have h:=of_decide_eq_true h;refine⟨?_,h⟩;unfold KT at h ⊢;unfold Kz;split at h
 ·rename_i h1;rw[if_pos h1,if_pos h1];omega
 ·rename_i h1
  rw[if_neg h1,if_neg h1];split at h
  ·rename_i h2;rw[if_pos h2,if_pos (by omega)];omega
  ·rename_i h2
   split at h
   ·rename_i h3;rw[if_neg h2,if_neg (by omega),if_pos h3,if_pos (by omega)];omega
   ·omega
theorem AL {base c:Nat} (hb:base=10\/base=16) (h:Jd base c=false):Kz c<0\/(0<=Kz c/\(base:Int)<=Kz c/\Kz c<=35):=by
 unfold Jd at h;have h:=of_decide_eq_false h;unfold KT at h;unfold Kz;split
 ·rename_i h1;rw[if_pos h1] at h;omega
 ·rename_i h1
  rw[if_neg h1] at h;split
  ·split at h<;>omega
  ·rename_i h2
   rw[if_neg (by omega)] at h;split
   ·split at h<;>omega
   ·omega
theorem Z3 (c:Nat):KT c<=99:=by
 unfold KT
 repeat' split
 all_goals omega
theorem PP {s:ByteArray} {base i R:Nat} (h:i<s.size) (hr:i+ZT base ((QF s).drop i)=R):(Jd base s[i].toNat=true->(i+1)+ZT base ((QF s).drop (i+1))=R)/\(Jd base s[i].toNat=false->i=R):=by
 rw[Q3 s i h] at hr;unfold ZT at hr;constructor<;>intro hd
 ·rw[if_pos hd] at hr;omega
 ·rw[hd] at hr;simpa using hr
theorem PN {s:ByteArray} {base i R:Nat} (h:s.size<=i) (hr:i+ZT base ((QF s).drop i)=R):i=R:=by
 rw[Zu s i h] at hr;exact hr
end Go.Proofs.YthkpckgcgkijbaaGreatDoor
namespace Go.Proofs
open Go.Shelf Go.Proofs.Tryz
def lays160_ren:Go.Shelf.Ren:=⟨fun|160=>233|232=>245|231=>244|227=>246|234=>248|233=>247|236=>250|235=>249|228=>255|271=>258|151=>257|197=>256|120=>266|152=>265|260=>264|137=>276|119=>277|224=>269|225=>268|217=>267|266=>278|n=>n,fun|9=>9|4=>4|3=>3|5=>5|117=>199|116=>198|0=>0|124=>202|21=>21|105=>206|46=>193|119=>221|139=>224|138=>223|n=>n,fun|3=>2|4=>3|n=>n⟩
theorem lays160:Go.Proofs.Lays.n160 prog lays160_ren:={
 mixed:=by kernel_rfl
 f119:=func277.trans (congrArg some (by kernel_rfl))
 f120:=func266.trans (congrArg some (by kernel_rfl))
 f137:=func276.trans (congrArg some (by kernel_rfl))
 f151:=func257.trans (congrArg some (by kernel_rfl))
 f152:=func265.trans (congrArg some (by kernel_rfl))
 f160:=func233.trans (congrArg some (by kernel_rfl))
 f197:=func256.trans (congrArg some (by kernel_rfl))
 f217:=func267.trans (congrArg some (by kernel_rfl))
 f224:=func269.trans (congrArg some (by kernel_rfl))
 f225:=func268.trans (congrArg some (by kernel_rfl))
 f227:=func246.trans (congrArg some (by kernel_rfl))
 f228:=func255.trans (congrArg some (by kernel_rfl))
 f231:=func244.trans (congrArg some (by kernel_rfl))
 f232:=func245.trans (congrArg some (by kernel_rfl))
 f233:=func247.trans (congrArg some (by kernel_rfl))
 f234:=func248.trans (congrArg some (by kernel_rfl))
 f235:=func249.trans (congrArg some (by kernel_rfl))
 f236:=func250.trans (congrArg some (by kernel_rfl))
 f260:=func264.trans (congrArg some (by kernel_rfl))
 f266:=func278.trans (congrArg some (by kernel_rfl))
 f271:=func258.trans (congrArg some (by kernel_rfl))
 t0:=underlying0
 a0:=isAgg0
 z0:=sizeOf0
 v0:=zeroValue0
 t3:=underlying3
 a3:=isAgg3
 z3:=sizeOf3
 v3:=zeroValue3
 t4:=underlying4
 a4:=isAgg4
 z4:=sizeOf4
 v4:=zeroValue4
 t5:=underlying5
 a5:=isAgg5
 z5:=sizeOf5
 v5:=zeroValue5
 t9:=underlying9
 a9:=isAgg9
 z9:=sizeOf9
 v9:=zeroValue9
 t21:=underlying21
 a21:=isAgg21
 z21:=sizeOf21
 v21:=zeroValue21
 t46:=underlying193
 a46:=isAgg193
 z46:=sizeOf193
 v46:=zeroValue193
 t105:=underlying206
 a105:=isAgg206
 z105:=sizeOf206
 v105:=zeroValue206
 t116:=underlying198
 a116:=isAgg198
 z116:=sizeOf198
 t117:=underlying199
 a117:=isAgg199
 z117:=sizeOf199
 v117:=zeroValue199
 t119:=underlying221
 a119:=isAgg221
 z119:=sizeOf221
 t124:=underlying202
 a124:=isAgg202
 z124:=sizeOf202
 v124:=zeroValue202
 t138:=underlying223
 a138:=isAgg223
 z138:=sizeOf223
 v138:=zeroValue223
 t139:=underlying224
 a139:=isAgg224
 z139:=sizeOf224
 v139:=zeroValue224
 g3:=by kernel_rfl
 g4:=by kernel_rfl}
def lays103_ren:Go.Shelf.Ren:=⟨fun|103=>195|210=>234|206=>251|n=>n,fun|9=>9|4=>4|24=>162|3=>3|n=>n,fun|n=>n⟩
theorem lays103:Go.Proofs.Lays.n103 prog lays103_ren:={
 mixed:=by kernel_rfl
 f103:=func195.trans (congrArg some (by kernel_rfl))
 f206:=func251.trans (congrArg some (by kernel_rfl))
 f210:=func234.trans (congrArg some (by kernel_rfl))
 t3:=underlying3
 a3:=isAgg3
 z3:=sizeOf3
 v3:=zeroValue3
 t4:=underlying4
 a4:=isAgg4
 z4:=sizeOf4
 v4:=zeroValue4
 t9:=underlying9
 a9:=isAgg9
 z9:=sizeOf9
 v9:=zeroValue9
 t24:=underlying162
 a24:=isAgg162
 z24:=sizeOf162
 v24:=zeroValue162}
def laysM171_ren:Go.Shelf.Ren:=⟨fun|171=>211|243=>239|246=>254|283=>260|284=>261|285=>262|286=>263|129=>272|317=>271|318=>273|319=>274|320=>275|337=>280|338=>281|n=>n,fun|3=>3|9=>9|2=>2|4=>4|171=>210|0=>0|53=>204|37=>205|5=>5|173=>213|212=>218|51=>171|20=>20|213=>219|46=>193|232=>229|233=>230|n=>n,fun|17=>1|18=>4|19=>5|n=>n⟩
theorem laysM171:Go.Proofs.LaysM.n171 prog laysM171_ren:={
 mixed:=by kernel_rfl
 f129:=func272.trans (congrArg some (by kernel_rfl))
 f171:=func211.trans (congrArg some (by kernel_rfl))
 f243:=func239.trans (congrArg some (by kernel_rfl))
 f246:=func254.trans (congrArg some (by kernel_rfl))
 f283:=func260.trans (congrArg some (by kernel_rfl))
 f284:=func261.trans (congrArg some (by kernel_rfl))
 f285:=func262.trans (congrArg some (by kernel_rfl))
 f286:=func263.trans (congrArg some (by kernel_rfl))
 f317:=func271.trans (congrArg some (by kernel_rfl))
 f318:=func273.trans (congrArg some (by kernel_rfl))
 f319:=func274.trans (congrArg some (by kernel_rfl))
 f320:=func275.trans (congrArg some (by kernel_rfl))
 f337:=func280.trans (congrArg some (by kernel_rfl))
 f338:=func281.trans (congrArg some (by kernel_rfl))
 t0:=underlying0
 a0:=isAgg0
 z0:=sizeOf0
 v0:=zeroValue0
 t2:=underlying2
 a2:=isAgg2
 z2:=sizeOf2
 v2:=zeroValue2
 t3:=underlying3
 a3:=isAgg3
 z3:=sizeOf3
 v3:=zeroValue3
 t4:=underlying4
 a4:=isAgg4
 z4:=sizeOf4
 v4:=zeroValue4
 t5:=underlying5
 a5:=isAgg5
 z5:=sizeOf5
 v5:=zeroValue5
 t9:=underlying9
 a9:=isAgg9
 z9:=sizeOf9
 v9:=zeroValue9
 t20:=underlying20
 a20:=isAgg20
 z20:=sizeOf20
 v20:=zeroValue20
 t37:=underlying205
 a37:=isAgg205
 z37:=sizeOf205
 v37:=zeroValue205
 t46:=underlying193
 a46:=isAgg193
 z46:=sizeOf193
 v46:=zeroValue193
 t51:=underlying171
 a51:=isAgg171
 z51:=sizeOf171
 v51:=zeroValue171
 t53:=underlying204
 a53:=isAgg204
 z53:=sizeOf204
 v53:=zeroValue204
 t171:=underlying210
 a171:=isAgg210
 z171:=sizeOf210
 v171:=zeroValue210
 t173:=underlying213
 a173:=isAgg213
 z173:=sizeOf213
 v173:=zeroValue213
 t212:=underlying218
 a212:=isAgg218
 z212:=sizeOf218
 v212:=zeroValue218
 t213:=underlying219
 a213:=isAgg219
 z213:=sizeOf219
 t232:=underlying229
 a232:=isAgg229
 z232:=sizeOf229
 v232:=zeroValue229
 t233:=underlying230
 a233:=isAgg230
 z233:=sizeOf230
 v233:=zeroValue230
 g17:=by kernel_rfl
 g18:=by kernel_rfl
 g19:=by kernel_rfl
 i0:=by kernel_rfl
 i2:=by kernel_rfl
 i3:=by kernel_rfl
 i4:=by kernel_rfl
 i5:=by kernel_rfl
 i9:=by kernel_rfl
 i20:=by kernel_rfl
 i37:=by kernel_rfl
 i46:=by kernel_rfl
 i51:=by kernel_rfl
 i53:=by kernel_rfl
 i171:=by kernel_rfl
 i173:=by kernel_rfl
 i212:=by kernel_rfl
 i232:=by kernel_rfl
 i233:=by kernel_rfl
 m17:=by kernel_rfl
 m18:=by kernel_rfl
 m19:=by kernel_rfl}
def lays145_ren:Go.Shelf.Ren:=⟨fun|145=>238|220=>253|219=>259|217=>267|225=>268|224=>269|267=>270|266=>278|314=>279|n=>n,fun|9=>9|4=>4|59=>191|3=>3|5=>5|46=>193|146=>226|51=>171|n=>n,fun|1=>0|n=>n⟩
theorem lays145:Go.Proofs.Lays.n145 prog lays145_ren:={
 mixed:=by kernel_rfl
 f145:=func238.trans (congrArg some (by kernel_rfl))
 f217:=func267.trans (congrArg some (by kernel_rfl))
 f219:=func259.trans (congrArg some (by kernel_rfl))
 f220:=func253.trans (congrArg some (by kernel_rfl))
 f224:=func269.trans (congrArg some (by kernel_rfl))
 f225:=func268.trans (congrArg some (by kernel_rfl))
 f266:=func278.trans (congrArg some (by kernel_rfl))
 f267:=func270.trans (congrArg some (by kernel_rfl))
 f314:=func279.trans (congrArg some (by kernel_rfl))
 t3:=underlying3
 a3:=isAgg3
 z3:=sizeOf3
 v3:=zeroValue3
 t4:=underlying4
 a4:=isAgg4
 z4:=sizeOf4
 v4:=zeroValue4
 t5:=underlying5
 a5:=isAgg5
 z5:=sizeOf5
 v5:=zeroValue5
 t9:=underlying9
 a9:=isAgg9
 z9:=sizeOf9
 v9:=zeroValue9
 t46:=underlying193
 a46:=isAgg193
 z46:=sizeOf193
 v46:=zeroValue193
 t51:=underlying171
 a51:=isAgg171
 z51:=sizeOf171
 v51:=zeroValue171
 t59:=underlying191
 a59:=isAgg191
 z59:=sizeOf191
 v59:=zeroValue191
 t146:=underlying226
 a146:=isAgg226
 z146:=sizeOf226
 v146:=zeroValue226
 g1:=by kernel_rfl}
end Go.Proofs
namespace Go.Proofs.YthkpckgcgkijbaaGreatDoor
open Go.RowKit Go.Proofs.Lexi Go.Proofs.Tryz
theorem E7 {α:Type} (p:α->Bool):∀l:List α,((l.dropWhile p).reverse.dropWhile p).reverse=((l.reverse.dropWhile p).reverse).dropWhile p
 |[]=>rfl
 |c::r=>by
  have ih:=E7 p r;rw[List.reverse_cons,List.dropWhile_append];cases hc:p c with
  |true=>
   rw[List.dropWhile_cons_of_pos hc,ih];split
   ·rename_i he
    have he:=List.isEmpty_iff.1 he;rw[he,List.dropWhile_cons_of_pos hc];rfl
   ·rw[List.reverse_append,List.reverse_singleton,List.singleton_append,List.dropWhile_cons_of_pos hc]
  |false=>
   have hc':¬p c=true:=by rw[hc];decide
   rw[List.dropWhile_cons_of_neg hc',List.reverse_cons,List.dropWhile_append];split
   ·rw[List.dropWhile_cons_of_neg hc',List.reverse_singleton,List.dropWhile_cons_of_neg hc']
   ·rw[List.reverse_append,List.reverse_singleton,List.singleton_append,List.dropWhile_cons_of_neg hc']
theorem UR (b:UInt8):([32,9,10,13]:List UInt8).contains b=ZX b.toNat:=by
 have h:∀n:Fin 256,([32,9,10,13]:List UInt8).contains (UInt8.ofNat n.val)=ZX (UInt8.ofNat n.val).toNat:=by decide+kernel
 have:=h ⟨b.toNat,b.toNat_lt⟩
 rwa [UInt8.ofNat_toNat] at this
theorem Mr (l:List UInt8):QF ⟨l.toArray⟩=l.map UInt8.toNat:=rfl
theorem map_drop (l:List UInt8):(l.dropWhile fun b=>([32,9,10,13]:List UInt8).contains b).map UInt8.toNat=(l.map UInt8.toNat).dropWhile ZX:=by
 induction l with
 |nil=>rfl
 |cons c r ih=>
  rw[List.map_cons];have hb:=UR c;cases hc:ZX c.toNat with
  |true=>rw[List.dropWhile_cons_of_pos hc,List.dropWhile_cons_of_pos (by rw[hb,hc]),ih]
  |false=>rw[List.dropWhile_cons_of_neg (by first|(rw[hb,hc];decide)|(rw[hc];decide)),List.dropWhile_cons_of_neg (by first|(rw[hb,hc];decide)|(rw[hc];decide)),List.map_cons]
theorem UU (s:ByteArray):QF ⟨(Lib.trimS s.data.toList [32,9,10,13]).toArray⟩=Ys (QF s):=by
 rw[Mr];unfold Ys;rw[E7];unfold Lib.trimS Lib.trimLeftS Lib.trimRightS;rw[map_drop,List.map_reverse,map_drop,List.map_reverse];rfl
def TrimPost (w:World) (l:List Nat) (e:Ending) (w':World):Prop:=(∃r,e= .returned (.string r)/\QF r=l)/\Below w w w'
theorem Rf:∀(j:Nat) b,(⟨#[32,9,10,13]⟩:ByteArray).data.toList[j]? =some b->b.toNat<128:=ascii_of_all (by decide)
theorem ZD (s:ByteArray) (a b:Int) (i j:Nat) (ha:a=i) (hb:b=j) (h1:i<=j) (h2:j<=s.size) (w:World):Sem.run prog (Instr.slice 9 (.string s) (some (.int .i64 a)) (some (.int .i64 b)) none) w= .ok (.string (s.extract i j)) w:=by
 subst ha hb;have g1:(i:Int)<=(j:Int):=by omega
 have g2:(j:Int)<=(s.size:Int):=by omega
 simp[Instr.slice,run_underlying underlying9,Instr.sliceBounds,run_sliceBound,g1,g2]
abbrev o2 (p q:Int):Obj:= .cells #[p,q] 23
def Gp (i:Nat):Option Nat->Int
 |none=> -1
 |some k=>((i+k:Nat):Int)
theorem Pg {i:Nat} (h:i<=9):10^i<=1000000000:=Nat.le_trans (Nat.pow_le_pow_right (by decide) h) (by decide)
theorem Um {s:ByteArray} (h:s.size=0):JA (QF s)=false:=by
 have:QF s=[]:=List.eq_nil_of_length_eq_zero (by rw[Qc];exact h);rw[this];rfl
theorem Yc {s:ByteArray} (h:0<s.size):JA (QF s)=decide (ZT 10 (QF s)=s.size):=by
 unfold JA;have:(QF s).isEmpty=false:=by
  cases hb:QF s with
  |nil=>have:=Qc s;rw[hb] at this;simp at this;omega
  |cons _ _=>rfl
 rw[this,Qc];rfl
def mkR (A:Option Nat) (q:Int):RR:=match A with|none=> .error 6|some n=>Q2 n q
end Go.Proofs.YthkpckgcgkijbaaGreatDoor
