import Derived.Tactics
import Derived.Orders
import Derived.Laws.Sem
import Derived.Laws.Panics
import Derived.WalkKit
import Derived.Test.YthkpckgcgkijbaaGreatDoorProg
import Derived.KernelRfl
import Derived.Lib.Hide
import Derived.Lib.Strings
import Derived.Laws.EntriesVeiled
import Derived.Maps.AppendAt
import Derived.RegionTactic
import Derived.BigRegion
import Derived.Below
import Derived.IntWalk
import Derived.Deep.LoopGhost
import Derived.Deep.Draws
import Derived.Deep.RegionHeld3
import Derived.Deep.QuietTactic
import Derived.BigQuiet
import Derived.BigFrame
import Derived.Laws.MakeOwn
import Derived.Lib.SliceRun
import Derived.Lib.AppendStr
import Derived.WalkSmall
import Derived.Shelf.Strings.Trim
import Derived.Shelf.Small.Utf8
import Derived.Shelf.Small.Strs
import Derived.Shelf.Small.Wraps
import Derived.Shelf.Strconv.Itoa0
import Derived.Shelf.Strconv.Itoa1
import Derived.Shelf.LaysM
import Derived.Shelf.Strconv.Itoa2
import Derived.Shelf.Strconv.Itoa3
import Derived.Shelf.Strings.Search1
import Derived.Shelf.Strings.Search2
import Derived.Shelf.Strings.Cut
import Derived.Shelf.Strings.Shaped
import Derived.Shelf.Strings.Prefix
import Derived.Shelf.Unicode.Decode
import Derived.Shelf.Strings.Runes
import Derived.Shelf.Strings.AsciiSet
import Derived.Shelf.Unicode.DecodeSlow
import Derived.Shelf.Unicode.DecodeAny
import Derived.Shelf.Unicode.DecodeLast
import Derived.Shelf.Strings.SlTrimAscii
import Derived.Laws.IdiomStrings
import Derived.OwnWalk
import Derived.Laws.OwnMore
import Derived.Lib.SmallJoins
set_option linter.unusedVariables false
set_option linter.unusedSimpArgs false
namespace Go.Proofs.Lexi
open Go
section
variable {P : Program}
structure Ext (w W:World):Prop where
 size:w.heap.size≤W.heap.size
 block:∀k,k<w.heap.size→W.heap[k]? =w.heap[k]?
theorem Ext.refl (w:World):Ext w w:=⟨Nat.le_refl _,fun _ _=>rfl⟩
theorem Ext.trans {a b c:World} (h:Ext a b) (k:Ext b c):Ext a c:=
 ⟨Nat.le_trans h.size k.size,fun i hi=>(k.block i (Nat.lt_of_lt_of_le hi h.size)).trans (h.block i hi)⟩
def Pureish {α:Type} (P:Program) (s:Sem α):Prop:=∀w x w',s.run P w= .ok x w'→w'=w∧∀W,s.run P W= .ok x W
def Readish {α:Type} (P:Program) (s:Sem α):Prop:=∀w x w',s.run P w= .ok x w'→w'=w∧∀W,Ext w W→s.run P W= .ok x W
def Newish {α:Type} (P:Program) (s:Sem α):Prop:=∀w x w',s.run P w= .ok x w'→Ext w w'
theorem Pureish.read {α:Type} {s:Sem α} (h:Pureish P s):Readish P s:=fun w x w' e=>⟨(h w x w' e).1,fun W _=>(h w x w' e).2 W⟩
theorem Readish.new {α:Type} {s:Sem α} (h:Readish P s):Newish P s:=fun w x w' e=>by rw[(h w x w' e).1];exact Ext.refl _
theorem Pureish.pure {α:Type} (a:α):Pureish P (Pure.pure a:Sem α):=fun w x w' e=>by
 simp only[Sem.run_pure] at e;injection e with e1 e2;subst e1;subst e2;exact⟨rfl,fun _=>by simp⟩
theorem Pureish.bind {α β:Type} {s:Sem α} {f:α→Sem β} (h:Pureish P s) (hf:∀a,Pureish P (f a)):Pureish P (s >>= f):=fun w x w' e=>by
 rw[Sem.run_bind] at e
 cases hs:s.run P w with
 |halt h w1=>rw[hs] at e;cases e
 |ok a w1=>
  rw[hs] at e
  obtain⟨rfl,h1⟩:=h _ _ _ hs
  obtain⟨h2,h3⟩:=hf a _ _ _ e
  exact⟨h2,fun W=>by rw[Sem.run_bind,h1 W];exact h3 W⟩
theorem Readish.bind {α β:Type} {s:Sem α} {f:α→Sem β} (h:Readish P s) (hf:∀a,Readish P (f a)):Readish P (s >>= f):=fun w x w' e=>by
 rw[Sem.run_bind] at e
 cases hs:s.run P w with
 |halt h w1=>rw[hs] at e;cases e
 |ok a w1=>
  rw[hs] at e
  obtain⟨rfl,h1⟩:=h _ _ _ hs
  obtain⟨h2,h3⟩:=hf a _ _ _ e
  exact⟨h2,fun W hW=>by rw[Sem.run_bind,h1 W hW];exact h3 W hW⟩
theorem Newish.bind {α β:Type} {s:Sem α} {f:α→Sem β} (h:Newish P s) (hf:∀a,Newish P (f a)):Newish P (s >>= f):=fun w x w' e=>by
 rw[Sem.run_bind] at e
 cases hs:s.run P w with
 |halt h w1=>rw[hs] at e;cases e
 |ok a w1=>rw[hs] at e;exact(h _ _ _ hs).trans (hf a _ _ _ e)
theorem Pureish.never {α:Type} {s:Sem α} (h:∀w,∃x w',s.run P w= .halt x w'):Pureish P s:=fun w x w' e=>by
 obtain⟨_,_,h⟩:=h w;rw[h] at e;cases e
theorem Pureish.halt {α:Type} (h:Halt):Pureish P (Sem.halt h:Sem α):=Pureish.never fun w=>⟨h,w,rfl⟩
theorem Pureish.stuck {α:Type} (h:String):Pureish P (Go.stuck h:Sem α):=Pureish.halt _
theorem Pureish.unsupported {α:Type} (h:Unsupported):Pureish P (Go.unsupported h:Sem α):=Pureish.halt _
theorem Pureish.boundsPanic {α:Type} (k:IntKind) (x y:Int) (c:BoundsCode):Pureish P (boundsPanic k x y c:Sem α):=
 Pureish.never fun w=>by obtain⟨s,w',h⟩:=run_boundsPanic (P:=P) (w:=w) (α:=α) k x y c;exact⟨_,_,h⟩
theorem Pureish.program:Pureish P Go.program:=fun w x w' e=>by
 simp only[Go.program,Sem.run] at e
 injection e with e1 e2;subst e1;subst e2;exact⟨rfl,fun _=>rfl⟩
theorem Pureish.ite {α:Type} {c:Prop} [Decidable c] {s t:Sem α} (h:Pureish P s) (k:Pureish P t):Pureish P (if c then s else t):=by split<;>assumption
theorem Pureish.underlying (t:TypeId):Pureish P (Go.underlying t):=by
 unfold Go.underlying
 refine Pureish.bind Pureish.program fun p=> ?_
 split
 ·exact Pureish.pure _
 ·exact Pureish.stuck _
theorem Pureish.typeInfo (t:TypeId):Pureish P (Go.typeInfo t):=by
 unfold Go.typeInfo
 refine Pureish.bind Pureish.program fun p=> ?_
 split
 ·exact Pureish.pure _
 ·exact Pureish.stuck _
theorem Pureish.sizeOf (t:TypeId):Pureish P (Go.sizeOf t):=by
 unfold Go.sizeOf
 exact Pureish.bind (Pureish.typeInfo t) fun _=>Pureish.pure _
theorem Pureish.isAgg (t:TypeId):Pureish P (Go.isAgg t):=by
 unfold Go.isAgg
 refine Pureish.bind (Pureish.underlying t) fun d=> ?_
 split<;>exact Pureish.pure _
theorem Pureish.zeroValue (t:TypeId):Pureish P (Go.zeroValue t):=by
 unfold Go.zeroValue
 refine Pureish.bind (Pureish.typeInfo t) fun d=> ?_
 split
 ·exact Pureish.pure _
 ·exact Pureish.unsupported _
theorem Pureish.part (t:TypeId) (cs:Array Value) (off:Nat):Pureish P (Go.part t cs off):=by
 unfold Go.part
 refine Pureish.bind (Pureish.isAgg t) fun b=> ?_
 split
 ·exact Pureish.bind (Pureish.sizeOf t) fun _=>Pureish.pure _
 ·split
  ·exact Pureish.pure _
  ·exact Pureish.stuck _
theorem Pureish.asIntOf (v:Value):Pureish P (Go.asIntOf v):=by
 unfold Go.asIntOf
 split<;>first|exact Pureish.pure _|exact Pureish.stuck _|exact Pureish.unsupported _
theorem Pureish.asInt (v:Value):Pureish P (Go.asInt v):=by
 unfold Go.asInt
 exact Pureish.bind (Pureish.asIntOf v) fun _=>Pureish.pure _
theorem Pureish.asBool (v:Value):Pureish P (Go.asBool v):=by
 unfold Go.asBool
 split<;>first|exact Pureish.pure _|exact Pureish.stuck _|exact Pureish.unsupported _
theorem Pureish.asAgg (v:Value):Pureish P (Go.asAgg v):=by
 unfold Go.asAgg
 split<;>first|exact Pureish.pure _|exact Pureish.stuck _|exact Pureish.unsupported _
theorem Pureish.sureAddr (v:Value):Pureish P (Instr.sureAddr v):=by
 unfold Instr.sureAddr
 split<;>first|exact Pureish.pure _|exact Pureish.stuck _
def Never {α:Type} (P:Program) (s:Sem α):Prop:=∀w,∃x w',s.run P w= .halt x w'
theorem Never.bind {α β:Type} (s:Sem α) {f:α→Sem β} (hf:∀a,Never P (f a)):Never P (s >>= f):=fun w=>by
 rw[Sem.run_bind]
 cases hs:s.run P w with
 |halt h w1=>exact⟨h,w1,rfl⟩
 |ok a w1=>exact hf a w1
theorem Never.goPanic {α:Type} (v:Value):Never P (Go.goPanic v:Sem α):=fun w=>⟨_,w,rfl⟩
theorem Pureish.runtimePanic {α:Type} (e:RuntimeError):Pureish P (Go.runtimePanic e:Sem α):=by
 refine Pureish.never ?_
 unfold Go.runtimePanic
 refine Never.bind _ fun p=> ?_
 cases e<;>dsimp only<;>first|exact Never.goPanic _|exact Never.bind _ fun _=>Never.bind _ fun _=>Never.goPanic _
theorem Pureish.asAddr (v:Value):Pureish P (Go.asAddr v):=by
 unfold Go.asAddr
 split<;>first|exact Pureish.pure _|exact Pureish.stuck _|exact Pureish.runtimePanic _
theorem Pureish.sliceBound (x:Value) (y:Nat) (c:BoundsCode):Pureish P (Instr.sliceBound x y c):=by
 unfold Instr.sliceBound
 refine Pureish.bind (Pureish.asIntOf x) fun p=> ?_
 exact Pureish.ite (Pureish.pure _) (Pureish.boundsPanic _ _ _ _)
theorem Pureish.sliceBounds (b:Bool) (l c:Nat) (lo hi mx:Option Value):Pureish P (Instr.sliceBounds b l c lo hi mx):=by
 unfold Instr.sliceBounds
 cases mx<;>cases hi<;>cases lo<;>dsimp only<;>
  repeat' (first|exact Pureish.pure _|exact Pureish.stuck _|exact Pureish.sliceBound _ _ _|refine Pureish.bind ?_ (fun _=> ?_))
theorem Pureish.slice (t:TypeId) (x:Value) (lo hi mx:Option Value):Pureish P (Instr.slice t x lo hi mx):=by
 unfold Instr.slice
 refine Pureish.bind (Pureish.underlying t) fun d=> ?_
 split
 ·refine Pureish.ite (Pureish.bind (Pureish.stuck _) fun _=> ?_) ?_
  all_goals exact Pureish.bind (Pureish.sliceBounds _ _ _ _ _ _) fun _=>Pureish.pure _
 ·exact Pureish.bind (Pureish.sliceBounds _ _ _ _ _ _) fun _=>Pureish.bind (Pureish.sizeOf _) fun _=>Pureish.pure _
 ·refine Pureish.bind (Pureish.asAddr _) fun _=>Pureish.bind (Pureish.underlying _) fun _=> ?_
  split
  ·exact Pureish.bind (Pureish.sliceBounds _ _ _ _ _ _) fun _=>Pureish.bind (Pureish.sizeOf _) fun _=>Pureish.pure _
  ·exact Pureish.stuck _
 ·exact Pureish.stuck _
theorem Pureish.sliceAt (t:TypeId) (x:Value) (lo hi mx:Option Value):Pureish P (Instr.sliceAt t x lo hi mx):=by
 unfold Instr.sliceAt
 refine Pureish.bind (Pureish.underlying t) fun d=> ?_
 split
 ·exact Pureish.bind (Pureish.sureAddr _) fun _=>Pureish.bind (Pureish.sliceBounds _ _ _ _ _ _) fun _=>Pureish.bind (Pureish.sizeOf _) fun _=>Pureish.pure _
 ·exact Pureish.slice _ _ _ _ _
theorem Pureish.indexAt (t:TypeId) (x i:Value):Pureish P (Instr.indexAt t x i):=by
 unfold Instr.indexAt
 dsimp only
 repeat' (first|exact Pureish.pure _|exact Pureish.stuck _|exact Pureish.unsupported _|exact Pureish.boundsPanic _ _ _ _|exact Pureish.underlying _|exact Pureish.sizeOf _|exact Pureish.asIntOf _|exact Pureish.sureAddr _|refine Pureish.bind ?_ (fun _=> ?_)|refine Pureish.ite ?_ ?_|split)
theorem Pureish.index (t:TypeId) (x i:Value):Pureish P (Instr.index t x i):=by
 unfold Instr.index
 refine Pureish.bind (Pureish.asIntOf _) fun p=>Pureish.bind (Pureish.underlying t) fun d=> ?_
 split
 ·exact Pureish.ite (Pureish.bind (Pureish.sizeOf _) fun _=>Pureish.part _ _ _) (Pureish.boundsPanic _ _ _ _)
 ·split
  ·exact Pureish.pure _
  ·exact Pureish.boundsPanic _ _ _ _
 ·exact Pureish.stuck _
theorem Pureish.field (t:TypeId) (x:Value) (i:Nat):Pureish P (Instr.field t x i):=by
 unfold Instr.field
 refine Pureish.bind (Pureish.underlying t) fun d=> ?_
 split
 ·split
  ·exact Pureish.bind (Pureish.asAgg _) fun _=>Pureish.part _ _ _
  ·exact Pureish.stuck _
 ·exact Pureish.stuck _
theorem Pureish.extract (t:Value) (i:Nat):Pureish P (Instr.extract t i):=by
 unfold Instr.extract
 split
 ·split
  ·exact Pureish.pure _
  ·exact Pureish.stuck _
 ·exact Pureish.stuck _
def fieldOK (P:Program) (s:TypeId) (f:Nat):Bool:=
 match P.underlying s with
 |some (.struct fields)=>(fields[f]?).all fun fd=>(P.info? fd.type).all fun i=>i.size !=0
 |_=>true
theorem Pureish.fieldAt (s:TypeId) (x:Value) (f:Nat) (h:fieldOK P s f=true):Pureish P (Instr.fieldAt s x f):=by
 intro w v w' e
 unfold Instr.fieldAt at e ⊢
 simp only[Sem.run_bind,Go.underlying,Go.program] at e ⊢
 simp only[Sem.run,Result.andThen_ok] at e ⊢
 unfold fieldOK at h
 cases hu:P.underlying s with
 |none=>rw[hu] at e;simp[Go.stuck] at e
 |some d=>
  rw[hu] at e h
  simp only[Sem.run_pure,Result.andThen_ok] at e ⊢
  cases d<;>simp only[] at e h ⊢ <;>try(simp[Go.stuck] at e;done)
  rename_i fields
  cases hf:fields[f]? with
  |none=>rw[hf] at e;simp[Go.stuck] at e
  |some fd=>
   rw[hf] at e h
   simp only[Option.all_some] at h
   simp only[Sem.run_bind] at e ⊢
   cases x with
   |pointer p=>
    cases p with
    |none=>simp[Instr.sureAddr,Go.stuck] at e
    |some a=>
     simp only[Instr.sureAddr,Sem.run_pure,Result.andThen_ok,fieldPlace,Go.sizeOf,Go.typeInfo,Go.program,Sem.run_bind,Sem.run] at e ⊢
     cases hi:P.info? fd.type with
     |none=>rw[hi] at e;simp[Go.stuck] at e
     |some i=>
      rw[hi] at e h
      simp only[Option.all_some,bne_iff_ne] at h
      simp only[Sem.run_pure,Result.andThen_ok,if_neg h] at e ⊢
      injection e with e1 e2
      subst e1;subst e2
      exact⟨rfl,fun _=>rfl⟩
   |_=>simp[Instr.sureAddr,Go.stuck] at e
theorem Pureish.build (t:TypeId) (ps:Array (Nat×Value)):Pureish P (Instr.build t ps):=by
 unfold Instr.build
 refine Pureish.bind (Pureish.zeroValue _) fun z=>Pureish.bind (Pureish.underlying _) fun d=> ?_
 split
 ·refine Pureish.bind ?_ fun _=> ?_
  ·rename_i fields
   have key:∀(l:List Field) (acc:Array (Nat×Nat)),Pureish P (l.foldlM (init:=acc) fun bs a=>bs.push <$> (do let s ←Go.sizeOf a.type;Pure.pure (a.offset,s))):=by
    intro l
    induction l with
    |nil=>intro acc;exact Pureish.pure _
    |cons x xs ih=>
     intro acc
     rw[List.foldlM_cons]
     refine Pureish.bind ?_ fun _=>ih _
     rw[←bind_pure_comp]
     exact Pureish.bind (Pureish.bind (Pureish.sizeOf _) fun _=>Pureish.pure _) fun _=>Pureish.pure _
   have:=key fields.toList #[]
   rw[Array.mapM_eq_foldlM]
   simpa using this
  ·split
   ·exact Pureish.pure _
   ·exact Pureish.stuck _
 ·refine Pureish.bind (Pureish.sizeOf _) fun _=> ?_
  split
  ·exact Pureish.pure _
  ·exact Pureish.stuck _
 ·exact Pureish.stuck _
def plainPair:Value→Value→Bool
 | .int ..,.int .. | .string _,.string _| .bool _,.bool _=>true
 | .pointer none,.pointer _| .pointer _,.pointer none=>true
 | .slice none ..,.slice .. | .slice ..,.slice none .. =>true
 | .nilFunc,.nilFunc| .nilFunc,.func .. | .func ..,.nilFunc=>true
 | .map none,.map _| .map _,.map none=>true
 | .nilIface,.iface .. | .iface ..,.nilIface=>true
 |_,_=>false
theorem opt_cases {α:Type} (a:Option α):a=none∨∃x,a=some x:=by cases a<;>simp
theorem plain_cases {x y:Value} (h:plainPair x y=true):
  (∃k a k' b,x= .int k a∧y= .int k' b)∨
  (∃a b,x= .string a∧y= .string b)∨
  (∃a b,x= .bool a∧y= .bool b)∨
  (x= .pointer none∧y= .pointer none)∨
  (∃a,x= .pointer none∧y= .pointer (some a))∨
  (∃a,x= .pointer (some a)∧y= .pointer none)∨
  (∃l c l' c',x= .slice none l c∧y= .slice none l' c')∨
  (∃l c a l' c',x= .slice none l c∧y= .slice (some a) l' c')∨
  (∃a l c l' c',x= .slice (some a) l c∧y= .slice none l' c')∨
  (x= .nilFunc∧y= .nilFunc)∨
  (∃f a b,x= .nilFunc∧y= .func f a b)∨
  (∃f a b,x= .func f a b∧y= .nilFunc)∨
  (x= .map none∧y= .map none)∨
  (∃a,x= .map none∧y= .map (some a))∨
  (∃a,x= .map (some a)∧y= .map none)∨
  (∃t v,x= .nilIface∧y= .iface t v)∨
  (∃t v,x= .iface t v∧y= .nilIface):=by
 unfold plainPair at h
 split at h<;>first|(cases h;done)|(simp;done)|(simp;exact opt_cases _)
theorem Pureish.equalIn (d:Nat) (t:TypeId) (x y:Value) (h:plainPair x y=true):Pureish P (Op.equalIn (d+1) t x y):=by
 unfold Op.equalIn
 refine Pureish.bind (Pureish.underlying t) fun u=> ?_
 rcases plain_cases h with⟨k,a,k',b,rfl,rfl⟩|⟨a,b,rfl,rfl⟩|⟨a,b,rfl,rfl⟩|⟨rfl,rfl⟩|⟨a,rfl,rfl⟩|⟨a,rfl,rfl⟩|⟨l,c,l',c',rfl,rfl⟩|⟨l,c,a,l',c',rfl,rfl⟩|⟨a,l,c,l',c',rfl,rfl⟩|⟨rfl,rfl⟩|⟨f,a,b,rfl,rfl⟩|⟨f,a,b,rfl,rfl⟩|⟨rfl,rfl⟩|⟨a,rfl,rfl⟩|⟨a,rfl,rfl⟩|⟨t,v,rfl,rfl⟩|⟨t,v,rfl,rfl⟩
 all_goals
  cases u<;>dsimp only<;>repeat' (first|exact Pureish.pure _|exact Pureish.stuck _|exact Pureish.unsupported _|exact Pureish.runtimePanic _|refine Pureish.ite ?_ ?_|split)
theorem Pureish.equal (t:TypeId) (x y:Value) (h:plainPair x y=true):Pureish P (Op.equal t x y):=Pureish.equalIn 9999 t x y h
theorem Pureish.binOp (op:BinOp) (t:TypeId) (x y:Value) (h:plainPair x y=true):Pureish P (Go.binOp op t x y):=by
 have he:=Pureish.equal (P:=P) t x y h
 have e1:Pureish P (do Pure.pure (Value.bool (←Op.equal t x y))):=Pureish.bind he fun _=>Pureish.pure _
 have e2:Pureish P (do Pure.pure (Value.bool (!(←Op.equal t x y)))):=Pureish.bind he fun _=>Pureish.pure _
 rcases plain_cases h with⟨k,a,k',b,rfl,rfl⟩|⟨a,b,rfl,rfl⟩|⟨a,b,rfl,rfl⟩|⟨rfl,rfl⟩|⟨a,rfl,rfl⟩|⟨a,rfl,rfl⟩|⟨l,c,l',c',rfl,rfl⟩|⟨l,c,a,l',c',rfl,rfl⟩|⟨a,l,c,l',c',rfl,rfl⟩|⟨rfl,rfl⟩|⟨f,a,b,rfl,rfl⟩|⟨f,a,b,rfl,rfl⟩|⟨rfl,rfl⟩|⟨a,rfl,rfl⟩|⟨a,rfl,rfl⟩|⟨t,v,rfl,rfl⟩|⟨t,v,rfl,rfl⟩
 all_goals
  unfold Go.binOp
  cases op<;>dsimp only[Op.shift,Op.intArith,Op.intDiv,Op.intBits,Op.intCmp,Op.stringOp]<;>first|exact e1|exact e2|(repeat' (first|exact Pureish.pure _|exact Pureish.stuck _|exact Pureish.unsupported _|exact Pureish.runtimePanic _|refine Pureish.ite ?_ ?_|split))
theorem Pureish.eqGuard (op:BinOp) (t:TypeId) (x y:Operand) (a b:Value) (h:plainPair a b=true):Pureish P (Go.eqGuard op t x y a b):=by
 unfold Go.eqGuard
 rcases plain_cases h with⟨k,a,k',b,rfl,rfl⟩|⟨a,b,rfl,rfl⟩|⟨a,b,rfl,rfl⟩|⟨rfl,rfl⟩|⟨a,rfl,rfl⟩|⟨a,rfl,rfl⟩|⟨l,c,l',c',rfl,rfl⟩|⟨l,c,a,l',c',rfl,rfl⟩|⟨a,l,c,l',c',rfl,rfl⟩|⟨rfl,rfl⟩|⟨f,a,b,rfl,rfl⟩|⟨f,a,b,rfl,rfl⟩|⟨rfl,rfl⟩|⟨a,rfl,rfl⟩|⟨a,rfl,rfl⟩|⟨t,v,rfl,rfl⟩|⟨t,v,rfl,rfl⟩
 all_goals
  cases op<;>dsimp only<;>repeat' (first|exact Pureish.pure _|exact Pureish.stuck _|exact Pureish.unsupported _|exact Pureish.runtimePanic _|refine Pureish.ite ?_ ?_|split)
theorem Pureish.unary (op:UnOp) (x:Value):Pureish P (Op.unary op x):=by
 unfold Op.unary
 split<;>(try dsimp only[Op.intArith,Op.intBits])<;>first|exact Pureish.pure _|exact Pureish.unsupported _|exact Pureish.stuck _
def plainLen:Value→Bool
 | .string _| .slice .. =>true
 |_=>false
theorem Pureish.len (ts:Array TypeId) (t:TypeId) (x:Value) (h:plainLen x=true):Pureish P (Builtin.len_ ts t #[x]):=by
 unfold Builtin.len_
 cases x<;>first|(cases h;done)|skip
 all_goals
  split
  ·refine Pureish.bind (Pureish.underlying _) fun u=> ?_
   rename_i heq
   simp only[List.getElem?_toArray,List.length_cons,List.length_nil,Nat.zero_add,Nat.lt_add_one,getElem?_pos,List.getElem_cons_zero,Prod.mk.injEq,Option.some.injEq] at heq
   obtain⟨_,rfl⟩:=heq
   cases u<;>dsimp only<;>repeat' (first|exact Pureish.pure _|exact Pureish.stuck _|exact Pureish.underlying _|refine Pureish.bind ?_ (fun _=> ?_)|split)
  ·exact Pureish.stuck _
theorem Ext.get {w W:World} (h:Ext w W) {b:Nat} {o:Obj} (e:w.heap[b]? =some o):W.heap[b]? =some o:=by
 rw[h.block b ((Array.getElem?_eq_some_iff.1 e).1)];exact e
theorem seen_ext {w W:World} (h:Ext w W) {at_ k:Addr} {u:TypeId} {m:Bool} {r} (e:w.seen P at_ u k m= .ok r):W.seen P at_ u k m= .ok r:=by
 cases hb:w.heap[at_.block]? with
 |some o=>unfold World.seen at e ⊢;rw[h.get hb];rw[hb] at e;exact e
 |none=>
  exfalso
  unfold World.seen at e
  rw[hb] at e
  simp only[bind,Except.bind] at e
  repeat' (split at e<;>first|(cases e;done)|skip)
theorem viewLoad_ext {w W:World} (h:Ext w W) {at_ k:Addr} {u:TypeId} {m:Bool} {r} (e:w.viewLoad P at_ u k m= .ok r):W.viewLoad P at_ u k m= .ok r:=by
 unfold World.viewLoad at e ⊢
 cases hs:w.seen P at_ u k m with
 |error x=>rw[hs] at e;cases e
 |ok r'=>rw[seen_ext h hs];rw[hs] at e;exact e
theorem Readish.load (a:Addr) (m:Mode):Readish P (Go.load a m):=by
 intro w x w' e
 rw[run_load] at e
 cases hc:w.cell? a with
 |some v=>
  rw[hc] at e
  simp only[] at e
  injection e with e1 e2
  subst e1;subst e2
  refine⟨rfl,fun W hW=> ?_⟩
  have hb:∃o,w.heap[a.block]? =some o:=by
   unfold World.cell? at hc
   cases h:w.heap[a.block]? with
   |none=>rw[h] at hc;cases hc
   |some o=>exact⟨o,rfl⟩
  obtain⟨o,ho⟩:=hb
  have:W.cell? a=some v:=by rw[←hc];unfold World.cell?;rw[ho,hW.get ho]
  rw[run_load,this]
 |none=>
  rw[hc] at e
  simp only[] at e
  cases hf:w.farLoad P a (m== .atomic) with
  |error x=>rw[hf] at e;cases e
  |ok r=>
   rw[hf] at e
   obtain⟨v,l⟩:=r
   simp only[] at e
   injection e with e1 e2
   subst e1;subst e2
   refine⟨rfl,fun W hW=> ?_⟩
   unfold World.farLoad at hf
   cases hb:w.heap[a.block]? with
   |none=>rw[hb] at hf;cases hf
   |some o=>
    rw[hb] at hf
    have h1:W.cell? a=none:=by rw[←hc];unfold World.cell?;rw[hb,hW.get hb]
    have h2:W.farLoad P a (m== .atomic)= .ok (v,l):=by
     unfold World.farLoad
     rw[hW.get hb]
     cases o<;>first|(cases hf;done)|skip
     rename_i at_ u
     simp only[] at hf ⊢
     cases hv:w.viewLoad P at_ u a (m== .atomic) with
     |error y=>rw[hv] at hf;cases hf
     |ok r=>rw[hv] at hf;rw[viewLoad_ext hW hv];exact hf
    rw[run_load,h1,h2]
theorem Readish.loadCellsFrom (a:Addr):∀(n i:Nat) (acc:Array Value),Readish P (Go.loadCellsFrom a i n acc)
 |0,_,_=>(Pureish.pure _).read
 |n+1,i,acc=>by
  unfold Go.loadCellsFrom
  exact Readish.bind (Readish.load _ _) fun v=>Readish.loadCellsFrom a n (i+1) _
theorem Readish.loadAt (t:TypeId) (v:Value):Readish P (Instr.loadAt t v):=by
 unfold Instr.loadAt Go.loadVar
 refine Readish.bind (Pureish.sureAddr v).read fun a=>Readish.bind (Pureish.isAgg t).read fun b=> ?_
 split
 ·exact Readish.bind (Pureish.sizeOf t).read fun n=>Readish.bind (Readish.loadCellsFrom _ _ _ _) fun _=>(Pureish.pure _).read
 ·exact Readish.load _ _
theorem Newish.newObj (o:Obj):Newish P (Go.newObj o):=fun w x w' e=>by
 simp only[Go.newObj,Sem.run] at e
 injection e with e1 e2
 subst e2
 refine⟨by simp,fun k hk=> ?_⟩
 show(w.heap.push o)[k]? =_
 rw[Array.getElem?_push,if_neg (by omega)]
theorem Newish.newRow (e:TypeId) (c:Array Value):Newish P (Go.newRow e c):=by
 unfold Go.newRow
 exact Newish.bind (Newish.newObj _) fun _=>(Pureish.pure _).read.new
theorem Newish.alloc (e:TypeId) (v:Value):Newish P (Instr.alloc e true v):=by
 unfold Instr.alloc
 refine Newish.bind (Pureish.zeroValue _).read.new fun z=> ?_
 split
 ·rename_i h;cases h
 ·exact Newish.bind (Newish.newRow _ _) fun _=>(Pureish.pure _).read.new
theorem Newish.box (e:TypeId) (v:Value):Newish P (Instr.box e v):=by
 unfold Instr.box
 exact Newish.bind (Newish.newRow _ _) fun _=>(Pureish.pure _).read.new
theorem Newish.buildSlice (t:TypeId) (n:Nat) (ps:Array (Nat×Value)):Newish P (Instr.buildSlice t n ps):=by
 unfold Instr.buildSlice
 dsimp only
 repeat' (first|exact(Pureish.pure _).read.new|exact(Pureish.stuck _).read.new|exact(Pureish.unsupported _).read.new|exact(Pureish.underlying _).read.new|exact(Pureish.sizeOf _).read.new|exact(Pureish.zeroValue _).read.new|exact Newish.newRow _ _|refine Newish.bind ?_ (fun _=> ?_)|split)
theorem Newish.askRoom (n:Nat):Newish P (Go.askRoom n):=by
 unfold Go.askRoom
 split
 ·intro w x w' e
  simp only[Go.mark,Sem.run] at e
  injection e with e1 e2
  subst e2;exact Ext.refl _
 ·exact(Pureish.pure _).read.new
theorem Newish.choose (q:Question):Newish P (Go.choose q):=fun w x w' e=>by
 simp only[Go.choose,Sem.run] at e
 split at e
 ·injection e with e1 e2;subst e2;exact Ext.refl _
 ·injection e with e1 e2;subst e2;exact⟨Nat.le_refl _,fun _ _=>rfl⟩
theorem Newish.makeSlice (t:TypeId) (l c:Value):Newish P (Instr.makeSlice t l c):=by
 unfold Instr.makeSlice
 dsimp only
 repeat' (first|exact(Pureish.pure _).read.new|exact(Pureish.stuck _).read.new|exact(Pureish.unsupported _).read.new|exact(Pureish.underlying _).read.new|exact(Pureish.sizeOf _).read.new|exact(Pureish.typeInfo _).read.new|exact(Pureish.asInt _).read.new|exact(Pureish.zeroValue _).read.new|exact(Pureish.runtimePanic _).read.new|exact Newish.askRoom _|exact Newish.choose _|exact Newish.newRow _ _|refine Newish.bind ?_ (fun _=> ?_)|split)
def lenCall (c:Call):Option Operand:=
 match c.callee with
 | .builtin .len=>if c.args.size=1 then c.args[0]? else none
 |_=>none
def isPure (P:Program):Op→Bool
 | .move _| .assign _| .pick .. | .extract .. | .makeFunc .. | .index .. | .indexAddr .. | .slice .. | .field .. | .build .. | .unOp .. | .binOp .. | .nilCheck _=>true
 | .fieldAddr s _ f=>fieldOK P s f
 | .call c=>(lenCall c).isSome
 |_=>false
def isRead:Op→Bool
 | .load .. =>true
 |_=>false
def isNew:Op→Bool
 | .alloc _| .box .. | .buildSlice .. | .makeSlice .. =>true
 |_=>false
def plainPtr:Value→Bool
 | .pointer _=>true
 |_=>false
def okVal (ρ:Operand→Value):Op→Bool
 | .binOp _ _ x y _=>plainPair (ρ x) (ρ y)
 | .nilCheck x=>plainPtr (ρ x)
 | .call c=>(lenCall c).all fun x=>plainLen (ρ x)
 |_=>true
theorem Pureish.value {s:Sem Value} (h:Pureish P s):Pureish P (do Pure.pure (Next.value (←s))):=Pureish.bind h fun _=>Pureish.pure _
theorem pure_exec (ρ:Operand→Value) (o:Oper) (h:isPure P o.op=true) (hv:okVal ρ o.op=true):Pureish P (execOp ρ o):=by
 obtain⟨dst,op,type,pos,after,guard⟩:=o
 cases op<;>first|(cases h;done)|skip
 case move=>exact Pureish.pure _
 case assign=>exact Pureish.pure _
 case pick=>exact Pureish.bind (Pureish.asBool _) fun _=>Pureish.pure _
 case extract=>exact(Pureish.extract _ _).value
 case makeFunc=>exact(Pureish.pure _).value
 case index=>exact(Pureish.index _ _ _).value
 case indexAddr=>exact(Pureish.indexAt _ _ _).value
 case slice=>exact(Pureish.sliceAt _ _ _ _ _).value
 case field=>exact(Pureish.field _ _ _).value
 case build=>exact(Pureish.build _ _).value
 case unOp=>exact(Pureish.unary _ _).value
 case binOp=>exact(Pureish.bind (Pureish.eqGuard _ _ _ _ _ _ hv) fun _=>Pureish.binOp _ _ _ _ hv).value
 case fieldAddr=>exact(Pureish.fieldAt _ _ _ h).value
 case nilCheck x=>
  simp only[okVal,plainPtr] at hv
  simp only[execOp]
  split at hv<;>first|(cases hv;done)|skip
  rename_i p e
  rw[e]
  cases p
  ·exact Pureish.runtimePanic _
  ·exact Pureish.pure _
 case call c=>
  obtain⟨callee,args,ts⟩:=c
  simp only[isPure,okVal,lenCall] at h hv
  cases callee<;>first|(cases h;done)|skip
  rename_i bi
  cases bi<;>first|(cases h;done)|skip
  simp only[] at h hv
  split at h<;>first|(cases h;done)|skip
  rename_i hs
  obtain⟨x,rfl⟩:=Array.size_eq_one_iff.1 hs
  simp at hv
  have:=Pureish.len (P:=P) ts type (ρ x) hv
  simp only[execOp,resolve,invoke,builtin]
  simpa using this.value
theorem read_exec (ρ:Operand→Value) (o:Oper) (h:isRead o.op=true):Readish P (execOp ρ o):=by
 obtain⟨dst,op,type,pos,after,guard⟩:=o
 cases op<;>first|(cases h;done)|skip
 exact Readish.bind (Readish.loadAt _ _) fun _=>(Pureish.pure _).read
theorem new_exec (ρ:Operand→Value) (o:Oper) (h:isNew o.op=true):Newish P (execOp ρ o):=by
 obtain⟨dst,op,type,pos,after,guard⟩:=o
 cases op<;>first|(cases h;done)|skip
 case alloc=>exact Newish.bind (Newish.alloc _ _) fun _=>(Pureish.pure _).read.new
 case box=>exact Newish.bind (Newish.box _ _) fun _=>(Pureish.pure _).read.new
 case buildSlice=>exact Newish.bind (Newish.buildSlice _ _ _) fun _=>(Pureish.pure _).read.new
 case makeSlice=>exact Newish.bind (Newish.makeSlice _ _ _) fun _=>(Pureish.pure _).read.new
end
end Go.Proofs.Lexi
namespace Go.Proofs.Lexi
open Go
section
variable {P : Program} {ops : Array Oper} {Q : Exit → Act → World → Prop}
def G (o:Oper) (g:Act→Act):Prop:=
 (∃v,g=fun a=>a.put o.dst v)∨(∃d,g=fun a=>({a with defers:=d::a.defers}:Act).put o.dst undef)
theorem G.comm {o:Oper} {g:Act→Act} (h:G o g) (a:Act) (x:Option Tmp) (v:Value) (hx:∀d,x=some d→o.dst≠some d):
  g (a.put x v)=(g a).put x v:=by
 rcases h with⟨u,rfl⟩|⟨d,rfl⟩
 ·exact Act.put_comm a v u hx
 ·dsimp only
  rw[Act.put_defers]
  exact Act.put_comm _ v undef hx
theorem G.tmps {o:Oper} {g:Act→Act} (h:G o g) (a:Act) (t:Tmp) (ht:o.dst≠some t):(g a).tmps[t]? =a.tmps[t]? :=by
 rcases h with⟨u,rfl⟩|⟨d,rfl⟩
 all_goals
  cases hd:o.dst with
  |none=>rfl
  |some e=>
   have:e≠t:=fun h=>ht (by rw[hd,h])
   simp[Act.put,Array.getElem?_setIfInBounds_ne this]
theorem G.exec {o:Oper} {g:Act→Act} (h:G o g) (a:Act) (oi:Oper) (hs:∀cs b,oi.op≠ .select cs b) (hd:∀d,o.dst=some d→d∉oi.looksAt ops):
  execOp (g a).eval oi=execOp a.eval oi:=by
 rcases h with⟨u,rfl⟩|⟨d,rfl⟩
 ·exact execOp_put oi hs a o.dst u hd
 ·rw[execOp_put (ops:=ops) oi hs _ o.dst undef hd];rfl
theorem G.wanted {o:Oper} {g:Act→Act} (h:G o g) (a:Act) (oi:Oper) (hd:∀d,o.dst=some d→d∉oi.looksAt ops):
  Region.wanted oi (yielded ops (g a).tmps)=Region.wanted oi (yielded ops a.tmps):=by
 rcases h with⟨u,rfl⟩|⟨d,rfl⟩
 ·exact wanted_put oi a o.dst u hd
 ·rw[wanted_put oi _ o.dst undef hd]
def upon' (P:Program) (o:Oper) (K:(Act→Act)→World→Prop):Result Next→Prop
 | .ok (.value v) w'=>K (fun a=>a.put o.dst v) w'
 | .ok .skip w'=>K (fun a=>a.put o.dst undef) w'
 | .ok (.defer d) w'=>K (fun a=>({a with defers:=d::a.defers}:Act).put o.dst undef) w'
 | .ok (.enter f args) w'=>Calls P f args w' fun
   | .returned v,w''=>K (fun a=>a.put o.dst v) w''
   |_,_=>False
 | .ok (.row row args) w'=>Rows P row args w' fun v w''=>K (fun a=>a.put o.dst v) w''
 |_=>False
def eff (P:Program) (ops:Array Oper) (o:Oper) (a:Act) (w:World) (K:(Act→Act)→World→Prop):Prop:=
 if Region.wanted o (yielded ops a.tmps) then upon' P o K ((execOp a.eval o).run P w) else K (fun a=>a.put o.dst undef) w
theorem upon'_mono {o:Oper} {K K':(Act→Act)→World→Prop} (h:∀g w,G o g→K g w→K' g w) (r:Result Next) (hh:upon' P o K r):upon' P o K' r:=by
 cases r with
 |halt x w'=>exact hh
 |ok n w'=>
  cases n<;>simp only[upon'] at hh ⊢
  case value v=>exact h _ _ (.inl ⟨v,rfl⟩) hh
  case skip=>exact h _ _ (.inl ⟨_,rfl⟩) hh
  case defer d=>exact h _ _ (.inr ⟨d,rfl⟩) hh
  case enter f args=>exact Calls.mono hh (fun e w'' he=>by cases e<;>first|exact h _ _ (.inl ⟨_,rfl⟩) he|exact he)
  case row r args=>exact Rows.mono hh (fun v _ he=>h _ _ (.inl ⟨v,rfl⟩) he)
theorem eff_mono {o:Oper} {a:Act} {w:World} {K K':(Act→Act)→World→Prop} (h:∀g w,G o g→K g w→K' g w) (hh:eff P ops o a w K):eff P ops o a w K':=by
 unfold eff at*
 split
 ·rename_i hw;rw[if_pos hw] at hh;exact upon'_mono h _ hh
 ·rename_i hw;rw[if_neg hw] at hh;exact h _ _ (.inl ⟨undef,rfl⟩) hh
theorem eff_exists {o:Oper} {a:Act} {w:World} {K:(Act→Act)→World→Prop} (hh:eff P ops o a w K):∃g w',G o g∧K g w':=by
 unfold eff at hh
 split at hh
 ·generalize (execOp a.eval o).run P w=r at hh
  cases r with
  |halt x w'=>exact hh.elim
  |ok n w'=>
   cases n<;>simp only[upon'] at hh
   case value v=>exact⟨_,_,.inl ⟨v,rfl⟩,hh⟩
   case skip=>exact⟨_,_,.inl ⟨undef,rfl⟩,hh⟩
   case defer d=>exact⟨_,_,.inr ⟨d,rfl⟩,hh⟩
   case enter f args=>
    obtain⟨e,w'',fr,hR,_⟩:=hh []
    cases e<;>first|exact⟨_,_,.inl ⟨_,rfl⟩,hR⟩|exact hR.elim
   case row r args=>
    obtain⟨v,w'',hR,_⟩:=hh default []
    exact⟨_,_,.inl ⟨v,rfl⟩,hR⟩
 ·exact⟨_,_,.inl ⟨undef,rfl⟩,hh⟩
theorem eff_same {o:Oper} {a a':Act} {w:World} {K:(Act→Act)→World→Prop} (he:execOp a'.eval o=execOp a.eval o)
  (hw:Region.wanted o (yielded ops a'.tmps)=Region.wanted o (yielded ops a.tmps)) (hh:eff P ops o a w K):eff P ops o a' w K:=by
 unfold eff at*
 rw[he,hw];exact hh
def OnlyN (Q:Exit→Act→World→Prop):Prop:=∀e a w,Q e a w→e= .normal
theorem zCA {i:Nat} {o:Oper} (hi:ops[i]? =some o) (hQ:OnlyN Q) (K:Act→World→Prop) (a:Act) (w:World):
  wpOp P ops Q i K a w↔eff P ops o a w (fun g w'=>K (g a) w'):=by
 unfold wpOp eff
 simp only[hi]
 split
 ·have hout:¬LetsOut Q:=fun⟨a,w,h⟩=>by have:=hQ _ _ _ h;cases this
  simp only[hout,and_false,or_false]
  unfold Oper.wp
  generalize (execOp a.eval o).run P w=r
  cases r with
  |halt x w'=>
   cases x<;>simp only[Oper.upon,upon',iff_self,iff_false]
   exact fun h=>by have:=hQ _ _ _ h;cases this
  |ok n w'=>
   cases n<;>simp only[Oper.upon,upon',iff_self]
   case enter f args=>
    constructor
    ·exact fun h=>h.mono fun e w'' he=>by
      cases e with
      |returned v=>exact he
      |panicked c=>have:=hQ _ _ _ he;cases this
      |outgrown=>exact(hout he).elim
    ·exact fun h=>h.mono fun e w'' he=>by
      cases e with
      |returned v=>exact he
      |panicked c=>exact he.elim
      |outgrown=>exact he.elim
 ·exact Iff.rfl
def Gives (P:Program) (ops:Array Oper) (o:Oper) (a:Act) (C:World→Prop) (v:Value):Prop:=
 (Region.wanted o (yielded ops a.tmps)=true∧∀W,C W→(execOp a.eval o).run P W= .ok (.value v) W)∨(Region.wanted o (yielded ops a.tmps)=false∧v=undef)
theorem Gives.eff {o:Oper} {a:Act} {C:World→Prop} {v:Value} (h:Gives P ops o a C v) (w:World) (hC:C w) (K:(Act→Act)→World→Prop):
  eff P ops o a w K↔K (fun a=>a.put o.dst v) w:=by
 unfold Lexi.eff
 rcases h with⟨h1,h2⟩|⟨h1,rfl⟩
 ·rw[if_pos h1,h2 w hC];exact Iff.rfl
 ·rw[if_neg (by simp[h1])]
theorem Gives.same {o:Oper} {a a':Act} {C:World→Prop} {v:Value} (h:Gives P ops o a C v) (he:execOp a'.eval o=execOp a.eval o)
  (hw:Region.wanted o (yielded ops a'.tmps)=Region.wanted o (yielded ops a.tmps)):Gives P ops o a' C v:=by
 unfold Gives at *; rw[he,hw];exact h
def Valued (P:Program) (s:Sem Next):Prop:=∀w x w',s.run P w= .ok x w'→∃v,x= .value v
theorem Valued.mk (s:Sem Value):Valued P (do Pure.pure (Next.value (←s))):=fun w x w' e=>by
 rw[Sem.run_bind] at e
 cases hs:s.run P w with
 |halt h w1=>rw[hs] at e;cases e
 |ok a w1=>rw[hs] at e;simp only[Result.andThen_ok,Sem.run_pure] at e;injection e with e1 _;exact⟨a,e1.symm⟩
theorem Valued.bind {α:Type} (s:Sem α) {f:α→Sem Next} (h:∀a,Valued P (f a)):Valued P (s >>= f):=fun w x w' e=>by
 rw[Sem.run_bind] at e
 cases hs:s.run P w with
 |halt h w1=>rw[hs] at e;cases e
 |ok a w1=>rw[hs] at e;exact h a _ _ _ e
theorem Valued.pure (v:Value):Valued P (Pure.pure (Next.value v)):=fun w x w' e=>by injection e with e1 _;exact⟨v,e1.symm⟩
theorem Valued.never {s:Sem Next} (h:Never P s):Valued P s:=fun w x w' e=>by obtain⟨_,_,h⟩:=h w;rw[h] at e;cases e
theorem Never.nilDeref:Never P (runtimePanic .nilDeref:Sem Next):=Never.bind _ fun _=>Never.goPanic _
theorem okVal_congr {ρ ρ':Operand→Value} (op:Op) (h:∀x∈op.operands,ρ x=ρ' x):okVal ρ op=okVal ρ' op:=by
 cases op<;>first|rfl|skip
 case binOp=>simp only[okVal];rw[h _ (by simp[Op.operands]),h _ (by simp[Op.operands])]
 case nilCheck=>simp only[okVal];rw[h _ (by simp[Op.operands])]
 case call c=>
  obtain⟨callee,args,ts⟩:=c
  simp only[okVal,lenCall]
  cases callee<;>first|rfl|skip
  rename_i bi
  cases bi<;>first|rfl|skip
  simp only[]
  split
  ·rename_i hs
   obtain⟨x,rfl⟩:=Array.size_eq_one_iff.1 hs
   simp only[List.getElem?_toArray,List.getElem?_cons_zero,Option.all_some]
   rw[h x (by simp[Op.operands,Call.operands])]
  ·rfl
theorem G.evals {o:Oper} {g:Act→Act} (h:G o g) (a:Act) (oi:Oper) (hd:∀d,o.dst=some d→d∉oi.looksAt ops):∀x∈oi.op.operands,(g a).eval x=a.eval x:=by
 intro x hx
 have key:∀(b:Act) (u:Value),(b.put o.dst u).eval x=b.eval x:=fun b u=>Act.eval_put fun d hd' hxd=>hd d hd' (by
  subst hxd
  exact List.mem_append_left _ (List.mem_filterMap.2 ⟨.tmp d,by simpa using hx,rfl⟩))
 rcases h with⟨u,rfl⟩|⟨d,rfl⟩
 ·exact key a u
 ·dsimp only;rw[key];rfl
theorem valued_exec (ρ:Operand→Value) (o:Oper) (h:(isPure P o.op||isRead o.op||isNew o.op)=true):Valued P (execOp ρ o):=by
 obtain⟨dst,op,type,pos,after,guard⟩:=o
 cases op<;>first|(cases h;done)|exact Valued.mk _|skip
 case move=>intro w x w' e;injection e with e1 _;exact⟨_,e1.symm⟩
 case assign=>intro w x w' e;injection e with e1 _;exact⟨_,e1.symm⟩
 case pick c a b=>
  intro w x w' e
  simp only[execOp,Sem.run_bind] at e
  cases hs:(asBool (ρ c)).run P w with
  |halt h w1=>rw[hs] at e;cases e
  |ok b w1=>rw[hs] at e;simp only[Result.andThen_ok,Sem.run_pure] at e;injection e with e1 _;exact⟨_,e1.symm⟩
 case nilCheck y=>
  simp only[execOp]
  repeat' (first|exact Valued.pure _|exact Valued.never Never.nilDeref|exact Valued.never (fun w=>⟨_,w,rfl⟩)|refine Valued.bind _ (fun _=> ?_)|split)
 case call c=>
  obtain⟨callee,args,ts⟩:=c
  simp only[isPure,isRead,isNew,Bool.or_false,lenCall] at h
  cases callee<;>first|(cases h;done)|skip
  rename_i bi
  cases bi<;>first|(cases h;done)|skip
  simp only[execOp,resolve,invoke,builtin]
  exact Valued.mk (Builtin.len_ ts type _)
theorem gives_of_pure {o:Oper} {a:Act} {w:World} {K:(Act→Act)→World→Prop} (hp:isPure P o.op=true)
  (hv:Region.wanted o (yielded ops a.tmps)=true→okVal a.eval o.op=true) (h:eff P ops o a w K):∃v,Gives P ops o a (fun _=>True) v:=by
 cases hw:Region.wanted o (yielded ops a.tmps) with
 |false=>exact⟨undef,.inr ⟨hw,rfl⟩⟩
 |true=>
  unfold eff at h
  rw[if_pos hw] at h
  have hpure:=pure_exec a.eval o hp (hv hw)
  cases hr:(execOp a.eval o).run P w with
  |halt x w'=>rw[hr] at h;exact h.elim
  |ok x w'=>
   obtain⟨v,rfl⟩:=valued_exec a.eval o (by simp[hp]) w x w' hr
   exact⟨v,.inl ⟨hw,fun W _=>(hpure _ _ _ hr).2 W⟩⟩
theorem gives_of_read {o:Oper} {a:Act} {w:World} {K:(Act→Act)→World→Prop} (hp:isRead o.op=true) (h:eff P ops o a w K):∃v,Gives P ops o a (Ext w) v:=by
 cases hw:Region.wanted o (yielded ops a.tmps) with
 |false=>exact⟨undef,.inr ⟨hw,rfl⟩⟩
 |true=>
  unfold eff at h
  rw[if_pos hw] at h
  have hread:=read_exec (P:=P) a.eval o hp
  cases hr:(execOp a.eval o).run P w with
  |halt x w'=>rw[hr] at h;exact h.elim
  |ok x w'=>
   obtain⟨v,rfl⟩:=valued_exec (P:=P) a.eval o (by simp[hp]) w x w' hr
   exact⟨v,.inl ⟨hw,fun W hW=>(hread _ _ _ hr).2 W hW⟩⟩
theorem eff_newish {o:Oper} {a:Act} {w:World} {K:(Act→Act)→World→Prop} (hp:(isRead o.op||isNew o.op)=true) (h:eff P ops o a w K):
  eff P ops o a w (fun g w'=>Ext w w'∧K g w'):=by
 unfold eff at*
 split
 ·rename_i hw
  rw[if_pos hw] at h
  cases hr:(execOp a.eval o).run P w with
  |halt x w'=>rw[hr] at h;exact h.elim
  |ok x w'=>
   obtain⟨v,rfl⟩:=valued_exec (P:=P) a.eval o (by rw[Bool.or_assoc,hp];simp) w x w' hr
   rw[hr] at h
   refine⟨?_,h⟩
   cases h1:isRead o.op with
   |true=>exact(read_exec (P:=P) a.eval o h1).new _ _ _ hr
   |false=>exact new_exec (P:=P) a.eval o (by simpa [h1] using hp) _ _ _ hr
 ·rename_i hw;rw[if_neg hw] at h;exact⟨Ext.refl _,h⟩
def swapOK (P:Program) (ops:Array Oper) (x y:Oper):Bool:=
 x.apart ops y&&(isPure P x.op||isPure P y.op||(isRead x.op&&(isRead y.op||isNew y.op)))
theorem commute {i j:Nat} {oi oj:Oper} (hi:ops[i]? =some oi) (hj:ops[j]? =some oj) (hQ:OnlyN Q) (hsw:swapOK P ops oi oj=true)
  (hsi:∀cs b,oi.op≠ .select cs b) (hsj:∀cs b,oj.op≠ .select cs b) {a:Act} {w:World} {K:Act→World→Prop}
  (hvi:Region.wanted oi (yielded ops a.tmps)=true→okVal a.eval oi.op=true) (hvj:Region.wanted oj (yielded ops a.tmps)=true→okVal a.eval oj.op=true)
  (H:wpOp P ops Q i (wpOp P ops Q j K) a w):wpOp P ops Q j (wpOp P ops Q i K) a w:=by
 simp only[swapOK,Bool.and_eq_true] at hsw
 obtain⟨hap,hcl⟩:=hsw
 obtain⟨h1,h2,h3⟩:=Oper.apart_spec hap
 have h2':∀d,oj.dst=some d→oi.dst≠some d:=fun d e e'=>h2 d e' e
 rw[zCA hi hQ] at H
 rw[zCA hj hQ]
 have stepj:∀v,eff P ops oj (a.put oi.dst v) w (fun g w'=>K (g (a.put oi.dst v)) w')→eff P ops oj a w (fun g w'=>K ((g a).put oi.dst v) w'):=by
  intro v hh
  have:=eff_same (a':=a) (execOp_put oj hsj a oi.dst v h1).symm (wanted_put oj a oi.dst v h1).symm hh
  exact eff_mono (fun g w' hg hk=>by rw[←hg.comm a oi.dst v h2];exact hk) this
 by_cases c1:isPure P oi.op=true
 ·obtain⟨v,hv⟩:=gives_of_pure c1 hvi H
  rw[hv.eff w trivial] at H
  rw[zCA hj hQ] at H
  refine eff_mono (fun g w' hg hk=> ?_) (stepj v H)
  rw[zCA hi hQ]
  have hv':=hv.same (hg.exec (ops:=ops) a oi hsi h3) (hg.wanted a oi h3)
  rw[hv'.eff w' trivial]
  exact hk
 ·by_cases c2:isPure P oj.op=true
  ·obtain⟨g0,w0,hg0,hk0⟩:=eff_exists H
   rw[zCA hj hQ] at hk0
   obtain⟨v,hv0⟩:=gives_of_pure c2 (fun hw=>by
    have hw':Region.wanted oj (yielded ops a.tmps)=true:=by rw[←hg0.wanted (ops:=ops) a oj h1];exact hw
    have:=hvj hw'
    rw[okVal_congr oj.op (hg0.evals (ops:=ops) a oj h1)]
    exact this) hk0
   have hv:=hv0.same (hg0.exec (ops:=ops) a oj hsj h1).symm (hg0.wanted a oj h1).symm
   rw[hv.eff w trivial,zCA hi hQ]
   have H':eff P ops oi a w (fun g w'=>K (g (a.put oj.dst v)) w'):=eff_mono (fun g w' hg hk=>by
    rw[zCA hj hQ] at hk
    have hv':=hv.same (hg.exec (ops:=ops) a oj hsj h1) (hg.wanted a oj h1)
    rw[hv'.eff w' trivial] at hk
    rw[hg.comm a oj.dst v h2']
    exact hk) H
   exact eff_same (execOp_put oi hsi a oj.dst v h3) (wanted_put oi a oj.dst v h3) H'
  ·simp only[c1,c2,Bool.false_or,Bool.and_eq_true] at hcl
   obtain⟨c3,c4⟩:=hcl
   obtain⟨v,hv⟩:=gives_of_read c3 H
   rw[hv.eff w (Ext.refl _)] at H
   rw[zCA hj hQ] at H
   refine eff_mono (fun g w' hg hk=> ?_) (eff_newish c4 (stepj v H))
   rw[zCA hi hQ]
   have hv':=hv.same (hg.exec (ops:=ops) a oi hsi h3) (hg.wanted a oi h3)
   rw[hv'.eff w' hk.1]
   exact hk.2
def asked:Op→Bool
 | .binOp .. | .nilCheck _=>true
 | .call c=>(lenCall c).isSome
 |_=>false
theorem okVal_of_not_asked (ρ:Operand→Value) (op:Op) (h:asked op=false):okVal ρ op=true:=by
 cases op<;>first|rfl|(cases h;done)|skip
 case call c=>
  simp only[asked] at h
  simp only[okVal]
  cases hc:lenCall c with
  |none=>rfl
  |some x=>rw[hc] at h;cases h
def noSel:Op→Bool
 | .select .. =>false
 |_=>true
def lexCheck (P:Program) (ops:Array Oper) (m:Array Nat):Bool:=
 let n:=ops.size
 (List.range n).all fun j=>(ops[j]?).all fun oj=>
  noSel oj.op&&
  (oj.after.toList.all fun e=> !Region.binds .any e||e.on<j)&&
  (List.range n).all fun i=>(ops[i]?).all fun oi=>
   (!(m.getD j 0).testBit i||oj.after.toList.any fun e=>Region.binds .any e&&(e.on==i||(m.getD e.on 0).testBit i))&&
   (!(i<j)||(m.getD j 0).testBit i||swapOK P ops oi oj)&&
   (!asked oj.op||(match oi.dst with|some d=> !(oj.looksAt ops).contains d||(m.getD j 0).testBit i|none=>true))
structure Lexed (P:Program) (ops:Array Oper) (m:Array Nat):Prop where
 sel:∀(j:Nat) oj,ops[j]? =some oj→∀cs b,oj.op≠ .select cs b
 low:∀(j:Nat) oj,ops[j]? =some oj→∀e∈oj.after,Region.binds .any e=true→e.on<j
 mask:∀(j i:Nat) oj oi,ops[j]? =some oj→ops[i]? =some oi→(m.getD j 0).testBit i=true→∃e∈oj.after,Region.binds .any e=true∧(e.on=i∨(m.getD e.on 0).testBit i=true)
 swap:∀(j i:Nat) oj oi,ops[j]? =some oj→ops[i]? =some oi→i<j→(m.getD j 0).testBit i=true∨swapOK P ops oi oj=true
 dsts:∀(j i:Nat) oj oi d,ops[j]? =some oj→ops[i]? =some oi→asked oj.op=true→oi.dst=some d→d∈oj.looksAt ops→(m.getD j 0).testBit i=true
theorem lexed_of {m:Array Nat} (h:lexCheck P ops m=true):Lexed P ops m:=by
 unfold lexCheck at h
 simp only[List.all_eq_true,List.mem_range] at h
 have lt:∀{j:Nat} {o:Oper},ops[j]? =some o→j<ops.size:=fun e=>(Array.getElem?_eq_some_iff.1 e).1
 have hj:∀(j:Nat) oj,ops[j]? =some oj→_:=fun j oj e=>by
  have:=h j (lt e)
  rw[e] at this
  simp only[Option.all_some,Bool.and_eq_true,List.all_eq_true,List.mem_range] at this
  exact this
 have hji:∀(j i:Nat) oj oi,ops[j]? =some oj→ops[i]? =some oi→_:=fun j i oj oi e e'=>by
  have:=(hj j oj e).2 i (lt e')
  rw[e'] at this
  simp only[Option.all_some,Bool.and_eq_true] at this
  exact this
 refine⟨?_,?_,?_,?_,?_⟩
 ·intro j oj e cs b hs
  have:=(hj j oj e).1.1
  rw[hs] at this;cases this
 ·intro j oj e ed hed hb
  have:=(hj j oj e).1.2 ed (by simpa using hed)
  rw[hb] at this;simpa using this
 ·intro j i oj oi e e' hb
  have:=(hji j i oj oi e e').1.1
  rw[hb] at this
  simp only[Bool.not_true,Bool.false_or,List.any_eq_true,Bool.and_eq_true,Bool.or_eq_true,beq_iff_eq] at this
  obtain⟨ed,h1,h2,h3⟩:=this
  exact⟨ed,by simpa using h1,h2,h3⟩
 ·intro j i oj oi e e' hlt
  have:=(hji j i oj oi e e').1.2
  simpa [hlt] using this
 ·intro j i oj oi d e e' ha hd hm
  have:=(hji j i oj oi e e').2
  rw[ha,hd] at this
  simpa [hm] using this
def Down (ops:Array Oper) (listed:Array Bool):Prop:=
 ∀(x:Nat) o,listed.getD x false=true→ops[x]? =some o→∀e∈o.after,Region.binds .any e=true→listed.getD e.on false=true
theorem ready_iff {listed:Array Bool} {i:Nat}:i∈Region.ready .any ops listed↔
  ∃o,ops[i]? =some o∧listed.getD i true=false∧∀e∈o.after,Region.binds .any e=true→listed.getD e.on false=true:=by
 unfold Region.ready
 simp only[List.mem_filter,List.mem_range,Bool.and_eq_true,Bool.not_eq_true']
 constructor
 ·rintro⟨h1,h2,h3⟩
  cases ho:ops[i]? with
  |none=>rw[ho] at h3;cases h3
  |some o=>
   rw[ho] at h3
   simp only[Option.map_some,Option.getD_some,Array.all_eq_true] at h3
   refine⟨o,rfl,h2,fun e he hb=> ?_⟩
   obtain⟨k,hk,rfl⟩:=Array.mem_iff_getElem.1 he
   have:=h3 k hk
   rw[hb] at this;simpa using this
 ·rintro⟨o,ho,h2,h3⟩
  refine⟨(Array.getElem?_eq_some_iff.1 ho).1,h2,?_⟩
  rw[ho]
  simp only[Option.map_some,Option.getD_some,Array.all_eq_true]
  intro k hk
  cases hb:Region.binds .any o.after[k] with
  |false=>rfl
  |true=>simp[h3 _ (Array.getElem_mem hk) hb]
theorem listed_of_mask {m:Array Nat} (L:Lexed P ops m) {listed:Array Bool} (hd:Down ops listed):∀(n x:Nat),x<n→∀o,ops[x]? =some o→
  (∀e∈o.after,Region.binds .any e=true→listed.getD e.on false=true)→∀i oi,ops[i]? =some oi→(m.getD x 0).testBit i=true→listed.getD i false=true:=by
 intro n
 induction n with
 |zero=>intro x hx;omega
 |succ n ih=>
  intro x hx o ho hr i oi hi hb
  obtain⟨e,he,hbe,h⟩:=L.mask x i o oi ho hi hb
  have hl:=hr e he hbe
  rcases h with rfl|h
  ·exact hl
  ·have hlt:=L.low x o ho e he hbe
   have hsz:e.on<ops.size:=Nat.lt_trans hlt (Array.getElem?_eq_some_iff.1 ho).1
   have ho':ops[e.on]? =some ops[e.on]:=Array.getElem?_eq_getElem hsz
   exact ih e.on (by omega) _ ho' (fun e' he' hb'=>hd e.on _ hl ho' e' he' hb') i oi hi h
theorem getD_set (listed:Array Bool) (i x:Nat) (d:Bool) (hi:i<listed.size):(listed.setIfInBounds i true).getD x d=if x=i then true else listed.getD x d:=by
 simp only[Array.getD_eq_getD_getElem?]
 by_cases h:x=i
 ·subst h;simp[hi]
 ·rw[Array.getElem?_setIfInBounds_ne (by omega),if_neg h]
theorem getD_tf {listed:Array Bool} {x:Nat} (hx:x<listed.size):listed.getD x true=listed.getD x false:=by
 simp[Array.getD_eq_getD_getElem?,hx]
theorem Down.set {listed:Array Bool} (hd:Down ops listed) {i:Nat} (hi:i∈Region.ready .any ops listed) (hs:listed.size=ops.size):Down ops (listed.setIfInBounds i true):=by
 obtain⟨o,ho,_,hr⟩:=ready_iff.1 hi
 have hlt:i<listed.size:=by rw[hs];exact(Array.getElem?_eq_some_iff.1 ho).1
 intro x ox hx hox e he hb
 rw[getD_set _ _ _ _ hlt] at hx ⊢
 split
 ·rfl
 ·split at hx
  ·rename_i h;subst h;rw[ho] at hox;injection hox with hox;subst hox;exact hr e he hb
  ·exact hd x ox hx hox e he hb
theorem ready_set {listed:Array Bool} {i j:Nat} (hs:listed.size=ops.size) (hi:i∈Region.ready .any ops listed) (hj:j∈Region.ready .any ops listed) (hne:j≠i):j∈Region.ready .any ops (listed.setIfInBounds i true):=by
 obtain⟨o,ho,hu,hr⟩:=ready_iff.1 hj
 obtain⟨oi,hoi,_,_⟩:=ready_iff.1 hi
 have hlt:i<listed.size:=by rw[hs];exact(Array.getElem?_eq_some_iff.1 hoi).1
 refine ready_iff.2 ⟨o,ho,by rw[getD_set _ _ _ _ hlt,if_neg hne];exact hu,fun e he hb=> ?_⟩
 rw[getD_set _ _ _ _ hlt]
 split
 ·rfl
 ·exact hr e he hb
theorem final_of (hQ:OnlyN Q):∀(fuel:Nat) (listed:Array Bool) (a:Act) (w:World),listed.size=ops.size→wpAny P .any ops Q fuel listed a w→
  ∃a' w',Q .normal a' w'∧∀t:Tmp,(∀(x:Nat) o,ops[x]? =some o→listed.getD x true=false→o.dst≠some t)→a'.tmps[t]? =a.tmps[t]? :=by
 intro fuel
 induction fuel with
 |zero=>intro listed a w _ h;exact⟨a,w,h.2,fun _ _=>rfl⟩
 |succ fuel ih=>
  intro listed a w hs h
  cases hr:Region.ready .any ops listed with
  |nil=>exact⟨a,w,h.1 hr,fun _ _=>rfl⟩
  |cons i rest=>
   have hi:i∈Region.ready .any ops listed:=by rw[hr];exact List.mem_cons_self
   obtain⟨o,ho,hu,_⟩:=ready_iff.1 hi
   have hlt:i<listed.size:=by rw[hs];exact(Array.getElem?_eq_some_iff.1 ho).1
   have h1:=h.2 i hi
   rw[zCA ho hQ] at h1
   obtain⟨g,w1,hg,hk⟩:=eff_exists h1
   obtain⟨a',w',hq,ht⟩:=ih _ _ _ (by simpa using hs) hk
   refine⟨a',w',hq,fun t hx=> ?_⟩
   rw[ht t (fun x ox hox hux=>hx x ox hox (by
    rw[getD_set _ _ _ _ hlt] at hux
    split at hux
    ·cases hux
    ·exact hux))]
   exact hg.tmps a t (hx i o ho hu)
def okAll (ops:Array Oper) (a:Act):Bool:=ops.toList.all fun o=> !Region.wanted o (yielded ops a.tmps)||okVal a.eval o.op
theorem eval_eq {a a':Act} {x:Operand} (h:∀t,x= .tmp t→a'.tmps[t]? =a.tmps[t]?):a'.eval x=a.eval x:=by
 cases x with
 |tmp t=>
  have:=h t rfl
  simp only[Act.eval]
  simp[Array.getD_eq_getD_getElem?,this]
 |_=>rfl
theorem ok_now {m:Array Nat} (L:Lexed P ops m) (hQ:OnlyN Q) (hend:∀a w,Q .normal a w→okAll ops a=true) {listed:Array Bool} {a:Act}
  (hs:listed.size=ops.size) (hd:Down ops listed) (h:∃a1 w1 fuel' listed',listed'.size=ops.size∧(∀x,listed'.getD x true=false→listed.getD x true=false)∧
   (∀t:Tmp,(∀(x:Nat) o,ops[x]? =some o→listed.getD x true=false→o.dst≠some t)→a1.tmps[t]? =a.tmps[t]?)∧wpAny P .any ops Q fuel' listed' a1 w1)
  {j:Nat} {oj:Oper} (hj:j∈Region.ready .any ops listed) (hoj:ops[j]? =some oj) (hw:Region.wanted oj (yielded ops a.tmps)=true):okVal a.eval oj.op=true:=by
 cases ha:asked oj.op with
 |false=>exact okVal_of_not_asked _ _ ha
 |true=>
  obtain⟨a1,w1,fuel',listed',hs',hsub,ht1,hany⟩:=h
  obtain⟨a',w',hq,ht⟩:=final_of hQ fuel' listed' a1 w1 hs' hany
  have hok:=hend a' w' hq
  obtain⟨o,ho,hu,hr⟩:=ready_iff.1 hj
  rw[hoj] at ho;injection ho with ho;subst ho
  have same:∀t∈oj.looksAt ops,a'.tmps[t]? =a.tmps[t]? :=by
   intro t htm
   have hno:∀(x:Nat) o,ops[x]? =some o→listed.getD x true=false→o.dst≠some t:=by
    intro x ox hox hux hdx
    have hb:=L.dsts j x oj ox t hoj hox ha hdx htm
    have hl:=listed_of_mask L hd (j+1) j (by omega) oj hoj hr x ox hox hb
    rw[getD_tf (by rw[hs];exact(Array.getElem?_eq_some_iff.1 hox).1),hl] at hux
    cases hux
   rw[ht t (fun x ox hox hux=>hno x ox hox (hsub x hux)),ht1 t hno]
  have hev:∀x∈oj.op.operands,a'.eval x=a.eval x:=fun x hx=>eval_eq fun t e=>same t (by
   subst e
   exact List.mem_append_left _ (List.mem_filterMap.2 ⟨.tmp t,by simpa using hx,rfl⟩))
  have hwt:Region.wanted oj (yielded ops a'.tmps)=Region.wanted oj (yielded ops a.tmps):=by
   unfold Region.wanted
   cases hg:oj.guard with
   |none=>rfl
   |some p=>
    obtain⟨k,b⟩:=p
    simp only[]
    have:yielded ops a'.tmps k=yielded ops a.tmps k:=by
     unfold yielded
     cases hk:(ops[k]?).bind (·.dst) with
     |none=>rfl
     |some t=>
      have:=same t (by unfold Oper.looksAt;rw[hg];simp[hk])
      simp[this]
    rw[this]
  unfold okAll at hok
  have:=List.all_eq_true.1 hok oj (by
   have:=Array.mem_of_getElem? hoj
   simpa using this)
  rw[hwt,hw] at this
  rw[←okVal_congr oj.op hev]
  simpa using this
theorem any_first {m:Array Nat} (L:Lexed P ops m) (hQ:OnlyN Q) (hend:∀a w,Q .normal a w→okAll ops a=true) {i:Nat} {oi:Oper} (hi:ops[i]? =some oi):
  ∀(fuel:Nat) (listed:Array Bool) (a:Act) (w:World),listed.size=ops.size→Down ops listed→(∀x,x<i→listed.getD x true=true)→i∈Region.ready .any ops listed→
   wpOp P ops Q i (wpAny P .any ops Q fuel (listed.setIfInBounds i true)) a w→wpAny P .any ops Q (fuel+1) listed a w:=by
 intro fuel
 induction fuel with
 |zero=>
  intro listed a w hs hd hlow hr H
  refine⟨fun h=>(by rw[h] at hr;cases hr),fun j hj=> ?_⟩
  by_cases hji:j=i
  ·subst hji;exact H
  ·exfalso
   rw[zCA hi hQ] at H
   obtain⟨g,w1,_,hk⟩:=eff_exists H
   have:=ready_set hs hr hj hji
   rw[hk.1] at this
   cases this
 |succ fuel ih=>
  intro listed a w hs hd hlow hr H
  refine⟨fun h=>(by rw[h] at hr;cases hr),fun j hj=> ?_⟩
  by_cases hji:j=i
  ·subst hji;exact H
  ·have hlti:i<listed.size:=by rw[hs];exact(Array.getElem?_eq_some_iff.1 hi).1
   obtain⟨oj,hoj,huj,hrj⟩:=ready_iff.1 hj
   have hltj:j<listed.size:=by rw[hs];exact(Array.getElem?_eq_some_iff.1 hoj).1
   obtain⟨_,hoi',hui,_⟩:=ready_iff.1 hr
   have hlt:i<j:=by
    rcases Nat.lt_or_ge j i with h|h
    ·rw[hlow j h] at huj;cases huj
    ·omega
   have hswap:swapOK P ops oi oj=true:=by
    rcases L.swap j i oj oi hoj hi hlt with h|h
    ·have:=listed_of_mask L hd (j+1) j (by omega) oj hoj hrj i oi hi h
     rw[getD_tf hlti,this] at hui
     cases hui
    ·exact h
   have H':wpOp P ops Q i (wpOp P ops Q j (wpAny P .any ops Q fuel ((listed.setIfInBounds i true).setIfInBounds j true))) a w:=
    wpOp_mono (fun a w h=>h.2 j (ready_set hs hr hj hji)) H
   have hex:∃a1 w1 fuel' listed',listed'.size=ops.size∧(∀x,listed'.getD x true=false→listed.getD x true=false)∧
     (∀t:Tmp,(∀(x:Nat) o,ops[x]? =some o→listed.getD x true=false→o.dst≠some t)→a1.tmps[t]? =a.tmps[t]?)∧wpAny P .any ops Q fuel' listed' a1 w1:=by
    rw[zCA hi hQ] at H
    obtain⟨g,w1,hg,hk⟩:=eff_exists H
    refine⟨g a,w1,_,_,by simpa using hs,fun x hx=> ?_,fun t ht=>hg.tmps a t (ht i oi hi hui),hk⟩
    rw[getD_set _ _ _ _ hlti] at hx
    split at hx
    ·cases hx
    ·exact hx
   have H2:=commute hi hoj hQ hswap (L.sel i oi hi) (L.sel j oj hoj) (fun hw=>ok_now L hQ hend hs hd hex hr hi hw) (fun hw=>ok_now L hQ hend hs hd hex hj hoj hw) H'
   refine wpOp_mono (fun a' w' h=> ?_) H2
   refine ih _ a' w' (by simpa using hs) (hd.set hj hs) (fun x hx=> ?_) (ready_set hs hj hr (Ne.symm hji)) ?_
   ·rw[getD_set _ _ _ _ hltj]
    split
    ·rfl
    ·exact hlow x hx
   ·rw[Array.setIfInBounds_comm _ _ (Ne.symm hji)] at h
    exact h
theorem any_of_lex {m:Array Nat} (L:Lexed P ops m) (hQ:OnlyN Q) (hend:∀a w,Q .normal a w→okAll ops a=true):
  ∀(r k:Nat) (listed:Array Bool) (a:Act) (w:World),k+r=ops.size→listed.size=ops.size→(∀x,x<ops.size→listed.getD x false=decide (x<k))→
   wpOps P ops Q (List.range' k r) a w→wpAny P .any ops Q r listed a w:=by
 intro r
 induction r with
 |zero=>
  intro k listed a w hk hs hl h
  refine⟨?_,h⟩
  rw[List.eq_nil_iff_forall_not_mem]
  intro i hi
  obtain⟨o,ho,hu,_⟩:=ready_iff.1 hi
  have hlt:=(Array.getElem?_eq_some_iff.1 ho).1
  rw[getD_tf (by rw[hs];exact hlt),hl i hlt] at hu
  simp at hu;omega
 |succ r ih=>
  intro k listed a w hk hs hl h
  rw[List.range'_succ,wpOps_cons] at h
  have hlt:k<ops.size:=by omega
  have ho:ops[k]? =some ops[k]:=Array.getElem?_eq_getElem hlt
  have hd:Down ops listed:=by
   intro x o hx hox e he hb
   have hxs:=(Array.getElem?_eq_some_iff.1 hox).1
   have h1:=L.low x o hox e he hb
   rw[hl x hxs] at hx
   rw[hl e.on (by omega)]
   simp at hx ⊢;omega
  have hready:k∈Region.ready .any ops listed:=by
   refine ready_iff.2 ⟨_,ho,?_,fun e he hb=> ?_⟩
   ·rw[getD_tf (by rw[hs];exact hlt),hl k hlt];simp
   ·have h1:=L.low k _ ho e he hb
    rw[hl e.on (by omega)];simp;omega
  refine any_first L hQ hend ho r listed a w hs hd (fun x hx=> ?_) hready (wpOp_mono (fun a w h=>ih (k+1) _ a w (by omega) (by simpa using hs) (fun x hx=> ?_) h) h)
  ·rw[getD_tf (by rw[hs];omega),hl x (by omega)];simp;omega
  ·rw[getD_set _ _ _ _ (by rw[hs];exact hlt),hl x hx]
   split
   ·rename_i e;subst e;simp
   ·rename_i hne
    by_cases h1:x<k<;>simp[h1]<;>omega
def Behind (ops:Array Oper) (Q:Exit→Act→World→Prop):Exit→Act→World→Prop
 | .normal,a,w=>okAll ops a=true∧Q .normal a w
 |_,_,_=>False
end
end Go.Proofs.Lexi
namespace Go.Proofs.YthkpckgcgkijbaaGreatDoor
abbrev N2:=Int×Int
abbrev RR:=Except Nat N2
def inTop (n:Int):Bool:=decide (-2147483647≤n)&&decide (n≤2147483647)
def zAT (a:N2):Bool:=decide (1≤a.2)&&decide (a.2≤2147483647)&&inTop a.1&&decide (Int.gcd a.1 a.2=1)
theorem inTop_iff {n:Int}:inTop n=true↔ -2147483647≤n∧n≤2147483647:=by simp[inTop]
theorem validN_iff {a:N2}:zAT a=true↔1≤a.2∧a.2≤2147483647∧ -2147483647≤a.1∧a.1≤2147483647∧Int.gcd a.1 a.2=1:=by
 simp only[zAT,inTop,Bool.and_eq_true,decide_eq_true_eq]
 constructor
 ·rintro⟨⟨⟨h1,h2⟩,h3,h4⟩,h5⟩;exact⟨h1,h2,h3,h4,h5⟩
 ·rintro⟨h1,h2,h3,h4,h5⟩;exact⟨⟨⟨h1,h2⟩,h3,h4⟩,h5⟩
def rangeN (p q:Int):RR:=if inTop p&&decide (q≤2147483647) then .ok (p,q) else .error 6
def redPos (p q:Int):RR:=rangeN (p/(Int.gcd p q:Nat)) (q/(Int.gcd p q:Nat))
def redN (p q:Int):RR:=if q<0 then redPos (-p) (-q) else redPos p q
def in62 (n:Int):Bool:=decide (-4611686018427387904≤n)&&decide (n≤4611686018427387904)
def makeN (p q:Int):RR:=if q=0 then .error 7 else if in62 p&&in62 q then redN p q else .error 6
def intN (n:Int):RR:=if inTop n then .ok (n,1) else .error 6
def negN (a:N2):RR:=if zAT a then .ok (-a.1,a.2) else .error 2
def twoN (a b:N2) (f:RR):RR:=if zAT a&&zAT b then f else .error 2
def addN (a b:N2):RR:=twoN a b (redN (a.1*b.2+b.1*a.2) (a.2*b.2))
def subN (a b:N2):RR:=twoN a b (redN (a.1*b.2-b.1*a.2) (a.2*b.2))
def mulN (a b:N2):RR:=twoN a b (redN (a.1*b.1) (a.2*b.2))
def divN (a b:N2):RR:=twoN a b (if b.1*a.2=0 then .error 7 else redN (a.1*b.2) (b.1*a.2))
def quotN (a b:N2):RR:=twoN a b (if b.1*a.2=0 then .error 7 else intN (Int.fdiv (a.1*b.2) (b.1*a.2)))
def modN (a b:N2):RR:=twoN a b (if b.1*a.2=0 then .error 7 else redN (Int.fmod (a.1*b.2) (b.1*a.2)) (a.2*b.2))
def powG (x:Int):Nat→Int→Option Int
 |0,p=>some p
 |n+1,p=>if inTop (p*x) then powG x n (p*x) else none
def powFin (neg:Bool):Option Int→Option Int→RR
 |some p,some q=>if neg then redN q p else redN p q
 |_,_=> .error 6
def powN (a n:N2):RR:=
 if zAT a&&zAT n&&decide (n.2=1∧ -64≤n.1∧n.1≤64) then
  if a.1=0∧n.1<0 then .error 7 else powFin (decide (n.1<0)) (powG a.1 n.1.natAbs 1) (powG a.2 n.1.natAbs 1)
 else .error 2
def zBX (x y:Int):Int:=if x<y then-1 else if y<x then 1 else 0
def cmpN (a b:N2):Int:=if zAT a&&zAT b then zBX (a.1*b.2) (b.1*a.2) else if a.1=b.1 then zBX a.2 b.2 else zBX a.1 b.1
def nP:RR→Int
 | .ok a=>a.1
 | .error _=>0
def nQ:RR→Int
 | .ok a=>a.2
 | .error _=>0
def nE:RR→Nat
 | .ok _=>0
 | .error e=>e
theorem zAN {a:N2} (h:zAT a=true):1≤a.2∧a.2≤2147483647∧ -2147483647≤a.1∧a.1≤2147483647:=by
 have:=validN_iff.1 h
 exact⟨this.1,this.2.1,this.2.2.1,this.2.2.2.1⟩
theorem zAd {x y:Int} (h1: -2147483647≤x) (h2:x≤2147483647) (h3: -2147483647≤y) (h4:y≤2147483647): -4611686014132420609≤x*y∧x*y≤4611686014132420609:=by
 have e1:x.natAbs≤2147483647:=by omega
 have e2:y.natAbs≤2147483647:=by omega
 have h:(x*y).natAbs≤2147483647*2147483647:=by rw[Int.natAbs_mul];exact Nat.mul_le_mul e1 e2
 omega
theorem gcd_pos_right {p q:Int} (h:q≠0):0<Int.gcd p q:=by
 rcases Nat.eq_zero_or_pos (Int.gcd p q) with h0|h0
 ·exact absurd (Int.gcd_eq_zero_iff.1 h0).2 h
 ·exact h0
theorem redN_neg {p q:Int} (h:q<0):redN p q=redPos (-p) (-q):=by unfold redN;rw[if_pos h]
theorem redN_pos {p q:Int} (h:0≤q):redN p q=redPos p q:=by unfold redN;rw[if_neg (by omega)]
theorem tdiv_gcd_left (p q:Int):Int.tdiv p (Int.gcd p q:Nat)=p/(Int.gcd p q:Nat):=Int.tdiv_eq_ediv_of_dvd (Int.gcd_dvd_left ..)
theorem tdiv_gcd_right (p q:Int):Int.tdiv q (Int.gcd p q:Nat)=q/(Int.gcd p q:Nat):=Int.tdiv_eq_ediv_of_dvd (Int.gcd_dvd_right ..)
end Go.Proofs.YthkpckgcgkijbaaGreatDoor
namespace Go.Proofs.YthkpckgcgkijbaaGreatDoor
open Go.RowKit Go.Proofs.Lexi
def BoolPost (w:World) (b:Bool) (e:Ending) (w':World):Prop:=e= .returned (.bool b)∧Below w.heap.size w w'
def IntPost (w:World) (v:Int) (e:Ending) (w':World):Prop:=e= .returned (.int .i64 v)∧Below w.heap.size w w'
theorem zBD {w w':World} {b c:Bool} (h:c=b) (hb:Below w.heap.size w w'):BoolPost w b (.returned (.bool c)) w':=by subst h;exact⟨rfl,hb⟩
theorem zAq {w w':World} {v u:Int} (h:u=v) (hb:Below w.heap.size w w'):IntPost w v (.returned (.int .i64 u)) w':=by subst h;exact⟨rfl,hb⟩
theorem validN_bad {p q:Int} (h:q<1∨2147483647<q∨p< -2147483647∨2147483647<p):zAT (p,q)=false:=by
 cases hv:zAT (p,q) with
 |false=>rfl
 |true=>have:=zAN hv;simp only[] at this;omega
theorem validN_good {p q:Int} (h1:1≤q) (h2:q≤2147483647) (h3: -2147483647≤p) (h4:p≤2147483647) {D:Nat} (hD:Nat.gcd p.natAbs q.natAbs=D):zAT (p,q)=((D:Int)==1):=by
 rw[Bool.eq_iff_iff,validN_iff]
 simp only[beq_iff_eq]
 have e:Int.gcd p q=D:=hD
 constructor
 ·intro h;have:=h.2.2.2.2;omega
 ·intro h;exact⟨h1,h2,h3,h4,by rw[e];omega⟩
theorem zBG (s:ByteArray) (a b:Int) (i j:Nat) (ha:a=i) (hb:b=j) (h1:i≤j) (h2:j≤s.size) (w:World):Sem.run Tryz.prog (Instr.slice 9 (.string s) (some (.int .i64 a)) (some (.int .i64 b)) none) w= .ok (.string (s.extract i j)) w:=by
 subst ha hb
 have g1:(i:Int)≤(j:Int):=by omega
 have g2:(j:Int)≤(s.size:Int):=by omega
 simp[Instr.slice,run_underlying Tryz.underlying9,Instr.sliceBounds,run_sliceBound,g1,g2]
abbrev o2 (p q:Int):Obj:= .cells #[.int .i64 p,.int .i64 q] 23
def mkR (A:Option Nat) (q:Int):RR:=match A with|none=> .error 6|some n=>makeN n q
def Pow10 (w:World):Prop:=Lib.TabIs Tryz.prog w "internal/strconv.uint64pow10" .u64 Lib.pow10Tab
theorem pow10_glob:(Tryz.prog.globalNamed "internal/strconv.uint64pow10").isSome=true:=by kernel_rfl
theorem Pow10.stays {w w':World} (h:Pow10 w) (hb:Below w.heap.size w w'):Pow10 w':=by
 obtain⟨g,hg⟩:=Option.isSome_iff_exists.1 pow10_glob
 exact Joins.tab_stays hg h hb (Nat.le_refl _)
theorem below_growN (w:World) (k:Nat) (os:Array Obj):Below w.heap.size w (Sort.grow (w.drewN k) os):=by
 have h:=below_drewN (Below.refl w.heap.size w) k
 have hs:=h.size
 refine⟨h.os,h.tape,h.output,?_,fun i hi=> ?_⟩
 ·show w.heap.size≤((w.drewN k).heap++os).size
  rw[Array.size_append];omega
 ·show((w.drewN k).heap++os)[i]? =_
  rw[Array.getElem?_append_left (by omega)]
  exact h.block i hi
end Go.Proofs.YthkpckgcgkijbaaGreatDoor
