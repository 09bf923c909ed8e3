import Derived.Test.YthkpckgcgkijbaaGreatDoorTabA
set_option linter.unusedVariables false
set_option linter.unusedSimpArgs false
set_option maxRecDepth 100000
set_option maxHeartbeats 2000000
namespace Go.Proofs.YthkpckgcgkijbaaGreatDoor
open Go.RowKit Go.Proofs.Lexi Go.ChangeMaps Go.MapKept
open Go.Maps (Keyed)
variable {P : Program}
theorem zAr (w:World) {ops:Array Oper} {rest:List Oper} {o:Oper} {a:Act} {Q:Exit→Act→World→Prop}
  (hg:o.guard=none) (m x:Operand) (t:TypeId) (c:Bool) (hop:o.op=Op.lookup t m x c) (M K v:Value) (hm:a.eval m=M) (hx:a.eval x=K)
  (hrun:(Instr.lookup t M K c).run P w= .ok v w) (hK:wpList P ops Q rest (a.put o.dst v) w):wpList P ops Q (o::rest) a w:=by
 refine wpList_plain hg fun K' hK'=> ?_
 unfold Oper.wp
 simp[execOp,hop,hm,hx,hrun,Result.andThen]
 exact hK' _ _ hK
theorem zBH (w:World) {ops:Array Oper} {rest:List Oper} {o:Oper} {a:Act} {Q:Exit→Act→World→Prop}
  (hg:o.guard=none) (m x v:Operand) (t:TypeId) (hop:o.op=Op.mapUpdate t m x v) (M K V':Value) (hm:a.eval m=M) (hx:a.eval x=K) (hv:a.eval v=V') (R:World→Prop)
  (hrun:∃w',(Instr.mapUpdate t M K V').run P w= .ok () w'∧R w') (hK:∀w',R w'→wpList P ops Q rest (a.put o.dst undef) w'):wpList P ops Q (o::rest) a w:=by
 refine wpList_plain hg fun K' hK'=> ?_
 obtain⟨w',hrun,r⟩:=hrun
 unfold Oper.wp
 simp[execOp,hop,hm,hx,hv,hrun,Result.andThen]
 exact hK' _ _ (hK w' r)
theorem wpList_drop_map (w:World) {ops:Array Oper} {rest:List Oper} {o:Oper} {a:Act} {Q:Exit→Act→World→Prop}
  (hg:o.guard=none) (m x:Operand) (t k:TypeId) (hop:o.op=Op.call {callee:=Callee.builtin Builtin.delete,args:=#[m,x],argTypes:=#[t,k]}) (M K:Value) (hm:a.eval m=M) (hx:a.eval x=K) (R:World→Prop)
  (hrun:∃w',(Builtin.delete_ #[t,k] o.type #[M,K]).run P w= .ok (.tuple #[]) w'∧R w') (hK:∀w',R w'→wpList P ops Q rest (a.put o.dst (.tuple #[])) w'):wpList P ops Q (o::rest) a w:=by
 refine wpList_plain hg fun K' hK'=> ?_
 obtain⟨w',hrun,r⟩:=hrun
 unfold Oper.wp
 simp[execOp,hop,resolve,invoke,builtin,hm,hx,hrun,Result.andThen]
 exact hK' _ _ (hK w' r)
end Go.Proofs.YthkpckgcgkijbaaGreatDoor
namespace Go.Proofs.YthkpckgcgkijbaaGreatDoor
open Go.ChangeShapes Go.WideShapes Go.ChangeAt Go.WideMaps Go.WideElems Go.RowKit
theorem lift16 (os:Os) (started:os.Started) (H:Type) (enc:TypeId×Value→H) {f:FuncId} {fn:Func} {s:ChangeSpec} (noInit:Tryz.prog.inits.idxOf? f=none) (hfn:Tryz.prog.funcs[f]? =some fn)
  (witness:∃(w:World) (tape:Tape) (i:Input),w.os=os∧(w.forCall tape i).Shaped Tryz.prog∧i.vars=[]∧Input.okWide Tryz.prog (w.forCall tape i) .any w.heap.size f i∧
   ((s.pre enc Tryz.prog fn [] false (w.forCall tape i).memory i.args∧laidMetH Tryz.prog laidL (w.forCall tape i).memory)∧sizedMet enc Tryz.prog fn (OpenSpec.ofChange s) false (w.forCall tape i).memory i.args)∧({}:Assume).holds Tryz.prog (lone (Frame.enter Tryz.prog f i.args .normal) [] (w.forCall tape i)))
  (law:∀(W:World) (base:Nat) (args:Array Value) (ds gs:List (DataW H)) (before:List MemPlace),Glob W→(∀(j:Nat) t v,fn.params[j]? =some t→args[j]? =some v→Value.okWide Tryz.prog W .any base t v)→
   DataW.Whole enc Tryz.prog fn.params.toList s.vars false W args.toList ds gs before→Calls Tryz.prog f args W fun e W'=>∃v,e= .returned v∧s.post enc Tryz.prog fn false true false false W args v W'):
  ReturnsInHanded {} Tryz.checked os f .any (fun w args=>(s.pre enc Tryz.prog fn [] false w args∧laidMetH Tryz.prog laidL w)∧sizedMet enc Tryz.prog fn (OpenSpec.ofChange s) false w args) (s.post enc Tryz.prog fn false true false false):=by
 refine returnsInHanded_of_calls (C:=Tryz.checked) Tryz.own started noInit witness ?_
 intro w tape i _ hs _ hok hpre _
 obtain⟨_,_,_,fn',hfn',_,_,_,_,hval⟩:=hok
 obtain rfl:fn'=fn:=Option.some.inj (hfn'.symm.trans hfn)
 obtain⟨⟨⟨ds,gs,before,hw,_⟩,hx⟩,_⟩:=hpre
 have hw2:=DataW.Whole.of_heap (w':=w.forCall tape i) (by rfl) hw
 have hx2:laidMetH Tryz.prog laidL (w.forCall tape i):=hx.of_heap (by rfl)
 refine(law (w.forCall tape i) w.heap.size i.args ds gs before ⟨glob_zero hs,tab_of_laid hx2⟩ hval hw2).mono fun e W' ⟨v,he,hp⟩=> ?_
 subst he
 exact ChangeSpec.post_blind hp
end Go.Proofs.YthkpckgcgkijbaaGreatDoor
namespace Go.Proofs.YthkpckgcgkijbaaGreatDoor
open Go.RowKit Go.Proofs.Lexi
theorem ptint_c (w:World) (s:ByteArray):Calls Tryz.prog 141 #[(strV s).v] w (IntBool w 0 false):=by
 show Calls Tryz.prog 141 #[.agg #[.int .i64 3,.int .i64 0,.int .i64 0,s,.int .i64 0]] w (IntBool w 0 false)
 go_enter Tryz.func141,Tryz.ntmps141
 go_wp2
 go_quiet (fail)
 go_wp2
 refine bodyPost_ret (by simp[results,Tryz.results141,go_sem];first|done|rfl) rfl ?_
 exact⟨rfl,below_drewN (zAe _ _) _⟩
theorem zCC (w:World) (s:ByteArray):Calls Tryz.prog 72 #[.string s] w (NdPost w (ndErr s)):=by
 go_enter Tryz.func72,Tryz.ntmps72
 go_wp2
 refine bodyPost_ret (by simp[results,Tryz.results72,go_sem];first|done|rfl) rfl ?_
 exact⟨.slice none 0 0,rfl,.inl ⟨rfl,rfl⟩,by first|exact zAm _ _|trace_state⟩
theorem pmFails_c (w:World) (s:ByteArray):Calls Tryz.prog 130 #[.string s] w (NdPost w (ndErr s)):=by
 go_enter Tryz.func130,Tryz.ntmps130
 go_wp2
 refine bodyPost_ret (by simp[results,Tryz.results130,go_sem];first|done|rfl) rfl ?_
 exact⟨.slice none 0 0,rfl,.inl ⟨rfl,rfl⟩,by first|exact zAm _ _|trace_state⟩
theorem pIs_c (w:World) (k1 p1 q1:Int) (s1:ByteArray) (r1:Int):Calls Tryz.prog 120 #[.agg #[k1,p1,q1,s1,r1]] w (NdPost w (ndVal ⟨k1,p1,q1,s1,r1⟩)):=by
 go_enter Tryz.func120,Tryz.ntmps120
 go_wp2
 refine bodyPost_ret (by simp[results,Tryz.results120,go_sem];first|done|rfl) rfl ?_
 exact⟨.slice none 0 0,rfl,.inl ⟨rfl,rfl⟩,by first|exact zAF _ _ _|trace_state⟩
theorem pmIs_c (w:World) (k1 p1 q1:Int) (s1:ByteArray) (r1:Int):Calls Tryz.prog 126 #[.agg #[k1,p1,q1,s1,r1]] w (NdPost w (ndVal ⟨k1,p1,q1,s1,r1⟩)):=by
 go_enter Tryz.func126,Tryz.ntmps126
 go_wp2
 refine bodyPost_ret (by simp[results,Tryz.results126,go_sem];first|done|rfl) rfl ?_
 exact⟨.slice none 0 0,rfl,.inl ⟨rfl,rfl⟩,by first|exact zAF _ _ _|trace_state⟩
theorem pmCalled_c (w:World) (base g:Nat) (hbase:base≤g) (k1 p1 q1:Int) (s1:ByteArray) (r1:Int) (af:Int) (a b:V) (ha:w.heap[g]? =some (.cells #[.int .i64 a.k,.int .i64 a.p,.int .i64 a.q,.string a.s,.int .i64 a.r,.int .i64 b.k,.int .i64 b.p,.int .i64 b.q,.string b.s,.int .i64 b.r] 25)):
  Calls Tryz.prog 128 #[.agg #[k1,p1,q1,s1,r1],af,.slice (some ⟨g,0,none⟩) 2 2] w (fun e w'=>∃av,e= .returned (ndV (zBs ⟨k1,p1,q1,s1,r1⟩ [a,b] af) av)∧ArgsAt w' base av [a,b]∧Below w.heap.size w w'):=by
 have HA:=Lib.hid ha
 clear ha
 go_enter Tryz.func128,Tryz.ntmps128
 go_wp2
 refine bodyPost_ret (by simp[results,Tryz.results128,go_sem];first|done|rfl) rfl ?_
 exact⟨_,rfl,.inr ⟨g,a,b,rfl,rfl,hbase,hkeep (zAF _ _ _) HA.out⟩,zAF _ _ _⟩
theorem names_c (w:World):Calls Tryz.prog 230 #[] w (fun e w'=>e= .returned (.map (some w.heap.size))∧MapAt Tryz.prog 3 w' w.heap.size nameE∧Below w.heap.size w w'):=by
 have hmm:= @run_makeMap Tryz.prog
 have hE0:=mapAt_new (P:=Tryz.prog) 3 w
 have hb0:=zAm w (.map #[] 0)
 go_enter Tryz.func230,Tryz.ntmps230
 go_wp2_with fail
 obtain⟨w1,hr,hE1,hb1⟩:=ins_at hE0 hb0 (Nat.le_refl _) 0 (i64s (by omega)) (by simp) ⟨#[110,105,108]⟩
 rw[hr]
 clear hr
 go_wp2_with fail
 obtain⟨w2,hr,hE2,hb2⟩:=ins_at hE1 hb1 (Nat.le_refl _) 1 (i64s (by omega)) (by simp) ⟨#[98,111,111,108,101,97,110]⟩
 rw[hr]
 clear hr
 go_wp2_with fail
 obtain⟨w3,hr,hE3,hb3⟩:=ins_at hE2 hb2 (Nat.le_refl _) 2 (i64s (by omega)) (by simp) ⟨#[110,117,109,98,101,114]⟩
 rw[hr]
 clear hr
 go_wp2_with fail
 obtain⟨w4,hr,hE4,hb4⟩:=ins_at hE3 hb3 (Nat.le_refl _) 3 (i64s (by omega)) (by simp) ⟨#[115,116,114,105,110,103]⟩
 rw[hr]
 clear hr
 go_wp2_with fail
 obtain⟨w5,hr,hE5,hb5⟩:=ins_at hE4 hb4 (Nat.le_refl _) 4 (i64s (by omega)) (by simp) ⟨#[116,97,98,108,101]⟩
 rw[hr]
 clear hr
 go_wp2_with fail
 obtain⟨w6,hr,hE6,hb6⟩:=ins_at hE5 hb5 (Nat.le_refl _) 5 (i64s (by omega)) (by simp) ⟨#[102,117,110,99,116,105,111,110]⟩
 rw[hr]
 clear hr
 go_wp2_with fail
 obtain⟨w7,hr,hE7,hb7⟩:=ins_at hE6 hb6 (Nat.le_refl _) 6 (i64s (by omega)) (by simp) ⟨#[102,117,110,99,116,105,111,110]⟩
 rw[hr]
 clear hr
 go_wp2_with fail
 obtain⟨w8,hr,hE8,hb8⟩:=ins_at hE7 hb7 (Nat.le_refl _) 7 (i64s (by omega)) (by simp) ⟨#[116,104,114,101,97,100]⟩
 rw[hr]
 clear hr
 go_wp2_with fail
 obtain⟨w9,hr,hE9,hb9⟩:=ins_at hE8 hb8 (Nat.le_refl _) 8 (i64s (by omega)) (by simp) ⟨#[117,115,101,114,100,97,116,97]⟩
 rw[hr]
 clear hr
 go_wp2_with fail
 go_ret
 exact⟨rfl,hE9,hb9⟩
theorem pType_c (w:World) (k1 p1 q1:Int) (s1:ByteArray) (r1:Int) (hk:i64 k1):Calls Tryz.prog 181 #[.agg #[k1,p1,q1,s1,r1]] w (fun e w'=>e= .returned (.string (typeM k1))∧Below w.heap.size w w'):=by
 have HN:=Lib.hid names_c
 have HL:=Lib.hid (fun W b (h:MapAt Tryz.prog 3 W b nameE)=>names_look h hk)
 obtain⟨T,hT⟩:∃T,T=typeM k1:=⟨_,rfl⟩
 rw[←hT] at HL ⊢
 have SO:=Lib.hid (fun W (hb:Below (w.alloc (oV k1 p1 q1 s1 r1)).heap.size (w.alloc (oV k1 p1 q1 s1 r1)) W)=>(show W.cell? ⟨w.heap.size,0,none⟩=some (.int .i64 k1)∧Hid (Below (w.alloc (oV k1 p1 q1 s1 r1)).heap.size (w.alloc (oV k1 p1 q1 s1 r1)) W) from⟨by rw[zAA (hkeep hb (heap1 w _))];rfl,Lib.hid hb⟩))
 clear hk hT
 go_enter Tryz.func181,Tryz.ntmps181
 go_wp2_with fail
 go_region_held3 (fun w'=>w'.cell? ⟨w.heap.size,0,none⟩=some (.int .i64 k1)∧Hid (Below (w.alloc (oV k1 p1 q1 s1 r1)).heap.size (w.alloc (oV k1 p1 q1 s1 r1)) w'))
  (first|exact SO.out _ (Below.refl _ _).drew|exact SO.out _ (by assumption))
  (first|(go_at_call 230;refine(HN.out _).mono ?_;rintro e w1 ⟨rfl,hE,hb1⟩;have hb:=zAC (prj2 (by assumption)) hb1;have hlk:=HL.out w1 (w.heap.size+1) (by simpa using hE)))
 go_wp2
 go_ret
 exact⟨rfl,zAC (zAm _ _) (by assumption)⟩
theorem pName_tab (w:World):Calls Tryz.prog 57 #[] w (fun e w'=>e= .returned (.slice (some ⟨w.heap.size,0,none⟩) 24 24)∧w'=w.alloc (.cells #[.string ⟨#[]⟩,.string ⟨#[43]⟩,.string ⟨#[45]⟩,.string ⟨#[42]⟩,.string ⟨#[47]⟩,.string ⟨#[47,47]⟩,.string ⟨#[37]⟩,.string ⟨#[94]⟩,.string ⟨#[46,46]⟩,.string ⟨#[38]⟩,.string ⟨#[124]⟩,.string ⟨#[126]⟩,.string ⟨#[60,60]⟩,.string ⟨#[62,62]⟩,.string ⟨#[61,61]⟩,.string ⟨#[126,61]⟩,.string ⟨#[60]⟩,.string ⟨#[60,61]⟩,.string ⟨#[62]⟩,.string ⟨#[62,61]⟩,.string ⟨#[45]⟩,.string ⟨#[110,111,116]⟩,.string ⟨#[35]⟩,.string ⟨#[126]⟩] 9)):=by
 go_enter Tryz.func57,Tryz.ntmps57
 go_wp2
 go_ret
 exact⟨rfl,rfl⟩
theorem pName_in (w:World) (a:Int) (n:Nat) (ha:a=(n:Int)) (h1:1≤n) (h2:n≤23):Calls Tryz.prog 14 #[.int .i64 a] w (StrPost w (symL.getD n ⟨#[]⟩)):=by
 obtain⟨X,hX⟩:∃X,X=symL.getD n ⟨#[]⟩:=⟨_,rfl⟩
 have hc:(w.alloc (.cells #[.string ⟨#[]⟩,.string ⟨#[43]⟩,.string ⟨#[45]⟩,.string ⟨#[42]⟩,.string ⟨#[47]⟩,.string ⟨#[47,47]⟩,.string ⟨#[37]⟩,.string ⟨#[94]⟩,.string ⟨#[46,46]⟩,.string ⟨#[38]⟩,.string ⟨#[124]⟩,.string ⟨#[126]⟩,.string ⟨#[60,60]⟩,.string ⟨#[62,62]⟩,.string ⟨#[61,61]⟩,.string ⟨#[126,61]⟩,.string ⟨#[60]⟩,.string ⟨#[60,61]⟩,.string ⟨#[62]⟩,.string ⟨#[62,61]⟩,.string ⟨#[45]⟩,.string ⟨#[110,111,116]⟩,.string ⟨#[35]⟩,.string ⟨#[126]⟩] 9)).cell? ⟨w.heap.size,n,none⟩=some (.string X):=by
  rw[zAA (heap1 w _),hX]
  have:n=1∨n=2∨n=3∨n=4∨n=5∨n=6∨n=7∨n=8∨n=9∨n=10∨n=11∨n=12∨n=13∨n=14∨n=15∨n=16∨n=17∨n=18∨n=19∨n=20∨n=21∨n=22∨n=23:=by omega
  rcases this with rfl|rfl|rfl|rfl|rfl|rfl|rfl|rfl|rfl|rfl|rfl|rfl|rfl|rfl|rfl|rfl|rfl|rfl|rfl|rfl|rfl|rfl|rfl
  all_goals rfl
 rw[←hX]
 have hi0:(0:Int)≤(n:Int):=by omega
 have hi:(n:Int)<24:=by omega
 have t1:decide (a<1)=false:=by rw[decide_eq_false_iff_not];omega
 have t2:decide (23<a)=false:=by rw[decide_eq_false_iff_not];omega
 clear hX
 subst ha
 go_enter Tryz.func14,Tryz.ntmps14
 go_wp2_with fail
 refine(pName_tab _).mono ?_
 rintro e w1 ⟨rfl,rfl⟩
 go_wp2
 go_ret
 exact⟨rfl,by first|exact zAm _ _|exact(zAm _ _).drew⟩
theorem pName_out (w:World) (o:Int) (h:¬(1≤o∧o≤23)):Calls Tryz.prog 14 #[.int .i64 o] w (StrPost w ⟨#[]⟩):=by
 have hw:o<1∨(¬o<1∧23<o):=by omega
 clear h
 rcases hw with h|⟨h,h2⟩
 all_goals
  go_enter Tryz.func14,Tryz.ntmps14
  go_wp2
  go_ret
  exact⟨rfl,by first|exact zAm _ _|exact Below.refl _ _⟩
theorem pName_c (w:World) (o:Int):Calls Tryz.prog 14 #[.int .i64 o] w (StrPost w (nameM o)):=by
 by_cases h:1≤o∧o≤23
 ·obtain⟨n,rfl⟩:∃n:Nat,o=(n:Int):=⟨o.toNat,by omega⟩
  rw[name_in (by omega)]
  exact pName_in w _ n rfl (by omega) (by omega)
 ·rw[name_out h]
  exact pName_out w o h
theorem pEvent_tab (w:World):Calls Tryz.prog 58 #[] w (fun e w'=>e= .returned (.slice (some ⟨w.heap.size,0,none⟩) 24 24)∧w'=w.alloc (.cells #[.string ⟨#[]⟩,.string ⟨#[95,95,97,100,100]⟩,.string ⟨#[95,95,115,117,98]⟩,.string ⟨#[95,95,109,117,108]⟩,.string ⟨#[95,95,100,105,118]⟩,.string ⟨#[95,95,105,100,105,118]⟩,.string ⟨#[95,95,109,111,100]⟩,.string ⟨#[95,95,112,111,119]⟩,.string ⟨#[95,95,99,111,110,99,97,116]⟩,.string ⟨#[95,95,98,97,110,100]⟩,.string ⟨#[95,95,98,111,114]⟩,.string ⟨#[95,95,98,120,111,114]⟩,.string ⟨#[95,95,115,104,108]⟩,.string ⟨#[95,95,115,104,114]⟩,.string ⟨#[95,95,101,113]⟩,.string ⟨#[95,95,101,113]⟩,.string ⟨#[95,95,108,116]⟩,.string ⟨#[95,95,108,101]⟩,.string ⟨#[95,95,108,116]⟩,.string ⟨#[95,95,108,101]⟩,.string ⟨#[95,95,117,110,109]⟩,.string ⟨#[]⟩,.string ⟨#[95,95,108,101,110]⟩,.string ⟨#[95,95,98,110,111,116]⟩] 9)):=by
 go_enter Tryz.func58,Tryz.ntmps58
 go_wp2
 go_ret
 exact⟨rfl,rfl⟩
theorem pEvent_in (w:World) (a:Int) (n:Nat) (ha:a=(n:Int)) (h1:1≤n) (h2:n≤23):Calls Tryz.prog 16 #[.int .i64 a] w (StrPost w (evL.getD n ⟨#[]⟩)):=by
 obtain⟨X,hX⟩:∃X,X=evL.getD n ⟨#[]⟩:=⟨_,rfl⟩
 have hc:(w.alloc (.cells #[.string ⟨#[]⟩,.string ⟨#[95,95,97,100,100]⟩,.string ⟨#[95,95,115,117,98]⟩,.string ⟨#[95,95,109,117,108]⟩,.string ⟨#[95,95,100,105,118]⟩,.string ⟨#[95,95,105,100,105,118]⟩,.string ⟨#[95,95,109,111,100]⟩,.string ⟨#[95,95,112,111,119]⟩,.string ⟨#[95,95,99,111,110,99,97,116]⟩,.string ⟨#[95,95,98,97,110,100]⟩,.string ⟨#[95,95,98,111,114]⟩,.string ⟨#[95,95,98,120,111,114]⟩,.string ⟨#[95,95,115,104,108]⟩,.string ⟨#[95,95,115,104,114]⟩,.string ⟨#[95,95,101,113]⟩,.string ⟨#[95,95,101,113]⟩,.string ⟨#[95,95,108,116]⟩,.string ⟨#[95,95,108,101]⟩,.string ⟨#[95,95,108,116]⟩,.string ⟨#[95,95,108,101]⟩,.string ⟨#[95,95,117,110,109]⟩,.string ⟨#[]⟩,.string ⟨#[95,95,108,101,110]⟩,.string ⟨#[95,95,98,110,111,116]⟩] 9)).cell? ⟨w.heap.size,n,none⟩=some (.string X):=by
  rw[zAA (heap1 w _),hX]
  have:n=1∨n=2∨n=3∨n=4∨n=5∨n=6∨n=7∨n=8∨n=9∨n=10∨n=11∨n=12∨n=13∨n=14∨n=15∨n=16∨n=17∨n=18∨n=19∨n=20∨n=21∨n=22∨n=23:=by omega
  rcases this with rfl|rfl|rfl|rfl|rfl|rfl|rfl|rfl|rfl|rfl|rfl|rfl|rfl|rfl|rfl|rfl|rfl|rfl|rfl|rfl|rfl|rfl|rfl
  all_goals rfl
 rw[←hX]
 have hi0:(0:Int)≤(n:Int):=by omega
 have hi:(n:Int)<24:=by omega
 have t1:decide (a<1)=false:=by rw[decide_eq_false_iff_not];omega
 have t2:decide (23<a)=false:=by rw[decide_eq_false_iff_not];omega
 clear hX
 subst ha
 go_enter Tryz.func16,Tryz.ntmps16
 go_wp2_with fail
 refine(pEvent_tab _).mono ?_
 rintro e w1 ⟨rfl,rfl⟩
 go_wp2
 go_ret
 exact⟨rfl,by first|exact zAm _ _|exact(zAm _ _).drew⟩
theorem pEvent_out (w:World) (o:Int) (h:¬(1≤o∧o≤23)):Calls Tryz.prog 16 #[.int .i64 o] w (StrPost w ⟨#[]⟩):=by
 have hw:o<1∨(¬o<1∧23<o):=by omega
 clear h
 rcases hw with h|⟨h,h2⟩
 all_goals
  go_enter Tryz.func16,Tryz.ntmps16
  go_wp2
  go_ret
  exact⟨rfl,by first|exact zAm _ _|exact Below.refl _ _⟩
theorem pEvent_c (w:World) (o:Int):Calls Tryz.prog 16 #[.int .i64 o] w (StrPost w (zBK o)):=by
 by_cases h:1≤o∧o≤23
 ·obtain⟨n,rfl⟩:∃n:Nat,o=(n:Int):=⟨o.toNat,by omega⟩
  rw[event_in (by omega)]
  exact pEvent_in w _ n rfl (by omega) (by omega)
 ·rw[event_out h]
  exact pEvent_out w o h
theorem pFinder_c (w:World) (ho:Option Addr) (s:ByteArray):Calls Tryz.prog 121 #[.pointer ho,.string s] w (fun e w'=>e= .returned (.func (.func 179) #[] #[.pointer (some ⟨w.heap.size,0,none⟩),.pointer (some ⟨w.heap.size+1,0,none⟩)])∧
  w'.heap[w.heap.size]? =some (.cells #[.pointer ho] 36)∧w'.heap[w.heap.size+1]? =some (.cells #[.string s] 9)∧Below w.heap.size w w'):=by
 have hmf:∀fn first cap (W:World),(Instr.makeFunc fn first cap).run Tryz.prog W= .ok (.func fn first cap) W:=fun _ _ _ _=>rfl
 go_enter Tryz.func121,Tryz.ntmps121
 go_wp2
 go_ret
 exact⟨rfl,zAf _ _ _,zAW _ _ _,zAF _ _ _⟩
theorem pFind1_hit (w:World) (bh be:Nat) (ho:Option Addr) (ev:ByteArray) (hbh:w.heap[bh]? =some (.cells #[.pointer ho] 36)) (hbe:w.heap[be]? =some (.cells #[.string ev] 9)) (k1 p1 q1:Int) (s1:ByteArray) (r1:Int) (k2 p2 q2:Int) (s2:ByteArray) (r2:Int) (fk fp fq:Int) (fs:ByteArray) (fr:Int) (hf:(fk !=0)=true) (HA0:∀W,Below w.heap.size w W→Calls Tryz.prog 127 #[.pointer ho,.agg #[k1,p1,q1,s1,r1],ev] W (ValPost W ⟨fk,fp,fq,fs,fr⟩)):Calls Tryz.prog 179 #[.agg #[k1,p1,q1,s1,r1],.agg #[k2,p2,q2,s2,r2],.pointer (some ⟨bh,0,none⟩),.pointer (some ⟨be,0,none⟩)] w (ValPost w ⟨fk,fp,fq,fs,fr⟩):=by
 have HBH:=Lib.hid hbh
 have HBE:=Lib.hid hbe
 have HA:=Lib.hid HA0
 have hh0:(((w.alloc (oV k1 p1 q1 s1 r1)).alloc (oV k2 p2 q2 s2 r2)).alloc (oV 0 0 0 ⟨#[]⟩ 0)).cell? ⟨bh,0,none⟩=some (.pointer ho):=by rw[zAA (heap3_old HBH.out _ _ _)];rfl
 have he0:(((w.alloc (oV k1 p1 q1 s1 r1)).alloc (oV k2 p2 q2 s2 r2)).alloc (oV 0 0 0 ⟨#[]⟩ 0)).cell? ⟨be,0,none⟩=some (.string ev):=by rw[zAA (heap3_old HBE.out _ _ _)];rfl
 clear HA0 hbh hbe
 go_enter Tryz.func179,Tryz.ntmps179
 go_wp2_with fail
 refine(HA.out _ ((zAF _ _ _).alloc (by simp;omega) _)).mono ?_
 rintro e w1 ⟨rfl,hb⟩
 have Hu1:=hkh hb (zAX _ _ _ _)
 have HW1:=hbn (((zAF _ _ _).alloc (by simp;omega) _)) hb
 have hz1:=hb.size
 try simp at hz1
 clear hb
 have hyu:w.heap.size+1+1<w1.heap.size:=hsz Hu1
 obtain⟨u0,u1,u2,u3,u4⟩:=cells5 Hu1.out
 obtain⟨fu0,fu1,fu2,fu3,fu4⟩:=froz5 Hu1.out
 clear hh0 he0
 go_wp2
 refine bodyPost_ret (by simp[results,Tryz.results179,go_sem,hyu,u0,u1,u2,u3,u4];first|done|rfl) rfl ?_
 exact zAo rfl ((zAH HW1.out (by omega) _ _ _ _ _).alloc (by simp;omega) _)
theorem pFind1_miss (w:World) (bh be:Nat) (ho:Option Addr) (ev:ByteArray) (hbh:w.heap[bh]? =some (.cells #[.pointer ho] 36)) (hbe:w.heap[be]? =some (.cells #[.string ev] 9)) (k1 p1 q1:Int) (s1:ByteArray) (r1:Int) (k2 p2 q2:Int) (s2:ByteArray) (r2:Int) (fk fp fq:Int) (fs:ByteArray) (fr:Int) (gk gp gq:Int) (gs:ByteArray) (gr:Int) (hf:(fk !=0)=false) (HA0:∀W,Below w.heap.size w W→Calls Tryz.prog 127 #[.pointer ho,.agg #[k1,p1,q1,s1,r1],ev] W (ValPost W ⟨fk,fp,fq,fs,fr⟩)) (HB0:∀W,Below w.heap.size w W→Calls Tryz.prog 127 #[.pointer ho,.agg #[k2,p2,q2,s2,r2],ev] W (ValPost W ⟨gk,gp,gq,gs,gr⟩)):Calls Tryz.prog 179 #[.agg #[k1,p1,q1,s1,r1],.agg #[k2,p2,q2,s2,r2],.pointer (some ⟨bh,0,none⟩),.pointer (some ⟨be,0,none⟩)] w (ValPost w ⟨gk,gp,gq,gs,gr⟩):=by
 have HBH:=Lib.hid hbh
 have HBE:=Lib.hid hbe
 have HA:=Lib.hid HA0
 have HB:=Lib.hid HB0
 have hh0:(((w.alloc (oV k1 p1 q1 s1 r1)).alloc (oV k2 p2 q2 s2 r2)).alloc (oV 0 0 0 ⟨#[]⟩ 0)).cell? ⟨bh,0,none⟩=some (.pointer ho):=by rw[zAA (heap3_old HBH.out _ _ _)];rfl
 have he0:(((w.alloc (oV k1 p1 q1 s1 r1)).alloc (oV k2 p2 q2 s2 r2)).alloc (oV 0 0 0 ⟨#[]⟩ 0)).cell? ⟨be,0,none⟩=some (.string ev):=by rw[zAA (heap3_old HBE.out _ _ _)];rfl
 clear HA0 HB0 hbh hbe
 go_enter Tryz.func179,Tryz.ntmps179
 go_wp2_with fail
 refine(HA.out _ ((zAF _ _ _).alloc (by simp;omega) _)).mono ?_
 rintro e w1 ⟨rfl,hb⟩
 clear hh0 he0
 have Hb1:=hkh hb (zAY _ _ _ _)
 have Hu1:=hkh hb (zAX _ _ _ _)
 have Hh1:=hkh hb (heap3_old HBH.out _ _ _)
 have He1:=hkh hb (heap3_old HBE.out _ _ _)
 have HW1:=hbn (((zAF _ _ _).alloc (by simp;omega) _)) hb
 have hz1:=hb.size
 try simp at hz1
 clear hb
 have hyb:w.heap.size+1<w1.heap.size:=hsz Hb1
 obtain⟨b0,b1,b2,b3,b4⟩:=cells5 Hb1.out
 have hyh:bh<w1.heap.size:=hsz Hh1
 have h0:w1.cell? ⟨bh,0,none⟩=some (.pointer ho):=by rw[zAA Hh1.out];rfl
 have hye:be<w1.heap.size:=hsz He1
 have e0:w1.cell? ⟨be,0,none⟩=some (.string ev):=by rw[zAA He1.out];rfl
 go_wp2_with fail
 refine(HB.out _ (HW1.out.alloc HW1.out.size (oV fk fp fq fs fr))).mono ?_
 rintro e w2 ⟨rfl,hb⟩
 have Hu2:=hkh hb (zAI Hu1.out _)
 have HW2:=hbn (HW1.out.alloc HW1.out.size (oV fk fp fq fs fr)) hb
 have hz2:=hb.size
 try simp at hz2
 clear hb
 clear hyb b0 b1 b2 b3 b4 hyh h0 hye e0
 have hyu:w.heap.size+1+1<w2.heap.size:=hsz Hu2
 obtain⟨u0,u1,u2,u3,u4⟩:=cells5 Hu2.out
 obtain⟨fu0,fu1,fu2,fu3,fu4⟩:=froz5 Hu2.out
 go_wp2
 refine bodyPost_ret (by simp[results,Tryz.results179,go_sem,hyu,u0,u1,u2,u3,u4];first|done|rfl) rfl ?_
 exact zAo rfl (zAH HW2.out (by omega) _ _ _ _ _)
theorem pFind1_c (w:World) (bh be:Nat) (ho:Option Addr) (ev:ByteArray) (hbh:w.heap[bh]? =some (.cells #[.pointer ho] 36)) (hbe:w.heap[be]? =some (.cells #[.string ev] 9)) (k1 p1 q1:Int) (s1:ByteArray) (r1:Int) (k2 p2 q2:Int) (s2:ByteArray) (r2:Int) (F G:V) (HA:∀W,Below w.heap.size w W→Calls Tryz.prog 127 #[.pointer ho,.agg #[k1,p1,q1,s1,r1],ev] W (ValPost W F)) (HB:∀W,Below w.heap.size w W→Calls Tryz.prog 127 #[.pointer ho,.agg #[k2,p2,q2,s2,r2],ev] W (ValPost W G)):
  Calls Tryz.prog 179 #[.agg #[k1,p1,q1,s1,r1],.agg #[k2,p2,q2,s2,r2],.pointer (some ⟨bh,0,none⟩),.pointer (some ⟨be,0,none⟩)] w (ValPost w (if F.k=0 then G else F)):=by
 obtain⟨fk,fp,fq,fs,fr⟩:=F
 obtain⟨gk,gp,gq,gs,gr⟩:=G
 by_cases h:fk=0
 ·rw[if_pos h]
  exact pFind1_miss w bh be ho ev hbh hbe k1 p1 q1 s1 r1 k2 p2 q2 s2 r2 fk fp fq fs fr gk gp gq gs gr (by rw[bne_eq_false_iff_eq];exact h) HA HB
 ·rw[if_neg h]
  exact pFind1_hit w bh be ho ev hbh hbe k1 p1 q1 s1 r1 k2 p2 q2 s2 r2 fk fp fq fs fr (by rw[bne_iff_ne];exact h) HA
theorem pFirst_num_true (w:World) (ba bb:Nat) (k1 p1 q1:Int) (s1:ByteArray) (r1:Int) (k2 p2 q2:Int) (s2:ByteArray) (r2:Int) (hba:w.heap[ba]? =some (oV k1 p1 q1 s1 r1)) (hbb:w.heap[bb]? =some (oV k2 p2 q2 s2 r2)) (hk1:i64 k1) (hk2:i64 k2) (N:∀W,Below w.heap.size w W→Calls Tryz.prog 182 #[.agg #[k1,p1,q1,s1,r1]] W (BoolPost W true)):
  Calls Tryz.prog 180 #[.func (.func 182) #[] #[],.pointer (some ⟨ba,0,none⟩),.pointer (some ⟨bb,0,none⟩)] w (StrPost w (typeM k2)):=by
 have HN:=Lib.hid N
 have HK1:=Lib.hid hk1
 have HK2:=Lib.hid hk2
 have HBA:=Lib.hid hba
 have HBB:=Lib.hid hbb
 obtain⟨a0,a1,a2,a3,a4⟩:=cells5 HBA.out
 clear N hk1 hk2 hba hbb
 go_enter Tryz.func180,Tryz.ntmps180
 go_wp2_with fail
 refine(HN.out _ (Below.refl _ _)).mono ?_
 rintro e w1 ⟨rfl,hb⟩
 have HW1:=Lib.hid hb
 clear a0 a1 a2 a3 a4
 obtain⟨b0,b1,b2,b3,b4⟩:=cells5 (hkeep hb HBB.out)
 clear hb
 go_wp2_with fail
 refine(pType_c _ k2 p2 q2 s2 r2 HK2.out).mono ?_
 rintro e w2 ⟨rfl,hb⟩
 go_wp2
 go_ret
 exact⟨rfl,zAC HW1.out hb⟩
theorem pFirst_num_false (w:World) (ba bb:Nat) (k1 p1 q1:Int) (s1:ByteArray) (r1:Int) (k2 p2 q2:Int) (s2:ByteArray) (r2:Int) (hba:w.heap[ba]? =some (oV k1 p1 q1 s1 r1)) (hbb:w.heap[bb]? =some (oV k2 p2 q2 s2 r2)) (hk1:i64 k1) (hk2:i64 k2) (N:∀W,Below w.heap.size w W→Calls Tryz.prog 182 #[.agg #[k1,p1,q1,s1,r1]] W (BoolPost W false)):
  Calls Tryz.prog 180 #[.func (.func 182) #[] #[],.pointer (some ⟨ba,0,none⟩),.pointer (some ⟨bb,0,none⟩)] w (StrPost w (typeM k1)):=by
 have HN:=Lib.hid N
 have HK1:=Lib.hid hk1
 have HK2:=Lib.hid hk2
 have HBA:=Lib.hid hba
 have HBB:=Lib.hid hbb
 obtain⟨a0,a1,a2,a3,a4⟩:=cells5 HBA.out
 clear N hk1 hk2 hba hbb
 go_enter Tryz.func180,Tryz.ntmps180
 go_wp2_with fail
 refine(HN.out _ (Below.refl _ _)).mono ?_
 rintro e w1 ⟨rfl,hb⟩
 have HW1:=Lib.hid hb
 clear a0 a1 a2 a3 a4
 obtain⟨a0,a1,a2,a3,a4⟩:=cells5 (hkeep hb HBA.out)
 clear hb
 go_wp2_with fail
 refine(pType_c _ k1 p1 q1 s1 r1 HK1.out).mono ?_
 rintro e w2 ⟨rfl,hb⟩
 go_wp2
 go_ret
 exact⟨rfl,zAC HW1.out hb⟩
theorem pFirst_num (w:World) (ba bb:Nat) (k1 p1 q1:Int) (s1:ByteArray) (r1:Int) (k2 p2 q2:Int) (s2:ByteArray) (r2:Int) (hba:w.heap[ba]? =some (oV k1 p1 q1 s1 r1)) (hbb:w.heap[bb]? =some (oV k2 p2 q2 s2 r2)) (hk1:i64 k1) (hk2:i64 k2) (b:Bool) (N:∀W,Below w.heap.size w W→Calls Tryz.prog 182 #[.agg #[k1,p1,q1,s1,r1]] W (BoolPost W b)):
  Calls Tryz.prog 180 #[.func (.func 182) #[] #[],.pointer (some ⟨ba,0,none⟩),.pointer (some ⟨bb,0,none⟩)] w (StrPost w (typeM (if b then k2 else k1))):=by
 cases b with
 |true=>exact pFirst_num_true w ba bb k1 p1 q1 s1 r1 k2 p2 q2 s2 r2 hba hbb hk1 hk2 N
 |false=>exact pFirst_num_false w ba bb k1 p1 q1 s1 r1 k2 p2 q2 s2 r2 hba hbb hk1 hk2 N
theorem pFirst_text_true (w:World) (ba bb:Nat) (k1 p1 q1:Int) (s1:ByteArray) (r1:Int) (k2 p2 q2:Int) (s2:ByteArray) (r2:Int) (hba:w.heap[ba]? =some (oV k1 p1 q1 s1 r1)) (hbb:w.heap[bb]? =some (oV k2 p2 q2 s2 r2)) (hk1:i64 k1) (hk2:i64 k2) (N:∀W,Below w.heap.size w W→Calls Tryz.prog 183 #[.agg #[k1,p1,q1,s1,r1]] W (BoolPost W true)):
  Calls Tryz.prog 180 #[.func (.func 183) #[] #[],.pointer (some ⟨ba,0,none⟩),.pointer (some ⟨bb,0,none⟩)] w (StrPost w (typeM k2)):=by
 have HN:=Lib.hid N
 have HK1:=Lib.hid hk1
 have HK2:=Lib.hid hk2
 have HBA:=Lib.hid hba
 have HBB:=Lib.hid hbb
 obtain⟨a0,a1,a2,a3,a4⟩:=cells5 HBA.out
 clear N hk1 hk2 hba hbb
 go_enter Tryz.func180,Tryz.ntmps180
 go_wp2_with fail
 refine(HN.out _ (Below.refl _ _)).mono ?_
 rintro e w1 ⟨rfl,hb⟩
 have HW1:=Lib.hid hb
 clear a0 a1 a2 a3 a4
 obtain⟨b0,b1,b2,b3,b4⟩:=cells5 (hkeep hb HBB.out)
 clear hb
 go_wp2_with fail
 refine(pType_c _ k2 p2 q2 s2 r2 HK2.out).mono ?_
 rintro e w2 ⟨rfl,hb⟩
 go_wp2
 go_ret
 exact⟨rfl,zAC HW1.out hb⟩
theorem pFirst_text_false (w:World) (ba bb:Nat) (k1 p1 q1:Int) (s1:ByteArray) (r1:Int) (k2 p2 q2:Int) (s2:ByteArray) (r2:Int) (hba:w.heap[ba]? =some (oV k1 p1 q1 s1 r1)) (hbb:w.heap[bb]? =some (oV k2 p2 q2 s2 r2)) (hk1:i64 k1) (hk2:i64 k2) (N:∀W,Below w.heap.size w W→Calls Tryz.prog 183 #[.agg #[k1,p1,q1,s1,r1]] W (BoolPost W false)):
  Calls Tryz.prog 180 #[.func (.func 183) #[] #[],.pointer (some ⟨ba,0,none⟩),.pointer (some ⟨bb,0,none⟩)] w (StrPost w (typeM k1)):=by
 have HN:=Lib.hid N
 have HK1:=Lib.hid hk1
 have HK2:=Lib.hid hk2
 have HBA:=Lib.hid hba
 have HBB:=Lib.hid hbb
 obtain⟨a0,a1,a2,a3,a4⟩:=cells5 HBA.out
 clear N hk1 hk2 hba hbb
 go_enter Tryz.func180,Tryz.ntmps180
 go_wp2_with fail
 refine(HN.out _ (Below.refl _ _)).mono ?_
 rintro e w1 ⟨rfl,hb⟩
 have HW1:=Lib.hid hb
 clear a0 a1 a2 a3 a4
 obtain⟨a0,a1,a2,a3,a4⟩:=cells5 (hkeep hb HBA.out)
 clear hb
 go_wp2_with fail
 refine(pType_c _ k1 p1 q1 s1 r1 HK1.out).mono ?_
 rintro e w2 ⟨rfl,hb⟩
 go_wp2
 go_ret
 exact⟨rfl,zAC HW1.out hb⟩
theorem pFirst_text (w:World) (ba bb:Nat) (k1 p1 q1:Int) (s1:ByteArray) (r1:Int) (k2 p2 q2:Int) (s2:ByteArray) (r2:Int) (hba:w.heap[ba]? =some (oV k1 p1 q1 s1 r1)) (hbb:w.heap[bb]? =some (oV k2 p2 q2 s2 r2)) (hk1:i64 k1) (hk2:i64 k2) (b:Bool) (N:∀W,Below w.heap.size w W→Calls Tryz.prog 183 #[.agg #[k1,p1,q1,s1,r1]] W (BoolPost W b)):
  Calls Tryz.prog 180 #[.func (.func 183) #[] #[],.pointer (some ⟨ba,0,none⟩),.pointer (some ⟨bb,0,none⟩)] w (StrPost w (typeM (if b then k2 else k1))):=by
 cases b with
 |true=>exact pFirst_text_true w ba bb k1 p1 q1 s1 r1 k2 p2 q2 s2 r2 hba hbb hk1 hk2 N
 |false=>exact pFirst_text_false w ba bb k1 p1 q1 s1 r1 k2 p2 q2 s2 r2 hba hbb hk1 hk2 N
end Go.Proofs.YthkpckgcgkijbaaGreatDoor
