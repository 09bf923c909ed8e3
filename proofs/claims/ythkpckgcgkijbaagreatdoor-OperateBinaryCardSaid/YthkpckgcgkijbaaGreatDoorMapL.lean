import Derived.Test.YthkpckgcgkijbaaGreatDoorOmD
set_option linter.unusedVariables false
set_option linter.unusedSimpArgs false
set_option maxRecDepth 100000
set_option maxHeartbeats 8000000
namespace Go.Proofs.YthkpckgcgkijbaaGreatDoor
open Go.RowKit Go.Proofs.Lexi Go.ChangeMaps Go.MapKept Go.Proofs.Tryz
open Go.Maps (Keyed)
variable {P : Program}
theorem Qv (w:World) {ops:Array Oper} {rest:List Oper} {o:Oper} {a:Act} {Q:Exit->Act->World->Prop}
  (hg:o.guard=none) (m x:Operand) (t:TypeId) (c:Bool) (hop:o.op=Op.lookup t m x c) (M K v:Value) (hm:a.eval m=M) (hx:a.eval x=K)
  (hrun:(Instr.lookup t M K c).run P w= .ok v w) (hK:wpList P ops Q rest (a.put o.dst v) w):wpList P ops Q (o::rest) a w:=by
 refine wpList_plain hg fun K' hK'=> ?_;unfold Oper.wp;simp[execOp,hop,hm,hx,hrun,Result.andThen];exact hK' _ _ hK
theorem ZE (w:World) {ops:Array Oper} {rest:List Oper} {o:Oper} {a:Act} {Q:Exit->Act->World->Prop}
  (hg:o.guard=none) (m x v:Operand) (t:TypeId) (hop:o.op=Op.mapUpdate t m x v) (M K V':Value) (hm:a.eval m=M) (hx:a.eval x=K) (hv:a.eval v=V') (R:World->Prop)
  (hrun:∃w',(Instr.mapUpdate t M K V').run P w= .ok () w'/\R w') (hK:∀w',R w'->wpList P ops Q rest (a.put o.dst undef) w'):wpList P ops Q (o::rest) a w:=by
 refine wpList_plain hg fun K' hK'=> ?_;obtain⟨w',hrun,r⟩:=hrun;unfold Oper.wp;simp[execOp,hop,hm,hx,hv,hrun,Result.andThen];exact hK' _ _ (hK w' r)
theorem XJ (w:World) {ops:Array Oper} {rest:List Oper} {o:Oper} {a:Act} {Q:Exit->Act->World->Prop}
  (hg:o.guard=none) (m x:Operand) (t k:TypeId) (hop:o.op=Op.call {callee:=Callee.builtin Builtin.delete,args:=#[m,x],argTypes:=#[t,k]}) (M K:Value) (hm:a.eval m=M) (hx:a.eval x=K) (R:World->Prop)
  (hrun:∃w',(Builtin.delete_ #[t,k] o.type #[M,K]).run P w= .ok (.tuple #[]) w'/\R w') (hK:∀w',R w'->wpList P ops Q rest (a.put o.dst (.tuple #[])) w'):wpList P ops Q (o::rest) a w:=by
 refine wpList_plain hg fun K' hK'=> ?_;obtain⟨w',hrun,r⟩:=hrun;unfold Oper.wp;simp[execOp,hop,resolve,invoke,builtin,hm,hx,hrun,Result.andThen];exact hK' _ _ (hK w' r)
end Go.Proofs.YthkpckgcgkijbaaGreatDoor
namespace Go.Proofs.YthkpckgcgkijbaaGreatDoor
open Go.ChangeShapes Go.WideShapes Go.ChangeAt Go.WideMaps Go.WideElems Go.RowKit Go.Proofs.Tryz
theorem A1 (os:Os) (started:os.Started) (H:Type) (enc:TypeId×Value->H) {f:FuncId} {fn:Func} {s:ChangeSpec} (noInit:prog.inits.idxOf? f=none) (hfn:prog.funcs[f]? =some fn)
  (witness:∃(w:World) (tape:Tape) (i:Input),w.os=os/\(w.forCall tape i).Shaped prog/\i.vars=[]/\Input.okWide prog (w.forCall tape i) .any w.heap.size f i/\
   ((s.pre enc prog fn [] false (w.forCall tape i).memory i.args/\laidMetH prog laidL (w.forCall tape i).memory)/\sizedMet enc prog fn (OpenSpec.ofChange s) false (w.forCall tape i).memory i.args)/\({}:Assume).holds prog (lone (Frame.enter prog f i.args .normal) [] (w.forCall tape i)))
  (law:∀(W:World) (base:Nat) (args:Array Value) (ds gs:List (DataW H)) (before:List MemPlace),Glob W->(∀(j:Nat) t v,fn.params[j]? =some t->args[j]? =some v->Value.okWide prog W .any base t v)->
   DataW.Whole enc prog fn.params.toList s.vars false W args.toList ds gs before->Calls prog f args W fun e W'=>∃v,e= .returned v/\s.post enc prog fn false true false false W args v W'):
  ReturnsInHanded {} checked os f .any (fun w args=>(s.pre enc prog fn [] false w args/\laidMetH prog laidL w)/\sizedMet enc prog fn (OpenSpec.ofChange s) false w args) (s.post enc prog fn false true false false):=by
 refine returnsInHanded_of_calls (C:=checked) Tryz.own started noInit witness ?_;intro w tape i _ hs _ hok hpre _;obtain⟨_,_,_,fn',hfn',_,_,_,_,hval⟩:=hok;obtain rfl:fn'=fn:=Option.some.inj (hfn'.symm.trans hfn);obtain⟨⟨⟨ds,gs,before,hw,_⟩,hx⟩,_⟩:=hpre;have hw2:=DataW.Whole.of_heap (w':=w.forCall tape i) (by rfl) hw;have hx2:laidMetH prog laidL (w.forCall tape i):=hx.of_heap (by rfl);refine(law (w.forCall tape i) w.heap.size i.args ds gs before ⟨LL hs,Ff hx2⟩ hval hw2).mono fun e W' ⟨v,he,hp⟩=> ?_;subst he;exact ChangeSpec.post_blind hp
end Go.Proofs.YthkpckgcgkijbaaGreatDoor
namespace Go.Proofs.YthkpckgcgkijbaaGreatDoor
open Go.RowKit Go.Proofs.Lexi Go.Proofs.Tryz
theorem O5 (w:World) (s:ByteArray):Calls prog 141 #[(KR s).v] w (IntBool w 0 false):=by
 show Calls prog 141 #[.agg #[.int .i64 3,(0:Int),(0:Int),s,(0:Int)]] w (IntBool w 0 false);go_enter func141,ntmps141;go_wp2
 go_quiet (fail)
 go_wp2;refine zr (by simp[results,results141,go_sem]<;>rfl) ?_;exact⟨rfl,below_drewN (Qj _ _) _⟩
theorem Bf (W:World) (k p q:Int) (s:ByteArray) (r:Int) (k2 p2 q2:Int) (s2:ByteArray) (r2:Int):
  (binOp .eql 25 (.agg #[k,p,q,s,r]) (.agg #[k2,p2,q2,s2,r2])).run prog W= .ok (.bool (eqV ⟨k,p,q,s,r⟩ ⟨k2,p2,q2,s2,r2⟩)) W:=by
 by_cases h1:k=k2<;>by_cases h2:p=p2<;>by_cases h3:q=q2<;>by_cases h4:s=s2<;>by_cases h5:r=r2<;>simp[go_sem,eqV,h1,h2,h3,h4,h5];have h6:¬s.toList=s2.toList:=fun e=>h4 (ByteArray.ext (Array.toList_inj.1 (by rw[<-ByteArray.toList_eq,<-ByteArray.toList_eq];exact e)));have h7:(QF s==QF s2)=false:=beq_eq_false_iff_ne.2 (fun e=>h4 (JB e));rw[if_neg h6,h7]
theorem Ok (w:World) (m cap:Nat) (so:Option Addr) (L:List Sl) (hm:w.heap[m]? =some (.cells #[.slice so L.length cap] 181)) (hrow:w.ownsRow 0 186 11 (.slice so L.length cap) L.length (ZA L)) (hL:L.length<=1000) (k1 p1 q1:Int) (s1:ByteArray) (r1:Int):Calls prog 226 #[m,.agg #[k1,p1,q1,s1,r1]] w (IntPost w (sfM ⟨k1,p1,q1,s1,r1⟩ L 0 (-1))):=by
 obtain⟨R,hR⟩:∃R,R=sfM ⟨k1,p1,q1,s1,r1⟩ L 0 (-1):=⟨_,rfl⟩
 rw[<-hR];have hml:m<w:=(Array.getElem?_eq_some_iff.1 hm).1;have HM:=zh (QI hm (oV k1 p1 q1 s1 r1));have HROW:=zh (QR (QV (Qf w (oV k1 p1 q1 s1 r1)) zl) hrow);have HB:=zh (Qy w (oV k1 p1 q1 s1 r1));have HS0:=zh (show SFRel (w.alloc (oV k1 p1 q1 s1 r1)) ⟨k1,p1,q1,s1,r1⟩ L R L.length (.int .i64 (-1)) (.int .i64 0) (w.alloc (oV k1 p1 q1 s1 r1)) from⟨0, -1,rfl,rfl,rfl,Nat.zero_le _,hR.symm,Below.refl _ _⟩);clear hm hrow hR;go_enter func226,ntmps226;go_wp2
 go_loopg [5,6] L.length (fun gg va vi wr=>SFRel (w.alloc (oV k1 p1 q1 s1 r1)) ⟨k1,p1,q1,s1,r1⟩ L R gg va vi wr)
 case atStart=>exact HS0.out
 case round=>
  clear HS0;obtain⟨i,at_,rfl,rfl,rfl,hi,hgo,hb⟩:=hrel;have HMr:=hkh hb HM;have HBr:=hkh hb HB;have hrowr:=QR (QV hb zl) HROW.out;have hz:=hb.size;simp at hz;have HBB:=zh hb;have HGO:=zh hgo;clear hb hgo;have m0:wr.cell? m=some (.slice so L.length cap):=by rw[QA HMr.out];rfl
  obtain⟨b0,b1,b2,b3,b4⟩:=zc5 HBr;by_cases hlt:i<L.length
  ·obtain⟨rb,cap',he⟩:=Qh hrowr (by omega);injection he with he1 he2 he3;subst he1;obtain⟨sl,hsl⟩:∃sl,L[i]? =some sl:=⟨_,List.getElem?_eq_getElem hlt⟩
   have rc0:wr.cell? ⟨rb,i*11,none⟩=some (.int .i64 sl.k.k):=(hrowr.cellAt (i*11+0) (by omega)).trans (Qk L i 0 sl hsl (by decide));have rc1:wr.cell? ⟨rb,i*11+1,none⟩=some (.int .i64 sl.k.p):=(hrowr.cellAt (i*11+1) (by omega)).trans (Qk L i 1 sl hsl (by decide));have rc2:wr.cell? ⟨rb,i*11+2,none⟩=some (.int .i64 sl.k.q):=(hrowr.cellAt (i*11+2) (by omega)).trans (Qk L i 2 sl hsl (by decide));have rc3:wr.cell? ⟨rb,i*11+3,none⟩=some (.string sl.k.s):=(hrowr.cellAt (i*11+3) (by omega)).trans (Qk L i 3 sl hsl (by decide));have rc4:wr.cell? ⟨rb,i*11+4,none⟩=some (.int .i64 sl.k.r):=(hrowr.cellAt (i*11+4) (by omega)).trans (Qk L i 4 sl hsl (by decide));have rc10:wr.cell? ⟨rb,i*11+10,none⟩=some (.bool sl.g):=(hrowr.cellAt (i*11+10) (by omega)).trans (Qk L i 10 sl hsl (by decide));have HST:=zh (PD (k:=⟨k1,p1,q1,s1,r1⟩) (at_:=at_) hsl);clear hrowr hsl;have HEQ:=zh (fun W=>Bf W sl.k.k sl.k.p sl.k.q sl.k.s sl.k.r k1 p1 q1 s1 r1);cases he:eqV sl.k ⟨k1,p1,q1,s1,r1⟩ with
   |false=>
    have hq:∀W:World,(binOp .eql 25 (.agg #[.int .i64 sl.k.k,.int .i64 sl.k.p,.int .i64 sl.k.q,.string sl.k.s,.int .i64 sl.k.r]) (.agg #[k1,p1,q1,s1,r1])).run prog W= .ok (.bool false) W:=fun W=>by rw[<-he];exact HEQ.out W
    have HG2:=zh (show sfM ⟨k1,p1,q1,s1,r1⟩ (L.drop (i+1)) (i+1) at_=R by rw[<-HGO.out,HST.out,if_neg (by rw[he];decide)]);clear he HEQ HST HGO;go_wp2
    go_quiet (fail)
    go_wp2
    go_roundg (L.length-(i+1))
    case measure=>omega
    case rel=>exact⟨i+1,at_,rfl,rfl,rfl,by omega,HG2.out,below_drewN HBB.out _⟩
   |true=>
    have hq:∀W:World,(binOp .eql 25 (.agg #[.int .i64 sl.k.k,.int .i64 sl.k.p,.int .i64 sl.k.q,.string sl.k.s,.int .i64 sl.k.r]) (.agg #[k1,p1,q1,s1,r1])).run prog W= .ok (.bool true) W:=fun W=>by rw[<-he];exact HEQ.out W
    cases hg:sl.g with
    |true=>
     rw[hg] at rc10;have HG2:=zh (show sfM ⟨k1,p1,q1,s1,r1⟩ (L.drop (i+1)) (i+1) (i:Nat)=R by rw[<-HGO.out,HST.out,if_pos he,if_pos hg]);clear he HEQ HST HGO;go_wp2
     go_quiet (fail)
     go_wp2
     go_roundg (L.length-(i+1))
     case measure=>omega
     case rel=>exact⟨i+1,(i:Nat),rfl,rfl,rfl,by omega,HG2.out,below_drewN HBB.out _⟩
    |false=>
     rw[hg] at rc10;have HG2:=zh (show((i:Nat):Int)=R by rw[<-HGO.out,HST.out,if_pos he,if_neg (by rw[hg];decide)]);clear he HEQ HST HGO;go_wp2
     go_quiet (fail)
     go_wp2
     go_ret
     exact Qr HG2.out (QC (Qf _ _) (below_drewN HBB.out _))
  ·obtain rfl:i=L.length:=by omega
   have HG2:=zh (show at_=R by rw[<-HGO.out,List.drop_length];rfl);clear HGO;go_wp2
   go_ret
   exact Qr HG2.out (QC (Qf _ _) HBB.out)
theorem PM (w:World) (m cap:Nat) (so:Option Addr) (L:List Sl) (hm:w.heap[m]? =some (.cells #[.slice so L.length cap] 181)) (hrow:w.ownsRow 0 186 11 (.slice so L.length cap) L.length (ZA L)) (hL:L.length<=1000):Calls prog 227 #[m] w (fun e w'=>e= .returned (.int .i64 (Q1 L:Nat))/\w=w'):=by
 have m0:w.cell? m=some (.slice so L.length cap):=by rw[QA hm];rfl
 have HROW:=zh hrow;have HS0:=zh (show LenRel w L L.length (.int .i64 0) (.int .i64 0) w from⟨0,rfl,rfl,by rw[List.take_zero];rfl,rfl,Nat.zero_le _⟩);clear hm hrow;go_enter func227,ntmps227;go_wp2
 go_loopg [3,4] L.length (fun gg va vi wr=>LenRel w L gg va vi wr)
 case atStart=>exact HS0.out
 case round=>
  clear HS0;obtain⟨i,rfl,rfl,rfl,rfl,hi⟩:=hrel;have hlv:=ZR (L.take i);rw[List.length_take] at hlv;by_cases hlt:i<L.length
  ·obtain⟨rb,cap',he⟩:=Qh HROW.out (by omega);injection he with he1 he2 he3;subst he1;obtain⟨sl,hsl⟩:∃sl,L[i]? =some sl:=⟨_,List.getElem?_eq_getElem hlt⟩
   have rc10:w.cell? ⟨rb,i*11+10,none⟩=some (.bool sl.g):=(HROW.out.cellAt (i*11+10) (by omega)).trans (Qk L i 10 sl hsl (by decide));have HLT:=zh (MY hsl);clear hsl;cases hg:sl.g with
   |true=>
    rw[hg] at rc10;go_wp2
    go_roundg (L.length-(i+1))
    case measure=>omega
    case rel=>exact⟨i+1,rfl,rfl,by rw[HLT.out,hg];rfl,rfl,by omega⟩
   |false=>
    rw[hg] at rc10;go_wp2
    go_roundg (L.length-(i+1))
    case measure=>omega
    case rel=>exact⟨i+1,rfl,rfl,by rw[HLT.out,hg];rfl,rfl,by omega⟩
  ·obtain rfl:i=L.length:=by omega
   go_wp2
   go_ret
   exact⟨by rw[List.take_length];rfl,rfl⟩
theorem OX (w:World) (h:Nat) (k1 p1 q1:Int) (s1:ByteArray) (r1:Int) (s:ByteArray) (k2 p2 q2:Int) (s2:ByteArray) (r2:Int) (T:∀W,Below w w W->Calls prog 117 #[h,.agg #[k1,p1,q1,s1,r1]] W (IntPost W 8)):Calls prog 71 #[h,.agg #[k1,p1,q1,s1,r1],.agg #[.int .i64 3,(0:Int),(0:Int),s,(0:Int)],.agg #[k2,p2,q2,s2,r2]] w (IntPost w 8):=by
 have HT:=zh T;clear T;go_enter func71,ntmps71;go_wp2_with fail
 refine(HT.out _ ((QE _ _ _).alloc (by simp;omega) _)).mono ?_;rintro e w1 ⟨rfl,hb⟩;have HW1:=hbn (((QE _ _ _).alloc (by simp;omega) _)) hb;have hz1:=hb.size;try simp at hz1
 clear hb;go_wp2
 go_ret
 exact Qr rfl HW1.out
theorem L4 (w:World) (h:Nat) (k1 p1 q1:Int) (s1:ByteArray) (r1:Int) (s:ByteArray) (k2 p2 q2:Int) (s2:ByteArray) (r2:Int) (T:∀W,Below w w W->Calls prog 117 #[h,.agg #[k1,p1,q1,s1,r1]] W (IntPost W 0)) (V:∀W,Calls prog 26 #[.agg #[.int .i64 3,(0:Int),(0:Int),s,(0:Int)]] W (BoolPost W false)):Calls prog 71 #[h,.agg #[k1,p1,q1,s1,r1],.agg #[.int .i64 3,(0:Int),(0:Int),s,(0:Int)],.agg #[k2,p2,q2,s2,r2]] w (IntPost w 13):=by
 have HT:=zh T;have HV:=zh V;clear T V;go_enter func71,ntmps71;go_wp2_with fail
 refine(HT.out _ ((QE _ _ _).alloc (by simp;omega) _)).mono ?_;rintro e w1 ⟨rfl,hb⟩;have Hb1:=hkh hb (Qa _ _ _ _);have HW1:=hbn (((QE _ _ _).alloc (by simp;omega) _)) hb;have hz1:=hb.size;try simp at hz1
 clear hb;have hyb:=hsz Hb1;obtain⟨b0,b1,b2,b3,b4⟩:=zc5 Hb1;go_wp2_with fail
 refine(HV.out _).mono ?_;rintro e w2 ⟨rfl,hb⟩;have Hb2:=hkh hb Hb1;have HW2:=hbn HW1 hb;have hz2:=hb.size;try simp at hz2
 clear hb;clear hyb b0 b1 b2 b3 b4;have hyb:=hsz Hb2;obtain⟨b0,b1,b2,b3,b4⟩:=zc5 Hb2;go_wp2
 go_ret
 exact Qr rfl HW2.out
theorem OY (w:World) (h:Nat) (k1 p1 q1:Int) (s1:ByteArray) (r1:Int) (s:ByteArray) (k2 p2 q2:Int) (s2:ByteArray) (r2:Int) (c:Int) (hc:(c !=0)=true) (T:∀W,Below w w W->Calls prog 117 #[h,.agg #[k1,p1,q1,s1,r1]] W (IntPost W 0)) (V:∀W,Calls prog 26 #[.agg #[.int .i64 3,(0:Int),(0:Int),s,(0:Int)]] W (BoolPost W true)) (E:∀W,Calls prog 118 #[.agg #[k2,p2,q2,s2,r2]] W (IntPost W c)):Calls prog 71 #[h,.agg #[k1,p1,q1,s1,r1],.agg #[.int .i64 3,(0:Int),(0:Int),s,(0:Int)],.agg #[k2,p2,q2,s2,r2]] w (IntPost w c):=by
 have HT:=zh T;have HV:=zh V;have HE:=zh E;clear T V E;go_enter func71,ntmps71;go_wp2_with fail
 refine(HT.out _ ((QE _ _ _).alloc (by simp;omega) _)).mono ?_;rintro e w1 ⟨rfl,hb⟩;have Hb1:=hkh hb (Qa _ _ _ _);have Hc1:=hkh hb (QU _ _ _ _);have HW1:=hbn (((QE _ _ _).alloc (by simp;omega) _)) hb;have hz1:=hb.size;try simp at hz1
 clear hb;have hyb:=hsz Hb1;obtain⟨b0,b1,b2,b3,b4⟩:=zc5 Hb1;have hyc:=hsz Hc1;obtain⟨c0,c1,c2,c3,c4⟩:=zc5 Hc1;go_wp2_with fail
 refine(HV.out _).mono ?_;rintro e w2 ⟨rfl,hb⟩;have Hb2:=hkh hb Hb1;have Hc2:=hkh hb Hc1;have HW2:=hbn HW1 hb;have hz2:=hb.size;try simp at hz2
 clear hb;clear hyb b0 b1 b2 b3 b4 hyc c0 c1 c2 c3 c4;have hyb:=hsz Hb2;obtain⟨b0,b1,b2,b3,b4⟩:=zc5 Hb2;have hyc:=hsz Hc2;obtain⟨c0,c1,c2,c3,c4⟩:=zc5 Hc2;go_wp2_with fail
 refine(HE.out _).mono ?_;rintro e w3 ⟨rfl,hb⟩;have Hb3:=hkh hb Hb2;have Hc3:=hkh hb Hc2;have HW3:=hbn HW2 hb;have hz3:=hb.size;try simp at hz3
 clear hb;clear hyb b0 b1 b2 b3 b4 hyc c0 c1 c2 c3 c4;have hyb:=hsz Hb3;obtain⟨b0,b1,b2,b3,b4⟩:=zc5 Hb3;have hyc:=hsz Hc3;obtain⟨c0,c1,c2,c3,c4⟩:=zc5 Hc3;go_wp2
 go_ret
 exact Qr rfl HW3.out
theorem Bs (w:World) (h:Nat) (uv:Value) (rb cap:Nat) (H:List RO) (hH:RHpAt w h (.slice (some rb) H.length cap) uv H) (hl:H.length<=1000) (k1 p1 q1:Int) (s1:ByteArray) (i:Nat) (x:RO) (hi:H[i]? =some x) (h4:x.kind=4) (L':List Sl) (s:ByteArray) (k2 p2 q2:Int) (s2:ByteArray) (r2:Int) (T:∀W,Below w w W->Calls prog 117 #[h,.agg #[k1,p1,q1,s1,.int .i64 (((i:Nat):Int)+1)]] W (IntPost W 0)) (V:∀W,Calls prog 26 #[.agg #[.int .i64 3,(0:Int),(0:Int),s,(0:Int)]] W (BoolPost W true)) (E:∀W,Calls prog 118 #[.agg #[k2,p2,q2,s2,r2]] W (IntPost W 0))
  (S:∀W,Below w w W->Calls prog 119 #[.pointer (some x.t),.agg #[.int .i64 3,(0:Int),(0:Int),s,(0:Int)],.agg #[k2,p2,q2,s2,r2]] W (STabPost W x.t x.m x.sv L'))
  (U:∀W H',RHpAt W h (.slice (some rb) H.length cap) uv H'->i<H'.length->H'.length<=1000->Calls prog 114 #[h,.agg #[k1,p1,q1,s1,.int .i64 (((i:Nat):Int)+1)],(0:Int)] W (RTouchPost W h (.slice (some rb) H.length cap) uv H')):
  Calls prog 71 #[h,.agg #[k1,p1,q1,s1,.int .i64 (((i:Nat):Int)+1)],.agg #[.int .i64 3,(0:Int),(0:Int),s,(0:Int)],.agg #[k2,p2,q2,s2,r2]] w (SSetPost w h (.slice (some rb) H.length cap) uv H i x L'):=by
 have hil:i<H.length:=(List.getElem?_eq_some_iff.1 hi).1;have hxm:=List.mem_of_getElem? hi;have hx:=hH.one x hxm;obtain⟨bs,hTc⟩:=hH.tch;obtain⟨cs,hcs⟩:=Qd hH.row (b:=rb) rfl;have hrlt:rb<w:=(Array.getElem?_eq_some_iff.1 hcs).1;have hhlt:h<w:=(Array.getElem?_eq_some_iff.1 hH.hh).1;have HUV:=zh (fun b (hb:uv.ownBlock=some b)=>(QS hTc hb).2);have HUH:=zh (fun(e:uv.ownBlock=some h)=>by obtain⟨c2,hc⟩:=Qd hTc e;exact QW hH.hh hc (by decide) rfl);have HUR:=zh (fun(e:uv.ownBlock=some rb)=>by obtain⟨c2,hc⟩:=Qd hTc e;exact QW hcs hc (by decide) rfl);have HRH:=zh (show rb≠h from QW hcs hH.hh (by decide));have HHH:=zh hH;have HI:=zh hi;have HXM:=zh hxm;have HLL:=zh hl;have hSM:=(hx.tb h4).om;have HX:=zh (fun b (hb:SmF x.m x.sv b)=>show b<w.heap.size by
  rcases hb with rfl|hb
  ·exact(Array.getElem?_eq_some_iff.1 hSM.hm).1
  ·exact(QS hSM.row hb).2)
 have HNH:=zh (Tn hSM hH.hh (by decide) (by decide));have HNR:=zh (Tn hSM hcs (by decide) (by decide));have HC3:=zh (show cs[i*11+3]? =some (.pointer (some x.t)) by
  have h1:=(hH.row.cellAt (i*11+3) (by omega)).trans (Q8 H i 3 x hi (by decide));rw[QA hcs] at h1;rw[h1];show some x.tv=_;unfold RO.tv;rw[if_pos h4])
 have HHX:=zh hH.hh;have HRX:=zh hcs;have H4:=zh h4;have HT:=zh T;have HV:=zh V;have HE:=zh E;have HS:=zh S;have HU:=zh U;clear T V E S U hH hi h4 hxm hx hSM hTc hcs;go_enter func71,ntmps71;go_wp2_with fail
 refine(HT.out _ ((QE _ _ _).alloc (by simp;omega) _)).mono ?_;rintro e w1 ⟨rfl,hb⟩;have Ha1:=hkh hb (Qi _ _ _ _);have Hb1:=hkh hb (Qa _ _ _ _);have Hc1:=hkh hb (QU _ _ _ _);have HW1:=hbn (((QE _ _ _).alloc (by simp;omega) _)) hb;have hz1:=hb.size;try simp at hz1
 clear hb;have hyb:=hsz Hb1;obtain⟨b0,b1,b2,b3,b4⟩:=zc5 Hb1.out;have hyc:=hsz Hc1;obtain⟨c0,c1,c2,c3,c4⟩:=zc5 Hc1.out;go_wp2_with fail
 refine(HV.out _).mono ?_;rintro e w2 ⟨rfl,hb⟩;have Ha2:=hkh hb Ha1.out;have Hb2:=hkh hb Hb1.out;have Hc2:=hkh hb Hc1.out;have HW2:=hbn HW1.out hb;have hz2:=hb.size;try simp at hz2
 clear hb;clear hyb b0 b1 b2 b3 b4 hyc c0 c1 c2 c3 c4;have hyc:=hsz Hc2;obtain⟨c0,c1,c2,c3,c4⟩:=zc5 Hc2.out;go_wp2_with fail
 refine(HE.out _).mono ?_;rintro e w3 ⟨rfl,hb⟩;have Ha3:=hkh hb Ha2.out;have Hb3:=hkh hb Hb2.out;have Hc3:=hkh hb Hc2.out;have HW3:=hbn HW2.out hb;have hz3:=hb.size;try simp at hz3
 clear hb;clear hyc c0 c1 c2 c3 c4;have SO:=zh (fun(W:World) (ha:W.heap[w.heap.size]? =some (oV k1 p1 q1 s1 (((i:Nat):Int)+1))) (hb:W.heap[w.heap.size+1]? =some (oV 3 0 0 s 0)) (hc:W.heap[w.heap.size+1+1]? =some (oV k2 p2 q2 s2 r2)) (hh:W.heap[h]? =some (.cells #[.slice (some rb) H.length cap,.int .i64 (H.length:Nat),uv] 93)) (hr:W.heap[rb]? =some (.cells cs 97))=>(show W.cell? w=some (.int .i64 k1)/\W.cell? ⟨w,1,none⟩=some (.int .i64 p1)/\W.cell? ⟨w,2,none⟩=some (.int .i64 q1)/\W.cell? ⟨w,3,none⟩=some (.string s1)/\W.cell? ⟨w,4,none⟩=some (.int .i64 (((i:Nat):Int)+1))/\W.cell? ⟨w+1,0,none⟩=some (.int .i64 3)/\W.cell? ⟨w+1,1,none⟩=some (.int .i64 0)/\W.cell? ⟨w+1,2,none⟩=some (.int .i64 0)/\W.cell? ⟨w+1,3,none⟩=some (.string s)/\W.cell? ⟨w+1,4,none⟩=some (.int .i64 0)/\W.cell? ⟨w+1+1,0,none⟩=some (.int .i64 k2)/\W.cell? ⟨w+1+1,1,none⟩=some (.int .i64 p2)/\W.cell? ⟨w+1+1,2,none⟩=some (.int .i64 q2)/\W.cell? ⟨w+1+1,3,none⟩=some (.string s2)/\W.cell? ⟨w+1+1,4,none⟩=some (.int .i64 r2)/\W.cell? h=some (.slice (some rb) H.length cap)/\W.cell? ⟨rb,i*11+3,none⟩=some (.pointer (some x.t)) from⟨by rw[QA ha];rfl,by rw[QA ha];rfl,by rw[QA ha];rfl,by rw[QA ha];rfl,by rw[QA ha];rfl,by rw[QA hb];rfl,by rw[QA hb];rfl,by rw[QA hb];rfl,by rw[QA hb];rfl,by rw[QA hb];rfl,by rw[QA hc];rfl,by rw[QA hc];rfl,by rw[QA hc];rfl,by rw[QA hc];rfl,by rw[QA hc];rfl,by rw[QA hh];rfl,by rw[QA hr];exact HC3.out⟩));go_wp2;have xa:w3.drew.heap[w.heap.size]? =some (oV k1 p1 q1 s1 (((i:Nat):Int)+1)):=Ha3.out;have xb:w3.drew.heap[w.heap.size+1]? =some (oV 3 0 0 s 0):=Hb3.out;have xc:w3.drew.heap[w.heap.size+1+1]? =some (oV k2 p2 q2 s2 r2):=Hc3.out;have xh:w3.drew.heap[h]? =some (.cells #[.slice (some rb) H.length cap,.int .i64 (H.length:Nat),uv] 93):=QL HW3.out.drew HHX.out;have xr:w3.drew.heap[rb]? =some (.cells cs 97):=QL HW3.out.drew HRX.out;have hw3:w.heap.size<=w3.heap.size:=HW3.out.size;have hi0:(0:Int)<=((i:Nat):Int):=by omega
 have hi1:((i:Nat):Int)<((H.length:Nat):Int):=by omega
 have hi2:IntKind.i64.wrap (((i:Nat):Int)+1-1)=((i:Nat):Int):=by rw[IntWalk.i64_in _ (by omega)];omega
 have hi3:((i:Nat):Int)+1-1=((i:Nat):Int):=by omega
 have hi4:IntKind.i64.wrap ((i:Nat):Int)=((i:Nat):Int):=IntWalk.i64_in _ (by omega)
 go_region_held3 (fun w'=>w'.cell? w=some (.int .i64 k1)/\w'.cell? ⟨w,1,none⟩=some (.int .i64 p1)/\w'.cell? ⟨w,2,none⟩=some (.int .i64 q1)/\w'.cell? ⟨w,3,none⟩=some (.string s1)/\w'.cell? ⟨w,4,none⟩=some (.int .i64 (((i:Nat):Int)+1))/\w'.cell? ⟨w+1,0,none⟩=some (.int .i64 3)/\w'.cell? ⟨w+1,1,none⟩=some (.int .i64 0)/\w'.cell? ⟨w+1,2,none⟩=some (.int .i64 0)/\w'.cell? ⟨w+1,3,none⟩=some (.string s)/\w'.cell? ⟨w+1,4,none⟩=some (.int .i64 0)/\w'.cell? ⟨w+1+1,0,none⟩=some (.int .i64 k2)/\w'.cell? ⟨w+1+1,1,none⟩=some (.int .i64 p2)/\w'.cell? ⟨w+1+1,2,none⟩=some (.int .i64 q2)/\w'.cell? ⟨w+1+1,3,none⟩=some (.string s2)/\w'.cell? ⟨w+1+1,4,none⟩=some (.int .i64 r2)/\w'.cell? h=some (.slice (some rb) H.length cap)/\w'.cell? ⟨rb,i*11+3,none⟩=some (.pointer (some x.t)))
  (first|with_reducible exact SO.out _ (by assumption) (by assumption) (by assumption) (by assumption) (by assumption))
  (first|(go_at_call 119;refine(HS.out _ HW3.out.drew).mono ?_;rintro e w4 ⟨rfl,sv',hT4,hM4,hown4⟩;have xa4:=Qn hM4 xa (fun e=>by have:=HX.out _ e;omega);have xb4:=Qn hM4 xb (fun e=>by have:=HX.out _ e;omega);have xc4:=Qn hM4 xc (fun e=>by have:=HX.out _ e;omega);have xh4:=Qn hM4 xh HNH.out;have xr4:=Qn hM4 xr HNR.out;have HH4:=zh (((HHH.out.below HW3.out.drew).setTab HI.out H4.out hT4 hM4 hown4));have HM4:=zh hM4;have HO4:=zh hown4;clear hT4 hM4 hown4 xa xb xc xh xr)|(go_at_call 114;refine(HU.out _ _ HH4.out (by rw[List.length_set];exact hil) (by rw[List.length_set];exact HLL.out)).mono ?_;rintro e w5 ⟨rfl,hH5,hM5⟩;have xa5:=Qn hM5 xa4 (fun e=>by have:=HUV.out _ e;omega);have xb5:=Qn hM5 xb4 (fun e=>by have:=HUV.out _ e;omega);have xc5:=Qn hM5 xc4 (fun e=>by have:=HUV.out _ e;omega);have xh5:=Qn hM5 xh4 HUH.out;have xr5:=Qn hM5 xr4 HUR.out;have HH5:=zh hH5;have HM5:=zh hM5;clear hH5 hM5 xa4 xb4 xc4 xh4 xr4))
 go_wp2
 go_ret
 have hb3:Below w w w3.drew:=HW3.out.drew;refine⟨⟨_,rfl⟩,sv',HH5.out,((Mods.of_below hb3).trans (HM4.out.mono (fun k _ e=> .inr (.inr (.inr ⟨x,HXM.out,H4.out,.inr e⟩))))).trans (HM5.out.mono (fun k _ e=> .inr (.inr (.inl e)))),fun b hb=> ?_⟩;rcases HO4.out b hb with e|e
 ·exact .inl e
 ·exact .inr (Nat.le_trans hb3.size e)
end Go.Proofs.YthkpckgcgkijbaaGreatDoor
