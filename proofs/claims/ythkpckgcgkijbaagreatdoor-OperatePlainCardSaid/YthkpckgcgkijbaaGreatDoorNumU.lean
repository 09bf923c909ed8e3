import Derived.Test.YthkpckgcgkijbaaGreatDoorRefD
set_option linter.unusedVariables false
set_option linter.unusedSimpArgs false
set_option maxRecDepth 100000
set_option maxHeartbeats 8000000
namespace Go.Proofs.YthkpckgcgkijbaaGreatDoor
open Go.RowKit Go.Proofs.Lexi
theorem drop_step {s:ByteArray} {i:Nat} {D:List Nat} (h:i<s.size) (hD:((zAE s).drop i).dropWhile zBZ=D):
  (zBZ s[i].toNat=true→((zAE s).drop (i+1)).dropWhile zBZ=D)∧(zBZ s[i].toNat=false→(zAE s).drop i=D):=by
 rw[zAx s i h] at hD
 constructor<;>intro hb
 ·rwa [List.dropWhile_cons_of_pos hb] at hD
 ·rw[List.dropWhile_cons_of_neg (by rw[hb];decide)] at hD
  rw[zAx s i h];exact hD
theorem drop_stop {s:ByteArray} {i:Nat} {D:List Nat} (h:s.size≤i) (hD:((zAE s).drop i).dropWhile zBZ=D):(zAE s).drop i=D:=by
 rw[zBp s i h] at hD ⊢;exact hD
def cutEnd (s:ByteArray) (i e:Nat):List Nat:=((((zAE s).drop i).take (e-i)).reverse.dropWhile zBZ).reverse
theorem cut_start {s:ByteArray} {i:Nat} {D T:List Nat} (hD:(zAE s).drop i=D) (hT:T=(D.reverse.dropWhile zBZ).reverse):cutEnd s i s.size=T:=by
 subst hT hD
 unfold cutEnd
 rw[List.take_of_length_le (by rw[List.length_drop,zAb];exact Nat.le_refl _)]
theorem cut_step {s:ByteArray} {i e:Nat} {T:List Nat} (h1:i<e) (h2:e≤s.size) (he:e-1<s.size) (hT:cutEnd s i e=T):
  (zBZ s[e-1].toNat=true→cutEnd s i (e-1)=T)∧(zBZ s[e-1].toNat=false→zAE (s.extract i e)=T):=by
 have hl:e-1-i<((zAE s).drop i).length:=by rw[List.length_drop,zAb];omega
 have hx:((zAE s).drop i)[e-1-i]=s[e-1].toNat:=by
  have h3:=zAx s (e-1) he
  have h4:((zAE s).drop i)[e-1-i]? =some s[e-1].toNat:=by
   rw[List.getElem?_drop,show i+(e-1-i)=e-1+0 by omega,←List.getElem?_drop,h3];rfl
  rw[List.getElem?_eq_getElem hl] at h4
  injection h4
 have ht:((zAE s).drop i).take (e-i)=((zAE s).drop i).take (e-1-i)++[s[e-1].toNat]:=by
  rw[show e-i=e-1-i+1 by omega,List.take_succ_eq_append_getElem hl,hx]
 have hT2:=hT
 unfold cutEnd at hT2
 rw[ht,List.reverse_append,List.reverse_singleton,List.singleton_append] at hT2
 constructor<;>intro hb
 ·rw[List.dropWhile_cons_of_pos hb] at hT2
  exact hT2
 ·rw[List.dropWhile_cons_of_neg (by rw[hb];decide),List.reverse_cons,List.reverse_reverse,←ht] at hT2
  rw[zBQ];exact hT2
theorem cut_stop {s:ByteArray} {i:Nat} {T:List Nat} (hT:cutEnd s i i=T):zAE ByteArray.empty=T:=by
 subst hT
 unfold cutEnd
 rw[Nat.sub_self];rfl
theorem redN_quo {p q:Int} {D:Nat} (hD:D=Int.gcd p q):(q<0→redN p q=rangeN (-(p/(D:Int))) (-(q/(D:Int))))∧(0≤q→redN p q=rangeN (p/(D:Int)) (q/(D:Int))):=by
 refine⟨fun h=> ?_,fun h=> ?_⟩
 ·rw[redN_neg h,redPos_range (D:=D) (by rw[hD,Int.neg_gcd,Int.gcd_neg])]
  rw[Int.neg_ediv_of_dvd (by rw[hD];exact Int.gcd_dvd_left ..),Int.neg_ediv_of_dvd (by rw[hD];exact Int.gcd_dvd_right ..)]
 ·rw[redN_pos h,redPos_range hD]
theorem quo_sign {q:Int} {D:Nat} (hD:0<D) (hd:(D:Int) ∣ q):(q<0→q/(D:Int)<0)∧(0<q→0<q/(D:Int)):=by
 obtain⟨k,rfl⟩:=hd
 rw[Int.mul_ediv_cancel_left _ (show(D:Int)≠0 by omega)]
 constructor
 ·intro h
  apply Classical.byContradiction
  intro hk
  have h2:0≤(D:Int)*k:=Int.mul_nonneg (by omega) (by omega)
  omega
 ·intro h
  apply Classical.byContradiction
  intro hk
  have h2:(D:Int)*k≤0:=Int.mul_nonpos_of_nonneg_of_nonpos (by omega) (by omega)
  omega
def wholeN (a:N2):Bool:=zAT a&&decide (a.2=1)
def WholePost (w:World) (a:N2) (e:Ending) (w':World):Prop:=e= .returned (.tuple #[.int .i64 (if wholeN a then a.1 else 0),.bool (wholeN a)])∧Below w.heap.size w w'
theorem whole_yes {w w':World} {a:N2} (h:wholeN a=true) (hb:Below w.heap.size w w'):WholePost w a (.returned (.tuple #[.int .i64 a.1,.bool true])) w':=by unfold WholePost;rw[h];exact⟨rfl,hb⟩
theorem whole_no {w w':World} {a:N2} (h:wholeN a=false) (hb:Below w.heap.size w w'):WholePost w a (.returned (.tuple #[.int .i64 0,.bool false])) w':=by unfold WholePost;rw[h];exact⟨rfl,hb⟩
theorem slash_step {s:ByteArray} {i:Nat} {R:Int} (h:i<s.size) (hr:slashI i (zBL ((zAE s).drop i))=R):
  (s[i].toNat=47→(i:Int)=R)∧(s[i].toNat≠47→slashI (i+1) (zBL ((zAE s).drop (i+1)))=R):=by
 rw[zAx s i h] at hr
 unfold zBL at hr
 constructor<;>intro hb
 ·rw[if_pos hb] at hr;exact hr
 ·rw[if_neg hb] at hr
  rw[←hr]
  cases zBL ((zAE s).drop (i+1)) with
  |none=>rfl
  |some k=>show((i+1+k:Nat):Int)=((i+(k+1):Nat):Int);omega
theorem slash_stop {s:ByteArray} {i:Nat} {R:Int} (h:s.size≤i) (hr:slashI i (zBL ((zAE s).drop i))=R): -1=R:=by
 rw[zBp s i h] at hr;exact hr
def NumlPost (w:World) (R:Nat×RR) (e:Ending) (w':World):Prop:=e= .returned (.tuple #[.int .i64 (R.1:Int),.agg #[.int .i64 (nP R.2),.int .i64 (nQ R.2)],.int .i64 (nE R.2:Nat)])∧Below w.heap.size w w'
theorem numl_err {w w':World} {R:Nat×RR} {j c:Nat} (h:R=(j,.error c)) (hb:Below w.heap.size w w'):NumlPost w R (.returned (.tuple #[.int .i64 (j:Int),.agg #[.int .i64 0,.int .i64 0],.int .i64 (c:Int)])) w':=by subst h;exact⟨rfl,hb⟩
theorem numl_res {w w':World} {R:Nat×RR} {j:Nat} {M:RR} (h:R=(j,M)) (hb:Below w.heap.size w w'):NumlPost w R (.returned (.tuple #[.int .i64 (j:Int),.agg #[.int .i64 (nP M),.int .i64 (nQ M)],.int .i64 (nE M:Nat)])) w':=by subst h;exact⟨rfl,hb⟩
def LongWays (s:ByteArray):Prop:=∃h:2<s.size,
  (((s[0].toNat:Int)==48)=false∨(((s[0].toNat:Int)==48)=true∧((((s[1].toNat:Int)==120)=false∧((s[1].toNat:Int)==88)=false)∨
   (¬digV s[2].toNat<16∧(((s[1].toNat:Int)==120)=true∨(((s[1].toNat:Int)==120)=false∧((s[1].toNat:Int)==88)=true))))))
theorem dec_ways {s:ByteArray} (hx:zBl (zAE s)=false):s.size≤2∨LongWays s:=by
 by_cases h:2<s.size
 ·refine .inr ⟨h,?_⟩
  rw[hex_long h] at hx
  have e0:=zBh s[0] 48
  have e1:=zBh s[1] 120
  have e2:=zBh s[1] 88
  have g0:((s[0].toNat:Int)==48)=(s[0].toNat==48):=e0.trans (by rw[Bool.eq_iff_iff,beq_iff_eq,decide_eq_true_eq])
  have g1:((s[1].toNat:Int)==120)=(s[1].toNat==120):=e1.trans (by rw[Bool.eq_iff_iff,beq_iff_eq,decide_eq_true_eq])
  have g2:((s[1].toNat:Int)==88)=(s[1].toNat==88):=e2.trans (by rw[Bool.eq_iff_iff,beq_iff_eq,decide_eq_true_eq])
  rw[g0,g1,g2]
  unfold isDig at hx
  by_cases hd:digV s[2].toNat<16
  ·rw[decide_eq_true hd] at hx
   revert hx
   cases(s[0].toNat==48)<;>cases(s[1].toNat==120)<;>cases(s[1].toNat==88)<;>simp
  ·revert hx
   cases(s[0].toNat==48)<;>cases(s[1].toNat==120)<;>cases(s[1].toNat==88)<;>simp[hd]
 ·exact .inl (by omega)
def NoWays (s:ByteArray) (r:Nat):Prop:=s.size≤r+1∨∃h:r+1<s.size,
  (((s[r].toNat:Int)==46)=false∨(((s[r].toNat:Int)==46)=true∧¬digV s[r+1].toNat<10))
theorem no_places {s:ByteArray} {r:Nat} (h:zBT (zAE s) r=0):NoWays s r:=by
 by_cases hl:r+1<s.size
 ·refine .inr ⟨hl,?_⟩
  unfold zBT at h
  rw[byte_at (by omega)] at h
  have e0:=zBh s[r] 46
  by_cases hc:s[r].toNat=46
  ·rw[if_pos (by rw[hc])] at h
   exact .inr ⟨e0.trans (decide_eq_true hc),(run_head hl).1 h⟩
  ·exact .inl (e0.trans (decide_eq_false hc))
 ·exact .inl (by omega)
theorem slice_to (s:ByteArray) (b:Int) (j:Nat) (hb:b=j) (h2:j≤s.size) (w:World):Sem.run Tryz.prog (Instr.slice 9 (.string s) none (some (.int .i64 b)) none) w= .ok (.string (s.extract 0 j)) w:=by
 subst hb
 have g2:(j:Int)≤(s.size:Int):=by omega
 simp[Instr.slice,run_underlying Tryz.underlying9,Instr.sliceBounds,run_sliceBound,g2]
theorem slice_from (s:ByteArray) (a:Int) (i:Nat) (ha:a=i) (h1:i≤s.size) (w:World):Sem.run Tryz.prog (Instr.slice 9 (.string s) (some (.int .i64 a)) none none) w= .ok (.string (s.extract i s.size)) w:=by
 subst ha
 have g2:(i:Int)≤(s.size:Int):=by omega
 simp[Instr.slice,run_underlying Tryz.underlying9,Instr.sliceBounds,run_sliceBound,g2]
theorem bytes_from (s:ByteArray) (k:Nat):zAE (s.extract k s.size)=(zAE s).drop k:=by
 rw[zBQ,List.take_of_length_le]
 rw[List.length_drop,zAb];exact Nat.le_refl _
theorem size_from (s:ByteArray) (k:Nat):(s.extract k s.size).size=s.size-k:=by rw[ByteArray.size_extract];omega
theorem numG_le (base:Nat) (hb:1≤base):∀(l:List Nat) (n v:Nat),n≤4611686018427387904→numG base l n=some v→v≤4611686018427387904
 |[],n,v,hn,h=>by unfold numG at h;injection h with h;omega
 |c::r,n,v,hn,h=>by
  unfold numG at h
  split at h
  ·cases h
  ·rename_i hc
   refine numG_le base hb r _ v ?_ h
   have hd:digV c≤99:=zBw c
   have h1:n≤(4611686018427387904-digV c)/base:=by omega
   have h2:=Nat.mul_le_mul_right base h1
   have h3:=Nat.div_mul_le_self (4611686018427387904-digV c) base
   omega
theorem num_le {s:ByteArray} {b:Nat} (_:s.size≤2000000000) (h:numG 10 (zAE s) 0=some b):b≤4611686018427387904:=numG_le 10 (by decide) _ _ _ (by decide) h
theorem info5:(Tryz.prog.info? 5).map (fun i=>(i.zero,i.size,i.bytes))=some (some (.int .u8 0),1,1):=by kernel_rfl
def preD (v:Nat) (l:List UInt8):List UInt8:=if v=0∧l≠[] then[] else Lib.decDigits v
def digC (v:Nat):UInt8:=UInt8.ofNat (48+v%10)
theorem digC_toNat (v:Nat):(digC v).toNat=48+v%10:=by
 unfold digC
 rw[UInt8.toNat_ofNat']
 omega
theorem pre_step {v:Nat} {l:List UInt8} (h:0<v∨l=[]):preD v l=preD (v/10) (l++[digC v])++[digC v]:=by
 have h1:preD v l=Lib.decDigits v:=by
  unfold preD
  rw[if_neg]
  rintro⟨h2,h3⟩
  rcases h with h|h
  ·omega
  ·exact h3 h
 rw[h1]
 unfold preD
 by_cases h10:v<10
 ·rw[if_pos ⟨by omega,by simp⟩,Lib.decDigits,dif_pos h10]
  show _=[]++[digC v]
  unfold digC
  rw[show v%10=v by omega];rfl
 ·rw[if_neg (by omega),Lib.decDigits,dif_neg h10]
  rfl
theorem pre_end {l:List UInt8} (h:l≠[]):preD 0 l=[]:=by unfold preD;rw[if_pos ⟨rfl,h⟩]
def names36:ByteArray:=⟨#[48,49,50,51,52,53,54,55,56,57,97,98,99,100,101,102,103,104,105,106,107,108,109,110,111,112,113,114,115,116,117,118,119,120,121,122]⟩
theorem names_dig:∀d:Fin 10,∀h:d.val<names36.size,(names36[d.val]).toNat=48+d.val:=by decide
theorem names_at (v:Nat) (h:v%10<names36.size):Value.int .u8 ((names36[v%10]).toNat:Int)=bv (digC v):=by
 unfold bv
 rw[digC_toNat]
 have:=names_dig ⟨v%10,by omega⟩ h
 exact congrArg (fun n:Nat=>Value.int .u8 (n:Int)) this
theorem row_base {w:World} {base:Nat} (h:base≤w.heap.size):(w.alloc (.cells #[] 5)).ownsRow base 5 1 (.slice (some ⟨w.heap.size,0,none⟩) 0 0) 0 []:=
 ⟨rfl,.inr ⟨w.heap.size,0,#[],rfl,h,zAg _ _,Nat.le_refl _,by unfold maxLen;omega,rfl,rfl⟩⟩
def msrD (v:Nat) (l:List UInt8):Nat:=v+(if l=[] then 1 else 0)
theorem msr_step {v:Nat} {l:List UInt8} (h:0<v∨l=[]):msrD (v/10) (l++[digC v])<msrD v l:=by
 unfold msrD
 rw[if_neg (by simp)]
 rcases h with h|h
 ·split<;>omega
 ·rw[if_pos h];omega
theorem u64_neg {n:Int} (h0:n<0) (hn: -9223372036854775807≤n):IntKind.u64.wrap (-IntKind.u64.wrap n)=(n.natAbs:Int):=by
 show(-(n%18446744073709551616))%18446744073709551616=_
 omega
theorem row_next {w:World} {base g cap:Nat} {l:List UInt8} {c:UInt8} {x:Value} (hx:x=bv c) (h:w.ownsRow base 5 1 (.slice (some ⟨g,0,none⟩) (l.length+1) cap) (l.length+1) (l.map bv++[x])):
  w.ownsRow base 5 1 (.slice (some ⟨g,0,none⟩) (l++[c]).length cap) (l++[c]).length ((l++[c]).map bv):=by
 subst hx
 rw[List.map_append,List.length_append]
 exact h
theorem rev_next {l o:List UInt8} {i:Nat} (hi:l.length=o.length+1+i) (h:o=l.reverse.take o.length) (hl:i<l.length):o++[l[i]]=l.reverse.take (o++[l[i]]).length:=by
 have h1:o.length<l.reverse.length:=by rw[List.length_reverse];omega
 rw[List.length_append,List.length_singleton,List.take_succ_eq_append_getElem h1,←h,List.getElem_reverse]
 congr 3
 omega
theorem len_next {v N:Nat} {l U:List UInt8} (hU:U.length≤19) (_:v≤N) (h:preD (v/10) l++l.reverse=U):l.length≤19:=by
 rw[←h,List.length_append,List.length_reverse] at hU
 omega
theorem before_step {a b:ByteArray} {i:Nat} {R:Bool} (h1:i<a.size) (h2:i<b.size) (h:beforeL ((zAE a).drop i) ((zAE b).drop i)=R):
  (a[i].toNat=b[i].toNat→beforeL ((zAE a).drop (i+1)) ((zAE b).drop (i+1))=R)∧(a[i].toNat≠b[i].toNat→decide (a[i].toNat<b[i].toNat)=R):=by
 rw[zAx a i h1,zAx b i h2] at h
 unfold beforeL at h
 refine⟨fun hc=> ?_,fun hc=> ?_⟩
 ·rw[if_pos hc] at h;exact h
 ·rw[if_neg hc] at h
  exact h
theorem before_stop {a b:ByteArray} {i:Nat} {R:Bool} (he:a.size≤i∨b.size≤i) (h1:i≤a.size) (h2:i≤b.size) (h:beforeL ((zAE a).drop i) ((zAE b).drop i)=R):decide (a.size<b.size)=R:=by
 by_cases hb:b.size≤i
 ·rw[zBp b i hb] at h
  have:beforeL ((zAE a).drop i) []=false:=by unfold beforeL;cases(zAE a).drop i<;>rfl
  rw[←h,this,decide_eq_false_iff_not]
  omega
 ·have ha:a.size≤i:=by omega
  rw[zBp a i ha,zAx b i (by omega)] at h
  rw[←h]
  show _=true
  rw[decide_eq_true_eq]
  omega
theorem strim_c (w:World) (s:ByteArray) (hs:s.size≤2000000000):Calls Tryz.prog 159 #[.string s] w (TrimPost w (trimG (zAE s))):=by
 obtain⟨D,hD⟩:∃D,((zAE s).drop 0).dropWhile zBZ=D:=⟨_,rfl⟩
 obtain⟨T,hT⟩:∃T,T=(D.reverse.dropWhile zBZ).reverse:=⟨_,rfl⟩
 rw[show trimG (zAE s)=T from by rw[hT,←hD];rfl]
 have HD0:=Lib.hid hD
 have HT:=Lib.hid hT
 clear hD hT
 go_enter Tryz.func159,Tryz.ntmps159
 go_wp2
 go_loopg [3] s.size (fun gg v wr=>∃i:Nat,gg=s.size-i∧v= .int .i64 (i:Int)∧w=wr∧i≤s.size∧Hid (((zAE s).drop i).dropWhile zBZ=D))
 case atStart=>exact⟨0,rfl,rfl,rfl,Nat.zero_le _,HD0⟩
 case round=>
  obtain⟨i,rfl,rfl,rfl,hi,HI⟩:=hrel
  by_cases hlt:i<s.size
  ·have hst:=drop_step hlt HI.out
   have HB:=Lib.hid (sblank_c w s[i].toNat)
   cases hb:zBZ s[i].toNat with
   |true=>
    have HN:=Lib.hid (hst.1 hb)
    have HBB:=Lib.hid hb
    clear hst hb
    go_wp2_with fail
    refine HB.out.mono ?_
    rw[HBB.out]
    rintro e w1 ⟨rfl,rfl⟩
    go_wp2
    go_roundg (s.size-(i+1))
    case measure=>omega
    case rel=>exact⟨i+1,rfl,rfl,rfl,by omega,HN⟩
   |false=>
    have HC:=Lib.hid (cut_start (hst.2 hb) HT.out)
    have HBB:=Lib.hid hb
    clear hst hb
    go_wp2_with fail
    refine HB.out.mono ?_
    rw[HBB.out]
    rintro e w1 ⟨rfl,rfl⟩
    go_wp2
    clear HB HBB
    go_loopg [4] (s.size-i) (fun gg v wr=>∃e:Nat,gg=e-i∧v= .int .i64 (e:Int)∧w=wr∧i≤e∧e≤s.size∧Hid (cutEnd s i e=T))
    case atStart=>exact⟨s.size,rfl,rfl,rfl,hi,Nat.le_refl _,HC⟩
    case round=>
     obtain⟨e,rfl,rfl,rfl,he1,he2,HE⟩:=hrel
     by_cases hle:i<e
     ·have he3:e-1<s.size:=by omega
      have hst:=cut_step hle he2 he3 HE.out
      have HB:=Lib.hid (sblank_c w s[e-1].toNat)
      cases hb:zBZ s[e-1].toNat with
      |true=>
       have HN:=Lib.hid (hst.1 hb)
       have HBB:=Lib.hid hb
       clear hst hb
       go_wp2_with fail
       refine HB.out.mono ?_
       rw[HBB.out]
       rintro e w1 ⟨rfl,rfl⟩
       go_wp2
       go_roundg (e-1-i)
       case measure=>omega
       case rel=>exact⟨e-1,rfl,by congr;omega,rfl,by omega,by omega,HN⟩
      |false=>
       have HN:=Lib.hid (hst.2 hb)
       have HBB:=Lib.hid hb
       have hsl:=zBG s (i:Int) (e:Int) i e rfl rfl (by omega) he2
       clear hst hb
       go_wp2_with fail
       refine HB.out.mono ?_
       rw[HBB.out]
       rintro e w1 ⟨rfl,rfl⟩
       go_wp2
       go_ret
       exact⟨⟨_,rfl,HN.out⟩,Below.refl _ _⟩
     ·have hee:e=i:=by omega
      subst hee
      have HN:=Lib.hid (cut_stop HE.out)
      have hsl:=zBG s (e:Int) (e:Int) e e rfl rfl (Nat.le_refl _) he2
      go_wp2
      go_ret
      exact⟨⟨_,rfl,HN.out⟩,Below.refl _ _⟩
  ·have hee:i=s.size:=by omega
   have HC:=Lib.hid (cut_start (drop_stop (by omega) HI.out) HT.out)
   subst hee
   have HN:=Lib.hid (cut_stop HC.out)
   have hsl:=zBG s (s.size:Int) (s.size:Int) s.size s.size rfl rfl (Nat.le_refl _) (Nat.le_refl _)
   go_wp2
   go_loopg [4] 0 (fun gg v wr=>v= .int .i64 (s.size:Int)∧w=wr)
   case atStart=>exact⟨rfl,rfl⟩
   case round=>
    obtain⟨rfl,rfl⟩:=hrel
    go_wp2
    go_ret
    exact⟨⟨_,rfl,HN.out⟩,Below.refl _ _⟩
theorem sslash_c (w:World) (s:ByteArray) (hs:s.size≤2000000000):
  Calls Tryz.prog 216 #[.string s] w fun e w'=>e= .returned (.int .i64 (slashI 0 (zBL (zAE s))))∧w=w':=by
 obtain⟨R,hR⟩:∃R,slashI 0 (zBL ((zAE s).drop 0))=R:=⟨_,rfl⟩
 rw[show slashI 0 (zBL (zAE s))=R from hR]
 have HR0:=Lib.hid hR
 clear hR
 go_enter Tryz.func216,Tryz.ntmps216
 go_wp2
 go_loopg [3] s.size (fun gg v wr=>∃i:Nat,gg=s.size-i∧v= .int .i64 (i:Int)∧w=wr∧i≤s.size∧Hid (slashI i (zBL ((zAE s).drop i))=R))
 case atStart=>exact⟨0,rfl,rfl,rfl,Nat.zero_le _,HR0⟩
 case round=>
  obtain⟨i,rfl,rfl,rfl,hi,HI⟩:=hrel
  by_cases hlt:i<s.size
  ·have hst:=slash_step hlt HI.out
   by_cases hc:s[i].toNat=47
   ·have HN:=Lib.hid (hst.1 hc)
    have hcc:((s[i].toNat:Int)==47)=true:=by rw[beq_iff_eq];omega
    clear hst hc
    go_wp2
    go_ret
    exact⟨zBE HN.out,rfl⟩
   ·have HN:=Lib.hid (hst.2 hc)
    have hcc:((s[i].toNat:Int)==47)=false:=by rw[beq_eq_false_iff_ne];omega
    clear hst hc
    go_wp2
    go_roundg (s.size-(i+1))
    case measure=>omega
    case rel=>exact⟨i+1,rfl,rfl,rfl,by omega,HN⟩
  ·have HN:=Lib.hid (slash_stop (by omega) HI.out)
   go_wp2
   go_ret
   exact⟨zBE HN.out,rfl⟩
theorem spower10_c (w:World) (n:Nat) (hn:n≤9):
  Calls Tryz.prog 243 #[.int .i64 n] w fun e w'=>e= .returned (.int .i64 ((10^n:Nat):Int))∧w=w':=by
 obtain⟨R,hR⟩:∃R,10^n=R:=⟨_,rfl⟩
 rw[hR]
 have HR:=Lib.hid hR
 clear hR
 go_enter Tryz.func243,Tryz.ntmps243
 go_wp2
 go_loopg [3,4] n (fun gg vp v wr=>∃i p:Nat,gg=n-i∧vp= .int .i64 (p:Int)∧v= .int .i64 (i:Int)∧w=wr∧i≤n∧p≤1000000000∧Hid (p=10^i))
 case atStart=>exact⟨0,1,rfl,rfl,rfl,rfl,Nat.zero_le _,by decide,Lib.hid rfl⟩
 case round=>
  obtain⟨i,p,rfl,rfl,rfl,rfl,hi,hp,HP⟩:=hrel
  by_cases hlt:i<n
  ·have HN:=Lib.hid (show p*10=10^(i+1) from by rw[HP.out,Nat.pow_succ])
   have hp2:p*10≤1000000000:=by rw[HN.out];exact pow10_le (by omega)
   go_wp2
   go_roundg (n-(i+1))
   case measure=>omega
   case rel=>exact⟨i+1,p*10,rfl,(by push_cast;rfl),rfl,rfl,by omega,hp2,HN⟩
  ·have he:i=n:=by omega
   subst he
   have HN:=Lib.hid (show((p:Nat):Int)=(R:Int) from by rw[HP.out,HR.out])
   go_wp2
   go_ret
   exact⟨zBE HN.out,rfl⟩
theorem sdigits_c (w:World) (s:ByteArray) (hs:s.size≤2000000000):
  Calls Tryz.prog 218 #[.string s] w fun e w'=>e= .returned (.bool (zCD (zAE s)))∧w=w':=by
 by_cases h0:s.size=0
 ·have HR:=Lib.hid (digits_nil h0)
  have hnil:=toList_nil h0
  go_enter Tryz.func218,Tryz.ntmps218
  go_wp2
  go_ret
  exact⟨zBq HR.out.symm,rfl⟩
 ·have HR:=Lib.hid (digits_run (s:=s) (by omega))
  have hne:=toList_ne (p:=s) (by omega)
  have HC:=Lib.hid (srun_c w s hs 0 (by omega) 10 (.inl rfl))
  have HC2:=Lib.hid (show 0+runN 10 ((zAE s).drop 0)=runN 10 (zAE s) from by rw[Nat.zero_add];rfl)
  have hle:=zCI 10 (zAE s)
  rw[zAb] at hle
  obtain⟨r,hr⟩:∃r,runN 10 (zAE s)=r:=⟨_,rfl⟩
  rw[hr] at hle HR HC2
  clear hr
  by_cases hd:r=s.size
  ·have e1:(!s.toList.isEmpty)=true:=by simpa using hne
   have HR2:=Lib.hid (show zCD (zAE s)=(!s.toList.isEmpty) from by rw[HR.out,e1];exact decide_eq_true hd)
   clear e1
   have hdd:((r:Int)==(s.size:Int))=true:=by rw[beq_iff_eq];omega
   clear hd
   go_enter Tryz.func218,Tryz.ntmps218
   go_wp2_with fail
   refine HC.out.mono ?_
   rw[HC2.out]
   rintro e w1 ⟨rfl,rfl⟩
   go_wp2
   go_ret
   exact⟨zBq HR2.out.symm,rfl⟩
  ·have HR2:=Lib.hid (show zCD (zAE s)=false from by rw[HR.out];exact decide_eq_false hd)
   have hdd:((r:Int)==(s.size:Int))=false:=by rw[beq_eq_false_iff_ne];omega
   clear hd
   go_enter Tryz.func218,Tryz.ntmps218
   go_wp2_with fail
   refine HC.out.mono ?_
   rw[HC2.out]
   rintro e w1 ⟨rfl,rfl⟩
   go_wp2
   go_ret
   exact⟨zBq HR2.out.symm,rfl⟩
theorem numX0 (w:World) (s:ByteArray) (R:Nat×RR) (hs:s.size≤2000000000) (hF:s.size≤2∨LongWays s)
  (hrun:RunsTo s 0 (0:Nat)) (hR:R=(0,.error 4)):Calls Tryz.prog 217 #[.string s,.int .i64 0] w (NumlPost w R):=by
 have HB:=Lib.hid (((Below.refl w.heap.size w).alloc (Nat.le_refl _) (o2 0 0)))
 have HRUN:=Lib.hid hrun
 have HR:=Lib.hid hR
 clear hrun hR
 rcases hF with hF|⟨hl,hF|⟨hF,⟨hF2,hF3⟩|⟨hF2,hF3|⟨hF3,hF4⟩⟩⟩⟩
 all_goals
  try have hd99:=zBw s[2].toNat
  go_enter Tryz.func217,Tryz.ntmps217
  go_wp2_with (first|(go_at_call 241;refine(zCB _ _ (u8_le _)).mono ?_;rintro e w' ⟨rfl,rfl⟩)|(go_at_call 242;refine(HRUN.out _).mono ?_;rintro e w' ⟨rfl,rfl⟩))
  all_goals
   refine bodyPost_ret (by simp[results,Tryz.results217,go_sem];first|done|rfl) rfl ?_
   exact numl_err HR.out HB.out
theorem numX1 (w:World) (s:ByteArray) (r:Nat) (R:Nat×RR) (hs:s.size≤2000000000) (hF:s.size≤2∨LongWays s) (hP:NoWays s r)
  (h0:¬r=0) (hr1:r≤s.size) (hrun:RunsTo s 0 r) (hnum:NumTo (s.extract 0 r) 0 false) (hR:R=(r,.error 6)):Calls Tryz.prog 217 #[.string s,.int .i64 0] w (NumlPost w R):=by
 have HB:=Lib.hid (((Below.refl w.heap.size w).alloc (Nat.le_refl _) (o2 0 0)))
 have hsl:=zBG s 0 (r:Int) 0 r rfl rfl (by omega) hr1
 have HRUN:=Lib.hid hrun
 have HR:=Lib.hid hR
 have HNUM:=Lib.hid hnum
 clear hrun hR hnum
 rcases hP with hP|⟨hP,hP2|⟨hP2,hP3⟩⟩
 all_goals
  try have hdp:=zBw s[r+1].toNat
  rcases hF with hF|⟨hl,hF|⟨hF,⟨hF2,hF3⟩|⟨hF2,hF3|⟨hF3,hF4⟩⟩⟩⟩
  all_goals
   try have hd99:=zBw s[2].toNat
   go_enter Tryz.func217,Tryz.ntmps217
   go_wp2_with (first|(go_at_call 241;refine(zCB _ _ (u8_le _)).mono ?_;rintro e w' ⟨rfl,rfl⟩)|(go_at_call 242;refine(HRUN.out _).mono ?_;rintro e w' ⟨rfl,rfl⟩)|(go_at_call 219;refine(HNUM.out _).mono ?_;rintro e w' ⟨rfl,rfl⟩))
   all_goals
    refine bodyPost_ret (by simp[results,Tryz.results217,go_sem];first|done|rfl) rfl ?_
    exact numl_err HR.out HB.out
theorem numX3 (w:World) (s X:ByteArray) (r e:Nat) (R:Nat×RR) (hs:s.size≤2000000000) (hF:LongWays s)
  (h0:¬r=0) (hr1:r≤s.size) (he1:r+1≤e) (he2:e≤s.size) (hrun:RunsTo s 0 r) (hrun1:RunsTo s ((r:Int)+1) e)
  (hl1:r+1<s.size) (hp1:((s[r].toNat:Int)==46)=true) (hp2:digV s[r+1].toNat<10)
  (had:∀W,(Op.stringOp .add (s.extract 0 r) (s.extract (r+1) e)).run Tryz.prog W= .ok (.string X) W)
  (hnum:NumTo X 0 false) (hR:R=(e,.error 6)):Calls Tryz.prog 217 #[.string s,.int .i64 0] w (NumlPost w R):=by
 have HB:=Lib.hid (((Below.refl w.heap.size w).alloc (Nat.le_refl _) (o2 0 0)))
 have hsl:=zBG s 0 (r:Int) 0 r rfl rfl (by omega) hr1
 have hsl2:=zBG s ((r:Int)+1) (e:Int) (r+1) e (by omega) rfl (by omega) (by omega)
 have HRUN:=Lib.hid hrun
 have HRUN1:=Lib.hid hrun1
 have HR:=Lib.hid hR
 have HNUM:=Lib.hid hnum
 have hdp:=zBw s[r+1].toNat
 clear hrun hrun1 hR hnum
 obtain⟨hl,hF|⟨hF,⟨hF2,hF3⟩|⟨hF2,hF3|⟨hF3,hF4⟩⟩⟩⟩:=hF
 all_goals
  try have hd99:=zBw s[2].toNat
  go_enter Tryz.func217,Tryz.ntmps217
  go_wp2_with (first|(go_at_call 241;refine(zCB _ _ (u8_le _)).mono ?_;rintro e w' ⟨rfl,rfl⟩))
  refine(HRUN.out _).mono ?_
  rintro e w' ⟨rfl,rfl⟩
  go_wp2_with (first|(go_at_call 241;refine(zCB _ _ (u8_le _)).mono ?_;rintro e w' ⟨rfl,rfl⟩))
  refine(HRUN1.out _).mono ?_
  rintro e w' ⟨rfl,rfl⟩
  go_wp2_with (first|(go_at_call 219;refine(HNUM.out _).mono ?_;rintro e w' ⟨rfl,rfl⟩))
  refine bodyPost_ret (by simp[results,Tryz.results217,go_sem];first|done|rfl) rfl ?_
  exact numl_err HR.out HB.out
theorem numX3b (w:World) (s X:ByteArray) (r e n:Nat) (R:Nat×RR) (hs:s.size≤2000000000) (hF:LongWays s)
  (h0:¬r=0) (hr1:r≤s.size) (he1:r+1≤e) (he2:e≤s.size) (hrun:RunsTo s 0 r) (hrun1:RunsTo s ((r:Int)+1) e)
  (hl1:r+1<s.size) (hp1:((s[r].toNat:Int)==46)=true) (hp2:digV s[r+1].toNat<10)
  (had:∀W,(Op.stringOp .add (s.extract 0 r) (s.extract (r+1) e)).run Tryz.prog W= .ok (.string X) W)
  (h9:9<(e:Int)-((r:Int)+1)) (hnum:NumTo X n true) (hR:R=(e,.error 6)):Calls Tryz.prog 217 #[.string s,.int .i64 0] w (NumlPost w R):=by
 have HB:=Lib.hid (((Below.refl w.heap.size w).alloc (Nat.le_refl _) (o2 0 0)))
 have hsl:=zBG s 0 (r:Int) 0 r rfl rfl (by omega) hr1
 have hsl2:=zBG s ((r:Int)+1) (e:Int) (r+1) e (by omega) rfl (by omega) (by omega)
 have HRUN:=Lib.hid hrun
 have HRUN1:=Lib.hid hrun1
 have HR:=Lib.hid hR
 have HNUM:=Lib.hid hnum
 have hdp:=zBw s[r+1].toNat
 clear hrun hrun1 hR hnum
 obtain⟨hl,hF|⟨hF,⟨hF2,hF3⟩|⟨hF2,hF3|⟨hF3,hF4⟩⟩⟩⟩:=hF
 all_goals
  try have hd99:=zBw s[2].toNat
  go_enter Tryz.func217,Tryz.ntmps217
  go_wp2_with (first|(go_at_call 241;refine(zCB _ _ (u8_le _)).mono ?_;rintro e w' ⟨rfl,rfl⟩))
  refine(HRUN.out _).mono ?_
  rintro e w' ⟨rfl,rfl⟩
  go_wp2_with (first|(go_at_call 241;refine(zCB _ _ (u8_le _)).mono ?_;rintro e w' ⟨rfl,rfl⟩))
  refine(HRUN1.out _).mono ?_
  rintro e w' ⟨rfl,rfl⟩
  go_wp2_with (first|(go_at_call 219;refine(HNUM.out _).mono ?_;rintro e w' ⟨rfl,rfl⟩))
  refine bodyPost_ret (by simp[results,Tryz.results217,go_sem];first|done|rfl) rfl ?_
  exact numl_err HR.out HB.out
theorem sbase_pos (w:World) (n:Int) (N:Nat) (U:List UInt8) (hw:n=N) (hN:(N:Int)≤9223372036854775807) (hlen:U.length≤19) (hU:Lib.decDigits N=U):
  Calls Tryz.prog 240 #[.int .i64 n,.int .i64 10] w (fun e w'=>e= .returned (.tuple #[.string ⟨(U).toArray⟩,.int .i64 0])∧Below w.heap.size w w'):=by
 have HW:=Lib.hid hw
 have HL:=Lib.hid hlen
 have HU:=Lib.hid hU
 clear hU hlen
 subst hw
 obtain⟨i5,hi5,hz50,hz51,hz52⟩:=info_parts info5
 go_enter Tryz.func240,Tryz.ntmps240
 go_wp2
 go_loopg [6,8] (msrD N []) (fun gg vu vl wr=>∃(v:Nat) (l:List UInt8) (g cap:Nat),gg=msrD v l∧vu= .int .u64 (v:Int)∧vl= .slice (some ⟨g,0,none⟩) l.length cap∧v≤N∧l.length≤19∧Below w.heap.size w wr∧wr.ownsRow w.heap.size 5 1 (.slice (some ⟨g,0,none⟩) l.length cap) l.length (l.map bv)∧Hid (preD v l++l.reverse=U))
 case atStart=>
  refine⟨N,[],w.heap.size,0,rfl,?_,rfl,Nat.le_refl _,Nat.zero_le _,(Below.refl _ _).alloc (Nat.le_refl _) _,row_base (Nat.le_refl _),?_⟩
  ·rfl
  ·exact Lib.hid (by rw[List.reverse_nil,List.append_nil];unfold preD;rw[if_neg (by simp)];exact HU.out)
 case round=>
  obtain⟨v,l,g,cap,rfl,rfl,rfl,hv,hll,hb,hown,HI⟩:=hrel
  have HB:=Lib.hid hb
  have HO:=Lib.hid hown
  have hsz:=hb.size
  clear hb hown
  have hcase:(0<v∧Hid (0<v∨l=[]))∨((¬0<v∧((l.length:Int)==0)=true)∧Hid (0<v∨l=[]))∨(¬0<v∧((l.length:Int)==0)=false∧Hid (v=0∧l≠[])):=by
   rcases Nat.eq_zero_or_pos v with h|h
   ·cases l with
    |nil=>exact .inr (.inl ⟨⟨by omega,rfl⟩,Lib.hid (.inr rfl)⟩)
    |cons _ _=>exact .inr (.inr ⟨by omega,by rw[beq_eq_false_iff_ne];simp;omega,Lib.hid ⟨h,by simp⟩⟩)
   ·exact .inl ⟨h,Lib.hid (.inl h)⟩
  rcases hcase with⟨hc,HC⟩|⟨⟨hc,hc2⟩,HC⟩|⟨hc,hc2,HC⟩
  ·have HN:=Lib.hid (show preD (v/10) (l++[digC v])++(l++[digC v]).reverse=U from by rw[List.reverse_append,List.reverse_singleton,←List.append_assoc,←pre_step HC.out];exact HI.out)
   have hlen2:(l++[digC v]).length≤19:=len_next HL.out hv HN.out
   have HM:=Lib.hid (msr_step HC.out)
   rw[List.length_append,List.length_singleton] at hlen2
   clear HI
   go_wp2_with (at_builtin;refine wpList_append_own_at _ rfl (.tmp 31) (.tmp 38) 205 rfl w.heap.size 5 i5 _ 1 1 Tryz.underlying205 hi5 hz50 hz51 hz52 rfl (by decide) (.slice (some ⟨g,0,none⟩) l.length cap) l.length (l.map bv) rfl ?_ ⟨_,0,none⟩ 1 1 [_] rfl rfl (zBo _ _ _ _ (by simp)) ?_ ?_ ?_ ?_ ?_)
   ·exact zAQ (zAa ((Below.refl _ _).alloc (Nat.le_refl _) _) (Nat.le_refl _)) HO.out
   ·first|rfl|(intro u hu;simp only[List.mem_singleton] at hu;subst hu;rfl)
   ·first|(unfold maxLen;omega)|(unfold maxLen;simp;omega)|(unfold maxLen;simp)
   ·first|omega|(simp;omega)|simp
   ·first|(simp;omega)|omega|simp
   ·intro v' w2 hown hgrow _ hat'
    obtain⟨g',cap',rfl⟩:=zAl hown (by omega)
    have HB2:=Lib.hid ((HB.out.alloc hsz (.cells #[_] 5)).grown hgrow (by simp;omega) (fun k hk=>by injection hk with hk;subst hk;exact(zAS HO.out rfl).1))
    have HO2:=Lib.hid (row_next (names_at v (show v%10<36 by omega)) hown)
    clear hown hgrow hat'
    go_wp2
    go_roundg (msrD (v/10) (l++[digC v]))
    case measure=>exact HM.out
    case rel=>exact⟨v/10,l++[digC v],g',cap',rfl,(by push_cast;rfl),(by simp),by omega,by simp;omega,HB2.out,HO2.out,HN⟩
  ·have HN:=Lib.hid (show preD (v/10) (l++[digC v])++(l++[digC v]).reverse=U from by rw[List.reverse_append,List.reverse_singleton,←List.append_assoc,←pre_step HC.out];exact HI.out)
   have hlen2:(l++[digC v]).length≤19:=len_next HL.out hv HN.out
   have HM:=Lib.hid (msr_step HC.out)
   rw[List.length_append,List.length_singleton] at hlen2
   clear HI
   go_wp2_with (at_builtin;refine wpList_append_own_at _ rfl (.tmp 31) (.tmp 38) 205 rfl w.heap.size 5 i5 _ 1 1 Tryz.underlying205 hi5 hz50 hz51 hz52 rfl (by decide) (.slice (some ⟨g,0,none⟩) l.length cap) l.length (l.map bv) rfl ?_ ⟨_,0,none⟩ 1 1 [_] rfl rfl (zBo _ _ _ _ (by simp)) ?_ ?_ ?_ ?_ ?_)
   ·exact zAQ (zAa ((Below.refl _ _).alloc (Nat.le_refl _) _) (Nat.le_refl _)) HO.out
   ·first|rfl|(intro u hu;simp only[List.mem_singleton] at hu;subst hu;rfl)
   ·first|(unfold maxLen;omega)|(unfold maxLen;simp;omega)|(unfold maxLen;simp)
   ·first|omega|(simp;omega)|simp
   ·first|(simp;omega)|omega|simp
   ·intro v' w2 hown hgrow _ hat'
    obtain⟨g',cap',rfl⟩:=zAl hown (by omega)
    have HB2:=Lib.hid ((HB.out.alloc hsz (.cells #[_] 5)).grown hgrow (by simp;omega) (fun k hk=>by injection hk with hk;subst hk;exact(zAS HO.out rfl).1))
    have HO2:=Lib.hid (row_next (names_at v (show v%10<36 by omega)) hown)
    clear hown hgrow hat'
    go_wp2
    go_roundg (msrD (v/10) (l++[digC v]))
    case measure=>exact HM.out
    case rel=>exact⟨v/10,l++[digC v],g',cap',rfl,(by push_cast;rfl),(by simp),by omega,by simp;omega,HB2.out,HO2.out,HN⟩
  ·have HX:=Lib.hid (show l.reverse=U from by rw[←HI.out,HC.out.1,pre_end HC.out.2];rfl)
   clear HI HC
   obtain⟨W1,hW1⟩:∃W1,W1=wr:=⟨_,rfl⟩
   subst hW1
   have HN0:=Lib.hid (row_base (w:=W1) (Nat.le_refl W1.heap.size))
   go_wp2
   go_loopg [9,10] l.length (fun gg vo vi wr=>∃(o:List UInt8) (g2 cap2:Nat) (x:Int),gg=l.length-o.length∧vo= .slice (some ⟨g2,0,none⟩) o.length cap2∧vi= .int .i64 x∧x=(l.length:Int)-1-(o.length:Int)∧o.length≤l.length∧Below W1.heap.size W1 wr∧wr.ownsRow W1.heap.size 5 1 (.slice (some ⟨g2,0,none⟩) o.length cap2) o.length (o.map bv)∧Hid (o=l.reverse.take o.length))
   case atStart=>exact⟨[],W1.heap.size,0,(l.length:Int)-1,rfl,rfl,rfl,(by simp),Nat.zero_le _,(Below.refl _ _).alloc (Nat.le_refl _) _,HN0.out,Lib.hid rfl⟩
   case round=>
    obtain⟨o,g2,cap2,x,rfl,rfl,rfl,hx,hol,hb2,hown2,HO2⟩:=hrel
    have hsz2:=hb2.size
    have HB2:=Lib.hid hb2
    have HR2:=Lib.hid hown2
    have HR:=Lib.hid (zAQ (zAa hb2 (Nat.le_refl _)) HO.out)
    clear hb2 hown2
    by_cases hlt:o.length<l.length
    ·obtain⟨i,hi⟩:∃i,l.length=o.length+1+i:=⟨l.length-o.length-1,by omega⟩
     have hxi:x=(i:Int):=by omega
     subst hxi
     have hil:i<l.length:=by omega
     have hil2:i<l.length:=hil
     obtain⟨c,hc0⟩:∃c,l[i]=c:=⟨_,rfl⟩
     have hcell:wr.cell? ⟨g,i,none⟩=some (.int .u8 (c.toNat:Int)):=by
      rw[HR.out.cellAt i (by omega),List.getElem?_map,List.getElem?_eq_getElem hil2,hc0];rfl
     have HN2:=Lib.hid (rev_next hi HO2.out hil2)
     rw[hc0] at HN2
     clear hil2 hc0
     have HI2:=Lib.hid hi
     clear HO2 hx hi
     go_wp2_with (at_builtin;refine wpList_append_own_at _ rfl (.tmp 57) (.tmp 62) 205 rfl W1.heap.size 5 i5 _ 1 1 Tryz.underlying205 hi5 hz50 hz51 hz52 rfl (by decide) (.slice (some ⟨g2,0,none⟩) o.length cap2) o.length (o.map bv) rfl ?_ ⟨_,0,none⟩ 1 1 [_] rfl rfl (zBo _ _ _ _ (by simp)) ?_ ?_ ?_ ?_ ?_)
     ·exact zAQ (zAa ((Below.refl _ _).alloc (Nat.le_refl _) _) (Nat.le_refl _)) HR2.out
     ·first|rfl|(intro u hu;simp only[List.mem_singleton] at hu;subst hu;rfl)
     ·first|(unfold maxLen;omega)|(unfold maxLen;simp;omega)|(unfold maxLen;simp)
     ·first|omega|(simp;omega)|simp
     ·first|(simp;omega)|omega|simp
     ·intro v' w2 hown hgrow _ hat'
      obtain⟨g',cap',rfl⟩:=zAl hown (by omega)
      have HB3:=Lib.hid ((HB2.out.alloc hsz2 (.cells #[_] 5)).grown hgrow (by simp;omega) (fun k hk=>by injection hk with hk;subst hk;exact(zAS HR2.out rfl).1))
      have HO3:=Lib.hid (row_next (c:=c) rfl hown)
      clear hown hgrow hat'
      go_wp2
      have hi:=HI2.out
      go_roundg (l.length-(o.length+1))
      case measure=>omega
      case rel=>exact⟨o++[c],g',cap',_,(by simp),(by simp),rfl,(by simp;omega),(by simp;omega),HB3.out,HO3.out,HN2⟩
    ·have hxm:x= -1:=by omega
     subst hxm
     have hoU:o=U:=by rw[←HX.out];have h1:=HO2.out;rw[h1];exact List.take_of_length_le (by rw[List.length_reverse];omega)
     have HOU:=Lib.hid hoU
     clear hoU
     have hconv:=run_convert_bytes_back wr 205 9 5 ⟨g2,0,none⟩ cap2 o Tryz.underlying205 Tryz.underlying5 Tryz.underlying9 (fun j hj=>by
      rw[show(⟨g2,0,none⟩:Addr).add j=⟨g2,j,none⟩ from by unfold Addr.add;split<;>simp_all,HR2.out.cellAt j (by omega),List.getElem?_map,List.getElem?_eq_getElem hj];rfl)
     go_wp2
     go_ret2
     exact⟨by have h:=HOU.out;subst h;rfl,HB.out.trans (HB2.out.mono hsz)⟩
theorem sbase_neg (w:World) (n:Int) (N:Nat) (U:List UInt8) (hw:IntKind.u64.wrap (-IntKind.u64.wrap n)=(N:Int)) (hN:(N:Int)≤9223372036854775807) (hlen:U.length≤19) (hU:Lib.decDigits N=U) (hn:n<0):
  Calls Tryz.prog 240 #[.int .i64 n,.int .i64 10] w (fun e w'=>e= .returned (.tuple #[.string ⟨(45::U).toArray⟩,.int .i64 0])∧Below w.heap.size w w'):=by
 have HW:=Lib.hid hw
 have HL:=Lib.hid hlen
 have HU:=Lib.hid hU
 clear hU hw hlen
 obtain⟨i5,hi5,hz50,hz51,hz52⟩:=info_parts info5
 go_enter Tryz.func240,Tryz.ntmps240
 go_wp2
 go_loopg [6,8] (msrD N []) (fun gg vu vl wr=>∃(v:Nat) (l:List UInt8) (g cap:Nat),gg=msrD v l∧vu= .int .u64 (v:Int)∧vl= .slice (some ⟨g,0,none⟩) l.length cap∧v≤N∧l.length≤19∧Below w.heap.size w wr∧wr.ownsRow w.heap.size 5 1 (.slice (some ⟨g,0,none⟩) l.length cap) l.length (l.map bv)∧Hid (preD v l++l.reverse=U))
 case atStart=>
  refine⟨N,[],w.heap.size,0,rfl,?_,rfl,Nat.le_refl _,Nat.zero_le _,(Below.refl _ _).alloc (Nat.le_refl _) _,row_base (Nat.le_refl _),?_⟩
  ·first|rfl|(rw[HW.out])
  ·exact Lib.hid (by rw[List.reverse_nil,List.append_nil];unfold preD;rw[if_neg (by simp)];exact HU.out)
 case round=>
  obtain⟨v,l,g,cap,rfl,rfl,rfl,hv,hll,hb,hown,HI⟩:=hrel
  have HB:=Lib.hid hb
  have HO:=Lib.hid hown
  have hsz:=hb.size
  clear hb hown
  have hcase:(0<v∧Hid (0<v∨l=[]))∨((¬0<v∧((l.length:Int)==0)=true)∧Hid (0<v∨l=[]))∨(¬0<v∧((l.length:Int)==0)=false∧Hid (v=0∧l≠[])):=by
   rcases Nat.eq_zero_or_pos v with h|h
   ·cases l with
    |nil=>exact .inr (.inl ⟨⟨by omega,rfl⟩,Lib.hid (.inr rfl)⟩)
    |cons _ _=>exact .inr (.inr ⟨by omega,by rw[beq_eq_false_iff_ne];simp;omega,Lib.hid ⟨h,by simp⟩⟩)
   ·exact .inl ⟨h,Lib.hid (.inl h)⟩
  rcases hcase with⟨hc,HC⟩|⟨⟨hc,hc2⟩,HC⟩|⟨hc,hc2,HC⟩
  ·have HN:=Lib.hid (show preD (v/10) (l++[digC v])++(l++[digC v]).reverse=U from by rw[List.reverse_append,List.reverse_singleton,←List.append_assoc,←pre_step HC.out];exact HI.out)
   have hlen2:(l++[digC v]).length≤19:=len_next HL.out hv HN.out
   have HM:=Lib.hid (msr_step HC.out)
   rw[List.length_append,List.length_singleton] at hlen2
   clear HI
   go_wp2_with (at_builtin;refine wpList_append_own_at _ rfl (.tmp 31) (.tmp 38) 205 rfl w.heap.size 5 i5 _ 1 1 Tryz.underlying205 hi5 hz50 hz51 hz52 rfl (by decide) (.slice (some ⟨g,0,none⟩) l.length cap) l.length (l.map bv) rfl ?_ ⟨_,0,none⟩ 1 1 [_] rfl rfl (zBo _ _ _ _ (by simp)) ?_ ?_ ?_ ?_ ?_)
   ·exact zAQ (zAa ((Below.refl _ _).alloc (Nat.le_refl _) _) (Nat.le_refl _)) HO.out
   ·first|rfl|(intro u hu;simp only[List.mem_singleton] at hu;subst hu;rfl)
   ·first|(unfold maxLen;omega)|(unfold maxLen;simp;omega)|(unfold maxLen;simp)
   ·first|omega|(simp;omega)|simp
   ·first|(simp;omega)|omega|simp
   ·intro v' w2 hown hgrow _ hat'
    obtain⟨g',cap',rfl⟩:=zAl hown (by omega)
    have HB2:=Lib.hid ((HB.out.alloc hsz (.cells #[_] 5)).grown hgrow (by simp;omega) (fun k hk=>by injection hk with hk;subst hk;exact(zAS HO.out rfl).1))
    have HO2:=Lib.hid (row_next (names_at v (show v%10<36 by omega)) hown)
    clear hown hgrow hat'
    go_wp2
    go_roundg (msrD (v/10) (l++[digC v]))
    case measure=>exact HM.out
    case rel=>exact⟨v/10,l++[digC v],g',cap',rfl,(by push_cast;rfl),(by simp),by omega,by simp;omega,HB2.out,HO2.out,HN⟩
  ·have HN:=Lib.hid (show preD (v/10) (l++[digC v])++(l++[digC v]).reverse=U from by rw[List.reverse_append,List.reverse_singleton,←List.append_assoc,←pre_step HC.out];exact HI.out)
   have hlen2:(l++[digC v]).length≤19:=len_next HL.out hv HN.out
   have HM:=Lib.hid (msr_step HC.out)
   rw[List.length_append,List.length_singleton] at hlen2
   clear HI
   go_wp2_with (at_builtin;refine wpList_append_own_at _ rfl (.tmp 31) (.tmp 38) 205 rfl w.heap.size 5 i5 _ 1 1 Tryz.underlying205 hi5 hz50 hz51 hz52 rfl (by decide) (.slice (some ⟨g,0,none⟩) l.length cap) l.length (l.map bv) rfl ?_ ⟨_,0,none⟩ 1 1 [_] rfl rfl (zBo _ _ _ _ (by simp)) ?_ ?_ ?_ ?_ ?_)
   ·exact zAQ (zAa ((Below.refl _ _).alloc (Nat.le_refl _) _) (Nat.le_refl _)) HO.out
   ·first|rfl|(intro u hu;simp only[List.mem_singleton] at hu;subst hu;rfl)
   ·first|(unfold maxLen;omega)|(unfold maxLen;simp;omega)|(unfold maxLen;simp)
   ·first|omega|(simp;omega)|simp
   ·first|(simp;omega)|omega|simp
   ·intro v' w2 hown hgrow _ hat'
    obtain⟨g',cap',rfl⟩:=zAl hown (by omega)
    have HB2:=Lib.hid ((HB.out.alloc hsz (.cells #[_] 5)).grown hgrow (by simp;omega) (fun k hk=>by injection hk with hk;subst hk;exact(zAS HO.out rfl).1))
    have HO2:=Lib.hid (row_next (names_at v (show v%10<36 by omega)) hown)
    clear hown hgrow hat'
    go_wp2
    go_roundg (msrD (v/10) (l++[digC v]))
    case measure=>exact HM.out
    case rel=>exact⟨v/10,l++[digC v],g',cap',rfl,(by push_cast;rfl),(by simp),by omega,by simp;omega,HB2.out,HO2.out,HN⟩
  ·have HX:=Lib.hid (show l.reverse=U from by rw[←HI.out,HC.out.1,pre_end HC.out.2];rfl)
   clear HI HC
   go_wp2_with (at_builtin;refine wpList_append_own_at _ rfl (.tmp 46) (.tmp 47) 205 rfl w.heap.size 5 i5 _ 1 1 Tryz.underlying205 hi5 hz50 hz51 hz52 rfl (by decide) (.slice (some ⟨g,0,none⟩) l.length cap) l.length (l.map bv) rfl ?_ ⟨_,0,none⟩ 1 1 [_] rfl rfl (zBo _ _ _ _ (by simp)) ?_ ?_ ?_ ?_ ?_)
   ·exact zAQ (zAa ((Below.refl _ _).alloc (Nat.le_refl _) _) (Nat.le_refl _)) HO.out
   ·first|rfl|(intro u hu;simp only[List.mem_singleton] at hu;subst hu;rfl)
   ·first|(unfold maxLen;omega)|(unfold maxLen;simp;omega)|(unfold maxLen;simp)
   ·first|omega|(simp;omega)|simp
   ·first|(simp;omega)|omega|simp
   intro v' w2 hown hgrow _ hat'
   obtain⟨g',cap',rfl⟩:=zAl hown (by omega)
   have HB2_:=Lib.hid ((HB.out.alloc hsz (.cells #[_] 5)).grown hgrow (by simp;omega) (fun k hk=>by injection hk with hk;subst hk;exact(zAS HO.out rfl).1))
   have HO2_:=Lib.hid (row_next (c:=45) rfl hown)
   have hszL:=HB2_.out.size
   obtain⟨l2,hl2⟩:∃l2,l2=l++[45]:=⟨_,rfl⟩
   have HX2:=Lib.hid (show l2.reverse=45::U from by rw[hl2,List.reverse_append,HX.out];rfl)
   have hlz:l2.length=l.length+1:=by rw[hl2];simp
   rw[←hl2,hlz] at HO2_
   have HLZ:=Lib.hid hlz
   clear hown hgrow hat' hl2 HX HO HB hsz hlz
   obtain⟨W1,hW1⟩:∃W1,W1=w2:=⟨_,rfl⟩
   subst hW1
   have HN0:=Lib.hid (row_base (w:=W1) (Nat.le_refl W1.heap.size))
   go_wp2
   go_loopg [9,10] (l.length+1) (fun gg vo vi wr=>∃(o:List UInt8) (g2 cap2:Nat) (x:Int),gg=(l.length+1)-o.length∧vo= .slice (some ⟨g2,0,none⟩) o.length cap2∧vi= .int .i64 x∧x=((l.length+1):Int)-1-(o.length:Int)∧o.length≤(l.length+1)∧Below W1.heap.size W1 wr∧wr.ownsRow W1.heap.size 5 1 (.slice (some ⟨g2,0,none⟩) o.length cap2) o.length (o.map bv)∧Hid (o=l2.reverse.take o.length))
   case atStart=>exact⟨[],W1.heap.size,0,_,rfl,rfl,rfl,(by simp),Nat.zero_le _,(Below.refl _ _).alloc (Nat.le_refl _) _,HN0.out,Lib.hid rfl⟩
   case round=>
    obtain⟨o,g2,cap2,x,rfl,rfl,rfl,hx,hol,hb2,hown2,HO2⟩:=hrel
    have hsz2:=hb2.size
    have HB2:=Lib.hid hb2
    have HR2:=Lib.hid hown2
    have HR:=Lib.hid (zAQ (zAa hb2 (Nat.le_refl _)) HO2_.out)
    clear hb2 hown2
    by_cases hlt:o.length<(l.length+1)
    ·obtain⟨i,hi⟩:∃i,(l.length+1)=o.length+1+i:=⟨(l.length+1)-o.length-1,by omega⟩
     have hxi:x=(i:Int):=by omega
     subst hxi
     have hil:i<(l.length+1):=by omega
     have hil2:i<l2.length:=by rw[HLZ.out];exact hil
     obtain⟨c,hc0⟩:∃c,l2[i]=c:=⟨_,rfl⟩
     have hcell:wr.cell? ⟨g',i,none⟩=some (.int .u8 (c.toNat:Int)):=by
      rw[HR.out.cellAt i (by omega),List.getElem?_map,List.getElem?_eq_getElem hil2,hc0];rfl
     have HN2:=Lib.hid (rev_next (HLZ.out.trans hi) HO2.out hil2)
     rw[hc0] at HN2
     clear hil2 hc0
     have HI2:=Lib.hid hi
     clear HO2 hx hi
     go_wp2_with (at_builtin;refine wpList_append_own_at _ rfl (.tmp 57) (.tmp 62) 205 rfl W1.heap.size 5 i5 _ 1 1 Tryz.underlying205 hi5 hz50 hz51 hz52 rfl (by decide) (.slice (some ⟨g2,0,none⟩) o.length cap2) o.length (o.map bv) rfl ?_ ⟨_,0,none⟩ 1 1 [_] rfl rfl (zBo _ _ _ _ (by simp)) ?_ ?_ ?_ ?_ ?_)
     ·exact zAQ (zAa ((Below.refl _ _).alloc (Nat.le_refl _) _) (Nat.le_refl _)) HR2.out
     ·first|rfl|(intro u hu;simp only[List.mem_singleton] at hu;subst hu;rfl)
     ·first|(unfold maxLen;omega)|(unfold maxLen;simp;omega)|(unfold maxLen;simp)
     ·first|omega|(simp;omega)|simp
     ·first|(simp;omega)|omega|simp
     ·intro v' w2 hown hgrow _ hat'
      obtain⟨g',cap',rfl⟩:=zAl hown (by omega)
      have HB3:=Lib.hid ((HB2.out.alloc hsz2 (.cells #[_] 5)).grown hgrow (by simp;omega) (fun k hk=>by injection hk with hk;subst hk;exact(zAS HR2.out rfl).1))
      have HO3:=Lib.hid (row_next (c:=c) rfl hown)
      clear hown hgrow hat'
      go_wp2
      have hi:=HI2.out
      go_roundg ((l.length+1)-(o.length+1))
      case measure=>omega
      case rel=>exact⟨o++[c],g',cap',_,(by simp),(by simp),rfl,(by simp;omega),(by simp;omega),HB3.out,HO3.out,HN2⟩
    ·have hxm:x= -1:=by omega
     subst hxm
     have hoU:o=45::U:=by rw[←HX2.out];have h1:=HO2.out;rw[h1];exact List.take_of_length_le (by rw[List.length_reverse,HLZ.out];omega)
     have HOU:=Lib.hid hoU
     clear hoU
     have hconv:=run_convert_bytes_back wr 205 9 5 ⟨g2,0,none⟩ cap2 o Tryz.underlying205 Tryz.underlying5 Tryz.underlying9 (fun j hj=>by
      rw[show(⟨g2,0,none⟩:Addr).add j=⟨g2,j,none⟩ from by unfold Addr.add;split<;>simp_all,HR2.out.cellAt j (by omega),List.getElem?_map,List.getElem?_eq_getElem hj];rfl)
     go_wp2
     go_ret2
     exact⟨by have h:=HOU.out;subst h;rfl,HB2_.out.trans (HB2.out.mono hszL)⟩
theorem sbase_c (w:World) (n:Int) (h1: -9223372036854775807≤n) (h2:n≤9223372036854775807):Calls Tryz.prog 240 #[.int .i64 n,.int .i64 10] w (fun e w'=>e= .returned (.tuple #[.string ⟨(Lib.itoa n).toArray⟩,.int .i64 0])∧Below w.heap.size w w'):=by
 by_cases h:n<0
 ·have hi:Lib.itoa n=45::Lib.decDigits n.natAbs:=by unfold Lib.itoa;rw[if_pos h]
  rw[hi]
  exact sbase_neg w n n.natAbs _ (u64_neg h h1) (by omega) (digits_len _ (by omega)) rfl h
 ·have hi:Lib.itoa n=Lib.decDigits n.natAbs:=by unfold Lib.itoa;rw[if_neg h];congr 1;omega
  rw[hi]
  exact sbase_pos w n n.natAbs _ (by omega) (by omega) (digits_len _ (by omega)) rfl
theorem sdecimal_c (w:World) (n:Int) (h1: -9223372036854775807≤n) (h2:n≤9223372036854775807):Calls Tryz.prog 213 #[.int .i64 n] w (fun e w'=>e= .returned (.string ⟨(Lib.itoa n).toArray⟩)∧Below w.heap.size w w'):=by
 have HC:=Lib.hid (fun W=>sbase_c W n h1 h2)
 obtain⟨S,hS⟩:∃S:ByteArray,S=⟨(Lib.itoa n).toArray⟩:=⟨_,rfl⟩
 rw[←hS] at HC ⊢
 clear hS
 go_enter Tryz.func213,Tryz.ntmps213
 go_wp2_with fail
 refine(HC.out _).mono ?_
 rintro e w1 ⟨rfl,hb⟩
 go_wp2
 go_ret
 exact⟨rfl,hb⟩
end Go.Proofs.YthkpckgcgkijbaaGreatDoor
