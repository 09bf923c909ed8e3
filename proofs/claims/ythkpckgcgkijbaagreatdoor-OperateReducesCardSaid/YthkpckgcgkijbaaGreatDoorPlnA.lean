import Derived.Test.YthkpckgcgkijbaaGreatDoorHpC
import Derived.Test.YthkpckgcgkijbaaGreatDoorBitC
import Derived.Test.YthkpckgcgkijbaaGreatDoorOmB
import Derived.Test.YthkpckgcgkijbaaGreatDoorOmE
import Derived.Test.YthkpckgcgkijbaaGreatDoorHpX
set_option linter.unusedVariables false
set_option linter.unusedSimpArgs false
set_option maxRecDepth 100000
set_option maxHeartbeats 8000000
namespace Go.Proofs.YthkpckgcgkijbaaGreatDoor
open Go.RowKit Go.Proofs.Lexi
theorem pcalc1_c (w:World) (p q p' q':Int):Calls Tryz.prog 90 #[.int .i64 1,.agg #[p,q],.agg #[p',q']] w (NumPost w (addN (p,q) (p',q'))):=by
 all_goals
  go_enter Tryz.func90,Tryz.ntmps90
  go_wp2_with fail
  refine(radd_c _ _ _ _ _).mono ?_
  rintro e w1 ⟨rfl,hb⟩
  have hz:=hb.size
  simp at hz
  obtain⟨hc,hf⟩:=bcell hb
  have HB1:=hbn (zAL _ _ _ _) hb
  have f0:w1.frozen? ⟨w.heap.size+1+1,0,none⟩=false:=(hf _ _ (by simp<;>omega)).trans (by simp[go_sem])
  have f1:w1.frozen? ⟨w.heap.size+1+1,1,none⟩=false:=(hf _ _ (by simp<;>omega)).trans (by simp[go_sem])
  have c0:w1.cell? ⟨w.heap.size+1+1,0,none⟩=some (.int .i64 0):=(hc _ _ (by simp<;>omega)).trans (by simp[go_sem])
  have c1:w1.cell? ⟨w.heap.size+1+1,1,none⟩=some (.int .i64 0):=(hc _ _ (by simp<;>omega)).trans (by simp[go_sem])
  clear hb hc hf
  go_wp2
  refine bodyPost_ret (by simp[results,Tryz.results90,go_sem,c0,c1];first|done|rfl) rfl ?_
  exact zBk rfl (zAD HB1.out (by omega) _ _)
theorem pcalc2_c (w:World) (p q p' q':Int):Calls Tryz.prog 90 #[.int .i64 2,.agg #[p,q],.agg #[p',q']] w (NumPost w (subN (p,q) (p',q'))):=by
 all_goals
  go_enter Tryz.func90,Tryz.ntmps90
  go_wp2_with fail
  refine(rsub_c _ _ _ _ _).mono ?_
  rintro e w1 ⟨rfl,hb⟩
  have hz:=hb.size
  simp at hz
  obtain⟨hc,hf⟩:=bcell hb
  have HB1:=hbn (zAL _ _ _ _) hb
  have f0:w1.frozen? ⟨w.heap.size+1+1,0,none⟩=false:=(hf _ _ (by simp<;>omega)).trans (by simp[go_sem])
  have f1:w1.frozen? ⟨w.heap.size+1+1,1,none⟩=false:=(hf _ _ (by simp<;>omega)).trans (by simp[go_sem])
  have c0:w1.cell? ⟨w.heap.size+1+1,0,none⟩=some (.int .i64 0):=(hc _ _ (by simp<;>omega)).trans (by simp[go_sem])
  have c1:w1.cell? ⟨w.heap.size+1+1,1,none⟩=some (.int .i64 0):=(hc _ _ (by simp<;>omega)).trans (by simp[go_sem])
  clear hb hc hf
  go_wp2
  refine bodyPost_ret (by simp[results,Tryz.results90,go_sem,c0,c1];first|done|rfl) rfl ?_
  exact zBk rfl (zAD HB1.out (by omega) _ _)
theorem pcalc3_c (w:World) (p q p' q':Int):Calls Tryz.prog 90 #[.int .i64 3,.agg #[p,q],.agg #[p',q']] w (NumPost w (mulN (p,q) (p',q'))):=by
 all_goals
  go_enter Tryz.func90,Tryz.ntmps90
  go_wp2_with fail
  refine(rmul_c _ _ _ _ _).mono ?_
  rintro e w1 ⟨rfl,hb⟩
  have hz:=hb.size
  simp at hz
  obtain⟨hc,hf⟩:=bcell hb
  have HB1:=hbn (zAL _ _ _ _) hb
  have f0:w1.frozen? ⟨w.heap.size+1+1,0,none⟩=false:=(hf _ _ (by simp<;>omega)).trans (by simp[go_sem])
  have f1:w1.frozen? ⟨w.heap.size+1+1,1,none⟩=false:=(hf _ _ (by simp<;>omega)).trans (by simp[go_sem])
  have c0:w1.cell? ⟨w.heap.size+1+1,0,none⟩=some (.int .i64 0):=(hc _ _ (by simp<;>omega)).trans (by simp[go_sem])
  have c1:w1.cell? ⟨w.heap.size+1+1,1,none⟩=some (.int .i64 0):=(hc _ _ (by simp<;>omega)).trans (by simp[go_sem])
  clear hb hc hf
  go_wp2
  refine bodyPost_ret (by simp[results,Tryz.results90,go_sem,c0,c1];first|done|rfl) rfl ?_
  exact zBk rfl (zAD HB1.out (by omega) _ _)
theorem pcalc4_c (w:World) (p q p' q':Int):Calls Tryz.prog 90 #[.int .i64 4,.agg #[p,q],.agg #[p',q']] w (NumPost w (divN (p,q) (p',q'))):=by
 all_goals
  go_enter Tryz.func90,Tryz.ntmps90
  go_wp2_with fail
  refine(rdiv_c _ _ _ _ _).mono ?_
  rintro e w1 ⟨rfl,hb⟩
  have hz:=hb.size
  simp at hz
  obtain⟨hc,hf⟩:=bcell hb
  have HB1:=hbn (zAL _ _ _ _) hb
  have f0:w1.frozen? ⟨w.heap.size+1+1,0,none⟩=false:=(hf _ _ (by simp<;>omega)).trans (by simp[go_sem])
  have f1:w1.frozen? ⟨w.heap.size+1+1,1,none⟩=false:=(hf _ _ (by simp<;>omega)).trans (by simp[go_sem])
  have c0:w1.cell? ⟨w.heap.size+1+1,0,none⟩=some (.int .i64 0):=(hc _ _ (by simp<;>omega)).trans (by simp[go_sem])
  have c1:w1.cell? ⟨w.heap.size+1+1,1,none⟩=some (.int .i64 0):=(hc _ _ (by simp<;>omega)).trans (by simp[go_sem])
  clear hb hc hf
  go_wp2
  refine bodyPost_ret (by simp[results,Tryz.results90,go_sem,c0,c1];first|done|rfl) rfl ?_
  exact zBk rfl (zAD HB1.out (by omega) _ _)
theorem pcalc5_c (w:World) (p q p' q':Int):Calls Tryz.prog 90 #[.int .i64 5,.agg #[p,q],.agg #[p',q']] w (NumPost w (quotN (p,q) (p',q'))):=by
 all_goals
  go_enter Tryz.func90,Tryz.ntmps90
  go_wp2_with fail
  refine(rquot_c _ _ _ _ _).mono ?_
  rintro e w1 ⟨rfl,hb⟩
  have hz:=hb.size
  simp at hz
  obtain⟨hc,hf⟩:=bcell hb
  have HB1:=hbn (zAL _ _ _ _) hb
  have f0:w1.frozen? ⟨w.heap.size+1+1,0,none⟩=false:=(hf _ _ (by simp<;>omega)).trans (by simp[go_sem])
  have f1:w1.frozen? ⟨w.heap.size+1+1,1,none⟩=false:=(hf _ _ (by simp<;>omega)).trans (by simp[go_sem])
  have c0:w1.cell? ⟨w.heap.size+1+1,0,none⟩=some (.int .i64 0):=(hc _ _ (by simp<;>omega)).trans (by simp[go_sem])
  have c1:w1.cell? ⟨w.heap.size+1+1,1,none⟩=some (.int .i64 0):=(hc _ _ (by simp<;>omega)).trans (by simp[go_sem])
  clear hb hc hf
  go_wp2
  refine bodyPost_ret (by simp[results,Tryz.results90,go_sem,c0,c1];first|done|rfl) rfl ?_
  exact zBk rfl (zAD HB1.out (by omega) _ _)
theorem pcalc6_c (w:World) (p q p' q':Int):Calls Tryz.prog 90 #[.int .i64 6,.agg #[p,q],.agg #[p',q']] w (NumPost w (modN (p,q) (p',q'))):=by
 all_goals
  go_enter Tryz.func90,Tryz.ntmps90
  go_wp2_with fail
  refine(rmod_c _ _ _ _ _).mono ?_
  rintro e w1 ⟨rfl,hb⟩
  have hz:=hb.size
  simp at hz
  obtain⟨hc,hf⟩:=bcell hb
  have HB1:=hbn (zAL _ _ _ _) hb
  have f0:w1.frozen? ⟨w.heap.size+1+1,0,none⟩=false:=(hf _ _ (by simp<;>omega)).trans (by simp[go_sem])
  have f1:w1.frozen? ⟨w.heap.size+1+1,1,none⟩=false:=(hf _ _ (by simp<;>omega)).trans (by simp[go_sem])
  have c0:w1.cell? ⟨w.heap.size+1+1,0,none⟩=some (.int .i64 0):=(hc _ _ (by simp<;>omega)).trans (by simp[go_sem])
  have c1:w1.cell? ⟨w.heap.size+1+1,1,none⟩=some (.int .i64 0):=(hc _ _ (by simp<;>omega)).trans (by simp[go_sem])
  clear hb hc hf
  go_wp2
  refine bodyPost_ret (by simp[results,Tryz.results90,go_sem,c0,c1];first|done|rfl) rfl ?_
  exact zBk rfl (zAD HB1.out (by omega) _ _)
theorem pcalc20_c (w:World) (p q p' q':Int):Calls Tryz.prog 90 #[.int .i64 20,.agg #[p,q],.agg #[p',q']] w (NumPost w (negN (p,q))):=by
 all_goals
  go_enter Tryz.func90,Tryz.ntmps90
  go_wp2_with fail
  refine(rneg_c _ _ _).mono ?_
  rintro e w1 ⟨rfl,hb⟩
  have hz:=hb.size
  simp at hz
  obtain⟨hc,hf⟩:=bcell hb
  have HB1:=hbn (zAL _ _ _ _) hb
  have f0:w1.frozen? ⟨w.heap.size+1+1,0,none⟩=false:=(hf _ _ (by simp<;>omega)).trans (by simp[go_sem])
  have f1:w1.frozen? ⟨w.heap.size+1+1,1,none⟩=false:=(hf _ _ (by simp<;>omega)).trans (by simp[go_sem])
  have c0:w1.cell? ⟨w.heap.size+1+1,0,none⟩=some (.int .i64 0):=(hc _ _ (by simp<;>omega)).trans (by simp[go_sem])
  have c1:w1.cell? ⟨w.heap.size+1+1,1,none⟩=some (.int .i64 0):=(hc _ _ (by simp<;>omega)).trans (by simp[go_sem])
  clear hb hc hf
  go_wp2
  refine bodyPost_ret (by simp[results,Tryz.results90,go_sem,c0,c1];first|done|rfl) rfl ?_
  exact zBk rfl (zAD HB1.out (by omega) _ _)
theorem pcalcBits_c (w:World) (o:Int) (p q p' q':Int) (h1:(o==1)=false) (h2:(o==2)=false) (h3:(o==3)=false) (h4:(o==4)=false) (h5:(o==5)=false) (h6:(o==6)=false) (h7:(o==7)=false) (h20:(o==20)=false):Calls Tryz.prog 90 #[o,.agg #[p,q],.agg #[p',q']] w (NumPost w (bitsN o (p,q) (p',q'))):=by
 all_goals
  go_enter Tryz.func90,Tryz.ntmps90
  go_wp2_with fail
  refine(rBits_c _ _ _ _ _ _).mono ?_
  rintro e w1 ⟨rfl,hb⟩
  have hz:=hb.size
  simp at hz
  obtain⟨hc,hf⟩:=bcell hb
  have HB1:=hbn (zAL _ _ _ _) hb
  have f0:w1.frozen? ⟨w.heap.size+1+1,0,none⟩=false:=(hf _ _ (by simp<;>omega)).trans (by simp[go_sem])
  have f1:w1.frozen? ⟨w.heap.size+1+1,1,none⟩=false:=(hf _ _ (by simp<;>omega)).trans (by simp[go_sem])
  have c0:w1.cell? ⟨w.heap.size+1+1,0,none⟩=some (.int .i64 0):=(hc _ _ (by simp<;>omega)).trans (by simp[go_sem])
  have c1:w1.cell? ⟨w.heap.size+1+1,1,none⟩=some (.int .i64 0):=(hc _ _ (by simp<;>omega)).trans (by simp[go_sem])
  clear hb hc hf
  go_wp2
  refine bodyPost_ret (by simp[results,Tryz.results90,go_sem,c0,c1];first|done|rfl) rfl ?_
  exact zBk rfl (zAD HB1.out (by omega) _ _)
theorem pcalc7_c (w:World) (p q p' q':Int):Calls Tryz.prog 90 #[.int .i64 7,.agg #[p,q],.agg #[p',q']] w (NumPost w (powFix (powN (p,q) (p',q')))):=by
 obtain⟨M,hM⟩:∃M,M=powN (p,q) (p',q'):=⟨_,rfl⟩
 rw[←hM]
 have HM:=Lib.hid (fun W=>(hM▸rpow_c W p q p' q':Calls Tryz.prog 151 #[.agg #[p,q],.agg #[p',q']] W (NumPost W M)))
 clear hM
 rcases pow_ways M with⟨hR,hE⟩|⟨hR,hE⟩
 all_goals
  have HR:=Lib.hid hR
  clear hR
  go_enter Tryz.func90,Tryz.ntmps90
  go_wp2_with fail
  refine(HM.out _).mono ?_
  rintro e w2 ⟨rfl,hb⟩
  have hz:=hb.size
  simp at hz
  obtain⟨hc,hf⟩:=bcell hb
  have c0:∀x y,(w2.alloc (.cells #[x,y] 23)).cell? ⟨w.heap.size+1+1,0,none⟩=some (.int .i64 0):=fun x y=>(zAG (by omega)).trans ((hc _ _ (by simp<;>omega)).trans (by simp[go_sem]))
  have c1:∀x y,(w2.alloc (.cells #[x,y] 23)).cell? ⟨w.heap.size+1+1,1,none⟩=some (.int .i64 0):=fun x y=>(zAG (by omega)).trans ((hc _ _ (by simp<;>omega)).trans (by simp[go_sem]))
  have f0:∀x y,(w2.alloc (.cells #[x,y] 23)).frozen? ⟨w.heap.size+1+1,0,none⟩=false:=fun x y=>(zAJ (by omega)).trans ((hf _ _ (by simp<;>omega)).trans (by simp[go_sem]))
  have f1:∀x y,(w2.alloc (.cells #[x,y] 23)).frozen? ⟨w.heap.size+1+1,1,none⟩=false:=fun x y=>(zAJ (by omega)).trans ((hf _ _ (by simp<;>omega)).trans (by simp[go_sem]))
  have HB2:=fun x y=>Lib.hid ((zAC (zAL _ _ _ _) hb).alloc (by omega) (.cells #[x,y] 23))
  clear hb hc hf
  go_wp2
  refine bodyPost_ret (by simp[results,Tryz.results90,go_sem,c0,c1];first|done|rfl) rfl ?_
 ·have hR:=HR.out
  rw[hR]
  exact zAV rfl (zAD (HB2 _ _).out (by omega) _ _)
 ·exact zBk HR.out (zAD (HB2 _ _).out (by omega) _ _)
theorem pcalc_c (w:World) (o p q p' q':Int):Calls Tryz.prog 90 #[o,.agg #[p,q],.agg #[p',q']] w (NumPost w (arithN o (p,q) (p',q'))):=by
 unfold arithN
 have tf:∀a:Int,o≠a→(o==a)=false:=fun a h=>by rw[beq_eq_false_iff_ne];exact h
 by_cases h1:o=1
 ·subst h1;exact pcalc1_c w p q p' q'
 rw[if_neg h1]
 by_cases h2:o=2
 ·subst h2;exact pcalc2_c w p q p' q'
 rw[if_neg h2]
 by_cases h3:o=3
 ·subst h3;exact pcalc3_c w p q p' q'
 rw[if_neg h3]
 by_cases h4:o=4
 ·subst h4;exact pcalc4_c w p q p' q'
 rw[if_neg h4]
 by_cases h5:o=5
 ·subst h5;exact pcalc5_c w p q p' q'
 rw[if_neg h5]
 by_cases h6:o=6
 ·subst h6;exact pcalc6_c w p q p' q'
 rw[if_neg h6]
 by_cases h7:o=7
 ·subst h7;exact pcalc7_c w p q p' q'
 rw[if_neg h7]
 by_cases h20:o=20
 ·subst h20;exact pcalc20_c w p q p' q'
 rw[if_neg h20]
 exact pcalcBits_c w o p q p' q' (tf _ h1) (tf _ h2) (tf _ h3) (tf _ h4) (tf _ h5) (tf _ h6) (tf _ h7) (tf _ h20)
theorem valid_all {v:V} (h:zAi v=true) (W:World):Calls Tryz.prog 36 #[v.v] W (BoolPost W true):=by
 obtain⟨k,p,q,s,r⟩:=v
 have:=pvalidV_c W k p q s r
 rw[h] at this
 exact this
theorem pomSet_c (w:World) (m g:Nat) (sv:Value) (L:List Sl) (hO:OMap w m g sv L) (hL:L.length≤1000) (k v:V) (hk:WfV k) (hv:WfV v) (hkv:zAi k=true) (hvv:zAi v=true) (hk0:k.k≠0):
  Calls Tryz.prog 173 #[.pointer (some ⟨m,0,none⟩),k.v,v.v] w (OmPost w m g sv (setM L k v)):=by
 have hvk:=valid_all hkv
 have hvv':=valid_all hvv
 obtain⟨hm,hrow,hwf,E,f,hE,hG,hI⟩:=id hO
 obtain⟨so,cap,rfl⟩:=slice_shape0 hrow
 obtain⟨k1,p1,q1,s1,r1⟩:=k
 obtain⟨k2,p2,q2,s2,r2⟩:=v
 have hk0':(k1==0)=false:=beq_eq_false_iff_ne.2 hk0
 rcases look_ways hE hG hk with⟨hf,hlk⟩|⟨n,hf,hlk⟩
 ·rw[hI.set_none (.inl hf)]
  by_cases hv0:k2=0
  ·rw[if_pos hv0]
   exact(pomSet_none w m g cap so L E f hm hrow hL hE hG k1 p1 q1 s1 r1 k2 p2 q2 s2 r2 hk hvk hvv' hk0' hI (beq_iff_eq.2 hv0) hlk).mono fun e w' h=>om_same hO h.1 h.2
  ·rw[if_neg hv0]
   unfold roomM
   by_cases hr:liveN L+8<L.length-liveN L
   ·rw[if_pos hr]
    obtain⟨rb,cap',he⟩:=zAl hrow (by omega)
    injection he with he1 he2 he3
    subst he1
    exact pomSet_push_drop w m g cap rb L E f hm hrow hL hE hG hr k1 p1 q1 s1 r1 k2 p2 q2 s2 r2 hk hvk hvv' hk0' hI (.inl hf) hwf hv (beq_eq_false_iff_ne.2 hv0) hlk
   ·rw[if_neg hr]
    exact pomSet_push w m g cap so L E f hm hrow hL hE hG hr k1 p1 q1 s1 r1 k2 p2 q2 s2 r2 hk hvk hvv' hk0' hI (.inl hf) hwf hv (beq_eq_false_iff_ne.2 hv0) hlk
 ·obtain⟨sl,hsl,hsk⟩:=hI.key _ _ hf
  have hn:n<L.length:=(List.getElem?_eq_some_iff.1 hsl).1
  obtain⟨rb,cap',he⟩:=zAl hrow (by omega)
  injection he with he1 he2 he3
  subst he1
  have hgl:=hE.lt
  cases hg:sl.g with
  |false=>
   rw[hI.set_some hf hsl hg]
   by_cases hv0:k2=0
   ·rw[if_pos hv0]
    exact(pomSet_remove w m g rb cap n L hm hrow hL hgl k1 p1 q1 s1 r1 k2 p2 q2 s2 r2 sl hsl hlk hvk hvv' hk0' (beq_iff_eq.2 hv0) hg (liveN_set L n sl sl hsl hg).2).mono (by
     rintro e w' ⟨rfl,w2,hb,rfl⟩
     exact om_remove hm hrow hwf hE hG hI hf hsl hg hk hb)
   ·rw[if_neg hv0]
    exact(pomSet_write w m g rb cap n L hm hrow hL hgl k1 p1 q1 s1 r1 k2 p2 q2 s2 r2 sl hsl hlk hvk hvv' hk0' (beq_eq_false_iff_ne.2 hv0) hg).mono (by
     rintro e w' ⟨rfl,w2,hb,rfl⟩
     exact om_write hm hrow hwf hE hG hI hf hsl hg hk hv hb)
  |true=>
   have hno:NoLive L f ⟨k1,p1,q1,s1,r1⟩:= .inr ⟨n,sl,hf,hsl,hg⟩
   rw[hI.set_none hno]
   by_cases hv0:k2=0
   ·rw[if_pos hv0]
    exact(pomSet_gone w m g rb cap n L hm hrow hL hgl k1 p1 q1 s1 r1 k2 p2 q2 s2 r2 sl hsl hlk hvk hvv' hk0' (beq_iff_eq.2 hv0) hg).mono fun e w' h=>om_same hO h.1 h.2
   ·rw[if_neg hv0]
    unfold roomM
    by_cases hr:liveN L+8<L.length-liveN L
    ·rw[if_pos hr]
     exact pomSet_push_gone_drop w m g cap rb L E f hm hrow hL hE hG hr k1 p1 q1 s1 r1 k2 p2 q2 s2 r2 hk hvk hvv' hk0' hI hno hwf hv (beq_eq_false_iff_ne.2 hv0) n sl hsl hg hlk
    ·rw[if_neg hr]
     exact pomSet_push_gone w m g cap rb L E f hm hrow hL hE hG hr k1 p1 q1 s1 r1 k2 p2 q2 s2 r2 hk hvk hvv' hk0' hI hno hwf hv (beq_eq_false_iff_ne.2 hv0) n sl hsl hg hlk
theorem ptabGet_c (w:World) (t m g:Nat) (sv:Value) (L:List Sl) (hT:TabAt w t m g sv L) (hL:L.length≤1000) (s:ByteArray) (hs:s.size≤4096):
  Calls Tryz.prog 86 #[.pointer (some ⟨t,0,none⟩),(strV s).v] w (ValPost w (getM L (strV s))):=by
 obtain⟨ht,hO⟩:=hT
 have hv:=valid_all (valid_str hs)
 have HV:=Lib.hid (fun W=>(hv W:Calls Tryz.prog 36 #[.agg #[.int .i64 3,.int .i64 0,.int .i64 0,s,.int .i64 0]] W (BoolPost W true)))
 have HI:=Lib.hid (fun W=>(ptint_c W s:Calls Tryz.prog 141 #[.agg #[.int .i64 3,.int .i64 0,.int .i64 0,s,.int .i64 0]] W (IntBool W 0 false)))
 have HT:=Lib.hid ht
 have HO:=Lib.hid hO
 have hlt:t<w.heap.size:=(Array.getElem?_eq_some_iff.1 ht).1
 have hws:=wf_str hs
 obtain⟨R,hR⟩:∃R,R=getM L (strV s):=⟨_,rfl⟩
 rw[←hR]
 have hget:∀W,OMap W m g sv L→Calls Tryz.prog 142 #[.pointer (some ⟨m,0,none⟩),.agg #[.int .i64 3,.int .i64 0,.int .i64 0,s,.int .i64 0]] W (ValPost W R):=fun W h=>by rw[hR];exact pomGet_c W m g sv L h hL 3 0 0 s 0 hws
 have HG:=Lib.hid hget
 clear ht hO hv hR hget
 show Calls Tryz.prog 86 #[.pointer (some ⟨t,0,none⟩),.agg #[.int .i64 3,.int .i64 0,.int .i64 0,s,.int .i64 0]] w _
 go_enter Tryz.func86,Tryz.ntmps86
 go_wp2_with fail
 refine(HV.out _).mono ?_
 rintro e w1 ⟨rfl,hb⟩
 have Ha1:=hkh hb (zAf _ _ _)
 have Hb1:=hkh hb (zAW _ _ _)
 have Ht1:=hkh hb (zAp HT.out _ _)
 have HW1:=hbn (zAF _ _ _) hb
 have hz1:=hb.size
 try simp at hz1
 clear hb
 have hya:w.heap.size<w1.heap.size:=hsz Ha1
 obtain⟨a0,a1,a2,a3,a4⟩:=cells5 Ha1.out
 go_wp2_with fail
 refine(HI.out _).mono ?_
 rintro e w2 ⟨rfl,hb⟩
 have Ha2:=hkh hb Ha1.out
 have Hb2:=hkh hb Hb1.out
 have Ht2:=hkh hb Ht1.out
 have HW2:=hbn HW1.out hb
 have hz2:=hb.size
 try simp at hz2
 clear hb
 clear hya a0 a1 a2 a3 a4
 have hya:w.heap.size<w2.heap.size:=hsz Ha2
 obtain⟨a0,a1,a2,a3,a4⟩:=cells5 Ha2.out
 have hyb:w.heap.size+1<w2.heap.size:=hsz Hb2
 obtain⟨b0,b1,b2,b3,b4⟩:=cells5 Hb2.out
 obtain⟨fb0,fb1,fb2,fb3,fb4⟩:=froz5 Hb2.out
 have hyt:t<w2.heap.size:=hsz Ht2
 have t0:w2.cell? ⟨t,0,none⟩=some (.slice none 0 0):=by rw[zAA Ht2.out];rfl
 have t1:w2.cell? ⟨t,1,none⟩=some (.pointer (some ⟨m,0,none⟩)):=by rw[zAA Ht2.out];rfl
 go_wp2
 refine zAK mixed (by kernel_rfl) ?_
 go_wp2_with fail
 refine(HG.out _ (zCK HO.out HW2.out.drew)).mono ?_
 rintro e w3 ⟨rfl,hb⟩
 have Ha3:=hkh hb Ha2.out
 have Hb3:=hkh hb Hb2.out
 have Ht3:=hkh hb Ht2.out
 have HW3:=hbn HW2.out.drew hb
 have hz3:=hb.size
 try simp at hz3
 clear hb
 clear hya a0 a1 a2 a3 a4 hyb b0 fb0 b1 fb1 b2 fb2 b3 fb3 b4 fb4 hyt t0 t1
 have hyb:w.heap.size+1<w3.heap.size:=hsz Hb3
 obtain⟨b0,b1,b2,b3,b4⟩:=cells5 Hb3.out
 obtain⟨fb0,fb1,fb2,fb3,fb4⟩:=froz5 Hb3.out
 go_wp2
 refine⟨by kernel_rfl,?_⟩
 go_wp2
 refine bodyPost_ret (by simp[results,Tryz.results86,go_sem,hyb,b0,b1,b2,b3,b4];first|done|rfl) rfl ?_
 exact zAo rfl (zAH HW3.out (by simp<;>omega) _ _ _ _ _)
theorem ptabSet_c (w:World) (t m g:Nat) (sv:Value) (L:List Sl) (hT:TabAt w t m g sv L) (hL:L.length≤1000) (s:ByteArray) (hs:s.size≤4096) (k2 p2 q2:Int) (s2:ByteArray) (r2:Int) (hv:zAi ⟨k2,p2,q2,s2,r2⟩=true) (hw2:WfV ⟨k2,p2,q2,s2,r2⟩):
  Calls Tryz.prog 116 #[.pointer (some ⟨t,0,none⟩),(strV s).v,.agg #[k2,p2,q2,s2,r2]] w (TabPost w t m g sv (setM L (strV s) ⟨k2,p2,q2,s2,r2⟩)):=by
 have hsep:=tab_sep hT
 have HT0:=Lib.hid hT
 obtain⟨ht,hO⟩:=hT
 have hvk:=valid_all (valid_str hs)
 have hvv:=valid_all hv
 have HV:=Lib.hid (fun W=>(hvk W:Calls Tryz.prog 36 #[.agg #[.int .i64 3,.int .i64 0,.int .i64 0,s,.int .i64 0]] W (BoolPost W true)))
 have HVV:=Lib.hid (fun W=>(hvv W:Calls Tryz.prog 36 #[.agg #[k2,p2,q2,s2,r2]] W (BoolPost W true)))
 have HI:=Lib.hid (fun W=>(ptint_c W s:Calls Tryz.prog 141 #[.agg #[.int .i64 3,.int .i64 0,.int .i64 0,s,.int .i64 0]] W (IntBool W 0 false)))
 have hset:∀W,OMap W m g sv L→Calls Tryz.prog 173 #[.pointer (some ⟨m,0,none⟩),.agg #[.int .i64 3,.int .i64 0,.int .i64 0,s,.int .i64 0],.agg #[k2,p2,q2,s2,r2]] W (OmPost W m g sv (setM L (strV s) ⟨k2,p2,q2,s2,r2⟩)):=fun W h=>pomSet_c W m g sv L h hL (strV s) ⟨k2,p2,q2,s2,r2⟩ (wf_str hs) hw2 (valid_str hs) hv (by show(3:Int)≠0;decide)
 obtain⟨R,hR⟩:∃R,R=setM L (strV s) ⟨k2,p2,q2,s2,r2⟩:=⟨_,rfl⟩
 rw[←hR] at hset ⊢
 have HS:=Lib.hid hset
 have HT:=Lib.hid ht
 have HO:=Lib.hid hO
 have hlt:t<w.heap.size:=(Array.getElem?_eq_some_iff.1 ht).1
 have HSEP:=Lib.hid hsep
 clear ht hO hvk hvv hR hset hv hw2 hsep
 show Calls Tryz.prog 116 #[.pointer (some ⟨t,0,none⟩),.agg #[.int .i64 3,.int .i64 0,.int .i64 0,s,.int .i64 0],.agg #[k2,p2,q2,s2,r2]] w _
 go_enter Tryz.func116,Tryz.ntmps116
 go_wp2_with fail
 refine(HV.out _).mono ?_
 rintro e w1 ⟨rfl,hb⟩
 have Ha1:=hkh hb (zAf _ _ _)
 have Hb1:=hkh hb (zAW _ _ _)
 have Ht1:=hkh hb (zAp HT.out _ _)
 have HW1:=hbn (zAF _ _ _) hb
 have hz1:=hb.size
 try simp at hz1
 clear hb
 have hya:w.heap.size<w1.heap.size:=hsz Ha1
 obtain⟨a0,a1,a2,a3,a4⟩:=cells5 Ha1.out
 have hyb:w.heap.size+1<w1.heap.size:=hsz Hb1
 obtain⟨b0,b1,b2,b3,b4⟩:=cells5 Hb1.out
 have hyt:t<w1.heap.size:=hsz Ht1
 have t0:w1.cell? ⟨t,0,none⟩=some (.slice none 0 0):=by rw[zAA Ht1.out];rfl
 have t1:w1.cell? ⟨t,1,none⟩=some (.pointer (some ⟨m,0,none⟩)):=by rw[zAA Ht1.out];rfl
 go_wp2_with fail
 refine(HVV.out _).mono ?_
 rintro e w2 ⟨rfl,hb⟩
 have Ha2:=hkh hb Ha1.out
 have Hb2:=hkh hb Hb1.out
 have Ht2:=hkh hb Ht1.out
 have HW2:=hbn HW1.out hb
 have hz2:=hb.size
 try simp at hz2
 clear hb
 clear hya a0 a1 a2 a3 a4 hyb b0 b1 b2 b3 b4 hyt t0 t1
 have hya:w.heap.size<w2.heap.size:=hsz Ha2
 obtain⟨a0,a1,a2,a3,a4⟩:=cells5 Ha2.out
 have hyb:w.heap.size+1<w2.heap.size:=hsz Hb2
 obtain⟨b0,b1,b2,b3,b4⟩:=cells5 Hb2.out
 have hyt:t<w2.heap.size:=hsz Ht2
 have t0:w2.cell? ⟨t,0,none⟩=some (.slice none 0 0):=by rw[zAA Ht2.out];rfl
 have t1:w2.cell? ⟨t,1,none⟩=some (.pointer (some ⟨m,0,none⟩)):=by rw[zAA Ht2.out];rfl
 go_wp2_with fail
 refine(HI.out _).mono ?_
 rintro e w3 ⟨rfl,hb⟩
 have Ha3:=hkh hb Ha2.out
 have Hb3:=hkh hb Hb2.out
 have Ht3:=hkh hb Ht2.out
 have HW3:=hbn HW2.out hb
 have hz3:=hb.size
 try simp at hz3
 clear hb
 clear hya a0 a1 a2 a3 a4 hyb b0 b1 b2 b3 b4 hyt t0 t1
 have hya:w.heap.size<w3.heap.size:=hsz Ha3
 obtain⟨a0,a1,a2,a3,a4⟩:=cells5 Ha3.out
 have hyb:w.heap.size+1<w3.heap.size:=hsz Hb3
 obtain⟨b0,b1,b2,b3,b4⟩:=cells5 Hb3.out
 have hyt:t<w3.heap.size:=hsz Ht3
 have t0:w3.cell? ⟨t,0,none⟩=some (.slice none 0 0):=by rw[zAA Ht3.out];rfl
 have t1:w3.cell? ⟨t,1,none⟩=some (.pointer (some ⟨m,0,none⟩)):=by rw[zAA Ht3.out];rfl
 go_wp2
 refine zAK mixed (by kernel_rfl) ?_
 go_wp2_with fail
 refine(HS.out _ (zCK HO.out HW3.out.drew)).mono ?_
 rintro e w4 ⟨rfl,sv',hO4,hM4,hown4⟩
 have HX:=Lib.hid (And.intro hO4 (And.intro hM4 hown4))
 clear hO4 hM4 hown4
 go_wp2
 refine⟨by kernel_rfl,?_⟩
 go_wp2
 go_ret
 obtain⟨hO4,hM4,hown4⟩:=HX.out
 have hb:Below w.heap.size w w3.drew:=HW3.out.drew
 have hM:Mods (OmF m g sv) w w4:=(Mods.of_below hb).trans hM4
 refine⟨rfl,sv',⟨(hM.block t hlt HSEP.out).trans HT.out,hO4⟩,hM,fun b hb=> ?_⟩
 rcases hown4 b hb with h|h
 ·exact .inl h
 ·exact .inr (Nat.le_trans HW3.out.size h)
theorem pomNew_c (w:World):Calls Tryz.prog 168 #[] w (fun e w'=>e= .returned (.pointer (some ⟨w.heap.size+1,0,none⟩))∧OMap w' (w.heap.size+1) w.heap.size (.slice none 0 0) []∧Below w.heap.size w w'):=by
 have hmm:= @run_makeMap Tryz.prog
 go_enter Tryz.func168,Tryz.ntmps168
 go_wp2
 go_ret
 refine⟨by first|rfl|simp,⟨?_,World.ownsRow_nil _ _ _ _,fun s h=>(by cases h),[],fun _=>none,(mapAt_new 25 w).keep (Below.heap_alloc _ _ _ (by simp)),fun p=>⟨fun h=>(by cases h),fun⟨v,n,_,h⟩=>(by cases h)⟩,idx_nil⟩,zAF _ _ _⟩
 exact zAW _ _ _
theorem ptabNew_c (w:World):Calls Tryz.prog 109 #[] w (fun e w'=>e= .returned (.pointer (some ⟨w'.heap.size-1,0,none⟩))∧(∃m g,TabAt w' (w'.heap.size-1) m g (.slice none 0 0) []∧w.heap.size≤m∧w.heap.size≤g∧w.heap.size≤w'.heap.size-1)∧Below w.heap.size w w'):=by
 go_enter Tryz.func109,Tryz.ntmps109
 go_wp2_with fail
 refine(pomNew_c _).mono ?_
 rintro e w1 ⟨rfl,hO,hb⟩
 have HO:=Lib.hid hO
 have HB:=Lib.hid hb
 have hz:=hb.size
 clear hO hb
 go_wp2
 go_ret
 have hb2:Below w1.heap.size w1 (w1.alloc (.cells #[.slice none 0 0,.pointer (some ⟨w.heap.size+1,0,none⟩)] 136)):=(Below.refl _ _).alloc (Nat.le_refl _) _
 refine⟨by simp,⟨_,_,⟨?_,zCK HO.out hb2⟩,by omega,by omega,by simp;omega⟩,zAC HB.out hb2⟩
 have:=zAg w1 (.cells #[.slice none 0 0,.pointer (some ⟨w.heap.size+1,0,none⟩)] 136)
 simpa using this
theorem phfind_none (w:World) (h bo bt:Nat) (H:List PO) (hH:HpAt w h bo bt H) (k1 p1 q1:Int) (s1:ByteArray) (r1:Int) (hr:i64 r1) (ho:objAt H r1=none):
  Calls Tryz.prog 87 #[.pointer (some ⟨h,0,none⟩),.agg #[k1,p1,q1,s1,r1]] w (PtrPost w (.pointer none)):=by
 have hlt:h<w.heap.size:=(Array.getElem?_eq_some_iff.1 hH.hh).1
 have hbo:bo<w.heap.size:=hH.objs.lt
 have hlk:=fun W (hW:W.heap[bo]? =w.heap[bo]?)=>obj_look hH.objs hr W hW
 rw[ho] at hlk
 have HLK:=Lib.hid hlk
 have HH:=Lib.hid hH.hh
 have h0:(w.alloc (oV k1 p1 q1 s1 r1)).cell? ⟨h,0,none⟩=some (.map (some bo)):=by rw[zAA (zAI HH.out _)];rfl
 have h1:(w.alloc (oV k1 p1 q1 s1 r1)).cell? ⟨h,1,none⟩=some (.int .i64 (H.length:Nat)):=by rw[zAA (zAI HH.out _)];rfl
 have h2:(w.alloc (oV k1 p1 q1 s1 r1)).cell? ⟨h,2,none⟩=some (.map (some bt)):=by rw[zAA (zAI HH.out _)];rfl
 clear hH hlk ho hr
 go_enter Tryz.func87,Tryz.ntmps87
 go_wp2
 refine zAK mixed (by kernel_rfl) ?_
 go_wp2_with (at_lookup;refine zAr _ rfl _ _ _ _ rfl _ _ _ rfl rfl (HLK.out _ (Below.heap_alloc w _ bo (by omega))) ?_)
 refine⟨by kernel_rfl,?_⟩
 dsimp only[ptrO]
 go_wp2
 go_quiet (fail)
 go_wp2
 go_ret
 exact⟨rfl,below_drewN (zAm _ _).drew _⟩
theorem phfind_hit (w:World) (h bo bt:Nat) (H:List PO) (hH:HpAt w h bo bt H) (k1 p1 q1:Int) (s1:ByteArray) (r1:Int) (hr:i64 r1) (x:PO) (ho:objAt H r1=some x) (hk:x.kind=k1):
  Calls Tryz.prog 87 #[.pointer (some ⟨h,0,none⟩),.agg #[k1,p1,q1,s1,r1]] w (PtrPost w (.pointer (some ⟨x.o,0,none⟩))):=by
 have hlt:h<w.heap.size:=(Array.getElem?_eq_some_iff.1 hH.hh).1
 have hbo:bo<w.heap.size:=hH.objs.lt
 have hlk:=fun W (hW:W.heap[bo]? =w.heap[bo]?)=>obj_look hH.objs hr W hW
 rw[ho] at hlk
 have HLK:=Lib.hid hlk
 have HH:=Lib.hid hH.hh
 have hx:=hH.one x (objAt_mem ho)
 have hxl:x.o<w.heap.size:=(Array.getElem?_eq_some_iff.1 hx.ho).1
 have x0:(w.alloc (oV k1 p1 q1 s1 r1)).cell? ⟨x.o,0,none⟩=some (.int .i64 x.kind):=by rw[zAA (zAI hx.ho _)];rfl
 rw[hk] at x0
 clear hx
 have h0:(w.alloc (oV k1 p1 q1 s1 r1)).cell? ⟨h,0,none⟩=some (.map (some bo)):=by rw[zAA (zAI HH.out _)];rfl
 have h1:(w.alloc (oV k1 p1 q1 s1 r1)).cell? ⟨h,1,none⟩=some (.int .i64 (H.length:Nat)):=by rw[zAA (zAI HH.out _)];rfl
 have h2:(w.alloc (oV k1 p1 q1 s1 r1)).cell? ⟨h,2,none⟩=some (.map (some bt)):=by rw[zAA (zAI HH.out _)];rfl
 clear hH hlk ho hr hk
 go_enter Tryz.func87,Tryz.ntmps87
 go_wp2
 refine zAK mixed (by kernel_rfl) ?_
 go_wp2_with (at_lookup;refine zAr _ rfl _ _ _ _ rfl _ _ _ rfl rfl (HLK.out _ (Below.heap_alloc w _ bo (by omega))) ?_)
 refine⟨by kernel_rfl,?_⟩
 dsimp only[ptrO]
 go_wp2
 go_quiet (fail)
 go_wp2
 go_ret
 exact⟨rfl,below_drewN (zAm _ _).drew _⟩
theorem phfind_miss (w:World) (h bo bt:Nat) (H:List PO) (hH:HpAt w h bo bt H) (k1 p1 q1:Int) (s1:ByteArray) (r1:Int) (hr:i64 r1) (x:PO) (ho:objAt H r1=some x) (hk:x.kind≠k1):
  Calls Tryz.prog 87 #[.pointer (some ⟨h,0,none⟩),.agg #[k1,p1,q1,s1,r1]] w (PtrPost w (.pointer none)):=by
 have hlt:h<w.heap.size:=(Array.getElem?_eq_some_iff.1 hH.hh).1
 have hbo:bo<w.heap.size:=hH.objs.lt
 have hlk:=fun W (hW:W.heap[bo]? =w.heap[bo]?)=>obj_look hH.objs hr W hW
 rw[ho] at hlk
 have HLK:=Lib.hid hlk
 have HH:=Lib.hid hH.hh
 have hx:=hH.one x (objAt_mem ho)
 have hxl:x.o<w.heap.size:=(Array.getElem?_eq_some_iff.1 hx.ho).1
 have x0:(w.alloc (oV k1 p1 q1 s1 r1)).cell? ⟨x.o,0,none⟩=some (.int .i64 x.kind):=by rw[zAA (zAI hx.ho _)];rfl
 have tk:(x.kind !=k1)=true:=by rw[bne_iff_ne];exact hk
 clear hx
 have h0:(w.alloc (oV k1 p1 q1 s1 r1)).cell? ⟨h,0,none⟩=some (.map (some bo)):=by rw[zAA (zAI HH.out _)];rfl
 have h1:(w.alloc (oV k1 p1 q1 s1 r1)).cell? ⟨h,1,none⟩=some (.int .i64 (H.length:Nat)):=by rw[zAA (zAI HH.out _)];rfl
 have h2:(w.alloc (oV k1 p1 q1 s1 r1)).cell? ⟨h,2,none⟩=some (.map (some bt)):=by rw[zAA (zAI HH.out _)];rfl
 clear hH hlk ho hr hk
 go_enter Tryz.func87,Tryz.ntmps87
 go_wp2
 refine zAK mixed (by kernel_rfl) ?_
 go_wp2_with (at_lookup;refine zAr _ rfl _ _ _ _ rfl _ _ _ rfl rfl (HLK.out _ (Below.heap_alloc w _ bo (by omega))) ?_)
 refine⟨by kernel_rfl,?_⟩
 dsimp only[ptrO]
 go_wp2
 go_quiet (fail)
 go_wp2
 go_ret
 exact⟨rfl,below_drewN (zAm _ _).drew _⟩
theorem phfind_c (w:World) (h bo bt:Nat) (H:List PO) (hH:HpAt w h bo bt H) (k1 p1 q1:Int) (s1:ByteArray) (r1:Int) (hr:i64 r1):Calls Tryz.prog 87 #[.pointer (some ⟨h,0,none⟩),.agg #[k1,p1,q1,s1,r1]] w (PtrPost w (ptrO (findP H ⟨k1,p1,q1,s1,r1⟩))):=by
 cases ho:objAt H r1 with
 |none=>rw[findP_none ho];exact phfind_none w h bo bt H hH k1 p1 q1 s1 r1 hr ho
 |some x=>
  rw[findP_some ho]
  by_cases hk:x.kind=k1
  ·rw[if_pos hk];exact phfind_hit w h bo bt H hH k1 p1 q1 s1 r1 hr x ho hk
  ·rw[if_neg hk];exact phfind_miss w h bo bt H hH k1 p1 q1 s1 r1 hr x ho hk
theorem ptab_c (w:World) (h bo bt:Nat) (H:List PO) (hH:HpAt w h bo bt H) (k1 p1 q1:Int) (s1:ByteArray) (r1:Int) (hr:i64 r1):Calls Tryz.prog 84 #[.pointer (some ⟨h,0,none⟩),.agg #[k1,p1,q1,s1,r1]] w (PtrPost w (tabO (findP H ⟨k1,p1,q1,s1,r1⟩))):=by
 have hfi:=fun W (hb:Below w.heap.size w W)=>phfind_c W h bo bt H (hH.below hb) k1 p1 q1 s1 r1 hr
 cases hf:findP H ⟨k1,p1,q1,s1,r1⟩ with
 |none=>
  rw[hf] at hfi
  have HFI:=Lib.hid hfi
  clear hfi hH hf
  go_enter Tryz.func84,Tryz.ntmps84
  go_wp2_with fail
  refine(HFI.out _ (zAm _ _)).mono ?_
  rintro e w1 ⟨rfl,hb⟩
  have HW1:=hbn (zAm _ _) hb
  clear hb
  dsimp only[ptrO]
  go_wp2
  go_ret
  exact⟨rfl,HW1.out⟩
 |some x=>
  rw[hf] at hfi
  obtain⟨i,hi,hk,hri,hxm⟩:=find_at hf
  have hx:=(hH.one x hxm).ho
  have HX:=Lib.hid hx
  have HFI:=Lib.hid hfi
  clear hfi hH hf hi hk hri hxm hx
  go_enter Tryz.func84,Tryz.ntmps84
  go_wp2_with fail
  refine(HFI.out _ (zAm _ _)).mono ?_
  rintro e w1 ⟨rfl,hb⟩
  have HW1:=hbn (zAm _ _) hb
  have x3:w1.cell? ⟨x.o,3,none⟩=some x.tabv:=by rw[zAA (hkeep HW1.out HX.out)];rfl
  clear hb
  dsimp only[ptrO]
  go_wp2
  go_ret
  exact⟨rfl,HW1.out⟩
theorem pmissing_c (w:World) (h:Nat):Calls Tryz.prog 85 #[.pointer (some ⟨h,0,none⟩)] w (fun e w'=>e= .returned (.int .i64 8)∧w'=w):=by
 go_enter Tryz.func85,Tryz.ntmps85
 go_wp2
 go_ret
 exact⟨rfl,rfl⟩
theorem pGet_none (w:World) (h:Nat) (k1 p1 q1:Int) (s1:ByteArray) (r1:Int) (s:ByteArray) (T:∀W,Below w.heap.size w W→Calls Tryz.prog 84 #[.pointer (some ⟨h,0,none⟩),.agg #[k1,p1,q1,s1,r1]] W (PtrPost W (.pointer none))):
  Calls Tryz.prog 32 #[.pointer (some ⟨h,0,none⟩),.agg #[k1,p1,q1,s1,r1],.agg #[.int .i64 3,.int .i64 0,.int .i64 0,s,.int .i64 0]] w (VrPost w (.error 8)):=by
 have HT:=Lib.hid T
 clear T
 go_enter Tryz.func32,Tryz.ntmps32
 go_wp2_with fail
 refine(HT.out _ ((zAF _ _ _).alloc (by simp;omega) _)).mono ?_
 rintro e w1 ⟨rfl,hb⟩
 have Hc1:=hkh hb (zAX _ _ _ _)
 have HW1:=hbn (((zAF _ _ _).alloc (by simp;omega) _)) hb
 have hz1:=hb.size
 try simp at hz1
 clear hb
 have hyc:w.heap.size+1+1<w1.heap.size:=hsz Hc1
 obtain⟨c0,c1,c2,c3,c4⟩:=cells5 Hc1.out
 obtain⟨fc0,fc1,fc2,fc3,fc4⟩:=froz5 Hc1.out
 go_wp2_with fail
 refine(pmissing_c _ _).mono ?_
 rintro e w2 ⟨rfl,rfl⟩
 go_wp2
 refine bodyPost_ret (by simp[results,Tryz.results32,go_sem,hyc,c0,c1,c2,c3,c4];first|done|rfl) rfl ?_
 exact zBM (c:=8) rfl (zAH HW1.out (by omega) _ _ _ _ _)
theorem pGet_some (w:World) (h t:Nat) (k1 p1 q1:Int) (s1:ByteArray) (r1:Int) (s:ByteArray) (R:V) (T:∀W,Below w.heap.size w W→Calls Tryz.prog 84 #[.pointer (some ⟨h,0,none⟩),.agg #[k1,p1,q1,s1,r1]] W (PtrPost W (.pointer (some ⟨t,0,none⟩))))
  (G:∀W,Below w.heap.size w W→Calls Tryz.prog 86 #[.pointer (some ⟨t,0,none⟩),.agg #[.int .i64 3,.int .i64 0,.int .i64 0,s,.int .i64 0]] W (ValPost W R)):
  Calls Tryz.prog 32 #[.pointer (some ⟨h,0,none⟩),.agg #[k1,p1,q1,s1,r1],.agg #[.int .i64 3,.int .i64 0,.int .i64 0,s,.int .i64 0]] w (VrPost w (.ok R)):=by
 have HT:=Lib.hid T
 have HG:=Lib.hid G
 clear T G
 go_enter Tryz.func32,Tryz.ntmps32
 go_wp2_with fail
 refine(HT.out _ ((zAF _ _ _).alloc (by simp;omega) _)).mono ?_
 rintro e w1 ⟨rfl,hb⟩
 have Hb1:=hkh hb (zAY _ _ _ _)
 have Hc1:=hkh hb (zAX _ _ _ _)
 have HW1:=hbn (((zAF _ _ _).alloc (by simp;omega) _)) hb
 have hz1:=hb.size
 try simp at hz1
 clear hb
 have hyb:w.heap.size+1<w1.heap.size:=hsz Hb1
 obtain⟨b0,b1,b2,b3,b4⟩:=cells5 Hb1.out
 go_wp2_with fail
 refine(HG.out _ HW1.out).mono ?_
 rintro e w2 ⟨rfl,hb⟩
 have Hb2:=hkh hb Hb1.out
 have Hc2:=hkh hb Hc1.out
 have HW2:=hbn HW1.out hb
 have hz2:=hb.size
 try simp at hz2
 clear hb
 clear hyb b0 b1 b2 b3 b4
 have hyc:w.heap.size+1+1<w2.heap.size:=hsz Hc2
 obtain⟨c0,c1,c2,c3,c4⟩:=cells5 Hc2.out
 obtain⟨fc0,fc1,fc2,fc3,fc4⟩:=froz5 Hc2.out
 go_wp2
 refine bodyPost_ret (by simp[results,Tryz.results32,go_sem,hyc,c0,c1,c2,c3,c4];first|done|rfl) rfl ?_
 exact vr_ok (v:=R) rfl rfl (zAH HW2.out (by omega) _ _ _ _ _)
theorem pGet_c (w:World) (h bo bt:Nat) (H:List PO) (hH:HpAt w h bo bt H) (hS:Small 1000 H) (k1 p1 q1:Int) (s1:ByteArray) (r1:Int) (hr:i64 r1) (s:ByteArray) (hs:s.size≤4096):Calls Tryz.prog 32 #[.pointer (some ⟨h,0,none⟩),.agg #[k1,p1,q1,s1,r1],.agg #[.int .i64 3,.int .i64 0,.int .i64 0,s,.int .i64 0]] w (VrPost w (getH (lh H) ⟨k1,p1,q1,s1,r1⟩ s)):=by
 have htab:=fun W (hb:Below w.heap.size w W)=>ptab_c W h bo bt H (hH.below hb) k1 p1 q1 s1 r1 hr
 unfold getH
 rw[zCM]
 cases hf:findP H ⟨k1,p1,q1,s1,r1⟩ with
 |none=>rw[hf] at htab;exact pGet_none w h k1 p1 q1 s1 r1 s htab
 |some x=>
  rw[hf] at htab
  obtain⟨i,hi,hk,hri,hxm⟩:=find_at hf
  have htab:∀W,Below w.heap.size w W→Calls Tryz.prog 84 #[.pointer (some ⟨h,0,none⟩),.agg #[k1,p1,q1,s1,r1]] W (PtrPost W x.tabv):=htab
  show Calls _ _ _ _ (VrPost w (if x.kind=4 then .ok (getM (if x.kind=4 then x.L else[]) (strV s)) else .error 8))
  unfold PO.tabv at htab
  by_cases h4:x.kind=4
  ·rw[if_pos h4,if_pos h4]
   rw[if_pos h4] at htab
   exact pGet_some w h x.t k1 p1 q1 s1 r1 s _ htab (fun W hb=>ptabGet_c W x.t x.m x.g x.sv x.L (((hH.one x hxm).tb h4).below hb) (hS x hxm) s hs)
  ·rw[if_neg h4]
   rw[if_neg h4] at htab
   exact pGet_none w h k1 p1 q1 s1 r1 s htab
theorem pMeta_none (w:World) (hv:Value) (k1 p1 q1:Int) (s1:ByteArray) (r1:Int) (T:∀W,Below w.heap.size w W→Calls Tryz.prog 87 #[hv,.agg #[k1,p1,q1,s1,r1]] W (PtrPost W (.pointer none))):
  Calls Tryz.prog 33 #[hv,.agg #[k1,p1,q1,s1,r1]] w (ValPost w V.nil):=by
 have HT:=Lib.hid T
 clear T
 go_enter Tryz.func33,Tryz.ntmps33
 go_wp2_with fail
 refine(HT.out _ (zAF _ _ _)).mono ?_
 rintro e w1 ⟨rfl,hb⟩
 have Hb1:=hkh hb (zAW _ _ _)
 have HW1:=hbn (zAF _ _ _) hb
 have hz1:=hb.size
 try simp at hz1
 clear hb
 have hyb:w.heap.size+1<w1.heap.size:=hsz Hb1
 obtain⟨b0,b1,b2,b3,b4⟩:=cells5 Hb1.out
 obtain⟨fb0,fb1,fb2,fb3,fb4⟩:=froz5 Hb1.out
 go_wp2
 refine bodyPost_ret (by simp[results,Tryz.results33,go_sem,hyb,b0,b1,b2,b3,b4];first|done|rfl) rfl ?_
 exact zAo rfl (zAH HW1.out (by omega) _ _ _ _ _)
theorem pMeta_some (w:World) (h:Nat) (k1 p1 q1:Int) (s1:ByteArray) (r1:Int) (x:PO) (hx:w.heap[x.o]? =some (.cells x.cells 104)) (T:∀W,Below w.heap.size w W→Calls Tryz.prog 87 #[.pointer (some ⟨h,0,none⟩),.agg #[k1,p1,q1,s1,r1]] W (PtrPost W (.pointer (some ⟨x.o,0,none⟩)))):
  Calls Tryz.prog 33 #[.pointer (some ⟨h,0,none⟩),.agg #[k1,p1,q1,s1,r1]] w (ValPost w x.mt):=by
 have hxl:x.o<w.heap.size:=(Array.getElem?_eq_some_iff.1 hx).1
 have HT:=Lib.hid T
 have HX:=Lib.hid hx
 clear T hx
 go_enter Tryz.func33,Tryz.ntmps33
 go_wp2_with fail
 refine(HT.out _ (zAF _ _ _)).mono ?_
 rintro e w1 ⟨rfl,hb⟩
 have Hb1:=hkh hb (zAW _ _ _)
 have Hx1:=hkh hb (zAp HX.out _ _)
 have HW1:=hbn (zAF _ _ _) hb
 have hz1:=hb.size
 try simp at hz1
 clear hb
 have hyb:w.heap.size+1<w1.heap.size:=hsz Hb1
 obtain⟨b0,b1,b2,b3,b4⟩:=cells5 Hb1.out
 obtain⟨fb0,fb1,fb2,fb3,fb4⟩:=froz5 Hb1.out
 have hyx:x.o<w1.heap.size:=hsz Hx1
 obtain⟨x0,x1,x2,x3,x4,x5,x6,x7,x8,x9⟩:=cells10 Hx1.out
 go_wp2
 refine bodyPost_ret (by simp[results,Tryz.results33,go_sem,hyb,b0,b1,b2,b3,b4];first|done|rfl) rfl ?_
 exact zAo rfl (zAH HW1.out (by omega) _ _ _ _ _)
theorem pMeta_c (w:World) (h bo bt:Nat) (H:List PO) (hH:HpAt w h bo bt H) (k1 p1 q1:Int) (s1:ByteArray) (r1:Int) (hr:i64 r1):Calls Tryz.prog 33 #[.pointer (some ⟨h,0,none⟩),.agg #[k1,p1,q1,s1,r1]] w (ValPost w (metaH (lh H) ⟨k1,p1,q1,s1,r1⟩)):=by
 have hfi:=fun W (hb:Below w.heap.size w W)=>phfind_c W h bo bt H (hH.below hb) k1 p1 q1 s1 r1 hr
 unfold metaH
 rw[zCM]
 cases hf:findP H ⟨k1,p1,q1,s1,r1⟩ with
 |none=>rw[hf] at hfi;exact pMeta_none w _ k1 p1 q1 s1 r1 hfi
 |some x=>
  rw[hf] at hfi
  obtain⟨i,hi,hk,hri,hxm⟩:=find_at hf
  exact pMeta_some w h k1 p1 q1 s1 r1 x (hH.one x hxm).ho hfi
theorem grow_php {base n:Nat} {w:World} {h:Nat} {M:LH} {o:LO} {f:FuncId} {args:Array Value} (hP:PHp base n w h M) (hb:base≤w.heap.size) (hl:M.length≤60)
  (hc:∀bo bt H,HpAt w h bo bt H→H.length≤1000→Calls Tryz.prog f args w (GrowPost w h bo bt H o)):
  Calls Tryz.prog f args w (fun e w'=>(∃v,e= .returned v)∧PHp base n w' h (M++[o])∧BM base PB w w'):=by
 obtain⟨bo,bt,H,h1,h2,h3,h4⟩:=hP.ex
 have hH:H.length=M.length:=by rw[←h2];unfold lh;rw[List.length_map]
 refine(hc bo bt H h1 (by omega)).mono ?_
 rintro e w' ⟨he,x,h5,h6,h7,h8,h9⟩
 refine⟨he,⟨bo,bt,H++[x],h5,?_,?_,?_⟩,BM.of_mods h8 (fun b hb2=>⟨h4 b hb2,hp_pb h1 hb2⟩)⟩
 ·unfold lh;rw[List.map_append];unfold lh at h2;rw[h2,List.map_singleton,h6]
 ·intro y hy
  rcases List.mem_append.1 hy with hy|hy
  ·exact h3 y hy
  ·rw[List.mem_singleton] at hy;rw[hy,h7];exact Nat.zero_le _
 ·rintro b (e|e|e|⟨y,hy,hyb⟩)
  ·exact h4 b (.inl e)
  ·exact h4 b (.inr (.inl e))
  ·exact h4 b (.inr (.inr (.inl e)))
  ·rcases List.mem_append.1 hy with hy|hy
   ·exact h4 b (.inr (.inr (.inr ⟨y,hy,hyb⟩)))
   ·rw[List.mem_singleton] at hy
    subst hy
    have:=h9 b hyb
    omega
theorem pNewFunc_c (w:World) (h bo bt:Nat) (H:List PO) (hH:HpAt w h bo bt H) (hl:H.length≤1000) (tag:Int):Calls Tryz.prog 65 #[.pointer (some ⟨h,0,none⟩),tag] w (GrowPost w h bo bt H ⟨5,V.nil,[]⟩):=by
 have hlt:h<w.heap.size:=(Array.getElem?_eq_some_iff.1 hH.hh).1
 obtain⟨E0,hE0⟩:=hH.touched
 have hbt:bt<w.heap.size:=hE0.lt
 have hbo:bo<w.heap.size:=hH.objs.lt
 have hHH:=Lib.hid hH
 clear hH hE0
 go_enter Tryz.func65,Tryz.ntmps65
 go_wp2_with fail
 have hHW:=hHH.out.below (zAF w (oV 0 0 0 ⟨#[]⟩ 0) (.cells #[.int .i64 5,tag,.string ⟨#[]⟩,.pointer none,.int .i64 0,.int .i64 0,.int .i64 0,.string ⟨#[]⟩,.int .i64 0,.slice none 0 0] 104))
 have hx:PObj ((w.alloc (oV 0 0 0 ⟨#[]⟩ 0)).alloc (.cells #[.int .i64 5,tag,.string ⟨#[]⟩,.pointer none,.int .i64 0,.int .i64 0,.int .i64 0,.string ⟨#[]⟩,.int .i64 0,.slice none 0 0] 104)) (⟨5,tag,⟨#[]⟩,V.nil,.slice none 0 0,w.heap.size+1,0,0,0,.slice none 0 0,[]⟩:PO):=⟨zAW _ _ _,.inr (.inl rfl),wf_nil,fun _=>⟨rfl,rfl⟩,fun h=>absurd h (show¬(5:Int)=4 by decide)⟩
 obtain⟨hsep,hgg⟩:=sep_new (x:=(⟨5,tag,⟨#[]⟩,V.nil,.slice none 0 0,w.heap.size+1,0,0,0,.slice none 0 0,[]⟩:PO)) hHH.out (Nat.le_add_right _ _) (fun h=>absurd h (show¬(5:Int)=4 by decide)) rfl
 refine(pCreate_c _ h bo bt H hHW hl (⟨5,tag,⟨#[]⟩,V.nil,.slice none 0 0,w.heap.size+1,0,0,0,.slice none 0 0,[]⟩:PO) hx hsep hgg).mono ?_
 rintro e w3 ⟨rfl,hA,hM⟩
 have HA:=Lib.hid hA
 have HM:=Lib.hid hM
 have HBW:=Lib.hid (zAF w (oV 0 0 0 ⟨#[]⟩ 0) (.cells #[.int .i64 5,tag,.string ⟨#[]⟩,.pointer none,.int .i64 0,.int .i64 0,.int .i64 0,.string ⟨#[]⟩,.int .i64 0,.slice none 0 0] 104))
 have HR3:=Lib.hid (zAj hM (zAf _ _ _) (fun e=>by rcases e with e|e|e<;>omega))
 have hyr:w.heap.size<w3.heap.size:=hsz HR3
 clear hA hM hHW hx hsep hgg
 obtain⟨r0,r1,r2,r3,r4⟩:=cells5 HR3.out
 obtain⟨fr0,fr1,fr2,fr3,fr4⟩:=froz5 HR3.out
 go_wp2
 refine bodyPost_ret (by simp[results,Tryz.results65,go_sem,hyr,r0,r1,r2,r3,r4];first|done|rfl) rfl ?_
 refine grow_end hHH.out HBW.out HA.out HM.out HR3.out (mods_five (F:=fun b=>b=w.heap.size) (Mods.refl _ _) (.inl rfl) _ _ _ _ _) rfl rfl (fun b hb=> ?_) _
 rcases hb with rfl|⟨h4,_⟩
 ·show w.heap.size≤w.heap.size+1;omega
 ·exact absurd h4 (show¬(5:Int)=4 by decide)
theorem pNewTable_c (w:World) (h bo bt:Nat) (H:List PO) (hH:HpAt w h bo bt H) (hl:H.length≤1000):Calls Tryz.prog 61 #[.pointer (some ⟨h,0,none⟩)] w (GrowPost w h bo bt H ⟨4,V.nil,[]⟩):=by
 have hlt:h<w.heap.size:=(Array.getElem?_eq_some_iff.1 hH.hh).1
 obtain⟨E0,hE0⟩:=hH.touched
 have hbt:bt<w.heap.size:=hE0.lt
 have hbo:bo<w.heap.size:=hH.objs.lt
 have hHH:=Lib.hid hH
 clear hH hE0
 go_enter Tryz.func61,Tryz.ntmps61
 go_wp2_with fail
 refine(ptabNew_c _).mono ?_
 intro e w1 hpost
 obtain⟨t,ht0⟩:∃t,t=w1.heap.size-1:=⟨_,rfl⟩
 rw[←ht0] at hpost
 obtain⟨rfl,⟨m,g,hT,hm,hg,ht⟩,hb⟩:=hpost
 simp at hm hg ht
 have HT:=Lib.hid hT
 have HB1:=hbn (zAm _ _) hb
 have HR1:=hkh hb (heap1 w (oV 0 0 0 ⟨#[]⟩ 0))
 have hz1:=hb.size
 simp at hz1
 clear hb hT ht0
 go_wp2_with fail
 have hHW:=hHH.out.below (HB1.out.alloc HB1.out.size (.cells #[.int .i64 4,.int .i64 0,.string ⟨#[]⟩,.pointer (some ⟨t,0,none⟩),.int .i64 0,.int .i64 0,.int .i64 0,.string ⟨#[]⟩,.int .i64 0,.slice none 0 0] 104))
 have hx:PObj (w1.alloc (.cells #[.int .i64 4,.int .i64 0,.string ⟨#[]⟩,.pointer (some ⟨t,0,none⟩),.int .i64 0,.int .i64 0,.int .i64 0,.string ⟨#[]⟩,.int .i64 0,.slice none 0 0] 104)) (⟨4,0,⟨#[]⟩,V.nil,.slice none 0 0,w1.heap.size,t,m,g,.slice none 0 0,[]⟩:PO):=⟨heap1 _ _,.inl rfl,wf_nil,fun h=>absurd h (show¬(4:Int)=5 by decide),fun _=>HT.out.below (zAm _ _)⟩
 obtain⟨hsep,hgg⟩:=sep_new (x:=(⟨4,0,⟨#[]⟩,V.nil,.slice none 0 0,w1.heap.size,t,m,g,.slice none 0 0,[]⟩:PO)) hHH.out (HB1.out.size) (fun _=>⟨by show w.heap.size≤m;omega,by show w.heap.size≤g;omega⟩) rfl
 refine(pCreate_c _ h bo bt H hHW hl (⟨4,0,⟨#[]⟩,V.nil,.slice none 0 0,w1.heap.size,t,m,g,.slice none 0 0,[]⟩:PO) hx hsep hgg).mono ?_
 rintro e w3 ⟨rfl,hA,hM⟩
 have HA:=Lib.hid hA
 have HM:=Lib.hid hM
 have HBW:=Lib.hid (HB1.out.alloc HB1.out.size (.cells #[.int .i64 4,.int .i64 0,.string ⟨#[]⟩,.pointer (some ⟨t,0,none⟩),.int .i64 0,.int .i64 0,.int .i64 0,.string ⟨#[]⟩,.int .i64 0,.slice none 0 0] 104))
 have HR3:=Lib.hid (zAj hM (zAI HR1.out _) (fun e=>by rcases e with e|e|e<;>omega))
 have hyr:w.heap.size<w3.heap.size:=hsz HR3
 clear hA hM hHW hx hsep hgg
 obtain⟨r0,r1,r2,r3,r4⟩:=cells5 HR3.out
 obtain⟨fr0,fr1,fr2,fr3,fr4⟩:=froz5 HR3.out
 go_wp2
 refine bodyPost_ret (by simp[results,Tryz.results61,go_sem,hyr,r0,r1,r2,r3,r4];first|done|rfl) rfl ?_
 refine grow_end hHH.out HBW.out HA.out HM.out HR3.out (mods_five (F:=fun b=>b=w.heap.size) (Mods.refl _ _) (.inl rfl) _ _ _ _ _) rfl rfl (fun b hb=> ?_) _
 rcases hb with e|⟨_,e|e|e|hb⟩
 ·have e:b=w1.heap.size:=e
  have:=HB1.out.size
  omega
 ·have e:b=t:=e
  omega
 ·have e:b=m:=e
  omega
 ·have e:b=g:=e
  omega
 ·cases hb
theorem pNewData_c (w:World) (h bo bt:Nat) (H:List PO) (hH:HpAt w h bo bt H) (hl:H.length≤1000):Calls Tryz.prog 63 #[.pointer (some ⟨h,0,none⟩),.string ⟨#[100]⟩] w (GrowPost w h bo bt H ⟨8,V.nil,[]⟩):=by
 have hlt:h<w.heap.size:=(Array.getElem?_eq_some_iff.1 hH.hh).1
 obtain⟨E0,hE0⟩:=hH.touched
 have hbt:bt<w.heap.size:=hE0.lt
 have hbo:bo<w.heap.size:=hH.objs.lt
 have hHH:=Lib.hid hH
 clear hH hE0
 obtain⟨C,hms⟩:∃C:Array Value,∀W:World,(Instr.makeSlice 41 (.int .i64 16) (.int .i64 16)).run Tryz.prog W= .ok (.slice (some ⟨W.heap.size,0,none⟩) 16 16) (W.alloc (.cells C 25)):=by
  obtain⟨i,hi,hz,hs,hby⟩:=info_parts info25p
  exact⟨_,fun W=>run_make W 41 25 i _ Tryz.underlying41 hi hz .i64 .i64 16 16 (by decide) (by decide) (by rw[hby];decide) (by decide)⟩
 go_enter Tryz.func63,Tryz.ntmps63
 go_wp2_with fail
 have hHW:=hHH.out.below (zAL w (oV 0 0 0 ⟨#[]⟩ 0) (.cells C 25) (.cells #[.int .i64 8,.int .i64 0,.string ⟨#[100]⟩,.pointer none,.int .i64 0,.int .i64 0,.int .i64 0,.string ⟨#[]⟩,.int .i64 0,.slice (some ⟨w.heap.size+1,0,none⟩) 16 16] 104))
 have hx:PObj (((w.alloc (oV 0 0 0 ⟨#[]⟩ 0)).alloc (.cells C 25)).alloc (.cells #[.int .i64 8,.int .i64 0,.string ⟨#[100]⟩,.pointer none,.int .i64 0,.int .i64 0,.int .i64 0,.string ⟨#[]⟩,.int .i64 0,.slice (some ⟨w.heap.size+1,0,none⟩) 16 16] 104)) (⟨8,0,⟨#[100]⟩,V.nil,.slice (some ⟨w.heap.size+1,0,none⟩) 16 16,w.heap.size+1+1,0,0,0,.slice none 0 0,[]⟩:PO):=⟨zAX _ _ _ _,.inr (.inr rfl),wf_nil,fun h=>absurd h (show¬(8:Int)=5 by decide),fun h=>absurd h (show¬(8:Int)=4 by decide)⟩
 obtain⟨hsep,hgg⟩:=sep_new (x:=(⟨8,0,⟨#[100]⟩,V.nil,.slice (some ⟨w.heap.size+1,0,none⟩) 16 16,w.heap.size+1+1,0,0,0,.slice none 0 0,[]⟩:PO)) hHH.out (by show w.heap.size≤w.heap.size+1+1;omega) (fun h=>absurd h (show¬(8:Int)=4 by decide)) rfl
 refine(pCreate_c _ h bo bt H hHW hl (⟨8,0,⟨#[100]⟩,V.nil,.slice (some ⟨w.heap.size+1,0,none⟩) 16 16,w.heap.size+1+1,0,0,0,.slice none 0 0,[]⟩:PO) hx hsep hgg).mono ?_
 rintro e w3 ⟨rfl,hA,hM⟩
 have HA:=Lib.hid hA
 have HM:=Lib.hid hM
 have HBW:=Lib.hid (zAL w (oV 0 0 0 ⟨#[]⟩ 0) (.cells C 25) (.cells #[.int .i64 8,.int .i64 0,.string ⟨#[100]⟩,.pointer none,.int .i64 0,.int .i64 0,.int .i64 0,.string ⟨#[]⟩,.int .i64 0,.slice (some ⟨w.heap.size+1,0,none⟩) 16 16] 104))
 have HR3:=Lib.hid (zAj hM (zAh _ _ _ _) (fun e=>by rcases e with e|e|e<;>omega))
 have hyr:w.heap.size<w3.heap.size:=hsz HR3
 clear hA hM hHW hx hsep hgg
 obtain⟨r0,r1,r2,r3,r4⟩:=cells5 HR3.out
 obtain⟨fr0,fr1,fr2,fr3,fr4⟩:=froz5 HR3.out
 go_wp2
 refine bodyPost_ret (by simp[results,Tryz.results63,go_sem,hyr,r0,r1,r2,r3,r4];first|done|rfl) rfl ?_
 refine grow_end hHH.out HBW.out HA.out HM.out HR3.out (mods_five (F:=fun b=>b=w.heap.size) (Mods.refl _ _) (.inl rfl) _ _ _ _ _) rfl rfl (fun b hb=> ?_) _
 rcases hb with rfl|⟨h4,_⟩
 ·show w.heap.size≤w.heap.size+1+1;omega
 ·exact absurd h4 (show¬(8:Int)=4 by decide)
theorem pNew_c (w:World):Calls Tryz.prog 59 #[] w (fun e w'=>∃h,e= .returned (.pointer (some ⟨h,0,none⟩))∧PHp w.heap.size 0 w' h []∧Below w.heap.size w w'):=by
 have hmm:= @run_makeMap Tryz.prog
 go_enter Tryz.func59,Tryz.ntmps59
 go_wp2
 go_ret
 have hb:Below w.heap.size w (((w.alloc (.map #[] 0)).alloc (.map #[] 0)).alloc (.cells #[.map (some w.heap.size),.int .i64 0,.map (some (w.heap.size+1))] 89)):=(zAF _ _ _).alloc (by simp;omega) _
 refine⟨w.heap.size+1+1,rfl,⟨w.heap.size,w.heap.size+1,[],⟨zAX _ _ _ _,?_,⟨[],?_⟩,fun x hx=>(by cases hx),.nil,by omega,fun x hx=>(by cases hx)⟩,rfl,fun x hx=>(by cases hx),?_⟩,hb⟩
 ·exact(mapAt_new 3 w).keep (by rw[zAh,zAg])
 ·refine MapAt.keep (w:=(w.alloc (.map #[] 0)).alloc (.map #[] 0)) ?_ (Below.heap_alloc _ _ _ (by simp))
  have:=mapAt_new (P:=Tryz.prog) 3 (w.alloc (.map #[] 0))
  simpa using this
 ·rintro b (rfl|rfl|rfl|⟨x,hx,_⟩)
  ·omega
  ·omega
  ·omega
  ·cases hx
theorem pSet_none (w:World) (h:Nat) (k1 p1 q1:Int) (s1:ByteArray) (r1:Int) (s:ByteArray) (k2 p2 q2:Int) (s2:ByteArray) (r2:Int) (T:∀W,Below w.heap.size w W→Calls Tryz.prog 84 #[.pointer (some ⟨h,0,none⟩),.agg #[k1,p1,q1,s1,r1]] W (PtrPost W (.pointer none))):Calls Tryz.prog 70 #[.pointer (some ⟨h,0,none⟩),.agg #[k1,p1,q1,s1,r1],.agg #[.int .i64 3,.int .i64 0,.int .i64 0,s,.int .i64 0],.agg #[k2,p2,q2,s2,r2]] w (IntPost w 8):=by
 have HT:=Lib.hid T
 clear T
 go_enter Tryz.func70,Tryz.ntmps70
 go_wp2_with fail
 refine(HT.out _ ((zAF _ _ _).alloc (by simp;omega) _)).mono ?_
 rintro e w1 ⟨rfl,hb⟩
 have HW1:=hbn (((zAF _ _ _).alloc (by simp;omega) _)) hb
 have hz1:=hb.size
 try simp at hz1
 clear hb
 go_wp2_with fail
 refine(pmissing_c _ _).mono ?_
 rintro e w2 ⟨rfl,rfl⟩
 go_wp2
 go_ret
 exact zAq rfl HW1.out
theorem pSet_key (w:World) (h:Nat) (k1 p1 q1:Int) (s1:ByteArray) (r1:Int) (s:ByteArray) (k2 p2 q2:Int) (s2:ByteArray) (r2:Int) (tv:Addr) (T:∀W,Below w.heap.size w W→Calls Tryz.prog 84 #[.pointer (some ⟨h,0,none⟩),.agg #[k1,p1,q1,s1,r1]] W (PtrPost W (.pointer (some tv)))) (V:∀W,Calls Tryz.prog 36 #[.agg #[.int .i64 3,.int .i64 0,.int .i64 0,s,.int .i64 0]] W (BoolPost W false)):Calls Tryz.prog 70 #[.pointer (some ⟨h,0,none⟩),.agg #[k1,p1,q1,s1,r1],.agg #[.int .i64 3,.int .i64 0,.int .i64 0,s,.int .i64 0],.agg #[k2,p2,q2,s2,r2]] w (IntPost w 13):=by
 have HT:=Lib.hid T
 have HV:=Lib.hid V
 clear T V
 go_enter Tryz.func70,Tryz.ntmps70
 go_wp2_with fail
 refine(HT.out _ ((zAF _ _ _).alloc (by simp;omega) _)).mono ?_
 rintro e w1 ⟨rfl,hb⟩
 have Hb1:=hkh hb (zAY _ _ _ _)
 have HW1:=hbn (((zAF _ _ _).alloc (by simp;omega) _)) hb
 have hz1:=hb.size
 try simp at hz1
 clear hb
 have hyb:w.heap.size+1<w1.heap.size:=hsz Hb1
 obtain⟨b0,b1,b2,b3,b4⟩:=cells5 Hb1.out
 go_wp2_with fail
 refine(HV.out _).mono ?_
 rintro e w2 ⟨rfl,hb⟩
 have Hb2:=hkh hb Hb1.out
 have HW2:=hbn HW1.out hb
 have hz2:=hb.size
 try simp at hz2
 clear hb
 clear hyb b0 b1 b2 b3 b4
 have hyb:w.heap.size+1<w2.heap.size:=hsz Hb2
 obtain⟨b0,b1,b2,b3,b4⟩:=cells5 Hb2.out
 go_wp2
 go_ret
 exact zAq rfl HW2.out
theorem pSet_elem (w:World) (h:Nat) (k1 p1 q1:Int) (s1:ByteArray) (r1:Int) (s:ByteArray) (k2 p2 q2:Int) (s2:ByteArray) (r2:Int) (tv:Addr) (c:Int) (hc:(c !=0)=true) (T:∀W,Below w.heap.size w W→Calls Tryz.prog 84 #[.pointer (some ⟨h,0,none⟩),.agg #[k1,p1,q1,s1,r1]] W (PtrPost W (.pointer (some tv)))) (V:∀W,Calls Tryz.prog 36 #[.agg #[.int .i64 3,.int .i64 0,.int .i64 0,s,.int .i64 0]] W (BoolPost W true)) (E:∀W,Calls Tryz.prog 115 #[.agg #[k2,p2,q2,s2,r2]] W (IntPost W c)):Calls Tryz.prog 70 #[.pointer (some ⟨h,0,none⟩),.agg #[k1,p1,q1,s1,r1],.agg #[.int .i64 3,.int .i64 0,.int .i64 0,s,.int .i64 0],.agg #[k2,p2,q2,s2,r2]] w (IntPost w c):=by
 have HT:=Lib.hid T
 have HV:=Lib.hid V
 have HE:=Lib.hid E
 clear T V E
 go_enter Tryz.func70,Tryz.ntmps70
 go_wp2_with fail
 refine(HT.out _ ((zAF _ _ _).alloc (by simp;omega) _)).mono ?_
 rintro e w1 ⟨rfl,hb⟩
 have Hb1:=hkh hb (zAY _ _ _ _)
 have Hc1:=hkh hb (zAX _ _ _ _)
 have HW1:=hbn (((zAF _ _ _).alloc (by simp;omega) _)) hb
 have hz1:=hb.size
 try simp at hz1
 clear hb
 have hyb:w.heap.size+1<w1.heap.size:=hsz Hb1
 obtain⟨b0,b1,b2,b3,b4⟩:=cells5 Hb1.out
 have hyc:w.heap.size+1+1<w1.heap.size:=hsz Hc1
 obtain⟨c0,c1,c2,c3,c4⟩:=cells5 Hc1.out
 go_wp2_with fail
 refine(HV.out _).mono ?_
 rintro e w2 ⟨rfl,hb⟩
 have Hb2:=hkh hb Hb1.out
 have Hc2:=hkh hb Hc1.out
 have HW2:=hbn HW1.out hb
 have hz2:=hb.size
 try simp at hz2
 clear hb
 clear hyb b0 b1 b2 b3 b4 hyc c0 c1 c2 c3 c4
 have hyb:w.heap.size+1<w2.heap.size:=hsz Hb2
 obtain⟨b0,b1,b2,b3,b4⟩:=cells5 Hb2.out
 have hyc:w.heap.size+1+1<w2.heap.size:=hsz Hc2
 obtain⟨c0,c1,c2,c3,c4⟩:=cells5 Hc2.out
 go_wp2_with fail
 refine(HE.out _).mono ?_
 rintro e w3 ⟨rfl,hb⟩
 have Hb3:=hkh hb Hb2.out
 have Hc3:=hkh hb Hc2.out
 have HW3:=hbn HW2.out hb
 have hz3:=hb.size
 try simp at hz3
 clear hb
 clear hyb b0 b1 b2 b3 b4 hyc c0 c1 c2 c3 c4
 have hyb:w.heap.size+1<w3.heap.size:=hsz Hb3
 obtain⟨b0,b1,b2,b3,b4⟩:=cells5 Hb3.out
 have hyc:w.heap.size+1+1<w3.heap.size:=hsz Hc3
 obtain⟨c0,c1,c2,c3,c4⟩:=cells5 Hc3.out
 go_wp2
 go_ret
 exact zAq rfl HW3.out
theorem pSet_ok (w:World) (h bo bt:Nat) (H:List PO) (hH:HpAt w h bo bt H) (i:Nat) (x:PO) (hi:H[i]? =some x) (h4:x.kind=4) (L':List Sl) (k1 p1 q1:Int) (s1:ByteArray) (r1:Int) (s:ByteArray) (k2 p2 q2:Int) (s2:ByteArray) (r2:Int) (T:∀W,Below w.heap.size w W→Calls Tryz.prog 84 #[.pointer (some ⟨h,0,none⟩),.agg #[k1,p1,q1,s1,r1]] W (PtrPost W (.pointer (some ⟨x.t,0,none⟩)))) (V:∀W,Calls Tryz.prog 36 #[.agg #[.int .i64 3,.int .i64 0,.int .i64 0,s,.int .i64 0]] W (BoolPost W true)) (E:∀W,Calls Tryz.prog 115 #[.agg #[k2,p2,q2,s2,r2]] W (IntPost W 0))
  (S:∀W,Below w.heap.size w W→Calls Tryz.prog 116 #[.pointer (some ⟨x.t,0,none⟩),.agg #[.int .i64 3,.int .i64 0,.int .i64 0,s,.int .i64 0],.agg #[k2,p2,q2,s2,r2]] W (TabPost W x.t x.m x.g x.sv L'))
  (U:∀W H',HpAt W h bo bt H'→Calls Tryz.prog 112 #[.pointer (some ⟨h,0,none⟩),.agg #[k1,p1,q1,s1,r1],.int .i64 0] W (TouchPost W h bo bt H')):
  Calls Tryz.prog 70 #[.pointer (some ⟨h,0,none⟩),.agg #[k1,p1,q1,s1,r1],.agg #[.int .i64 3,.int .i64 0,.int .i64 0,s,.int .i64 0],.agg #[k2,p2,q2,s2,r2]] w (HSetPost w h bo bt H i x L'):=by
 have hbt:bt<w.heap.size:=by obtain⟨E,hE⟩:=hH.touched;exact hE.lt
 have HF:=Lib.hid (fun b=>hp_lt (b:=b) hH)
 have hxm:=List.mem_of_getElem? hi
 have HX:=Lib.hid (fun b (hb:OmF x.m x.g x.sv b)=>hp_lt hH (.inr (.inr (.inr ⟨x,hxm,.inr ⟨h4,.inr hb⟩⟩))))
 have HXM:=Lib.hid hxm
 have HHH:=Lib.hid hH
 have HI:=Lib.hid hi
 have H4:=Lib.hid h4
 have HT:=Lib.hid T
 have HV:=Lib.hid V
 have HE:=Lib.hid E
 have HS:=Lib.hid S
 have HU:=Lib.hid U
 clear T V E S U hH hi h4 hxm
 go_enter Tryz.func70,Tryz.ntmps70
 go_wp2_with fail
 refine(HT.out _ ((zAF _ _ _).alloc (by simp;omega) _)).mono ?_
 rintro e w1 ⟨rfl,hb⟩
 have Ha1:=hkh hb (zAh _ _ _ _)
 have Hb1:=hkh hb (zAY _ _ _ _)
 have Hc1:=hkh hb (zAX _ _ _ _)
 have HW1:=hbn (((zAF _ _ _).alloc (by simp;omega) _)) hb
 have hz1:=hb.size
 try simp at hz1
 clear hb
 have hyb:w.heap.size+1<w1.heap.size:=hsz Hb1
 obtain⟨b0,b1,b2,b3,b4⟩:=cells5 Hb1.out
 have hyc:w.heap.size+1+1<w1.heap.size:=hsz Hc1
 obtain⟨c0,c1,c2,c3,c4⟩:=cells5 Hc1.out
 go_wp2_with fail
 refine(HV.out _).mono ?_
 rintro e w2 ⟨rfl,hb⟩
 have Ha2:=hkh hb Ha1.out
 have Hb2:=hkh hb Hb1.out
 have Hc2:=hkh hb Hc1.out
 have HW2:=hbn HW1.out hb
 have hz2:=hb.size
 try simp at hz2
 clear hb
 clear hyb b0 b1 b2 b3 b4 hyc c0 c1 c2 c3 c4
 have hyc:w.heap.size+1+1<w2.heap.size:=hsz Hc2
 obtain⟨c0,c1,c2,c3,c4⟩:=cells5 Hc2.out
 go_wp2_with fail
 refine(HE.out _).mono ?_
 rintro e w3 ⟨rfl,hb⟩
 have Ha3:=hkh hb Ha2.out
 have Hb3:=hkh hb Hb2.out
 have Hc3:=hkh hb Hc2.out
 have HW3:=hbn HW2.out hb
 have hz3:=hb.size
 try simp at hz3
 clear hb
 clear hyc c0 c1 c2 c3 c4
 have SO:=Lib.hid (fun(W:World) (ha:W.heap[w.heap.size]? =some (oV k1 p1 q1 s1 r1)) (hb:W.heap[w.heap.size+1]? =some (oV 3 0 0 s 0)) (hc:W.heap[w.heap.size+1+1]? =some (oV k2 p2 q2 s2 r2))=>(show W.cell? ⟨w.heap.size,0,none⟩=some (.int .i64 k1)∧W.cell? ⟨w.heap.size,1,none⟩=some (.int .i64 p1)∧W.cell? ⟨w.heap.size,2,none⟩=some (.int .i64 q1)∧W.cell? ⟨w.heap.size,3,none⟩=some (.string s1)∧W.cell? ⟨w.heap.size,4,none⟩=some (.int .i64 r1)∧W.cell? ⟨w.heap.size+1,0,none⟩=some (.int .i64 3)∧W.cell? ⟨w.heap.size+1,1,none⟩=some (.int .i64 0)∧W.cell? ⟨w.heap.size+1,2,none⟩=some (.int .i64 0)∧W.cell? ⟨w.heap.size+1,3,none⟩=some (.string s)∧W.cell? ⟨w.heap.size+1,4,none⟩=some (.int .i64 0)∧W.cell? ⟨w.heap.size+1+1,0,none⟩=some (.int .i64 k2)∧W.cell? ⟨w.heap.size+1+1,1,none⟩=some (.int .i64 p2)∧W.cell? ⟨w.heap.size+1+1,2,none⟩=some (.int .i64 q2)∧W.cell? ⟨w.heap.size+1+1,3,none⟩=some (.string s2)∧W.cell? ⟨w.heap.size+1+1,4,none⟩=some (.int .i64 r2) from⟨by rw[zAA ha];rfl,by rw[zAA ha];rfl,by rw[zAA ha];rfl,by rw[zAA ha];rfl,by rw[zAA ha];rfl,by rw[zAA hb];rfl,by rw[zAA hb];rfl,by rw[zAA hb];rfl,by rw[zAA hb];rfl,by rw[zAA hb];rfl,by rw[zAA hc];rfl,by rw[zAA hc];rfl,by rw[zAA hc];rfl,by rw[zAA hc];rfl,by rw[zAA hc];rfl⟩))
 go_wp2
 have xa:w3.drew.heap[w.heap.size]? =some (oV k1 p1 q1 s1 r1):=Ha3.out
 have xb:w3.drew.heap[w.heap.size+1]? =some (oV 3 0 0 s 0):=Hb3.out
 have xc:w3.drew.heap[w.heap.size+1+1]? =some (oV k2 p2 q2 s2 r2):=Hc3.out
 have hw3:w.heap.size≤w3.heap.size:=HW3.out.size
 go_region_held3 (fun w'=>w'.cell? ⟨w.heap.size,0,none⟩=some (.int .i64 k1)∧w'.cell? ⟨w.heap.size,1,none⟩=some (.int .i64 p1)∧w'.cell? ⟨w.heap.size,2,none⟩=some (.int .i64 q1)∧w'.cell? ⟨w.heap.size,3,none⟩=some (.string s1)∧w'.cell? ⟨w.heap.size,4,none⟩=some (.int .i64 r1)∧w'.cell? ⟨w.heap.size+1,0,none⟩=some (.int .i64 3)∧w'.cell? ⟨w.heap.size+1,1,none⟩=some (.int .i64 0)∧w'.cell? ⟨w.heap.size+1,2,none⟩=some (.int .i64 0)∧w'.cell? ⟨w.heap.size+1,3,none⟩=some (.string s)∧w'.cell? ⟨w.heap.size+1,4,none⟩=some (.int .i64 0)∧w'.cell? ⟨w.heap.size+1+1,0,none⟩=some (.int .i64 k2)∧w'.cell? ⟨w.heap.size+1+1,1,none⟩=some (.int .i64 p2)∧w'.cell? ⟨w.heap.size+1+1,2,none⟩=some (.int .i64 q2)∧w'.cell? ⟨w.heap.size+1+1,3,none⟩=some (.string s2)∧w'.cell? ⟨w.heap.size+1+1,4,none⟩=some (.int .i64 r2))
  (first|with_reducible exact SO.out _ (by assumption) (by assumption) (by assumption))
  (first|(go_at_call 116;refine(HS.out _ HW3.out.drew).mono ?_;rintro e w4 ⟨rfl,sv',hT4,hM4,hown4⟩;have xa4:=zAj hM4 xa (fun e=>by have:=HX.out _ e;omega);have xb4:=zAj hM4 xb (fun e=>by have:=HX.out _ e;omega);have xc4:=zAj hM4 xc (fun e=>by have:=HX.out _ e;omega);have HH4:=Lib.hid (((HHH.out.below HW3.out.drew).setTab HI.out H4.out hT4 hM4 hown4));have HM4:=Lib.hid hM4;have HO4:=Lib.hid hown4;clear hT4 hM4 hown4 xa xb xc)|(go_at_call 112;refine(HU.out _ _ HH4.out).mono ?_;rintro e w5 ⟨rfl,hH5,hM5⟩;have xa5:=zAj hM5 xa4 (by omega);have xb5:=zAj hM5 xb4 (by omega);have xc5:=zAj hM5 xc4 (by omega);have HH5:=Lib.hid hH5;have HM5:=Lib.hid hM5;clear hH5 hM5 xa4 xb4 xc4))
 go_wp2
 go_ret
 have hb3:Below w.heap.size w w3.drew:=HW3.out.drew
 refine⟨⟨_,rfl⟩,sv',HH5.out,((Mods.of_below hb3).trans (HM4.out.mono (fun k _ e=> .inr (.inr (.inr ⟨x,HXM.out,.inr ⟨H4.out,.inr e⟩⟩))))).trans (HM5.out.mono (fun k _ e=> .inr (.inr (.inl e)))),fun b hb=> ?_⟩
 rcases HO4.out b hb with e|e
 ·exact .inl e
 ·exact .inr (Nat.le_trans hb3.size e)
end Go.Proofs.YthkpckgcgkijbaaGreatDoor
