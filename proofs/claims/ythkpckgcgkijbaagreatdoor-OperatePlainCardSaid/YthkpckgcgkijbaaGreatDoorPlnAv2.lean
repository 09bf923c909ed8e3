import Derived.Test.YthkpckgcgkijbaaGreatDoorRefDv2
import Derived.Test.YthkpckgcgkijbaaGreatDoorRefF
import Derived.Test.YthkpckgcgkijbaaGreatDoorBitB
import Derived.Test.YthkpckgcgkijbaaGreatDoorPlnK
set_option linter.unusedVariables false
set_option linter.unusedSimpArgs false
set_option maxRecDepth 100000
set_option maxHeartbeats 2000000
namespace Go.Proofs.YthkpckgcgkijbaaGreatDoor
open Go.RowKit Go.Proofs.Lexi
theorem scalc1_c (w:World) (p q p' q':Int):Calls Tryz.prog 53 #[.int .i64 1,.agg #[p,q],.agg #[p',q']] w (NumPost w (addN (p,q) (p',q'))):=by
 all_goals
  go_enter Tryz.func53,Tryz.ntmps53
  go_wp2_with fail
  refine(sadd_c _ _ _ _ _).mono ?_
  rintro e w1 ⟨rfl,hb⟩
  have hz:=hb.size
  simp at hz
  obtain⟨hc,hf⟩:=bcell hb
  have HB1:=hbn (zAL _ _ _ _) hb
  have f0:w1.frozen? ⟨w.heap.size+1+1,0,none⟩=false:=(hf _ _ (by simp<;>omega)).trans (by simp[go_sem])
  have f1:w1.frozen? ⟨w.heap.size+1+1,1,none⟩=false:=(hf _ _ (by simp<;>omega)).trans (by simp[go_sem])
  have c0:w1.cell? ⟨w.heap.size+1+1,0,none⟩=some (.int .i64 0):=(hc _ _ (by simp<;>omega)).trans (by simp[go_sem])
  have c1:w1.cell? ⟨w.heap.size+1+1,1,none⟩=some (.int .i64 0):=(hc _ _ (by simp<;>omega)).trans (by simp[go_sem])
  clear hb hc hf
  go_wp2
  refine bodyPost_ret (by simp[results,Tryz.results53,go_sem,c0,c1];first|done|rfl) rfl ?_
  exact zBk rfl (zAD HB1.out (by omega) _ _)
theorem scalc2_c (w:World) (p q p' q':Int):Calls Tryz.prog 53 #[.int .i64 2,.agg #[p,q],.agg #[p',q']] w (NumPost w (subN (p,q) (p',q'))):=by
 all_goals
  go_enter Tryz.func53,Tryz.ntmps53
  go_wp2_with fail
  refine(ssub_c _ _ _ _ _).mono ?_
  rintro e w1 ⟨rfl,hb⟩
  have hz:=hb.size
  simp at hz
  obtain⟨hc,hf⟩:=bcell hb
  have HB1:=hbn (zAL _ _ _ _) hb
  have f0:w1.frozen? ⟨w.heap.size+1+1,0,none⟩=false:=(hf _ _ (by simp<;>omega)).trans (by simp[go_sem])
  have f1:w1.frozen? ⟨w.heap.size+1+1,1,none⟩=false:=(hf _ _ (by simp<;>omega)).trans (by simp[go_sem])
  have c0:w1.cell? ⟨w.heap.size+1+1,0,none⟩=some (.int .i64 0):=(hc _ _ (by simp<;>omega)).trans (by simp[go_sem])
  have c1:w1.cell? ⟨w.heap.size+1+1,1,none⟩=some (.int .i64 0):=(hc _ _ (by simp<;>omega)).trans (by simp[go_sem])
  clear hb hc hf
  go_wp2
  refine bodyPost_ret (by simp[results,Tryz.results53,go_sem,c0,c1];first|done|rfl) rfl ?_
  exact zBk rfl (zAD HB1.out (by omega) _ _)
theorem scalc3_c (w:World) (p q p' q':Int):Calls Tryz.prog 53 #[.int .i64 3,.agg #[p,q],.agg #[p',q']] w (NumPost w (mulN (p,q) (p',q'))):=by
 all_goals
  go_enter Tryz.func53,Tryz.ntmps53
  go_wp2_with fail
  refine(smul_c _ _ _ _ _).mono ?_
  rintro e w1 ⟨rfl,hb⟩
  have hz:=hb.size
  simp at hz
  obtain⟨hc,hf⟩:=bcell hb
  have HB1:=hbn (zAL _ _ _ _) hb
  have f0:w1.frozen? ⟨w.heap.size+1+1,0,none⟩=false:=(hf _ _ (by simp<;>omega)).trans (by simp[go_sem])
  have f1:w1.frozen? ⟨w.heap.size+1+1,1,none⟩=false:=(hf _ _ (by simp<;>omega)).trans (by simp[go_sem])
  have c0:w1.cell? ⟨w.heap.size+1+1,0,none⟩=some (.int .i64 0):=(hc _ _ (by simp<;>omega)).trans (by simp[go_sem])
  have c1:w1.cell? ⟨w.heap.size+1+1,1,none⟩=some (.int .i64 0):=(hc _ _ (by simp<;>omega)).trans (by simp[go_sem])
  clear hb hc hf
  go_wp2
  refine bodyPost_ret (by simp[results,Tryz.results53,go_sem,c0,c1];first|done|rfl) rfl ?_
  exact zBk rfl (zAD HB1.out (by omega) _ _)
theorem scalc4_c (w:World) (p q p' q':Int):Calls Tryz.prog 53 #[.int .i64 4,.agg #[p,q],.agg #[p',q']] w (NumPost w (divN (p,q) (p',q'))):=by
 all_goals
  go_enter Tryz.func53,Tryz.ntmps53
  go_wp2_with fail
  refine(sdiv_c _ _ _ _ _).mono ?_
  rintro e w1 ⟨rfl,hb⟩
  have hz:=hb.size
  simp at hz
  obtain⟨hc,hf⟩:=bcell hb
  have HB1:=hbn (zAL _ _ _ _) hb
  have f0:w1.frozen? ⟨w.heap.size+1+1,0,none⟩=false:=(hf _ _ (by simp<;>omega)).trans (by simp[go_sem])
  have f1:w1.frozen? ⟨w.heap.size+1+1,1,none⟩=false:=(hf _ _ (by simp<;>omega)).trans (by simp[go_sem])
  have c0:w1.cell? ⟨w.heap.size+1+1,0,none⟩=some (.int .i64 0):=(hc _ _ (by simp<;>omega)).trans (by simp[go_sem])
  have c1:w1.cell? ⟨w.heap.size+1+1,1,none⟩=some (.int .i64 0):=(hc _ _ (by simp<;>omega)).trans (by simp[go_sem])
  clear hb hc hf
  go_wp2
  refine bodyPost_ret (by simp[results,Tryz.results53,go_sem,c0,c1];first|done|rfl) rfl ?_
  exact zBk rfl (zAD HB1.out (by omega) _ _)
theorem scalc5_c (w:World) (p q p' q':Int):Calls Tryz.prog 53 #[.int .i64 5,.agg #[p,q],.agg #[p',q']] w (NumPost w (quotN (p,q) (p',q'))):=by
 all_goals
  go_enter Tryz.func53,Tryz.ntmps53
  go_wp2_with fail
  refine(squot_c _ _ _ _ _).mono ?_
  rintro e w1 ⟨rfl,hb⟩
  have hz:=hb.size
  simp at hz
  obtain⟨hc,hf⟩:=bcell hb
  have HB1:=hbn (zAL _ _ _ _) hb
  have f0:w1.frozen? ⟨w.heap.size+1+1,0,none⟩=false:=(hf _ _ (by simp<;>omega)).trans (by simp[go_sem])
  have f1:w1.frozen? ⟨w.heap.size+1+1,1,none⟩=false:=(hf _ _ (by simp<;>omega)).trans (by simp[go_sem])
  have c0:w1.cell? ⟨w.heap.size+1+1,0,none⟩=some (.int .i64 0):=(hc _ _ (by simp<;>omega)).trans (by simp[go_sem])
  have c1:w1.cell? ⟨w.heap.size+1+1,1,none⟩=some (.int .i64 0):=(hc _ _ (by simp<;>omega)).trans (by simp[go_sem])
  clear hb hc hf
  go_wp2
  refine bodyPost_ret (by simp[results,Tryz.results53,go_sem,c0,c1];first|done|rfl) rfl ?_
  exact zBk rfl (zAD HB1.out (by omega) _ _)
theorem scalc6_c (w:World) (p q p' q':Int):Calls Tryz.prog 53 #[.int .i64 6,.agg #[p,q],.agg #[p',q']] w (NumPost w (modN (p,q) (p',q'))):=by
 all_goals
  go_enter Tryz.func53,Tryz.ntmps53
  go_wp2_with fail
  refine(smod_c _ _ _ _ _).mono ?_
  rintro e w1 ⟨rfl,hb⟩
  have hz:=hb.size
  simp at hz
  obtain⟨hc,hf⟩:=bcell hb
  have HB1:=hbn (zAL _ _ _ _) hb
  have f0:w1.frozen? ⟨w.heap.size+1+1,0,none⟩=false:=(hf _ _ (by simp<;>omega)).trans (by simp[go_sem])
  have f1:w1.frozen? ⟨w.heap.size+1+1,1,none⟩=false:=(hf _ _ (by simp<;>omega)).trans (by simp[go_sem])
  have c0:w1.cell? ⟨w.heap.size+1+1,0,none⟩=some (.int .i64 0):=(hc _ _ (by simp<;>omega)).trans (by simp[go_sem])
  have c1:w1.cell? ⟨w.heap.size+1+1,1,none⟩=some (.int .i64 0):=(hc _ _ (by simp<;>omega)).trans (by simp[go_sem])
  clear hb hc hf
  go_wp2
  refine bodyPost_ret (by simp[results,Tryz.results53,go_sem,c0,c1];first|done|rfl) rfl ?_
  exact zBk rfl (zAD HB1.out (by omega) _ _)
theorem scalc20_c (w:World) (p q p' q':Int):Calls Tryz.prog 53 #[.int .i64 20,.agg #[p,q],.agg #[p',q']] w (NumPost w (negN (p,q))):=by
 all_goals
  go_enter Tryz.func53,Tryz.ntmps53
  go_wp2_with fail
  refine(sneg_c _ _ _).mono ?_
  rintro e w1 ⟨rfl,hb⟩
  have hz:=hb.size
  simp at hz
  obtain⟨hc,hf⟩:=bcell hb
  have HB1:=hbn (zAL _ _ _ _) hb
  have f0:w1.frozen? ⟨w.heap.size+1+1,0,none⟩=false:=(hf _ _ (by simp<;>omega)).trans (by simp[go_sem])
  have f1:w1.frozen? ⟨w.heap.size+1+1,1,none⟩=false:=(hf _ _ (by simp<;>omega)).trans (by simp[go_sem])
  have c0:w1.cell? ⟨w.heap.size+1+1,0,none⟩=some (.int .i64 0):=(hc _ _ (by simp<;>omega)).trans (by simp[go_sem])
  have c1:w1.cell? ⟨w.heap.size+1+1,1,none⟩=some (.int .i64 0):=(hc _ _ (by simp<;>omega)).trans (by simp[go_sem])
  clear hb hc hf
  go_wp2
  refine bodyPost_ret (by simp[results,Tryz.results53,go_sem,c0,c1];first|done|rfl) rfl ?_
  exact zBk rfl (zAD HB1.out (by omega) _ _)
theorem scalcBits_c (w:World) (o:Int) (p q p' q':Int) (h1:(o==1)=false) (h2:(o==2)=false) (h3:(o==3)=false) (h4:(o==4)=false) (h5:(o==5)=false) (h6:(o==6)=false) (h7:(o==7)=false) (h20:(o==20)=false):Calls Tryz.prog 53 #[o,.agg #[p,q],.agg #[p',q']] w (NumPost w (bitsN o (p,q) (p',q'))):=by
 all_goals
  go_enter Tryz.func53,Tryz.ntmps53
  go_wp2_with fail
  refine(sBits_c _ _ _ _ _ _).mono ?_
  rintro e w1 ⟨rfl,hb⟩
  have hz:=hb.size
  simp at hz
  obtain⟨hc,hf⟩:=bcell hb
  have HB1:=hbn (zAL _ _ _ _) hb
  have f0:w1.frozen? ⟨w.heap.size+1+1,0,none⟩=false:=(hf _ _ (by simp<;>omega)).trans (by simp[go_sem])
  have f1:w1.frozen? ⟨w.heap.size+1+1,1,none⟩=false:=(hf _ _ (by simp<;>omega)).trans (by simp[go_sem])
  have c0:w1.cell? ⟨w.heap.size+1+1,0,none⟩=some (.int .i64 0):=(hc _ _ (by simp<;>omega)).trans (by simp[go_sem])
  have c1:w1.cell? ⟨w.heap.size+1+1,1,none⟩=some (.int .i64 0):=(hc _ _ (by simp<;>omega)).trans (by simp[go_sem])
  clear hb hc hf
  go_wp2
  refine bodyPost_ret (by simp[results,Tryz.results53,go_sem,c0,c1];first|done|rfl) rfl ?_
  exact zBk rfl (zAD HB1.out (by omega) _ _)
theorem scalc7_c (w:World) (p q p' q':Int):Calls Tryz.prog 53 #[.int .i64 7,.agg #[p,q],.agg #[p',q']] w (NumPost w (powFix (powN (p,q) (p',q')))):=by
 obtain⟨M,hM⟩:∃M,M=powN (p,q) (p',q'):=⟨_,rfl⟩
 rw[←hM]
 have HM:=Lib.hid (fun W=>(hM▸spow_c W p q p' q':Calls Tryz.prog 105 #[.agg #[p,q],.agg #[p',q']] W (NumPost W M)))
 clear hM
 rcases pow_ways M with⟨hR,hE⟩|⟨hR,hE⟩
 all_goals
  have HR:=Lib.hid hR
  clear hR
  go_enter Tryz.func53,Tryz.ntmps53
  go_wp2_with fail
  refine(HM.out _).mono ?_
  rintro e w2 ⟨rfl,hb⟩
  have hz:=hb.size
  simp at hz
  obtain⟨hc,hf⟩:=bcell hb
  have c0:∀x y,(w2.alloc (.cells #[x,y] 23)).cell? ⟨w.heap.size+1+1,0,none⟩=some (.int .i64 0):=fun x y=>(zAG (by omega)).trans ((hc _ _ (by simp<;>omega)).trans (by simp[go_sem]))
  have c1:∀x y,(w2.alloc (.cells #[x,y] 23)).cell? ⟨w.heap.size+1+1,1,none⟩=some (.int .i64 0):=fun x y=>(zAG (by omega)).trans ((hc _ _ (by simp<;>omega)).trans (by simp[go_sem]))
  have f0:∀x y,(w2.alloc (.cells #[x,y] 23)).frozen? ⟨w.heap.size+1+1,0,none⟩=false:=fun x y=>(zAJ (by omega)).trans ((hf _ _ (by simp<;>omega)).trans (by simp[go_sem]))
  have f1:∀x y,(w2.alloc (.cells #[x,y] 23)).frozen? ⟨w.heap.size+1+1,1,none⟩=false:=fun x y=>(zAJ (by omega)).trans ((hf _ _ (by simp<;>omega)).trans (by simp[go_sem]))
  have HB2:=fun x y=>Lib.hid ((zAC (zAL _ _ _ _) hb).alloc (by omega) (.cells #[x,y] 23))
  clear hb hc hf
  go_wp2
  refine bodyPost_ret (by simp[results,Tryz.results53,go_sem,c0,c1];first|done|rfl) rfl ?_
 ·have hR:=HR.out
  rw[hR]
  exact zAV rfl (zAD (HB2 _ _).out (by omega) _ _)
 ·exact zBk HR.out (zAD (HB2 _ _).out (by omega) _ _)
theorem scalc_c (w:World) (o p q p' q':Int):Calls Tryz.prog 53 #[o,.agg #[p,q],.agg #[p',q']] w (NumPost w (arithN o (p,q) (p',q'))):=by
 unfold arithN
 have tf:∀a:Int,o≠a→(o==a)=false:=fun a h=>by rw[beq_eq_false_iff_ne];exact h
 by_cases h1:o=1
 ·subst h1;exact scalc1_c w p q p' q'
 rw[if_neg h1]
 by_cases h2:o=2
 ·subst h2;exact scalc2_c w p q p' q'
 rw[if_neg h2]
 by_cases h3:o=3
 ·subst h3;exact scalc3_c w p q p' q'
 rw[if_neg h3]
 by_cases h4:o=4
 ·subst h4;exact scalc4_c w p q p' q'
 rw[if_neg h4]
 by_cases h5:o=5
 ·subst h5;exact scalc5_c w p q p' q'
 rw[if_neg h5]
 by_cases h6:o=6
 ·subst h6;exact scalc6_c w p q p' q'
 rw[if_neg h6]
 by_cases h7:o=7
 ·subst h7;exact scalc7_c w p q p' q'
 rw[if_neg h7]
 by_cases h20:o=20
 ·subst h20;exact scalc20_c w p q p' q'
 rw[if_neg h20]
 exact scalcBits_c w o p q p' q' (tf _ h1) (tf _ h2) (tf _ h3) (tf _ h4) (tf _ h5) (tf _ h6) (tf _ h7) (tf _ h20)
theorem sunary_c (w:World) (o:Int):Calls Tryz.prog 46 #[.int .i64 o] w fun e w'=>e= .returned (.bool (decide (20≤o∧o≤23)))∧w=w':=by
 have hw:(¬20≤o)∨(20≤o∧¬o≤23)∨(20≤o∧o≤23):=by omega
 rcases hw with h|⟨h,h2⟩|⟨h,h2⟩
 all_goals
  go_enter Tryz.func46,Tryz.ntmps46
  go_wp2
  go_ret
  exact⟨zBq (by first|rfl|(simp_all;done)|(simp_all;omega)),rfl⟩
theorem splain_c (w:World) (o:Int) (k1 p1 q1:Int) (s1:ByteArray) (r1:Int) (k2 p2 q2:Int) (s2:ByteArray) (r2:Int):
  Calls Tryz.prog 12 #[o,.agg #[k1,p1,q1,s1,r1],.agg #[k2,p2,q2,s2,r2]] w (VrPost w (zAy o ⟨k1,p1,q1,s1,r1⟩ ⟨k2,p2,q2,s2,r2⟩)):=by
 obtain⟨R,hR⟩:∃R,R=zAy o ⟨k1,p1,q1,s1,r1⟩ ⟨k2,p2,q2,s2,r2⟩:=⟨_,rfl⟩
 rw[←hR]
 unfold zAy at hR
 have tf:∀a:Int,o≠a→(o==a)=false:=fun a h=>by rw[beq_eq_false_iff_ne];exact h
 have tt:∀a:Int,o=a→(o==a)=true:=fun a h=>by rw[beq_iff_eq];exact h
 have UN:∀b:Bool,(b=true↔(20≤o∧o≤23))→∀W,Calls Tryz.prog 46 #[.int .i64 o] W fun e w'=>e= .returned (.bool b)∧W=w':=fun b h W=>by
  have e:decide (20≤o∧o≤23)=b:=by rw[Bool.eq_iff_iff,decide_eq_true_eq];exact h.symm
  exact e▸sunary_c W o
 have VA:∀b,zAi ⟨k1,p1,q1,s1,r1⟩=b→∀W,Calls Tryz.prog 26 #[.agg #[k1,p1,q1,s1,r1]] W (BoolPost W b):=fun b h W=>h▸zBj W k1 p1 q1 s1 r1
 have VB:∀b,zAi ⟨k2,p2,q2,s2,r2⟩=b→∀W,Calls Tryz.prog 26 #[.agg #[k2,p2,q2,s2,r2]] W (BoolPost W b):=fun b h W=>h▸zBj W k2 p2 q2 s2 r2
 have num:∀(k p q:Int) (s:ByteArray) (r:Int),s.size≤4096→∀X,Calls Tryz.prog 52 #[.agg #[.int .i64 k,.int .i64 p,.int .i64 q,.string s,.int .i64 r]] X (NumPost X (zBY ⟨k,p,q,s,r⟩)):=fun k p q s r hs X=>sNumber_c X k p q s r (by omega)
 by_cases hr:1≤o∧o≤23
 ·obtain⟨g1,g2⟩:=hr
  cases ha:zAi ⟨k1,p1,q1,s1,r1⟩ with
  |false=>
   rw[if_pos (.inr (.inl ha))] at hR
   by_cases hu:20≤o
   ·exact splain_badA_un w o k1 p1 q1 s1 r1 k2 p2 q2 s2 r2 R g1 g2 (UN _ (by simp;omega)) (VA _ ha) hR
   ·exact splain_badA_bin w o k1 p1 q1 s1 r1 k2 p2 q2 s2 r2 R g1 g2 (UN _ (by simp;omega)) (VA _ ha) hR
  |true=>
   have z1:=zBW ha
   have hA:=VA _ ha
   by_cases hu:20≤o
   ·rw[if_neg (by rw[ha];simp;omega),if_neg (by omega),if_neg (by omega),if_neg (by omega),if_neg (by omega)] at hR
    have hun:=UN true (by simp;omega)
    by_cases h21:o=21
    ·rw[if_pos h21] at hR
     exact splain_not w o k1 p1 q1 s1 r1 k2 p2 q2 s2 r2 _ R g1 g2 hun hA hA (tf _ (by omega)) (tf _ (by omega)) (tf _ (by omega)) (tf _ (by omega)) (tf _ (by omega)) (tf _ (by omega)) (tf _ (by omega)) (tt _ h21) (fun W=>sTrue_c W k1 p1 q1 s1 r1) hR
    ·rw[if_neg h21] at hR
     by_cases h22:o=22
     ·rw[if_pos h22] at hR
      by_cases hk:k1=3
      ·rw[if_pos hk] at hR
       exact splain_len w o k1 p1 q1 s1 r1 k2 p2 q2 s2 r2 R g1 g2 hun hA hA (tf _ (by omega)) (tf _ (by omega)) (tf _ (by omega)) (tf _ (by omega)) (tf _ (by omega)) (tf _ (by omega)) (tf _ (by omega)) (tf _ h21) (tt _ h22) (by rw[bne_eq_false_iff_eq];exact hk) z1 hR
      ·rw[if_neg hk] at hR
       exact splain_lenerr w o k1 p1 q1 s1 r1 k2 p2 q2 s2 r2 R g1 g2 hun hA hA (tf _ (by omega)) (tf _ (by omega)) (tf _ (by omega)) (tf _ (by omega)) (tf _ (by omega)) (tf _ (by omega)) (tf _ (by omega)) (tf _ h21) (tt _ h22) (by rw[bne_iff_ne];exact hk) hR
     ·rw[if_neg h22] at hR
      have hs:zBt o ⟨k2,p2,q2,s2,r2⟩= .ok (0,1):=by unfold zBt;rw[if_pos hu]
      rw[hs,←second_same o _ (by omega)] at hR
      rcases numbers_ways o (zBY ⟨k1,p1,q1,s1,r1⟩) (zBY ⟨k1,p1,q1,s1,r1⟩) with⟨e1,h⟩|⟨e1,e2,h⟩|⟨e1,e2,e3,h⟩|⟨e1,e2,e3,h⟩
      ·exact splain_num_un_err1 w o k1 p1 q1 s1 r1 k2 p2 q2 s2 r2 _ _ _ R g1 g2 hun hA hA (tf _ (by omega)) (tf _ (by omega)) (tf _ (by omega)) (tf _ (by omega)) (tf _ (by omega)) (tf _ (by omega)) (tf _ (by omega)) (tf _ h21) (tf _ h22) (num k1 p1 q1 s1 r1 z1) (num k1 p1 q1 s1 r1 z1) (fun W=>scalc_c W o _ _ _ _) e1 (hR.trans h)
      ·exact splain_num_un_err2 w o k1 p1 q1 s1 r1 k2 p2 q2 s2 r2 _ _ _ R g1 g2 hun hA hA (tf _ (by omega)) (tf _ (by omega)) (tf _ (by omega)) (tf _ (by omega)) (tf _ (by omega)) (tf _ (by omega)) (tf _ (by omega)) (tf _ h21) (tf _ h22) (num k1 p1 q1 s1 r1 z1) (num k1 p1 q1 s1 r1 z1) (fun W=>scalc_c W o _ _ _ _) e1 e2 (hR.trans h)
      ·exact splain_num_un_zerr w o k1 p1 q1 s1 r1 k2 p2 q2 s2 r2 _ _ _ R g1 g2 hun hA hA (tf _ (by omega)) (tf _ (by omega)) (tf _ (by omega)) (tf _ (by omega)) (tf _ (by omega)) (tf _ (by omega)) (tf _ (by omega)) (tf _ h21) (tf _ h22) (num k1 p1 q1 s1 r1 z1) (num k1 p1 q1 s1 r1 z1) (fun W=>scalc_c W o _ _ _ _) e1 e2 e3 (hR.trans h)
      ·exact splain_num_un_ok w o k1 p1 q1 s1 r1 k2 p2 q2 s2 r2 _ _ _ R g1 g2 hun hA hA (tf _ (by omega)) (tf _ (by omega)) (tf _ (by omega)) (tf _ (by omega)) (tf _ (by omega)) (tf _ (by omega)) (tf _ (by omega)) (tf _ h21) (tf _ h22) (num k1 p1 q1 s1 r1 z1) (num k1 p1 q1 s1 r1 z1) (fun W=>scalc_c W o _ _ _ _) e1 e2 e3 (hR.trans h)
   ·have hun:=UN false (by simp;omega)
    cases hb:zAi ⟨k2,p2,q2,s2,r2⟩ with
    |false=>
     rw[if_pos (.inr (.inr ⟨by omega,hb⟩))] at hR
     exact splain_badB w o k1 p1 q1 s1 r1 k2 p2 q2 s2 r2 R g1 g2 hun hA (VB _ hb) hR
    |true=>
     have z2:=zBW hb
     have hB:=VB _ hb
     rw[if_neg (by rw[ha,hb];simp;omega)] at hR
     by_cases h8:o=8
     ·rw[if_pos h8] at hR
      exact splain_concat w o k1 p1 q1 s1 r1 k2 p2 q2 s2 r2 R g1 g2 hun hA hB (tt _ h8) (fun W=>by rw[hR];exact sconcat_c W k1 p1 q1 s1 r1 k2 p2 q2 s2 r2 z1 z2)
     ·rw[if_neg h8] at hR
      by_cases h14:o=14
      ·rw[if_pos h14] at hR
       exact splain_eq w o k1 p1 q1 s1 r1 k2 p2 q2 s2 r2 R g1 g2 hun hA hB (tf _ h8) (tt _ h14) hR
      ·rw[if_neg h14] at hR
       by_cases h15:o=15
       ·rw[if_pos h15] at hR
        exact splain_ne w o k1 p1 q1 s1 r1 k2 p2 q2 s2 r2 R g1 g2 hun hA hB (tf _ h8) (tf _ h14) (tt _ h15) hR
       ·rw[if_neg h15] at hR
        by_cases h16:16≤o
        ·rw[if_pos ⟨h16,by omega⟩] at hR
         have hc:∀W,Calls Tryz.prog 49 #[o,.agg #[k1,p1,q1,s1,r1],.agg #[k2,p2,q2,s2,r2]] W (VrPost W R):=fun W=>by rw[hR];exact scompare_c W o k1 p1 q1 s1 r1 k2 p2 q2 s2 r2 z1 z2 h16 (by omega)
         have ho:o=16∨o=17∨o=18∨o=19:=by omega
         rcases ho with h|h|h|h
         ·exact splain_cmp16 w o k1 p1 q1 s1 r1 k2 p2 q2 s2 r2 R g1 g2 hun hA hB (tf _ h8) (tf _ h14) (tf _ h15) (tt _ h) hc
         ·exact splain_cmp17 w o k1 p1 q1 s1 r1 k2 p2 q2 s2 r2 R g1 g2 hun hA hB (tf _ h8) (tf _ h14) (tf _ h15) (tf _ (by omega)) (tt _ h) hc
         ·exact splain_cmp18 w o k1 p1 q1 s1 r1 k2 p2 q2 s2 r2 R g1 g2 hun hA hB (tf _ h8) (tf _ h14) (tf _ h15) (tf _ (by omega)) (tf _ (by omega)) (tt _ h) hc
         ·exact splain_cmp19 w o k1 p1 q1 s1 r1 k2 p2 q2 s2 r2 R g1 g2 hun hA hB (tf _ h8) (tf _ h14) (tf _ h15) (tf _ (by omega)) (tf _ (by omega)) (tf _ (by omega)) (tt _ h) hc
        ·rw[if_neg (by omega),if_neg (by omega),if_neg (by omega)] at hR
         have hs:zBt o ⟨k2,p2,q2,s2,r2⟩=zBY ⟨k2,p2,q2,s2,r2⟩:=by unfold zBt;rw[if_neg hu]
         rw[hs] at hR
         rcases numbers_ways o (zBY ⟨k1,p1,q1,s1,r1⟩) (zBY ⟨k2,p2,q2,s2,r2⟩) with⟨e1,h⟩|⟨e1,e2,h⟩|⟨e1,e2,e3,h⟩|⟨e1,e2,e3,h⟩
         ·exact splain_num_bin_err1 w o k1 p1 q1 s1 r1 k2 p2 q2 s2 r2 _ _ _ R g1 g2 hun hA hB (tf _ (by omega)) (tf _ (by omega)) (tf _ (by omega)) (tf _ (by omega)) (tf _ (by omega)) (tf _ (by omega)) (tf _ (by omega)) (tf _ (by omega)) (tf _ (by omega)) (num k1 p1 q1 s1 r1 z1) (num k2 p2 q2 s2 r2 z2) (fun W=>scalc_c W o _ _ _ _) e1 (hR.trans h)
         ·exact splain_num_bin_err2 w o k1 p1 q1 s1 r1 k2 p2 q2 s2 r2 _ _ _ R g1 g2 hun hA hB (tf _ (by omega)) (tf _ (by omega)) (tf _ (by omega)) (tf _ (by omega)) (tf _ (by omega)) (tf _ (by omega)) (tf _ (by omega)) (tf _ (by omega)) (tf _ (by omega)) (num k1 p1 q1 s1 r1 z1) (num k2 p2 q2 s2 r2 z2) (fun W=>scalc_c W o _ _ _ _) e1 e2 (hR.trans h)
         ·exact splain_num_bin_zerr w o k1 p1 q1 s1 r1 k2 p2 q2 s2 r2 _ _ _ R g1 g2 hun hA hB (tf _ (by omega)) (tf _ (by omega)) (tf _ (by omega)) (tf _ (by omega)) (tf _ (by omega)) (tf _ (by omega)) (tf _ (by omega)) (tf _ (by omega)) (tf _ (by omega)) (num k1 p1 q1 s1 r1 z1) (num k2 p2 q2 s2 r2 z2) (fun W=>scalc_c W o _ _ _ _) e1 e2 e3 (hR.trans h)
         ·exact splain_num_bin_ok w o k1 p1 q1 s1 r1 k2 p2 q2 s2 r2 _ _ _ R g1 g2 hun hA hB (tf _ (by omega)) (tf _ (by omega)) (tf _ (by omega)) (tf _ (by omega)) (tf _ (by omega)) (tf _ (by omega)) (tf _ (by omega)) (tf _ (by omega)) (tf _ (by omega)) (num k1 p1 q1 s1 r1 z1) (num k2 p2 q2 s2 r2 z2) (fun W=>scalc_c W o _ _ _ _) e1 e2 e3 (hR.trans h)
 ·rw[if_pos (.inl hr)] at hR
  exact splain_bad_bin w o k1 p1 q1 s1 r1 k2 p2 q2 s2 r2 R (by omega) (UN _ (by simp;omega)) hR
end Go.Proofs.YthkpckgcgkijbaaGreatDoor
