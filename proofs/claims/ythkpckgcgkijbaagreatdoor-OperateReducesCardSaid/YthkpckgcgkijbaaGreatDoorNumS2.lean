import Derived.Test.YthkpckgcgkijbaaGreatDoorNumM
import Derived.Test.YthkpckgcgkijbaaGreatDoorTexD
import Derived.Test.YthkpckgcgkijbaaGreatDoorPlnA
import Derived.Test.YthkpckgcgkijbaaGreatDoorOpE1
import Derived.Test.YthkpckgcgkijbaaGreatDoorOpE2
import Derived.Test.YthkpckgcgkijbaaGreatDoorOpG
import Derived.Test.YthkpckgcgkijbaaGreatDoorOpH
set_option linter.unusedVariables false
set_option linter.unusedSimpArgs false
set_option maxRecDepth 100000
set_option maxHeartbeats 8000000
namespace Go.Proofs.YthkpckgcgkijbaaGreatDoor
open Go.RowKit Go.Proofs.Lexi
theorem pparse_plain (w:World) (s t u:ByteArray) (M R:RR) (m:Int) (hus:u.size≤2000000000) (hm:w.cell? ⟨0,0,none⟩=some (.int .i64 m))
  (htrim:PTrimTo s t) (hpre:PreTo t u false) (htw:∀W:World,W.cell? ⟨0,0,none⟩=some (.int .i64 m)→TailWays u M W) (hg:Good M) (hE:((((nE M:Nat):Int) !=0)=false)) (hc:∃a,M= .ok a) (hR:R=M):
  Calls Tryz.prog 144 #[.string s] w (NumPost w R):=by
 have h00:0<w.heap.size:=World.block_lt_of_cell? _ _ hm
 have HB:=Lib.hid (((Below.refl w.heap.size w).alloc (Nat.le_refl _) (o2 0 0)))
 have HTRIM:=Lib.hid htrim
 have HR2:=Lib.hid hR
 have HM:=Lib.hid hm
 have HPRE:=Lib.hid hpre
 have HTW:=Lib.hid htw
 have HC:=Lib.hid hc
 have hgb:=good_bounds hg
 obtain⟨g1,g2,g3⟩:=hgb
 clear hR hm htrim hpre htw hc hg
 go_enter Tryz.func144,Tryz.ntmps144
 go_wp2_with fail
 refine(HTRIM.out _).mono ?_
 rintro e w1 ⟨rfl,hb⟩
 have hz1:=hb.size
 simp at hz1
 obtain⟨hc1,hf1⟩:=bcell hb
 have q0:w1.cell? ⟨w.heap.size,0,none⟩=some (.int .i64 0):=(hc1 _ _ (by simp)).trans (by simp[go_sem])
 have q1:w1.cell? ⟨w.heap.size,1,none⟩=some (.int .i64 0):=(hc1 _ _ (by simp)).trans (by simp[go_sem])
 have p0:w1.frozen? ⟨w.heap.size,0,none⟩=false:=(hf1 _ _ (by simp)).trans (by simp[go_sem])
 have p1:w1.frozen? ⟨w.heap.size,1,none⟩=false:=(hf1 _ _ (by simp)).trans (by simp[go_sem])
 have m0:w1.cell? ⟨0,0,none⟩=some (.int .i64 m):=(hc1 _ _ (by simp)).trans ((zAG h00).trans HM.out)
 have HB1:=hbn HB.out hb
 obtain⟨F,hfind,hF⟩:=HTW.out w1 m0
 have HFIND:=Lib.hid hfind
 clear HTRIM hb hc1 hf1 hfind HTW
 go_wp2_with fail
 refine(HPRE.out _).mono ?_
 rintro e w1 ⟨rfl,rfl⟩
 rcases hF with⟨rfl,hcall⟩|⟨hx,p,e,f,rfl,he,hcall⟩|⟨hx,p,e,f,rfl,he,hcall⟩
 ·have HCALL:=Lib.hid hcall
  clear hcall
  go_wp2_with fail
  refine(HFIND.out _).mono ?_
  rintro e w2 ⟨rfl,hb⟩
  have hz2:=hb.size
  obtain⟨hc2,hf2⟩:=bcell hb
  have HB2:=hbn HB1.out hb
  have r0:w2.cell? ⟨w.heap.size,0,none⟩=some (.int .i64 0):=(hc2 _ _ (by omega)).trans q0
  have r1:w2.cell? ⟨w.heap.size,1,none⟩=some (.int .i64 0):=(hc2 _ _ (by omega)).trans q1
  have s0:w2.frozen? ⟨w.heap.size,0,none⟩=false:=(hf2 _ _ (by omega)).trans p0
  have s1:w2.frozen? ⟨w.heap.size,1,none⟩=false:=(hf2 _ _ (by omega)).trans p1
  have M0:=Lib.hid (hc2 0 0 (by omega))
  clear HFIND hb hc2 hf2 q0 q1 p0 p1 m0
  go_wp2_with fail
  refine(HCALL.out _ ((zAG (by simp)).trans ((zAG (by omega)).trans M0.out))).mono ?_
  rintro e w3 ⟨rfl,hb⟩
  have hz3:=hb.size
  simp at hz3
  obtain⟨hc3,hf3⟩:=bcell hb
  have c0:w3.cell? ⟨w.heap.size,0,none⟩=some (.int .i64 0):=(hc3 _ _ (by simp;omega)).trans ((zAG (by simp;omega)).trans ((zAG (by omega)).trans r0))
  have c1:w3.cell? ⟨w.heap.size,1,none⟩=some (.int .i64 0):=(hc3 _ _ (by simp;omega)).trans ((zAG (by simp;omega)).trans ((zAG (by omega)).trans r1))
  have f0:w3.frozen? ⟨w.heap.size,0,none⟩=false:=(hf3 _ _ (by simp;omega)).trans ((zAJ (by simp;omega)).trans ((zAJ (by omega)).trans s0))
  have f1:w3.frozen? ⟨w.heap.size,1,none⟩=false:=(hf3 _ _ (by simp;omega)).trans ((zAJ (by simp;omega)).trans ((zAJ (by omega)).trans s1))
  have d0:w3.cell? ⟨w2.heap.size+1,0,none⟩=some (.int .i64 0):=(hc3 _ _ (by simp)).trans (by simp[go_sem])
  have d1:w3.cell? ⟨w2.heap.size+1,1,none⟩=some (.int .i64 0):=(hc3 _ _ (by simp)).trans (by simp[go_sem])
  have k0:w3.frozen? ⟨w2.heap.size+1,0,none⟩=false:=(hf3 _ _ (by simp)).trans (by simp[go_sem])
  have k1:w3.frozen? ⟨w2.heap.size+1,1,none⟩=false:=(hf3 _ _ (by simp)).trans (by simp[go_sem])
  have HB3:=hbn HB2.out (zAC (zAF _ _ _) hb)
  have hb8:w.heap.size≤w2.heap.size+1:=by omega
  clear hb hc3 hf3 r0 r1 s0 s1
  go_wp2
  refine bodyPost_ret (by simp[results,Tryz.results144,go_sem,c0,c1];first|done|rfl) rfl ?_
  obtain⟨a,ha⟩:=HC.out
  have hR2:=HR2.out
  rw[ha] at hR2
  rw[ha];exact zCL hR2 (zAD (zAD HB3.out hb8 _ _) (Nat.le_refl _) _ _)
 ·have HCALL:=Lib.hid hcall
  clear hcall
  go_wp2_with fail
  refine(HFIND.out _).mono ?_
  rintro e w2 ⟨rfl,hb⟩
  have hz2:=hb.size
  obtain⟨hc2,hf2⟩:=bcell hb
  have HB2:=hbn HB1.out hb
  have r0:w2.cell? ⟨w.heap.size,0,none⟩=some (.int .i64 0):=(hc2 _ _ (by omega)).trans q0
  have r1:w2.cell? ⟨w.heap.size,1,none⟩=some (.int .i64 0):=(hc2 _ _ (by omega)).trans q1
  have s0:w2.frozen? ⟨w.heap.size,0,none⟩=false:=(hf2 _ _ (by omega)).trans p0
  have s1:w2.frozen? ⟨w.heap.size,1,none⟩=false:=(hf2 _ _ (by omega)).trans p1
  have M0:=Lib.hid (hc2 0 0 (by omega))
  clear HFIND hb hc2 hf2 q0 q1 p0 p1 m0
  go_wp2_with fail
  refine(HCALL.out _ ((zAG (by simp)).trans ((zAG (by omega)).trans M0.out))).mono ?_
  rintro e w3 ⟨rfl,hb⟩
  have hz3:=hb.size
  simp at hz3
  obtain⟨hc3,hf3⟩:=bcell hb
  have c0:w3.cell? ⟨w.heap.size,0,none⟩=some (.int .i64 0):=(hc3 _ _ (by simp;omega)).trans ((zAG (by simp;omega)).trans ((zAG (by omega)).trans r0))
  have c1:w3.cell? ⟨w.heap.size,1,none⟩=some (.int .i64 0):=(hc3 _ _ (by simp;omega)).trans ((zAG (by simp;omega)).trans ((zAG (by omega)).trans r1))
  have f0:w3.frozen? ⟨w.heap.size,0,none⟩=false:=(hf3 _ _ (by simp;omega)).trans ((zAJ (by simp;omega)).trans ((zAJ (by omega)).trans s0))
  have f1:w3.frozen? ⟨w.heap.size,1,none⟩=false:=(hf3 _ _ (by simp;omega)).trans ((zAJ (by simp;omega)).trans ((zAJ (by omega)).trans s1))
  have d0:w3.cell? ⟨w2.heap.size+1,0,none⟩=some (.int .i64 0):=(hc3 _ _ (by simp)).trans (by simp[go_sem])
  have d1:w3.cell? ⟨w2.heap.size+1,1,none⟩=some (.int .i64 0):=(hc3 _ _ (by simp)).trans (by simp[go_sem])
  have k0:w3.frozen? ⟨w2.heap.size+1,0,none⟩=false:=(hf3 _ _ (by simp)).trans (by simp[go_sem])
  have k1:w3.frozen? ⟨w2.heap.size+1,1,none⟩=false:=(hf3 _ _ (by simp)).trans (by simp[go_sem])
  have HB3:=hbn HB2.out (zAC (zAF _ _ _) hb)
  have hb8:w.heap.size≤w2.heap.size+1:=by omega
  clear hb hc3 hf3 r0 r1 s0 s1
  go_wp2
  refine bodyPost_ret (by simp[results,Tryz.results144,go_sem,c0,c1];first|done|rfl) rfl ?_
  obtain⟨a,ha⟩:=HC.out
  have hR2:=HR2.out
  rw[ha] at hR2
  rw[ha];exact zCL hR2 (zAD (zAD HB3.out hb8 _ _) (Nat.le_refl _) _ _)
 ·have HCALL:=Lib.hid hcall
  clear hcall
  go_wp2_with fail
  refine(HFIND.out _).mono ?_
  rintro e w2 ⟨rfl,hb⟩
  have hz2:=hb.size
  obtain⟨hc2,hf2⟩:=bcell hb
  have HB2:=hbn HB1.out hb
  have r0:w2.cell? ⟨w.heap.size,0,none⟩=some (.int .i64 0):=(hc2 _ _ (by omega)).trans q0
  have r1:w2.cell? ⟨w.heap.size,1,none⟩=some (.int .i64 0):=(hc2 _ _ (by omega)).trans q1
  have s0:w2.frozen? ⟨w.heap.size,0,none⟩=false:=(hf2 _ _ (by omega)).trans p0
  have s1:w2.frozen? ⟨w.heap.size,1,none⟩=false:=(hf2 _ _ (by omega)).trans p1
  have M0:=Lib.hid (hc2 0 0 (by omega))
  clear HFIND hb hc2 hf2 q0 q1 p0 p1 m0
  go_wp2_with fail
  refine(HCALL.out _).mono ?_
  rintro e w3 ⟨rfl,hb⟩
  have hz3:=hb.size
  simp at hz3
  obtain⟨hc3,hf3⟩:=bcell hb
  have c0:w3.cell? ⟨w.heap.size,0,none⟩=some (.int .i64 0):=(hc3 _ _ (by simp;omega)).trans ((zAG (by simp;omega)).trans ((zAG (by omega)).trans r0))
  have c1:w3.cell? ⟨w.heap.size,1,none⟩=some (.int .i64 0):=(hc3 _ _ (by simp;omega)).trans ((zAG (by simp;omega)).trans ((zAG (by omega)).trans r1))
  have f0:w3.frozen? ⟨w.heap.size,0,none⟩=false:=(hf3 _ _ (by simp;omega)).trans ((zAJ (by simp;omega)).trans ((zAJ (by omega)).trans s0))
  have f1:w3.frozen? ⟨w.heap.size,1,none⟩=false:=(hf3 _ _ (by simp;omega)).trans ((zAJ (by simp;omega)).trans ((zAJ (by omega)).trans s1))
  have d0:w3.cell? ⟨w2.heap.size+1,0,none⟩=some (.int .i64 0):=(hc3 _ _ (by simp)).trans (by simp[go_sem])
  have d1:w3.cell? ⟨w2.heap.size+1,1,none⟩=some (.int .i64 0):=(hc3 _ _ (by simp)).trans (by simp[go_sem])
  have k0:w3.frozen? ⟨w2.heap.size+1,0,none⟩=false:=(hf3 _ _ (by simp)).trans (by simp[go_sem])
  have k1:w3.frozen? ⟨w2.heap.size+1,1,none⟩=false:=(hf3 _ _ (by simp)).trans (by simp[go_sem])
  have HB3:=hbn HB2.out (zAC (zAF _ _ _) hb)
  have hb8:w.heap.size≤w2.heap.size+1:=by omega
  clear hb hc3 hf3 r0 r1 s0 s1
  go_wp2
  refine bodyPost_ret (by simp[results,Tryz.results144,go_sem,c0,c1];first|done|rfl) rfl ?_
  obtain⟨a,ha⟩:=HC.out
  have hR2:=HR2.out
  rw[ha] at hR2
  rw[ha];exact zCL hR2 (zAD (zAD HB3.out hb8 _ _) (Nat.le_refl _) _ _)
theorem pparse_c (w:World) (s:ByteArray) (hs:s.size≤2000000000) (m:Int) (hm:w.cell? ⟨0,0,none⟩=some (.int .i64 m)):Calls Tryz.prog 144 #[.string s] w (NumPost w (parseG (zAE s))):=by
 obtain⟨t,ht⟩:∃t:ByteArray,zAE t=trimG (zAE s):=⟨_,trim_bytes s⟩
 have htrim:PTrimTo s t:=fun W=>(ptrim_c W s hs).mono (by
  rintro e w' ⟨⟨r,rfl,hr⟩,hb⟩
  have:r=t:=zCE (hr.trans ht.symm)
  subst this
  exact⟨rfl,hb⟩)
 have hts:t.size≤2000000000:=by
  rw[←zAb,ht];exact Nat.le_trans (trimG_le _) (by rw[zAb];exact hs)
 obtain⟨u,minus,hpre,hus,hsg⟩:=pre_ways t hts
 have hg:=zBg (zAE u)
 have htw:∀W:World,W.cell? ⟨0,0,none⟩=some (.int .i64 m)→TailWays u (zAz (zAE u)) W:=fun W h=>tail_ways u hus W m h
 unfold parseG
 rw[←ht,hsg]
 rcases err_ways hg with⟨hE,hc⟩|⟨hE, -,hc⟩<;>cases minus
 ·exact pparse_errF w s t u _ _ m hus hm htrim hpre htw hg hE hc rfl
 ·exact pparse_errT w s t u _ _ m hus hm htrim hpre htw hg hE hc rfl
 ·exact pparse_plain w s t u _ _ m hus hm htrim hpre htw hg hE hc rfl
 ·exact pparse_min w s t u _ _ m hus hm htrim hpre htw hg hE hc rfl
theorem pNumber_two (w:World) (p q:Int) (s:ByteArray) (r:Int):Calls Tryz.prog 89 #[.agg #[.int .i64 2,p,q,s,r]] w (NumPost w (if zAT (p,q) then .ok (p,q) else .error 8)):=by
 cases hv:zAT (p,q)
 all_goals
  have HV:=Lib.hid (fun W=>(hv▸zBA W p q:Calls Tryz.prog 88 #[.agg #[.int .i64 p,.int .i64 q]] W (BoolPost W _)))
  clear hv
  go_enter Tryz.func89,Tryz.ntmps89
  go_wp2_with fail
  refine(HV.out _).mono ?_
  rintro e w1 ⟨rfl,hb⟩
  obtain⟨hc,hf⟩:=bcell hb
  have HB1:=hbn (zAF _ _ _) hb
  go_wp2
  refine bodyPost_ret (by simp[results,Tryz.results89,go_sem,hc];first|done|rfl) rfl ?_
  first
  |exact zAV rfl (by first|exact HB1.out|exact zAD HB1.out (by simp<;>omega) _ _)
  |exact zCL rfl (by first|exact HB1.out|exact zAD HB1.out (by simp<;>omega) _ _)
theorem pNumber_str (w:World) (p q:Int) (s:ByteArray) (r:Int) (hs:s.size≤2000000000) (m:Int) (hm:w.cell? ⟨0,0,none⟩=some (.int .i64 m)):Calls Tryz.prog 89 #[.agg #[.int .i64 3,p,q,s,r]] w (NumPost w (orType (parseG (zAE s)))):=by
 have hp:=(fun W (hW:W.cell? ⟨0,0,none⟩=w.cell? ⟨0,0,none⟩)=>pparse_c W s hs m (hW.trans hm))
 have hg:Good (parseG (zAE s)):=good_parse _
 obtain⟨M,hM⟩:∃M,parseG (zAE s)=M:=⟨_,rfl⟩
 rw[hM] at hp hg ⊢
 have HPARSE:=Lib.hid hp
 clear hp hM
 rcases err_ways hg with⟨hE,hc⟩|⟨hE, -,hc⟩
 all_goals
  have HM:=Lib.hid hm
  clear hm
  have HC:=Lib.hid hc
  have hE2:=ne_eq hE
  clear hc hg hE
  go_enter Tryz.func89,Tryz.ntmps89
  go_wp2_with fail
  refine(HPARSE.out _ ((zAG (by simp)).trans (zAG (World.block_lt_of_cell? _ _ HM.out)))).mono ?_
  rintro e w1 ⟨rfl,hb⟩
  have hz:=hb.size
  simp at hz
  obtain⟨hc,hf⟩:=bcell hb
  have c0:∀x y,(w1.alloc (.cells #[x,y] 23)).cell? ⟨w.heap.size+1,0,none⟩=some (.int .i64 0):=fun x y=>(zAG (by omega)).trans ((hc _ _ (by simp<;>omega)).trans (by simp[go_sem]))
  have c1:∀x y,(w1.alloc (.cells #[x,y] 23)).cell? ⟨w.heap.size+1,1,none⟩=some (.int .i64 0):=fun x y=>(zAG (by omega)).trans ((hc _ _ (by simp<;>omega)).trans (by simp[go_sem]))
  have f0:∀x y,(w1.alloc (.cells #[x,y] 23)).frozen? ⟨w.heap.size+1,0,none⟩=false:=fun x y=>(zAJ (by omega)).trans ((hf _ _ (by simp<;>omega)).trans (by simp[go_sem]))
  have f1:∀x y,(w1.alloc (.cells #[x,y] 23)).frozen? ⟨w.heap.size+1,1,none⟩=false:=fun x y=>(zAJ (by omega)).trans ((hf _ _ (by simp<;>omega)).trans (by simp[go_sem]))
  have HB2:=fun x y=>Lib.hid ((zAC (zAF _ _ _) hb).alloc (by omega) (.cells #[x,y] 23))
  clear hb hc hf
  go_wp2
  refine bodyPost_ret (by simp[results,Tryz.results89,go_sem,c0,c1];first|done|rfl) rfl ?_
  have hc:=HC.out
  clear HC
  obtain⟨a,ha⟩:=hc
  first
  |exact zAV (by rw[ha];rfl) (zAD (HB2 _ _).out (by omega) _ _)
  |(rw[ha];exact zCL rfl (zAD (HB2 _ _).out (by omega) _ _))
theorem pNumber_other (w:World) (k p q:Int) (s:ByteArray) (r:Int) (h2:(k==2)=false) (h3:(k==3)=false):Calls Tryz.prog 89 #[.agg #[k,p,q,s,r]] w (NumPost w (.error 8)):=by
 go_enter Tryz.func89,Tryz.ntmps89
 go_wp2
 refine bodyPost_ret (by simp[results,Tryz.results89,go_sem];first|done|rfl) rfl ?_
 exact zAV rfl (by first|exact zAF _ _ _|exact zAD (zAF _ _ _) (by simp<;>omega) _ _)
theorem pNumber_c (w:World) (k p q:Int) (s:ByteArray) (r:Int) (hs:s.size≤2000000000) (m:Int) (hm:w.cell? ⟨0,0,none⟩=some (.int .i64 m)):Calls Tryz.prog 89 #[.agg #[k,p,q,s,r]] w (NumPost w (zBY ⟨k,p,q,s,r⟩)):=by
 unfold zBY
 by_cases h2:k=2
 ·subst h2;exact pNumber_two w p q s r
 ·by_cases h3:k=3
  ·subst h3;exact pNumber_str w p q s r hs m hm
  ·rw[if_neg h2,if_neg h3]
   exact pNumber_other w k p q s r (by rw[beq_eq_false_iff_ne];exact h2) (by rw[beq_eq_false_iff_ne];exact h3)
theorem un_to {o:Int} {b:Bool} (h:decide (20≤o∧o≤23)=b):PureTo 34 o b:=fun W=>h▸punary_c W o
theorem bi_to {o:Int} {b:Bool} (h:decide (1≤o∧o≤19)=b):PureTo 35 o b:=fun W=>h▸pbinary_c W o
theorem ar_to {o:Int} {b:Bool} (h:decide (1≤o∧o≤7)=b):PureTo 37 o b:=fun W=>h▸parithmetic_c W o
theorem bw_to {o:Int} {b:Bool} (h:decide ((9≤o∧o≤13)∨o=23)=b):PureTo 38 o b:=fun W=>h▸pbitwise_c W o
theorem pnumbers_c (w:World) (hg:Glob w) (o:Int) (k1 p1 q1:Int) (s1:ByteArray) (r1:Int) (k2 p2 q2:Int) (s2:ByteArray) (r2:Int) (h1:s1.size≤4096) (h2:o<20→s2.size≤4096) (ho:o≤23) (W:World) (hW:Below w.heap.size w W):
  Calls Tryz.prog 39 #[o,.agg #[k1,p1,q1,s1,r1],.agg #[k2,p2,q2,s2,r2]] W
   (VrPost W (numbersV o (zBY ⟨k1,p1,q1,s1,r1⟩) (zBt o ⟨k2,p2,q2,s2,r2⟩))):=by
 have hgW:=hg.stays hW
 have num:∀(k p q:Int) (s:ByteArray) (r:Int),s.size≤4096→∀X,Below W.heap.size W X→Calls Tryz.prog 89 #[.agg #[.int .i64 k,.int .i64 p,.int .i64 q,.string s,.int .i64 r]] X (NumPost X (zBY ⟨k,p,q,s,r⟩)):=fun k p q s r hs X hX=>by
  obtain⟨⟨m,hm⟩,_⟩:=hgW.stays hX
  exact pNumber_c X k p q s r (by omega) m hm
 unfold zBt
 by_cases hu:20≤o
 ·rw[if_pos hu]
  refine pnumbers_un W o k1 p1 q1 s1 r1 k2 p2 q2 s2 r2 _ _ _ _ (fun X=>un_to (by rw[decide_eq_true_eq];omega) X) (num k1 p1 q1 s1 r1 h1) (fun X hX=> ?_) (fun X=>pcalc_c X o _ _ _ _) (numbers_ways o _ _)
  have h:=num 2 0 1 ⟨#[]⟩ 0 (by decide) X hX
  have e:zBY ⟨2,0,1,⟨#[]⟩,0⟩= .ok (0,1):=by
   have hv:zAT (0,1)=true:=by decide
   show(if zAT (0,1) then(.ok (0,1):RR) else .error 8)= .ok (0,1)
   rw[hv];rfl
  rwa [e] at h
 ·rw[if_neg hu]
  exact pnumbers_bin W o k1 p1 q1 s1 r1 k2 p2 q2 s2 r2 _ _ _ _ (fun X=>un_to (by rw[decide_eq_false_iff_not];omega) X) (num k1 p1 q1 s1 r1 h1) (num k2 p2 q2 s2 r2 (h2 (by omega))) (fun X=>pcalc_c X o _ _ _ _) (numbers_ways o _ _)
theorem pplain_c (w:World) (hg:Glob w) (o:Int) (k1 p1 q1:Int) (s1:ByteArray) (r1:Int) (k2 p2 q2:Int) (s2:ByteArray) (r2:Int):
  Calls Tryz.prog 11 #[o,.agg #[k1,p1,q1,s1,r1],.agg #[k2,p2,q2,s2,r2]] w
   (VrPost w (zAy o ⟨k1,p1,q1,s1,r1⟩ ⟨k2,p2,q2,s2,r2⟩)):=by
 obtain⟨R,hR⟩:∃R,R=zAy o ⟨k1,p1,q1,s1,r1⟩ ⟨k2,p2,q2,s2,r2⟩:=⟨_,rfl⟩
 rw[←hR]
 unfold zAy at hR
 have tf:∀a:Int,o≠a→(o==a)=false:=fun a h=>by rw[beq_eq_false_iff_ne];exact h
 have tt:∀a:Int,o=a→(o==a)=true:=fun a h=>by rw[beq_iff_eq];exact h
 have UN:∀b:Bool,(b=true↔(20≤o∧o≤23))→PureTo 34 o b:=fun b h=>un_to (by rw[Bool.eq_iff_iff,decide_eq_true_eq];exact h.symm)
 have BI:∀b:Bool,(b=true↔(1≤o∧o≤19))→PureTo 35 o b:=fun b h=>bi_to (by rw[Bool.eq_iff_iff,decide_eq_true_eq];exact h.symm)
 have AR:∀b:Bool,(b=true↔(1≤o∧o≤7))→PureTo 37 o b:=fun b h=>ar_to (by rw[Bool.eq_iff_iff,decide_eq_true_eq];exact h.symm)
 have BW:∀b:Bool,(b=true↔((9≤o∧o≤13)∨o=23))→PureTo 38 o b:=fun b h=>bw_to (by rw[Bool.eq_iff_iff,decide_eq_true_eq];exact h.symm)
 have VA:∀b,zAi ⟨k1,p1,q1,s1,r1⟩=b→∀W,Calls Tryz.prog 36 #[.agg #[k1,p1,q1,s1,r1]] W (BoolPost W b):=fun b h W=>h▸pvalidV_c W k1 p1 q1 s1 r1
 have VB:∀b,zAi ⟨k2,p2,q2,s2,r2⟩=b→∀W,Calls Tryz.prog 36 #[.agg #[k2,p2,q2,s2,r2]] W (BoolPost W b):=fun b h W=>h▸pvalidV_c W k2 p2 q2 s2 r2
 by_cases hr:1≤o∧o≤23
 ·cases ha:zAi ⟨k1,p1,q1,s1,r1⟩ with
  |false=>
   rw[if_pos (.inr (.inl ha))] at hR
   by_cases hu:20≤o
   ·exact pplain_badA_un w o k1 p1 q1 s1 r1 k2 p2 q2 s2 r2 R (UN _ (by simp;omega)) (BI _ (by simp;omega)) (VA _ ha) hR
   ·exact pplain_badA_bin w o k1 p1 q1 s1 r1 k2 p2 q2 s2 r2 R (UN _ (by simp;omega)) (BI _ (by simp;omega)) (VA _ ha) hR
  |true=>
   have z1:=zBW ha
   have hA:=VA _ ha
   by_cases hu:20≤o
   ·rw[if_neg (by rw[ha];simp;omega),if_neg (by omega),if_neg (by omega),if_neg (by omega),if_neg (by omega)] at hR
    have hun:=UN true (by simp;omega)
    have hbi:=BI false (by simp;omega)
    have har:=AR false (by simp;omega)
    by_cases h21:o=21
    ·rw[if_pos h21] at hR
     exact pplain_not w o k1 p1 q1 s1 r1 k2 p2 q2 s2 r2 _ R hun hbi har (BW _ (by simp;omega)) hA (tf _ (by omega)) (tf _ (by omega)) (tf _ (by omega)) (tf _ (by omega)) (tt _ h21) (fun W=>pTrue_c W k1 p1 q1 s1 r1) hR
    ·rw[if_neg h21] at hR
     by_cases h22:o=22
     ·rw[if_pos h22] at hR
      by_cases hk:k1=3
      ·rw[if_pos hk] at hR
       exact pplain_len w o k1 p1 q1 s1 r1 k2 p2 q2 s2 r2 R hun hbi har (BW _ (by simp;omega)) hA (tf _ (by omega)) (tf _ (by omega)) (tf _ (by omega)) (tf _ (by omega)) (tf _ (by omega)) (tt _ h22) (by rw[bne_eq_false_iff_eq];exact hk) z1 hR
      ·rw[if_neg hk] at hR
       exact pplain_lenerr w o k1 p1 q1 s1 r1 k2 p2 q2 s2 r2 R hun hbi har (BW _ (by simp;omega)) hA (tf _ (by omega)) (tf _ (by omega)) (tf _ (by omega)) (tf _ (by omega)) (tf _ (by omega)) (tt _ h22) (by rw[bne_iff_ne];exact hk) hR
     ·rw[if_neg h22] at hR
      have hc:∀W,Below w.heap.size w W→Calls Tryz.prog 39 #[o,.agg #[k1,p1,q1,s1,r1],.agg #[k2,p2,q2,s2,r2]] W (VrPost W R):=fun W hW=>by
       rw[hR];exact pnumbers_c w hg o k1 p1 q1 s1 r1 k2 p2 q2 s2 r2 z1 (fun h=>by omega) (by omega) W hW
      by_cases h20:o=20
      ·exact pplain_neg w o k1 p1 q1 s1 r1 k2 p2 q2 s2 r2 R hun hbi har (BW _ (by simp;omega)) hA (tt _ h20) hc
      ·exact pplain_bnot w o k1 p1 q1 s1 r1 k2 p2 q2 s2 r2 R hun hbi har (BW _ (by simp;omega)) hA hc
   ·have hun:=UN false (by simp;omega)
    have hbi:=BI true (by simp;omega)
    cases hb:zAi ⟨k2,p2,q2,s2,r2⟩ with
    |false=>
     rw[if_pos (.inr (.inr ⟨by omega,hb⟩))] at hR
     exact pplain_badB w o k1 p1 q1 s1 r1 k2 p2 q2 s2 r2 R hun hbi hA (VB _ hb) hR
    |true=>
     have z2:=zBW hb
     have hB:=VB _ hb
     rw[if_neg (by rw[ha,hb];simp;omega)] at hR
     by_cases h8:o=8
     ·rw[if_pos h8] at hR
      exact pplain_concat w o k1 p1 q1 s1 r1 k2 p2 q2 s2 r2 R hun hbi (AR _ (by simp;omega)) (BW _ (by simp;omega)) hA hB (tf _ (by omega)) (tt _ h8) (fun W hW=>by
       rw[hR];exact pconcat_c W (hg.stays hW).2 k1 p1 q1 s1 r1 k2 p2 q2 s2 r2 z1 z2)
     ·rw[if_neg h8] at hR
      by_cases h14:o=14
      ·rw[if_pos h14] at hR
       exact pplain_eq w o k1 p1 q1 s1 r1 k2 p2 q2 s2 r2 _ R hun hbi (AR _ (by simp;omega)) (BW _ (by simp;omega)) hA hB (tf _ (by omega)) (tf _ h8) (tt _ h14) (fun W=>pSame_c W ⟨k1,p1,q1,s1,r1⟩ ⟨k2,p2,q2,s2,r2⟩) hR
      ·rw[if_neg h14] at hR
       by_cases h15:o=15
       ·rw[if_pos h15] at hR
        exact pplain_ne w o k1 p1 q1 s1 r1 k2 p2 q2 s2 r2 _ R hun hbi (AR _ (by simp;omega)) (BW _ (by simp;omega)) hA hB (tf _ (by omega)) (tf _ h8) (tf _ h14) (tt _ h15) (fun W=>pSame_c W ⟨k1,p1,q1,s1,r1⟩ ⟨k2,p2,q2,s2,r2⟩) hR
       ·rw[if_neg h15] at hR
        by_cases h16:16≤o
        ·rw[if_pos ⟨h16,by omega⟩] at hR
         exact pplain_compare w o k1 p1 q1 s1 r1 k2 p2 q2 s2 r2 R hun hbi (AR _ (by simp;omega)) (BW _ (by simp;omega)) hA hB (tf _ (by omega)) (tf _ h8) (tf _ h14) (tf _ h15) (tf _ (by omega)) (tf _ (by omega)) (fun W _=>by
          rw[hR];exact pcompare_c W o k1 p1 q1 s1 r1 k2 p2 q2 s2 r2 z1 z2 h16 (by omega))
        ·rw[if_neg (by omega),if_neg (by omega),if_neg (by omega)] at hR
         have hc:∀W,Below w.heap.size w W→Calls Tryz.prog 39 #[o,.agg #[k1,p1,q1,s1,r1],.agg #[k2,p2,q2,s2,r2]] W (VrPost W R):=fun W hW=>by
          rw[hR];exact pnumbers_c w hg o k1 p1 q1 s1 r1 k2 p2 q2 s2 r2 z1 (fun _=>z2) (by omega) W hW
         by_cases h7:o≤7
         ·exact pplain_arith w o k1 p1 q1 s1 r1 k2 p2 q2 s2 r2 R hun hbi (AR _ (by simp;omega)) (BW _ (by simp;omega)) hA hB hc
         ·exact pplain_bitwise w o k1 p1 q1 s1 r1 k2 p2 q2 s2 r2 R hun hbi (AR _ (by simp;omega)) (BW _ (by simp;omega)) hA hB hc
 ·rw[if_pos (.inl hr)] at hR
  exact pplain_bad w o k1 p1 q1 s1 r1 k2 p2 q2 s2 r2 R (UN _ (by simp;omega)) (BI _ (by simp;omega)) (AR _ (by simp;omega)) (BW _ (by simp;omega)) hR
theorem pNumber0_c (w:World) (k1 p1 q1:Int) (s1:ByteArray) (r1:Int) (hs:s1.size≤2000000000) (m:Int) (hm:w.cell? ⟨0,0,none⟩=some (.int .i64 m)):Calls Tryz.prog 182 #[.agg #[k1,p1,q1,s1,r1]] w (BoolPost w (isNum ⟨k1,p1,q1,s1,r1⟩)):=by
 obtain⟨b,hb0⟩:∃b,b=isNum ⟨k1,p1,q1,s1,r1⟩:=⟨_,rfl⟩
 rw[←hb0]
 have HB:=Lib.hid ((isNum_e ⟨k1,p1,q1,s1,r1⟩).trans hb0.symm)
 clear hb0
 go_enter Tryz.func182,Tryz.ntmps182
 go_wp2_with fail
 refine(pNumber_c _ k1 p1 q1 s1 r1 (by exact hs) m (((zAm _ _).cell (p:=⟨0,0,none⟩) (World.block_lt_of_cell? _ _ hm)).trans hm)).mono ?_
 rintro e w1 ⟨rfl,hb⟩
 have hE:=HB.out
 go_wp2
 go_ret
 exact⟨rfl,(zAC (zAm _ _) hb).alloc (by have:=hb.size;simp at this;omega) _⟩
theorem pText0_c (w:World) (k1 p1 q1:Int) (s1:ByteArray) (r1:Int) (htab:Pow10 w):Calls Tryz.prog 183 #[.agg #[k1,p1,q1,s1,r1]] w (BoolPost w (isStr ⟨k1,p1,q1,s1,r1⟩)):=by
 obtain⟨b,hb0⟩:∃b,b=isStr ⟨k1,p1,q1,s1,r1⟩:=⟨_,rfl⟩
 rw[←hb0]
 have HB:=Lib.hid ((isStr_e ⟨k1,p1,q1,s1,r1⟩).trans hb0.symm)
 clear hb0
 go_enter Tryz.func183,Tryz.ntmps183
 go_wp2_with fail
 refine(pStr_c _ k1 p1 q1 s1 r1 (htab.stays (zAm _ _))).mono ?_
 rintro e w1 ⟨rfl,hb⟩
 have hE:=HB.out
 go_wp2
 go_ret
 exact⟨rfl,zAC (zAm _ _) hb⟩
theorem pAttempt_c (w:World) (s:ByteArray) (hs:s.size≤100) (k1 p1 q1:Int) (s1:ByteArray) (r1:Int) (hk:i64 k1):Calls Tryz.prog 131 #[s,.agg #[k1,p1,q1,s1,r1]] w (StrPost w (⟨#[97,116,116,101,109,112,116,32,116,111,32]⟩++s++⟨#[32,97,32]⟩++typeM k1++sValue)):=by
 have hts:=zAs k1
 go_enter Tryz.func131,Tryz.ntmps131
 go_wp2_with fail
 refine(pType_c _ k1 p1 q1 s1 r1 hk).mono ?_
 rintro e w1 ⟨rfl,hb⟩
 go_wp2
 go_ret
 exact⟨rfl,zAC (zAm _ _) hb⟩
theorem pLength_str (w:World) (hp:Value) (k1 p1 q1:Int) (s1:ByteArray) (r1:Int) (hk:(k1==3)=true):Calls Tryz.prog 79 #[hp,.agg #[k1,p1,q1,s1,r1]] w (NdPost w (ndVal (intV (s1.size:Int)))):=by
 go_enter Tryz.func79,Tryz.ntmps79
 go_wp2_with fail
 refine(pOfInt_c _ _).mono ?_
 rintro e w1 ⟨rfl,hb⟩
 have Ha1:=hkh hb (zAf _ _ _)
 have Hu1:=hkh hb (zAW _ _ _)
 have HW1:=hbn (zAF _ _ _) hb
 have hz1:=hb.size
 try simp at hz1
 clear hb
 have hyu:w.heap.size+1<w1.heap.size:=hsz Hu1
 obtain⟨u0,u1,u2,u3,u4,u5,u6,u7,u8,u9,u10,u11,u12,u13⟩:=cells14 Hu1.out
 obtain⟨fu0,fu1,fu2,fu3,fu4,fu5,fu6,fu7,fu8,fu9,fu10,fu11,fu12,fu13⟩:=froz14 Hu1.out
 go_wp2_with fail
 refine(pmIs_c _ _ _ _ _ _).mono ?_
 rintro e w2 ⟨av,rfl,hA,hb⟩
 obtain⟨ao,an,ac,rfl⟩:=hA.shape
 have HA:=Lib.hid hA
 clear hA
 have Ha2:=hkh hb Ha1.out
 have Hu2:=hkh hb Hu1.out
 have HW2:=hbn HW1.out hb
 have hz2:=hb.size
 try simp at hz2
 clear hb
 clear hyu u0 fu0 u1 fu1 u2 fu2 u3 fu3 u4 fu4 u5 fu5 u6 fu6 u7 fu7 u8 fu8 u9 fu9 u10 fu10 u11 fu11 u12 fu12 u13 fu13
 have hyu:w.heap.size+1<w2.heap.size:=hsz Hu2
 obtain⟨u0,u1,u2,u3,u4,u5,u6,u7,u8,u9,u10,u11,u12,u13⟩:=cells14 Hu2.out
 obtain⟨fu0,fu1,fu2,fu3,fu4,fu5,fu6,fu7,fu8,fu9,fu10,fu11,fu12,fu13⟩:=froz14 Hu2.out
 go_wp2
 refine bodyPost_ret (by simp[results,Tryz.results79,go_sem,hyu,u0,u1,u2,u3,u4,u5,u6,u7,u8,u9,u10,u11,u12,u13];first|done|rfl) rfl ?_
 exact zAt (r:=w.heap.size+1) HW2.out HA.out (by omega) (by omega) (by omega) (zAM (F:=fun b=>b=w.heap.size+1) (Mods.refl _ _) (.inl rfl) _ _ _ _ _ _ _ _ _ _ _ _ _ _)
theorem pLength_call (w:World) (hp:Value) (k1 p1 q1:Int) (s1:ByteArray) (r1:Int) (mk mp mq:Int) (ms:ByteArray) (mr:Int) (hk:(k1==3)=false) (hm:(mk !=0)=true) (HH:∀W,Below w.heap.size w W→Calls Tryz.prog 127 #[hp,.agg #[k1,p1,q1,s1,r1],.string ⟨#[95,95,108,101,110]⟩] W (ValPost W ⟨mk,mp,mq,ms,mr⟩)):Calls Tryz.prog 79 #[hp,.agg #[k1,p1,q1,s1,r1]] w (NdPost w (zBs ⟨mk,mp,mq,ms,mr⟩ [⟨k1,p1,q1,s1,r1⟩,⟨k1,p1,q1,s1,r1⟩] 1)):=by
 have HHH:=Lib.hid HH
 clear HH
 go_enter Tryz.func79,Tryz.ntmps79
 go_wp2_with fail
 refine(HHH.out _ (zAF _ _ _)).mono ?_
 rintro e w1 ⟨rfl,hb⟩
 have Ha1:=hkh hb (zAf _ _ _)
 have Hu1:=hkh hb (zAW _ _ _)
 have HW1:=hbn (zAF _ _ _) hb
 have hz1:=hb.size
 try simp at hz1
 clear hb
 have hya:w.heap.size<w1.heap.size:=hsz Ha1
 obtain⟨a0,a1,a2,a3,a4⟩:=cells5 Ha1.out
 have hyu:w.heap.size+1<w1.heap.size:=hsz Hu1
 obtain⟨u0,u1,u2,u3,u4,u5,u6,u7,u8,u9,u10,u11,u12,u13⟩:=cells14 Hu1.out
 obtain⟨fu0,fu1,fu2,fu3,fu4,fu5,fu6,fu7,fu8,fu9,fu10,fu11,fu12,fu13⟩:=froz14 Hu1.out
 go_wp2_with fail
 refine(pmCalled_c _ w1.heap.size (w1.heap.size+1) (by omega) mk mp mq ms mr 1 ⟨k1,p1,q1,s1,r1⟩ ⟨k1,p1,q1,s1,r1⟩ (zAW _ _ _)).mono ?_
 rintro e w2 ⟨av,rfl,hA,hb⟩
 obtain⟨ao,an,ac,rfl⟩:=hA.shape
 have HA:=Lib.hid hA
 have Hu2:=hkh hb (zAp Hu1.out _ _)
 have HW2:=hbn ((HW1.out.alloc HW1.out.size _).alloc (by have:=HW1.out.size;simp;omega) _) hb
 have hz2:=hb.size
 try simp at hz2
 clear hA hb
 clear hya a0 a1 a2 a3 a4 hyu u0 fu0 u1 fu1 u2 fu2 u3 fu3 u4 fu4 u5 fu5 u6 fu6 u7 fu7 u8 fu8 u9 fu9 u10 fu10 u11 fu11 u12 fu12 u13 fu13
 have hyu:w.heap.size+1<w2.heap.size:=hsz Hu2
 obtain⟨u0,u1,u2,u3,u4,u5,u6,u7,u8,u9,u10,u11,u12,u13⟩:=cells14 Hu2.out
 obtain⟨fu0,fu1,fu2,fu3,fu4,fu5,fu6,fu7,fu8,fu9,fu10,fu11,fu12,fu13⟩:=froz14 Hu2.out
 go_wp2
 refine bodyPost_ret (by simp[results,Tryz.results79,go_sem,hyu,u0,u1,u2,u3,u4,u5,u6,u7,u8,u9,u10,u11,u12,u13];first|done|rfl) rfl ?_
 exact zAt (r:=w.heap.size+1) HW2.out HA.out (by omega) (by omega) (by omega) (zAM (F:=fun b=>b=w.heap.size+1) (Mods.refl _ _) (.inl rfl) _ _ _ _ _ _ _ _ _ _ _ _ _ _)
theorem pLength_tab (w:World) (hp:Value) (k1 p1 q1:Int) (s1:ByteArray) (r1:Int) (mk mp mq:Int) (ms:ByteArray) (mr:Int) (hk:(k1==3)=false) (hk4:(k1==4)=true) (hm:(mk !=0)=false) (HH:∀W,Below w.heap.size w W→Calls Tryz.prog 127 #[hp,.agg #[k1,p1,q1,s1,r1],.string ⟨#[95,95,108,101,110]⟩] W (ValPost W ⟨mk,mp,mq,ms,mr⟩)) (c:Nat) (HL:∀W,Below w.heap.size w W→Calls Tryz.prog 129 #[hp,.agg #[k1,p1,q1,s1,r1]] W (PtrPost W (.tuple #[.int .i64 0,.int .i64 (c:Nat)]))):Calls Tryz.prog 79 #[hp,.agg #[k1,p1,q1,s1,r1]] w (NdPost w (ndVal (intV 0))):=by
 have HHH:=Lib.hid HH
 have HHL:=Lib.hid HL
 clear HH HL
 go_enter Tryz.func79,Tryz.ntmps79
 go_wp2_with fail
 refine(HHH.out _ (zAF _ _ _)).mono ?_
 rintro e w1 ⟨rfl,hb⟩
 have Ha1:=hkh hb (zAf _ _ _)
 have Hu1:=hkh hb (zAW _ _ _)
 have HW1:=hbn (zAF _ _ _) hb
 have hz1:=hb.size
 try simp at hz1
 clear hb
 have hya:w.heap.size<w1.heap.size:=hsz Ha1
 obtain⟨a0,a1,a2,a3,a4⟩:=cells5 Ha1.out
 have hyu:w.heap.size+1<w1.heap.size:=hsz Hu1
 obtain⟨u0,u1,u2,u3,u4,u5,u6,u7,u8,u9,u10,u11,u12,u13⟩:=cells14 Hu1.out
 obtain⟨fu0,fu1,fu2,fu3,fu4,fu5,fu6,fu7,fu8,fu9,fu10,fu11,fu12,fu13⟩:=froz14 Hu1.out
 go_wp2_with fail
 refine(HHL.out _ (HW1.out.alloc HW1.out.size (oV mk mp mq ms mr))).mono ?_
 rintro e w2 ⟨rfl,hb⟩
 have Hu2:=hkh hb (zAI Hu1.out _)
 have HW2:=hbn (HW1.out.alloc HW1.out.size (oV mk mp mq ms mr)) hb
 have hz2:=hb.size
 try simp at hz2
 clear hb
 clear hya a0 a1 a2 a3 a4 hyu u0 fu0 u1 fu1 u2 fu2 u3 fu3 u4 fu4 u5 fu5 u6 fu6 u7 fu7 u8 fu8 u9 fu9 u10 fu10 u11 fu11 u12 fu12 u13 fu13
 go_wp2_with fail
 refine(pOfInt_c _ _).mono ?_
 rintro e w3 ⟨rfl,hb⟩
 have Hu3:=hkh hb Hu2.out
 have HW3:=hbn HW2.out hb
 have hz3:=hb.size
 try simp at hz3
 clear hb
 go_wp2_with fail
 refine(pmIs_c _ _ _ _ _ _).mono ?_
 rintro e w4 ⟨av,rfl,hA,hb⟩
 obtain⟨ao,an,ac,rfl⟩:=hA.shape
 have HA:=Lib.hid hA
 clear hA
 have Hu4:=hkh hb Hu3.out
 have HW4:=hbn HW3.out hb
 have hz4:=hb.size
 try simp at hz4
 clear hb
 have hyu:w.heap.size+1<w4.heap.size:=hsz Hu4
 obtain⟨u0,u1,u2,u3,u4,u5,u6,u7,u8,u9,u10,u11,u12,u13⟩:=cells14 Hu4.out
 obtain⟨fu0,fu1,fu2,fu3,fu4,fu5,fu6,fu7,fu8,fu9,fu10,fu11,fu12,fu13⟩:=froz14 Hu4.out
 go_wp2
 refine bodyPost_ret (by simp[results,Tryz.results79,go_sem,hyu,u0,u1,u2,u3,u4,u5,u6,u7,u8,u9,u10,u11,u12,u13];first|done|rfl) rfl ?_
 exact zAt (r:=w.heap.size+1) HW4.out HA.out (by omega) (by omega) (by omega) (zAM (F:=fun b=>b=w.heap.size+1) (Mods.refl _ _) (.inl rfl) _ _ _ _ _ _ _ _ _ _ _ _ _ _)
theorem pLength_bad (w:World) (hp:Value) (k1 p1 q1:Int) (s1:ByteArray) (r1:Int) (mk mp mq:Int) (ms:ByteArray) (mr:Int) (hk:(k1==3)=false) (hk4:(k1==4)=false) (hki:i64 k1) (hm:(mk !=0)=false) (HH:∀W,Below w.heap.size w W→Calls Tryz.prog 127 #[hp,.agg #[k1,p1,q1,s1,r1],.string ⟨#[95,95,108,101,110]⟩] W (ValPost W ⟨mk,mp,mq,ms,mr⟩)):Calls Tryz.prog 79 #[hp,.agg #[k1,p1,q1,s1,r1]] w (NdPost w (ndErr (sLenOf++typeM k1++sValue))):=by
 have HHH:=Lib.hid HH
 have Hhki:=Lib.hid hki
 clear HH hki
 go_enter Tryz.func79,Tryz.ntmps79
 go_wp2_with fail
 refine(HHH.out _ (zAF _ _ _)).mono ?_
 rintro e w1 ⟨rfl,hb⟩
 have Ha1:=hkh hb (zAf _ _ _)
 have Hu1:=hkh hb (zAW _ _ _)
 have HW1:=hbn (zAF _ _ _) hb
 have hz1:=hb.size
 try simp at hz1
 clear hb
 have hya:w.heap.size<w1.heap.size:=hsz Ha1
 obtain⟨a0,a1,a2,a3,a4⟩:=cells5 Ha1.out
 have hyu:w.heap.size+1<w1.heap.size:=hsz Hu1
 obtain⟨u0,u1,u2,u3,u4,u5,u6,u7,u8,u9,u10,u11,u12,u13⟩:=cells14 Hu1.out
 obtain⟨fu0,fu1,fu2,fu3,fu4,fu5,fu6,fu7,fu8,fu9,fu10,fu11,fu12,fu13⟩:=froz14 Hu1.out
 go_wp2_with fail
 refine(pAttempt_c _ _ (by decide) k1 p1 q1 s1 r1 Hhki.out).mono ?_
 rintro e w2 ⟨rfl,hb⟩
 have Hu2:=hkh hb (zAI Hu1.out _)
 have HW2:=hbn (HW1.out.alloc HW1.out.size (oV mk mp mq ms mr)) hb
 have hz2:=hb.size
 try simp at hz2
 clear hb
 clear hya a0 a1 a2 a3 a4 hyu u0 fu0 u1 fu1 u2 fu2 u3 fu3 u4 fu4 u5 fu5 u6 fu6 u7 fu7 u8 fu8 u9 fu9 u10 fu10 u11 fu11 u12 fu12 u13 fu13
 have hts:=zAs k1
 go_wp2_with fail
 refine(pmFails_c _ _).mono ?_
 rintro e w3 ⟨av,rfl,hA,hb⟩
 obtain⟨ao,an,ac,rfl⟩:=hA.shape
 have HA:=Lib.hid hA
 clear hA
 have Hu3:=hkh hb Hu2.out
 have HW3:=hbn HW2.out hb
 have hz3:=hb.size
 try simp at hz3
 clear hb
 have hyu:w.heap.size+1<w3.heap.size:=hsz Hu3
 obtain⟨u0,u1,u2,u3,u4,u5,u6,u7,u8,u9,u10,u11,u12,u13⟩:=cells14 Hu3.out
 obtain⟨fu0,fu1,fu2,fu3,fu4,fu5,fu6,fu7,fu8,fu9,fu10,fu11,fu12,fu13⟩:=froz14 Hu3.out
 go_wp2
 refine bodyPost_ret (by simp[results,Tryz.results79,go_sem,hyu,u0,u1,u2,u3,u4,u5,u6,u7,u8,u9,u10,u11,u12,u13];first|done|rfl) rfl ?_
 exact zAt (r:=w.heap.size+1) HW3.out HA.out (by omega) (by omega) (by omega) (zAM (F:=fun b=>b=w.heap.size+1) (Mods.refl _ _) (.inl rfl) _ _ _ _ _ _ _ _ _ _ _ _ _ _)
theorem pLength_c (w:World) (hp:Value) (hand:V→ByteArray→V) (k1 p1 q1:Int) (s1:ByteArray) (r1:Int) (hki:i64 k1) (HH:∀W,Below w.heap.size w W→Calls Tryz.prog 127 #[hp,.agg #[k1,p1,q1,s1,r1],.string ⟨#[95,95,108,101,110]⟩] W (ValPost W (hand ⟨k1,p1,q1,s1,r1⟩ (zBK 22))))
  (HL:k1=4→∃c:Nat,∀W,Below w.heap.size w W→Calls Tryz.prog 129 #[hp,.agg #[k1,p1,q1,s1,r1]] W (PtrPost W (.tuple #[.int .i64 0,.int .i64 (c:Nat)]))):
  Calls Tryz.prog 79 #[hp,.agg #[k1,p1,q1,s1,r1]] w (NdPost w (lenM hand ⟨k1,p1,q1,s1,r1⟩)):=by
 unfold lenM
 obtain⟨⟨mk,mp,mq,ms,mr⟩,hM⟩:∃M,hand ⟨k1,p1,q1,s1,r1⟩ (zBK 22)=M:=⟨_,rfl⟩
 rw[hM] at HH ⊢
 by_cases h3:k1=3
 ·rw[if_pos h3]
  exact pLength_str w hp k1 p1 q1 s1 r1 (beq_iff_eq.2 h3)
 ·rw[if_neg h3]
  have h3':=beq_eq_false_iff_ne.2 h3
  by_cases hm:mk=0
  ·rw[if_neg (fun h=>h hm)]
   have hm':(mk !=0)=false:=by rw[bne_eq_false_iff_eq];exact hm
   by_cases h4:k1=4
   ·rw[if_pos h4]
    obtain⟨c,hc⟩:=HL h4
    exact pLength_tab w hp k1 p1 q1 s1 r1 mk mp mq ms mr h3' (beq_iff_eq.2 h4) hm' HH c hc
   ·rw[if_neg h4]
    exact pLength_bad w hp k1 p1 q1 s1 r1 mk mp mq ms mr h3' (beq_eq_false_iff_ne.2 h4) hki hm' HH
  ·rw[if_pos hm]
   exact pLength_call w hp k1 p1 q1 s1 r1 mk mp mq ms mr h3' (by rw[bne_iff_ne];exact hm) HH
def HandAt (F:FuncId) (hp:Value) (hand:V→ByteArray→V) (w:World):Prop:=∀W,Below w.heap.size w W→∀(k p q:Int) (s:ByteArray) (r:Int) (ev:ByteArray),i64 r→ev.size≤4096→
 Calls Tryz.prog F #[hp,.agg #[k,p,q,s,r],ev] W (ValPost W (hand ⟨k,p,q,s,r⟩ ev))
theorem HandAt.stays {F:FuncId} {hp:Value} {hand:V→ByteArray→V} {w w':World} (h:HandAt F hp hand w) (hb:Below w.heap.size w w'):HandAt F hp hand w':=fun W hW=>h W (zAC hb hW)
theorem pWrong_c (w:World) (hg:Glob w) (o:Int) (k1 p1 q1:Int) (s1:ByteArray) (r1:Int) (k2 p2 q2:Int) (s2:ByteArray) (r2:Int) (hk1:i64 k1) (hr1:i64 r1) (hs1:s1.size≤2000000000) (hk2:i64 k2) (hr2:i64 r2) (hs2:s2.size≤2000000000):Calls Tryz.prog 122 #[o,.agg #[k1,p1,q1,s1,r1],.agg #[k2,p2,q2,s2,r2]] w (StrPost w (wrongM o ⟨k1,p1,q1,s1,r1⟩ ⟨k2,p2,q2,s2,r2⟩)):=by
 have NA:∀W,Below w.heap.size w W→Calls Tryz.prog 182 #[.agg #[k1,p1,q1,s1,r1]] W (BoolPost W (isNum ⟨k1,p1,q1,s1,r1⟩)):=fun W hb=>by
  obtain⟨⟨m,hm⟩,_⟩:=hg.stays hb
  exact pNumber0_c W k1 p1 q1 s1 r1 hs1 m hm
 have NB:∀W,Below w.heap.size w W→Calls Tryz.prog 182 #[.agg #[k2,p2,q2,s2,r2]] W (BoolPost W (isNum ⟨k2,p2,q2,s2,r2⟩)):=fun W hb=>by
  obtain⟨⟨m,hm⟩,_⟩:=hg.stays hb
  exact pNumber0_c W k2 p2 q2 s2 r2 hs2 m hm
 have FN:=fun W ba bb (hb:Below w.heap.size w W) ha hb2=>pFirst_num W ba bb k1 p1 q1 s1 r1 k2 p2 q2 s2 r2 ha hb2 hk1 hk2 (isNum ⟨k1,p1,q1,s1,r1⟩) (fun W' hb'=>NA W' (zAC hb hb'))
 have FT:=fun W ba bb (hb:Below w.heap.size w W) ha hb2=>pFirst_text W ba bb k1 p1 q1 s1 r1 k2 p2 q2 s2 r2 ha hb2 hk1 hk2 (isStr ⟨k1,p1,q1,s1,r1⟩) (fun W' hb'=>pText0_c W' k1 p1 q1 s1 r1 ((hg.stays hb).stays hb').2)
 unfold wrongM
 by_cases hA:1≤o∧o≤7
 ·rw[if_pos (.inl hA)]
  exact pWrong_arith w o k1 p1 q1 s1 r1 k2 p2 q2 s2 r2 _ (zAs _) FN (ar_to (by rw[decide_eq_true_eq];exact hA))
 ·have har:PureTo 37 o false:=ar_to (by rw[decide_eq_false_iff_not];exact hA)
  by_cases h20:o=20
  ·rw[if_pos (.inr h20)]
   exact pWrong_neg w o k1 p1 q1 s1 r1 k2 p2 q2 s2 r2 (beq_iff_eq.2 h20) _ (zAs _) FN har
  ·have h20':(o==20)=false:=beq_eq_false_iff_ne.2 h20
   rw[if_neg (by rintro(h|h);exact hA h;exact h20 h)]
   by_cases hB:(9≤o∧o≤13)∨o=23
   ·have hbw:PureTo 38 o true:=bw_to (by rw[decide_eq_true_eq];exact hB)
    rw[if_pos hB]
    cases hn1:isNum ⟨k1,p1,q1,s1,r1⟩ with
    |true=>
     rw[hn1] at NA FN
     cases hn2:isNum ⟨k2,p2,q2,s2,r2⟩ with
     |true=>
      rw[hn2] at NB
      exact pWrong_bit_tt w o k1 p1 q1 s1 r1 k2 p2 q2 s2 r2 NA NB h20' har hbw
     |false=>
      rw[hn2] at NB
      exact pWrong_bit_tf w o k1 p1 q1 s1 r1 k2 p2 q2 s2 r2 NA NB h20' har hbw _ (zAs _) FN
    |false=>
     rw[hn1] at NA FN
     exact pWrong_bit_f w o k1 p1 q1 s1 r1 k2 p2 q2 s2 r2 NA h20' har hbw _ (zAs _) FN
   ·have hbw:PureTo 38 o false:=bw_to (by rw[decide_eq_false_iff_not];exact hB)
    rw[if_neg hB]
    by_cases h8:o=8
    ·rw[if_pos h8]
     exact pWrong_conc w o k1 p1 q1 s1 r1 k2 p2 q2 s2 r2 (beq_iff_eq.2 h8) _ (zAs _) FT h20' har hbw
    ·have h8':(o==8)=false:=beq_eq_false_iff_ne.2 h8
     rw[if_neg h8]
     by_cases he:zAE (typeM k1)=zAE (typeM k2)
     ·rw[if_pos he]
      exact pWrong_two w o k1 p1 q1 s1 r1 k2 p2 q2 s2 r2 _ _ (zAs _) (zAs _) (fun W=>pType_c W k1 p1 q1 s1 r1 hk1) (fun W=>pType_c W k2 p2 q2 s2 r2 hk2) h8' h20' har hbw (eqs_of he)
     ·rw[if_neg he]
      exact pWrong_more w o k1 p1 q1 s1 r1 k2 p2 q2 s2 r2 _ _ (zAs _) (zAs _) (fun W=>pType_c W k1 p1 q1 s1 r1 hk1) (fun W=>pType_c W k2 p2 q2 s2 r2 hk2) h8' h20' har hbw (nes_of he)
theorem pFindH_c {w:World} {ho:Option Addr} {hand:V→ByteArray→V} (HH:HandAt 127 (.pointer ho) hand w) (ev:ByteArray) (hev:ev.size≤4096) (k1 p1 q1:Int) (s1:ByteArray) (r1:Int) (k2 p2 q2:Int) (s2:ByteArray) (r2:Int) (hr1:i64 r1) (hr2:i64 r2):
  ∀W bh be,Below w.heap.size w W→W.heap[bh]? =some (.cells #[.pointer ho] 36)→W.heap[be]? =some (.cells #[.string ev] 9)→
   Calls Tryz.prog 179 #[.agg #[k1,p1,q1,s1,r1],.agg #[k2,p2,q2,s2,r2],.pointer (some ⟨bh,0,none⟩),.pointer (some ⟨be,0,none⟩)] W (ValPost W (findH hand ev ⟨k1,p1,q1,s1,r1⟩ ⟨k2,p2,q2,s2,r2⟩)):=fun W bh be hb h1 h2=>
 pFind1_c W bh be ho ev h1 h2 k1 p1 q1 s1 r1 k2 p2 q2 s2 r2 _ _ (fun W' hb'=>HH W' (zAC hb hb') k1 p1 q1 s1 r1 ev hr1 hev) (fun W' hb'=>HH W' (zAC hb hb') k2 p2 q2 s2 r2 ev hr2 hev)
theorem pSettled_c (w:World) (hg:Glob w) (ho:Option Addr) (hand:V→ByteArray→V) (HH:HandAt 127 (.pointer ho) hand w) (o:Int) (R:VR) (hR0:∀c,R= .error c→c≠0) (k1 p1 q1:Int) (s1:ByteArray) (r1:Int) (k2 p2 q2:Int) (s2:ByteArray) (r2:Int) (hk1:i64 k1) (hr1:i64 r1) (hs1:s1.size≤2000000000) (hk2:i64 k2) (hr2:i64 r2) (hs2:s2.size≤2000000000) (base g:Nat) (hbase:base≤g) (hgb:w.heap[g]? =some (.cells #[k1,p1,q1,s1,r1,k2,p2,q2,s2,r2] 25)):
  Calls Tryz.prog 74 #[.pointer ho,o,.agg #[.int .i64 (vV R).k,.int .i64 (vV R).p,.int .i64 (vV R).q,.string (vV R).s,.int .i64 (vV R).r],.int .i64 (vE R:Nat),.slice (some ⟨g,0,none⟩) 2 2] w (NdB w base (zBa hand o R ⟨k1,p1,q1,s1,r1⟩ ⟨k2,p2,q2,s2,r2⟩)):=by
 cases R with
 |ok v=>exact pSettled_ok w ho o v.k v.p v.q v.s v.r 0 base g hbase k1 p1 q1 s1 r1 k2 p2 q2 s2 r2 hgb rfl
 |error c=>
  have hc0:=hR0 c rfl
  have h0:(((c:Nat):Int)==0)=false:=by rw[beq_eq_false_iff_ne];omega
  show Calls Tryz.prog 74 #[.pointer ho,o,.agg #[.int .i64 0,.int .i64 0,.int .i64 0,.string ⟨#[]⟩,.int .i64 0],.int .i64 (c:Nat),.slice (some ⟨g,0,none⟩) 2 2] w (NdB w base (if c=7 then ndErr sZero else if c=6 then ndErr sRange else if c=14 then ndErr sLong
   else if (findH hand (zBK o) ⟨k1,p1,q1,s1,r1⟩ ⟨k2,p2,q2,s2,r2⟩).k=0 then ndErr (wrongM o ⟨k1,p1,q1,s1,r1⟩ ⟨k2,p2,q2,s2,r2⟩) else zBs (findH hand (zBK o) ⟨k1,p1,q1,s1,r1⟩ ⟨k2,p2,q2,s2,r2⟩) [⟨k1,p1,q1,s1,r1⟩,⟨k2,p2,q2,s2,r2⟩] (if o=16∨o=17 then 2 else 1)))
  by_cases h7:c=7
  ·subst h7
   rw[if_pos rfl]
   exact pSettled_zero w ho o 0 0 0 ⟨#[]⟩ 0 _ base g hbase k1 p1 q1 s1 r1 k2 p2 q2 s2 r2 hgb rfl rfl
  ·rw[if_neg h7]
   have h7':(((c:Nat):Int)==7)=false:=by rw[beq_eq_false_iff_ne];omega
   by_cases h6:c=6
   ·subst h6
    rw[if_pos rfl]
    exact pSettled_range w ho o 0 0 0 ⟨#[]⟩ 0 _ base g hbase k1 p1 q1 s1 r1 k2 p2 q2 s2 r2 hgb rfl rfl rfl
   ·rw[if_neg h6]
    have h6':(((c:Nat):Int)==6)=false:=by rw[beq_eq_false_iff_ne];omega
    by_cases h14:c=14
    ·subst h14
     rw[if_pos rfl]
     exact pSettled_long w ho o 0 0 0 ⟨#[]⟩ 0 _ base g hbase k1 p1 q1 s1 r1 k2 p2 q2 s2 r2 hgb rfl rfl rfl rfl
    ·rw[if_neg h14]
     have h14':(((c:Nat):Int)==14)=false:=by rw[beq_eq_false_iff_ne];omega
     have FI:=pFindH_c HH (zBK o) (event_size o) k1 p1 q1 s1 r1 k2 p2 q2 s2 r2 hr1 hr2
     have EV:=fun W=>pEvent_c W o
     obtain⟨⟨xk,xp,xq,xs,xr⟩,hX⟩:∃X,findH hand (zBK o) ⟨k1,p1,q1,s1,r1⟩ ⟨k2,p2,q2,s2,r2⟩=X:=⟨_,rfl⟩
     rw[hX] at FI ⊢
     by_cases hx:xk=0
     ·rw[if_pos hx]
      exact pSettled_miss w ho o 0 0 0 ⟨#[]⟩ 0 _ base g hbase k1 p1 q1 s1 r1 k2 p2 q2 s2 r2 hgb xk xp xq xs xr h0 h7' h6' h14' _ EV FI (beq_iff_eq.2 hx) _ (fun W hb=>pWrong_c W (hg.stays hb) o k1 p1 q1 s1 r1 k2 p2 q2 s2 r2 hk1 hr1 hs1 hk2 hr2 hs2)
     ·rw[if_neg hx]
      refine pSettled_hit w ho o 0 0 0 ⟨#[]⟩ 0 _ base g hbase k1 p1 q1 s1 r1 k2 p2 q2 s2 r2 hgb xk xp xq xs xr h0 h7' h6' h14' _ EV FI (beq_eq_false_iff_ne.2 hx) _ ?_
      by_cases h16:o=16
      ·exact .inl ⟨beq_iff_eq.2 h16,if_pos (.inl h16)⟩
      ·by_cases h17:o=17
       ·exact .inr (.inl ⟨beq_eq_false_iff_ne.2 h16,beq_iff_eq.2 h17,if_pos (.inr h17)⟩)
       ·exact .inr (.inr ⟨beq_eq_false_iff_ne.2 h16,beq_eq_false_iff_ne.2 h17,if_neg (by omega)⟩)
theorem pBinaryX_c (w:World) (hg:Glob w) (ho:Option Addr) (hand:V→ByteArray→V) (HH:HandAt 127 (.pointer ho) hand w) (o:Int) (k1 p1 q1:Int) (s1:ByteArray) (r1:Int) (k2 p2 q2:Int) (s2:ByteArray) (r2:Int) (hk1:i64 k1) (hr1:i64 r1) (hk2:i64 k2) (hr2:i64 r2) (EQX:(o=14∨o=15)→zAi ⟨k1,p1,q1,s1,r1⟩=true→zAi ⟨k2,p2,q2,s2,r2⟩=true→∀W,Below w.heap.size w W→Calls Tryz.prog 73 #[.pointer ho,o,.agg #[k1,p1,q1,s1,r1],.agg #[k2,p2,q2,s2,r2]] W (NdPost W (equalM hand o ⟨k1,p1,q1,s1,r1⟩ ⟨k2,p2,q2,s2,r2⟩))):
  Calls Tryz.prog 20 #[.pointer ho,o,.agg #[k1,p1,q1,s1,r1],.agg #[k2,p2,q2,s2,r2]] w (NdPost w (zAw hand o ⟨k1,p1,q1,s1,r1⟩ ⟨k2,p2,q2,s2,r2⟩)):=by
 have VA:=fun W=>pvalidV_c W k1 p1 q1 s1 r1
 have VB:=fun W=>pvalidV_c W k2 p2 q2 s2 r2
 unfold zAw
 by_cases hbi:1≤o∧o≤19
 rotate_left
 ·rw[if_pos (.inl hbi)]
  exact pBinary_bad w _ o k1 p1 q1 s1 r1 k2 p2 q2 s2 r2 (bi_to (by rw[decide_eq_false_iff_not];exact hbi))
 have hbi':PureTo 35 o true:=bi_to (by rw[decide_eq_true_eq];exact hbi)
 cases hv1:zAi ⟨k1,p1,q1,s1,r1⟩ with
 |false=>
  rw[hv1] at VA
  rw[if_pos (.inr (.inl rfl))]
  exact pBinary_badA w _ o k1 p1 q1 s1 r1 k2 p2 q2 s2 r2 hbi' VA
 |true=>
  rw[hv1] at VA
  cases hv2:zAi ⟨k2,p2,q2,s2,r2⟩ with
  |false=>
   rw[hv2] at VB
   rw[if_pos (.inr (.inr rfl))]
   exact pBinary_badB w _ o k1 p1 q1 s1 r1 k2 p2 q2 s2 r2 hbi' VA VB
  |true=>
   rw[hv2] at VB
   have hs1:s1.size≤2000000000:=Nat.le_trans (zBW hv1) (by omega)
   have hs2:s2.size≤2000000000:=Nat.le_trans (zBW hv2) (by omega)
   rw[if_neg (by rintro(h|h|h);exact h hbi;cases h;cases h)]
   by_cases h18:o=18
   ·rw[if_pos h18]
    exact pBinary_gt w _ o k1 p1 q1 s1 r1 k2 p2 q2 s2 r2 hbi' VA VB (beq_iff_eq.2 h18) _ _ (fun W hb=>pplain_c W (hg.stays hb) 16 k2 p2 q2 s2 r2 k1 p1 q1 s1 r1) (fun W base g hb hbase hgb=>pSettled_c W (hg.stays hb) ho hand (HH.stays hb) 16 _ (fun c hc=>by have:=plain_err (by omega) hv2 (fun _=>hv1) hc;omega) k2 p2 q2 s2 r2 k1 p1 q1 s1 r1 hk2 hr2 hs2 hk1 hr1 hs1 base g hbase hgb)
   ·have h18':(o==18)=false:=beq_eq_false_iff_ne.2 h18
    rw[if_neg h18]
    by_cases h19:o=19
    ·rw[if_pos h19]
     exact pBinary_ge w _ o k1 p1 q1 s1 r1 k2 p2 q2 s2 r2 hbi' VA VB h18' (beq_iff_eq.2 h19) _ _ (fun W hb=>pplain_c W (hg.stays hb) 17 k2 p2 q2 s2 r2 k1 p1 q1 s1 r1) (fun W base g hb hbase hgb=>pSettled_c W (hg.stays hb) ho hand (HH.stays hb) 17 _ (fun c hc=>by have:=plain_err (by omega) hv2 (fun _=>hv1) hc;omega) k2 p2 q2 s2 r2 k1 p1 q1 s1 r1 hk2 hr2 hs2 hk1 hr1 hs1 base g hbase hgb)
    ·have h19':(o==19)=false:=beq_eq_false_iff_ne.2 h19
     rw[if_neg h19]
     by_cases heq:o=14∨o=15
     ·rw[if_pos heq]
      have EQ:=EQX heq hv1 hv2
      by_cases h14:o=14
      ·exact pBinary_eq w _ o k1 p1 q1 s1 r1 k2 p2 q2 s2 r2 hbi' VA VB h18' h19' (beq_iff_eq.2 h14) _ EQ
      ·exact pBinary_ne w _ o k1 p1 q1 s1 r1 k2 p2 q2 s2 r2 hbi' VA VB h18' h19' (beq_eq_false_iff_ne.2 h14) (beq_iff_eq.2 (by omega)) _ EQ
     ·rw[if_neg heq]
      exact pBinary_else w _ o k1 p1 q1 s1 r1 k2 p2 q2 s2 r2 hbi' VA VB h18' h19' (beq_eq_false_iff_ne.2 (by omega)) (beq_eq_false_iff_ne.2 (by omega)) _ _ (fun W hb=>pplain_c W (hg.stays hb) o k1 p1 q1 s1 r1 k2 p2 q2 s2 r2) (fun W base g hb hbase hgb=>pSettled_c W (hg.stays hb) ho hand (HH.stays hb) o _ (fun c hc=>by have:=plain_err (by omega) hv1 (fun _=>hv2) hc;omega) k1 p1 q1 s1 r1 k2 p2 q2 s2 r2 hk1 hr1 hs1 hk2 hr2 hs2 base g hbase hgb)
theorem pUnary_c (w:World) (hg:Glob w) (ho:Option Addr) (hand:V→ByteArray→V) (HH:HandAt 127 (.pointer ho) hand w) (o:Int) (k1 p1 q1:Int) (s1:ByteArray) (r1:Int) (hk1:i64 k1) (hr1:i64 r1)
  (HL:k1=4→∃c:Nat,∀W,Below w.heap.size w W→Calls Tryz.prog 129 #[.pointer ho,.agg #[k1,p1,q1,s1,r1]] W (PtrPost W (.tuple #[.int .i64 0,.int .i64 (c:Nat)]))):
  Calls Tryz.prog 22 #[.pointer ho,o,.agg #[k1,p1,q1,s1,r1]] w (NdPost w (unaryM hand o ⟨k1,p1,q1,s1,r1⟩)):=by
 have VA:=fun W=>pvalidV_c W k1 p1 q1 s1 r1
 unfold unaryM
 by_cases hun:20≤o∧o≤23
 rotate_left
 ·rw[if_pos (.inl hun)]
  exact pUnary_bad w _ o k1 p1 q1 s1 r1 (un_to (by rw[decide_eq_false_iff_not];exact hun))
 have hun':PureTo 34 o true:=un_to (by rw[decide_eq_true_eq];exact hun)
 cases hv1:zAi ⟨k1,p1,q1,s1,r1⟩ with
 |false=>
  rw[hv1] at VA
  rw[if_pos (.inr rfl)]
  exact pUnary_badA w _ o k1 p1 q1 s1 r1 hun' VA
 |true=>
  rw[hv1] at VA
  have hs1:s1.size≤2000000000:=Nat.le_trans (zBW hv1) (by omega)
  rw[if_neg (by rintro(h|h);exact h hun;cases h)]
  by_cases h22:o=22
  ·rw[if_pos h22]
   exact pUnary_len w _ o k1 p1 q1 s1 r1 hun' VA (beq_iff_eq.2 h22) _ (fun W hb=>pLength_c W _ hand k1 p1 q1 s1 r1 hk1 (fun W' hb'=>HH W' (zAC hb hb') k1 p1 q1 s1 r1 (zBK 22) hr1 (event_size 22)) (fun h4=>by obtain⟨c,hc⟩:=HL h4;exact⟨c,fun W' hb'=>hc W' (zAC hb hb')⟩))
  ·rw[if_neg h22]
   exact pUnary_else w _ o k1 p1 q1 s1 r1 hun' VA (beq_eq_false_iff_ne.2 h22) _ _ (fun W hb=>pplain_c W (hg.stays hb) o k1 p1 q1 s1 r1 0 0 0 ⟨#[]⟩ 0) (fun W base g hb hbase hgb=>pSettled_c W (hg.stays hb) ho hand (HH.stays hb) o _ (fun c hc=>by have:=plain_err (by omega) hv1 (fun h=>by omega) hc;omega) k1 p1 q1 s1 r1 k1 p1 q1 s1 r1 hk1 hr1 hs1 hk1 hr1 hs1 base g hbase hgb)
end Go.Proofs.YthkpckgcgkijbaaGreatDoor
