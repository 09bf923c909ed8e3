import Derived.Test.YthkpckgcgkijbaaGreatDoorLwA
import Derived.Test.YthkpckgcgkijbaaGreatDoorTexD
import Derived.Test.YthkpckgcgkijbaaGreatDoorBitC
set_option linter.unusedVariables false
set_option linter.unusedSimpArgs false
set_option maxRecDepth 100000
set_option maxHeartbeats 20000000
namespace Go.Proofs.YthkpckgcgkijbaaGreatDoor
open Go.RowKit Go.Proofs.Lexi Go.Proofs.Tryz
theorem TZ (w:World) (p q:Int) (s:ByteArray) (r:Int):Calls prog 89 #[.agg #[.int .i64 2,p,q,s,r]] w (NumPost w (if QT (p,q) then .ok (p,q) else .error 8)):=by
 cases hv:QT (p,q)
 all_goals
  have HV:=zh (fun W=>(hv▸Q5 W p q:Calls prog 88 #[.agg #[p,q]] W (BoolPost W _)));clear hv;go_enter func89,ntmps89;go_wp2_with fail
  refine(HV.out _).mono ?_;rintro e w1 ⟨rfl,hb⟩;obtain⟨hc,hf⟩:=QN hb;have HB1:=hbn (QE _ _ _) hb;go_wp2;refine zr (by simp[results,results89,go_sem,hc]<;>rfl) ?_;first
  |exact QZ rfl (by first|exact HB1.out|exact QD HB1.out (by simp<;>omega) _ _)
  |exact JI rfl (by first|exact HB1.out|exact QD HB1.out (by simp<;>omega) _ _)
theorem Ta (w:World) (p q:Int) (s:ByteArray) (r:Int) (hs:s.size<=2000000000) (m:Int) (hm:w.cell? ⟨0,0,none⟩=some (.int .i64 m)):Calls prog 89 #[.agg #[.int .i64 3,p,q,s,r]] w (NumPost w (BX (Je (QF s)))):=by
 have hp:=(fun W (hW:W.cell? ⟨0,0,none⟩=w.cell? ⟨0,0,none⟩)=>CH W s hs m (hW.trans hm))
 have hg:Good (Je (QF s)):=Uk _;obtain⟨M,hM⟩:∃M,Je (QF s)=M:=⟨_,rfl⟩
 rw[hM] at hp hg ⊢;have HPARSE:=zh hp;clear hp hM;rcases XD hg with⟨hE,hc⟩|⟨hE, -,hc⟩;all_goals
  have HM:=zh hm;clear hm;have HC:=zh hc;have hE2:=RU hE;clear hc hg hE;go_enter func89,ntmps89;go_wp2_with fail
  refine(HPARSE.out _ ((QH (by simp)).trans (QH (World.block_lt_of_cell? _ _ HM.out)))).mono ?_;rintro e w1 ⟨rfl,hb⟩;have hz:=hb.size;simp at hz;obtain⟨hc,hf⟩:=QN hb;have c0:∀x y,(w1.alloc (.cells #[x,y] 23)).cell? ⟨w+1,0,none⟩=some (.int .i64 0):=fun x y=>(QH (by omega)).trans ((hc _ _ (by simp<;>omega)).trans (by simp[go_sem]));have c1:∀x y,(w1.alloc (.cells #[x,y] 23)).cell? ⟨w+1,1,none⟩=some (.int .i64 0):=fun x y=>(QH (by omega)).trans ((hc _ _ (by simp<;>omega)).trans (by simp[go_sem]));have f0:∀x y,(w1.alloc (.cells #[x,y] 23)).frozen? ⟨w+1,0,none⟩=false:=fun x y=>(QJ (by omega)).trans ((hf _ _ (by simp<;>omega)).trans (by simp[go_sem]));have f1:∀x y,(w1.alloc (.cells #[x,y] 23)).frozen? ⟨w+1,1,none⟩=false:=fun x y=>(QJ (by omega)).trans ((hf _ _ (by simp<;>omega)).trans (by simp[go_sem]));have HB2:=fun x y=>zh ((QC (QE _ _ _) hb).alloc (by omega) (.cells #[x,y] 23));clear hb hc hf;go_wp2;refine zr (by simp[results,results89,go_sem,c0,c1]<;>rfl) ?_;have hc:=HC.out;clear HC;obtain⟨a,ha⟩:=hc;first
  |exact QZ (by rw[ha];rfl) (QD (HB2 _ _).out (by omega) _ _)
  |(rw[ha];exact JI rfl (QD (HB2 _ _).out (by omega) _ _))
theorem Eh (w:World) (k p q:Int) (s:ByteArray) (r:Int) (h2:(k==2)=false) (h3:(k==3)=false):Calls prog 89 #[.agg #[k,p,q,s,r]] w (NumPost w (.error 8)):=by
 go_enter func89,ntmps89;go_wp2;refine zr (by simp[results,results89,go_sem]<;>rfl) ?_;exact QZ rfl (by first|exact QE _ _ _|exact QD (QE _ _ _) (by simp<;>omega) _ _)
theorem D6 (w:World) (k p q:Int) (s:ByteArray) (r:Int) (hs:s.size<=2000000000) (m:Int) (hm:w.cell? ⟨0,0,none⟩=some (.int .i64 m)):Calls prog 89 #[.agg #[k,p,q,s,r]] w (NumPost w (ZW ⟨k,p,q,s,r⟩)):=by
 unfold ZW;by_cases h2:k=2
 ·subst h2;exact TZ w p q s r
 ·by_cases h3:k=3
  ·subst h3;exact Ta w p q s r hs m hm
  ·rw[if_neg h2,if_neg h3];exact Eh w k p q s r (by rw[beq_eq_false_iff_ne];exact h2) (by rw[beq_eq_false_iff_ne];exact h3)
theorem M5 {o:Int} {b:Bool} (h:decide (20<=o/\o<=23)=b):PureTo 34 o b:=fun W=>h▸CE W o
theorem Sr {o:Int} {b:Bool} (h:decide (1<=o/\o<=19)=b):PureTo 35 o b:=fun W=>h▸AQ W o
theorem Ss {o:Int} {b:Bool} (h:decide (1<=o/\o<=7)=b):PureTo 37 o b:=fun W=>h▸EO W o
theorem Sq {o:Int} {b:Bool} (h:decide ((9<=o/\o<=13)\/o=23)=b):PureTo 38 o b:=fun W=>h▸N9 W o
theorem Ud (w:World) (hg:Glob w) (o:Int) (k1 p1 q1:Int) (s1:ByteArray) (r1:Int) (k2 p2 q2:Int) (s2:ByteArray) (r2:Int) (h1:s1.size<=4096) (h2:o<20->s2.size<=4096) (ho:o<=23) (W:World) (hW:Below w w W):
  Calls prog 39 #[o,.agg #[k1,p1,q1,s1,r1],.agg #[k2,p2,q2,s2,r2]] W
   (VrPost W (Jj o (ZW ⟨k1,p1,q1,s1,r1⟩) (JQ o ⟨k2,p2,q2,s2,r2⟩))):=by
 have hgW:=hg.stays hW;have num:∀(k p q:Int) (s:ByteArray) (r:Int),s.size<=4096->∀X,Below W W X->Calls prog 89 #[.agg #[.int .i64 k,.int .i64 p,.int .i64 q,.string s,.int .i64 r]] X (NumPost X (ZW ⟨k,p,q,s,r⟩)):=fun k p q s r hs X hX=>by
  obtain⟨⟨m,hm⟩,_⟩:=hgW.stays hX;exact D6 X k p q s r (by omega) m hm
 unfold JQ;by_cases hu:20<=o
 ·rw[if_pos hu];refine TM W o k1 p1 q1 s1 r1 k2 p2 q2 s2 r2 _ _ _ _ (fun X=>M5 (by rw[decide_eq_true_eq];omega) X) (num k1 p1 q1 s1 r1 h1) (fun X hX=> ?_) (fun X=>AO X o _ _ _ _) (J3 o _ _);have h:=num 2 0 1 ⟨#[]⟩ 0 (by decide) X hX;have e:ZW ⟨2,0,1,⟨#[]⟩,0⟩= .ok (0,1):=by
   have hv:QT (0,1)=true:=by decide
   show(if QT (0,1) then(.ok (0,1):RR) else .error 8)= .ok (0,1);rw[hv];rfl
  rwa [e] at h
 ·rw[if_neg hu];exact Dr W o k1 p1 q1 s1 r1 k2 p2 q2 s2 r2 _ _ _ _ (fun X=>M5 (by rw[decide_eq_false_iff_not];omega) X) (num k1 p1 q1 s1 r1 h1) (num k2 p2 q2 s2 r2 (h2 (by omega))) (fun X=>AO X o _ _ _ _) (J3 o _ _)
theorem GB (w:World) (hg:Glob w) (o:Int) (k1 p1 q1:Int) (s1:ByteArray) (r1:Int) (k2 p2 q2:Int) (s2:ByteArray) (r2:Int):
  Calls prog 11 #[o,.agg #[k1,p1,q1,s1,r1],.agg #[k2,p2,q2,s2,r2]] w
   (VrPost w (Ze o ⟨k1,p1,q1,s1,r1⟩ ⟨k2,p2,q2,s2,r2⟩)):=by
 obtain⟨R,hR⟩:∃R,R=Ze o ⟨k1,p1,q1,s1,r1⟩ ⟨k2,p2,q2,s2,r2⟩:=⟨_,rfl⟩
 rw[<-hR];unfold Ze at hR;have tf:∀a:Int,o≠a->(o==a)=false:=fun a h=>by rw[beq_eq_false_iff_ne];exact h
 have tt:∀a:Int,o=a->(o==a)=true:=fun a h=>by rw[beq_iff_eq];exact h
 have UN:∀b:Bool,(b=true↔(20<=o/\o<=23))->PureTo 34 o b:=fun b h=>M5 (by rw[Bool.eq_iff_iff,decide_eq_true_eq];exact h.symm);have BI:∀b:Bool,(b=true↔(1<=o/\o<=19))->PureTo 35 o b:=fun b h=>Sr (by rw[Bool.eq_iff_iff,decide_eq_true_eq];exact h.symm);have AR:∀b:Bool,(b=true↔(1<=o/\o<=7))->PureTo 37 o b:=fun b h=>Ss (by rw[Bool.eq_iff_iff,decide_eq_true_eq];exact h.symm);have BW:∀b:Bool,(b=true↔((9<=o/\o<=13)\/o=23))->PureTo 38 o b:=fun b h=>Sq (by rw[Bool.eq_iff_iff,decide_eq_true_eq];exact h.symm);have VA:∀b,Qt ⟨k1,p1,q1,s1,r1⟩=b->∀W,Calls prog 36 #[.agg #[k1,p1,q1,s1,r1]] W (BoolPost W b):=fun b h W=>h▸JY W k1 p1 q1 s1 r1;have VB:∀b,Qt ⟨k2,p2,q2,s2,r2⟩=b->∀W,Calls prog 36 #[.agg #[k2,p2,q2,s2,r2]] W (BoolPost W b):=fun b h W=>h▸JY W k2 p2 q2 s2 r2;by_cases hr:1<=o/\o<=23
 ·cases ha:Qt ⟨k1,p1,q1,s1,r1⟩ with
  |false=>
   rw[if_pos (.inr (.inl ha))] at hR;by_cases hu:20<=o
   ·exact UF w o k1 p1 q1 s1 r1 k2 p2 q2 s2 r2 R (UN _ (by simp;omega)) (BI _ (by simp;omega)) (VA _ ha) hR
   ·exact XY w o k1 p1 q1 s1 r1 k2 p2 q2 s2 r2 R (UN _ (by simp;omega)) (BI _ (by simp;omega)) (VA _ ha) hR
  |true=>
   have z1:=ZU ha;have hA:=VA _ ha;by_cases hu:20<=o
   ·rw[if_neg (by rw[ha];simp;omega),if_neg (by omega),if_neg (by omega),if_neg (by omega),if_neg (by omega)] at hR;have hun:=UN true (by simp;omega);have hbi:=BI false (by simp;omega);have har:=AR false (by simp;omega);by_cases h21:o=21
    ·rw[if_pos h21] at hR;exact Nt w o k1 p1 q1 s1 r1 k2 p2 q2 s2 r2 _ R hun hbi har (BW _ (by simp;omega)) hA (tf _ (by omega)) (tf _ (by omega)) (tf _ (by omega)) (tf _ (by omega)) (tt _ h21) (fun W=>Xb W k1 p1 q1 s1 r1) hR
    ·rw[if_neg h21] at hR;by_cases h22:o=22
     ·rw[if_pos h22] at hR;by_cases hk:k1=3
      ·rw[if_pos hk] at hR;exact Nv w o k1 p1 q1 s1 r1 k2 p2 q2 s2 r2 R hun hbi har (BW _ (by simp;omega)) hA (tf _ (by omega)) (tf _ (by omega)) (tf _ (by omega)) (tf _ (by omega)) (tf _ (by omega)) (tt _ h22) (by rw[bne_eq_false_iff_eq];exact hk) z1 hR
      ·rw[if_neg hk] at hR;exact EK w o k1 p1 q1 s1 r1 k2 p2 q2 s2 r2 R hun hbi har (BW _ (by simp;omega)) hA (tf _ (by omega)) (tf _ (by omega)) (tf _ (by omega)) (tf _ (by omega)) (tf _ (by omega)) (tt _ h22) (by rw[bne_iff_ne];exact hk) hR
     ·rw[if_neg h22] at hR;have hc:∀W,Below w w W->Calls prog 39 #[o,.agg #[k1,p1,q1,s1,r1],.agg #[k2,p2,q2,s2,r2]] W (VrPost W R):=fun W hW=>by
       rw[hR];exact Ud w hg o k1 p1 q1 s1 r1 k2 p2 q2 s2 r2 z1 (fun h=>by omega) (by omega) W hW
      by_cases h20:o=20
      ·exact Nu w o k1 p1 q1 s1 r1 k2 p2 q2 s2 r2 R hun hbi har (BW _ (by simp;omega)) hA (tt _ h20) hc
      ·exact TD w o k1 p1 q1 s1 r1 k2 p2 q2 s2 r2 R hun hbi har (BW _ (by simp;omega)) hA hc
   ·have hun:=UN false (by simp;omega);have hbi:=BI true (by simp;omega);cases hb:Qt ⟨k2,p2,q2,s2,r2⟩ with
    |false=>
     rw[if_pos (.inr (.inr ⟨by omega,hb⟩))] at hR;exact TE w o k1 p1 q1 s1 r1 k2 p2 q2 s2 r2 R hun hbi hA (VB _ hb) hR
    |true=>
     have z2:=ZU hb;have hB:=VB _ hb;rw[if_neg (by rw[ha,hb];simp;omega)] at hR;by_cases h8:o=8
     ·rw[if_pos h8] at hR;exact EL w o k1 p1 q1 s1 r1 k2 p2 q2 s2 r2 R hun hbi (AR _ (by simp;omega)) (BW _ (by simp;omega)) hA hB (tf _ (by omega)) (tt _ h8) (fun W hW=>by
       rw[hR];exact AN W (hg.stays hW).2 k1 p1 q1 s1 r1 k2 p2 q2 s2 r2 z1 z2)
     ·rw[if_neg h8] at hR;by_cases h14:o=14
      ·rw[if_pos h14] at hR;exact AC w o k1 p1 q1 s1 r1 k2 p2 q2 s2 r2 _ R hun hbi (AR _ (by simp;omega)) (BW _ (by simp;omega)) hA hB (tf _ (by omega)) (tf _ h8) (tt _ h14) (fun W=>TY W ⟨k1,p1,q1,s1,r1⟩ ⟨k2,p2,q2,s2,r2⟩) hR
      ·rw[if_neg h14] at hR;by_cases h15:o=15
       ·rw[if_pos h15] at hR;exact AB w o k1 p1 q1 s1 r1 k2 p2 q2 s2 r2 _ R hun hbi (AR _ (by simp;omega)) (BW _ (by simp;omega)) hA hB (tf _ (by omega)) (tf _ h8) (tf _ h14) (tt _ h15) (fun W=>TY W ⟨k1,p1,q1,s1,r1⟩ ⟨k2,p2,q2,s2,r2⟩) hR
       ·rw[if_neg h15] at hR;by_cases h16:16<=o
        ·rw[if_pos ⟨h16,by omega⟩] at hR;exact UD w o k1 p1 q1 s1 r1 k2 p2 q2 s2 r2 R hun hbi (AR _ (by simp;omega)) (BW _ (by simp;omega)) hA hB (tf _ (by omega)) (tf _ h8) (tf _ h14) (tf _ h15) (tf _ (by omega)) (tf _ (by omega)) (fun W _=>by
          rw[hR];exact N8 W o k1 p1 q1 s1 r1 k2 p2 q2 s2 r2 z1 z2 h16 (by omega))
        ·rw[if_neg (by omega),if_neg (by omega),if_neg (by omega)] at hR;have hc:∀W,Below w w W->Calls prog 39 #[o,.agg #[k1,p1,q1,s1,r1],.agg #[k2,p2,q2,s2,r2]] W (VrPost W R):=fun W hW=>by
          rw[hR];exact Ud w hg o k1 p1 q1 s1 r1 k2 p2 q2 s2 r2 z1 (fun _=>z2) (by omega) W hW
         by_cases h7:o<=7
         ·exact Dk w o k1 p1 q1 s1 r1 k2 p2 q2 s2 r2 R hun hbi (AR _ (by simp;omega)) (BW _ (by simp;omega)) hA hB hc
         ·exact UE w o k1 p1 q1 s1 r1 k2 p2 q2 s2 r2 R hun hbi (AR _ (by simp;omega)) (BW _ (by simp;omega)) hA hB hc
 ·rw[if_pos (.inl hr)] at hR;exact Nw w o k1 p1 q1 s1 r1 k2 p2 q2 s2 r2 R (UN _ (by simp;omega)) (BI _ (by simp;omega)) (AR _ (by simp;omega)) (BW _ (by simp;omega)) hR
theorem Sa (w:World):Calls prog 230 #[] w (fun e w'=>e= .returned (.map (some w.heap.size))/\MapAt prog 3 w' w.heap.size nameE/\Below w w w'):=by
 have hmm:= @run_makeMap prog;have hE0:=G6 (P:=prog) 3 w;have hb0:=Qf w (.map #[] 0);go_enter func230,ntmps230;go_wp2_with fail
 obtain⟨w1,hr,hE1,hb1⟩:=G9 hE0 hb0 zl 0 (Cq (by omega)) (by simp) ⟨#[110,105,108]⟩;rw[hr];clear hr;go_wp2_with fail
 obtain⟨w2,hr,hE2,hb2⟩:=G9 hE1 hb1 zl 1 (Cq (by omega)) (by simp) ⟨#[98,111,111,108,101,97,110]⟩;rw[hr];clear hr;go_wp2_with fail
 obtain⟨w3,hr,hE3,hb3⟩:=G9 hE2 hb2 zl 2 (Cq (by omega)) (by simp) ⟨#[110,117,109,98,101,114]⟩;rw[hr];clear hr;go_wp2_with fail
 obtain⟨w4,hr,hE4,hb4⟩:=G9 hE3 hb3 zl 3 (Cq (by omega)) (by simp) ⟨#[115,116,114,105,110,103]⟩;rw[hr];clear hr;go_wp2_with fail
 obtain⟨w5,hr,hE5,hb5⟩:=G9 hE4 hb4 zl 4 (Cq (by omega)) (by simp) ⟨#[116,97,98,108,101]⟩;rw[hr];clear hr;go_wp2_with fail
 obtain⟨w6,hr,hE6,hb6⟩:=G9 hE5 hb5 zl 5 (Cq (by omega)) (by simp) ⟨#[102,117,110,99,116,105,111,110]⟩;rw[hr];clear hr;go_wp2_with fail
 obtain⟨w7,hr,hE7,hb7⟩:=G9 hE6 hb6 zl 6 (Cq (by omega)) (by simp) ⟨#[102,117,110,99,116,105,111,110]⟩;rw[hr];clear hr;go_wp2_with fail
 obtain⟨w8,hr,hE8,hb8⟩:=G9 hE7 hb7 zl 7 (Cq (by omega)) (by simp) ⟨#[116,104,114,101,97,100]⟩;rw[hr];clear hr;go_wp2_with fail
 obtain⟨w9,hr,hE9,hb9⟩:=G9 hE8 hb8 zl 8 (Cq (by omega)) (by simp) ⟨#[117,115,101,114,100,97,116,97]⟩;rw[hr];clear hr;go_wp2_with fail
 go_ret
 exact⟨rfl,hE9,hb9⟩
theorem Kb (w:World) (k1 p1 q1:Int) (s1:ByteArray) (r1:Int) (hk:i64 k1):Calls prog 181 #[.agg #[k1,p1,q1,s1,r1]] w (fun e w'=>e= .returned (.string (Zg k1))/\Below w w w'):=by
 have HN:=zh Sa;have HL:=zh (fun W b (h:MapAt prog 3 W b nameE)=>MW h hk);obtain⟨T,hT⟩:∃T,T=Zg k1:=⟨_,rfl⟩
 rw[<-hT] at HL ⊢;have SO:=zh (fun W (hb:Below (w.alloc (oV k1 p1 q1 s1 r1)).heap.size (w.alloc (oV k1 p1 q1 s1 r1)) W)=>(show W.cell? w=some (.int .i64 k1)/\Hid (Below (w.alloc (oV k1 p1 q1 s1 r1)).heap.size (w.alloc (oV k1 p1 q1 s1 r1)) W) from⟨by rw[QA (QL hb (Qy w _))];rfl,zh hb⟩));clear hk hT;go_enter func181,ntmps181;go_wp2_with fail
 go_region_held3 (fun w'=>w'.cell? w=some (.int .i64 k1)/\Hid (Below (w.alloc (oV k1 p1 q1 s1 r1)).heap.size (w.alloc (oV k1 p1 q1 s1 r1)) w'))
  (first|exact SO.out _ (Below.refl _ _).drew|exact SO.out _ (by assumption))
  (first|(go_at_call 230;refine(HN.out _).mono ?_;rintro e w1 ⟨rfl,hE,hb1⟩;have hb:=QC (prj2 (by assumption)) hb1;have hlk:=HL.out w1 (w.heap.size+1) (by simpa using hE)))
 go_wp2
 go_ret
 exact⟨rfl,QC (Qf _ _) (by assumption)⟩
theorem AX (w:World):Calls prog 57 #[] w (fun e w'=>e= .returned (.slice (some w) 24 24)/\w'=w.alloc (.cells #[.string ⟨#[]⟩,.string ⟨#[43]⟩,.string ⟨#[45]⟩,.string ⟨#[42]⟩,.string ⟨#[47]⟩,.string ⟨#[47,47]⟩,.string ⟨#[37]⟩,.string ⟨#[94]⟩,.string ⟨#[46,46]⟩,.string ⟨#[38]⟩,.string ⟨#[124]⟩,.string ⟨#[126]⟩,.string ⟨#[60,60]⟩,.string ⟨#[62,62]⟩,.string ⟨#[61,61]⟩,.string ⟨#[126,61]⟩,.string ⟨#[60]⟩,.string ⟨#[60,61]⟩,.string ⟨#[62]⟩,.string ⟨#[62,61]⟩,.string ⟨#[45]⟩,.string ⟨#[110,111,116]⟩,.string ⟨#[35]⟩,.string ⟨#[126]⟩] 9)):=by
 go_enter func57,ntmps57;go_wp2
 go_ret
 exact⟨rfl,rfl⟩
theorem CZ (w:World) (a:Int) (n:Nat) (ha:a=(n:Int)) (h1:1<=n) (h2:n<=23):Calls prog 14 #[a] w (StrPost w (symL.getD n ⟨#[]⟩)):=by
 obtain⟨X,hX⟩:∃X,X=symL.getD n ⟨#[]⟩:=⟨_,rfl⟩
 have hc:(w.alloc (.cells #[.string ⟨#[]⟩,.string ⟨#[43]⟩,.string ⟨#[45]⟩,.string ⟨#[42]⟩,.string ⟨#[47]⟩,.string ⟨#[47,47]⟩,.string ⟨#[37]⟩,.string ⟨#[94]⟩,.string ⟨#[46,46]⟩,.string ⟨#[38]⟩,.string ⟨#[124]⟩,.string ⟨#[126]⟩,.string ⟨#[60,60]⟩,.string ⟨#[62,62]⟩,.string ⟨#[61,61]⟩,.string ⟨#[126,61]⟩,.string ⟨#[60]⟩,.string ⟨#[60,61]⟩,.string ⟨#[62]⟩,.string ⟨#[62,61]⟩,.string ⟨#[45]⟩,.string ⟨#[110,111,116]⟩,.string ⟨#[35]⟩,.string ⟨#[126]⟩] 9)).cell? ⟨w,n,none⟩=some (.string X):=by
  rw[QA (Qy w _),hX];have:n=1\/n=2\/n=3\/n=4\/n=5\/n=6\/n=7\/n=8\/n=9\/n=10\/n=11\/n=12\/n=13\/n=14\/n=15\/n=16\/n=17\/n=18\/n=19\/n=20\/n=21\/n=22\/n=23:=by omega
  rcases this with rfl|rfl|rfl|rfl|rfl|rfl|rfl|rfl|rfl|rfl|rfl|rfl|rfl|rfl|rfl|rfl|rfl|rfl|rfl|rfl|rfl|rfl|rfl;all_goals rfl
 rw[<-hX];have hi0:(0:Int)<=(n:Int):=by omega
 have hi:(n:Int)<24:=by omega
 have t1:decide (a<1)=false:=by rw[decide_eq_false_iff_not];omega
 have t2:decide (23<a)=false:=by rw[decide_eq_false_iff_not];omega
 clear hX;subst ha;go_enter func14,ntmps14;go_wp2_with fail
 refine(AX _).mono ?_;rintro e w1 ⟨rfl,rfl⟩;go_wp2
 go_ret
 exact⟨rfl,by first|exact Qf _ _|exact(Qf _ _).drew⟩
theorem AY (w:World) (o:Int) (h:¬(1<=o/\o<=23)):Calls prog 14 #[o] w (StrPost w ⟨#[]⟩):=by
 have hw:o<1\/(¬o<1/\23<o):=by omega
 clear h;rcases hw with h|⟨h,h2⟩;all_goals
  go_enter func14,ntmps14;go_wp2
  go_ret
  exact⟨rfl,by first|exact Qf _ _|exact Below.refl _ _⟩
theorem SW (w:World) (o:Int):Calls prog 14 #[o] w (StrPost w (Au o)):=by
 by_cases h:1<=o/\o<=23
 ·obtain⟨n,rfl⟩:∃n:Nat,o=(n:Int):=⟨o.toNat,by omega⟩
  rw[Sb (by omega)];exact CZ w _ n rfl (by omega) (by omega)
 ·rw[Ck h];exact AY w o h
theorem MN (w:World):Calls prog 58 #[] w (fun e w'=>e= .returned (.slice (some w) 24 24)/\w'=w.alloc (.cells #[.string ⟨#[]⟩,.string ⟨#[95,95,97,100,100]⟩,.string ⟨#[95,95,115,117,98]⟩,.string ⟨#[95,95,109,117,108]⟩,.string ⟨#[95,95,100,105,118]⟩,.string ⟨#[95,95,105,100,105,118]⟩,.string ⟨#[95,95,109,111,100]⟩,.string ⟨#[95,95,112,111,119]⟩,.string ⟨#[95,95,99,111,110,99,97,116]⟩,.string ⟨#[95,95,98,97,110,100]⟩,.string ⟨#[95,95,98,111,114]⟩,.string ⟨#[95,95,98,120,111,114]⟩,.string ⟨#[95,95,115,104,108]⟩,.string ⟨#[95,95,115,104,114]⟩,.string ⟨#[95,95,101,113]⟩,.string ⟨#[95,95,101,113]⟩,.string ⟨#[95,95,108,116]⟩,.string ⟨#[95,95,108,101]⟩,.string ⟨#[95,95,108,116]⟩,.string ⟨#[95,95,108,101]⟩,.string ⟨#[95,95,117,110,109]⟩,.string ⟨#[]⟩,.string ⟨#[95,95,108,101,110]⟩,.string ⟨#[95,95,98,110,111,116]⟩] 9)):=by
 go_enter func58,ntmps58;go_wp2
 go_ret
 exact⟨rfl,rfl⟩
theorem Aj (w:World) (a:Int) (n:Nat) (ha:a=(n:Int)) (h1:1<=n) (h2:n<=23):Calls prog 16 #[a] w (StrPost w (evL.getD n ⟨#[]⟩)):=by
 obtain⟨X,hX⟩:∃X,X=evL.getD n ⟨#[]⟩:=⟨_,rfl⟩
 have hc:(w.alloc (.cells #[.string ⟨#[]⟩,.string ⟨#[95,95,97,100,100]⟩,.string ⟨#[95,95,115,117,98]⟩,.string ⟨#[95,95,109,117,108]⟩,.string ⟨#[95,95,100,105,118]⟩,.string ⟨#[95,95,105,100,105,118]⟩,.string ⟨#[95,95,109,111,100]⟩,.string ⟨#[95,95,112,111,119]⟩,.string ⟨#[95,95,99,111,110,99,97,116]⟩,.string ⟨#[95,95,98,97,110,100]⟩,.string ⟨#[95,95,98,111,114]⟩,.string ⟨#[95,95,98,120,111,114]⟩,.string ⟨#[95,95,115,104,108]⟩,.string ⟨#[95,95,115,104,114]⟩,.string ⟨#[95,95,101,113]⟩,.string ⟨#[95,95,101,113]⟩,.string ⟨#[95,95,108,116]⟩,.string ⟨#[95,95,108,101]⟩,.string ⟨#[95,95,108,116]⟩,.string ⟨#[95,95,108,101]⟩,.string ⟨#[95,95,117,110,109]⟩,.string ⟨#[]⟩,.string ⟨#[95,95,108,101,110]⟩,.string ⟨#[95,95,98,110,111,116]⟩] 9)).cell? ⟨w,n,none⟩=some (.string X):=by
  rw[QA (Qy w _),hX];have:n=1\/n=2\/n=3\/n=4\/n=5\/n=6\/n=7\/n=8\/n=9\/n=10\/n=11\/n=12\/n=13\/n=14\/n=15\/n=16\/n=17\/n=18\/n=19\/n=20\/n=21\/n=22\/n=23:=by omega
  rcases this with rfl|rfl|rfl|rfl|rfl|rfl|rfl|rfl|rfl|rfl|rfl|rfl|rfl|rfl|rfl|rfl|rfl|rfl|rfl|rfl|rfl|rfl|rfl;all_goals rfl
 rw[<-hX];have hi0:(0:Int)<=(n:Int):=by omega
 have hi:(n:Int)<24:=by omega
 have t1:decide (a<1)=false:=by rw[decide_eq_false_iff_not];omega
 have t2:decide (23<a)=false:=by rw[decide_eq_false_iff_not];omega
 clear hX;subst ha;go_enter func16,ntmps16;go_wp2_with fail
 refine(MN _).mono ?_;rintro e w1 ⟨rfl,rfl⟩;go_wp2
 go_ret
 exact⟨rfl,by first|exact Qf _ _|exact(Qf _ _).drew⟩
theorem MO (w:World) (o:Int) (h:¬(1<=o/\o<=23)):Calls prog 16 #[o] w (StrPost w ⟨#[]⟩):=by
 have hw:o<1\/(¬o<1/\23<o):=by omega
 clear h;rcases hw with h|⟨h,h2⟩;all_goals
  go_enter func16,ntmps16;go_wp2
  go_ret
  exact⟨rfl,by first|exact Qf _ _|exact Below.refl _ _⟩
theorem Gy (w:World) (o:Int):Calls prog 16 #[o] w (StrPost w (Q6 o)):=by
 by_cases h:1<=o/\o<=23
 ·obtain⟨n,rfl⟩:∃n:Nat,o=(n:Int):=⟨o.toNat,by omega⟩
  rw[P0 (by omega)];exact Aj w _ n rfl (by omega) (by omega)
 ·rw[FV h];exact MO w o h
theorem KK (w:World) (ho:Option Addr) (s:ByteArray):Calls prog 121 #[.pointer ho,s] w (fun e w'=>e= .returned (.func (.func 179) #[] #[.pointer (some w),.pointer (some ⟨w+1,0,none⟩)])/\
  w'.heap[w.heap.size]? =some (.cells #[.pointer ho] 36)/\w'.heap[w.heap.size+1]? =some (.cells #[s] 9)/\Below w w w'):=by
 have hmf:∀fn first cap (W:World),(Instr.makeFunc fn first cap).run prog W= .ok (.func fn first cap) W:=fun _ _ _ _=>rfl
 go_enter func121,ntmps121;go_wp2
 go_ret
 exact⟨rfl,Qm _ _ _,QY _ _ _,QE _ _ _⟩
theorem MM (w:World) (bh be:Nat) (ho:Option Addr) (ev:ByteArray) (hbh:w.heap[bh]? =some (.cells #[.pointer ho] 36)) (hbe:w.heap[be]? =some (.cells #[ev] 9)) (k1 p1 q1:Int) (s1:ByteArray) (r1:Int) (k2 p2 q2:Int) (s2:ByteArray) (r2:Int) (fk fp fq:Int) (fs:ByteArray) (fr:Int) (hf:(fk !=0)=true) (HA0:∀W,Below w w W->Calls prog 127 #[.pointer ho,.agg #[k1,p1,q1,s1,r1],ev] W (ValPost W ⟨fk,fp,fq,fs,fr⟩)):Calls prog 179 #[.agg #[k1,p1,q1,s1,r1],.agg #[k2,p2,q2,s2,r2],bh,be] w (ValPost w ⟨fk,fp,fq,fs,fr⟩):=by
 have HBH:=zh hbh;have HBE:=zh hbe;have HA:=zh HA0;have hh0:(((w.alloc (oV k1 p1 q1 s1 r1)).alloc (oV k2 p2 q2 s2 r2)).alloc (oV 0 0 0 ⟨#[]⟩ 0)).cell? bh=some (.pointer ho):=by rw[QA (KM HBH.out _ _ _)];rfl
 have he0:(((w.alloc (oV k1 p1 q1 s1 r1)).alloc (oV k2 p2 q2 s2 r2)).alloc (oV 0 0 0 ⟨#[]⟩ 0)).cell? be=some (.string ev):=by rw[QA (KM HBE.out _ _ _)];rfl
 clear HA0 hbh hbe;go_enter func179,ntmps179;go_wp2_with fail
 refine(HA.out _ ((QE _ _ _).alloc (by simp;omega) _)).mono ?_;rintro e w1 ⟨rfl,hb⟩;have Hu1:=hkh hb (QU _ _ _ _);have HW1:=hbn (((QE _ _ _).alloc (by simp;omega) _)) hb;have hz1:=hb.size;try simp at hz1
 clear hb;have hyu:=hsz Hu1;obtain⟨u0,u1,u2,u3,u4⟩:=zc5 Hu1;obtain⟨fu0,fu1,fu2,fu3,fu4⟩:=zf5 Hu1;clear hh0 he0;go_wp2;refine zr (by simp[results,results179,go_sem,hyu,u0,u1,u2,u3,u4]<;>rfl) ?_;exact Qo rfl ((QG HW1.out (by omega) _ _ _ _ _).alloc (by simp;omega) _)
theorem Tg (w:World) (bh be:Nat) (ho:Option Addr) (ev:ByteArray) (hbh:w.heap[bh]? =some (.cells #[.pointer ho] 36)) (hbe:w.heap[be]? =some (.cells #[ev] 9)) (k1 p1 q1:Int) (s1:ByteArray) (r1:Int) (k2 p2 q2:Int) (s2:ByteArray) (r2:Int) (fk fp fq:Int) (fs:ByteArray) (fr:Int) (gk gp gq:Int) (gs:ByteArray) (gr:Int) (hf:(fk !=0)=false) (HA0:∀W,Below w w W->Calls prog 127 #[.pointer ho,.agg #[k1,p1,q1,s1,r1],ev] W (ValPost W ⟨fk,fp,fq,fs,fr⟩)) (HB0:∀W,Below w w W->Calls prog 127 #[.pointer ho,.agg #[k2,p2,q2,s2,r2],ev] W (ValPost W ⟨gk,gp,gq,gs,gr⟩)):Calls prog 179 #[.agg #[k1,p1,q1,s1,r1],.agg #[k2,p2,q2,s2,r2],bh,be] w (ValPost w ⟨gk,gp,gq,gs,gr⟩):=by
 have HBH:=zh hbh;have HBE:=zh hbe;have HA:=zh HA0;have HB:=zh HB0;have hh0:(((w.alloc (oV k1 p1 q1 s1 r1)).alloc (oV k2 p2 q2 s2 r2)).alloc (oV 0 0 0 ⟨#[]⟩ 0)).cell? bh=some (.pointer ho):=by rw[QA (KM HBH.out _ _ _)];rfl
 have he0:(((w.alloc (oV k1 p1 q1 s1 r1)).alloc (oV k2 p2 q2 s2 r2)).alloc (oV 0 0 0 ⟨#[]⟩ 0)).cell? be=some (.string ev):=by rw[QA (KM HBE.out _ _ _)];rfl
 clear HA0 HB0 hbh hbe;go_enter func179,ntmps179;go_wp2_with fail
 refine(HA.out _ ((QE _ _ _).alloc (by simp;omega) _)).mono ?_;rintro e w1 ⟨rfl,hb⟩;clear hh0 he0;have Hb1:=hkh hb (Qa _ _ _ _);have Hu1:=hkh hb (QU _ _ _ _);have Hh1:=hkh hb (KM HBH.out _ _ _);have He1:=hkh hb (KM HBE.out _ _ _);have HW1:=hbn (((QE _ _ _).alloc (by simp;omega) _)) hb;have hz1:=hb.size;try simp at hz1
 clear hb;have hyb:=hsz Hb1;obtain⟨b0,b1,b2,b3,b4⟩:=zc5 Hb1;have hyh:=hsz Hh1;have h0:w1.cell? bh=some (.pointer ho):=by rw[QA Hh1.out];rfl
 have hye:=hsz He1;have e0:w1.cell? be=some (.string ev):=by rw[QA He1.out];rfl
 go_wp2_with fail
 refine(HB.out _ (HW1.out.alloc HW1.out.size (oV fk fp fq fs fr))).mono ?_;rintro e w2 ⟨rfl,hb⟩;have Hu2:=hkh hb (QI Hu1.out _);have HW2:=hbn (HW1.out.alloc HW1.out.size (oV fk fp fq fs fr)) hb;have hz2:=hb.size;try simp at hz2
 clear hb;clear hyb b0 b1 b2 b3 b4 hyh h0 hye e0;have hyu:=hsz Hu2;obtain⟨u0,u1,u2,u3,u4⟩:=zc5 Hu2;obtain⟨fu0,fu1,fu2,fu3,fu4⟩:=zf5 Hu2;go_wp2;refine zr (by simp[results,results179,go_sem,hyu,u0,u1,u2,u3,u4]<;>rfl) ?_;exact Qo rfl (QG HW2.out (by omega) _ _ _ _ _)
theorem Ca (w:World) (bh be:Nat) (ho:Option Addr) (ev:ByteArray) (hbh:w.heap[bh]? =some (.cells #[.pointer ho] 36)) (hbe:w.heap[be]? =some (.cells #[ev] 9)) (k1 p1 q1:Int) (s1:ByteArray) (r1:Int) (k2 p2 q2:Int) (s2:ByteArray) (r2:Int) (F G:V) (HA:∀W,Below w w W->Calls prog 127 #[.pointer ho,.agg #[k1,p1,q1,s1,r1],ev] W (ValPost W F)) (HB:∀W,Below w w W->Calls prog 127 #[.pointer ho,.agg #[k2,p2,q2,s2,r2],ev] W (ValPost W G)):
  Calls prog 179 #[.agg #[k1,p1,q1,s1,r1],.agg #[k2,p2,q2,s2,r2],bh,be] w (ValPost w (if F.k=0 then G else F)):=by
 obtain⟨fk,fp,fq,fs,fr⟩:=F;obtain⟨gk,gp,gq,gs,gr⟩:=G;by_cases h:fk=0
 ·rw[if_pos h];exact Tg w bh be ho ev hbh hbe k1 p1 q1 s1 r1 k2 p2 q2 s2 r2 fk fp fq fs fr gk gp gq gs gr (by rw[bne_eq_false_iff_eq];exact h) HA HB
 ·rw[if_neg h];exact MM w bh be ho ev hbh hbe k1 p1 q1 s1 r1 k2 p2 q2 s2 r2 fk fp fq fs fr (by rw[bne_iff_ne];exact h) HA
theorem Xd (w:World) (ba bb:Nat) (k1 p1 q1:Int) (s1:ByteArray) (r1:Int) (k2 p2 q2:Int) (s2:ByteArray) (r2:Int) (hba:w.heap[ba]? =some (oV k1 p1 q1 s1 r1)) (hbb:w.heap[bb]? =some (oV k2 p2 q2 s2 r2)) (hk1:i64 k1) (hk2:i64 k2) (N:∀W,Below w w W->Calls prog 182 #[.agg #[k1,p1,q1,s1,r1]] W (BoolPost W true)):
  Calls prog 180 #[.func (.func 182) #[] #[],ba,bb] w (StrPost w (Zg k2)):=by
 have HN:=zh N;have HK1:=zh hk1;have HK2:=zh hk2;have HBA:=zh hba;have HBB:=zh hbb;obtain⟨a0,a1,a2,a3,a4⟩:=zc5 HBA;clear N hk1 hk2 hba hbb;go_enter func180,ntmps180;go_wp2_with fail
 refine(HN.out _ (Below.refl _ _)).mono ?_;rintro e w1 ⟨rfl,hb⟩;have HW1:=zh hb;clear a0 a1 a2 a3 a4;obtain⟨b0,b1,b2,b3,b4⟩:=zc5 (QL hb HBB.out);clear hb;go_wp2_with fail
 refine(Kb _ k2 p2 q2 s2 r2 HK2.out).mono ?_;rintro e w2 ⟨rfl,hb⟩;go_wp2
 go_ret
 exact⟨rfl,QC HW1.out hb⟩
theorem Y2 (w:World) (ba bb:Nat) (k1 p1 q1:Int) (s1:ByteArray) (r1:Int) (k2 p2 q2:Int) (s2:ByteArray) (r2:Int) (hba:w.heap[ba]? =some (oV k1 p1 q1 s1 r1)) (hbb:w.heap[bb]? =some (oV k2 p2 q2 s2 r2)) (hk1:i64 k1) (hk2:i64 k2) (N:∀W,Below w w W->Calls prog 182 #[.agg #[k1,p1,q1,s1,r1]] W (BoolPost W false)):
  Calls prog 180 #[.func (.func 182) #[] #[],ba,bb] w (StrPost w (Zg k1)):=by
 have HN:=zh N;have HK1:=zh hk1;have HK2:=zh hk2;have HBA:=zh hba;have HBB:=zh hbb;obtain⟨a0,a1,a2,a3,a4⟩:=zc5 HBA;clear N hk1 hk2 hba hbb;go_enter func180,ntmps180;go_wp2_with fail
 refine(HN.out _ (Below.refl _ _)).mono ?_;rintro e w1 ⟨rfl,hb⟩;have HW1:=zh hb;clear a0 a1 a2 a3 a4;obtain⟨a0,a1,a2,a3,a4⟩:=zc5 (QL hb HBA.out);clear hb;go_wp2_with fail
 refine(Kb _ k1 p1 q1 s1 r1 HK1.out).mono ?_;rintro e w2 ⟨rfl,hb⟩;go_wp2
 go_ret
 exact⟨rfl,QC HW1.out hb⟩
theorem ML (w:World) (ba bb:Nat) (k1 p1 q1:Int) (s1:ByteArray) (r1:Int) (k2 p2 q2:Int) (s2:ByteArray) (r2:Int) (hba:w.heap[ba]? =some (oV k1 p1 q1 s1 r1)) (hbb:w.heap[bb]? =some (oV k2 p2 q2 s2 r2)) (hk1:i64 k1) (hk2:i64 k2) (b:Bool) (N:∀W,Below w w W->Calls prog 182 #[.agg #[k1,p1,q1,s1,r1]] W (BoolPost W b)):
  Calls prog 180 #[.func (.func 182) #[] #[],ba,bb] w (StrPost w (Zg (if b then k2 else k1))):=by
 cases b with
 |true=>exact Xd w ba bb k1 p1 q1 s1 r1 k2 p2 q2 s2 r2 hba hbb hk1 hk2 N
 |false=>exact Y2 w ba bb k1 p1 q1 s1 r1 k2 p2 q2 s2 r2 hba hbb hk1 hk2 N
theorem Y1 (w:World) (ba bb:Nat) (k1 p1 q1:Int) (s1:ByteArray) (r1:Int) (k2 p2 q2:Int) (s2:ByteArray) (r2:Int) (hba:w.heap[ba]? =some (oV k1 p1 q1 s1 r1)) (hbb:w.heap[bb]? =some (oV k2 p2 q2 s2 r2)) (hk1:i64 k1) (hk2:i64 k2) (N:∀W,Below w w W->Calls prog 183 #[.agg #[k1,p1,q1,s1,r1]] W (BoolPost W true)):
  Calls prog 180 #[.func (.func 183) #[] #[],ba,bb] w (StrPost w (Zg k2)):=by
 have HN:=zh N;have HK1:=zh hk1;have HK2:=zh hk2;have HBA:=zh hba;have HBB:=zh hbb;obtain⟨a0,a1,a2,a3,a4⟩:=zc5 HBA;clear N hk1 hk2 hba hbb;go_enter func180,ntmps180;go_wp2_with fail
 refine(HN.out _ (Below.refl _ _)).mono ?_;rintro e w1 ⟨rfl,hb⟩;have HW1:=zh hb;clear a0 a1 a2 a3 a4;obtain⟨b0,b1,b2,b3,b4⟩:=zc5 (QL hb HBB.out);clear hb;go_wp2_with fail
 refine(Kb _ k2 p2 q2 s2 r2 HK2.out).mono ?_;rintro e w2 ⟨rfl,hb⟩;go_wp2
 go_ret
 exact⟨rfl,QC HW1.out hb⟩
theorem YV (w:World) (ba bb:Nat) (k1 p1 q1:Int) (s1:ByteArray) (r1:Int) (k2 p2 q2:Int) (s2:ByteArray) (r2:Int) (hba:w.heap[ba]? =some (oV k1 p1 q1 s1 r1)) (hbb:w.heap[bb]? =some (oV k2 p2 q2 s2 r2)) (hk1:i64 k1) (hk2:i64 k2) (N:∀W,Below w w W->Calls prog 183 #[.agg #[k1,p1,q1,s1,r1]] W (BoolPost W false)):
  Calls prog 180 #[.func (.func 183) #[] #[],ba,bb] w (StrPost w (Zg k1)):=by
 have HN:=zh N;have HK1:=zh hk1;have HK2:=zh hk2;have HBA:=zh hba;have HBB:=zh hbb;obtain⟨a0,a1,a2,a3,a4⟩:=zc5 HBA;clear N hk1 hk2 hba hbb;go_enter func180,ntmps180;go_wp2_with fail
 refine(HN.out _ (Below.refl _ _)).mono ?_;rintro e w1 ⟨rfl,hb⟩;have HW1:=zh hb;clear a0 a1 a2 a3 a4;obtain⟨a0,a1,a2,a3,a4⟩:=zc5 (QL hb HBA.out);clear hb;go_wp2_with fail
 refine(Kb _ k1 p1 q1 s1 r1 HK1.out).mono ?_;rintro e w2 ⟨rfl,hb⟩;go_wp2
 go_ret
 exact⟨rfl,QC HW1.out hb⟩
theorem Tf (w:World) (ba bb:Nat) (k1 p1 q1:Int) (s1:ByteArray) (r1:Int) (k2 p2 q2:Int) (s2:ByteArray) (r2:Int) (hba:w.heap[ba]? =some (oV k1 p1 q1 s1 r1)) (hbb:w.heap[bb]? =some (oV k2 p2 q2 s2 r2)) (hk1:i64 k1) (hk2:i64 k2) (b:Bool) (N:∀W,Below w w W->Calls prog 183 #[.agg #[k1,p1,q1,s1,r1]] W (BoolPost W b)):
  Calls prog 180 #[.func (.func 183) #[] #[],ba,bb] w (StrPost w (Zg (if b then k2 else k1))):=by
 cases b with
 |true=>exact Y1 w ba bb k1 p1 q1 s1 r1 k2 p2 q2 s2 r2 hba hbb hk1 hk2 N
 |false=>exact YV w ba bb k1 p1 q1 s1 r1 k2 p2 q2 s2 r2 hba hbb hk1 hk2 N
theorem D3 (w:World) (ho:Option Addr) (o:Int) (vk vp vq:Int) (vs:ByteArray) (vr:Int) (c:Int) (base g:Nat) (hbase:base<=g) (k1 p1 q1:Int) (s1:ByteArray) (r1:Int) (k2 p2 q2:Int) (s2:ByteArray) (r2:Int) (hg:w.heap[g]? =some (.cells #[k1,p1,q1,s1,r1,k2,p2,q2,s2,r2] 25)) (xk xp xq:Int) (xs:ByteArray) (xr:Int) (h0:(c==0)=false) (h1:(c==7)=false) (h2:(c==6)=false) (h3:(c==14)=false) (E:ByteArray) (EV:∀W,Calls prog 16 #[o] W (StrPost W E)) (FI:∀W bh be,Below w w W->W.heap[bh]? =some (.cells #[.pointer ho] 36)->W.heap[be]? =some (.cells #[E] 9)->Calls prog 179 #[.agg #[k1,p1,q1,s1,r1],.agg #[k2,p2,q2,s2,r2],.pointer (some ⟨bh,0,none⟩),.pointer (some ⟨be,0,none⟩)] W (ValPost W ⟨xk,xp,xq,xs,xr⟩)) (hx:(xk==0)=false) (af:Int) (hAF:((o==16)=true/\af=2)\/((o==16)=false/\(o==17)=true/\af=2)\/((o==16)=false/\(o==17)=false/\af=1)):Calls prog 74 #[.pointer ho,o,.agg #[vk,vp,vq,vs,vr],c,.slice (some g) 2 2] w (NdB w base (Zr ⟨xk,xp,xq,xs,xr⟩ [⟨k1,p1,q1,s1,r1⟩,⟨k2,p2,q2,s2,r2⟩] af)):=by
 have HEV:=zh EV;have HFI:=zh FI;have HG:=zh hg;have hgl:g<w:=(Array.getElem?_eq_some_iff.1 hg).1;have HAF:=zh hAF;clear EV FI hg hAF;go_enter func74,ntmps74;go_wp2;obtain⟨B,hB⟩:∃B,B=(w.alloc (.cells #[vk,vp,vq,vs,vr] 25)).alloc oNd:=⟨_,rfl⟩
 rw[<-hB];have HBW:=zh (show Below w w B by rw[hB];exact QE _ _ _);have HBg:=zh (show B.heap[g]? =some (.cells #[k1,p1,q1,s1,r1,k2,p2,q2,s2,r2] 25) by rw[hB];exact Qs HG.out _ _);have HBu:=zh (show B.heap[w.heap.size+1]? =some oNd by rw[hB];exact QY _ _ _);clear hB;have SO:=zh (fun(W:World) (hb:Below B B W)=>(at10 (QL hb HBg.out) (zh hb)));have SO5:=zh (fun(W:World) (b:Nat) (x y z u v:Value) (hb:Below B B W) (hbb:B.heap.size<=b)=>SO.out _ (QG hb hbb x y z u v));have SO1:=zh (fun(W:World) (o:Obj) (hb:Below B B W)=>SO.out _ (hb.alloc hb.size o));have SO1D:=zh (fun(W:World) (o:Obj) (hb:Below B B W)=>SO.out _ (hb.alloc hb.size o).drew);have hbR:Below B B B:=Below.refl _ _;have hbD:Below B B B.drew:=(Below.refl _ _).drew
 go_region_held3 (fun w'=>w'.cell? g=some (.int .i64 k1)/\w'.cell? ⟨g,1,none⟩=some (.int .i64 p1)/\w'.cell? ⟨g,2,none⟩=some (.int .i64 q1)/\w'.cell? ⟨g,3,none⟩=some (.string s1)/\w'.cell? ⟨g,4,none⟩=some (.int .i64 r1)/\w'.cell? ⟨g,5,none⟩=some (.int .i64 k2)/\w'.cell? ⟨g,6,none⟩=some (.int .i64 p2)/\w'.cell? ⟨g,7,none⟩=some (.int .i64 q2)/\w'.cell? ⟨g,8,none⟩=some (.string s2)/\w'.cell? ⟨g,9,none⟩=some (.int .i64 r2)/\Hid (Below B B w'))
  (first|with_reducible exact SO.out _ (by assumption)|with_reducible exact SO1.out _ _ (by assumption)|with_reducible exact SO1D.out _ _ (by assumption)|with_reducible exact SO5.out _ _ _ _ _ _ _ (by assumption) (by first|with_reducible exact Nat.le_refl _|with_reducible exact Below.size (by assumption)))
  (first|(go_at_call 16;refine(HEV.out _).mono ?_;rintro e nw1 ⟨rfl,hb⟩;have hb1:=QC (Z0 (by assumption)) hb;(first|(with_reducible have Hz1:=hkh hb (Qu B (oV 0 0 0 ⟨#[]⟩ 0)))|skip);clear hb)|(go_at_call 121;refine(KK _ _ _).mono ?_;rintro e nw2 ⟨rfl,hbh,hbe,hb⟩;have hb2:=QC (Z0 (by assumption)) hb;(first|(with_reducible have Hz2:=hkh hb Hz1.out)|(with_reducible have Hz2:=hkh hb (Qg nw1 (oV 0 0 0 ⟨#[]⟩ 0)))|(with_reducible have Hz2:=hkh hb (Qu nw1 (oV 0 0 0 ⟨#[]⟩ 0)))|skip);have HBH:=zh hbh;have HBE:=zh hbe;clear hbh hbe;clear hb)|(go_at_call 179;refine(HFI.out _ _ _ (QC HBW.out (Z0 (by assumption))) (by first|with_reducible exact HBH.out|with_reducible exact QI HBH.out _|(simpa using HBH.out)) (by first|with_reducible exact HBE.out|with_reducible exact QI HBE.out _|(simpa using HBE.out))).mono ?_;rintro e nw3 ⟨rfl,hb⟩;have hb3:=QC (Z0 (by assumption)) hb;(first|((with_reducible have Hz3:=hkh hb Hz2.out);have z0:=(QA (o:=0) Hz3.out).trans (rfl:_=some (Value.int .i64 0));have z1:=(QA (o:=1) Hz3.out).trans (rfl:_=some (Value.int .i64 0));have z2:=(QA (o:=2) Hz3.out).trans (rfl:_=some (Value.int .i64 0));have z3:=(QA (o:=3) Hz3.out).trans (rfl:_=some (Value.string ⟨#[]⟩));have z4:=(QA (o:=4) Hz3.out).trans (rfl:_=some (Value.int .i64 0));have fz0:=QB Hz3.out 0;have fz1:=QB Hz3.out 1;have fz2:=QB Hz3.out 2;have fz3:=QB Hz3.out 3;have fz4:=QB Hz3.out 4)|((with_reducible have Hz3:=hkh hb (Qg nw2 (oV 0 0 0 ⟨#[]⟩ 0)));have z0:=(QA (o:=0) Hz3.out).trans (rfl:_=some (Value.int .i64 0));have z1:=(QA (o:=1) Hz3.out).trans (rfl:_=some (Value.int .i64 0));have z2:=(QA (o:=2) Hz3.out).trans (rfl:_=some (Value.int .i64 0));have z3:=(QA (o:=3) Hz3.out).trans (rfl:_=some (Value.string ⟨#[]⟩));have z4:=(QA (o:=4) Hz3.out).trans (rfl:_=some (Value.int .i64 0));have fz0:=QB Hz3.out 0;have fz1:=QB Hz3.out 1;have fz2:=QB Hz3.out 2;have fz3:=QB Hz3.out 3;have fz4:=QB Hz3.out 4)|((with_reducible have Hz3:=hkh hb (Qu nw2 (oV 0 0 0 ⟨#[]⟩ 0)));have z0:=(QA (o:=0) Hz3.out).trans (rfl:_=some (Value.int .i64 0));have z1:=(QA (o:=1) Hz3.out).trans (rfl:_=some (Value.int .i64 0));have z2:=(QA (o:=2) Hz3.out).trans (rfl:_=some (Value.int .i64 0));have z3:=(QA (o:=3) Hz3.out).trans (rfl:_=some (Value.string ⟨#[]⟩));have z4:=(QA (o:=4) Hz3.out).trans (rfl:_=some (Value.int .i64 0));have fz0:=QB Hz3.out 0;have fz1:=QB Hz3.out 1;have fz2:=QB Hz3.out 2;have fz3:=QB Hz3.out 3;have fz4:=QB Hz3.out 4)|skip);clear hb))
 all_goals have hzB:=HBW.out.size
 all_goals have hzb_g:=hsz HBg
 all_goals have hzb_u:=hsz HBu
 all_goals have hzc1:=hb1.size
 all_goals have hzc2:=hb2.size
 all_goals have hzc3:=hb3.size
 focus
  obtain⟨W,xb,eW,eX,hR⟩:=JX hb3 (.int .i64 xk) (.int .i64 xp) (.int .i64 xq) (.string xs) (.int .i64 xr);rw[eW];try rw[eX]
  clear eW eX;try clear z0 z1 z2 z3 z4 fz0 fz1 fz2 fz3 fz4
 rotate_left
 focus
  obtain⟨W,xb,eW,eX,hR⟩:=ZJ (b:=nw2.heap.size) hb3 (by omega) Hz3.out (.int .i64 xk) (.int .i64 xp) (.int .i64 xq) (.string xs) (.int .i64 xr);rw[eW];try rw[eX]
  clear eW eX;try clear z0 z1 z2 z3 z4 fz0 fz1 fz2 fz3 fz4
 rotate_left
 focus
  obtain⟨W,xb,eW,eX,hR⟩:=ZJ (b:=nw1.heap.size) hb3 (by omega) Hz3.out (.int .i64 xk) (.int .i64 xp) (.int .i64 xq) (.string xs) (.int .i64 xr);rw[eW];try rw[eX]
  clear eW eX;try clear z0 z1 z2 z3 z4 fz0 fz1 fz2 fz3 fz4
 rotate_left
 focus
  obtain⟨W,xb,eW,eX,hR⟩:=ZJ (b:=B.heap.size) hb3 (by omega) Hz3.out (.int .i64 xk) (.int .i64 xp) (.int .i64 xq) (.string xs) (.int .i64 xr);rw[eW];try rw[eX]
  clear eW eX;try clear z0 z1 z2 z3 z4 fz0 fz1 fz2 fz3 fz4
 rotate_left
 all_goals
  obtain⟨HWB,HWx,hzx⟩:=hR.to HBW.out;have HWg:=hR.old HBg;have HWu:=hR.old HBu;clear hR
 all_goals
  have hyx:=hsz HWx;obtain⟨x0,x1,x2,x3,x4⟩:=zc5 HWx.out;have hyu:=hsz HWu;obtain⟨u0,u1,u2,u3,u4,u5,u6,u7,u8,u9,u10,u11,u12,u13⟩:=zc14 HWu.out;obtain⟨fu0,fu1,fu2,fu3,fu4,fu5,fu6,fu7,fu8,fu9,fu10,fu11,fu12,fu13⟩:=zf14 HWu.out;rcases HAF.out with⟨h16,rfl⟩|⟨h16,h17,rfl⟩|⟨h16,h17,rfl⟩;all_goals
   go_wp2;refine zr (by simp[results,results74,go_sem,hyu,u0,u1,u2,u3,u4,u5,u6,u7,u8,u9,u10,u11,u12,u13]<;>rfl) ?_;exact Cj (r:=w.heap.size+1) (a:=⟨k1,p1,q1,s1,r1⟩) (b:=⟨k2,p2,q2,s2,r2⟩) (f:=⟨xk,xp,xq,xs,xr⟩) HWB.out HWg.out hbase (by omega) (by omega) (QP (F:=fun b=>b=w.heap.size+1) (Mods.refl _ _) (.inl rfl) _ _ _ _ _ _ _ _ _ _ _ _ _ _)
theorem EU (w:World) (ho:Option Addr) (o:Int) (vk vp vq:Int) (vs:ByteArray) (vr:Int) (c:Int) (base g:Nat) (hbase:base<=g) (k1 p1 q1:Int) (s1:ByteArray) (r1:Int) (k2 p2 q2:Int) (s2:ByteArray) (r2:Int) (hg:w.heap[g]? =some (.cells #[k1,p1,q1,s1,r1,k2,p2,q2,s2,r2] 25)) (xk xp xq:Int) (xs:ByteArray) (xr:Int) (h0:(c==0)=false) (h1:(c==7)=false) (h2:(c==6)=false) (h3:(c==14)=false) (E:ByteArray) (EV:∀W,Calls prog 16 #[o] W (StrPost W E)) (FI:∀W bh be,Below w w W->W.heap[bh]? =some (.cells #[.pointer ho] 36)->W.heap[be]? =some (.cells #[E] 9)->Calls prog 179 #[.agg #[k1,p1,q1,s1,r1],.agg #[k2,p2,q2,s2,r2],.pointer (some ⟨bh,0,none⟩),.pointer (some ⟨be,0,none⟩)] W (ValPost W ⟨xk,xp,xq,xs,xr⟩)) (hx:(xk==0)=true) (msg:ByteArray) (WN:∀W,Below w w W->Calls prog 122 #[o,.agg #[k1,p1,q1,s1,r1],.agg #[k2,p2,q2,s2,r2]] W (StrPost W msg)):Calls prog 74 #[.pointer ho,o,.agg #[vk,vp,vq,vs,vr],c,.slice (some g) 2 2] w (NdB w base (ZZ msg)):=by
 have HEV:=zh EV;have HFI:=zh FI;have HG:=zh hg;have hgl:g<w:=(Array.getElem?_eq_some_iff.1 hg).1;have HWN:=zh WN;clear EV FI hg WN;go_enter func74,ntmps74;go_wp2;obtain⟨B,hB⟩:∃B,B=(w.alloc (.cells #[vk,vp,vq,vs,vr] 25)).alloc oNd:=⟨_,rfl⟩
 rw[<-hB];have HBW:=zh (show Below w w B by rw[hB];exact QE _ _ _);have HBg:=zh (show B.heap[g]? =some (.cells #[k1,p1,q1,s1,r1,k2,p2,q2,s2,r2] 25) by rw[hB];exact Qs HG.out _ _);have HBu:=zh (show B.heap[w.heap.size+1]? =some oNd by rw[hB];exact QY _ _ _);clear hB;have SO:=zh (fun(W:World) (hb:Below B B W)=>(at10 (QL hb HBg.out) (zh hb)));have SO5:=zh (fun(W:World) (b:Nat) (x y z u v:Value) (hb:Below B B W) (hbb:B.heap.size<=b)=>SO.out _ (QG hb hbb x y z u v));have SO1:=zh (fun(W:World) (o:Obj) (hb:Below B B W)=>SO.out _ (hb.alloc hb.size o));have SO1D:=zh (fun(W:World) (o:Obj) (hb:Below B B W)=>SO.out _ (hb.alloc hb.size o).drew);have hbR:Below B B B:=Below.refl _ _;have hbD:Below B B B.drew:=(Below.refl _ _).drew
 go_region_held3 (fun w'=>w'.cell? g=some (.int .i64 k1)/\w'.cell? ⟨g,1,none⟩=some (.int .i64 p1)/\w'.cell? ⟨g,2,none⟩=some (.int .i64 q1)/\w'.cell? ⟨g,3,none⟩=some (.string s1)/\w'.cell? ⟨g,4,none⟩=some (.int .i64 r1)/\w'.cell? ⟨g,5,none⟩=some (.int .i64 k2)/\w'.cell? ⟨g,6,none⟩=some (.int .i64 p2)/\w'.cell? ⟨g,7,none⟩=some (.int .i64 q2)/\w'.cell? ⟨g,8,none⟩=some (.string s2)/\w'.cell? ⟨g,9,none⟩=some (.int .i64 r2)/\Hid (Below B B w'))
  (first|with_reducible exact SO.out _ (by assumption)|with_reducible exact SO1.out _ _ (by assumption)|with_reducible exact SO1D.out _ _ (by assumption)|with_reducible exact SO5.out _ _ _ _ _ _ _ (by assumption) (by first|with_reducible exact Nat.le_refl _|with_reducible exact Below.size (by assumption)))
  (first|(go_at_call 16;refine(HEV.out _).mono ?_;rintro e nw1 ⟨rfl,hb⟩;have hb1:=QC (Z0 (by assumption)) hb;(first|(with_reducible have Hz1:=hkh hb (Qu B (oV 0 0 0 ⟨#[]⟩ 0)))|skip);clear hb)|(go_at_call 121;refine(KK _ _ _).mono ?_;rintro e nw2 ⟨rfl,hbh,hbe,hb⟩;have hb2:=QC (Z0 (by assumption)) hb;(first|(with_reducible have Hz2:=hkh hb Hz1.out)|(with_reducible have Hz2:=hkh hb (Qg nw1 (oV 0 0 0 ⟨#[]⟩ 0)))|(with_reducible have Hz2:=hkh hb (Qu nw1 (oV 0 0 0 ⟨#[]⟩ 0)))|skip);have HBH:=zh hbh;have HBE:=zh hbe;clear hbh hbe;clear hb)|(go_at_call 179;refine(HFI.out _ _ _ (QC HBW.out (Z0 (by assumption))) (by first|with_reducible exact HBH.out|with_reducible exact QI HBH.out _|(simpa using HBH.out)) (by first|with_reducible exact HBE.out|with_reducible exact QI HBE.out _|(simpa using HBE.out))).mono ?_;rintro e nw3 ⟨rfl,hb⟩;have hb3:=QC (Z0 (by assumption)) hb;(first|((with_reducible have Hz3:=hkh hb Hz2.out);have z0:=(QA (o:=0) Hz3.out).trans (rfl:_=some (Value.int .i64 0));have z1:=(QA (o:=1) Hz3.out).trans (rfl:_=some (Value.int .i64 0));have z2:=(QA (o:=2) Hz3.out).trans (rfl:_=some (Value.int .i64 0));have z3:=(QA (o:=3) Hz3.out).trans (rfl:_=some (Value.string ⟨#[]⟩));have z4:=(QA (o:=4) Hz3.out).trans (rfl:_=some (Value.int .i64 0));have fz0:=QB Hz3.out 0;have fz1:=QB Hz3.out 1;have fz2:=QB Hz3.out 2;have fz3:=QB Hz3.out 3;have fz4:=QB Hz3.out 4)|((with_reducible have Hz3:=hkh hb (Qg nw2 (oV 0 0 0 ⟨#[]⟩ 0)));have z0:=(QA (o:=0) Hz3.out).trans (rfl:_=some (Value.int .i64 0));have z1:=(QA (o:=1) Hz3.out).trans (rfl:_=some (Value.int .i64 0));have z2:=(QA (o:=2) Hz3.out).trans (rfl:_=some (Value.int .i64 0));have z3:=(QA (o:=3) Hz3.out).trans (rfl:_=some (Value.string ⟨#[]⟩));have z4:=(QA (o:=4) Hz3.out).trans (rfl:_=some (Value.int .i64 0));have fz0:=QB Hz3.out 0;have fz1:=QB Hz3.out 1;have fz2:=QB Hz3.out 2;have fz3:=QB Hz3.out 3;have fz4:=QB Hz3.out 4)|((with_reducible have Hz3:=hkh hb (Qu nw2 (oV 0 0 0 ⟨#[]⟩ 0)));have z0:=(QA (o:=0) Hz3.out).trans (rfl:_=some (Value.int .i64 0));have z1:=(QA (o:=1) Hz3.out).trans (rfl:_=some (Value.int .i64 0));have z2:=(QA (o:=2) Hz3.out).trans (rfl:_=some (Value.int .i64 0));have z3:=(QA (o:=3) Hz3.out).trans (rfl:_=some (Value.string ⟨#[]⟩));have z4:=(QA (o:=4) Hz3.out).trans (rfl:_=some (Value.int .i64 0));have fz0:=QB Hz3.out 0;have fz1:=QB Hz3.out 1;have fz2:=QB Hz3.out 2;have fz3:=QB Hz3.out 3;have fz4:=QB Hz3.out 4)|skip);clear hb))
 all_goals have hzB:=HBW.out.size
 all_goals have hzb_g:=hsz HBg
 all_goals have hzb_u:=hsz HBu
 all_goals have hzc1:=hb1.size
 all_goals have hzc2:=hb2.size
 all_goals have hzc3:=hb3.size
 focus
  obtain⟨W,xb,eW,eX,hR⟩:=JX hb3 (.int .i64 xk) (.int .i64 xp) (.int .i64 xq) (.string xs) (.int .i64 xr);rw[eW];try rw[eX]
  clear eW eX;try clear z0 z1 z2 z3 z4 fz0 fz1 fz2 fz3 fz4
 rotate_left
 focus
  obtain⟨W,xb,eW,eX,hR⟩:=ZJ (b:=nw2.heap.size) hb3 (by omega) Hz3.out (.int .i64 xk) (.int .i64 xp) (.int .i64 xq) (.string xs) (.int .i64 xr);rw[eW];try rw[eX]
  clear eW eX;try clear z0 z1 z2 z3 z4 fz0 fz1 fz2 fz3 fz4
 rotate_left
 focus
  obtain⟨W,xb,eW,eX,hR⟩:=ZJ (b:=nw1.heap.size) hb3 (by omega) Hz3.out (.int .i64 xk) (.int .i64 xp) (.int .i64 xq) (.string xs) (.int .i64 xr);rw[eW];try rw[eX]
  clear eW eX;try clear z0 z1 z2 z3 z4 fz0 fz1 fz2 fz3 fz4
 rotate_left
 focus
  obtain⟨W,xb,eW,eX,hR⟩:=ZJ (b:=B.heap.size) hb3 (by omega) Hz3.out (.int .i64 xk) (.int .i64 xp) (.int .i64 xq) (.string xs) (.int .i64 xr);rw[eW];try rw[eX]
  clear eW eX;try clear z0 z1 z2 z3 z4 fz0 fz1 fz2 fz3 fz4
 rotate_left
 all_goals
  obtain⟨HWB,HWx,hzx⟩:=hR.to HBW.out;have HWg:=hR.old HBg;have HWu:=hR.old HBu;clear hR
 all_goals
  have hyx:=hsz HWx;obtain⟨x0,x1,x2,x3,x4⟩:=zc5 HWx.out;have hyg:=hsz HWg;obtain⟨g0,g1,g2,g3,g4,g5,g6,g7,g8,g9⟩:=zc10 HWg.out;go_wp2;refine QK mixed (by kernel_rfl) ?_;go_wp2_with fail
  refine(HWN.out _ HWB.out.drew).mono ?_;rintro e v1 ⟨rfl,hb⟩;have Hu1:=hkh hb (show W.drew.heap[w.heap.size+1]? =_ from HWu.out);have HV1:=hbn HWB.out.drew hb;clear hb;go_wp2_with fail
  refine(Ji _ _).mono ?_;rintro e v2 ⟨av,rfl,hA,hb⟩;have Hu2:=hkh hb Hu1.out;have HV2:=hbn HV1.out hb;obtain⟨ao,an,ac,rfl⟩:=hA.shape;have HA:=zh hA;clear hb hA;have hyu:=hsz Hu2;obtain⟨u0,u1,u2,u3,u4,u5,u6,u7,u8,u9,u10,u11,u12,u13⟩:=zc14 Hu2.out;obtain⟨fu0,fu1,fu2,fu3,fu4,fu5,fu6,fu7,fu8,fu9,fu10,fu11,fu12,fu13⟩:=zf14 Hu2.out;go_wp2;refine⟨by kernel_rfl,?_⟩;go_wp2;refine zr (by simp[results,results74,go_sem,hyu,u0,u1,u2,u3,u4,u5,u6,u7,u8,u9,u10,u11,u12,u13]<;>rfl) ?_;exact Xi (r:=w.heap.size+1) rfl HV2.out HA.out (by omega) (QP (F:=fun b=>b=w.heap.size+1) (Mods.refl _ _) (.inl rfl) _ _ _ _ _ _ _ _ _ _ _ _ _ _)
end Go.Proofs.YthkpckgcgkijbaaGreatDoor
