import Derived.Test.YthkpckgcgkijbaaGreatDoorLwB
import Derived.Test.YthkpckgcgkijbaaGreatDoorOpJe
import Derived.Test.YthkpckgcgkijbaaGreatDoorOrD
import Derived.Test.YthkpckgcgkijbaaGreatDoorOrCv2
set_option linter.unusedVariables false
set_option linter.unusedSimpArgs false
set_option maxRecDepth 100000
set_option maxHeartbeats 2000000
namespace Go.Proofs.YthkpckgcgkijbaaGreatDoor
open Go.RowKit Go.Proofs.Lexi Go.Proofs.Tryz
theorem Om (w:World) (hp:Value) (hand:V->ByteArray->V) (HH:∀W,Below w w W->∀(k p q:Int) (s:ByteArray) (r:Int) (ev:ByteArray),i64 r->ev.size<=4096->Calls prog 125 #[hp,.agg #[k,p,q,s,r],ev] W (ValPost W (hand ⟨k,p,q,s,r⟩ ev))) (o:Int) (k1 p1 q1:Int) (s1:ByteArray) (r1:Int) (k2 p2 q2:Int) (s2:ByteArray) (r2:Int) (hr1:i64 r1) (hr2:i64 r2):
  Calls prog 21 #[hp,o,.agg #[k1,p1,q1,s1,r1],.agg #[k2,p2,q2,s2,r2]] w (NdPost w (ZY hand o ⟨k1,p1,q1,s1,r1⟩ ⟨k2,p2,q2,s2,r2⟩)):=by
 have VA:=fun W=>JW W k1 p1 q1 s1 r1;have VB:=fun W=>JW W k2 p2 q2 s2 r2;unfold ZY;by_cases hb1:o<1
 ·rw[if_pos (.inl (by omega))];exact F5 w hp o k1 p1 q1 s1 r1 k2 p2 q2 s2 r2 hb1
 by_cases hb2:19<o
 ·rw[if_pos (.inl (by omega))];exact DY w hp o k1 p1 q1 s1 r1 k2 p2 q2 s2 r2 hb1 hb2
 cases hv1:Qt ⟨k1,p1,q1,s1,r1⟩ with
 |false=>
  rw[hv1] at VA;rw[if_pos (.inr (.inl rfl))];exact Db w hp o k1 p1 q1 s1 r1 k2 p2 q2 s2 r2 hb1 hb2 VA
 |true=>
  rw[hv1] at VA;cases hv2:Qt ⟨k2,p2,q2,s2,r2⟩ with
  |false=>
   rw[hv2] at VB;rw[if_pos (.inr (.inr rfl))];exact Da w hp o k1 p1 q1 s1 r1 k2 p2 q2 s2 r2 hb1 hb2 VA VB
  |true=>
   rw[hv2] at VB;have hs1:s1.size<=2000000000:=Nat.le_trans (ZU hv1) (by omega);have hs2:s2.size<=2000000000:=Nat.le_trans (ZU hv2) (by omega);rw[if_neg (by rintro(h|h|h);omega;cases h;cases h)];have OPab:∀oo af,1<=oo->oo<=19->oo≠14->oo≠15->oo≠18->oo≠19->(af=if oo=16\/oo=17 then 2 else 1)->∀W,Below w w W->Calls prog 76 #[hp,.int .i64 oo,.agg #[k1,p1,q1,s1,r1],.agg #[k2,p2,q2,s2,r2],.int .i64 af] W (NdPost W (ZL hand oo (Ze oo ⟨k1,p1,q1,s1,r1⟩ ⟨k2,p2,q2,s2,r2⟩) ⟨k1,p1,q1,s1,r1⟩ ⟨k2,p2,q2,s2,r2⟩)):=
    fun oo af g1 g2 g14 g15 g18 g19 haf W hb=>Fv W hp hand (fun W' hb'=>HH W' (QC hb hb')) oo k1 p1 q1 s1 r1 k2 p2 q2 s2 r2 hr1 hr2 hs1 hs2 _ rfl (fun c hc=>Jr (by omega) hv1 (fun _=>hv2) hc) (fun h=>AF g1 (by omega) g14 g15 (by omega) g18 g19 hv1 (fun _=>hv2) h) af haf
   have OPba:∀oo af,1<=oo->oo<=19->oo≠14->oo≠15->oo≠18->oo≠19->(af=if oo=16\/oo=17 then 2 else 1)->∀W,Below w w W->Calls prog 76 #[hp,.int .i64 oo,.agg #[k2,p2,q2,s2,r2],.agg #[k1,p1,q1,s1,r1],.int .i64 af] W (NdPost W (ZL hand oo (Ze oo ⟨k2,p2,q2,s2,r2⟩ ⟨k1,p1,q1,s1,r1⟩) ⟨k2,p2,q2,s2,r2⟩ ⟨k1,p1,q1,s1,r1⟩)):=
    fun oo af g1 g2 g14 g15 g18 g19 haf W hb=>Fv W hp hand (fun W' hb'=>HH W' (QC hb hb')) oo k2 p2 q2 s2 r2 k1 p1 q1 s1 r1 hr2 hr1 hs2 hs1 _ rfl (fun c hc=>Jr (by omega) hv2 (fun _=>hv1) hc) (fun h=>AF g1 (by omega) g14 g15 (by omega) g18 g19 hv2 (fun _=>hv1) h) af haf
   by_cases h18:o=18
   ·rw[if_pos h18];exact Nm w hp o k1 p1 q1 s1 r1 k2 p2 q2 s2 r2 hb1 hb2 VA VB (beq_iff_eq.2 h18) _ (OPba 16 2 (by omega) (by omega) (by omega) (by omega) (by omega) (by omega) rfl)
   ·have h18':(o==18)=false:=beq_eq_false_iff_ne.2 h18;rw[if_neg h18];by_cases h19:o=19
    ·rw[if_pos h19];exact Nn w hp o k1 p1 q1 s1 r1 k2 p2 q2 s2 r2 hb1 hb2 VA VB h18' (beq_iff_eq.2 h19) _ (OPba 17 2 (by omega) (by omega) (by omega) (by omega) (by omega) (by omega) rfl)
    ·have h19':(o==19)=false:=beq_eq_false_iff_ne.2 h19;rw[if_neg h19];by_cases heq:o=14\/o=15
     ·rw[if_pos heq];have h16':(o==16)=false:=beq_eq_false_iff_ne.2 (by omega);have h17':(o==17)=false:=beq_eq_false_iff_ne.2 (by omega);have HN:=fun W (hb:Below w w W)=>Ub W hp hand (fun W' hb'=>HH W' (QC hb hb')) (Q6 o) (JD o) k1 p1 q1 s1 r1 k2 p2 q2 s2 r2 hr1 hr2;have hev:Q6 o=⟨#[95,95,101,113]⟩:=by rcases heq with rfl|rfl<;>rfl
      have EQ:=fun W=>Bf W k1 p1 q1 s1 r1 k2 p2 q2 s2 r2;have hbo:((o==14)=true/\decide (o=14)=true)\/((o==14)=false/\(o==15)=true/\decide (o=14)=false):=by
       rcases heq with rfl|rfl
       ·exact .inl ⟨rfl,rfl⟩
       ·exact .inr ⟨rfl,rfl,rfl⟩
      have haf:((o==14)=true/\(o==15)=false/\(if o=15 then(3:Int) else 2)=2)\/((o==14)=false/\(o==15)=true/\(if o=15 then(3:Int) else 2)=3):=by
       rcases heq with rfl|rfl
       ·exact .inl ⟨rfl,rfl,rfl⟩
       ·exact .inr ⟨rfl,rfl,rfl⟩
      unfold Xp;rw[hev] at HN ⊢;obtain⟨⟨xk,xp,xq,xs,xr⟩,hX⟩:∃X,Zs hand ⟨#[95,95,101,113]⟩ ⟨k1,p1,q1,s1,r1⟩ ⟨k2,p2,q2,s2,r2⟩=X:=⟨_,rfl⟩
      rw[hX] at HN ⊢;cases he:eqV ⟨k1,p1,q1,s1,r1⟩ ⟨k2,p2,q2,s2,r2⟩ with
      |true=>
       rw[he] at EQ;rw[if_pos (.inl rfl)];exact XO w hp o k1 p1 q1 s1 r1 k2 p2 q2 s2 r2 hb1 hb2 VA VB h18' h19' h16' h17' _ hbo xk xp xq xs xr HN _ EQ rfl
      |false=>
       rw[he] at EQ;by_cases hk:k1=k2
       ·have hk':(k1 !=k2)=false:=by rw[bne_eq_false_iff_eq];exact hk
        by_cases h48:k1=4\/k1=8
        ·rw[if_neg (by
          rintro(h|h|h)
          ·cases h
          ·exact h hk
          ·have h:k1≠4/\k1≠8:=h;omega)]
         by_cases hx:xk=0
         ·rw[if_pos hx];rcases h48 with h4|h8
          ·exact Yx w hp o k1 p1 q1 s1 r1 k2 p2 q2 s2 r2 hb1 hb2 VA VB h18' h19' h16' h17' _ hbo xk xp xq xs xr HN _ EQ rfl hk' (by rw[bne_eq_false_iff_eq];exact h4) (beq_iff_eq.2 hx)
          ·exact Yw w hp o k1 p1 q1 s1 r1 k2 p2 q2 s2 r2 hb1 hb2 VA VB h18' h19' h16' h17' _ hbo xk xp xq xs xr HN _ EQ rfl hk' (by rw[bne_iff_ne];omega) (by rw[bne_eq_false_iff_eq];exact h8) (beq_iff_eq.2 hx)
         ·rw[if_neg hx];rcases h48 with h4|h8
          ·exact XQ w hp o k1 p1 q1 s1 r1 k2 p2 q2 s2 r2 hb1 hb2 VA VB h18' h19' h16' h17' _ haf xk xp xq xs xr HN _ EQ rfl hk' (by rw[bne_eq_false_iff_eq];exact h4) (beq_eq_false_iff_ne.2 hx)
          ·exact XP w hp o k1 p1 q1 s1 r1 k2 p2 q2 s2 r2 hb1 hb2 VA VB h18' h19' h16' h17' _ haf xk xp xq xs xr HN _ EQ rfl hk' (by rw[bne_iff_ne];omega) (by rw[bne_eq_false_iff_eq];exact h8) (beq_eq_false_iff_ne.2 hx)
        ·rw[if_pos (.inr (.inr (show k1≠4/\k1≠8 by omega)))];exact Yv w hp o k1 p1 q1 s1 r1 k2 p2 q2 s2 r2 hb1 hb2 VA VB h18' h19' h16' h17' _ hbo xk xp xq xs xr HN _ EQ rfl hk' (by rw[bne_iff_ne];omega) (by rw[bne_iff_ne];omega)
       ·rw[if_pos (.inr (.inl hk))];exact Yy w hp o k1 p1 q1 s1 r1 k2 p2 q2 s2 r2 hb1 hb2 VA VB h18' h19' h16' h17' _ hbo xk xp xq xs xr HN _ EQ rfl (by rw[bne_iff_ne];exact hk)
     ·rw[if_neg heq];by_cases h16:o=16
      ·exact Nk w hp o k1 p1 q1 s1 r1 k2 p2 q2 s2 r2 hb1 hb2 VA VB h18' h19' (beq_iff_eq.2 h16) _ (OPab o 2 (by omega) (by omega) (by omega) (by omega) (by omega) (by omega) (if_pos (.inl h16)).symm)
      ·by_cases h17:o=17
       ·exact Nl w hp o k1 p1 q1 s1 r1 k2 p2 q2 s2 r2 hb1 hb2 VA VB h18' h19' (beq_eq_false_iff_ne.2 h16) (beq_iff_eq.2 h17) _ (OPab o 2 (by omega) (by omega) (by omega) (by omega) (by omega) (by omega) (if_pos (.inr h17)).symm)
       ·exact DZ w hp o k1 p1 q1 s1 r1 k2 p2 q2 s2 r2 hb1 hb2 VA VB h18' h19' (beq_eq_false_iff_ne.2 h16) (beq_eq_false_iff_ne.2 h17) (beq_eq_false_iff_ne.2 (by omega)) (beq_eq_false_iff_ne.2 (by omega)) _ (OPab o 1 (by omega) (by omega) (by omega) (by omega) (by omega) (by omega) (if_neg (by omega)).symm)
theorem XX {c0 c1 c2 c3 c4 c5 c6 c7 c8 c9 p:Prop} (h:c0/\c1/\c2/\c3/\c4/\c5/\c6/\c7/\c8/\c9/\Hid p):p:=h.2.2.2.2.2.2.2.2.2.2.out
theorem LV (w:World) (hg:Glob w) (T Dt F:Int) (so:Option Addr) (n cap:Nat) (o:Int) (k1 p1 q1:Int) (s1:ByteArray) (r1:Int) (k2 p2 q2:Int) (s2:ByteArray) (r2:Int) (BN:∀W,Calls prog 18 #[.agg #[T,Dt,F,.slice so n cap]] W (fun e w'=>e= .returned (.tuple #[.pointer none,.pointer none,.bool false])/\Below W W w')):Calls prog 5 #[.agg #[T,Dt,F,.slice so n cap],o,.agg #[k1,p1,q1,s1,r1],.agg #[k2,p2,q2,s2,r2]] w (BoolPost w true):=by
 have HG:=zh hg;have HBN:=zh BN;clear hg BN;go_enter func5,ntmps5;go_wp2_with fail
 refine(HBN.out _).mono ?_;rintro e w1 ⟨rfl,hb⟩;have Hw1:=hkh hb (Qi _ _ _ _);have Ha1:=hkh hb (Qa _ _ _ _);have Hb1:=hkh hb (QU _ _ _ _);have HW1:=hbn (QM _ _ _ _) hb;have hz1:=hb.size;try simp at hz1
 clear hb;go_wp2_with fail
 refine(KD _ (HG.out.stays HW1.out)).mono ?_;rintro e w9 ⟨rfl,hb⟩;have HW9:=QC HW1.out hb;go_wp2
 go_ret
 exact⟨rfl,HW9⟩
theorem LU (w:World) (hg:Glob w) (T Dt F:Int) (so:Option Addr) (n cap:Nat) (o:Int) (k1 p1 q1:Int) (s1:ByteArray) (r1:Int) (k2 p2 q2:Int) (s2:ByteArray) (r2:Int) (N:Nd) (SN:SameAt N) (BO:∀W,Below w w W->Calls prog 18 #[.agg #[T,Dt,F,.slice so n cap]] W (fun e w'=>∃hp hs:Nat,e= .returned (.tuple #[.pointer (some hp),.pointer (some hs),.bool true])/\(CallAt w' 20 #[.pointer (some hp),o,.agg #[k1,p1,q1,s1,r1],.agg #[k2,p2,q2,s2,r2]] N/\CallAt w' 21 #[.pointer (some hs),o,.agg #[k1,p1,q1,s1,r1],.agg #[k2,p2,q2,s2,r2]] N)/\Below W W w')):Calls prog 5 #[.agg #[T,Dt,F,.slice so n cap],o,.agg #[k1,p1,q1,s1,r1],.agg #[k2,p2,q2,s2,r2]] w (BoolPost w true):=by
 have HG:=zh hg;have HSN:=zh SN;have HBO:=zh BO;clear hg SN BO;go_enter func5,ntmps5;go_wp2_with fail
 refine(HBO.out _ (QM _ _ _ _)).mono ?_;rintro e w1 ⟨hp,hs,rfl,⟨hq1,hq2⟩,hb⟩;have HQ1:=zh hq1;have HQ2:=zh hq2;clear hq1 hq2;have Hw1:=hkh hb (Qi _ _ _ _);have Ha1:=hkh hb (Qa _ _ _ _);have Hb1:=hkh hb (QU _ _ _ _);have HW1:=hbn (QM _ _ _ _) hb;have hz1:=hb.size;try simp at hz1
 clear hb;go_wp2;have SOU:=zh (fun(V:World) (hb:Below w1 w1 V)=>(show V.cell? ⟨w+1,0,none⟩=some (.int .i64 k1)/\V.cell? ⟨w+1,1,none⟩=some (.int .i64 p1)/\V.cell? ⟨w+1,2,none⟩=some (.int .i64 q1)/\V.cell? ⟨w+1,3,none⟩=some (.string s1)/\V.cell? ⟨w+1,4,none⟩=some (.int .i64 r1)/\V.cell? ⟨w+1+1,0,none⟩=some (.int .i64 k2)/\V.cell? ⟨w+1+1,1,none⟩=some (.int .i64 p2)/\V.cell? ⟨w+1+1,2,none⟩=some (.int .i64 q2)/\V.cell? ⟨w+1+1,3,none⟩=some (.string s2)/\V.cell? ⟨w+1+1,4,none⟩=some (.int .i64 r2)/\Hid (Below w1 w1 V) from⟨by rw[QA (QL hb Ha1.out)];rfl,by rw[QA (QL hb Ha1.out)];rfl,by rw[QA (QL hb Ha1.out)];rfl,by rw[QA (QL hb Ha1.out)];rfl,by rw[QA (QL hb Ha1.out)];rfl,by rw[QA (QL hb Hb1.out)];rfl,by rw[QA (QL hb Hb1.out)];rfl,by rw[QA (QL hb Hb1.out)];rfl,by rw[QA (QL hb Hb1.out)];rfl,by rw[QA (QL hb Hb1.out)];rfl,zh hb⟩));have hbRU:Below w1 w1 w1:=Below.refl _ _;have hbDU:Below w1 w1 w1.drew:=(Below.refl _ _).drew
 go_region_held3 (fun w'=>w'.cell? ⟨w+1,0,none⟩=some (.int .i64 k1)/\w'.cell? ⟨w+1,1,none⟩=some (.int .i64 p1)/\w'.cell? ⟨w+1,2,none⟩=some (.int .i64 q1)/\w'.cell? ⟨w+1,3,none⟩=some (.string s1)/\w'.cell? ⟨w+1,4,none⟩=some (.int .i64 r1)/\w'.cell? ⟨w+1+1,0,none⟩=some (.int .i64 k2)/\w'.cell? ⟨w+1+1,1,none⟩=some (.int .i64 p2)/\w'.cell? ⟨w+1+1,2,none⟩=some (.int .i64 q2)/\w'.cell? ⟨w+1+1,3,none⟩=some (.string s2)/\w'.cell? ⟨w+1+1,4,none⟩=some (.int .i64 r2)/\Hid (Below w1 w1 w'))
  (first|with_reducible exact SOU.out _ (by assumption))
  (first|(go_at_call 20;(with_reducible refine(HQ1.out _ (XX (by assumption))).mono ?_);rintro e n1 ⟨av1,rfl,hA,hb⟩;have hb1:=QC (XX (by assumption)) hb;have HA1:=zh hA;clear hA;clear hb)|(go_at_call 21;(with_reducible refine(HQ2.out _ (XX (by assumption))).mono ?_);rintro e n2 ⟨av2,rfl,hA,hb⟩;have hb2:=QC (XX (by assumption)) hb;have HA1b:=zh (HA1.out.below hb);have HA2:=zh hA;clear hA;clear hb)|(go_at_call 19;(with_reducible refine(HSN.out _ _ _ _ _ HA1b.out HA2.out).mono ?_);rintro e n3 ⟨rfl,hb⟩;have hb3:=QC (XX (by assumption)) hb;skip;clear hb)|(go_at_call 13;(with_reducible refine(KD _ (HG.out.stays (QC HW1.out (XX (by assumption))))).mono ?_);rintro e n4 ⟨rfl,hb⟩;have hb4:=QC (XX (by assumption)) hb;skip;clear hb))
 all_goals go_wp2
 all_goals go_ret
 all_goals exact⟨rfl,QC HW1.out (by assumption)⟩
theorem Mt (w:World) (hg:Glob w) (T Dt F:Int) (so:Option Addr) (cap:Nat) (fs:List Fd) (o:Int) (k1 p1 q1:Int) (s1:ByteArray) (r1:Int) (k2 p2 q2:Int) (s2:ByteArray) (r2:Int) (wa:WfV ⟨k1,p1,q1,s1,r1⟩) (wb:WfV ⟨k2,p2,q2,s2,r2⟩) (wf:∀f∈fs,FdWf f)
  (hfa:0<fs.length->∃g o,so=some ⟨g,o,none⟩/\g<w.heap.size/\∀k f,fs[k]? =some f->∀j c,f.cells[j]? =some c->w.cell? ⟨g,o+k*9+j,none⟩=some c):
  Calls prog 5 #[.agg #[T,Dt,F,.slice so fs.length cap],.int .i64 o,.agg #[k1,p1,q1,s1,r1],.agg #[k2,p2,q2,s2,r2]] w (BoolPost w true):=by
 by_cases hok:WorldOk T Dt F fs.length
 rotate_left
 ·exact LV w hg T Dt F so fs.length cap o k1 p1 q1 s1 r1 k2 p2 q2 s2 r2 (fun W=>Ey W T Dt F so fs.length cap hok)
 obtain⟨t0,t1,d0,d1,f0,f1,hn⟩:=hok;obtain⟨T,rfl⟩:=Int.eq_ofNat_of_zero_le t0;obtain⟨Dt,rfl⟩:=Int.eq_ofNat_of_zero_le d0;obtain⟨F,rfl⟩:=Int.eq_ofNat_of_zero_le f0;have hlen:(JN T Dt F fs).length<=1000:=by
  unfold JN;rw[YD,Gi];omega
 have BO:=fun W (hb:Below w w W)=>XF W T Dt F (by omega) (by omega) (by omega) fs hn wf so cap (fun h=>by
  obtain⟨g,o,rfl,hgl,hc⟩:=hfa h;exact⟨g,o,rfl,Nat.lt_of_lt_of_le hgl hb.size,fun k f hk j c hj=>(hb.cell (p:=⟨g,o+k*9+j,none⟩) hgl).trans (hc k f hk j c hj)⟩)
 obtain⟨M,hM⟩:∃M,JN T Dt F fs=M:=⟨_,rfl⟩
 rw[hM] at BO hlen;clear hM hfa wf;refine LU w hg T Dt F so fs.length cap o k1 p1 q1 s1 r1 k2 p2 q2 s2 r2 (ZY (ZN M) o ⟨k1,p1,q1,s1,r1⟩ ⟨k2,p2,q2,s2,r2⟩) (OR _) (fun W hb=>(BO W hb).mono ?_);rintro e w' ⟨hp,hs,he,hP,hR,hb'⟩;exact⟨hp,hs,he,⟨fun W hW=>FF W ((hg.stays (QC hb hb')).stays hW) (some ⟨hp,0,none⟩) (ZN M) (Gx (hP.below hW) (by omega)) o k1 p1 q1 s1 r1 k2 p2 q2 s2 r2 wa.k wa.r wb.k wb.r,fun W hW=>Om W (.pointer (some hs)) (ZN M) (PW (hR.below hW) (by omega) hlen) o k1 p1 q1 s1 r1 k2 p2 q2 s2 r2 wa.r wb.r⟩,hb'⟩
end Go.Proofs.YthkpckgcgkijbaaGreatDoor
