import Derived.Test.YthkpckgcgkijbaaGreatDoorLwB
import Derived.Test.YthkpckgcgkijbaaGreatDoorLwU
import Derived.Test.YthkpckgcgkijbaaGreatDoorOrDv2
import Derived.Test.YthkpckgcgkijbaaGreatDoorSHpL
set_option linter.unusedVariables false
set_option linter.unusedSimpArgs false
set_option maxRecDepth 100000
set_option maxHeartbeats 2000000
namespace Go.Proofs.YthkpckgcgkijbaaGreatDoor
open Go.RowKit Go.Proofs.Lexi Go.Proofs.Tryz
variable (w:World)
theorem SE {base n:Nat} {w:World} {h:Nat} {M:LH} (hP:RHp base n w h M) (hl:M.length<=1000) (k1 p1 q1:Int) (s1:ByteArray) (r1:Int):
  ∃c:Nat,∀W,Below w w W->Calls prog 134 #[h,.agg #[k1,p1,q1,s1,r1]] W (PtrPost W (.tuple #[.int .i64 0,.int .i64 (c:Nat)])):=by
 obtain⟨av,uv,H,h1,h2,h3,h4⟩:=hP.ex;have e:M.length=H.length:=by rw[<-h2];exact List.length_map ..
 exact Bw w h av uv H h1 (by omega) k1 p1 q1 s1 r1
theorem Lc (hg:Glob w) (T Dt F:Int) (so:Option Addr) (n cap:Nat) (o:Int) (k1 p1 q1:Int) (s1:ByteArray) (r1:Int) (BN:∀W,Calls prog 18 #[.agg #[T,Dt,F,.slice so n cap]] W (fun e w'=>e= .returned (.tuple #[.pointer none,.pointer none,.bool false])/\Below W W w')):Calls prog 6 #[.agg #[T,Dt,F,.slice so n cap],o,.agg #[k1,p1,q1,s1,r1]] w (BoolPost w true):=by
 have HG:=zh hg;have HBN:=zh BN;clear hg BN;go_enter func6,ntmps6;go_wp2_with fail
 refine(HBN.out _).mono ?_;rintro e w1 ⟨rfl,hb⟩;have Hw1:=hkh hb (Qm _ _ _);have Ha1:=hkh hb (QY _ _ _);have HW1:=hbn (QE _ _ _) hb;have hz1:=hb.size;try simp at hz1
 clear hb;go_wp2_with fail
 refine(KD _ (HG.out.stays HW1.out)).mono ?_;rintro e w9 ⟨rfl,hb⟩;have HW9:=QC HW1.out hb;go_wp2
 go_ret
 exact⟨rfl,HW9⟩
theorem Lb (hg:Glob w) (T Dt F:Int) (so:Option Addr) (n cap:Nat) (o:Int) (k1 p1 q1:Int) (s1:ByteArray) (r1:Int) (N:Nd) (SN:SameAt N) (BO:∀W,Below w w W->Calls prog 18 #[.agg #[T,Dt,F,.slice so n cap]] W (fun e w'=>∃hp hs:Nat,e= .returned (.tuple #[.pointer (some hp),.pointer (some hs),.bool true])/\(CallAt w' 22 #[.pointer (some hp),o,.agg #[k1,p1,q1,s1,r1]] N/\CallAt w' 23 #[.pointer (some hs),o,.agg #[k1,p1,q1,s1,r1]] N)/\Below W W w')):Calls prog 6 #[.agg #[T,Dt,F,.slice so n cap],o,.agg #[k1,p1,q1,s1,r1]] w (BoolPost w true):=by
 have HG:=zh hg;have HSN:=zh SN;have HBO:=zh BO;clear hg SN BO;go_enter func6,ntmps6;go_wp2_with fail
 refine(HBO.out _ (QE _ _ _)).mono ?_;rintro e w1 ⟨hp,hs,rfl,⟨hq1,hq2⟩,hb⟩;have HQ1:=zh hq1;have HQ2:=zh hq2;clear hq1 hq2;have Hw1:=hkh hb (Qm _ _ _);have Ha1:=hkh hb (QY _ _ _);have HW1:=hbn (QE _ _ _) hb;have hz1:=hb.size;try simp at hz1
 clear hb;go_wp2;have SOU:=zh (fun(V:World) (hb:Below w1 w1 V)=>(show V.cell? ⟨w+1,0,none⟩=some (.int .i64 k1)/\V.cell? ⟨w+1,1,none⟩=some (.int .i64 p1)/\V.cell? ⟨w+1,2,none⟩=some (.int .i64 q1)/\V.cell? ⟨w+1,3,none⟩=some (.string s1)/\V.cell? ⟨w+1,4,none⟩=some (.int .i64 r1)/\Hid (Below w1 w1 V) from⟨by rw[QA (QL hb Ha1.out)];rfl,by rw[QA (QL hb Ha1.out)];rfl,by rw[QA (QL hb Ha1.out)];rfl,by rw[QA (QL hb Ha1.out)];rfl,by rw[QA (QL hb Ha1.out)];rfl,zh hb⟩));have hbRU:Below w1 w1 w1:=Below.refl _ _;have hbDU:Below w1 w1 w1.drew:=(Below.refl _ _).drew
 go_region_held3 (fun w'=>w'.cell? ⟨w+1,0,none⟩=some (.int .i64 k1)/\w'.cell? ⟨w+1,1,none⟩=some (.int .i64 p1)/\w'.cell? ⟨w+1,2,none⟩=some (.int .i64 q1)/\w'.cell? ⟨w+1,3,none⟩=some (.string s1)/\w'.cell? ⟨w+1,4,none⟩=some (.int .i64 r1)/\Hid (Below w1 w1 w'))
  (first|with_reducible exact SOU.out _ (by assumption))
  (first|(go_at_call 22;(with_reducible refine(HQ1.out _ (TC (by assumption))).mono ?_);rintro e n1 ⟨av1,rfl,hA,hb⟩;have hb1:=QC (TC (by assumption)) hb;have HA1:=zh hA;clear hA;clear hb)|(go_at_call 23;(with_reducible refine(HQ2.out _ (TC (by assumption))).mono ?_);rintro e n2 ⟨av2,rfl,hA,hb⟩;have hb2:=QC (TC (by assumption)) hb;have HA1b:=zh (HA1.out.below hb);have HA2:=zh hA;clear hA;clear hb)|(go_at_call 19;(with_reducible refine(HSN.out _ _ _ _ _ HA1b.out HA2.out).mono ?_);rintro e n3 ⟨rfl,hb⟩;have hb3:=QC (TC (by assumption)) hb;skip;clear hb)|(go_at_call 13;(with_reducible refine(KD _ (HG.out.stays (QC HW1.out (TC (by assumption))))).mono ?_);rintro e n4 ⟨rfl,hb⟩;have hb4:=QC (TC (by assumption)) hb;skip;clear hb))
 all_goals go_wp2
 all_goals go_ret
 all_goals exact⟨rfl,QC HW1.out (by assumption)⟩
theorem M4 (hg:Glob w) (T Dt F:Int) (so:Option Addr) (cap:Nat) (fs:List Fd) (o:Int) (k1 p1 q1:Int) (s1:ByteArray) (r1:Int) (wa:WfV ⟨k1,p1,q1,s1,r1⟩) (wf:∀f∈fs,FdWf f)
  (hfa:0<fs.length->∃g o,so=some ⟨g,o,none⟩/\g<w.heap.size/\∀k f,fs[k]? =some f->∀j c,f.cells[j]? =some c->w.cell? ⟨g,o+k*9+j,none⟩=some c):
  Calls prog 6 #[.agg #[T,Dt,F,.slice so fs.length cap],.int .i64 o,.agg #[k1,p1,q1,s1,r1]] w (BoolPost w true):=by
 by_cases hok:WorldOk T Dt F fs.length
 rotate_left
 ·exact Lc w hg T Dt F so fs.length cap o k1 p1 q1 s1 r1 (fun W=>Ey W T Dt F so fs.length cap hok)
 obtain⟨t0,t1,d0,d1,f0,f1,hn⟩:=hok;obtain⟨T,rfl⟩:=Int.eq_ofNat_of_zero_le t0;obtain⟨Dt,rfl⟩:=Int.eq_ofNat_of_zero_le d0;obtain⟨F,rfl⟩:=Int.eq_ofNat_of_zero_le f0;have hlen:(JN T Dt F fs).length<=1000:=by
  unfold JN;rw[YD,Gi];omega
 have BO:=fun W (hb:Below w w W)=>XF W T Dt F (by omega) (by omega) (by omega) fs hn wf so cap (fun h=>by
  obtain⟨g,o,rfl,hgl,hc⟩:=hfa h;exact⟨g,o,rfl,Nat.lt_of_lt_of_le hgl hb.size,fun k f hk j c hj=>(hb.cell (p:=⟨g,o+k*9+j,none⟩) hgl).trans (hc k f hk j c hj)⟩)
 obtain⟨M,hM⟩:∃M,JN T Dt F fs=M:=⟨_,rfl⟩
 rw[hM] at BO hlen;clear hM hfa wf;refine Lb w hg T Dt F so fs.length cap o k1 p1 q1 s1 r1 (Kl (ZN M) o ⟨k1,p1,q1,s1,r1⟩) (OR _) (fun W hb=>(BO W hb).mono ?_);rintro e w' ⟨hp,hs,he,hP,hR,hb'⟩;exact⟨hp,hs,he,⟨fun W hW=>ES W ((hg.stays (QC hb hb')).stays hW) (some ⟨hp,0,none⟩) (ZN M) (Gx (hP.below hW) (by omega)) o k1 p1 q1 s1 r1 wa.k wa.r (fun _=>AI (hP.below hW) k1 p1 q1 s1 r1 wa.r),fun W hW=>L2 W (.pointer (some hs)) (ZN M) (PW (hR.below hW) (by omega) hlen) o k1 p1 q1 s1 r1 wa.k wa.r (fun _=>SE (hR.below hW) hlen k1 p1 q1 s1 r1)⟩,hb'⟩
end Go.Proofs.YthkpckgcgkijbaaGreatDoor
