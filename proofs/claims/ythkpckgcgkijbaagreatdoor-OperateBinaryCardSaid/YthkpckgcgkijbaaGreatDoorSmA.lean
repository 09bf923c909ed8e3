import Derived.Test.YthkpckgcgkijbaaGreatDoorMapL
import Derived.Test.YthkpckgcgkijbaaGreatDoorNumU
set_option linter.unusedVariables false
set_option linter.unusedSimpArgs false
set_option maxRecDepth 100000
set_option maxHeartbeats 2000000
namespace Go.Proofs.YthkpckgcgkijbaaGreatDoor
open Go.RowKit Go.Proofs.Lexi Go.Proofs.Tryz
variable (w:World) (m:Nat) (sv:Value) (cap:Nat) (so:Option Addr)
theorem Oi (L:List Sl) (hm:w.heap[m]? =some (.cells #[.slice so L.length cap] 181)) (hrow:w.ownsRow 0 186 11 (.slice so L.length cap) L.length (ZA L)) (hL:L.length<=1000) (k1 p1 q1:Int) (s1:ByteArray) (r1:Int) (i:Nat) (sl:Sl) (hsl:L[i]? =some sl) (hg:sl.g=false) (F:∀W,Below w w W->Calls prog 226 #[m,.agg #[k1,p1,q1,s1,r1]] W (IntPost W ((i:Nat):Int))):
  Calls prog 176 #[m,.agg #[k1,p1,q1,s1,r1]] w (ValPost w sl.v):=by
 have hml:m<w:=(Array.getElem?_eq_some_iff.1 hm).1;have hil:i<L.length:=(List.getElem?_eq_some_iff.1 hsl).1;obtain⟨rb,cap',he⟩:=Qh hrow (by omega);injection he with he1 he2 he3;subst he1;have hneg:decide (((i:Nat):Int)<0)=false:=by simp
 have HSL:=zh hsl;clear hsl;have HM:=zh hm;have HROW:=zh hrow;have HF:=zh F;clear F hm hrow;go_enter func176,ntmps176;go_wp2_with fail
 refine(HF.out _ (QE _ _ _)).mono ?_;rintro e w1 ⟨rfl,hb⟩;have Hc1:=hkh hb (QY _ _ _);have Hm1:=hkh hb (Qs HM.out _ _);have HW1:=hbn (QE _ _ _) hb;have hz1:=hb.size;try simp at hz1
 have hrw:=QR (QV HW1.out zl) HROW.out;have rc5:w1.cell? ⟨rb,i*11+5,none⟩=some (.int .i64 sl.v.k):=(hrw.cellAt (i*11+5) (by omega)).trans (Qk L i 5 sl HSL.out (by decide));have rc6:w1.cell? ⟨rb,i*11+6,none⟩=some (.int .i64 sl.v.p):=(hrw.cellAt (i*11+6) (by omega)).trans (Qk L i 6 sl HSL.out (by decide));have rc7:w1.cell? ⟨rb,i*11+7,none⟩=some (.int .i64 sl.v.q):=(hrw.cellAt (i*11+7) (by omega)).trans (Qk L i 7 sl HSL.out (by decide));have rc8:w1.cell? ⟨rb,i*11+8,none⟩=some (.string sl.v.s):=(hrw.cellAt (i*11+8) (by omega)).trans (Qk L i 8 sl HSL.out (by decide));have rc9:w1.cell? ⟨rb,i*11+9,none⟩=some (.int .i64 sl.v.r):=(hrw.cellAt (i*11+9) (by omega)).trans (Qk L i 9 sl HSL.out (by decide));have rc10:w1.cell? ⟨rb,i*11+10,none⟩=some (.bool sl.g):=(hrw.cellAt (i*11+10) (by omega)).trans (Qk L i 10 sl HSL.out (by decide));rw[hg] at rc10;clear hrw;clear hb;have hyc:=hsz Hc1;obtain⟨c0,c1,c2,c3,c4⟩:=zc5 Hc1;obtain⟨fc0,fc1,fc2,fc3,fc4⟩:=zf5 Hc1;have hym:=hsz Hm1;have m0:w1.cell? m=some (.slice (some rb) L.length cap):=by rw[QA Hm1.out];rfl
 go_wp2;refine zr (by simp[results,results176,go_sem,hyc,c0,c1,c2,c3,c4]<;>rfl) ?_;exact Qo rfl (QG HW1.out (by omega) _ _ _ _ _)
theorem Oj (L:List Sl) (hm:w.heap[m]? =some (.cells #[.slice so L.length cap] 181)) (hrow:w.ownsRow 0 186 11 (.slice so L.length cap) L.length (ZA L)) (hL:L.length<=1000) (k1 p1 q1:Int) (s1:ByteArray) (r1:Int) (i:Nat) (sl:Sl) (hsl:L[i]? =some sl) (hg:sl.g=true) (F:∀W,Below w w W->Calls prog 226 #[m,.agg #[k1,p1,q1,s1,r1]] W (IntPost W ((i:Nat):Int))):
  Calls prog 176 #[m,.agg #[k1,p1,q1,s1,r1]] w (ValPost w V.nil):=by
 have hml:m<w:=(Array.getElem?_eq_some_iff.1 hm).1;have hil:i<L.length:=(List.getElem?_eq_some_iff.1 hsl).1;obtain⟨rb,cap',he⟩:=Qh hrow (by omega);injection he with he1 he2 he3;subst he1;have hneg:decide (((i:Nat):Int)<0)=false:=by simp
 have HSL:=zh hsl;clear hsl;have HM:=zh hm;have HROW:=zh hrow;have HF:=zh F;clear F hm hrow;go_enter func176,ntmps176;go_wp2_with fail
 refine(HF.out _ (QE _ _ _)).mono ?_;rintro e w1 ⟨rfl,hb⟩;have Hc1:=hkh hb (QY _ _ _);have Hm1:=hkh hb (Qs HM.out _ _);have HW1:=hbn (QE _ _ _) hb;have hz1:=hb.size;try simp at hz1
 have hrw:=QR (QV HW1.out zl) HROW.out;have rc5:w1.cell? ⟨rb,i*11+5,none⟩=some (.int .i64 sl.v.k):=(hrw.cellAt (i*11+5) (by omega)).trans (Qk L i 5 sl HSL.out (by decide));have rc6:w1.cell? ⟨rb,i*11+6,none⟩=some (.int .i64 sl.v.p):=(hrw.cellAt (i*11+6) (by omega)).trans (Qk L i 6 sl HSL.out (by decide));have rc7:w1.cell? ⟨rb,i*11+7,none⟩=some (.int .i64 sl.v.q):=(hrw.cellAt (i*11+7) (by omega)).trans (Qk L i 7 sl HSL.out (by decide));have rc8:w1.cell? ⟨rb,i*11+8,none⟩=some (.string sl.v.s):=(hrw.cellAt (i*11+8) (by omega)).trans (Qk L i 8 sl HSL.out (by decide));have rc9:w1.cell? ⟨rb,i*11+9,none⟩=some (.int .i64 sl.v.r):=(hrw.cellAt (i*11+9) (by omega)).trans (Qk L i 9 sl HSL.out (by decide));have rc10:w1.cell? ⟨rb,i*11+10,none⟩=some (.bool sl.g):=(hrw.cellAt (i*11+10) (by omega)).trans (Qk L i 10 sl HSL.out (by decide));rw[hg] at rc10;clear hrw;clear hb;have hyc:=hsz Hc1;obtain⟨c0,c1,c2,c3,c4⟩:=zc5 Hc1;obtain⟨fc0,fc1,fc2,fc3,fc4⟩:=zf5 Hc1;have hym:=hsz Hm1;have m0:w1.cell? m=some (.slice (some rb) L.length cap):=by rw[QA Hm1.out];rfl
 go_wp2;refine zr (by simp[results,results176,go_sem,hyc,c0,c1,c2,c3,c4]<;>rfl) ?_;exact Qo rfl (QG HW1.out (by omega) _ _ _ _ _)
theorem Oh (L:List Sl) (hm:w.heap[m]? =some (.cells #[.slice so L.length cap] 181)) (hrow:w.ownsRow 0 186 11 (.slice so L.length cap) L.length (ZA L)) (hL:L.length<=1000) (k1 p1 q1:Int) (s1:ByteArray) (r1:Int) (F:∀W,Below w w W->Calls prog 226 #[m,.agg #[k1,p1,q1,s1,r1]] W (IntPost W (-1))):
  Calls prog 176 #[m,.agg #[k1,p1,q1,s1,r1]] w (ValPost w V.nil):=by
 have hml:m<w:=(Array.getElem?_eq_some_iff.1 hm).1;have HM:=zh hm;have HROW:=zh hrow;have HF:=zh F;clear F hm hrow;go_enter func176,ntmps176;go_wp2_with fail
 refine(HF.out _ (QE _ _ _)).mono ?_;rintro e w1 ⟨rfl,hb⟩;have Hc1:=hkh hb (QY _ _ _);have HW1:=hbn (QE _ _ _) hb;have hz1:=hb.size;try simp at hz1
 clear hb;have hyc:=hsz Hc1;obtain⟨c0,c1,c2,c3,c4⟩:=zc5 Hc1;obtain⟨fc0,fc1,fc2,fc3,fc4⟩:=zf5 Hc1;go_wp2;refine zr (by simp[results,results176,go_sem,hyc,c0,c1,c2,c3,c4]<;>rfl) ?_;exact Qo rfl (QG HW1.out (by omega) _ _ _ _ _)
theorem Oc (L:List Sl) (hO:SMap w m sv L) (hL:L.length<=1000) (k1 p1 q1:Int) (s1:ByteArray) (r1:Int):Calls prog 176 #[m,.agg #[k1,p1,q1,s1,r1]] w (ValPost w (FQ L ⟨k1,p1,q1,s1,r1⟩)):=by
 obtain⟨so,cap,rfl⟩:=Zb hO.row;have F:=fun W (hb:Below w w W)=>Ok W m cap so L (hO.below hb).hm (hO.below hb).row hL k1 p1 q1 s1 r1;rcases BQ ⟨k1,p1,q1,s1,r1⟩ L with⟨i,s,h1,h2,h3,h4,h5⟩|⟨i,s,h1,h2,h3,h4,h5⟩|⟨h1,h5⟩
 ·rw[h1] at F;rw[C1 h5 h2];exact Oi w m cap so L hO.hm hO.row hL k1 p1 q1 s1 r1 i s h2 h4 F
 ·rw[h1] at F;rw[FP h5];exact Oj w m cap so L hO.hm hO.row hL k1 p1 q1 s1 r1 i s h2 h4 F
 ·rw[h1] at F;rw[FP h5];exact Oh w m cap so L hO.hm hO.row hL k1 p1 q1 s1 r1 F
end Go.Proofs.YthkpckgcgkijbaaGreatDoor
