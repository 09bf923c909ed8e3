import Derived.Test.YthkpckgcgkijbaaGreatDoorLwB
import Derived.Test.YthkpckgcgkijbaaGreatDoorLwFv3
set_option linter.unusedVariables false
set_option linter.unusedSimpArgs false
set_option maxRecDepth 100000
set_option maxHeartbeats 8000000
namespace Go.Proofs.YthkpckgcgkijbaaGreatDoor
open Go.RowKit Go.Proofs.Lexi
theorem settles_long (w:World) (hg:Glob w) (nk vk vp vq:Int) (vs:ByteArray) (vr fk fp fq:Int) (fs:ByteArray) (fr:Int) (ao:Option Addr) (an ac:Nat) (na:Int) (ns:ByteArray) (so:Option Addr) (n cap:Nat) (h:decide ((600:Int)<((n:Nat):Int))=true):Calls Tryz.prog 7 #[.agg #[nk,vk,vp,vq,vs,vr,fk,fp,fq,fs,fr,.slice ao an ac,na,ns],.slice so n cap] w (BoolPost w true):=by
 have HG:=Lib.hid hg
 clear hg
 go_enter Tryz.func7,Tryz.ntmps7
 go_wp2_with fail
 refine(zBf _ (HG.out.stays (zAm _ _))).mono ?_
 rintro e w1 ⟨rfl,hb⟩
 go_wp2
 go_ret
 exact⟨rfl,zAC (zAm _ _) hb⟩
theorem settles_args (w:World) (hg:Glob w) (nk vk vp vq:Int) (vs:ByteArray) (vr fk fp fq:Int) (fs:ByteArray) (fr:Int) (ao:Option Addr) (an ac:Nat) (na:Int) (ns:ByteArray) (so:Option Addr) (n cap:Nat) (h:decide ((600:Int)<((n:Nat):Int))=false) (h2:decide ((600:Int)<((an:Nat):Int))=true):Calls Tryz.prog 7 #[.agg #[nk,vk,vp,vq,vs,vr,fk,fp,fq,fs,fr,.slice ao an ac,na,ns],.slice so n cap] w (BoolPost w true):=by
 have HG:=Lib.hid hg
 clear hg
 go_enter Tryz.func7,Tryz.ntmps7
 go_wp2_with fail
 refine(zBf _ (HG.out.stays (zAm _ _))).mono ?_
 rintro e w1 ⟨rfl,hb⟩
 go_wp2
 go_ret
 exact⟨rfl,zAC (zAm _ _) hb⟩
theorem settles_go (w:World) (hg:Glob w) (nk vk vp vq:Int) (vs:ByteArray) (vr fk fp fq:Int) (fs:ByteArray) (fr:Int) (ao:Option Addr) (an ac:Nat) (na:Int) (ns:ByteArray) (so:Option Addr) (n cap:Nat) (x:V) (h0:n=0→x=V.nil) (hx:0<n→∃g o,so=some ⟨g,o,none⟩∧g<w.heap.size∧w.cell? ⟨g,o,none⟩=some (.int .i64 x.k)∧w.cell? ⟨g,o+1,none⟩=some (.int .i64 x.p)∧w.cell? ⟨g,o+2,none⟩=some (.int .i64 x.q)∧w.cell? ⟨g,o+3,none⟩=some (.string x.s)∧w.cell? ⟨g,o+4,none⟩=some (.int .i64 x.r)) (h:decide ((600:Int)<((n:Nat):Int))=false) (h2:decide ((600:Int)<((an:Nat):Int))=false):Calls Tryz.prog 7 #[.agg #[nk,vk,vp,vq,vs,vr,fk,fp,fq,fs,fr,.slice ao an ac,na,ns],.slice so n cap] w (BoolPost w true):=by
 have HG:=Lib.hid hg
 have HP:=Lib.hid (fun W (hb:Below w.heap.size w W)=>pSettle_c W nk vk vp vq vs vr fk fp fq fs fr (.slice ao an ac) na ns so n cap x h0 (first_stays hx hb))
 have HS:=Lib.hid (fun W (hb:Below w.heap.size w W)=>sSettle_c W nk vk vp vq vs vr fk fp fq fs fr (.slice ao an ac) na ns so n cap x h0 (first_stays hx hb))
 obtain⟨⟨yk,yp,yq,ys,yr⟩,hY⟩:∃Y,settleR nk na ⟨vk,vp,vq,vs,vr⟩ x=Y:=⟨_,rfl⟩
 rw[hY] at HP HS
 clear hg hY h0 hx
 go_enter Tryz.func7,Tryz.ntmps7
 go_wp2
 obtain⟨B,hB⟩:∃B,B=w.alloc (.cells #[nk,vk,vp,vq,vs,vr,fk,fp,fq,fs,fr,.slice ao an ac,na,ns] 43):=⟨_,rfl⟩
 rw[←hB]
 have HBB:=Lib.hid (show Below w.heap.size w B by rw[hB];exact zAm _ _)
 have HBn:=Lib.hid (show B.heap[w.heap.size]? =some (.cells #[nk,vk,vp,vq,vs,vr,fk,fp,fq,fs,fr,.slice ao an ac,na,ns] 43) by rw[hB];exact heap1 _ _)
 clear hB
 have SO:=Lib.hid (fun(W:World) (hb:Below B.heap.size B W)=>(show W.cell? ⟨w.heap.size,0,none⟩=some (.int .i64 nk)∧W.cell? ⟨w.heap.size,1,none⟩=some (.int .i64 vk)∧W.cell? ⟨w.heap.size,2,none⟩=some (.int .i64 vp)∧W.cell? ⟨w.heap.size,3,none⟩=some (.int .i64 vq)∧W.cell? ⟨w.heap.size,4,none⟩=some (.string vs)∧W.cell? ⟨w.heap.size,5,none⟩=some (.int .i64 vr)∧W.cell? ⟨w.heap.size,6,none⟩=some (.int .i64 fk)∧W.cell? ⟨w.heap.size,7,none⟩=some (.int .i64 fp)∧W.cell? ⟨w.heap.size,8,none⟩=some (.int .i64 fq)∧W.cell? ⟨w.heap.size,9,none⟩=some (.string fs)∧W.cell? ⟨w.heap.size,10,none⟩=some (.int .i64 fr)∧W.cell? ⟨w.heap.size,11,none⟩=some (.slice ao an ac)∧W.cell? ⟨w.heap.size,12,none⟩=some (.int .i64 na)∧W.cell? ⟨w.heap.size,13,none⟩=some (.string ns)∧Hid (Below B.heap.size B W) from⟨by rw[zAA (hkeep hb HBn.out)];rfl,by rw[zAA (hkeep hb HBn.out)];rfl,by rw[zAA (hkeep hb HBn.out)];rfl,by rw[zAA (hkeep hb HBn.out)];rfl,by rw[zAA (hkeep hb HBn.out)];rfl,by rw[zAA (hkeep hb HBn.out)];rfl,by rw[zAA (hkeep hb HBn.out)];rfl,by rw[zAA (hkeep hb HBn.out)];rfl,by rw[zAA (hkeep hb HBn.out)];rfl,by rw[zAA (hkeep hb HBn.out)];rfl,by rw[zAA (hkeep hb HBn.out)];rfl,by rw[zAA (hkeep hb HBn.out)];rfl,by rw[zAA (hkeep hb HBn.out)];rfl,by rw[zAA (hkeep hb HBn.out)];rfl,Lib.hid hb⟩))
 have hbD:Below B.heap.size B B.drew:=(Below.refl _ _).drew
 go_region_held3 (fun w'=>w'.cell? ⟨w.heap.size,0,none⟩=some (.int .i64 nk)∧w'.cell? ⟨w.heap.size,1,none⟩=some (.int .i64 vk)∧w'.cell? ⟨w.heap.size,2,none⟩=some (.int .i64 vp)∧w'.cell? ⟨w.heap.size,3,none⟩=some (.int .i64 vq)∧w'.cell? ⟨w.heap.size,4,none⟩=some (.string vs)∧w'.cell? ⟨w.heap.size,5,none⟩=some (.int .i64 vr)∧w'.cell? ⟨w.heap.size,6,none⟩=some (.int .i64 fk)∧w'.cell? ⟨w.heap.size,7,none⟩=some (.int .i64 fp)∧w'.cell? ⟨w.heap.size,8,none⟩=some (.int .i64 fq)∧w'.cell? ⟨w.heap.size,9,none⟩=some (.string fs)∧w'.cell? ⟨w.heap.size,10,none⟩=some (.int .i64 fr)∧w'.cell? ⟨w.heap.size,11,none⟩=some (.slice ao an ac)∧w'.cell? ⟨w.heap.size,12,none⟩=some (.int .i64 na)∧w'.cell? ⟨w.heap.size,13,none⟩=some (.string ns)∧Hid (Below B.heap.size B w'))
  (first|with_reducible exact SO.out _ (by assumption))
  (first|(go_at_call 24;refine(HP.out _ (zAC HBB.out (prj14 (by assumption)))).mono ?_;rintro e v1 ⟨rfl,hb⟩;have hb1:=zAC (prj14 (by assumption)) hb;clear hb)|(go_at_call 25;refine(HS.out _ (zAC HBB.out (prj14 (by assumption)))).mono ?_;rintro e v2 ⟨rfl,hb⟩;have hb2:=zAC (prj14 (by assumption)) hb;clear hb)|(go_at_call 13;refine(zBf _ (HG.out.stays (zAC HBB.out (prj14 (by assumption))))).mono ?_;rintro e v3 ⟨rfl,hb⟩;have hb3:=zAC (prj14 (by assumption)) hb;clear hb))
 go_wp2
 go_ret
 exact⟨rfl,zAC HBB.out (by assumption)⟩
theorem settles_law (w:World) (hg:Glob w) (nk vk vp vq:Int) (vs:ByteArray) (vr fk fp fq:Int) (fs:ByteArray) (fr:Int) (ao:Option Addr) (an ac:Nat) (na:Int) (ns:ByteArray) (so:Option Addr) (n cap:Nat) (x:V) (h0:n=0→x=V.nil) (hx:0<n→∃g o,so=some ⟨g,o,none⟩∧g<w.heap.size∧w.cell? ⟨g,o,none⟩=some (.int .i64 x.k)∧w.cell? ⟨g,o+1,none⟩=some (.int .i64 x.p)∧w.cell? ⟨g,o+2,none⟩=some (.int .i64 x.q)∧w.cell? ⟨g,o+3,none⟩=some (.string x.s)∧w.cell? ⟨g,o+4,none⟩=some (.int .i64 x.r)):Calls Tryz.prog 7 #[.agg #[nk,vk,vp,vq,vs,vr,fk,fp,fq,fs,fr,.slice ao an ac,na,ns],.slice so n cap] w (BoolPost w true):=by
 by_cases h:n≤600
 ·have h':decide ((600:Int)<((n:Nat):Int))=false:=by rw[decide_eq_false_iff_not];omega
  by_cases h2:an≤600
  ·exact settles_go w hg nk vk vp vq vs vr fk fp fq fs fr ao an ac na ns so n cap x h0 hx h' (by rw[decide_eq_false_iff_not];omega)
  ·exact settles_args w hg nk vk vp vq vs vr fk fp fq fs fr ao an ac na ns so n cap h' (by rw[decide_eq_true_eq];omega)
 ·exact settles_long w hg nk vk vp vq vs vr fk fp fq fs fr ao an ac na ns so n cap (by rw[decide_eq_true_eq];omega)
end Go.Proofs.YthkpckgcgkijbaaGreatDoor
