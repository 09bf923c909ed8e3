import Derived.Test.YthkpckgcgkijbaaGreatDoorHpC
import Derived.Test.YthkpckgcgkijbaaGreatDoorBitA
set_option linter.unusedVariables false
set_option linter.unusedSimpArgs false
set_option maxRecDepth 100000
set_option maxHeartbeats 2000000
namespace Go.Proofs.YthkpckgcgkijbaaGreatDoor
open Go.RowKit Go.Proofs.Lexi
theorem pUnary_bad (w:World) (hp:Value) (o:Int) (k1 p1 q1:Int) (s1:ByteArray) (r1:Int) (hun:PureTo 34 o false):Calls Tryz.prog 22 #[hp,o,.agg #[k1,p1,q1,s1,r1]] w (NdPost w (ndErr sBad)):=by
 have Hhun:=Lib.hid hun
 clear hun
 go_enter Tryz.func22,Tryz.ntmps22
 go_wp2_with fail
 refine(Hhun.out _).mono ?_
 rintro e W0 ⟨rfl,rfl⟩
 go_wp2_with fail
 refine(zCC _ _).mono ?_
 rintro e w1 ⟨av,rfl,hA,hb⟩
 obtain⟨ao,an,ac,rfl⟩:=hA.shape
 have HA:=Lib.hid hA
 clear hA
 have Ha1:=hkh hb (zAf _ _ _)
 have Hu1:=hkh hb (zAW _ _ _)
 have HW1:=hbn (zAF _ _ _) hb
 have hz1:=hb.size
 try simp at hz1
 clear hb
 have hyu:w.heap.size+1<w1.heap.size:=hsz Hu1
 obtain⟨u0,u1,u2,u3,u4,u5,u6,u7,u8,u9,u10,u11,u12,u13⟩:=cells14 Hu1.out
 obtain⟨fu0,fu1,fu2,fu3,fu4,fu5,fu6,fu7,fu8,fu9,fu10,fu11,fu12,fu13⟩:=froz14 Hu1.out
 go_wp2
 refine bodyPost_ret (by simp[results,Tryz.results22,go_sem,hyu,u0,u1,u2,u3,u4,u5,u6,u7,u8,u9,u10,u11,u12,u13];first|done|rfl) rfl ?_
 exact zAt (r:=w.heap.size+1) (base:=w.heap.size+1+1) HW1.out (by simpa using HA.out) (by omega) (by omega) (by omega) (zAM (F:=fun b=>b=w.heap.size+1) (Mods.refl _ _) (.inl rfl) _ _ _ _ _ _ _ _ _ _ _ _ _ _)
theorem pUnary_badA (w:World) (hp:Value) (o:Int) (k1 p1 q1:Int) (s1:ByteArray) (r1:Int) (hun:PureTo 34 o true) (VA:∀W,Calls Tryz.prog 36 #[.agg #[k1,p1,q1,s1,r1]] W (BoolPost W false)):Calls Tryz.prog 22 #[hp,o,.agg #[k1,p1,q1,s1,r1]] w (NdPost w (ndErr sBad)):=by
 have Hhun:=Lib.hid hun
 have HVA:=Lib.hid VA
 clear hun VA
 go_enter Tryz.func22,Tryz.ntmps22
 go_wp2_with fail
 refine(Hhun.out _).mono ?_
 rintro e W0 ⟨rfl,rfl⟩
 go_wp2_with fail
 refine(HVA.out _).mono ?_
 rintro e w1 ⟨rfl,hb⟩
 have Ha1:=hkh hb (zAf _ _ _)
 have Hu1:=hkh hb (zAW _ _ _)
 have HW1:=hbn (zAF _ _ _) hb
 have hz1:=hb.size
 try simp at hz1
 clear hb
 have hyu:w.heap.size+1<w1.heap.size:=hsz Hu1
 obtain⟨u0,u1,u2,u3,u4,u5,u6,u7,u8,u9,u10,u11,u12,u13⟩:=cells14 Hu1.out
 obtain⟨fu0,fu1,fu2,fu3,fu4,fu5,fu6,fu7,fu8,fu9,fu10,fu11,fu12,fu13⟩:=froz14 Hu1.out
 go_wp2_with fail
 refine(zCC _ _).mono ?_
 rintro e w2 ⟨av,rfl,hA,hb⟩
 obtain⟨ao,an,ac,rfl⟩:=hA.shape
 have HA:=Lib.hid hA
 clear hA
 have Ha2:=hkh hb Ha1.out
 have Hu2:=hkh hb Hu1.out
 have HW2:=hbn HW1.out hb
 have hz2:=hb.size
 try simp at hz2
 clear hb
 clear hyu u0 fu0 u1 fu1 u2 fu2 u3 fu3 u4 fu4 u5 fu5 u6 fu6 u7 fu7 u8 fu8 u9 fu9 u10 fu10 u11 fu11 u12 fu12 u13 fu13
 have hyu:w.heap.size+1<w2.heap.size:=hsz Hu2
 obtain⟨u0,u1,u2,u3,u4,u5,u6,u7,u8,u9,u10,u11,u12,u13⟩:=cells14 Hu2.out
 obtain⟨fu0,fu1,fu2,fu3,fu4,fu5,fu6,fu7,fu8,fu9,fu10,fu11,fu12,fu13⟩:=froz14 Hu2.out
 go_wp2
 refine bodyPost_ret (by simp[results,Tryz.results22,go_sem,hyu,u0,u1,u2,u3,u4,u5,u6,u7,u8,u9,u10,u11,u12,u13];first|done|rfl) rfl ?_
 exact zAt (r:=w.heap.size+1) (base:=w1.heap.size) HW2.out HA.out HW1.out.size (by omega) (by omega) (zAM (F:=fun b=>b=w.heap.size+1) (Mods.refl _ _) (.inl rfl) _ _ _ _ _ _ _ _ _ _ _ _ _ _)
theorem pUnary_len (w:World) (hp:Value) (o:Int) (k1 p1 q1:Int) (s1:ByteArray) (r1:Int) (hun:PureTo 34 o true) (VA:∀W,Calls Tryz.prog 36 #[.agg #[k1,p1,q1,s1,r1]] W (BoolPost W true)) (h22:(o==22)=true) (n:Nd) (LE:∀W,Below w.heap.size w W→Calls Tryz.prog 79 #[hp,.agg #[k1,p1,q1,s1,r1]] W (NdPost W n)):Calls Tryz.prog 22 #[hp,o,.agg #[k1,p1,q1,s1,r1]] w (NdPost w (n)):=by
 have Hhun:=Lib.hid hun
 have HVA:=Lib.hid VA
 have HLE:=Lib.hid LE
 clear hun VA LE
 go_enter Tryz.func22,Tryz.ntmps22
 go_wp2_with fail
 refine(Hhun.out _).mono ?_
 rintro e W0 ⟨rfl,rfl⟩
 go_wp2_with fail
 refine(HVA.out _).mono ?_
 rintro e w1 ⟨rfl,hb⟩
 have Ha1:=hkh hb (zAf _ _ _)
 have Hu1:=hkh hb (zAW _ _ _)
 have HW1:=hbn (zAF _ _ _) hb
 have hz1:=hb.size
 try simp at hz1
 clear hb
 have hya:w.heap.size<w1.heap.size:=hsz Ha1
 obtain⟨a0,a1,a2,a3,a4⟩:=cells5 Ha1.out
 go_wp2_with fail
 refine(HLE.out _ HW1.out).mono ?_
 rintro e w2 ⟨av,rfl,hA,hb⟩
 obtain⟨ao,an,ac,rfl⟩:=hA.shape
 have HA:=Lib.hid hA
 clear hA
 have Ha2:=hkh hb Ha1.out
 have Hu2:=hkh hb Hu1.out
 have HW2:=hbn HW1.out hb
 have hz2:=hb.size
 try simp at hz2
 clear hb
 clear hya a0 a1 a2 a3 a4
 have hyu:w.heap.size+1<w2.heap.size:=hsz Hu2
 obtain⟨u0,u1,u2,u3,u4,u5,u6,u7,u8,u9,u10,u11,u12,u13⟩:=cells14 Hu2.out
 obtain⟨fu0,fu1,fu2,fu3,fu4,fu5,fu6,fu7,fu8,fu9,fu10,fu11,fu12,fu13⟩:=froz14 Hu2.out
 go_wp2
 refine bodyPost_ret (by simp[results,Tryz.results22,go_sem,hyu,u0,u1,u2,u3,u4,u5,u6,u7,u8,u9,u10,u11,u12,u13];first|done|rfl) rfl ?_
 exact zAt (r:=w.heap.size+1) (base:=w1.heap.size) HW2.out HA.out HW1.out.size (by omega) (by omega) (zAM (F:=fun b=>b=w.heap.size+1) (Mods.refl _ _) (.inl rfl) _ _ _ _ _ _ _ _ _ _ _ _ _ _)
theorem pUnary_else (w:World) (hp:Value) (o:Int) (k1 p1 q1:Int) (s1:ByteArray) (r1:Int) (hun:PureTo 34 o true) (VA:∀W,Calls Tryz.prog 36 #[.agg #[k1,p1,q1,s1,r1]] W (BoolPost W true)) (h22:(o==22)=false) (R:VR) (n:Nd) (PL:∀W,Below w.heap.size w W→Calls Tryz.prog 11 #[o,.agg #[k1,p1,q1,s1,r1],.agg #[.int .i64 0,.int .i64 0,.int .i64 0,.string ⟨#[]⟩,.int .i64 0]] W (VrPost W R)) (ST:∀W base g,Below w.heap.size w W→base≤g→W.heap[g]? =some (.cells #[k1,p1,q1,s1,r1,k1,p1,q1,s1,r1] 25)→Calls Tryz.prog 74 #[hp,o,.agg #[.int .i64 (vV R).k,.int .i64 (vV R).p,.int .i64 (vV R).q,.string (vV R).s,.int .i64 (vV R).r],.int .i64 (vE R:Nat),.slice (some ⟨g,0,none⟩) 2 2] W (NdB W base n)):Calls Tryz.prog 22 #[hp,o,.agg #[k1,p1,q1,s1,r1]] w (NdPost w (n)):=by
 have Hhun:=Lib.hid hun
 have HVA:=Lib.hid VA
 have HPL:=Lib.hid PL
 have HST:=Lib.hid ST
 clear hun VA PL ST
 go_enter Tryz.func22,Tryz.ntmps22
 go_wp2_with fail
 refine(Hhun.out _).mono ?_
 rintro e W0 ⟨rfl,rfl⟩
 go_wp2_with fail
 refine(HVA.out _).mono ?_
 rintro e w1 ⟨rfl,hb⟩
 have Ha1:=hkh hb (zAf _ _ _)
 have Hu1:=hkh hb (zAW _ _ _)
 have HW1:=hbn (zAF _ _ _) hb
 have hz1:=hb.size
 try simp at hz1
 clear hb
 have hya:w.heap.size<w1.heap.size:=hsz Ha1
 obtain⟨a0,a1,a2,a3,a4⟩:=cells5 Ha1.out
 go_wp2_with fail
 refine(HPL.out _ HW1.out).mono ?_
 rintro e w2 ⟨rfl,hb⟩
 have Ha2:=hkh hb Ha1.out
 have Hu2:=hkh hb Hu1.out
 have HW2:=hbn HW1.out hb
 have hz2:=hb.size
 try simp at hz2
 clear hb
 clear hya a0 a1 a2 a3 a4
 have hya:w.heap.size<w2.heap.size:=hsz Ha2
 obtain⟨a0,a1,a2,a3,a4⟩:=cells5 Ha2.out
 go_wp2_with fail
 refine(HST.out _ (w2.heap.size+1) (w2.heap.size+1) ((HW2.out.alloc HW2.out.size (oV (vV R).k (vV R).p (vV R).q (vV R).s (vV R).r)).alloc (by have:=HW2.out.size;simp;omega) (.cells #[k1,p1,q1,s1,r1,k1,p1,q1,s1,r1] 25)) (Nat.le_refl _) (zAW _ _ _)).mono ?_
 rintro e w3 ⟨av,rfl,hA,hb⟩
 obtain⟨ao,an,ac,rfl⟩:=hA.shape
 have HA:=Lib.hid hA
 have Hu3:=hkh hb (zAp Hu2.out (oV (vV R).k (vV R).p (vV R).q (vV R).s (vV R).r) (.cells #[k1,p1,q1,s1,r1,k1,p1,q1,s1,r1] 25))
 have HW3:=hbn ((HW2.out.alloc HW2.out.size (oV (vV R).k (vV R).p (vV R).q (vV R).s (vV R).r)).alloc (by have:=HW2.out.size;simp;omega) (.cells #[k1,p1,q1,s1,r1,k1,p1,q1,s1,r1] 25)) hb
 have hyu:w.heap.size+1<w3.heap.size:=hsz Hu3
 clear hA hb
 clear hya a0 a1 a2 a3 a4
 obtain⟨u0,u1,u2,u3,u4,u5,u6,u7,u8,u9,u10,u11,u12,u13⟩:=cells14 Hu3.out
 obtain⟨fu0,fu1,fu2,fu3,fu4,fu5,fu6,fu7,fu8,fu9,fu10,fu11,fu12,fu13⟩:=froz14 Hu3.out
 go_wp2
 refine bodyPost_ret (by simp[results,Tryz.results22,go_sem,hyu,u0,u1,u2,u3,u4,u5,u6,u7,u8,u9,u10,u11,u12,u13];first|done|rfl) rfl ?_
 exact zAt (r:=w.heap.size+1) (base:=w2.heap.size+1) HW3.out HA.out (by omega) (by omega) (by omega) (zAM (F:=fun b=>b=w.heap.size+1) (Mods.refl _ _) (.inl rfl) _ _ _ _ _ _ _ _ _ _ _ _ _ _)
theorem eq_run (W:World) (k p q:Int) (s:ByteArray) (r:Int) (k2 p2 q2:Int) (s2:ByteArray) (r2:Int):
  (binOp .eql 25 (.agg #[k,p,q,s,r]) (.agg #[k2,p2,q2,s2,r2])).run Tryz.prog W= .ok (.bool (eqV ⟨k,p,q,s,r⟩ ⟨k2,p2,q2,s2,r2⟩)) W:=by
 by_cases h1:k=k2<;>by_cases h2:p=p2<;>by_cases h3:q=q2<;>by_cases h4:s=s2<;>by_cases h5:r=r2<;>simp[go_sem,eqV,h1,h2,h3,h4,h5]
 have h6:¬s.toList=s2.toList:=fun e=>h4 (ByteArray.ext (Array.toList_inj.1 (by rw[←ByteArray.toList_eq,←ByteArray.toList_eq];exact e)))
 have h7:(zAE s==zAE s2)=false:=beq_eq_false_iff_ne.2 (fun e=>h4 (zCE e))
 rw[if_neg h6,h7]
theorem sFind_c (w:World) (m cap:Nat) (so:Option Addr) (L:List Sl) (hm:w.heap[m]? =some (.cells #[.slice so L.length cap] 181)) (hrow:w.ownsRow 0 186 11 (.slice so L.length cap) L.length (rowSl L)) (hL:L.length≤1000) (k1 p1 q1:Int) (s1:ByteArray) (r1:Int):Calls Tryz.prog 226 #[.pointer (some ⟨m,0,none⟩),.agg #[k1,p1,q1,s1,r1]] w (IntPost w (sfM ⟨k1,p1,q1,s1,r1⟩ L 0 (-1))):=by
 obtain⟨R,hR⟩:∃R,R=sfM ⟨k1,p1,q1,s1,r1⟩ L 0 (-1):=⟨_,rfl⟩
 rw[←hR]
 have hml:m<w.heap.size:=(Array.getElem?_eq_some_iff.1 hm).1
 have HM:=Lib.hid (zAI hm (oV k1 p1 q1 s1 r1))
 have HROW:=Lib.hid (zAQ (zAa (zAm w (oV k1 p1 q1 s1 r1)) (Nat.le_refl _)) hrow)
 have HB:=Lib.hid (heap1 w (oV k1 p1 q1 s1 r1))
 have HS0:=Lib.hid (show SFRel (w.alloc (oV k1 p1 q1 s1 r1)) ⟨k1,p1,q1,s1,r1⟩ L R L.length (.int .i64 (-1)) (.int .i64 0) (w.alloc (oV k1 p1 q1 s1 r1)) from⟨0, -1,rfl,rfl,rfl,Nat.zero_le _,hR.symm,Below.refl _ _⟩)
 clear hm hrow hR
 go_enter Tryz.func226,Tryz.ntmps226
 go_wp2
 go_loopg [5,6] L.length (fun gg va vi wr=>SFRel (w.alloc (oV k1 p1 q1 s1 r1)) ⟨k1,p1,q1,s1,r1⟩ L R gg va vi wr)
 case atStart=>exact HS0.out
 case round=>
  clear HS0
  obtain⟨i,at_,rfl,rfl,rfl,hi,hgo,hb⟩:=hrel
  have HMr:=hkh hb HM.out
  have HBr:=hkh hb HB.out
  have hrowr:=zAQ (zAa hb (Nat.le_refl _)) HROW.out
  have hz:=hb.size
  simp at hz
  have HBB:=Lib.hid hb
  have HGO:=Lib.hid hgo
  clear hb hgo
  have m0:wr.cell? ⟨m,0,none⟩=some (.slice so L.length cap):=by rw[zAA HMr.out];rfl
  obtain⟨b0,b1,b2,b3,b4⟩:=cells5 HBr.out
  by_cases hlt:i<L.length
  ·obtain⟨rb,cap',he⟩:=zAl hrowr (by omega)
   injection he with he1 he2 he3
   subst he1
   obtain⟨sl,hsl⟩:∃sl,L[i]? =some sl:=⟨_,List.getElem?_eq_getElem hlt⟩
   have rc0:wr.cell? ⟨rb,i*11,none⟩=some (.int .i64 sl.k.k):=(hrowr.cellAt (i*11+0) (by omega)).trans (zAn L i 0 sl hsl (by decide))
   have rc1:wr.cell? ⟨rb,i*11+1,none⟩=some (.int .i64 sl.k.p):=(hrowr.cellAt (i*11+1) (by omega)).trans (zAn L i 1 sl hsl (by decide))
   have rc2:wr.cell? ⟨rb,i*11+2,none⟩=some (.int .i64 sl.k.q):=(hrowr.cellAt (i*11+2) (by omega)).trans (zAn L i 2 sl hsl (by decide))
   have rc3:wr.cell? ⟨rb,i*11+3,none⟩=some (.string sl.k.s):=(hrowr.cellAt (i*11+3) (by omega)).trans (zAn L i 3 sl hsl (by decide))
   have rc4:wr.cell? ⟨rb,i*11+4,none⟩=some (.int .i64 sl.k.r):=(hrowr.cellAt (i*11+4) (by omega)).trans (zAn L i 4 sl hsl (by decide))
   have rc10:wr.cell? ⟨rb,i*11+10,none⟩=some (.bool sl.g):=(hrowr.cellAt (i*11+10) (by omega)).trans (zAn L i 10 sl hsl (by decide))
   have HST:=Lib.hid (sfM_step (k:=⟨k1,p1,q1,s1,r1⟩) (at_:=at_) hsl)
   clear hrowr hsl
   have HEQ:=Lib.hid (fun W=>eq_run W sl.k.k sl.k.p sl.k.q sl.k.s sl.k.r k1 p1 q1 s1 r1)
   cases he:eqV sl.k ⟨k1,p1,q1,s1,r1⟩ with
   |false=>
    have hq:∀W:World,(binOp .eql 25 (.agg #[.int .i64 sl.k.k,.int .i64 sl.k.p,.int .i64 sl.k.q,.string sl.k.s,.int .i64 sl.k.r]) (.agg #[k1,p1,q1,s1,r1])).run Tryz.prog W= .ok (.bool false) W:=fun W=>by rw[←he];exact HEQ.out W
    have HG2:=Lib.hid (show sfM ⟨k1,p1,q1,s1,r1⟩ (L.drop (i+1)) (i+1) at_=R by rw[←HGO.out,HST.out,if_neg (by rw[he];decide)])
    clear he HEQ HST HGO
    go_wp2
    go_quiet (fail)
    go_wp2
    go_roundg (L.length-(i+1))
    case measure=>omega
    case rel=>exact⟨i+1,at_,rfl,rfl,rfl,by omega,HG2.out,below_drewN HBB.out _⟩
   |true=>
    have hq:∀W:World,(binOp .eql 25 (.agg #[.int .i64 sl.k.k,.int .i64 sl.k.p,.int .i64 sl.k.q,.string sl.k.s,.int .i64 sl.k.r]) (.agg #[k1,p1,q1,s1,r1])).run Tryz.prog W= .ok (.bool true) W:=fun W=>by rw[←he];exact HEQ.out W
    cases hg:sl.g with
    |true=>
     rw[hg] at rc10
     have HG2:=Lib.hid (show sfM ⟨k1,p1,q1,s1,r1⟩ (L.drop (i+1)) (i+1) (i:Nat)=R by rw[←HGO.out,HST.out,if_pos he,if_pos hg])
     clear he HEQ HST HGO
     go_wp2
     go_quiet (fail)
     go_wp2
     go_roundg (L.length-(i+1))
     case measure=>omega
     case rel=>exact⟨i+1,(i:Nat),rfl,rfl,rfl,by omega,HG2.out,below_drewN HBB.out _⟩
    |false=>
     rw[hg] at rc10
     have HG2:=Lib.hid (show((i:Nat):Int)=R by rw[←HGO.out,HST.out,if_pos he,if_neg (by rw[hg];decide)])
     clear he HEQ HST HGO
     go_wp2
     go_quiet (fail)
     go_wp2
     go_ret
     exact zAq HG2.out (zAC (zAm _ _) (below_drewN HBB.out _))
  ·obtain rfl:i=L.length:=by omega
   have HG2:=Lib.hid (show at_=R by rw[←HGO.out,List.drop_length];rfl)
   clear HGO
   go_wp2
   go_ret
   exact zAq HG2.out (zAC (zAm _ _) HBB.out)
theorem sLen_c (w:World) (m cap:Nat) (so:Option Addr) (L:List Sl) (hm:w.heap[m]? =some (.cells #[.slice so L.length cap] 181)) (hrow:w.ownsRow 0 186 11 (.slice so L.length cap) L.length (rowSl L)) (hL:L.length≤1000):Calls Tryz.prog 227 #[.pointer (some ⟨m,0,none⟩)] w (fun e w'=>e= .returned (.int .i64 (liveN L:Nat))∧w=w'):=by
 have m0:w.cell? ⟨m,0,none⟩=some (.slice so L.length cap):=by rw[zAA hm];rfl
 have HROW:=Lib.hid hrow
 have HS0:=Lib.hid (show LenRel w L L.length (.int .i64 0) (.int .i64 0) w from⟨0,rfl,rfl,by rw[List.take_zero];rfl,rfl,Nat.zero_le _⟩)
 clear hm hrow
 go_enter Tryz.func227,Tryz.ntmps227
 go_wp2
 go_loopg [3,4] L.length (fun gg va vi wr=>LenRel w L gg va vi wr)
 case atStart=>exact HS0.out
 case round=>
  clear HS0
  obtain⟨i,rfl,rfl,rfl,rfl,hi⟩:=hrel
  have hlv:=zBU (L.take i)
  rw[List.length_take] at hlv
  by_cases hlt:i<L.length
  ·obtain⟨rb,cap',he⟩:=zAl HROW.out (by omega)
   injection he with he1 he2 he3
   subst he1
   obtain⟨sl,hsl⟩:∃sl,L[i]? =some sl:=⟨_,List.getElem?_eq_getElem hlt⟩
   have rc10:w.cell? ⟨rb,i*11+10,none⟩=some (.bool sl.g):=(HROW.out.cellAt (i*11+10) (by omega)).trans (zAn L i 10 sl hsl (by decide))
   have HLT:=Lib.hid (liveN_take hsl)
   clear hsl
   cases hg:sl.g with
   |true=>
    rw[hg] at rc10
    go_wp2
    go_roundg (L.length-(i+1))
    case measure=>omega
    case rel=>exact⟨i+1,rfl,rfl,by rw[HLT.out,hg];rfl,rfl,by omega⟩
   |false=>
    rw[hg] at rc10
    go_wp2
    go_roundg (L.length-(i+1))
    case measure=>omega
    case rel=>exact⟨i+1,rfl,rfl,by rw[HLT.out,hg];rfl,rfl,by omega⟩
  ·obtain rfl:i=L.length:=by omega
   go_wp2
   go_ret
   exact⟨by rw[List.take_length];rfl,rfl⟩
theorem sSet_rem_live (w:World) (m cap:Nat) (so:Option Addr) (L:List Sl) (hm:w.heap[m]? =some (.cells #[.slice so L.length cap] 181)) (hrow:w.ownsRow 0 186 11 (.slice so L.length cap) L.length (rowSl L)) (hL:L.length≤1000) (k1 p1 q1:Int) (s1:ByteArray) (r1:Int) (k2 p2 q2:Int) (s2:ByteArray) (r2:Int) (hvk:∀W,Calls Tryz.prog 26 #[.agg #[k1,p1,q1,s1,r1]] W (BoolPost W true)) (hvv:∀W,Calls Tryz.prog 26 #[.agg #[k2,p2,q2,s2,r2]] W (BoolPost W true)) (hk0:(k1==0)=false) (i:Nat) (sl:Sl) (hsl:L[i]? =some sl) (hg:sl.g=false) (hfi:∀W,Below w.heap.size w W→Calls Tryz.prog 226 #[.pointer (some ⟨m,0,none⟩),.agg #[k1,p1,q1,s1,r1]] W (IntPost W ((i:Nat):Int))) (hv0:(k2==0)=true):Calls Tryz.prog 175 #[.pointer (some ⟨m,0,none⟩),.agg #[k1,p1,q1,s1,r1],.agg #[k2,p2,q2,s2,r2]] w (fun e w'=>e= .returned (.int .i64 0)∧∃w2 rb,so=some ⟨rb,0,none⟩∧Below w.heap.size w w2∧w'=setCells w2 rb (i*11) (zBS ⟨⟨k1,p1,q1,s1,r1⟩,V.nil,true⟩)):=by
 have hml:m<w.heap.size:=(Array.getElem?_eq_some_iff.1 hm).1
 have hl2:=zBU L
 have hnl:i<L.length:=(List.getElem?_eq_some_iff.1 hsl).1
 have hge:(0:Int)≤((i:Nat):Int):=by omega
 have hge2:decide ((0:Int)≤((i:Nat):Int))=true:=by rw[decide_eq_true_eq];exact hge
 obtain⟨rb,cap',he⟩:=zAl hrow (by omega)
 injection he with he1 he2 he3
 subst he1
 subst he3
 have hrl:rb<w.heap.size:=(zAS hrow rfl).2
 have HSL:=Lib.hid hsl
 clear hsl
 have HM:=Lib.hid hm
 have HROW:=Lib.hid hrow
 have HVK:=Lib.hid hvk
 have HVV:=Lib.hid hvv
 have HF:=Lib.hid hfi
 clear hvk hvv hfi hm hrow
 go_enter Tryz.func175,Tryz.ntmps175
 go_wp2_with fail
 refine(HVK.out _).mono ?_
 rintro e w1 ⟨rfl,hb⟩
 have Ha1:=hkh hb (zAf _ _ _)
 have Hb1:=hkh hb (zAW _ _ _)
 have Hm1:=hkh hb (zAp HM.out _ _)
 have HW1:=hbn (zAF _ _ _) hb
 have hz1:=hb.size
 try simp at hz1
 clear hb
 have hyb:w.heap.size+1<w1.heap.size:=hsz Hb1
 obtain⟨b0,b1,b2,b3,b4⟩:=cells5 Hb1.out
 go_wp2_with fail
 refine(HVV.out _).mono ?_
 rintro e w2 ⟨rfl,hb⟩
 have Ha2:=hkh hb Ha1.out
 have Hb2:=hkh hb Hb1.out
 have Hm2:=hkh hb Hm1.out
 have HW2:=hbn HW1.out hb
 have hz2:=hb.size
 try simp at hz2
 clear hb
 clear hyb b0 b1 b2 b3 b4
 have hya:w.heap.size<w2.heap.size:=hsz Ha2
 obtain⟨a0,a1,a2,a3,a4⟩:=cells5 Ha2.out
 go_wp2_with fail
 refine(HF.out _ HW2.out).mono ?_
 rintro e w3 ⟨rfl,hb⟩
 have Ha3:=hkh hb Ha2.out
 have Hb3:=hkh hb Hb2.out
 have Hm3:=hkh hb Hm2.out
 have HW3:=hbn HW2.out hb
 have hz3:=hb.size
 try simp at hz3
 clear hb
 clear hya a0 a1 a2 a3 a4
 have hya:w.heap.size<w3.heap.size:=hsz Ha3
 obtain⟨a0,a1,a2,a3,a4⟩:=cells5 Ha3.out
 have hyb:w.heap.size+1<w3.heap.size:=hsz Hb3
 obtain⟨b0,b1,b2,b3,b4⟩:=cells5 Hb3.out
 have hym:m<w3.heap.size:=hsz Hm3
 have m0:w3.cell? ⟨m,0,none⟩=some (.slice (some ⟨rb,0,none⟩) L.length cap):=by rw[zAA Hm3.out];rfl
 have fm0:w3.frozen? ⟨m,0,none⟩=false:=zAB Hm3.out _
 have HROW3:=Lib.hid (zAQ (zAa HW3.out (Nat.le_refl _)) HROW.out)
 have rc10:w3.cell? ⟨rb,i*11+10,none⟩=some (.bool sl.g):=(HROW3.out.cellAt (i*11+10) (by omega)).trans (zAn L i 10 sl HSL.out (by decide))
 rw[hg] at rc10
 go_wp2
 have HTH:=Lib.hid (fun W (hW:W.heap=w3.heap)=>zCG (zAZ (w3:=W) HROW3.out (fun g _=>by rw[hW])) (i*11) 11 (by omega))
 refine zAK mixed (by kernel_rfl) ?_
 go_wp2_with (refine wpList_store_mid rfl 186 _ _ rfl rb (i*11) _ rfl rfl (HTH.out _ rfl) info186 (by simp[Value.oneCell']) ?_)
 refine⟨by kernel_rfl,?_⟩
 go_wp2
 go_ret
 exact⟨rfl,w3.drew,rb,rfl,HW3.out.drew,zBJ (zBS ⟨⟨k1,p1,q1,s1,r1⟩,V.nil,true⟩) w3.drew (i*11)⟩
theorem sSet_rem_gone (w:World) (m cap:Nat) (so:Option Addr) (L:List Sl) (hm:w.heap[m]? =some (.cells #[.slice so L.length cap] 181)) (hrow:w.ownsRow 0 186 11 (.slice so L.length cap) L.length (rowSl L)) (hL:L.length≤1000) (k1 p1 q1:Int) (s1:ByteArray) (r1:Int) (k2 p2 q2:Int) (s2:ByteArray) (r2:Int) (hvk:∀W,Calls Tryz.prog 26 #[.agg #[k1,p1,q1,s1,r1]] W (BoolPost W true)) (hvv:∀W,Calls Tryz.prog 26 #[.agg #[k2,p2,q2,s2,r2]] W (BoolPost W true)) (hk0:(k1==0)=false) (i:Nat) (sl:Sl) (hsl:L[i]? =some sl) (hg:sl.g=true) (hfi:∀W,Below w.heap.size w W→Calls Tryz.prog 226 #[.pointer (some ⟨m,0,none⟩),.agg #[k1,p1,q1,s1,r1]] W (IntPost W ((i:Nat):Int))) (hv0:(k2==0)=true):Calls Tryz.prog 175 #[.pointer (some ⟨m,0,none⟩),.agg #[k1,p1,q1,s1,r1],.agg #[k2,p2,q2,s2,r2]] w (fun e w'=>e= .returned (.int .i64 0)∧∃w2 rb,so=some ⟨rb,0,none⟩∧Below w.heap.size w w2∧w'=setCells w2 rb (i*11) (zBS ⟨⟨k1,p1,q1,s1,r1⟩,V.nil,true⟩)):=by
 have hml:m<w.heap.size:=(Array.getElem?_eq_some_iff.1 hm).1
 have hl2:=zBU L
 have hnl:i<L.length:=(List.getElem?_eq_some_iff.1 hsl).1
 have hge:(0:Int)≤((i:Nat):Int):=by omega
 have hge2:decide ((0:Int)≤((i:Nat):Int))=true:=by rw[decide_eq_true_eq];exact hge
 obtain⟨rb,cap',he⟩:=zAl hrow (by omega)
 injection he with he1 he2 he3
 subst he1
 subst he3
 have hrl:rb<w.heap.size:=(zAS hrow rfl).2
 have HSL:=Lib.hid hsl
 clear hsl
 have HM:=Lib.hid hm
 have HROW:=Lib.hid hrow
 have HVK:=Lib.hid hvk
 have HVV:=Lib.hid hvv
 have HF:=Lib.hid hfi
 clear hvk hvv hfi hm hrow
 go_enter Tryz.func175,Tryz.ntmps175
 go_wp2_with fail
 refine(HVK.out _).mono ?_
 rintro e w1 ⟨rfl,hb⟩
 have Ha1:=hkh hb (zAf _ _ _)
 have Hb1:=hkh hb (zAW _ _ _)
 have Hm1:=hkh hb (zAp HM.out _ _)
 have HW1:=hbn (zAF _ _ _) hb
 have hz1:=hb.size
 try simp at hz1
 clear hb
 have hyb:w.heap.size+1<w1.heap.size:=hsz Hb1
 obtain⟨b0,b1,b2,b3,b4⟩:=cells5 Hb1.out
 go_wp2_with fail
 refine(HVV.out _).mono ?_
 rintro e w2 ⟨rfl,hb⟩
 have Ha2:=hkh hb Ha1.out
 have Hb2:=hkh hb Hb1.out
 have Hm2:=hkh hb Hm1.out
 have HW2:=hbn HW1.out hb
 have hz2:=hb.size
 try simp at hz2
 clear hb
 clear hyb b0 b1 b2 b3 b4
 have hya:w.heap.size<w2.heap.size:=hsz Ha2
 obtain⟨a0,a1,a2,a3,a4⟩:=cells5 Ha2.out
 go_wp2_with fail
 refine(HF.out _ HW2.out).mono ?_
 rintro e w3 ⟨rfl,hb⟩
 have Ha3:=hkh hb Ha2.out
 have Hb3:=hkh hb Hb2.out
 have Hm3:=hkh hb Hm2.out
 have HW3:=hbn HW2.out hb
 have hz3:=hb.size
 try simp at hz3
 clear hb
 clear hya a0 a1 a2 a3 a4
 have hya:w.heap.size<w3.heap.size:=hsz Ha3
 obtain⟨a0,a1,a2,a3,a4⟩:=cells5 Ha3.out
 have hyb:w.heap.size+1<w3.heap.size:=hsz Hb3
 obtain⟨b0,b1,b2,b3,b4⟩:=cells5 Hb3.out
 have hym:m<w3.heap.size:=hsz Hm3
 have m0:w3.cell? ⟨m,0,none⟩=some (.slice (some ⟨rb,0,none⟩) L.length cap):=by rw[zAA Hm3.out];rfl
 have fm0:w3.frozen? ⟨m,0,none⟩=false:=zAB Hm3.out _
 have HROW3:=Lib.hid (zAQ (zAa HW3.out (Nat.le_refl _)) HROW.out)
 have rc10:w3.cell? ⟨rb,i*11+10,none⟩=some (.bool sl.g):=(HROW3.out.cellAt (i*11+10) (by omega)).trans (zAn L i 10 sl HSL.out (by decide))
 rw[hg] at rc10
 go_wp2
 have HTH:=Lib.hid (fun W (hW:W.heap=w3.heap)=>zCG (zAZ (w3:=W) HROW3.out (fun g _=>by rw[hW])) (i*11) 11 (by omega))
 refine zAK mixed (by kernel_rfl) ?_
 go_wp2_with (refine wpList_store_mid rfl 186 _ _ rfl rb (i*11) _ rfl rfl (HTH.out _ rfl) info186 (by simp[Value.oneCell']) ?_)
 refine⟨by kernel_rfl,?_⟩
 go_wp2
 go_ret
 exact⟨rfl,w3.drew,rb,rfl,HW3.out.drew,zBJ (zBS ⟨⟨k1,p1,q1,s1,r1⟩,V.nil,true⟩) w3.drew (i*11)⟩
theorem sSet_rem_none (w:World) (m cap:Nat) (so:Option Addr) (L:List Sl) (hm:w.heap[m]? =some (.cells #[.slice so L.length cap] 181)) (hrow:w.ownsRow 0 186 11 (.slice so L.length cap) L.length (rowSl L)) (hL:L.length≤1000) (k1 p1 q1:Int) (s1:ByteArray) (r1:Int) (k2 p2 q2:Int) (s2:ByteArray) (r2:Int) (hvk:∀W,Calls Tryz.prog 26 #[.agg #[k1,p1,q1,s1,r1]] W (BoolPost W true)) (hvv:∀W,Calls Tryz.prog 26 #[.agg #[k2,p2,q2,s2,r2]] W (BoolPost W true)) (hk0:(k1==0)=false) (hfi:∀W,Below w.heap.size w W→Calls Tryz.prog 226 #[.pointer (some ⟨m,0,none⟩),.agg #[k1,p1,q1,s1,r1]] W (IntPost W (-1))) (hv0:(k2==0)=true):Calls Tryz.prog 175 #[.pointer (some ⟨m,0,none⟩),.agg #[k1,p1,q1,s1,r1],.agg #[k2,p2,q2,s2,r2]] w (fun e w'=>e= .returned (.int .i64 0)∧Below w.heap.size w w'):=by
 have hml:m<w.heap.size:=(Array.getElem?_eq_some_iff.1 hm).1
 have hl2:=zBU L
 have HM:=Lib.hid hm
 have HROW:=Lib.hid hrow
 have HVK:=Lib.hid hvk
 have HVV:=Lib.hid hvv
 have HF:=Lib.hid hfi
 clear hvk hvv hfi hm hrow
 go_enter Tryz.func175,Tryz.ntmps175
 go_wp2_with fail
 refine(HVK.out _).mono ?_
 rintro e w1 ⟨rfl,hb⟩
 have Ha1:=hkh hb (zAf _ _ _)
 have Hb1:=hkh hb (zAW _ _ _)
 have Hm1:=hkh hb (zAp HM.out _ _)
 have HW1:=hbn (zAF _ _ _) hb
 have hz1:=hb.size
 try simp at hz1
 clear hb
 have hyb:w.heap.size+1<w1.heap.size:=hsz Hb1
 obtain⟨b0,b1,b2,b3,b4⟩:=cells5 Hb1.out
 go_wp2_with fail
 refine(HVV.out _).mono ?_
 rintro e w2 ⟨rfl,hb⟩
 have Ha2:=hkh hb Ha1.out
 have Hb2:=hkh hb Hb1.out
 have Hm2:=hkh hb Hm1.out
 have HW2:=hbn HW1.out hb
 have hz2:=hb.size
 try simp at hz2
 clear hb
 clear hyb b0 b1 b2 b3 b4
 have hya:w.heap.size<w2.heap.size:=hsz Ha2
 obtain⟨a0,a1,a2,a3,a4⟩:=cells5 Ha2.out
 go_wp2_with fail
 refine(HF.out _ HW2.out).mono ?_
 rintro e w3 ⟨rfl,hb⟩
 have Ha3:=hkh hb Ha2.out
 have Hb3:=hkh hb Hb2.out
 have Hm3:=hkh hb Hm2.out
 have HW3:=hbn HW2.out hb
 have hz3:=hb.size
 try simp at hz3
 clear hb
 clear hya a0 a1 a2 a3 a4
 have hya:w.heap.size<w3.heap.size:=hsz Ha3
 obtain⟨a0,a1,a2,a3,a4⟩:=cells5 Ha3.out
 have hyb:w.heap.size+1<w3.heap.size:=hsz Hb3
 obtain⟨b0,b1,b2,b3,b4⟩:=cells5 Hb3.out
 have hym:m<w3.heap.size:=hsz Hm3
 have m0:w3.cell? ⟨m,0,none⟩=some (.slice so L.length cap):=by rw[zAA Hm3.out];rfl
 have fm0:w3.frozen? ⟨m,0,none⟩=false:=zAB Hm3.out _
 have HROW3:=Lib.hid (zAQ (zAa HW3.out (Nat.le_refl _)) HROW.out)
 go_wp2
 go_ret
 exact⟨rfl,HW3.out⟩
theorem sSet_write (w:World) (m cap:Nat) (so:Option Addr) (L:List Sl) (hm:w.heap[m]? =some (.cells #[.slice so L.length cap] 181)) (hrow:w.ownsRow 0 186 11 (.slice so L.length cap) L.length (rowSl L)) (hL:L.length≤1000) (k1 p1 q1:Int) (s1:ByteArray) (r1:Int) (k2 p2 q2:Int) (s2:ByteArray) (r2:Int) (hvk:∀W,Calls Tryz.prog 26 #[.agg #[k1,p1,q1,s1,r1]] W (BoolPost W true)) (hvv:∀W,Calls Tryz.prog 26 #[.agg #[k2,p2,q2,s2,r2]] W (BoolPost W true)) (hk0:(k1==0)=false) (i:Nat) (sl:Sl) (hsl:L[i]? =some sl) (hg:sl.g=false) (hfi:∀W,Below w.heap.size w W→Calls Tryz.prog 226 #[.pointer (some ⟨m,0,none⟩),.agg #[k1,p1,q1,s1,r1]] W (IntPost W ((i:Nat):Int))) (hv0:(k2==0)=false):Calls Tryz.prog 175 #[.pointer (some ⟨m,0,none⟩),.agg #[k1,p1,q1,s1,r1],.agg #[k2,p2,q2,s2,r2]] w (fun e w'=>e= .returned (.int .i64 0)∧∃w2 rb,so=some ⟨rb,0,none⟩∧Below w.heap.size w w2∧w'=setCells w2 rb (i*11+5) (zBF ⟨k2,p2,q2,s2,r2⟩)):=by
 have hml:m<w.heap.size:=(Array.getElem?_eq_some_iff.1 hm).1
 have hl2:=zBU L
 have hnl:i<L.length:=(List.getElem?_eq_some_iff.1 hsl).1
 have hge:(0:Int)≤((i:Nat):Int):=by omega
 have hge2:decide ((0:Int)≤((i:Nat):Int))=true:=by rw[decide_eq_true_eq];exact hge
 obtain⟨rb,cap',he⟩:=zAl hrow (by omega)
 injection he with he1 he2 he3
 subst he1
 subst he3
 have hrl:rb<w.heap.size:=(zAS hrow rfl).2
 have HSL:=Lib.hid hsl
 clear hsl
 have HM:=Lib.hid hm
 have HROW:=Lib.hid hrow
 have HVK:=Lib.hid hvk
 have HVV:=Lib.hid hvv
 have HF:=Lib.hid hfi
 clear hvk hvv hfi hm hrow
 go_enter Tryz.func175,Tryz.ntmps175
 go_wp2_with fail
 refine(HVK.out _).mono ?_
 rintro e w1 ⟨rfl,hb⟩
 have Ha1:=hkh hb (zAf _ _ _)
 have Hb1:=hkh hb (zAW _ _ _)
 have Hm1:=hkh hb (zAp HM.out _ _)
 have HW1:=hbn (zAF _ _ _) hb
 have hz1:=hb.size
 try simp at hz1
 clear hb
 have hyb:w.heap.size+1<w1.heap.size:=hsz Hb1
 obtain⟨b0,b1,b2,b3,b4⟩:=cells5 Hb1.out
 go_wp2_with fail
 refine(HVV.out _).mono ?_
 rintro e w2 ⟨rfl,hb⟩
 have Ha2:=hkh hb Ha1.out
 have Hb2:=hkh hb Hb1.out
 have Hm2:=hkh hb Hm1.out
 have HW2:=hbn HW1.out hb
 have hz2:=hb.size
 try simp at hz2
 clear hb
 clear hyb b0 b1 b2 b3 b4
 have hya:w.heap.size<w2.heap.size:=hsz Ha2
 obtain⟨a0,a1,a2,a3,a4⟩:=cells5 Ha2.out
 go_wp2_with fail
 refine(HF.out _ HW2.out).mono ?_
 rintro e w3 ⟨rfl,hb⟩
 have Ha3:=hkh hb Ha2.out
 have Hb3:=hkh hb Hb2.out
 have Hm3:=hkh hb Hm2.out
 have HW3:=hbn HW2.out hb
 have hz3:=hb.size
 try simp at hz3
 clear hb
 clear hya a0 a1 a2 a3 a4
 have hya:w.heap.size<w3.heap.size:=hsz Ha3
 obtain⟨a0,a1,a2,a3,a4⟩:=cells5 Ha3.out
 have hyb:w.heap.size+1<w3.heap.size:=hsz Hb3
 obtain⟨b0,b1,b2,b3,b4⟩:=cells5 Hb3.out
 have hym:m<w3.heap.size:=hsz Hm3
 have m0:w3.cell? ⟨m,0,none⟩=some (.slice (some ⟨rb,0,none⟩) L.length cap):=by rw[zAA Hm3.out];rfl
 have fm0:w3.frozen? ⟨m,0,none⟩=false:=zAB Hm3.out _
 have HROW3:=Lib.hid (zAQ (zAa HW3.out (Nat.le_refl _)) HROW.out)
 have rc10:w3.cell? ⟨rb,i*11+10,none⟩=some (.bool sl.g):=(HROW3.out.cellAt (i*11+10) (by omega)).trans (zAn L i 10 sl HSL.out (by decide))
 rw[hg] at rc10
 go_wp2
 have HTH:=Lib.hid (fun W (hW:W.heap=w3.heap)=>zCG (zAZ (w3:=W) HROW3.out (fun g _=>by rw[hW])) (i*11+5) 5 (by omega))
 refine zAK mixed (by kernel_rfl) ?_
 go_wp2_with (refine wpList_store_mid rfl 25 _ _ rfl rb (i*11+5) _ rfl rfl (HTH.out _ rfl) info25 (by simp[Value.oneCell']) ?_)
 refine⟨by kernel_rfl,?_⟩
 go_wp2
 go_ret
 exact⟨rfl,w3.drew,rb,rfl,HW3.out.drew,zBJ (zBF ⟨k2,p2,q2,s2,r2⟩) w3.drew (i*11+5)⟩
theorem sSet_push_none (w:World) (m cap:Nat) (so:Option Addr) (L:List Sl) (hm:w.heap[m]? =some (.cells #[.slice so L.length cap] 181)) (hrow:w.ownsRow 0 186 11 (.slice so L.length cap) L.length (rowSl L)) (hL:L.length≤1000) (k1 p1 q1:Int) (s1:ByteArray) (r1:Int) (k2 p2 q2:Int) (s2:ByteArray) (r2:Int) (hvk:∀W,Calls Tryz.prog 26 #[.agg #[k1,p1,q1,s1,r1]] W (BoolPost W true)) (hvv:∀W,Calls Tryz.prog 26 #[.agg #[k2,p2,q2,s2,r2]] W (BoolPost W true)) (hk0:(k1==0)=false) (hfi:∀W,Below w.heap.size w W→Calls Tryz.prog 226 #[.pointer (some ⟨m,0,none⟩),.agg #[k1,p1,q1,s1,r1]] W (IntPost W (-1))) (hv0:(k2==0)=false) (hgn:∀s∈L,s.g=true→s.v=V.nil) (hroom:¬liveN L+8<L.length-liveN L):Calls Tryz.prog 175 #[.pointer (some ⟨m,0,none⟩),.agg #[k1,p1,q1,s1,r1],.agg #[k2,p2,q2,s2,r2]] w (SmPost w m (.slice so L.length cap) (L++[⟨⟨k1,p1,q1,s1,r1⟩,⟨k2,p2,q2,s2,r2⟩,false⟩])):=by
 have HGN:=Lib.hid hgn
 clear hgn
 have hml:m<w.heap.size:=(Array.getElem?_eq_some_iff.1 hm).1
 have hl2:=zBU L
 have hroomI:¬(((liveN L:Nat):Int)+8<((L.length:Nat):Int)-((liveN L:Nat):Int)):=by omega
 have HM:=Lib.hid hm
 have HROW:=Lib.hid hrow
 have HVK:=Lib.hid hvk
 have HVV:=Lib.hid hvv
 have HF:=Lib.hid hfi
 clear hvk hvv hfi hm hrow
 go_enter Tryz.func175,Tryz.ntmps175
 go_wp2_with fail
 refine(HVK.out _).mono ?_
 rintro e w1 ⟨rfl,hb⟩
 have Ha1:=hkh hb (zAf _ _ _)
 have Hb1:=hkh hb (zAW _ _ _)
 have Hm1:=hkh hb (zAp HM.out _ _)
 have HW1:=hbn (zAF _ _ _) hb
 have hz1:=hb.size
 try simp at hz1
 clear hb
 have hyb:w.heap.size+1<w1.heap.size:=hsz Hb1
 obtain⟨b0,b1,b2,b3,b4⟩:=cells5 Hb1.out
 go_wp2_with fail
 refine(HVV.out _).mono ?_
 rintro e w2 ⟨rfl,hb⟩
 have Ha2:=hkh hb Ha1.out
 have Hb2:=hkh hb Hb1.out
 have Hm2:=hkh hb Hm1.out
 have HW2:=hbn HW1.out hb
 have hz2:=hb.size
 try simp at hz2
 clear hb
 clear hyb b0 b1 b2 b3 b4
 have hya:w.heap.size<w2.heap.size:=hsz Ha2
 obtain⟨a0,a1,a2,a3,a4⟩:=cells5 Ha2.out
 go_wp2_with fail
 refine(HF.out _ HW2.out).mono ?_
 rintro e w3 ⟨rfl,hb⟩
 have Ha3:=hkh hb Ha2.out
 have Hb3:=hkh hb Hb2.out
 have Hm3:=hkh hb Hm2.out
 have HW3:=hbn HW2.out hb
 have hz3:=hb.size
 try simp at hz3
 clear hb
 clear hya a0 a1 a2 a3 a4
 have hya:w.heap.size<w3.heap.size:=hsz Ha3
 obtain⟨a0,a1,a2,a3,a4⟩:=cells5 Ha3.out
 have hyb:w.heap.size+1<w3.heap.size:=hsz Hb3
 obtain⟨b0,b1,b2,b3,b4⟩:=cells5 Hb3.out
 have hym:m<w3.heap.size:=hsz Hm3
 have m0:w3.cell? ⟨m,0,none⟩=some (.slice so L.length cap):=by rw[zAA Hm3.out];rfl
 have fm0:w3.frozen? ⟨m,0,none⟩=false:=zAB Hm3.out _
 have HROW3:=Lib.hid (zAQ (zAa HW3.out (Nat.le_refl _)) HROW.out)
 go_wp2_with fail
 refine(sLen_c w3 m cap so L Hm3.out HROW3.out hL).mono ?_
 rintro e w4 ⟨rfl,rfl⟩
 go_wp2
 obtain⟨i6,hi6,hi6a,hi6b,hi6c⟩:=info_parts info186p
 refine zAK mixed (by kernel_rfl) ?_
 go_wp2_with (at_builtin;refine wpList_append_own_at _ rfl (.tmp 109) (.tmp 113) 179 rfl 0 186 i6 _ 11 104 Tryz.underlying179 hi6 hi6a hi6b hi6c rfl (by decide) (.slice so L.length cap) L.length (rowSl L) rfl ?A _ 1 1 [.int .i64 k1,.int .i64 p1,.int .i64 q1,.string s1,.int .i64 r1,.int .i64 k2,.int .i64 p2,.int .i64 q2,.string s2,.int .i64 r2,.bool false] rfl rfl ?B ?C ?D ?E ?F ?G)
 case A=>exact zAQ (zAa ((Below.refl _ _).alloc (Nat.le_refl _) _).drew (Nat.le_refl _)) HROW3.out
 case B=>exact zBP _ _ _ _ _ _ _ _ _ _ _ _ _ _ rfl
 case C=>
  intro u hu
  simp only[List.mem_cons,List.not_mem_nil,or_false] at hu
  rcases hu with rfl|rfl|rfl|rfl|rfl|rfl|rfl|rfl|rfl|rfl|rfl<;>simp[Value.oneCell']
 case D=>unfold maxLen;omega
 case E=>omega
 case F=>exact Nat.zero_le _
 case G=>
  intro v' w5 hown hgrow _ hat
  obtain⟨rb',cap',rfl⟩:=zAl hown (by omega)
  have hne:∀b,(Value.slice so L.length cap).ownBlock=some b→b≠m:=fun b hb=>by
   obtain⟨c2,hc⟩:=zAc HROW3.out hb
   exact zAU hc Hm3.out (by decide)
  have HM5:=Lib.hid (show w5.heap[m]? =_ from(hgrow.block m (by simp;omega) (fun e=>hne m e.symm rfl)).trans ((Below.heap_alloc w3 _ m (by omega)).trans Hm3.out))
  have HOWN:=Lib.hid hown
  have HAT:=Lib.hid hat
  have HGR:=Lib.hid hgrow
  clear hown hat hgrow hne a0 a1 a2 a3 a4 b0 b1 b2 b3 b4 m0 fm0
  have m0:w5.cell? ⟨m,0,none⟩=some (.slice so L.length cap):=by rw[zAA HM5.out];rfl
  have fm0:w5.frozen? ⟨m,0,none⟩=false:=zAB HM5.out _
  go_wp2
  refine⟨by kernel_rfl,?_⟩
  go_wp2
  go_ret
  refine⟨rfl,.slice (some ⟨rb',0,none⟩) (L.length+1) cap',sm_push HM5.out HOWN.out HGN.out,zAO (grow_mods (Mods.of_below ((HW3.out.alloc HW3.out.size _).drew)) HGR.out (fun b hb=> .inl (.inr hb))) (.inl (.inl rfl)) _,fun b hb=> ?_⟩
  rcases HAT.out with h|h
  ·exact .inl (h.symm.trans hb)
  ·rw[h] at hb
   injection hb with hb
   subst hb
   have:=HW3.out.size
   exact .inr (by first|omega|(simp;omega))
theorem sSet_push_gone (w:World) (m cap:Nat) (so:Option Addr) (L:List Sl) (hm:w.heap[m]? =some (.cells #[.slice so L.length cap] 181)) (hrow:w.ownsRow 0 186 11 (.slice so L.length cap) L.length (rowSl L)) (hL:L.length≤1000) (k1 p1 q1:Int) (s1:ByteArray) (r1:Int) (k2 p2 q2:Int) (s2:ByteArray) (r2:Int) (hvk:∀W,Calls Tryz.prog 26 #[.agg #[k1,p1,q1,s1,r1]] W (BoolPost W true)) (hvv:∀W,Calls Tryz.prog 26 #[.agg #[k2,p2,q2,s2,r2]] W (BoolPost W true)) (hk0:(k1==0)=false) (i:Nat) (sl:Sl) (hsl:L[i]? =some sl) (hg:sl.g=true) (hfi:∀W,Below w.heap.size w W→Calls Tryz.prog 226 #[.pointer (some ⟨m,0,none⟩),.agg #[k1,p1,q1,s1,r1]] W (IntPost W ((i:Nat):Int))) (hv0:(k2==0)=false) (hgn:∀s∈L,s.g=true→s.v=V.nil) (hroom:¬liveN L+8<L.length-liveN L):Calls Tryz.prog 175 #[.pointer (some ⟨m,0,none⟩),.agg #[k1,p1,q1,s1,r1],.agg #[k2,p2,q2,s2,r2]] w (SmPost w m (.slice so L.length cap) (L++[⟨⟨k1,p1,q1,s1,r1⟩,⟨k2,p2,q2,s2,r2⟩,false⟩])):=by
 have HGN:=Lib.hid hgn
 clear hgn
 have hml:m<w.heap.size:=(Array.getElem?_eq_some_iff.1 hm).1
 have hl2:=zBU L
 have hnl:i<L.length:=(List.getElem?_eq_some_iff.1 hsl).1
 have hge:(0:Int)≤((i:Nat):Int):=by omega
 have hge2:decide ((0:Int)≤((i:Nat):Int))=true:=by rw[decide_eq_true_eq];exact hge
 obtain⟨rb,cap',he⟩:=zAl hrow (by omega)
 injection he with he1 he2 he3
 subst he1
 subst he3
 have hrl:rb<w.heap.size:=(zAS hrow rfl).2
 have HSL:=Lib.hid hsl
 clear hsl
 have hroomI:¬(((liveN L:Nat):Int)+8<((L.length:Nat):Int)-((liveN L:Nat):Int)):=by omega
 have HM:=Lib.hid hm
 have HROW:=Lib.hid hrow
 have HVK:=Lib.hid hvk
 have HVV:=Lib.hid hvv
 have HF:=Lib.hid hfi
 clear hvk hvv hfi hm hrow
 go_enter Tryz.func175,Tryz.ntmps175
 go_wp2_with fail
 refine(HVK.out _).mono ?_
 rintro e w1 ⟨rfl,hb⟩
 have Ha1:=hkh hb (zAf _ _ _)
 have Hb1:=hkh hb (zAW _ _ _)
 have Hm1:=hkh hb (zAp HM.out _ _)
 have HW1:=hbn (zAF _ _ _) hb
 have hz1:=hb.size
 try simp at hz1
 clear hb
 have hyb:w.heap.size+1<w1.heap.size:=hsz Hb1
 obtain⟨b0,b1,b2,b3,b4⟩:=cells5 Hb1.out
 go_wp2_with fail
 refine(HVV.out _).mono ?_
 rintro e w2 ⟨rfl,hb⟩
 have Ha2:=hkh hb Ha1.out
 have Hb2:=hkh hb Hb1.out
 have Hm2:=hkh hb Hm1.out
 have HW2:=hbn HW1.out hb
 have hz2:=hb.size
 try simp at hz2
 clear hb
 clear hyb b0 b1 b2 b3 b4
 have hya:w.heap.size<w2.heap.size:=hsz Ha2
 obtain⟨a0,a1,a2,a3,a4⟩:=cells5 Ha2.out
 go_wp2_with fail
 refine(HF.out _ HW2.out).mono ?_
 rintro e w3 ⟨rfl,hb⟩
 have Ha3:=hkh hb Ha2.out
 have Hb3:=hkh hb Hb2.out
 have Hm3:=hkh hb Hm2.out
 have HW3:=hbn HW2.out hb
 have hz3:=hb.size
 try simp at hz3
 clear hb
 clear hya a0 a1 a2 a3 a4
 have hya:w.heap.size<w3.heap.size:=hsz Ha3
 obtain⟨a0,a1,a2,a3,a4⟩:=cells5 Ha3.out
 have hyb:w.heap.size+1<w3.heap.size:=hsz Hb3
 obtain⟨b0,b1,b2,b3,b4⟩:=cells5 Hb3.out
 have hym:m<w3.heap.size:=hsz Hm3
 have m0:w3.cell? ⟨m,0,none⟩=some (.slice (some ⟨rb,0,none⟩) L.length cap):=by rw[zAA Hm3.out];rfl
 have fm0:w3.frozen? ⟨m,0,none⟩=false:=zAB Hm3.out _
 have HROW3:=Lib.hid (zAQ (zAa HW3.out (Nat.le_refl _)) HROW.out)
 have rc10:w3.cell? ⟨rb,i*11+10,none⟩=some (.bool sl.g):=(HROW3.out.cellAt (i*11+10) (by omega)).trans (zAn L i 10 sl HSL.out (by decide))
 rw[hg] at rc10
 go_wp2_with fail
 refine(sLen_c w3 m cap (some ⟨rb,0,none⟩) L Hm3.out HROW3.out hL).mono ?_
 rintro e w4 ⟨rfl,rfl⟩
 go_wp2
 obtain⟨i6,hi6,hi6a,hi6b,hi6c⟩:=info_parts info186p
 refine zAK mixed (by kernel_rfl) ?_
 go_wp2_with (at_builtin;refine wpList_append_own_at _ rfl (.tmp 109) (.tmp 113) 179 rfl 0 186 i6 _ 11 104 Tryz.underlying179 hi6 hi6a hi6b hi6c rfl (by decide) (.slice (some ⟨rb,0,none⟩) L.length cap) L.length (rowSl L) rfl ?A _ 1 1 [.int .i64 k1,.int .i64 p1,.int .i64 q1,.string s1,.int .i64 r1,.int .i64 k2,.int .i64 p2,.int .i64 q2,.string s2,.int .i64 r2,.bool false] rfl rfl ?B ?C ?D ?E ?F ?G)
 case A=>exact zAQ (zAa ((Below.refl _ _).alloc (Nat.le_refl _) _).drew (Nat.le_refl _)) HROW3.out
 case B=>exact zBP _ _ _ _ _ _ _ _ _ _ _ _ _ _ rfl
 case C=>
  intro u hu
  simp only[List.mem_cons,List.not_mem_nil,or_false] at hu
  rcases hu with rfl|rfl|rfl|rfl|rfl|rfl|rfl|rfl|rfl|rfl|rfl<;>simp[Value.oneCell']
 case D=>unfold maxLen;omega
 case E=>omega
 case F=>exact Nat.zero_le _
 case G=>
  intro v' w5 hown hgrow _ hat
  obtain⟨rb',cap',rfl⟩:=zAl hown (by omega)
  have hne:∀b,(Value.slice (some ⟨rb,0,none⟩) L.length cap).ownBlock=some b→b≠m:=fun b hb=>by
   obtain⟨c2,hc⟩:=zAc HROW3.out hb
   exact zAU hc Hm3.out (by decide)
  have HM5:=Lib.hid (show w5.heap[m]? =_ from(hgrow.block m (by simp;omega) (fun e=>hne m e.symm rfl)).trans ((Below.heap_alloc w3 _ m (by omega)).trans Hm3.out))
  have HOWN:=Lib.hid hown
  have HAT:=Lib.hid hat
  have HGR:=Lib.hid hgrow
  clear hown hat hgrow hne a0 a1 a2 a3 a4 b0 b1 b2 b3 b4 m0 fm0
  have m0:w5.cell? ⟨m,0,none⟩=some (.slice (some ⟨rb,0,none⟩) L.length cap):=by rw[zAA HM5.out];rfl
  have fm0:w5.frozen? ⟨m,0,none⟩=false:=zAB HM5.out _
  go_wp2
  refine⟨by kernel_rfl,?_⟩
  go_wp2
  go_ret
  refine⟨rfl,.slice (some ⟨rb',0,none⟩) (L.length+1) cap',sm_push HM5.out HOWN.out HGN.out,zAO (grow_mods (Mods.of_below ((HW3.out.alloc HW3.out.size _).drew)) HGR.out (fun b hb=> .inl (.inr hb))) (.inl (.inl rfl)) _,fun b hb=> ?_⟩
  rcases HAT.out with h|h
  ·exact .inl (h.symm.trans hb)
  ·rw[h] at hb
   injection hb with hb
   subst hb
   have:=HW3.out.size
   exact .inr (by first|omega|(simp;omega))
end Go.Proofs.YthkpckgcgkijbaaGreatDoor
