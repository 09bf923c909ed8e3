import Derived.Test.YthkpckgcgkijbaaGreatDoorValB
set_option linter.unusedVariables false
set_option linter.unusedSimpArgs false
set_option maxRecDepth 100000
set_option maxHeartbeats 8000000
namespace Go.Proofs.YthkpckgcgkijbaaGreatDoor
open Go.RowKit Go.Proofs.Lexi
theorem pdigit_c (w:World) (c:Nat) (hc:c≤255):Calls Tryz.prog 252 #[.int .u8 c] w fun e w'=>e= .returned (.int .i64 (pdigV c))∧w=w':=by
 have h:(48≤c∧c≤57)∨(97≤c∧c≤122)∨(65≤c∧c≤90)∨(c<48∨(57<c∧(c<65∨(90<c∧(c<97∨122<c))))):=by omega
 rcases h with⟨a,b⟩|⟨a,b⟩|⟨a,b⟩|h
 ·have HR:=Lib.hid (show pdigV c=c-48 from by unfold pdigV;rw[if_pos ⟨a,b⟩])
  go_enter Tryz.func252,Tryz.ntmps252
  go_wp2
  go_ret
  exact⟨zBE HR.out.symm,rfl⟩
 ·have HR:=Lib.hid (show pdigV c=c-97+10 from by unfold pdigV;rw[if_neg (by omega),if_pos ⟨a,b⟩];omega)
  go_enter Tryz.func252,Tryz.ntmps252
  go_wp2
  go_ret
  exact⟨zBE HR.out.symm,rfl⟩
 ·have HR:=Lib.hid (show pdigV c=c-65+10 from by unfold pdigV;rw[if_neg (by omega),if_neg (by omega),if_pos ⟨a,b⟩];omega)
  go_enter Tryz.func252,Tryz.ntmps252
  go_wp2
  go_ret
  exact⟨zBE HR.out.symm,rfl⟩
 ·have HR:=Lib.hid (show pdigV c= -1 from by unfold pdigV;rw[if_neg (by omega),if_neg (by omega),if_neg (by omega)])
  rcases h with h|⟨h,h2|⟨h2,h3|h3⟩⟩
  all_goals
   go_enter Tryz.func252,Tryz.ntmps252
   go_wp2
   go_ret
   exact⟨zBE HR.out.symm,rfl⟩
theorem prun_c (w:World) (s:ByteArray) (hs:s.size≤2000000000) (k:Nat) (hk:k≤2000000002) (base:Nat) (hb:base=10∨base=16):
  Calls Tryz.prog 235 #[s,.int .i64 k,.int .i64 base] w fun e w'=>e= .returned (.int .i64 (k+runN base ((zAE s).drop k):Nat))∧w=w':=by
 obtain⟨R,hR⟩:∃R,k+runN base ((zAE s).drop k)=R:=⟨_,rfl⟩
 rw[hR]
 have HR0:=Lib.hid hR
 clear hR
 go_enter Tryz.func235,Tryz.ntmps235
 go_wp2
 go_loopg [1] (s.size-k) (fun gg v wr=>∃i:Nat,gg=s.size-i∧v= .int .i64 (i:Int)∧w=wr∧i≤2000000002∧Hid (i+runN base ((zAE s).drop i)=R))
 case atStart=>exact⟨k,rfl,rfl,rfl,hk,HR0⟩
 case round=>
  obtain⟨i,rfl,rfl,rfl,hi,HI⟩:=hrel
  by_cases hlt:i<s.size
  ·have hst:=run_step hlt HI.out
   have HD:=Lib.hid (pdigit_c w s[i].toNat (u8_le _))
   cases hd:isDig base s[i].toNat with
   |true=>
    have HN:=Lib.hid (hst.1 hd)
    obtain⟨hp1,hdv⟩:=pdigV_on (by omega) hd
    have HP:=Lib.hid hp1
    clear hst hd hp1
    go_wp2_with fail
    refine HD.out.mono ?_
    rw[HP.out]
    rintro e w1 ⟨rfl,rfl⟩
    go_wp2_with fail
    refine HD.out.mono ?_
    rw[HP.out]
    rintro e w1 ⟨rfl,rfl⟩
    go_wp2
    go_roundg (s.size-(i+1))
    case measure=>omega
    case rel=>exact⟨i+1,rfl,rfl,rfl,by omega,HN⟩
   |false=>
    have HN:=Lib.hid (hst.2 hd)
    have hp:=pdigV_off hb hd
    clear hst hd
    obtain⟨z,hz⟩:∃z,z=pdigV s[i].toNat:=⟨_,rfl⟩
    rw[←hz] at hp
    have HZ:=Lib.hid hz.symm
    clear hz
    rcases hp with hp|⟨hp,hp2,hp3⟩
    ·go_wp2_with fail
     refine HD.out.mono ?_
     rw[HZ.out]
     rintro e w1 ⟨rfl,rfl⟩
     go_wp2
     go_ret
     exact⟨zBE (congrArg (fun n:Nat=>(n:Int)) HN.out),rfl⟩
    ·go_wp2_with fail
     refine HD.out.mono ?_
     rw[HZ.out]
     rintro e w1 ⟨rfl,rfl⟩
     go_wp2_with fail
     refine HD.out.mono ?_
     rw[HZ.out]
     rintro e w1 ⟨rfl,rfl⟩
     go_wp2
     go_ret
     exact⟨zBE (congrArg (fun n:Nat=>(n:Int)) HN.out),rfl⟩
  ·have HN:=Lib.hid (run_stop (by omega) HI.out)
   go_wp2
   go_ret
   exact⟨zBE (congrArg (fun n:Nat=>(n:Int)) HN.out),rfl⟩
end Go.Proofs.YthkpckgcgkijbaaGreatDoor
namespace Go.Proofs
open Go.Shelf
open Go.RowKit in
theorem Tryz.strings_CutPrefix (s p:ByteArray) (w:World):
  Calls Tryz.prog 195 #[.string s,.string p] w fun e w'=>e= .returned (.tuple #[.string ⟨(Lib.trimPrefix s.data.toList p.data.toList).toArray⟩,.bool (Lib.hasPrefix s.data.toList p.data.toList)])∧w'=w:=Any.strings_CutPrefix Tryz.lays103 s p w
open Go.RowKit Go.Sort Go.Lib in
theorem Tryz.strconv_Itoa (n:Int) (h0: -9223372036854775808≤n) (h1:n≤9223372036854775807) (w:World) (htab:Lib.TabIs Tryz.prog w "internal/strconv.uint64pow10" .u64 Lib.pow10Tab):
  Calls Tryz.prog 211 #[.int .i64 n] w fun e w'=>e= .returned (.string ⟨(Lib.itoa n).toArray⟩)∧∃k os,w'=grow (w.drewN k) os:=Any.strconv_Itoa Tryz.laysM171 n h0 h1 w htab
open Go.RowKit Go.Lib in
theorem Tryz.strings_Cut (s sep:ByteArray) (m:Int) (w:World) (hs:s.size<4294967281) (hm:w.cell? ⟨0,0,none⟩=some (.int .i64 m)):
  Calls Tryz.prog 238 #[.string s,.string sep] w fun e w'=>e= .returned (.tuple #[.string ⟨(Lib.cut s.data.toList sep.data.toList).1.toArray⟩,.string ⟨(Lib.cut s.data.toList sep.data.toList).2.1.toArray⟩,.bool (Lib.cut s.data.toList sep.data.toList).2.2])∧∃n,w'=w.drewN n:=Any.strings_Cut Tryz.lays145 s sep m w hs hm
end Go.Proofs
namespace Go.Proofs.YthkpckgcgkijbaaGreatDoor
open Go.RowKit Go.Proofs.Lexi
theorem ptrim_c (w:World) (s:ByteArray) (hs:s.size≤2000000000):Calls Tryz.prog 194 #[.string s] w (TrimPost w (trimG (zAE s))):=by
 have hcon:=Any.strings_Trim_laid Tryz.lays160 (by kernel_rfl) s ⟨#[32,9,10,13]⟩ w (by omega) (by decide) ascii4
 change Calls Tryz.prog 233 _ _ (fun e w'=>e= .returned (.string ⟨(Lib.trimS s.data.toList [32,9,10,13]).toArray⟩)∧Below w.heap.size w w') at hcon
 have hb:=trim_bytes s
 generalize (⟨(Lib.trimS s.data.toList [32,9,10,13]).toArray⟩:ByteArray)=r at hcon hb
 have HB:=Lib.hid hb
 clear hb
 go_enter Tryz.func194,Tryz.ntmps194
 go_wp2_with fail
 refine hcon.mono ?_
 rintro e w1 ⟨rfl,hB⟩
 go_wp2
 go_ret
 exact⟨⟨_,rfl,HB.out⟩,hB⟩
theorem pinteger_c (w:World) (s:ByteArray) (hs:s.size≤2000000000) (base:Nat) (hb:base=10∨base=16) (hall:∀(i:Nat) (h:i<s.size),isDig base s[i].toNat=true):
  Calls Tryz.prog 236 #[.string s,.int .i64 base] w (OptPost w (numG base (zAE s) 0)):=by
 obtain⟨R,hR⟩:∃R,numG base ((zAE s).drop 0) 0=R:=⟨_,rfl⟩
 rw[show numG base (zAE s) 0=R from hR]
 have HR0:=Lib.hid hR
 have HALL:=Lib.hid hall
 clear hall
 clear hR
 go_enter Tryz.func236,Tryz.ntmps236
 go_wp2
 go_loopg [6,11] s.size (fun gg vn v wr=>∃i n:Nat,gg=s.size-i∧vn= .int .i64 (n:Int)∧v= .int .i64 (i:Int)∧w=wr∧i≤s.size∧(n:Int)≤4611686018427387904∧Hid (numG base ((zAE s).drop i) n=R))
 case atStart=>exact⟨0,0,rfl,rfl,rfl,rfl,Nat.zero_le _,by decide,HR0⟩
 case round=>
  obtain⟨i,n,rfl,rfl,rfl,rfl,hi,hn,HI⟩:=hrel
  by_cases hlt:i<s.size
  ·have hst:=num_step hb hlt HI.out
   have hp:=(pdigV_on (by omega) (HALL.out i hlt)).1
   have HD:=Lib.hid (pdigit_c w s[i].toNat (u8_le _))
   rw[hp] at HD
   clear hp
   have hd9:=zBw s[i].toNat
   obtain⟨d,hd⟩:∃d,d=digV s[i].toNat:=⟨_,rfl⟩
   rw[←hd] at hst hd9
   have HDD:=Lib.hid hd.symm
   clear hd
   by_cases hc:(4611686018427387904-(d:Int))/(base:Int)<n
   ·have HN:=Lib.hid (hst.1 hc)
    clear hst
    rcases hb with rfl|rfl
    all_goals
     go_wp2_with fail
     refine HD.out.mono ?_
     rw[HDD.out]
     rintro e w1 ⟨rfl,rfl⟩
     go_wp2
     go_ret2
     exact opt_none HN.out rfl
   ·have HN:=Lib.hid (hst.2 (by omega))
    clear hst
    rcases hb with rfl|rfl
    all_goals
     go_wp2_with fail
     refine HD.out.mono ?_
     rw[HDD.out]
     rintro e w1 ⟨rfl,rfl⟩
     go_wp2
     go_roundg (s.size-(i+1))
     case measure=>omega
     case rel=>exact⟨i+1,_,rfl,(by push_cast;rfl),rfl,rfl,by omega,by push_cast;omega,HN⟩
  ·have HN:=Lib.hid (num_stop (by omega) HI.out)
   go_wp2
   go_ret2
   exact opt_some HN.out rfl
def PRuns (s:ByteArray) (a base:Int) (r:Int):Prop:=∀W,Calls Tryz.prog 235 #[s,a,base] W fun e w'=>e= .returned (.int .i64 r)∧W=w'
theorem pruns (s:ByteArray) (hs:s.size≤2000000000) (a:Nat) (ha:a≤2000000002) (base:Nat) (hb:base=10∨base=16) (r:Nat) (h:a+runN base ((zAE s).drop a)=r):PRuns s a base r:=fun W=>by
 have:=prun_c W s hs a ha base hb
 rw[h] at this
 exact this
def DotNo (s:ByteArray) (r:Nat):Prop:=s.size≤r∨∃h:r<s.size,((s[r].toNat:Int)==46)=false∨(((s[r].toNat:Int)==46)=true∧PRuns s ((r:Int)+1) 10 ((r:Int)+1))
theorem dot_no {s:ByteArray} (hs:s.size≤2000000000) {r:Nat} (h:zBT (zAE s) r=0):DotNo s r:=by
 by_cases hl:r<s.size
 ·refine .inr ⟨hl,?_⟩
  unfold zBT at h
  rw[byte_at hl] at h
  have e0:=zBh s[r] 46
  by_cases hc:s[r].toNat=46
  ·rw[if_pos (by rw[hc])] at h
   exact .inr ⟨e0.trans (decide_eq_true hc),pruns s hs (r+1) (by omega) 10 (.inl rfl) (r+1) (by rw[h])⟩
  ·exact .inl (e0.trans (decide_eq_false hc))
 ·exact .inl (by omega)
def HexNo (s:ByteArray) (r:Nat):Prop:=((r:Int)==1)=false∨(((r:Int)==1)=true∧∃h0:0<s.size,((s[0].toNat:Int)==48)=false∨(((s[0].toNat:Int)==48)=true∧(s.size≤1∨∃h1:1<s.size,
 (((s[1].toNat:Int)==120)=false∧((s[1].toNat:Int)==88)=false)∨(PRuns s 2 16 2∧((s[1].toNat:Int)==46)=false∧(((s[1].toNat:Int)==120)=true∨(((s[1].toNat:Int)==120)=false∧((s[1].toNat:Int)==88)=true))))))
theorem hex_no {s:ByteArray} (hs:s.size≤2000000000) {r:Nat} (hr:r≤s.size) (hx:zBl (zAE s)=false):HexNo s r:=by
 by_cases h1:r=1
 ·refine .inr ⟨by rw[beq_iff_eq];omega,by omega,?_⟩
  subst h1
  have e0:=zBh s[0] 48
  by_cases hc:s[0].toNat=48
  ·refine .inr ⟨e0.trans (decide_eq_true hc),?_⟩
   by_cases hl:1<s.size
   ·refine .inr ⟨hl,?_⟩
    have e1:=zBh s[1] 120
    have e2:=zBh s[1] 88
    have e3:=zBh s[1] 46
    have rest:(s[1].toNat=120∨s[1].toNat=88)→PRuns s 2 16 2:=fun hc2=>by
     refine pruns s hs 2 (by omega) 16 (.inr rfl) 2 ?_
     have hz:runN 16 ((zAE s).drop 2)=0:=by
      by_cases h2:2<s.size
      ·rw[hex_long h2] at hx
       have hd:isDig 16 s[2].toNat=false:=by
        revert hx
        rw[hc]
        rcases hc2 with hc2|hc2<;>rw[hc2]<;>cases isDig 16 s[2].toNat<;>decide
       rw[zAx s 2 h2]
       unfold runN
       rw[hd];rfl
      ·rw[zBp s 2 (by omega)];rfl
     omega
    by_cases hc1:s[1].toNat=120
    ·exact .inr ⟨rest (.inl hc1),e3.trans (decide_eq_false (by omega)),.inl (e1.trans (decide_eq_true hc1))⟩
    ·by_cases hc2:s[1].toNat=88
     ·exact .inr ⟨rest (.inr hc2),e3.trans (decide_eq_false (by omega)),.inr ⟨e1.trans (decide_eq_false hc1),e2.trans (decide_eq_true hc2)⟩⟩
     ·exact .inl ⟨e1.trans (decide_eq_false hc1),e2.trans (decide_eq_false hc2)⟩
   ·exact .inl (by omega)
  ·exact .inl (e0.trans (decide_eq_false hc))
 ·exact .inl (by rw[beq_eq_false_iff_ne];omega)
theorem pfind0 (w:World) (s:ByteArray) (R:FR) (hs:s.size≤2000000000) (hrun:PRuns s 0 10 (0:Nat)) (hR:R=none):Calls Tryz.prog 196 #[.string s,.int .i64 0] w (FindPost w R):=by
 have HB:=Lib.hid (((Below.refl w.heap.size w).alloc (Nat.le_refl _) (.cells #[.bool false,.int .i64 0,.int .i64 0,.int .i64 0] 165)))
 have HRUN:=Lib.hid hrun
 have HR:=Lib.hid hR
 clear hrun hR
 go_enter Tryz.func196,Tryz.ntmps196
 go_wp2_with fail
 refine(HRUN.out _).mono ?_
 rintro e w' ⟨rfl,rfl⟩
 go_wp2
 all_goals
  refine bodyPost_ret (by simp[results,Tryz.results196,go_sem];first|done|rfl) rfl ?_
  exact find_no HR.out (by first|exact(Below.refl _ _).alloc (Nat.le_refl _) _|exact zBO HB.out (Nat.le_refl _) _ _ _ _)
theorem pfindHex (w:World) (s:ByteArray) (e:Nat) (R:FR) (hs:s.size≤2000000000) (hl:2<s.size) (h0:((s[0].toNat:Int)==48)=true)
  (h1:((s[1].toNat:Int)==120)=true∨(((s[1].toNat:Int)==120)=false∧((s[1].toNat:Int)==88)=true)) (he:2<e) (he2:e≤s.size)
  (hrun:PRuns s 0 10 (1:Nat)) (hrun2:PRuns s 2 16 e) (hR:R=some (true, -1,e,2)):Calls Tryz.prog 196 #[.string s,.int .i64 0] w (FindPost w R):=by
 have HB:=Lib.hid (((Below.refl w.heap.size w).alloc (Nat.le_refl _) (.cells #[.bool false,.int .i64 0,.int .i64 0,.int .i64 0] 165)))
 have HRUN:=Lib.hid hrun
 have HRUN2:=Lib.hid hrun2
 have HR:=Lib.hid hR
 clear hrun hrun2 hR
 rcases h1 with h1|⟨h1,h1b⟩
 all_goals
  go_enter Tryz.func196,Tryz.ntmps196
  go_wp2_with fail
  refine(HRUN.out _).mono ?_
  rintro e w' ⟨rfl,rfl⟩
  go_wp2_with fail
  refine(HRUN2.out _).mono ?_
  rintro e w' ⟨rfl,rfl⟩
  go_wp2
  all_goals
   refine bodyPost_ret (by simp[results,Tryz.results196,go_sem];first|done|rfl) rfl ?_
   exact zBm HR.out (by omega) (by omega) (by first|exact(Below.refl _ _).alloc (Nat.le_refl _) _|exact zBO HB.out (Nat.le_refl _) _ _ _ _)
theorem pfind1 (w:World) (s:ByteArray) (r:Nat) (R:FR) (hs:s.size≤2000000000) (hr0:((r:Int)==0)=false) (hr:r≤s.size) (hX:HexNo s r) (hrun:PRuns s 0 10 r) (hD:DotNo s r) (hR:R=some (false, -1,r,0)):Calls Tryz.prog 196 #[.string s,.int .i64 0] w (FindPost w R):=by
 have HB:=Lib.hid (((Below.refl w.heap.size w).alloc (Nat.le_refl _) (.cells #[.bool false,.int .i64 0,.int .i64 0,.int .i64 0] 165)))
 have HRUN:=Lib.hid hrun
 have HR:=Lib.hid hR
 clear hrun hR
 have hone:((r:Int)==1)=true→r=1:=fun h=>by have:=beq_iff_eq.1 h;omega
 rcases hX with hX|⟨hX,g0,hX0|⟨hX0,g1|⟨g1,⟨hX1,hX2⟩|⟨hXr,hXd,hX1|⟨hX1,hX2⟩⟩⟩⟩⟩
 ·clear hone
  rcases hD with hD|⟨hD,hD2|⟨hD2,hD3⟩⟩
  ·skip
   go_enter Tryz.func196,Tryz.ntmps196
   go_wp2_with fail
   refine(HRUN.out _).mono ?_
   rintro e w' ⟨rfl,rfl⟩
   go_wp2
   all_goals
    refine bodyPost_ret (by simp[results,Tryz.results196,go_sem];first|done|rfl) rfl ?_
    exact zBm HR.out (by omega) (by omega) (by first|exact(Below.refl _ _).alloc (Nat.le_refl _) _|exact zBO HB.out (Nat.le_refl _) _ _ _ _)
  ·skip
   go_enter Tryz.func196,Tryz.ntmps196
   go_wp2_with fail
   refine(HRUN.out _).mono ?_
   rintro e w' ⟨rfl,rfl⟩
   go_wp2
   all_goals
    refine bodyPost_ret (by simp[results,Tryz.results196,go_sem];first|done|rfl) rfl ?_
    exact zBm HR.out (by omega) (by omega) (by first|exact(Below.refl _ _).alloc (Nat.le_refl _) _|exact zBO HB.out (Nat.le_refl _) _ _ _ _)
  ·have HRUN1:=Lib.hid hD3
   clear hD3
   go_enter Tryz.func196,Tryz.ntmps196
   go_wp2_with fail
   refine(HRUN.out _).mono ?_
   rintro e w' ⟨rfl,rfl⟩
   go_wp2_with fail
   refine(HRUN1.out _).mono ?_
   rintro e w' ⟨rfl,rfl⟩
   go_wp2
   all_goals
    refine bodyPost_ret (by simp[results,Tryz.results196,go_sem];first|done|rfl) rfl ?_
    exact zBm HR.out (by omega) (by omega) (by first|exact(Below.refl _ _).alloc (Nat.le_refl _) _|exact zBO HB.out (Nat.le_refl _) _ _ _ _)
 all_goals
  have hr1:=hone hX
  clear hone
  subst hr1
 ·rcases hD with hD|⟨hD,hD2|⟨hD2,hD3⟩⟩
  ·skip
   go_enter Tryz.func196,Tryz.ntmps196
   go_wp2_with fail
   refine(HRUN.out _).mono ?_
   rintro e w' ⟨rfl,rfl⟩
   go_wp2
   all_goals
    refine bodyPost_ret (by simp[results,Tryz.results196,go_sem];first|done|rfl) rfl ?_
    exact zBm HR.out (by omega) (by omega) (by first|exact(Below.refl _ _).alloc (Nat.le_refl _) _|exact zBO HB.out (Nat.le_refl _) _ _ _ _)
  ·skip
   go_enter Tryz.func196,Tryz.ntmps196
   go_wp2_with fail
   refine(HRUN.out _).mono ?_
   rintro e w' ⟨rfl,rfl⟩
   go_wp2
   all_goals
    refine bodyPost_ret (by simp[results,Tryz.results196,go_sem];first|done|rfl) rfl ?_
    exact zBm HR.out (by omega) (by omega) (by first|exact(Below.refl _ _).alloc (Nat.le_refl _) _|exact zBO HB.out (Nat.le_refl _) _ _ _ _)
  ·have HRUN1:=Lib.hid hD3
   clear hD3
   go_enter Tryz.func196,Tryz.ntmps196
   go_wp2_with fail
   refine(HRUN.out _).mono ?_
   rintro e w' ⟨rfl,rfl⟩
   go_wp2_with fail
   refine(HRUN1.out _).mono ?_
   rintro e w' ⟨rfl,rfl⟩
   go_wp2
   all_goals
    refine bodyPost_ret (by simp[results,Tryz.results196,go_sem];first|done|rfl) rfl ?_
    exact zBm HR.out (by omega) (by omega) (by first|exact(Below.refl _ _).alloc (Nat.le_refl _) _|exact zBO HB.out (Nat.le_refl _) _ _ _ _)
 ·clear hD
  go_enter Tryz.func196,Tryz.ntmps196
  go_wp2_with fail
  refine(HRUN.out _).mono ?_
  rintro e w' ⟨rfl,rfl⟩
  go_wp2
  all_goals
   refine bodyPost_ret (by simp[results,Tryz.results196,go_sem];first|done|rfl) rfl ?_
   exact zBm HR.out (by omega) (by omega) (by first|exact(Below.refl _ _).alloc (Nat.le_refl _) _|exact zBO HB.out (Nat.le_refl _) _ _ _ _)
 ·rcases hD with hD|⟨hD,hD2|⟨hD2,hD3⟩⟩
  ·exfalso;omega
  ·skip
   go_enter Tryz.func196,Tryz.ntmps196
   go_wp2_with fail
   refine(HRUN.out _).mono ?_
   rintro e w' ⟨rfl,rfl⟩
   go_wp2
   all_goals
    refine bodyPost_ret (by simp[results,Tryz.results196,go_sem];first|done|rfl) rfl ?_
    exact zBm HR.out (by omega) (by omega) (by first|exact(Below.refl _ _).alloc (Nat.le_refl _) _|exact zBO HB.out (Nat.le_refl _) _ _ _ _)
  ·have HRUN1:=Lib.hid hD3
   clear hD3
   go_enter Tryz.func196,Tryz.ntmps196
   go_wp2_with fail
   refine(HRUN.out _).mono ?_
   rintro e w' ⟨rfl,rfl⟩
   go_wp2_with fail
   refine(HRUN1.out _).mono ?_
   rintro e w' ⟨rfl,rfl⟩
   go_wp2
   all_goals
    refine bodyPost_ret (by simp[results,Tryz.results196,go_sem];first|done|rfl) rfl ?_
    exact zBm HR.out (by omega) (by omega) (by first|exact(Below.refl _ _).alloc (Nat.le_refl _) _|exact zBO HB.out (Nat.le_refl _) _ _ _ _)
 all_goals
  clear hD
  have HRUN2:=Lib.hid hXr
  clear hXr
  go_enter Tryz.func196,Tryz.ntmps196
  go_wp2_with fail
  refine(HRUN.out _).mono ?_
  rintro e w' ⟨rfl,rfl⟩
  go_wp2_with fail
  refine(HRUN2.out _).mono ?_
  rintro e w' ⟨rfl,rfl⟩
  go_wp2
  all_goals
   refine bodyPost_ret (by simp[results,Tryz.results196,go_sem];first|done|rfl) rfl ?_
   exact zBm HR.out (by omega) (by omega) (by first|exact(Below.refl _ _).alloc (Nat.le_refl _) _|exact zBO HB.out (Nat.le_refl _) _ _ _ _)
theorem pfind2 (w:World) (s:ByteArray) (r:Nat) (R:FR) (hs:s.size≤2000000000) (hr0:((r:Int)==0)=false) (hr:r≤s.size) (hX:HexNo s r) (hrun:PRuns s 0 10 r) (e:Nat) (hl:r<s.size) (hd:((s[r].toNat:Int)==46)=true) (hrun1:PRuns s ((r:Int)+1) 10 e) (he:r+1<e) (he2:e≤s.size) (hR:R=some (false,((r:Nat):Int),e,0)):Calls Tryz.prog 196 #[.string s,.int .i64 0] w (FindPost w R):=by
 have HB:=Lib.hid (((Below.refl w.heap.size w).alloc (Nat.le_refl _) (.cells #[.bool false,.int .i64 0,.int .i64 0,.int .i64 0] 165)))
 have HRUN:=Lib.hid hrun
 have HR:=Lib.hid hR
 clear hrun hR
 have hone:((r:Int)==1)=true→r=1:=fun h=>by have:=beq_iff_eq.1 h;omega
 have HRUN1:=Lib.hid hrun1
 clear hrun1
 rcases hX with hX|⟨hX,g0,hX0|⟨hX0,g1|⟨g1,⟨hX1,hX2⟩|⟨hXr,hXd,hX1|⟨hX1,hX2⟩⟩⟩⟩⟩
 ·clear hone
  go_enter Tryz.func196,Tryz.ntmps196
  go_wp2_with fail
  refine(HRUN.out _).mono ?_
  rintro e w' ⟨rfl,rfl⟩
  go_wp2_with fail
  refine(HRUN1.out _).mono ?_
  rintro e w' ⟨rfl,rfl⟩
  go_wp2
  all_goals
   refine bodyPost_ret (by simp[results,Tryz.results196,go_sem];first|done|rfl) rfl ?_
   exact zBm HR.out (by omega) (by omega) (by first|exact(Below.refl _ _).alloc (Nat.le_refl _) _|exact zBO HB.out (Nat.le_refl _) _ _ _ _)
 all_goals
  have hr1:=hone hX
  clear hone
  subst hr1
 ·skip
  go_enter Tryz.func196,Tryz.ntmps196
  go_wp2_with fail
  refine(HRUN.out _).mono ?_
  rintro e w' ⟨rfl,rfl⟩
  go_wp2_with fail
  refine(HRUN1.out _).mono ?_
  rintro e w' ⟨rfl,rfl⟩
  go_wp2
  all_goals
   refine bodyPost_ret (by simp[results,Tryz.results196,go_sem];first|done|rfl) rfl ?_
   exact zBm HR.out (by omega) (by omega) (by first|exact(Below.refl _ _).alloc (Nat.le_refl _) _|exact zBO HB.out (Nat.le_refl _) _ _ _ _)
 ·exfalso;omega
 ·skip
  go_enter Tryz.func196,Tryz.ntmps196
  go_wp2_with fail
  refine(HRUN.out _).mono ?_
  rintro e w' ⟨rfl,rfl⟩
  go_wp2_with fail
  refine(HRUN1.out _).mono ?_
  rintro e w' ⟨rfl,rfl⟩
  go_wp2
  all_goals
   refine bodyPost_ret (by simp[results,Tryz.results196,go_sem];first|done|rfl) rfl ?_
   exact zBm HR.out (by omega) (by omega) (by first|exact(Below.refl _ _).alloc (Nat.le_refl _) _|exact zBO HB.out (Nat.le_refl _) _ _ _ _)
 ·exact absurd (hd.symm.trans hXd) (by decide)
 ·exact absurd (hd.symm.trans hXd) (by decide)
theorem pfind_c (w:World) (s:ByteArray) (hs:s.size≤2000000000):Calls Tryz.prog 196 #[.string s,.int .i64 0] w (FindPost w (findN (zAE s))):=by
 obtain⟨R,hR⟩:∃R,R=findN (zAE s):=⟨_,rfl⟩
 rw[←hR]
 unfold findN at hR
 cases hx:zBl (zAE s) with
 |true=>
  rw[hx,if_pos rfl] at hR
  have hr1:=hex_run10 hx
  have hrun:PRuns s 0 10 (1:Nat):=pruns s hs 0 (by omega) 10 (.inl rfl) 1 (by rw[Nat.zero_add];exact hr1)
  have hl:2<s.size:=by
   apply Classical.byContradiction
   intro hc
   rw[hex_short (by omega)] at hx
   cases hx
  rw[hex_long hl,Bool.and_eq_true,Bool.and_eq_true,Bool.or_eq_true,beq_iff_eq,beq_iff_eq,beq_iff_eq] at hx
  obtain⟨⟨h0,h1⟩,h2⟩:=hx
  have hrl:=zCI 16 ((zAE s).drop 2)
  rw[List.length_drop,zAb] at hrl
  have hpos:1≤runN 16 ((zAE s).drop 2):=by
   rw[zAx s 2 hl]
   unfold runN
   rw[if_pos h2]
   omega
  obtain⟨e,he⟩:∃e,2+runN 16 ((zAE s).drop 2)=e:=⟨_,rfl⟩
  rw[he] at hR
  refine pfindHex w s e R hs hl ((zBh s[0] 48).trans (decide_eq_true h0)) ?_ (by omega) (by omega) hrun (pruns s hs 2 (by omega) 16 (.inr rfl) e he) hR
  rcases h1 with h1|h1
  ·exact .inl ((zBh s[1] 120).trans (decide_eq_true h1))
  ·exact .inr ⟨(zBh s[1] 120).trans (decide_eq_false (by omega)),(zBh s[1] 88).trans (decide_eq_true h1)⟩
 |false=>
  rw[hx,if_neg (by decide)] at hR
  have hrl:=zCI 10 (zAE s)
  rw[zAb] at hrl
  obtain⟨r,hr⟩:∃r,runN 10 (zAE s)=r:=⟨_,rfl⟩
  have hrun:PRuns s 0 10 r:=pruns s hs 0 (by omega) 10 (.inl rfl) r (by rw[Nat.zero_add];exact hr)
  rw[hr] at hR hrl
  by_cases h0:r=0
  ·subst h0
   rw[if_pos rfl] at hR
   exact pfind0 w s R hs hrun hR
  ·rw[if_neg h0] at hR
   have hr0:((r:Int)==0)=false:=by rw[beq_eq_false_iff_ne];omega
   by_cases hp:zBT (zAE s) r=0
   ·rw[if_pos hp] at hR
    exact pfind1 w s r R hs hr0 hrl (hex_no hs hrl hx) hrun (dot_no hs hp) hR
   ·rw[if_neg hp] at hR
    obtain⟨hl1,hp1,hp2,hp3⟩:=has_places hp
    rw[hp3] at hR hp
    have hrl1:=zCI 10 ((zAE s).drop (r+1))
    rw[List.length_drop,zAb] at hrl1
    obtain⟨e,he⟩:∃e,r+1+runN 10 ((zAE s).drop (r+1))=e:=⟨_,rfl⟩
    rw[he] at hR
    exact pfind2 w s r R hs hr0 hrl (hex_no hs hrl hx) hrun e (by omega) hp1 (pruns s hs (r+1) (by omega) 10 (.inl rfl) e he) (by omega) (by omega) hR
def CutTo (s p q:ByteArray) (b:Bool) (w:World):Prop:=∀W,W.cell? ⟨0,0,none⟩=w.cell? ⟨0,0,none⟩→Calls Tryz.prog 238 #[.string s,.string ⟨#[47]⟩] W fun e w'=>e= .returned (.tuple #[p,q,.bool b])∧∃n,w'=W.drewN n
theorem cutTo_none {w:World} {s:ByteArray} (hs:s.size≤2000000000) {m:Int} (hm:w.cell? ⟨0,0,none⟩=some (.int .i64 m)) (h:zBL (zAE s)=none):CutTo s s ⟨#[]⟩ false w:=fun W hW=>by
 have:=Tryz.strings_Cut s ⟨#[47]⟩ m W (by omega) (hW.trans hm)
 rw[show(⟨#[47]⟩:ByteArray).data.toList=[47] from rfl,cut_none h] at this
 simpa using this
theorem cutTo_some {w:World} {s:ByteArray} (hs:s.size≤2000000000) {m:Int} (hm:w.cell? ⟨0,0,none⟩=some (.int .i64 m)) {k:Nat} (h:zBL (zAE s)=some k):
  CutTo s ⟨(s.data.toList.take k).toArray⟩ ⟨(s.data.toList.drop (k+1)).toArray⟩ true w:=fun W hW=>by
 have:=Tryz.strings_Cut s ⟨#[47]⟩ m W (by omega) (hW.trans hm)
 rw[show(⟨#[47]⟩:ByteArray).data.toList=[47] from rfl,cut_some h] at this
 exact this
end Go.Proofs.YthkpckgcgkijbaaGreatDoor
