import Derived.Test.YthkpckgcgkijbaaGreatDoorOpCw
import Derived.Test.YthkpckgcgkijbaaGreatDoorNumA
set_option linter.unusedVariables false
set_option linter.unusedSimpArgs false
set_option maxRecDepth 100000
set_option maxHeartbeats 8000000
namespace Go.Proofs.YthkpckgcgkijbaaGreatDoor
open Go.RowKit Go.Proofs.Lexi
theorem pnumber_flat_none (w:World) (s:ByteArray) (hex:Bool) (B:Int) (hB:(hex=true∧B=16)∨(hex=false∧B=10)) (f e:Nat) (hfe:f≤e) (he:e≤s.size) (hs:s.size≤2000000000)
  (hint:∀W,Calls Tryz.prog 236 #[.string (s.extract f e),.int .i64 B] W (OptPost W none)) (R:RR) (hR:R= .error 6):
  Calls Tryz.prog 197 #[.agg #[.bool hex,.int .i64 (-1),.int .i64 (e:Nat),.int .i64 (f:Nat)],s] w (NumPost w R):=by
 have HB:=Lib.hid (zAF w (o4 hex (-1) e f) (o2 0 0))
 have hsl:=zBG s (f:Int) (e:Int) f e rfl rfl hfe he
 have HINT:=Lib.hid hint
 have HR:=Lib.hid hR
 clear hint hR
 rcases hB with⟨rfl,rfl⟩|⟨rfl,rfl⟩
 all_goals
  go_enter Tryz.func197,Tryz.ntmps197
  go_wp2
  refine zAK mixed (by kernel_rfl) ?_
  go_wp2
  refine⟨by kernel_rfl,?_⟩
  go_wp2_with fail
  refine(HINT.out _).mono ?_
  rintro e w1 ⟨rfl,rfl⟩
  go_wp2
  refine bodyPost_ret (by simp[results,Tryz.results197,go_sem];first|done|rfl) rfl ?_
  exact zAV HR.out HB.out.drew
theorem pnumber_flat_some (w:World) (s:ByteArray) (hex:Bool) (B:Int) (hB:(hex=true∧B=16)∨(hex=false∧B=10)) (f e:Nat) (hfe:f≤e) (he:e≤s.size) (hs:s.size≤2000000000) (n:Nat)
  (hint:∀W,Calls Tryz.prog 236 #[.string (s.extract f e),.int .i64 B] W (OptPost W (some n))) (R:RR) (hR:R=makeN (numV (some n)) 1):
  Calls Tryz.prog 197 #[.agg #[.bool hex,.int .i64 (-1),.int .i64 (e:Nat),.int .i64 (f:Nat)],s] w (NumPost w R):=by
 have HB:=Lib.hid (zAF w (o4 hex (-1) e f) (o2 0 0))
 have hsl:=zBG s (f:Int) (e:Int) f e rfl rfl hfe he
 have HINT:=Lib.hid hint
 have hways:=mk_ways (by decide) hR
 clear hint hR
 rcases hB with⟨rfl,rfl⟩|⟨rfl,rfl⟩<;>rcases hways with⟨hE,hR⟩|⟨hE,hR⟩
 all_goals
  have HR:=Lib.hid hR
  clear hR
  go_enter Tryz.func197,Tryz.ntmps197
  go_wp2
  refine zAK mixed (by kernel_rfl) ?_
  go_wp2
  refine⟨by kernel_rfl,?_⟩
  go_wp2_with fail
  refine(HINT.out _).mono ?_
  rintro e w1 ⟨rfl,rfl⟩
  go_wp2_with fail
  refine(rmake_c _ _ _).mono ?_
  rintro e w2 ⟨rfl,hb⟩
  have hz:=hb.size
  simp at hz
  obtain⟨hc,hf⟩:=bcell hb
  have c0:(w2.alloc (.cells #[.int .i64 (nP (makeN (numV (some n)) 1)),.int .i64 (nQ (makeN (numV (some n)) 1))] 23)).cell? ⟨w.heap.size+1,0,none⟩=some (.int .i64 0):=(zAG (by omega)).trans ((hc _ _ (by simp)).trans (by simp[go_sem]))
  have c1:(w2.alloc (.cells #[.int .i64 (nP (makeN (numV (some n)) 1)),.int .i64 (nQ (makeN (numV (some n)) 1))] 23)).cell? ⟨w.heap.size+1,1,none⟩=some (.int .i64 0):=(zAG (by omega)).trans ((hc _ _ (by simp)).trans (by simp[go_sem]))
  have f0:(w2.alloc (.cells #[.int .i64 (nP (makeN (numV (some n)) 1)),.int .i64 (nQ (makeN (numV (some n)) 1))] 23)).frozen? ⟨w.heap.size+1,0,none⟩=false:=(zAJ (by omega)).trans ((hf _ _ (by simp)).trans (by simp[go_sem]))
  have f1:(w2.alloc (.cells #[.int .i64 (nP (makeN (numV (some n)) 1)),.int .i64 (nQ (makeN (numV (some n)) 1))] 23)).frozen? ⟨w.heap.size+1,1,none⟩=false:=(zAJ (by omega)).trans ((hf _ _ (by simp)).trans (by simp[go_sem]))
  have HB2:=Lib.hid ((zAC (below_drewN HB.out _) hb).alloc (by omega) (.cells #[.int .i64 (nP (makeN (numV (some n)) 1)),.int .i64 (nQ (makeN (numV (some n)) 1))] 23))
  clear hb hc hf
  go_wp2
  refine bodyPost_ret (by simp[results,Tryz.results197,go_sem,c0,c1];first|done|rfl) rfl ?_
  first
  |exact zAV HR.out (zAD HB2.out (by omega) _ _)
  |exact num_ok0 HR.out.1 HR.out.2 (zAD HB2.out (by omega) _ _)
theorem pnumber_long (w:World) (s:ByteArray) (r e:Nat) (hre:r+1≤e) (he:e≤s.size) (hs:s.size≤2000000000) (hP:9<e-(r+1)) (R:RR) (hR:R= .error 6):
  Calls Tryz.prog 197 #[.agg #[.bool false,.int .i64 (r:Nat),.int .i64 (e:Nat),.int .i64 0],s] w (NumPost w R):=by
 have HB:=Lib.hid (zAF w (o4 false r e 0) (o2 0 0))
 have hsl:=zBG s 0 (e:Int) 0 e rfl rfl (by omega) he
 have hsl2:=zBG s ((r:Int)+1) (e:Int) (r+1) e (by omega) rfl hre he
 have hz:(s.extract (r+1) e).size=e-(r+1):=by rw[ByteArray.size_extract];omega
 have hz9:9<(s.extract (r+1) e).size:=by omega
 have HR:=Lib.hid hR
 clear hR hz
 go_enter Tryz.func197,Tryz.ntmps197
 go_wp2
 refine zAK mixed (by kernel_rfl) ?_
 go_wp2
 refine⟨by kernel_rfl,?_⟩
 go_wp2
 refine bodyPost_ret (by simp[results,Tryz.results197,go_sem];first|done|rfl) rfl ?_
 exact zAV HR.out HB.out.drew
theorem pnumber_places (w:World) (s X:ByteArray) (r e P:Nat) (hre:r+1≤e) (he:e≤s.size) (hs:s.size≤2000000000) (hPe:P=e-(r+1)) (hP:P≤9)
  (had:∀W,(Op.stringOp .add (s.extract 0 r) (s.extract (r+1) e)).run Tryz.prog W= .ok (.string X) W) (A:Option Nat)
  (hint:∀W,Calls Tryz.prog 236 #[.string X,.int .i64 10] W (OptPost W A)) (R:RR) (hR:R=mkR A ((10^P:Nat):Int)):
  Calls Tryz.prog 197 #[.agg #[.bool false,.int .i64 (r:Nat),.int .i64 (e:Nat),.int .i64 0],s] w (NumPost w R):=by
 have HB:=Lib.hid (zAF w (o4 false r e 0) (o2 0 0))
 have hsl:=zBG s 0 (e:Int) 0 e rfl rfl (by omega) he
 have hsl2:=zBG s ((r:Int)+1) (e:Int) (r+1) e (by omega) rfl hre he
 have hsl3:=zBG s 0 (r:Int) 0 r rfl rfl (by omega) (by omega)
 obtain⟨Y,hY⟩:∃Y,Y=s.extract (r+1) e:=⟨_,rfl⟩
 have hz:Y.size=P:=by rw[hY,ByteArray.size_extract];omega
 rw[←hY] at hsl2 had
 have HR:=Lib.hid hR
 have HINT:=Lib.hid hint
 clear hR hint hY hPe
 obtain⟨q,hq⟩:∃q:Int,((10^P:Nat):Int)=q:=⟨_,rfl⟩
 rw[hq] at HR
 have HQ:=Lib.hid hq
 clear hq
 go_enter Tryz.func197,Tryz.ntmps197
 go_wp2
 refine zAK mixed (by kernel_rfl) ?_
 go_wp2
 refine⟨by kernel_rfl,?_⟩
 go_wp2
 go_loopg [8,46] P (fun gg vu vi wr=>∃i u:Nat,gg=P-i∧vu= .int .i64 (u:Int)∧vi= .int .i64 (i:Int)∧wr=((w.alloc (o4 false r e 0)).alloc (o2 0 0)).drew∧i≤P∧u≤1000000000∧Hid (u=10^i))
 case atStart=>exact⟨0,1,rfl,rfl,rfl,rfl,Nat.zero_le _,by decide,Lib.hid rfl⟩
 case round=>
  obtain⟨i,u,rfl,rfl,rfl,rfl,hi,hu,HU⟩:=hrel
  by_cases hlt:i<P
  ·have HN:=Lib.hid (show u*10=10^(i+1) from by rw[HU.out,Nat.pow_succ])
   have hp2:u*10≤1000000000:=by rw[HN.out];exact pow10_le (by omega)
   go_wp2
   go_roundg (P-(i+1))
   case measure=>omega
   case rel=>exact⟨i+1,u*10,rfl,(by push_cast;rfl),rfl,rfl,by omega,hp2,HN⟩
  ·have hie:i=P:=by omega
   have HQ2:=Lib.hid (show((u:Nat):Int)=q by rw[HU.out,hie];exact HQ.out)
   have hqp:q≠0:=by rw[←HQ.out];exact pow_ne P
   have HQP:=Lib.hid hqp
   clear hqp hie
   cases A with
   |none=>
    go_wp2_with fail
    refine(HINT.out _).mono ?_
    rintro e w1 ⟨rfl,rfl⟩
    go_wp2
    refine bodyPost_ret (by simp[results,Tryz.results197,go_sem];first|done|rfl) rfl ?_
    exact zAV HR.out HB.out.drew
   |some n=>
    have hways:=mk_ways (n:=numV (some n)) (q:=(u:Int)) (R:=R) (by rw[HQ2.out];exact HQP.out) (by rw[HQ2.out];exact HR.out)
    clear HR
    rcases hways with⟨hE,hR⟩|⟨hE,hR⟩
    all_goals
     have HR:=Lib.hid hR
     clear hR
     go_wp2_with fail
     refine(HINT.out _).mono ?_
     rintro e w1 ⟨rfl,rfl⟩
     go_wp2_with fail
     refine(rmake_c _ _ _).mono ?_
     rintro e w2 ⟨rfl,hb⟩
     have hz:=hb.size
     simp at hz
     obtain⟨hc,hf⟩:=bcell hb
     have c0:(w2.alloc (.cells #[.int .i64 (nP (makeN (numV (some n)) (u:Int))),.int .i64 (nQ (makeN (numV (some n)) (u:Int)))] 23)).cell? ⟨w.heap.size+1,0,none⟩=some (.int .i64 0):=(zAG (by omega)).trans ((hc _ _ (by simp)).trans (by simp[go_sem]))
     have c1:(w2.alloc (.cells #[.int .i64 (nP (makeN (numV (some n)) (u:Int))),.int .i64 (nQ (makeN (numV (some n)) (u:Int)))] 23)).cell? ⟨w.heap.size+1,1,none⟩=some (.int .i64 0):=(zAG (by omega)).trans ((hc _ _ (by simp)).trans (by simp[go_sem]))
     have f0:(w2.alloc (.cells #[.int .i64 (nP (makeN (numV (some n)) (u:Int))),.int .i64 (nQ (makeN (numV (some n)) (u:Int)))] 23)).frozen? ⟨w.heap.size+1,0,none⟩=false:=(zAJ (by omega)).trans ((hf _ _ (by simp)).trans (by simp[go_sem]))
     have f1:(w2.alloc (.cells #[.int .i64 (nP (makeN (numV (some n)) (u:Int))),.int .i64 (nQ (makeN (numV (some n)) (u:Int)))] 23)).frozen? ⟨w.heap.size+1,1,none⟩=false:=(zAJ (by omega)).trans ((hf _ _ (by simp)).trans (by simp[go_sem]))
     have HB2:=Lib.hid ((zAC (below_drewN HB.out _) hb).alloc (by omega) (.cells #[.int .i64 (nP (makeN (numV (some n)) (u:Int))),.int .i64 (nQ (makeN (numV (some n)) (u:Int)))] 23))
     clear hb hc hf
     go_wp2
     refine bodyPost_ret (by simp[results,Tryz.results197,go_sem,c0,c1];first|done|rfl) rfl ?_
     first
     |exact zAV HR.out (zAD HB2.out (by omega) _ _)
     |exact num_ok0 HR.out.1 HR.out.2 (zAD HB2.out (by omega) _ _)
theorem pint_to {base:Nat} (hb:base=10∨base=16) {s:ByteArray} (hs:s.size≤2000000000) (h:AllDig base (zAE s)) (W:World) {A:Option Nat} (hA:numG base (zAE s) 0=A):
  Calls Tryz.prog 236 #[.string s,.int .i64 base] W (OptPost W A):=hA▸pinteger_c W s hs base hb (allDig_at h)
theorem pnumber_c (w:World) (s:ByteArray) (hs:s.size≤2000000000) (hx:Bool) (p:Int) (e f:Nat) (hF:findN (zAE s)=some (hx,p,e,f)):
  Calls Tryz.prog 197 #[.agg #[.bool hx,p,.int .i64 (e:Nat),.int .i64 (f:Nat)],s] w (NumPost w (zAv (zAE s)).2):=by
 unfold findN at hF
 cases hh:zBl (zAE s) with
 |true=>
  rw[hh,if_pos rfl] at hF
  injection hF with hF
  simp only[Prod.mk.injEq] at hF
  obtain⟨rfl,rfl,rfl,rfl⟩:=hF
  rw[numeral_hex hh]
  have hrl:=zCI 16 ((zAE s).drop 2)
  rw[List.length_drop,zAb] at hrl
  have h2:2<s.size:=by
   apply Classical.byContradiction
   intro hc
   rw[hex_short (by omega)] at hh
   cases hh
  obtain⟨j,hj⟩:∃j,2+runN 16 ((zAE s).drop 2)=j:=⟨_,rfl⟩
  have hbx:zAE (s.extract 2 j)=((zAE s).drop 2).take (runN 16 ((zAE s).drop 2)):=by rw[zBQ,←hj,Nat.add_sub_cancel_left]
  have had:AllDig 16 (zAE (s.extract 2 j)):=by rw[hbx];exact run_take 16 _
  have hz:(s.extract 2 j).size≤2000000000:=by rw[ByteArray.size_extract];omega
  rw[hj,←hbx]
  show Calls _ _ _ _ (NumPost w (hexN (zAE (s.extract 2 j))))
  obtain⟨A,hA⟩:∃A,numG 16 (zAE (s.extract 2 j)) 0=A:=⟨_,rfl⟩
  have hint:∀W,Calls Tryz.prog 236 #[.string (s.extract 2 j),.int .i64 16] W (OptPost W A):=fun W=>pint_to (.inr rfl) hz had W hA
  unfold hexN
  rw[hA]
  cases A with
  |none=>exact pnumber_flat_none w s true 16 (.inl ⟨rfl,rfl⟩) 2 j (by omega) (by omega) hs hint _ rfl
  |some n=>exact pnumber_flat_some w s true 16 (.inl ⟨rfl,rfl⟩) 2 j (by omega) (by omega) hs n hint _ rfl
 |false=>
  rw[hh,if_neg (by decide)] at hF
  rw[numeral_dec hh]
  have hrl:=zCI 10 (zAE s)
  rw[zAb] at hrl
  have hdig:=run_take 10 (zAE s)
  obtain⟨r,hr⟩:∃r,runN 10 (zAE s)=r:=⟨_,rfl⟩
  rw[hr] at hF hrl hdig ⊢
  by_cases h0:r=0
  ·rw[if_pos h0] at hF;cases hF
  ·rw[if_neg h0] at hF ⊢
   have hbx:zAE (s.extract 0 r)=(zAE s).take r:=bytes_to s r
   have hz:(s.extract 0 r).size≤2000000000:=by rw[size_to s hrl];omega
   rw[←hbx] at hdig
   by_cases hp:zBT (zAE s) r=0
   ·rw[if_pos hp] at hF ⊢
    injection hF with hF
    simp only[Prod.mk.injEq] at hF
    obtain⟨rfl,rfl,rfl,rfl⟩:=hF
    rw[←hbx]
    show Calls _ _ _ _ (NumPost w (decN (zAE (s.extract 0 r)) 0))
    obtain⟨A,hA⟩:∃A,numG 10 (zAE (s.extract 0 r)) 0=A:=⟨_,rfl⟩
    have hint:∀W,Calls Tryz.prog 236 #[.string (s.extract 0 r),.int .i64 10] W (OptPost W A):=fun W=>pint_to (.inl rfl) hz hdig W hA
    unfold decN
    rw[hA]
    cases A with
    |none=>exact pnumber_flat_none w s false 10 (.inr ⟨rfl,rfl⟩) 0 r (by omega) (by omega) hs hint _ rfl
    |some n=>exact pnumber_flat_some w s false 10 (.inr ⟨rfl,rfl⟩) 0 r (by omega) (by omega) hs n hint _ rfl
   ·rw[if_neg hp] at hF ⊢
    obtain⟨hl1,hp1,hp2,hp3⟩:=has_places hp
    injection hF with hF
    simp only[Prod.mk.injEq] at hF
    obtain⟨rfl,rfl,rfl,rfl⟩:=hF
    rw[hp3]
    have hrl1:=zCI 10 ((zAE s).drop (r+1))
    rw[List.length_drop,zAb] at hrl1
    have hdig2:=run_take 10 ((zAE s).drop (r+1))
    obtain⟨P,hP⟩:∃P,runN 10 ((zAE s).drop (r+1))=P:=⟨_,rfl⟩
    rw[hP] at hrl1 hdig2 ⊢
    obtain⟨e,he⟩:∃e,r+1+P=e:=⟨_,rfl⟩
    rw[he]
    have hby:zAE (s.extract (r+1) e)=((zAE s).drop (r+1)).take P:=by rw[zBQ,←he,Nat.add_sub_cancel_left]
    have hyz:(s.extract (r+1) e).size=P:=by rw[ByteArray.size_extract];omega
    have had:=add_run (s.extract 0 r) (s.extract (r+1) e) (by rw[size_to s hrl];omega)
    rw[←hby] at hdig2
    rw[←hbx,←hby,←bytesOf_append]
    have hXz:(s.extract 0 r++s.extract (r+1) e).size≤2000000000:=by rw[ByteArray.size_append,size_to s hrl];omega
    have hXd:AllDig 10 (zAE (s.extract 0 r++s.extract (r+1) e)):=by
     rw[bytesOf_append]
     intro c hc
     rcases List.mem_append.1 hc with hc|hc
     ·exact hdig c hc
     ·exact hdig2 c hc
    show Calls _ _ _ _ (NumPost w (decN (zAE (s.extract 0 r++s.extract (r+1) e)) P))
    obtain⟨A,hA⟩:∃A,numG 10 (zAE (s.extract 0 r++s.extract (r+1) e)) 0=A:=⟨_,rfl⟩
    unfold decN
    rw[hA]
    by_cases h9:9<P
    ·have hR:(match A with|none=>(.error 6:RR)|some n=>if 9<P then .error 6 else makeN n ((10:Nat)^P:Nat))= .error 6:=by
      cases A with
      |none=>rfl
      |some n=>exact if_pos h9
     exact pnumber_long w s r e (by omega) (by omega) hs (by omega) _ hR
    ·have hR:=dec_mk A h9
     exact pnumber_places w s _ r e P (by omega) (by omega) hs (by omega) (by omega) had A (fun W=>pint_to (.inl rfl) hXz hXd W hA) _ hR
def FormWays (p q:ByteArray):Prop:=
 p.toList.isEmpty=true∨(p.toList.isEmpty=false∧q.toList.isEmpty=true∧(p.toList.isEmpty||q.toList.isEmpty)=true)∨
 (p.toList.isEmpty=false∧q.toList.isEmpty=false∧(p.toList.isEmpty||q.toList.isEmpty)=false∧∃a:Nat,PRuns p 0 10 a∧((a:Int) !=(p.size:Int))=true)∨
 (p.toList.isEmpty=false∧q.toList.isEmpty=false∧(p.toList.isEmpty||q.toList.isEmpty)=false∧(∃a:Nat,PRuns p 0 10 a∧((a:Int) !=(p.size:Int))=false)∧∃a:Nat,PRuns q 0 10 a∧((a:Int) !=(q.size:Int))=true)
theorem pfrac_form (w:World) (s p q:ByteArray) (b:Bool) (R:RR) (hcut:CutTo s p q b w) (h00:0<w.heap.size)
  (hw:b=false∨(b=true∧FormWays p q))
  (hps:p.size≤2000000000) (hqs:q.size≤2000000000) (hR:R= .error 4):
  Calls Tryz.prog 198 #[.string s] w (NumPost w R):=by
 have HB:=Lib.hid (((Below.refl w.heap.size w).alloc (Nat.le_refl _) (o2 0 0)))
 have HCUT:=Lib.hid (hcut (w.alloc (o2 0 0)) (zAG h00))
 have HR:=Lib.hid hR
 clear hcut hR
 rcases hw with rfl|⟨rfl,hp|⟨hp,hq,hpq⟩|⟨hp,hq,hpq,a,ha,hae⟩|⟨hp,hq,hpq,⟨a,ha,hae⟩,a2,ha2,hae2⟩⟩
 ·go_enter Tryz.func198,Tryz.ntmps198
  go_wp2_with fail
  refine HCUT.out.mono ?_
  rintro e w1 ⟨rfl,n,rfl⟩
  go_wp2
  refine bodyPost_ret (by simp[results,Tryz.results198,go_sem];first|done|rfl) rfl ?_
  exact zAV HR.out (by first|exact HB.out|exact HB.out.drew|exact below_drewN HB.out _|exact zAD HB.out (by simp<;>omega) _ _|exact zAD HB.out (Nat.le_refl _) _ _|exact zAD HB.out.drew (by simp<;>omega) _ _|exact zAD HB.out.drew (Nat.le_refl _) _ _|exact zAD (below_drewN HB.out _) (by simp<;>omega) _ _)
 ·go_enter Tryz.func198,Tryz.ntmps198
  go_wp2_with fail
  refine HCUT.out.mono ?_
  rintro e w1 ⟨rfl,n,rfl⟩
  go_wp2
  refine bodyPost_ret (by simp[results,Tryz.results198,go_sem];first|done|rfl) rfl ?_
  exact zAV HR.out (by first|exact HB.out|exact HB.out.drew|exact below_drewN HB.out _|exact zAD HB.out (by simp<;>omega) _ _|exact zAD HB.out (Nat.le_refl _) _ _|exact zAD HB.out.drew (by simp<;>omega) _ _|exact zAD HB.out.drew (Nat.le_refl _) _ _|exact zAD (below_drewN HB.out _) (by simp<;>omega) _ _)
 ·go_enter Tryz.func198,Tryz.ntmps198
  go_wp2_with fail
  refine HCUT.out.mono ?_
  rintro e w1 ⟨rfl,n,rfl⟩
  go_wp2
  refine bodyPost_ret (by simp[results,Tryz.results198,go_sem];first|done|rfl) rfl ?_
  exact zAV HR.out (by first|exact HB.out|exact HB.out.drew|exact below_drewN HB.out _|exact zAD HB.out (by simp<;>omega) _ _|exact zAD HB.out (Nat.le_refl _) _ _|exact zAD HB.out.drew (by simp<;>omega) _ _|exact zAD HB.out.drew (Nat.le_refl _) _ _|exact zAD (below_drewN HB.out _) (by simp<;>omega) _ _)
 ·have HA:=Lib.hid ha
  clear ha
  go_enter Tryz.func198,Tryz.ntmps198
  go_wp2_with fail
  refine HCUT.out.mono ?_
  rintro e w1 ⟨rfl,n,rfl⟩
  go_wp2_with fail
  refine(HA.out _).mono ?_
  rintro e w1 ⟨rfl,rfl⟩
  go_wp2
  refine bodyPost_ret (by simp[results,Tryz.results198,go_sem];first|done|rfl) rfl ?_
  exact zAV HR.out (by first|exact HB.out|exact HB.out.drew|exact below_drewN HB.out _|exact zAD HB.out (by simp<;>omega) _ _|exact zAD HB.out (Nat.le_refl _) _ _|exact zAD HB.out.drew (by simp<;>omega) _ _|exact zAD HB.out.drew (Nat.le_refl _) _ _|exact zAD (below_drewN HB.out _) (by simp<;>omega) _ _)
 ·have HA:=Lib.hid ha
  have HA2:=Lib.hid ha2
  clear ha ha2
  go_enter Tryz.func198,Tryz.ntmps198
  go_wp2_with fail
  refine HCUT.out.mono ?_
  rintro e w1 ⟨rfl,n,rfl⟩
  go_wp2_with fail
  refine(HA.out _).mono ?_
  rintro e w1 ⟨rfl,rfl⟩
  go_wp2_with fail
  refine(HA2.out _).mono ?_
  rintro e w1 ⟨rfl,rfl⟩
  go_wp2
  refine bodyPost_ret (by simp[results,Tryz.results198,go_sem];first|done|rfl) rfl ?_
  exact zAV HR.out (by first|exact HB.out|exact HB.out.drew|exact below_drewN HB.out _|exact zAD HB.out (by simp<;>omega) _ _|exact zAD HB.out (Nat.le_refl _) _ _|exact zAD HB.out.drew (by simp<;>omega) _ _|exact zAD HB.out.drew (Nat.le_refl _) _ _|exact zAD (below_drewN HB.out _) (by simp<;>omega) _ _)
def IntTo (s:ByteArray) (A:Option Nat):Prop:=∀W,Calls Tryz.prog 236 #[.string s,.int .i64 10] W (OptPost W A)
theorem pfrac_frac (w:World) (s p q:ByteArray) (A B:Option Nat) (R:RR) (hcut:CutTo s p q true w) (h00:0<w.heap.size)
  (hp:p.toList.isEmpty=false) (hq:q.toList.isEmpty=false) (hpq:(p.toList.isEmpty||q.toList.isEmpty)=false) (a a2:Nat) (ha:PRuns p 0 10 a) (hae:((a:Int) !=(p.size:Int))=false) (ha2:PRuns q 0 10 a2) (hae2:((a2:Int) !=(q.size:Int))=false)
  (hps:p.size≤2000000000) (hqs:q.size≤2000000000) (hA:IntTo p A) (hB:IntTo q B)
  (hR:(R= .error 6∧(A=none∨∃x,A=some x∧B=none))∨∃x y,A=some x∧B=some y∧(R= .error 6∧((((nE (makeN (numV (some x)) (numV (some y))):Nat):Int) !=0)=true)∨((((nE (makeN (numV (some x)) (numV (some y))):Nat):Int) !=0)=false∧R=makeN (numV (some x)) (numV (some y))∧nE R=0))):
  Calls Tryz.prog 198 #[.string s] w (NumPost w R):=by
 have HB:=Lib.hid (((Below.refl w.heap.size w).alloc (Nat.le_refl _) (o2 0 0)))
 have HCUT:=Lib.hid (hcut (w.alloc (o2 0 0)) (zAG h00))
 have HA:=Lib.hid ha
 have HA2:=Lib.hid ha2
 have HI:=Lib.hid hA
 have HI2:=Lib.hid hB
 clear hcut ha ha2 hA hB
 rcases hR with⟨hR,rfl|⟨x,rfl,rfl⟩⟩|⟨x,y,rfl,rfl,⟨hR,hE⟩|⟨hE,hR⟩⟩
 all_goals
  have HR:=Lib.hid hR
  clear hR
  go_enter Tryz.func198,Tryz.ntmps198
  go_wp2_with fail
  refine HCUT.out.mono ?_
  rintro e w1 ⟨rfl,n,rfl⟩
  go_wp2_with fail
  refine(HA.out _).mono ?_
  rintro e w1 ⟨rfl,rfl⟩
  go_wp2_with fail
  refine(HA2.out _).mono ?_
  rintro e w1 ⟨rfl,rfl⟩
  go_wp2_with fail
  refine(HI.out _).mono ?_
  rintro e w1 ⟨rfl,rfl⟩
  go_wp2_with fail
  refine(HI2.out _).mono ?_
  rintro e w1 ⟨rfl,rfl⟩
  go_wp2_with fail
 ·refine bodyPost_ret (by simp[results,Tryz.results198,go_sem];first|done|rfl) rfl ?_
  exact zAV HR.out (by first|exact HB.out|exact HB.out.drew|exact below_drewN HB.out _|exact zAD HB.out (by simp<;>omega) _ _|exact zAD HB.out (Nat.le_refl _) _ _|exact zAD HB.out.drew (by simp<;>omega) _ _|exact zAD HB.out.drew (Nat.le_refl _) _ _|exact zAD (below_drewN HB.out _) (by simp<;>omega) _ _)
 ·refine bodyPost_ret (by simp[results,Tryz.results198,go_sem];first|done|rfl) rfl ?_
  exact zAV HR.out (by first|exact HB.out|exact HB.out.drew|exact below_drewN HB.out _|exact zAD HB.out (by simp<;>omega) _ _|exact zAD HB.out (Nat.le_refl _) _ _|exact zAD HB.out.drew (by simp<;>omega) _ _|exact zAD HB.out.drew (Nat.le_refl _) _ _|exact zAD (below_drewN HB.out _) (by simp<;>omega) _ _)
 all_goals
  refine(rmake_c _ _ _).mono ?_
  rintro e w2 ⟨rfl,hb⟩
  have hz:=hb.size
  simp at hz
  obtain⟨hc,hf⟩:=bcell hb
  have c0:∀x y,(w2.alloc (.cells #[x,y] 23)).cell? ⟨w.heap.size,0,none⟩=some (.int .i64 0):=fun x y=>(zAG (by omega)).trans ((hc _ _ (by simp)).trans (by simp[go_sem]))
  have c1:∀x y,(w2.alloc (.cells #[x,y] 23)).cell? ⟨w.heap.size,1,none⟩=some (.int .i64 0):=fun x y=>(zAG (by omega)).trans ((hc _ _ (by simp)).trans (by simp[go_sem]))
  have f0:∀x y,(w2.alloc (.cells #[x,y] 23)).frozen? ⟨w.heap.size,0,none⟩=false:=fun x y=>(zAJ (by omega)).trans ((hf _ _ (by simp)).trans (by simp[go_sem]))
  have f1:∀x y,(w2.alloc (.cells #[x,y] 23)).frozen? ⟨w.heap.size,1,none⟩=false:=fun x y=>(zAJ (by omega)).trans ((hf _ _ (by simp)).trans (by simp[go_sem]))
  have HB2:=fun x y=>Lib.hid ((zAC (below_drewN HB.out _) hb).alloc (by omega) (.cells #[x,y] 23))
  clear hb hc hf
  go_wp2
  refine bodyPost_ret (by simp[results,Tryz.results198,go_sem,c0,c1];first|done|rfl) rfl ?_
  first
  |exact zAV HR.out (zAD (HB2 _ _).out (Nat.le_refl _) _ _)
  |exact num_ok0 HR.out.1 HR.out.2 (zAD (HB2 _ _).out (Nat.le_refl _) _ _)
theorem digits_false {p:ByteArray} (hs:p.size≤2000000000) (h:zCD (zAE p)=false):p.toList.isEmpty=true∨(p.toList.isEmpty=false∧∃a:Nat,PRuns p 0 10 a∧((a:Int) !=(p.size:Int))=true):=by
 by_cases h0:p.size=0
 ·exact .inl (emp_true h0)
 ·refine .inr ⟨emp_false (by omega),runN 10 (zAE p),pruns p hs 0 (by omega) 10 (.inl rfl) _ (by rw[Nat.zero_add];rfl),?_⟩
  rw[digits_run (by omega)] at h
  have:=of_decide_eq_false h
  rw[bne_iff_ne]
  omega
theorem digits_true {p:ByteArray} (hs:p.size≤2000000000) (h:zCD (zAE p)=true):p.toList.isEmpty=false∧(∃a:Nat,PRuns p 0 10 a∧((a:Int) !=(p.size:Int))=false)∧AllDig 10 (zAE p):=by
 by_cases h0:p.size=0
 ·rw[digits_nil h0] at h;cases h
 ·rw[digits_run (by omega)] at h
  have h:=of_decide_eq_true h
  refine⟨emp_false (by omega),⟨runN 10 (zAE p),pruns p hs 0 (by omega) 10 (.inl rfl) _ (by rw[Nat.zero_add];rfl),?_⟩,?_⟩
  ·rw[bne_eq_false_iff_eq]
   omega
  ·have:=run_take 10 (zAE p)
   rw[h,List.take_of_length_le (by rw[zAb];exact Nat.le_refl _)] at this
   exact this
theorem pfrac_c (w:World) (s:ByteArray) (hs:s.size≤2000000000) (m:Int) (hm:w.cell? ⟨0,0,none⟩=some (.int .i64 m)):
  Calls Tryz.prog 198 #[.string s] w (NumPost w (fracN (zAE s))):=by
 have h00:0<w.heap.size:=World.block_lt_of_cell? _ _ hm
 obtain⟨R,hR⟩:∃R,R=fracN (zAE s):=⟨_,rfl⟩
 rw[←hR]
 unfold fracN at hR
 cases hk:zBL (zAE s) with
 |none=>
  rw[hk] at hR
  exact pfrac_form w s s ⟨#[]⟩ false R (cutTo_none hs hm hk) h00 (.inl rfl) hs (by decide) hR
 |some k=>
  rw[hk] at hR
  have hR:R=zBy ((zAE s).take k) ((zAE s).drop (k+1)):=hR
  have hcut:=cutTo_some hs hm hk
  obtain⟨p,hp⟩:∃p:ByteArray,p=⟨(s.data.toList.take k).toArray⟩:=⟨_,rfl⟩
  obtain⟨q,hq⟩:∃q:ByteArray,q=⟨(s.data.toList.drop (k+1)).toArray⟩:=⟨_,rfl⟩
  have hbp:zAE p=(zAE s).take k:=by rw[hp,bytes_list,List.map_take];rfl
  have hbq:zAE q=(zAE s).drop (k+1):=by rw[hq,bytes_list,List.map_drop];rfl
  rw[←hp,←hq] at hcut
  have zp:p.size≤2000000000:=by rw[←zAb,hbp,List.length_take,zAb];omega
  have zq:q.size≤2000000000:=by rw[←zAb,hbq,List.length_drop,zAb];omega
  rw[←hbp,←hbq] at hR
  unfold zBy at hR
  cases d1:zCD (zAE p) with
  |false=>
   rw[d1,Bool.false_and,if_neg (by decide)] at hR
   refine pfrac_form w s p q true R hcut h00 (.inr ⟨rfl,?_⟩) zp zq hR
   rcases digits_false zp d1 with h|⟨h,h2⟩
   ·exact .inl h
   ·cases hqe:q.toList.isEmpty with
    |true=>exact .inr (.inl ⟨h,hqe,by rw[h,hqe];rfl⟩)
    |false=>exact .inr (.inr (.inl ⟨h,hqe,by rw[h,hqe];rfl,h2⟩))
  |true=>
   obtain⟨e1,e2,e3⟩:=digits_true zp d1
   cases d2:zCD (zAE q) with
   |false=>
    rw[d1,d2,if_neg (by decide)] at hR
    refine pfrac_form w s p q true R hcut h00 (.inr ⟨rfl,.inr ?_⟩) zp zq hR
    rcases digits_false zq d2 with h|⟨h,h2⟩
    ·exact .inl ⟨e1,h,by rw[e1,h];rfl⟩
    ·exact .inr (.inr ⟨e1,h,by rw[e1,h];rfl,e2,h2⟩)
   |true=>
    obtain⟨f1,f2,f3⟩:=digits_true zq d2
    obtain⟨a,ha,hae⟩:=e2
    obtain⟨a2,ha2,hae2⟩:=f2
    rw[d1,d2,if_pos (by decide)] at hR
    refine pfrac_frac w s p q _ _ R hcut h00 e1 f1 (by rw[e1,f1];rfl) a a2 ha hae ha2 hae2 zp zq (fun W=>pint_to (.inl rfl) zp e3 W rfl) (fun W=>pint_to (.inl rfl) zq f3 W rfl) ?_
    cases hA:numG 10 (zAE p) 0 with
    |none=>rw[hA] at hR;exact .inl ⟨hR,.inl rfl⟩
    |some x=>
     cases hB:numG 10 (zAE q) 0 with
     |none=>rw[hA,hB] at hR;exact .inl ⟨hR,.inr ⟨x,rfl,rfl⟩⟩
     |some y=>
      rw[hA,hB] at hR
      have hR:R=if y=0 then .error 6 else makeN x y:=hR
      refine .inr ⟨x,y,rfl,rfl,?_⟩
      by_cases hy:y=0
      ·subst hy
       exact .inl ⟨hR,by show(((nE (makeN (x:Int) 0):Nat):Int) !=0)=true;unfold makeN;rw[if_pos rfl];rfl⟩
      ·rw[if_neg hy] at hR
       rcases mk_ways (n:=(x:Int)) (q:=(y:Int)) (R:=R) (by omega) hR with h|h
       ·exact .inr h
       ·exact .inl ⟨h.2,h.1⟩
def PreTo (s u:ByteArray) (b:Bool):Prop:=∀W,Calls Tryz.prog 195 #[.string s,.string ⟨#[45]⟩] W fun e w'=>e= .returned (.tuple #[.string u,.bool b])∧w'=W
theorem pre_ways (s:ByteArray) (hs:s.size≤2000000000):∃u b,PreTo s u b∧u.size≤2000000000∧signedG (zAE s)=if b then minusN (zAz (zAE u)) else zAz (zAE u):=by
 have hc:=fun W=>Tryz.strings_CutPrefix s ⟨#[45]⟩ W
 rw[show(⟨#[45]⟩:ByteArray).data.toList=[45] from rfl] at hc
 cases hd:s.data.toList with
 |nil=>
  have hb:zAE s=[]:=by unfold zAE;rw[hd];rfl
  refine⟨s,false,fun W=> ?_,hs,by rw[hb];rfl⟩
  have:=hc W
  rw[hd] at this
  have e:(⟨(Lib.trimPrefix [] [45]).toArray⟩:ByteArray)=s:=zCE (by rw[bytes_list,hb];rfl)
  rw[e] at this
  exact this
 |cons c r=>
  have hb:zAE s=c.toNat::r.map UInt8.toNat:=by unfold zAE;rw[hd];rfl
  have hp:Lib.hasPrefix (c::r) [45]=(45==c):=by unfold Lib.hasPrefix;simp[List.isPrefixOf]
  by_cases h45:c=45
  ·subst h45
   refine⟨⟨r.toArray⟩,true,fun W=> ?_,?_,?_⟩
   ·have:=hc W
    rw[hd] at this
    unfold Lib.trimPrefix at this
    rw[hp] at this
    exact this
   ·have h1:s.size=s.data.toList.length:=rfl
    rw[hd] at h1
    show r.toArray.size≤_
    simp at h1 ⊢
    omega
   ·rw[hb,bytes_list,signed_cons,if_pos (by rfl),if_pos rfl]
  ·have h1:((45:UInt8)==c)=false:=by rw[beq_eq_false_iff_ne];exact fun h=>h45 h.symm
   have h2:c.toNat≠45:=fun h=>h45 (UInt8.toNat_inj.1 h)
   refine⟨s,false,fun W=> ?_,hs,?_⟩
   ·have:=hc W
    rw[hd] at this
    unfold Lib.trimPrefix at this
    rw[hp,h1,if_neg (by decide)] at this
    have e:(⟨(c::r).toArray⟩:ByteArray)=s:=zCE (by rw[bytes_list,hb];rfl)
    rw[e] at this
    exact this
   ·rw[hb,signed_cons,if_neg h2,if_neg (by decide)]
def NumbAt (u:ByteArray) (hx:Bool) (p:Int) (e f:Nat) (M:RR):Prop:=∀W,Calls Tryz.prog 197 #[.agg #[.bool hx,p,.int .i64 (e:Nat),.int .i64 (f:Nat)],u] W (NumPost W M)
def TailWays (u:ByteArray) (M:RR) (w:World):Prop:=∃F:FR,(∀W,Calls Tryz.prog 196 #[.string u,.int .i64 0] W (FindPost W F))∧
 ((F=none∧∀W,W.cell? ⟨0,0,none⟩=w.cell? ⟨0,0,none⟩→Calls Tryz.prog 198 #[.string u] W (NumPost W M))∨
 (∃hx p e f,F=some (hx,p,e,f)∧(((e:Nat):Int)==(u.size:Int))=false∧∀W,W.cell? ⟨0,0,none⟩=w.cell? ⟨0,0,none⟩→Calls Tryz.prog 198 #[.string u] W (NumPost W M))∨
 (∃hx p e f,F=some (hx,p,e,f)∧(((e:Nat):Int)==(u.size:Int))=true∧NumbAt u hx p e f M))
theorem tail_ways (u:ByteArray) (hu:u.size≤2000000000) (w:World) (m:Int) (hm:w.cell? ⟨0,0,none⟩=some (.int .i64 m)):TailWays u (zAz (zAE u)) w:=by
 obtain⟨hs,hn⟩:=find_fst (zAE u)
 refine⟨findN (zAE u),fun W=>pfind_c W u hu,?_⟩
 cases hF:findN (zAE u) with
 |none=>
  refine .inl ⟨rfl,fun W hW=> ?_⟩
  rw[uns_frac (.inl (hn hF))]
  exact pfrac_c W u hu m (hW.trans hm)
 |some x=>
  obtain⟨hx,p,e,f⟩:=x
  obtain⟨h1,h2⟩:=hs _ _ _ _ hF
  by_cases he:e=u.size
  ·refine .inr (.inr ⟨hx,p,e,f,rfl,by rw[beq_iff_eq];omega,fun W=> ?_⟩)
   rw[uns_num (by omega) (by rw[h1,zAb];exact he)]
   exact pnumber_c W u hu hx p e f hF
  ·refine .inr (.inl ⟨hx,p,e,f,rfl,by rw[beq_eq_false_iff_ne];omega,fun W hW=> ?_⟩)
   rw[uns_frac (.inr (by rw[h1,zAb];exact he))]
   exact pfrac_c W u hu m (hW.trans hm)
def PTrimTo (s t:ByteArray):Prop:=∀W,Calls Tryz.prog 194 #[.string s] W (fun e w'=>e= .returned (.string t)∧Below W.heap.size W w')
theorem pparse_errT (w:World) (s t u:ByteArray) (M R:RR) (m:Int) (hus:u.size≤2000000000) (hm:w.cell? ⟨0,0,none⟩=some (.int .i64 m))
  (htrim:PTrimTo s t) (hpre:PreTo t u true) (htw:∀W:World,W.cell? ⟨0,0,none⟩=some (.int .i64 m)→TailWays u M W) (hg:Good M) (hE:((((nE M:Nat):Int) !=0)=true)) (hc:∃c,M= .error c) (hR:R=minusN M):
  Calls Tryz.prog 144 #[.string s] w (NumPost w R):=by
 have h00:0<w.heap.size:=World.block_lt_of_cell? _ _ hm
 have HB:=Lib.hid (((Below.refl w.heap.size w).alloc (Nat.le_refl _) (o2 0 0)))
 have HTRIM:=Lib.hid htrim
 have HR2:=Lib.hid hR
 have HM:=Lib.hid hm
 have HPRE:=Lib.hid hpre
 have HTW:=Lib.hid htw
 have HC:=Lib.hid hc
 have hgb:=good_bounds hg
 obtain⟨g1,g2,g3⟩:=hgb
 clear hR hm htrim hpre htw hc hg
 go_enter Tryz.func144,Tryz.ntmps144
 go_wp2_with fail
 refine(HTRIM.out _).mono ?_
 rintro e w1 ⟨rfl,hb⟩
 have hz1:=hb.size
 simp at hz1
 obtain⟨hc1,hf1⟩:=bcell hb
 have q0:w1.cell? ⟨w.heap.size,0,none⟩=some (.int .i64 0):=(hc1 _ _ (by simp)).trans (by simp[go_sem])
 have q1:w1.cell? ⟨w.heap.size,1,none⟩=some (.int .i64 0):=(hc1 _ _ (by simp)).trans (by simp[go_sem])
 have p0:w1.frozen? ⟨w.heap.size,0,none⟩=false:=(hf1 _ _ (by simp)).trans (by simp[go_sem])
 have p1:w1.frozen? ⟨w.heap.size,1,none⟩=false:=(hf1 _ _ (by simp)).trans (by simp[go_sem])
 have m0:w1.cell? ⟨0,0,none⟩=some (.int .i64 m):=(hc1 _ _ (by simp)).trans ((zAG h00).trans HM.out)
 have HB1:=hbn HB.out hb
 obtain⟨F,hfind,hF⟩:=HTW.out w1 m0
 have HFIND:=Lib.hid hfind
 clear HTRIM hb hc1 hf1 hfind HTW
 go_wp2_with fail
 refine(HPRE.out _).mono ?_
 rintro e w1 ⟨rfl,rfl⟩
 rcases hF with⟨rfl,hcall⟩|⟨hx,p,e,f,rfl,he,hcall⟩|⟨hx,p,e,f,rfl,he,hcall⟩
 ·have HCALL:=Lib.hid hcall
  clear hcall
  go_wp2_with fail
  refine(HFIND.out _).mono ?_
  rintro e w2 ⟨rfl,hb⟩
  have hz2:=hb.size
  obtain⟨hc2,hf2⟩:=bcell hb
  have HB2:=hbn HB1.out hb
  have r0:w2.cell? ⟨w.heap.size,0,none⟩=some (.int .i64 0):=(hc2 _ _ (by omega)).trans q0
  have r1:w2.cell? ⟨w.heap.size,1,none⟩=some (.int .i64 0):=(hc2 _ _ (by omega)).trans q1
  have s0:w2.frozen? ⟨w.heap.size,0,none⟩=false:=(hf2 _ _ (by omega)).trans p0
  have s1:w2.frozen? ⟨w.heap.size,1,none⟩=false:=(hf2 _ _ (by omega)).trans p1
  have M0:=Lib.hid (hc2 0 0 (by omega))
  clear HFIND hb hc2 hf2 q0 q1 p0 p1 m0
  go_wp2_with fail
  refine(HCALL.out _ ((zAG (by simp)).trans ((zAG (by omega)).trans M0.out))).mono ?_
  rintro e w3 ⟨rfl,hb⟩
  have hz3:=hb.size
  simp at hz3
  obtain⟨hc3,hf3⟩:=bcell hb
  have c0:w3.cell? ⟨w.heap.size,0,none⟩=some (.int .i64 0):=(hc3 _ _ (by simp;omega)).trans ((zAG (by simp;omega)).trans ((zAG (by omega)).trans r0))
  have c1:w3.cell? ⟨w.heap.size,1,none⟩=some (.int .i64 0):=(hc3 _ _ (by simp;omega)).trans ((zAG (by simp;omega)).trans ((zAG (by omega)).trans r1))
  have f0:w3.frozen? ⟨w.heap.size,0,none⟩=false:=(hf3 _ _ (by simp;omega)).trans ((zAJ (by simp;omega)).trans ((zAJ (by omega)).trans s0))
  have f1:w3.frozen? ⟨w.heap.size,1,none⟩=false:=(hf3 _ _ (by simp;omega)).trans ((zAJ (by simp;omega)).trans ((zAJ (by omega)).trans s1))
  have d0:w3.cell? ⟨w2.heap.size+1,0,none⟩=some (.int .i64 0):=(hc3 _ _ (by simp)).trans (by simp[go_sem])
  have d1:w3.cell? ⟨w2.heap.size+1,1,none⟩=some (.int .i64 0):=(hc3 _ _ (by simp)).trans (by simp[go_sem])
  have k0:w3.frozen? ⟨w2.heap.size+1,0,none⟩=false:=(hf3 _ _ (by simp)).trans (by simp[go_sem])
  have k1:w3.frozen? ⟨w2.heap.size+1,1,none⟩=false:=(hf3 _ _ (by simp)).trans (by simp[go_sem])
  have HB3:=hbn HB2.out (zAC (zAF _ _ _) hb)
  have hb8:w.heap.size≤w2.heap.size+1:=by omega
  clear hb hc3 hf3 r0 r1 s0 s1
  go_wp2
  refine bodyPost_ret (by simp[results,Tryz.results144,go_sem,c0,c1];first|done|rfl) rfl ?_
  obtain⟨a,ha⟩:=HC.out
  have hR2:=HR2.out
  rw[ha] at hR2
  exact num_errE hR2 ha (zAD (zAD HB3.out hb8 _ _) (Nat.le_refl _) _ _)
 ·have HCALL:=Lib.hid hcall
  clear hcall
  go_wp2_with fail
  refine(HFIND.out _).mono ?_
  rintro e w2 ⟨rfl,hb⟩
  have hz2:=hb.size
  obtain⟨hc2,hf2⟩:=bcell hb
  have HB2:=hbn HB1.out hb
  have r0:w2.cell? ⟨w.heap.size,0,none⟩=some (.int .i64 0):=(hc2 _ _ (by omega)).trans q0
  have r1:w2.cell? ⟨w.heap.size,1,none⟩=some (.int .i64 0):=(hc2 _ _ (by omega)).trans q1
  have s0:w2.frozen? ⟨w.heap.size,0,none⟩=false:=(hf2 _ _ (by omega)).trans p0
  have s1:w2.frozen? ⟨w.heap.size,1,none⟩=false:=(hf2 _ _ (by omega)).trans p1
  have M0:=Lib.hid (hc2 0 0 (by omega))
  clear HFIND hb hc2 hf2 q0 q1 p0 p1 m0
  go_wp2_with fail
  refine(HCALL.out _ ((zAG (by simp)).trans ((zAG (by omega)).trans M0.out))).mono ?_
  rintro e w3 ⟨rfl,hb⟩
  have hz3:=hb.size
  simp at hz3
  obtain⟨hc3,hf3⟩:=bcell hb
  have c0:w3.cell? ⟨w.heap.size,0,none⟩=some (.int .i64 0):=(hc3 _ _ (by simp;omega)).trans ((zAG (by simp;omega)).trans ((zAG (by omega)).trans r0))
  have c1:w3.cell? ⟨w.heap.size,1,none⟩=some (.int .i64 0):=(hc3 _ _ (by simp;omega)).trans ((zAG (by simp;omega)).trans ((zAG (by omega)).trans r1))
  have f0:w3.frozen? ⟨w.heap.size,0,none⟩=false:=(hf3 _ _ (by simp;omega)).trans ((zAJ (by simp;omega)).trans ((zAJ (by omega)).trans s0))
  have f1:w3.frozen? ⟨w.heap.size,1,none⟩=false:=(hf3 _ _ (by simp;omega)).trans ((zAJ (by simp;omega)).trans ((zAJ (by omega)).trans s1))
  have d0:w3.cell? ⟨w2.heap.size+1,0,none⟩=some (.int .i64 0):=(hc3 _ _ (by simp)).trans (by simp[go_sem])
  have d1:w3.cell? ⟨w2.heap.size+1,1,none⟩=some (.int .i64 0):=(hc3 _ _ (by simp)).trans (by simp[go_sem])
  have k0:w3.frozen? ⟨w2.heap.size+1,0,none⟩=false:=(hf3 _ _ (by simp)).trans (by simp[go_sem])
  have k1:w3.frozen? ⟨w2.heap.size+1,1,none⟩=false:=(hf3 _ _ (by simp)).trans (by simp[go_sem])
  have HB3:=hbn HB2.out (zAC (zAF _ _ _) hb)
  have hb8:w.heap.size≤w2.heap.size+1:=by omega
  clear hb hc3 hf3 r0 r1 s0 s1
  go_wp2
  refine bodyPost_ret (by simp[results,Tryz.results144,go_sem,c0,c1];first|done|rfl) rfl ?_
  obtain⟨a,ha⟩:=HC.out
  have hR2:=HR2.out
  rw[ha] at hR2
  exact num_errE hR2 ha (zAD (zAD HB3.out hb8 _ _) (Nat.le_refl _) _ _)
 ·have HCALL:=Lib.hid hcall
  clear hcall
  go_wp2_with fail
  refine(HFIND.out _).mono ?_
  rintro e w2 ⟨rfl,hb⟩
  have hz2:=hb.size
  obtain⟨hc2,hf2⟩:=bcell hb
  have HB2:=hbn HB1.out hb
  have r0:w2.cell? ⟨w.heap.size,0,none⟩=some (.int .i64 0):=(hc2 _ _ (by omega)).trans q0
  have r1:w2.cell? ⟨w.heap.size,1,none⟩=some (.int .i64 0):=(hc2 _ _ (by omega)).trans q1
  have s0:w2.frozen? ⟨w.heap.size,0,none⟩=false:=(hf2 _ _ (by omega)).trans p0
  have s1:w2.frozen? ⟨w.heap.size,1,none⟩=false:=(hf2 _ _ (by omega)).trans p1
  have M0:=Lib.hid (hc2 0 0 (by omega))
  clear HFIND hb hc2 hf2 q0 q1 p0 p1 m0
  go_wp2_with fail
  refine(HCALL.out _).mono ?_
  rintro e w3 ⟨rfl,hb⟩
  have hz3:=hb.size
  simp at hz3
  obtain⟨hc3,hf3⟩:=bcell hb
  have c0:w3.cell? ⟨w.heap.size,0,none⟩=some (.int .i64 0):=(hc3 _ _ (by simp;omega)).trans ((zAG (by simp;omega)).trans ((zAG (by omega)).trans r0))
  have c1:w3.cell? ⟨w.heap.size,1,none⟩=some (.int .i64 0):=(hc3 _ _ (by simp;omega)).trans ((zAG (by simp;omega)).trans ((zAG (by omega)).trans r1))
  have f0:w3.frozen? ⟨w.heap.size,0,none⟩=false:=(hf3 _ _ (by simp;omega)).trans ((zAJ (by simp;omega)).trans ((zAJ (by omega)).trans s0))
  have f1:w3.frozen? ⟨w.heap.size,1,none⟩=false:=(hf3 _ _ (by simp;omega)).trans ((zAJ (by simp;omega)).trans ((zAJ (by omega)).trans s1))
  have d0:w3.cell? ⟨w2.heap.size+1,0,none⟩=some (.int .i64 0):=(hc3 _ _ (by simp)).trans (by simp[go_sem])
  have d1:w3.cell? ⟨w2.heap.size+1,1,none⟩=some (.int .i64 0):=(hc3 _ _ (by simp)).trans (by simp[go_sem])
  have k0:w3.frozen? ⟨w2.heap.size+1,0,none⟩=false:=(hf3 _ _ (by simp)).trans (by simp[go_sem])
  have k1:w3.frozen? ⟨w2.heap.size+1,1,none⟩=false:=(hf3 _ _ (by simp)).trans (by simp[go_sem])
  have HB3:=hbn HB2.out (zAC (zAF _ _ _) hb)
  have hb8:w.heap.size≤w2.heap.size+1:=by omega
  clear hb hc3 hf3 r0 r1 s0 s1
  go_wp2
  refine bodyPost_ret (by simp[results,Tryz.results144,go_sem,c0,c1];first|done|rfl) rfl ?_
  obtain⟨a,ha⟩:=HC.out
  have hR2:=HR2.out
  rw[ha] at hR2
  exact num_errE hR2 ha (zAD (zAD HB3.out hb8 _ _) (Nat.le_refl _) _ _)
theorem pparse_errF (w:World) (s t u:ByteArray) (M R:RR) (m:Int) (hus:u.size≤2000000000) (hm:w.cell? ⟨0,0,none⟩=some (.int .i64 m))
  (htrim:PTrimTo s t) (hpre:PreTo t u false) (htw:∀W:World,W.cell? ⟨0,0,none⟩=some (.int .i64 m)→TailWays u M W) (hg:Good M) (hE:((((nE M:Nat):Int) !=0)=true)) (hc:∃c,M= .error c) (hR:R=M):
  Calls Tryz.prog 144 #[.string s] w (NumPost w R):=by
 have h00:0<w.heap.size:=World.block_lt_of_cell? _ _ hm
 have HB:=Lib.hid (((Below.refl w.heap.size w).alloc (Nat.le_refl _) (o2 0 0)))
 have HTRIM:=Lib.hid htrim
 have HR2:=Lib.hid hR
 have HM:=Lib.hid hm
 have HPRE:=Lib.hid hpre
 have HTW:=Lib.hid htw
 have HC:=Lib.hid hc
 have hgb:=good_bounds hg
 obtain⟨g1,g2,g3⟩:=hgb
 clear hR hm htrim hpre htw hc hg
 go_enter Tryz.func144,Tryz.ntmps144
 go_wp2_with fail
 refine(HTRIM.out _).mono ?_
 rintro e w1 ⟨rfl,hb⟩
 have hz1:=hb.size
 simp at hz1
 obtain⟨hc1,hf1⟩:=bcell hb
 have q0:w1.cell? ⟨w.heap.size,0,none⟩=some (.int .i64 0):=(hc1 _ _ (by simp)).trans (by simp[go_sem])
 have q1:w1.cell? ⟨w.heap.size,1,none⟩=some (.int .i64 0):=(hc1 _ _ (by simp)).trans (by simp[go_sem])
 have p0:w1.frozen? ⟨w.heap.size,0,none⟩=false:=(hf1 _ _ (by simp)).trans (by simp[go_sem])
 have p1:w1.frozen? ⟨w.heap.size,1,none⟩=false:=(hf1 _ _ (by simp)).trans (by simp[go_sem])
 have m0:w1.cell? ⟨0,0,none⟩=some (.int .i64 m):=(hc1 _ _ (by simp)).trans ((zAG h00).trans HM.out)
 have HB1:=hbn HB.out hb
 obtain⟨F,hfind,hF⟩:=HTW.out w1 m0
 have HFIND:=Lib.hid hfind
 clear HTRIM hb hc1 hf1 hfind HTW
 go_wp2_with fail
 refine(HPRE.out _).mono ?_
 rintro e w1 ⟨rfl,rfl⟩
 rcases hF with⟨rfl,hcall⟩|⟨hx,p,e,f,rfl,he,hcall⟩|⟨hx,p,e,f,rfl,he,hcall⟩
 ·have HCALL:=Lib.hid hcall
  clear hcall
  go_wp2_with fail
  refine(HFIND.out _).mono ?_
  rintro e w2 ⟨rfl,hb⟩
  have hz2:=hb.size
  obtain⟨hc2,hf2⟩:=bcell hb
  have HB2:=hbn HB1.out hb
  have r0:w2.cell? ⟨w.heap.size,0,none⟩=some (.int .i64 0):=(hc2 _ _ (by omega)).trans q0
  have r1:w2.cell? ⟨w.heap.size,1,none⟩=some (.int .i64 0):=(hc2 _ _ (by omega)).trans q1
  have s0:w2.frozen? ⟨w.heap.size,0,none⟩=false:=(hf2 _ _ (by omega)).trans p0
  have s1:w2.frozen? ⟨w.heap.size,1,none⟩=false:=(hf2 _ _ (by omega)).trans p1
  have M0:=Lib.hid (hc2 0 0 (by omega))
  clear HFIND hb hc2 hf2 q0 q1 p0 p1 m0
  go_wp2_with fail
  refine(HCALL.out _ ((zAG (by simp)).trans ((zAG (by omega)).trans M0.out))).mono ?_
  rintro e w3 ⟨rfl,hb⟩
  have hz3:=hb.size
  simp at hz3
  obtain⟨hc3,hf3⟩:=bcell hb
  have c0:w3.cell? ⟨w.heap.size,0,none⟩=some (.int .i64 0):=(hc3 _ _ (by simp;omega)).trans ((zAG (by simp;omega)).trans ((zAG (by omega)).trans r0))
  have c1:w3.cell? ⟨w.heap.size,1,none⟩=some (.int .i64 0):=(hc3 _ _ (by simp;omega)).trans ((zAG (by simp;omega)).trans ((zAG (by omega)).trans r1))
  have f0:w3.frozen? ⟨w.heap.size,0,none⟩=false:=(hf3 _ _ (by simp;omega)).trans ((zAJ (by simp;omega)).trans ((zAJ (by omega)).trans s0))
  have f1:w3.frozen? ⟨w.heap.size,1,none⟩=false:=(hf3 _ _ (by simp;omega)).trans ((zAJ (by simp;omega)).trans ((zAJ (by omega)).trans s1))
  have d0:w3.cell? ⟨w2.heap.size+1,0,none⟩=some (.int .i64 0):=(hc3 _ _ (by simp)).trans (by simp[go_sem])
  have d1:w3.cell? ⟨w2.heap.size+1,1,none⟩=some (.int .i64 0):=(hc3 _ _ (by simp)).trans (by simp[go_sem])
  have k0:w3.frozen? ⟨w2.heap.size+1,0,none⟩=false:=(hf3 _ _ (by simp)).trans (by simp[go_sem])
  have k1:w3.frozen? ⟨w2.heap.size+1,1,none⟩=false:=(hf3 _ _ (by simp)).trans (by simp[go_sem])
  have HB3:=hbn HB2.out (zAC (zAF _ _ _) hb)
  have hb8:w.heap.size≤w2.heap.size+1:=by omega
  clear hb hc3 hf3 r0 r1 s0 s1
  go_wp2
  refine bodyPost_ret (by simp[results,Tryz.results144,go_sem,c0,c1];first|done|rfl) rfl ?_
  obtain⟨a,ha⟩:=HC.out
  have hR2:=HR2.out
  rw[ha] at hR2
  exact num_errE hR2 ha (zAD (zAD HB3.out hb8 _ _) (Nat.le_refl _) _ _)
 ·have HCALL:=Lib.hid hcall
  clear hcall
  go_wp2_with fail
  refine(HFIND.out _).mono ?_
  rintro e w2 ⟨rfl,hb⟩
  have hz2:=hb.size
  obtain⟨hc2,hf2⟩:=bcell hb
  have HB2:=hbn HB1.out hb
  have r0:w2.cell? ⟨w.heap.size,0,none⟩=some (.int .i64 0):=(hc2 _ _ (by omega)).trans q0
  have r1:w2.cell? ⟨w.heap.size,1,none⟩=some (.int .i64 0):=(hc2 _ _ (by omega)).trans q1
  have s0:w2.frozen? ⟨w.heap.size,0,none⟩=false:=(hf2 _ _ (by omega)).trans p0
  have s1:w2.frozen? ⟨w.heap.size,1,none⟩=false:=(hf2 _ _ (by omega)).trans p1
  have M0:=Lib.hid (hc2 0 0 (by omega))
  clear HFIND hb hc2 hf2 q0 q1 p0 p1 m0
  go_wp2_with fail
  refine(HCALL.out _ ((zAG (by simp)).trans ((zAG (by omega)).trans M0.out))).mono ?_
  rintro e w3 ⟨rfl,hb⟩
  have hz3:=hb.size
  simp at hz3
  obtain⟨hc3,hf3⟩:=bcell hb
  have c0:w3.cell? ⟨w.heap.size,0,none⟩=some (.int .i64 0):=(hc3 _ _ (by simp;omega)).trans ((zAG (by simp;omega)).trans ((zAG (by omega)).trans r0))
  have c1:w3.cell? ⟨w.heap.size,1,none⟩=some (.int .i64 0):=(hc3 _ _ (by simp;omega)).trans ((zAG (by simp;omega)).trans ((zAG (by omega)).trans r1))
  have f0:w3.frozen? ⟨w.heap.size,0,none⟩=false:=(hf3 _ _ (by simp;omega)).trans ((zAJ (by simp;omega)).trans ((zAJ (by omega)).trans s0))
  have f1:w3.frozen? ⟨w.heap.size,1,none⟩=false:=(hf3 _ _ (by simp;omega)).trans ((zAJ (by simp;omega)).trans ((zAJ (by omega)).trans s1))
  have d0:w3.cell? ⟨w2.heap.size+1,0,none⟩=some (.int .i64 0):=(hc3 _ _ (by simp)).trans (by simp[go_sem])
  have d1:w3.cell? ⟨w2.heap.size+1,1,none⟩=some (.int .i64 0):=(hc3 _ _ (by simp)).trans (by simp[go_sem])
  have k0:w3.frozen? ⟨w2.heap.size+1,0,none⟩=false:=(hf3 _ _ (by simp)).trans (by simp[go_sem])
  have k1:w3.frozen? ⟨w2.heap.size+1,1,none⟩=false:=(hf3 _ _ (by simp)).trans (by simp[go_sem])
  have HB3:=hbn HB2.out (zAC (zAF _ _ _) hb)
  have hb8:w.heap.size≤w2.heap.size+1:=by omega
  clear hb hc3 hf3 r0 r1 s0 s1
  go_wp2
  refine bodyPost_ret (by simp[results,Tryz.results144,go_sem,c0,c1];first|done|rfl) rfl ?_
  obtain⟨a,ha⟩:=HC.out
  have hR2:=HR2.out
  rw[ha] at hR2
  exact num_errE hR2 ha (zAD (zAD HB3.out hb8 _ _) (Nat.le_refl _) _ _)
 ·have HCALL:=Lib.hid hcall
  clear hcall
  go_wp2_with fail
  refine(HFIND.out _).mono ?_
  rintro e w2 ⟨rfl,hb⟩
  have hz2:=hb.size
  obtain⟨hc2,hf2⟩:=bcell hb
  have HB2:=hbn HB1.out hb
  have r0:w2.cell? ⟨w.heap.size,0,none⟩=some (.int .i64 0):=(hc2 _ _ (by omega)).trans q0
  have r1:w2.cell? ⟨w.heap.size,1,none⟩=some (.int .i64 0):=(hc2 _ _ (by omega)).trans q1
  have s0:w2.frozen? ⟨w.heap.size,0,none⟩=false:=(hf2 _ _ (by omega)).trans p0
  have s1:w2.frozen? ⟨w.heap.size,1,none⟩=false:=(hf2 _ _ (by omega)).trans p1
  have M0:=Lib.hid (hc2 0 0 (by omega))
  clear HFIND hb hc2 hf2 q0 q1 p0 p1 m0
  go_wp2_with fail
  refine(HCALL.out _).mono ?_
  rintro e w3 ⟨rfl,hb⟩
  have hz3:=hb.size
  simp at hz3
  obtain⟨hc3,hf3⟩:=bcell hb
  have c0:w3.cell? ⟨w.heap.size,0,none⟩=some (.int .i64 0):=(hc3 _ _ (by simp;omega)).trans ((zAG (by simp;omega)).trans ((zAG (by omega)).trans r0))
  have c1:w3.cell? ⟨w.heap.size,1,none⟩=some (.int .i64 0):=(hc3 _ _ (by simp;omega)).trans ((zAG (by simp;omega)).trans ((zAG (by omega)).trans r1))
  have f0:w3.frozen? ⟨w.heap.size,0,none⟩=false:=(hf3 _ _ (by simp;omega)).trans ((zAJ (by simp;omega)).trans ((zAJ (by omega)).trans s0))
  have f1:w3.frozen? ⟨w.heap.size,1,none⟩=false:=(hf3 _ _ (by simp;omega)).trans ((zAJ (by simp;omega)).trans ((zAJ (by omega)).trans s1))
  have d0:w3.cell? ⟨w2.heap.size+1,0,none⟩=some (.int .i64 0):=(hc3 _ _ (by simp)).trans (by simp[go_sem])
  have d1:w3.cell? ⟨w2.heap.size+1,1,none⟩=some (.int .i64 0):=(hc3 _ _ (by simp)).trans (by simp[go_sem])
  have k0:w3.frozen? ⟨w2.heap.size+1,0,none⟩=false:=(hf3 _ _ (by simp)).trans (by simp[go_sem])
  have k1:w3.frozen? ⟨w2.heap.size+1,1,none⟩=false:=(hf3 _ _ (by simp)).trans (by simp[go_sem])
  have HB3:=hbn HB2.out (zAC (zAF _ _ _) hb)
  have hb8:w.heap.size≤w2.heap.size+1:=by omega
  clear hb hc3 hf3 r0 r1 s0 s1
  go_wp2
  refine bodyPost_ret (by simp[results,Tryz.results144,go_sem,c0,c1];first|done|rfl) rfl ?_
  obtain⟨a,ha⟩:=HC.out
  have hR2:=HR2.out
  rw[ha] at hR2
  exact num_errE hR2 ha (zAD (zAD HB3.out hb8 _ _) (Nat.le_refl _) _ _)
theorem pparse_min (w:World) (s t u:ByteArray) (M R:RR) (m:Int) (hus:u.size≤2000000000) (hm:w.cell? ⟨0,0,none⟩=some (.int .i64 m))
  (htrim:PTrimTo s t) (hpre:PreTo t u true) (htw:∀W:World,W.cell? ⟨0,0,none⟩=some (.int .i64 m)→TailWays u M W) (hg:Good M) (hE:((((nE M:Nat):Int) !=0)=false)) (hc:∃a,M= .ok a) (hR:R=minusN M):
  Calls Tryz.prog 144 #[.string s] w (NumPost w R):=by
 have h00:0<w.heap.size:=World.block_lt_of_cell? _ _ hm
 have HB:=Lib.hid (((Below.refl w.heap.size w).alloc (Nat.le_refl _) (o2 0 0)))
 have HTRIM:=Lib.hid htrim
 have HR2:=Lib.hid hR
 have HM:=Lib.hid hm
 have HPRE:=Lib.hid hpre
 have HTW:=Lib.hid htw
 have HC:=Lib.hid hc
 have hgb:=good_bounds hg
 obtain⟨g1,g2,g3⟩:=hgb
 clear hR hm htrim hpre htw hc hg
 go_enter Tryz.func144,Tryz.ntmps144
 go_wp2_with fail
 refine(HTRIM.out _).mono ?_
 rintro e w1 ⟨rfl,hb⟩
 have hz1:=hb.size
 simp at hz1
 obtain⟨hc1,hf1⟩:=bcell hb
 have q0:w1.cell? ⟨w.heap.size,0,none⟩=some (.int .i64 0):=(hc1 _ _ (by simp)).trans (by simp[go_sem])
 have q1:w1.cell? ⟨w.heap.size,1,none⟩=some (.int .i64 0):=(hc1 _ _ (by simp)).trans (by simp[go_sem])
 have p0:w1.frozen? ⟨w.heap.size,0,none⟩=false:=(hf1 _ _ (by simp)).trans (by simp[go_sem])
 have p1:w1.frozen? ⟨w.heap.size,1,none⟩=false:=(hf1 _ _ (by simp)).trans (by simp[go_sem])
 have m0:w1.cell? ⟨0,0,none⟩=some (.int .i64 m):=(hc1 _ _ (by simp)).trans ((zAG h00).trans HM.out)
 have HB1:=hbn HB.out hb
 obtain⟨F,hfind,hF⟩:=HTW.out w1 m0
 have HFIND:=Lib.hid hfind
 clear HTRIM hb hc1 hf1 hfind HTW
 go_wp2_with fail
 refine(HPRE.out _).mono ?_
 rintro e w1 ⟨rfl,rfl⟩
 rcases hF with⟨rfl,hcall⟩|⟨hx,p,e,f,rfl,he,hcall⟩|⟨hx,p,e,f,rfl,he,hcall⟩
 ·have HCALL:=Lib.hid hcall
  clear hcall
  go_wp2_with fail
  refine(HFIND.out _).mono ?_
  rintro e w2 ⟨rfl,hb⟩
  have hz2:=hb.size
  obtain⟨hc2,hf2⟩:=bcell hb
  have HB2:=hbn HB1.out hb
  have r0:w2.cell? ⟨w.heap.size,0,none⟩=some (.int .i64 0):=(hc2 _ _ (by omega)).trans q0
  have r1:w2.cell? ⟨w.heap.size,1,none⟩=some (.int .i64 0):=(hc2 _ _ (by omega)).trans q1
  have s0:w2.frozen? ⟨w.heap.size,0,none⟩=false:=(hf2 _ _ (by omega)).trans p0
  have s1:w2.frozen? ⟨w.heap.size,1,none⟩=false:=(hf2 _ _ (by omega)).trans p1
  have M0:=Lib.hid (hc2 0 0 (by omega))
  clear HFIND hb hc2 hf2 q0 q1 p0 p1 m0
  go_wp2_with fail
  refine(HCALL.out _ ((zAG (by simp)).trans ((zAG (by omega)).trans M0.out))).mono ?_
  rintro e w3 ⟨rfl,hb⟩
  have hz3:=hb.size
  simp at hz3
  obtain⟨hc3,hf3⟩:=bcell hb
  have c0:w3.cell? ⟨w.heap.size,0,none⟩=some (.int .i64 0):=(hc3 _ _ (by simp;omega)).trans ((zAG (by simp;omega)).trans ((zAG (by omega)).trans r0))
  have c1:w3.cell? ⟨w.heap.size,1,none⟩=some (.int .i64 0):=(hc3 _ _ (by simp;omega)).trans ((zAG (by simp;omega)).trans ((zAG (by omega)).trans r1))
  have f0:w3.frozen? ⟨w.heap.size,0,none⟩=false:=(hf3 _ _ (by simp;omega)).trans ((zAJ (by simp;omega)).trans ((zAJ (by omega)).trans s0))
  have f1:w3.frozen? ⟨w.heap.size,1,none⟩=false:=(hf3 _ _ (by simp;omega)).trans ((zAJ (by simp;omega)).trans ((zAJ (by omega)).trans s1))
  have d0:w3.cell? ⟨w2.heap.size+1,0,none⟩=some (.int .i64 0):=(hc3 _ _ (by simp)).trans (by simp[go_sem])
  have d1:w3.cell? ⟨w2.heap.size+1,1,none⟩=some (.int .i64 0):=(hc3 _ _ (by simp)).trans (by simp[go_sem])
  have k0:w3.frozen? ⟨w2.heap.size+1,0,none⟩=false:=(hf3 _ _ (by simp)).trans (by simp[go_sem])
  have k1:w3.frozen? ⟨w2.heap.size+1,1,none⟩=false:=(hf3 _ _ (by simp)).trans (by simp[go_sem])
  have HB3:=hbn HB2.out (zAC (zAF _ _ _) hb)
  have hb8:w.heap.size≤w2.heap.size+1:=by omega
  clear hb hc3 hf3 r0 r1 s0 s1
  go_wp2
  refine bodyPost_ret (by simp[results,Tryz.results144,go_sem,c0,c1];first|done|rfl) rfl ?_
  obtain⟨a,ha⟩:=HC.out
  have hR2:=HR2.out
  rw[ha] at hR2
  rw[ha];exact zCL hR2 (zAD ((zAD HB3.out hb8 _ _).setCell (p:=⟨w2.heap.size+1,0,none⟩) hb8 _) (Nat.le_refl _) _ _)
 ·have HCALL:=Lib.hid hcall
  clear hcall
  go_wp2_with fail
  refine(HFIND.out _).mono ?_
  rintro e w2 ⟨rfl,hb⟩
  have hz2:=hb.size
  obtain⟨hc2,hf2⟩:=bcell hb
  have HB2:=hbn HB1.out hb
  have r0:w2.cell? ⟨w.heap.size,0,none⟩=some (.int .i64 0):=(hc2 _ _ (by omega)).trans q0
  have r1:w2.cell? ⟨w.heap.size,1,none⟩=some (.int .i64 0):=(hc2 _ _ (by omega)).trans q1
  have s0:w2.frozen? ⟨w.heap.size,0,none⟩=false:=(hf2 _ _ (by omega)).trans p0
  have s1:w2.frozen? ⟨w.heap.size,1,none⟩=false:=(hf2 _ _ (by omega)).trans p1
  have M0:=Lib.hid (hc2 0 0 (by omega))
  clear HFIND hb hc2 hf2 q0 q1 p0 p1 m0
  go_wp2_with fail
  refine(HCALL.out _ ((zAG (by simp)).trans ((zAG (by omega)).trans M0.out))).mono ?_
  rintro e w3 ⟨rfl,hb⟩
  have hz3:=hb.size
  simp at hz3
  obtain⟨hc3,hf3⟩:=bcell hb
  have c0:w3.cell? ⟨w.heap.size,0,none⟩=some (.int .i64 0):=(hc3 _ _ (by simp;omega)).trans ((zAG (by simp;omega)).trans ((zAG (by omega)).trans r0))
  have c1:w3.cell? ⟨w.heap.size,1,none⟩=some (.int .i64 0):=(hc3 _ _ (by simp;omega)).trans ((zAG (by simp;omega)).trans ((zAG (by omega)).trans r1))
  have f0:w3.frozen? ⟨w.heap.size,0,none⟩=false:=(hf3 _ _ (by simp;omega)).trans ((zAJ (by simp;omega)).trans ((zAJ (by omega)).trans s0))
  have f1:w3.frozen? ⟨w.heap.size,1,none⟩=false:=(hf3 _ _ (by simp;omega)).trans ((zAJ (by simp;omega)).trans ((zAJ (by omega)).trans s1))
  have d0:w3.cell? ⟨w2.heap.size+1,0,none⟩=some (.int .i64 0):=(hc3 _ _ (by simp)).trans (by simp[go_sem])
  have d1:w3.cell? ⟨w2.heap.size+1,1,none⟩=some (.int .i64 0):=(hc3 _ _ (by simp)).trans (by simp[go_sem])
  have k0:w3.frozen? ⟨w2.heap.size+1,0,none⟩=false:=(hf3 _ _ (by simp)).trans (by simp[go_sem])
  have k1:w3.frozen? ⟨w2.heap.size+1,1,none⟩=false:=(hf3 _ _ (by simp)).trans (by simp[go_sem])
  have HB3:=hbn HB2.out (zAC (zAF _ _ _) hb)
  have hb8:w.heap.size≤w2.heap.size+1:=by omega
  clear hb hc3 hf3 r0 r1 s0 s1
  go_wp2
  refine bodyPost_ret (by simp[results,Tryz.results144,go_sem,c0,c1];first|done|rfl) rfl ?_
  obtain⟨a,ha⟩:=HC.out
  have hR2:=HR2.out
  rw[ha] at hR2
  rw[ha];exact zCL hR2 (zAD ((zAD HB3.out hb8 _ _).setCell (p:=⟨w2.heap.size+1,0,none⟩) hb8 _) (Nat.le_refl _) _ _)
 ·have HCALL:=Lib.hid hcall
  clear hcall
  go_wp2_with fail
  refine(HFIND.out _).mono ?_
  rintro e w2 ⟨rfl,hb⟩
  have hz2:=hb.size
  obtain⟨hc2,hf2⟩:=bcell hb
  have HB2:=hbn HB1.out hb
  have r0:w2.cell? ⟨w.heap.size,0,none⟩=some (.int .i64 0):=(hc2 _ _ (by omega)).trans q0
  have r1:w2.cell? ⟨w.heap.size,1,none⟩=some (.int .i64 0):=(hc2 _ _ (by omega)).trans q1
  have s0:w2.frozen? ⟨w.heap.size,0,none⟩=false:=(hf2 _ _ (by omega)).trans p0
  have s1:w2.frozen? ⟨w.heap.size,1,none⟩=false:=(hf2 _ _ (by omega)).trans p1
  have M0:=Lib.hid (hc2 0 0 (by omega))
  clear HFIND hb hc2 hf2 q0 q1 p0 p1 m0
  go_wp2_with fail
  refine(HCALL.out _).mono ?_
  rintro e w3 ⟨rfl,hb⟩
  have hz3:=hb.size
  simp at hz3
  obtain⟨hc3,hf3⟩:=bcell hb
  have c0:w3.cell? ⟨w.heap.size,0,none⟩=some (.int .i64 0):=(hc3 _ _ (by simp;omega)).trans ((zAG (by simp;omega)).trans ((zAG (by omega)).trans r0))
  have c1:w3.cell? ⟨w.heap.size,1,none⟩=some (.int .i64 0):=(hc3 _ _ (by simp;omega)).trans ((zAG (by simp;omega)).trans ((zAG (by omega)).trans r1))
  have f0:w3.frozen? ⟨w.heap.size,0,none⟩=false:=(hf3 _ _ (by simp;omega)).trans ((zAJ (by simp;omega)).trans ((zAJ (by omega)).trans s0))
  have f1:w3.frozen? ⟨w.heap.size,1,none⟩=false:=(hf3 _ _ (by simp;omega)).trans ((zAJ (by simp;omega)).trans ((zAJ (by omega)).trans s1))
  have d0:w3.cell? ⟨w2.heap.size+1,0,none⟩=some (.int .i64 0):=(hc3 _ _ (by simp)).trans (by simp[go_sem])
  have d1:w3.cell? ⟨w2.heap.size+1,1,none⟩=some (.int .i64 0):=(hc3 _ _ (by simp)).trans (by simp[go_sem])
  have k0:w3.frozen? ⟨w2.heap.size+1,0,none⟩=false:=(hf3 _ _ (by simp)).trans (by simp[go_sem])
  have k1:w3.frozen? ⟨w2.heap.size+1,1,none⟩=false:=(hf3 _ _ (by simp)).trans (by simp[go_sem])
  have HB3:=hbn HB2.out (zAC (zAF _ _ _) hb)
  have hb8:w.heap.size≤w2.heap.size+1:=by omega
  clear hb hc3 hf3 r0 r1 s0 s1
  go_wp2
  refine bodyPost_ret (by simp[results,Tryz.results144,go_sem,c0,c1];first|done|rfl) rfl ?_
  obtain⟨a,ha⟩:=HC.out
  have hR2:=HR2.out
  rw[ha] at hR2
  rw[ha];exact zCL hR2 (zAD ((zAD HB3.out hb8 _ _).setCell (p:=⟨w2.heap.size+1,0,none⟩) hb8 _) (Nat.le_refl _) _ _)
end Go.Proofs.YthkpckgcgkijbaaGreatDoor
