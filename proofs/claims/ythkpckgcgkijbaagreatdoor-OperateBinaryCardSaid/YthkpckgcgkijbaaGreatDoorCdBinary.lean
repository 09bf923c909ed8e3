/- What is proved: OperateBinary returns true for every world, every operator and all values a and b, in any memory, and leaves its arguments as they were; conditions: none of its own (the card's own laid tables). -/
import Derived.Test.YthkpckgcgkijbaaGreatDoorLwVv2
import Derived.Test.YthkpckgcgkijbaaGreatDoorCdBinaryK
import Derived.Test.YthkpckgcgkijbaaGreatDoorCards
import Derived.Test.YthkpckgcgkijbaaGreatDoorTie
set_option linter.unusedVariables false
set_option linter.unusedSimpArgs false
set_option maxRecDepth 100000
namespace Go.Proofs.YthkpckgcgkijbaaGreatDoor
open Go.ChangeShapes Go.WideShapes Go.ChangeAt Go.WideMaps Go.WideElems Go.RowKit Go.ChangeMaps Go.Proofs.Tryz
theorem Ez (os:Os) (started:os.Started) (H:Type) (enc:TypeId×Value->H):
  ReturnsInHanded {} checked os 5 .any (fun w args=>(Rows.operateBinarySpec.pre enc prog f5 [] false w args/\laidMetH prog laidL w)/\sizedMet enc prog f5 (OpenSpec.ofChange Rows.operateBinarySpec) false w args)
   (Rows.operateBinarySpec.post enc prog f5 false true false false):=by
 refine A1 os started H enc (by kernel_rfl) func5
  (ChangeSpec.witness_shaped (enc:=enc) (C:=checked) (os:=os) (X:=fun w _=>laidMetH prog laidL w) false (World.laidAll prog os laidL) #[.agg #[(0:Int),(0:Int),(0:Int),.slice none 0 0],.int .i64 0,.agg #[(0:Int),(0:Int),(0:Int),.string ⟨#[]⟩,(0:Int)],.agg #[(0:Int),(0:Int),(0:Int),.string ⟨#[]⟩,(0:Int)]] 8 (World.laidAll_os _ _ _) (World.shaped_of_ZipB (by kernel_rfl) (by kernel_rfl)) (by kernel_rfl) (by kernel_rfl) (by kernel_rfl) (Ew os _)) ?_
 intro W base args ds gs before hG hval0 hW;have hval:∀(j:Nat) t v,f5.params[j]? =some t->args[j]? =some v->Value.okWide prog W .any base t v:=hval0;have hW':=hW;obtain⟨p,q,hA0,hV,rfl,hfz,hnd⟩:=hW;have hA:DataW.TrodAll enc prog W 0 (fun _=>true) true f5.params.toList args.toList ds p:=hA0;rw[params5] at hA hval;obtain⟨v0,v1,v2,v3,d0,d1,d2,d3,p0,p1,p2,p3,rfl,rfl,rfl,h0,h1,h2,h3⟩:=trodAll_four hA;obtain⟨rfl,rfl⟩:=trodVars_none hV;obtain⟨T,Dt,F,so,cap,fs,rfl,wf,hfa⟩:=YX (hval 0 35 v0 rfl rfl) h0;obtain⟨o,rfl,rfl,rfl,z1⟩:=open_int underlying3 (hval 1 3 v1 rfl rfl) h1;obtain⟨a,rfl,wa⟩:=Gz (hval 2 25 v2 rfl rfl) h2;obtain⟨b,rfl,wb⟩:=Gz (hval 3 25 v3 rfl rfl) h3;clear hA0 hval0;simp only[List.append_assoc,List.append_nil,List.nil_append] at hW';have hlt:∀x∈(p0++(p2++p3):List MemPlace),x.block<W.heap.size:=fun x hx=>hW'.lt x (by simpa using hx);refine(Mt W hG T Dt F so cap fs o a.k a.p a.q a.s a.r b.k b.p b.q b.s b.r wa wb wf hfa).mono fun e W' ⟨he,hw⟩=> ?_;subst he;refine⟨_,rfl,?_⟩;exact Ka (pa:=p0++(p2++p3)) (pv:=[]) hW' (fun _ _ _=>trodAll_mk1 (shut_bool underlying4 _)) (fun sp hsp=>trodAll_mk4 (Trod_stays laidOut (by kernel_rfl) (of_decide_eq_true (by kernel_rfl)) h0 (fun x hx=>hw.same (hlt x (by simp[hx]))) (fun x hx=>hsp x (by simp[hx]))) (shut_int underlying3 z1) (Trod_stays laidOut (by kernel_rfl) (of_decide_eq_true (by kernel_rfl)) h2 (fun x hx=>hw.same (hlt x (by simp[hx]))) (fun x hx=>hsp x (by simp[hx]))) (Trod_stays laidOut (by kernel_rfl) (of_decide_eq_true (by kernel_rfl)) h3 (fun x hx=>hw.same (hlt x (by simp[hx]))) (fun x hx=>hsp x (by simp[hx])))) (fun _ _=>rfl) (by simp) hw (ok_one (by kernel_rfl) rfl (okWide_bool_mk underlying4 _))
theorem Ms:Rows.OperateBinarySaid:=
 OpenClaim.holds_of_wide 5 f5 rfl rfl rfl rfl rfl rfl rfl ⟨rfl,rfl,rfl,rfl,rfl⟩ rfl rfl rfl rfl rfl Rr func5 Ro
  Ru (by unfold Func.isWrapper;first|(rw[if_pos (by decide+kernel)];kernel_rfl)|(rw[if_neg (by decide+kernel)];exact⟨rfl,rfl⟩))
  (fun os started H enc _=>Ez os started H enc)
theorem binary_holds:Rows.OperateBinaryCardSaid:=
 Claim7.holds_tied_plain_at .later [] [.data,.data,.data,.data,.pinned] true (true, "eeabdfeb74001352764b2fe2c75a114601027e963e712f712e4c7857d93286d5") false
  Ms (fun _ h=>by cases h) (by kernel_rfl) (fun _ h=>by cases h) operateBinary_row_tie rfl ⟨rfl,rfl⟩ (by kernel_rfl) rfl
  (fun f fn hf hfn=>by
   obtain rfl:f=5:=Option.some.inj ((show prog.funcNamed "scripting/scriptinglaw16.OperateBinary" =some 5 by kernel_rfl).symm.trans hf) |>.symm
   obtain rfl:fn=f5:=(Option.some.inj (func5.symm.trans hfn)).symm;exact⟨by kernel_rfl,fun j t ht=>by
    rw[params5] at ht;have hm:t∈[35,3,25,25]:=by simpa using Array.mem_of_getElem? ht
    have hall:([35,3,25,25].all fun u=> !prog.wantsStandIn u)=true:=by kernel_rfl
    exact(show prog.wantsStandIn t=false by simpa using List.all_eq_true.1 hall t hm)⟩)
  (by kernel_rfl)
end Go.Proofs.YthkpckgcgkijbaaGreatDoor
