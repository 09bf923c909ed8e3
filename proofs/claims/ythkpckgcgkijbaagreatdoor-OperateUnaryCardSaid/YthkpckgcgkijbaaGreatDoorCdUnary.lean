/- What is proved: OperateUnary returns true for every world, every operator and every value a, in any memory, and leaves its arguments as they were; conditions: none of its own (the card's own laid tables). -/
import Derived.Test.YthkpckgcgkijbaaGreatDoorLwUv2
import Derived.Test.YthkpckgcgkijbaaGreatDoorCdUnaryK
import Derived.Test.YthkpckgcgkijbaaGreatDoorCards
import Derived.Test.YthkpckgcgkijbaaGreatDoorTie
set_option linter.unusedVariables false
set_option linter.unusedSimpArgs false
set_option maxRecDepth 100000
namespace Go.Proofs.YthkpckgcgkijbaaGreatDoor
open Go.ChangeShapes Go.WideShapes Go.ChangeAt Go.WideMaps Go.WideElems Go.RowKit Go.ChangeMaps Go.Proofs.Tryz
theorem E6 (os:Os) (started:os.Started) (H:Type) (enc:TypeId×Value->H):
  ReturnsInHanded {} checked os 6 .any (fun w args=>(Rows.operateUnarySpec.pre enc prog f6 [] false w args/\laidMetH prog laidL w)/\sizedMet enc prog f6 (OpenSpec.ofChange Rows.operateUnarySpec) false w args)
   (Rows.operateUnarySpec.post enc prog f6 false true false false):=by
 refine A1 os started H enc (by kernel_rfl) func6
  (ChangeSpec.witness_shaped (enc:=enc) (C:=checked) (os:=os) (X:=fun w _=>laidMetH prog laidL w) false (World.laidAll prog os laidL) #[.agg #[(0:Int),(0:Int),(0:Int),.slice none 0 0],.int .i64 0,.agg #[(0:Int),(0:Int),(0:Int),.string ⟨#[]⟩,(0:Int)]] 8 (World.laidAll_os _ _ _) (World.shaped_of_ZipB (by kernel_rfl) (by kernel_rfl)) (by kernel_rfl) (by kernel_rfl) (by kernel_rfl) (Ew os _)) ?_
 intro W base args ds gs before hG hval0 hW;have hval:∀(j:Nat) t v,f6.params[j]? =some t->args[j]? =some v->Value.okWide prog W .any base t v:=hval0;have hW':=hW;obtain⟨p,q,hA0,hV,rfl,hfz,hnd⟩:=hW;have hA:DataW.TrodAll enc prog W 0 (fun _=>true) true f6.params.toList args.toList ds p:=hA0;rw[params6] at hA hval;obtain⟨v0,v1,v2,d0,d1,d2,p0,p1,p2,rfl,rfl,rfl,h0,h1,h2⟩:=trodAll_three hA;obtain⟨rfl,rfl⟩:=trodVars_none hV;obtain⟨T,Dt,F,so,cap,fs,rfl,wf,hfa⟩:=YX (hval 0 35 v0 rfl rfl) h0;obtain⟨o,rfl,rfl,rfl,z1⟩:=open_int underlying3 (hval 1 3 v1 rfl rfl) h1;obtain⟨a,rfl,wa⟩:=Gz (hval 2 25 v2 rfl rfl) h2;clear hA0 hval0;simp only[List.append_nil,List.nil_append] at hW';have hlt:∀x∈(p0++p2:List MemPlace),x.block<W.heap.size:=fun x hx=>hW'.lt x (by simpa using hx);refine(M4 W hG T Dt F so cap fs o a.k a.p a.q a.s a.r wa wf hfa).mono fun e W' ⟨he,hw⟩=> ?_;subst he;refine⟨_,rfl,?_⟩;exact Ka (pa:=p0++p2) (pv:=[]) hW' (fun _ _ _=>trodAll_mk1 (shut_bool underlying4 _)) (fun sp hsp=>trodAll_mk3 (Trod_stays laidOut (by kernel_rfl) (of_decide_eq_true (by kernel_rfl)) h0 (fun x hx=>hw.same (hlt x (by simp[hx]))) (fun x hx=>hsp x (by simp[hx]))) (shut_int underlying3 z1) (Trod_stays laidOut (by kernel_rfl) (of_decide_eq_true (by kernel_rfl)) h2 (fun x hx=>hw.same (hlt x (by simp[hx]))) (fun x hx=>hsp x (by simp[hx])))) (fun _ _=>rfl) (by simp) hw (ok_one (by kernel_rfl) rfl (okWide_bool_mk underlying4 _))
theorem M3:Rows.OperateUnarySaid:=
 OpenClaim.holds_of_wide 6 f6 rfl rfl rfl rfl rfl rfl rfl ⟨rfl,rfl,rfl,rfl,rfl⟩ rfl rfl rfl rfl rfl Rs func6 Rp
  Rv (by unfold Func.isWrapper;first|(rw[if_pos (by decide+kernel)];kernel_rfl)|(rw[if_neg (by decide+kernel)];exact⟨rfl,rfl⟩))
  (fun os started H enc _=>E6 os started H enc)
theorem unary_holds:Rows.OperateUnaryCardSaid:=
 Claim7.holds_tied_plain_at .later [] [.data,.data,.data,.data,.pinned] true (true, "eeabdfeb74001352764b2fe2c75a114601027e963e712f712e4c7857d93286d5") false
  M3 (fun _ h=>by cases h) (by kernel_rfl) (fun _ h=>by cases h) operateUnary_row_tie rfl ⟨rfl,rfl⟩ (by kernel_rfl) rfl
  (fun f fn hf hfn=>by
   obtain rfl:f=6:=Option.some.inj ((show prog.funcNamed "scripting/scriptinglaw16.OperateUnary" =some 6 by kernel_rfl).symm.trans hf) |>.symm
   obtain rfl:fn=f6:=(Option.some.inj (func6.symm.trans hfn)).symm;exact⟨by kernel_rfl,fun j t ht=>by
    rw[params6] at ht;have hm:t∈[35,3,25]:=by simpa using Array.mem_of_getElem? ht
    have hall:([35,3,25].all fun u=> !prog.wantsStandIn u)=true:=by kernel_rfl
    exact(show prog.wantsStandIn t=false by simpa using List.all_eq_true.1 hall t hm)⟩)
  (by kernel_rfl)
end Go.Proofs.YthkpckgcgkijbaaGreatDoor
