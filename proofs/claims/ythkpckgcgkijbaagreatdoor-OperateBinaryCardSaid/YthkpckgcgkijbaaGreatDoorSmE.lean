import Derived.Test.YthkpckgcgkijbaaGreatDoorSmB
import Derived.Test.YthkpckgcgkijbaaGreatDoorSmD
import Derived.Test.YthkpckgcgkijbaaGreatDoorSHpX
set_option linter.unusedVariables false
set_option linter.unusedSimpArgs false
set_option maxRecDepth 100000
set_option maxHeartbeats 2000000
namespace Go.Proofs.YthkpckgcgkijbaaGreatDoor
open Go.RowKit Go.Proofs.Lexi Go.Proofs.Tryz
theorem K6 {v:V} (h:Qt v=true) (W:World):Calls prog 26 #[v.v] W (BoolPost W true):=by
 obtain⟨k,p,q,s,r⟩:=v;have:=JW W k p q s r;rw[h] at this;exact this
theorem Ob (w:World) (m:Nat) (sv:Value) (L:List Sl) (hO:SMap w m sv L) (hL:L.length<=1000) (k v:V) (hkv:Qt k=true) (hvv:Qt v=true) (hk0:k.k≠0):
  Calls prog 175 #[m,k.v,v.v] w (SmPost w m sv (Yu L k v)):=by
 have hvk:=K6 hkv;have hvv':=K6 hvv;obtain⟨so,cap,rfl⟩:=Zb hO.row;obtain⟨k1,p1,q1,s1,r1⟩:=k;obtain⟨k2,p2,q2,s2,r2⟩:=v;have hk0':(k1==0)=false:=beq_eq_false_iff_ne.2 hk0;have F:=fun W (hb:Below w w W)=>Ok W m cap so L (hO.below hb).hm (hO.below hb).row hL k1 p1 q1 s1 r1;have same:∀(e:Ending) (w':World),e= .returned (.int .i64 0)/\Below w w w'->SmPost w m (.slice so L.length cap) L e w':=fun e w' h=>⟨h.1,_,hO.below h.2,Mods.of_below h.2,fun _ h=> .inl h⟩
 rcases BQ ⟨k1,p1,q1,s1,r1⟩ L with⟨i,s,h1,h2,h3,h4,h5⟩|⟨i,s,h1,h2,h3,h4,h5⟩|⟨h1,h5⟩
 ·rw[h1] at F;have hil:i<L.length:=(List.getElem?_eq_some_iff.1 h2).1;have hS:Yu L ⟨k1,p1,q1,s1,r1⟩ ⟨k2,p2,q2,s2,r2⟩=if k2=0 then L.set i ⟨⟨k1,p1,q1,s1,r1⟩,V.nil,true⟩ else L.set i ⟨⟨k1,p1,q1,s1,r1⟩,⟨k2,p2,q2,s2,r2⟩,false⟩:=by unfold Yu;rw[h5]
  by_cases hv0:k2=0
  ·rw[hS,if_pos hv0];refine(U6 w m cap so L hO.hm hO.row hL k1 p1 q1 s1 r1 k2 p2 q2 s2 r2 hvk hvv' hk0' i s h2 h4 F (beq_iff_eq.2 hv0)).mono ?_;rintro e w' ⟨rfl,w2,rb,rfl,hb,rfl⟩;exact Uw (n:=0) hO hb List.length_set (XR hil _) (Pz hO.gone i (fun _=>rfl)) rfl
  ·rw[hS,if_neg hv0];refine(NR w m cap so L hO.hm hO.row hL k1 p1 q1 s1 r1 k2 p2 q2 s2 r2 hvk hvv' hk0' i s h2 h4 F (beq_eq_false_iff_ne.2 hv0)).mono ?_;rintro e w' ⟨rfl,w2,rb,rfl,hb,rfl⟩;refine Uw (n:=0) hO hb List.length_set ?_ (Pz hO.gone i (fun h=>by cases h)) rfl;rw[Yj h2,h3,h4]
 ·rw[h1] at F;have hil:i<L.length:=(List.getElem?_eq_some_iff.1 h2).1;have hS:Yu L ⟨k1,p1,q1,s1,r1⟩ ⟨k2,p2,q2,s2,r2⟩=if k2=0 then L else UC L++[⟨⟨k1,p1,q1,s1,r1⟩,⟨k2,p2,q2,s2,r2⟩,false⟩]:=by unfold Yu;rw[h5]
  by_cases hv0:k2=0
  ·rw[hS,if_pos hv0];refine(U7 w m cap so L hO.hm hO.row hL k1 p1 q1 s1 r1 k2 p2 q2 s2 r2 hvk hvv' hk0' i s h2 h4 F (beq_iff_eq.2 hv0)).mono ?_;rintro e w' ⟨rfl,w2,rb,rfl,hb,rfl⟩;refine Uw (n:=0) hO hb rfl ?_ hO.gone rfl;rw[XR hil]
   congr 1
   have hsv:=hO.gone s (List.mem_of_getElem? h2) h4;obtain⟨sk,sv,sg⟩:=s;dsimp only at h3 h4 hsv;subst h3 h4 hsv;apply List.ext_getElem?;intro j;rw[List.getElem?_set];split
   ·rename_i e
    subst e;first|(rw[h2];done)|(rw[if_pos hil,h2])
   ·rfl
  ·rw[hS,if_neg hv0];unfold UC;by_cases hr:Q1 L+8<L.length-Q1 L
   ·rw[if_pos hr];exact X8 w m cap so L hO.hm hO.row hL k1 p1 q1 s1 r1 k2 p2 q2 s2 r2 hvk hvv' hk0' i s h2 h4 F (beq_eq_false_iff_ne.2 hv0) hr
   ·rw[if_neg hr];exact UA w m cap so L hO.hm hO.row hL k1 p1 q1 s1 r1 k2 p2 q2 s2 r2 hvk hvv' hk0' i s h2 h4 F (beq_eq_false_iff_ne.2 hv0) hO.gone hr
 ·rw[h1] at F;have hS:Yu L ⟨k1,p1,q1,s1,r1⟩ ⟨k2,p2,q2,s2,r2⟩=if k2=0 then L else UC L++[⟨⟨k1,p1,q1,s1,r1⟩,⟨k2,p2,q2,s2,r2⟩,false⟩]:=by unfold Yu;rw[h5]
  by_cases hv0:k2=0
  ·rw[hS,if_pos hv0];exact(U5 w m cap so L hO.hm hO.row hL k1 p1 q1 s1 r1 k2 p2 q2 s2 r2 hvk hvv' hk0' F (beq_iff_eq.2 hv0)).mono same
  ·rw[hS,if_neg hv0];unfold UC;by_cases hr:Q1 L+8<L.length-Q1 L
   ·rw[if_pos hr];exact X7 w m cap so L hO.hm hO.row hL k1 p1 q1 s1 r1 k2 p2 q2 s2 r2 hvk hvv' hk0' F (beq_eq_false_iff_ne.2 hv0) hr
   ·rw[if_neg hr];exact X9 w m cap so L hO.hm hO.row hL k1 p1 q1 s1 r1 k2 p2 q2 s2 r2 hvk hvv' hk0' F (beq_eq_false_iff_ne.2 hv0) hO.gone hr
theorem E9 (w:World) (s:ByteArray):Calls prog 174 #[.agg #[.int .i64 3,(0:Int),(0:Int),s,(0:Int)]] w (IntPost w 0):=by
 go_enter func174,ntmps174;go_wp2
 go_ret
 exact Qr rfl (Qf _ _)
theorem OT (w:World):Calls prog 111 #[] w (fun e w'=>e= .returned (.pointer (some ⟨w+1,0,none⟩))/\STab w' (w.heap.size+1) w.heap.size (.slice none 0 0) []/\Below w w w'):=by
 have hn:∀W,Calls prog 169 #[] W (fun e w'=>e= .returned (.pointer (some W))/\w'=W.alloc (.cells #[.slice none 0 0] 181)):=fun W=>by
  go_enter func169,ntmps169;go_wp2
  go_ret
  exact⟨rfl,rfl⟩
 have HN:=zh hn;clear hn;go_enter func111,ntmps111;go_wp2_with fail
 refine(HN.out _).mono ?_;rintro e w1 ⟨rfl,rfl⟩;go_wp2
 go_ret
 exact⟨by first|rfl|simp,⟨QY _ _ _,Qm _ _ _,World.ownsRow_nil _ _ _ _,fun s h=>(by cases h)⟩,QE _ _ _⟩
theorem OS (w:World) (t m:Nat) (sv:Value) (L:List Sl) (hT:STab w t m sv L) (hL:L.length<=1000) (s:ByteArray) (hs:s.size<=4096) (k2 p2 q2:Int) (s2:ByteArray) (r2:Int) (hv:Qt ⟨k2,p2,q2,s2,r2⟩=true):
  Calls prog 119 #[t,.agg #[.int .i64 3,(0:Int),(0:Int),s,(0:Int)],.agg #[k2,p2,q2,s2,r2]] w (STabPost w t m sv (Yu L (KR s) ⟨k2,p2,q2,s2,r2⟩)):=by
 have HI:=zh (fun W=>E9 W s);have HT:=zh hT.ht;have HO:=zh hT.om;have hlt:t<w:=(Array.getElem?_eq_some_iff.1 hT.ht).1;have HV:=zh (fun W=>(K6 (Jo hs) W:Calls prog 26 #[.agg #[.int .i64 3,(0:Int),(0:Int),s,(0:Int)]] W (BoolPost W true)));have HVV:=zh (fun W=>(K6 hv W:Calls prog 26 #[.agg #[k2,p2,q2,s2,r2]] W (BoolPost W true)));have hset:∀W,SMap W m sv L->Calls prog 175 #[m,.agg #[.int .i64 3,(0:Int),(0:Int),s,(0:Int)],.agg #[k2,p2,q2,s2,r2]] W (SmPost W m sv (Yu L (KR s) ⟨k2,p2,q2,s2,r2⟩)):=fun W h=>Ob W m sv L h hL (KR s) ⟨k2,p2,q2,s2,r2⟩ (Jo hs) hv (by show(3:Int)≠0;decide);obtain⟨R,hR⟩:∃R,R=Yu L (KR s) ⟨k2,p2,q2,s2,r2⟩:=⟨_,rfl⟩
 rw[<-hR] at hset ⊢;have HS:=zh hset;clear hT hR hset hv;go_enter func119,ntmps119;go_wp2_with fail
 refine(HV.out _).mono ?_;rintro e w1 ⟨rfl,hb⟩;have Ha1:=hkh hb (Qm _ _ _);have Hb1:=hkh hb (QY _ _ _);have Ht1:=hkh hb (Qs HT.out _ _);have HW1:=hbn (QE _ _ _) hb;have hz1:=hb.size;try simp at hz1
 clear hb;have hya:=hsz Ha1;obtain⟨a0,a1,a2,a3,a4⟩:=zc5 Ha1;have hyb:=hsz Hb1;obtain⟨b0,b1,b2,b3,b4⟩:=zc5 Hb1;have hyt:=hsz Ht1;have t0:w1.cell? t=some (.slice none 0 0):=by rw[QA Ht1.out];rfl
 have t1:w1.cell? ⟨t,1,none⟩=some (.pointer (some m)):=by rw[QA Ht1.out];rfl
 go_wp2_with fail
 refine(HVV.out _).mono ?_;rintro e w2 ⟨rfl,hb⟩;have Ha2:=hkh hb Ha1;have Hb2:=hkh hb Hb1;have Ht2:=hkh hb Ht1;have HW2:=hbn HW1 hb;have hz2:=hb.size;try simp at hz2
 clear hb;clear hya a0 a1 a2 a3 a4 hyb b0 b1 b2 b3 b4 hyt t0 t1;have hya:=hsz Ha2;obtain⟨a0,a1,a2,a3,a4⟩:=zc5 Ha2;have hyb:=hsz Hb2;obtain⟨b0,b1,b2,b3,b4⟩:=zc5 Hb2;have hyt:=hsz Ht2;have t0:w2.cell? t=some (.slice none 0 0):=by rw[QA Ht2.out];rfl
 have t1:w2.cell? ⟨t,1,none⟩=some (.pointer (some m)):=by rw[QA Ht2.out];rfl
 go_wp2_with fail
 refine(HI.out _).mono ?_;rintro e w3 ⟨rfl,hb⟩;have Ha3:=hkh hb Ha2;have Hb3:=hkh hb Hb2;have Ht3:=hkh hb Ht2;have HW3:=hbn HW2 hb;have hz3:=hb.size;try simp at hz3
 clear hb;clear hya a0 a1 a2 a3 a4 hyb b0 b1 b2 b3 b4 hyt t0 t1;have hya:=hsz Ha3;obtain⟨a0,a1,a2,a3,a4⟩:=zc5 Ha3;have hyb:=hsz Hb3;obtain⟨b0,b1,b2,b3,b4⟩:=zc5 Hb3;have hyt:=hsz Ht3;have t0:w3.cell? t=some (.slice none 0 0):=by rw[QA Ht3.out];rfl
 have t1:w3.cell? ⟨t,1,none⟩=some (.pointer (some m)):=by rw[QA Ht3.out];rfl
 go_wp2;refine QK mixed (by kernel_rfl) ?_;go_wp2_with fail
 refine(HS.out _ (HO.out.below HW3.out.drew)).mono ?_;rintro e w4 ⟨rfl,sv',hO4,hM4,hown4⟩;have HX:=zh (And.intro hO4 (And.intro hM4 hown4));clear hO4 hM4 hown4;go_wp2;refine⟨by kernel_rfl,?_⟩;go_wp2
 go_ret
 obtain⟨hO4,hM4,hown4⟩:=HX.out;have hb:Below w w w3.drew:=HW3.out.drew;refine⟨rfl,sv',hO4,(Mods.of_below hb).trans hM4,fun b hb2=> ?_⟩;rcases hown4 b hb2 with h|h
 ·exact .inl h
 ·exact .inr (Nat.le_trans hb.size h)
theorem Ep {base n:Nat} {w:World} {h:Nat} {M:LH} {o:LO} {f:FuncId} {args:Array Value} (hP:RHp base n w h M) (hb:base<=w) (hl:M.length<=60)
  (hc:∀av uv H,RHpAt w h av uv H->H.length<=1000->Calls prog f args w (RGrow w h av uv H o)):
  Calls prog f args w (fun e w'=>(∃v,e= .returned v)/\RHp base n w' h (M++[o])/\BM base SB w w'):=by
 obtain⟨av,uv,H,h1,h2,h3,h4⟩:=hP.ex;have hH:H.length=M.length:=by rw[<-h2];unfold rlh;rw[List.length_map]
 refine(hc av uv H h1 (by omega)).mono ?_;rintro e w' ⟨he,av',uv',x,h5,h6,h7,h8,h9,h10,h11⟩;refine⟨he,⟨av',uv',H++[x],h5,?_,?_,?_⟩,BM.of_mods h8 (fun b hb2=>⟨h4 b hb2,F9 h1 hb2⟩)⟩
 ·unfold rlh;rw[List.map_append];unfold rlh at h2;rw[h2,List.map_singleton,h6]
 ·intro y hy;rcases List.mem_append.1 hy with hy|hy
  ·exact h3 y hy
  ·rw[List.mem_singleton] at hy;rw[hy,h7];exact Nat.zero_le _
 ·rintro b (e|e|e|⟨y,hy,hyb⟩)
  ·exact h4 b (.inl e)
  ·rcases h9 b e with e|e
   ·exact h4 b (.inr (.inl e))
   ·omega
  ·rcases h10 b e with e|e
   ·exact h4 b (.inr (.inr (.inl e)))
   ·omega
  ·rcases List.mem_append.1 hy with hy|hy
   ·exact h4 b (.inr (.inr (.inr ⟨y,hy,hyb⟩)))
   ·rw[List.mem_singleton] at hy;subst hy;have:=h11 b hyb;omega
theorem NV (w:World) (h:Nat) (av uv:Value) (H:List RO) (hH:RHpAt w h av uv H) (hl:H.length<=1000) (tag:Int):Calls prog 66 #[.pointer (some ⟨h,0,none⟩),tag] w (RGrow w h av uv H ⟨5,V.nil,[]⟩):=by
 have hlt:h<w.heap.size:=(Array.getElem?_eq_some_iff.1 hH.hh).1;obtain⟨bs,hTc⟩:=hH.tch;have HAV:=zh (fun b (hb:av.ownBlock=some b)=>(QS hH.row hb).2);have HUV:=zh (fun b (hb:uv.ownBlock=some b)=>(QS hTc hb).2);have HHH:=zh hH;have HLL:=zh hl;clear hH hTc hl;go_enter func66,ntmps66;go_wp2_with fail
 refine(Oo _ h av uv H (HHH.out.below (Qf _ _)) HLL.out 5 tag ⟨#[]⟩ none none 0 0 0 0 ⟨.inr (.inl rfl),Yf,fun _=>⟨rfl,rfl⟩,fun h=>absurd h (show¬(5:Int)=4 by decide)⟩ rfl (fun y hy _ h=>absurd h (show¬(5:Int)=4 by decide))).mono ?_;rintro e w3 ⟨⟨v3,rfl⟩,av',uv',hA,hM,h3,h4⟩;have HA:=zh hA;have HM:=zh hM;have H3:=zh h3;have H4:=zh h4;have HBW:=zh (show Below w w (w.alloc (oV 0 0 0 ⟨#[]⟩ 0)) from(Qf _ _));have HR3:=zh (Qn hM (Qy w (oV 0 0 0 ⟨#[]⟩ 0)) (fun e=>by rcases e with e|e|e<;>first|omega|(have:=HAV.out _ e;omega)|(have:=HUV.out _ e;omega)));have hyr:=hsz HR3;clear hA hM h3 h4;obtain⟨r0,r1,r2,r3,r4⟩:=zc5 HR3;obtain⟨fr0,fr1,fr2,fr3,fr4⟩:=zf5 HR3;go_wp2;refine zr (by simp[results,results66,go_sem,hyr,r0,r1,r2,r3,r4]<;>rfl) ?_;refine XU HBW.out HA.out HM.out H3.out H4.out HR3.out (Z5 (F:=fun b=>b=w.heap.size) (Mods.refl _ _) (.inl rfl) _ _ _ _ _) rfl rfl (fun b hb=> ?_) _;exact absurd hb.1 (show¬(5:Int)=4 by decide)
theorem Fz (w:World) (h:Nat) (av uv:Value) (H:List RO) (hH:RHpAt w h av uv H) (hl:H.length<=1000):Calls prog 62 #[.pointer (some ⟨h,0,none⟩)] w (RGrow w h av uv H ⟨4,V.nil,[]⟩):=by
 have hlt:h<w.heap.size:=(Array.getElem?_eq_some_iff.1 hH.hh).1;obtain⟨bs,hTc⟩:=hH.tch;have HAV:=zh (fun b (hb:av.ownBlock=some b)=>(QS hH.row hb).2);have HUV:=zh (fun b (hb:uv.ownBlock=some b)=>(QS hTc hb).2);have HHH:=zh hH;have HLL:=zh hl;clear hH hTc hl;go_enter func62,ntmps62;go_wp2_with fail
 refine(OT _).mono ?_;rintro e w1 ⟨he,hT,hb⟩;rw[show(w.alloc (oV 0 0 0 ⟨#[]⟩ 0)).heap.size=w.heap.size+1 by simp] at he hT;subst he;have HT:=zh hT;have HB1:=hbn (Qf _ _) hb;have HR1:=hkh hb (Qy w (oV 0 0 0 ⟨#[]⟩ 0));clear hT hb;go_wp2_with fail
 refine(Oo _ h av uv H (HHH.out.below HB1.out) HLL.out 4 0 ⟨#[]⟩ (some ⟨w.heap.size+1+1,0,none⟩) none 0 0 (w.heap.size+1+1) (w.heap.size+1) ⟨.inl rfl,Yf,fun h=>absurd h (show¬(4:Int)=5 by decide),fun _=>HT.out⟩ rfl (fun y hy h4y _=>⟨fun e=>by have h1:=(Array.getElem?_eq_some_iff.1 ((HHH.out.one y hy).tb h4y).om.hm).1;have e:y.m=(w.heap.size+1):=e;omega,fun b _ h=>by cases h⟩)).mono ?_;rintro e w3 ⟨⟨v3,rfl⟩,av',uv',hA,hM,h3,h4⟩;have HA:=zh hA;have HM:=zh hM;have H3:=zh h3;have H4:=zh h4;have HBW:=zh (show Below w w w1 from HB1.out);have HR3:=zh (Qn hM HR1.out (fun e=>by rcases e with e|e|e<;>first|omega|(have:=HAV.out _ e;omega)|(have:=HUV.out _ e;omega)));have hyr:=hsz HR3;clear hA hM h3 h4;obtain⟨r0,r1,r2,r3,r4⟩:=zc5 HR3;obtain⟨fr0,fr1,fr2,fr3,fr4⟩:=zf5 HR3;go_wp2;refine zr (by simp[results,results62,go_sem,hyr,r0,r1,r2,r3,r4]<;>rfl) ?_;refine XU HBW.out HA.out HM.out H3.out H4.out HR3.out (Z5 (F:=fun b=>b=w.heap.size) (Mods.refl _ _) (.inl rfl) _ _ _ _ _) rfl rfl (fun b hb=> ?_) _;rcases hb.2 with e|e|e
 ·have e:b=w.heap.size+1+1:=e;omega
 ·have e:b=(w.heap.size+1):=e;omega
 ·cases e
theorem S8 (w:World):Calls prog 60 #[] w (fun e w'=>∃h,e= .returned (.pointer (some ⟨h,0,none⟩))/\RHp w.heap.size 0 w' h []/\Below w w w'):=by
 go_enter func60,ntmps60;go_wp2
 go_ret
 refine⟨w.heap.size,rfl,⟨.slice none 0 0,.slice none 0 0,[],⟨Qy _ _,?_,⟨[],?_⟩,fun x hx=>(by cases hx),.nil⟩,rfl,fun x hx=>(by cases hx),?_⟩,Qf _ _⟩
 ·exact World.ownsRow_nil _ _ _ _
 ·exact World.ownsRow_nil _ _ _ _
 ·rintro b (rfl|e|e|⟨x,hx,_⟩)
  ·omega
  ·cases e
  ·cases e
  ·cases hx
end Go.Proofs.YthkpckgcgkijbaaGreatDoor
