import Derived.Test.YthkpckgcgkijbaaGreatDoorOmB
import Derived.Test.YthkpckgcgkijbaaGreatDoorOmE
import Derived.Test.YthkpckgcgkijbaaGreatDoorSHpB
set_option linter.unusedVariables false
set_option linter.unusedSimpArgs false
set_option maxRecDepth 100000
set_option maxHeartbeats 8000000
namespace Go.Proofs.YthkpckgcgkijbaaGreatDoor
open Go.RowKit Go.Proofs.Lexi Go.Proofs.Tryz
theorem Ks {v:V} (h:Qt v=true) (W:World):Calls prog 36 #[v.v] W (BoolPost W true):=by
 obtain⟨k,p,q,s,r⟩:=v;have:=JY W k p q s r;rw[h] at this;exact this
theorem CI (w:World) (m g:Nat) (sv:Value) (L:List Sl) (hO:OMap w m g sv L) (hL:L.length<=1000) (k v:V) (hk:WfV k) (hv:WfV v) (hkv:Qt k=true) (hvv:Qt v=true) (hk0:k.k≠0):
  Calls prog 173 #[m,k.v,v.v] w (OmPost w m g sv (Yu L k v)):=by
 have hvk:=Ks hkv;have hvv':=Ks hvv;obtain⟨hm,hrow,hwf,E,f,hE,hG,hI⟩:=id hO;obtain⟨so,cap,rfl⟩:=Zb hrow;obtain⟨k1,p1,q1,s1,r1⟩:=k;obtain⟨k2,p2,q2,s2,r2⟩:=v;have hk0':(k1==0)=false:=beq_eq_false_iff_ne.2 hk0;rcases Ay hE hG hk with⟨hf,hlk⟩|⟨n,hf,hlk⟩
 ·rw[hI.set_none (.inl hf)];by_cases hv0:k2=0
  ·rw[if_pos hv0];exact(TK w m g cap so L E f hm hrow hL hE hG k1 p1 q1 s1 r1 k2 p2 q2 s2 r2 hk hvk hvv' hk0' hI (beq_iff_eq.2 hv0) hlk).mono fun e w' h=>Al hO h.1 h.2
  ·rw[if_neg hv0];unfold UC;by_cases hr:Q1 L+8<L.length-Q1 L
   ·rw[if_pos hr];obtain⟨rb,cap',he⟩:=Qh hrow (by omega);injection he with he1 he2 he3;subst he1;exact Y0 w m g cap rb L E f hm hrow hL hE hG hr k1 p1 q1 s1 r1 k2 p2 q2 s2 r2 hk hvk hvv' hk0' hI (.inl hf) hwf hv (beq_eq_false_iff_ne.2 hv0) hlk
   ·rw[if_neg hr];exact TJ w m g cap so L E f hm hrow hL hE hG hr k1 p1 q1 s1 r1 k2 p2 q2 s2 r2 hk hvk hvv' hk0' hI (.inl hf) hwf hv (beq_eq_false_iff_ne.2 hv0) hlk
 ·obtain⟨sl,hsl,hsk⟩:=hI.key _ _ hf;have hn:n<L.length:=(List.getElem?_eq_some_iff.1 hsl).1;obtain⟨rb,cap',he⟩:=Qh hrow (by omega);injection he with he1 he2 he3;subst he1;have hgl:=hE.lt;cases hg:sl.g with
  |false=>
   rw[hI.set_some hf hsl hg];by_cases hv0:k2=0
   ·rw[if_pos hv0];exact(EM w m g rb cap n L hm hrow hL hgl k1 p1 q1 s1 r1 k2 p2 q2 s2 r2 sl hsl hlk hvk hvv' hk0' (beq_iff_eq.2 hv0) hg (G7 L n sl sl hsl hg).2).mono (by
     rintro e w' ⟨rfl,w2,hb,rfl⟩;exact Am hm hrow hwf hE hG hI hf hsl hg hk hb)
   ·rw[if_neg hv0];exact(Dp w m g rb cap n L hm hrow hL hgl k1 p1 q1 s1 r1 k2 p2 q2 s2 r2 sl hsl hlk hvk hvv' hk0' (beq_eq_false_iff_ne.2 hv0) hg).mono (by
     rintro e w' ⟨rfl,w2,hb,rfl⟩;exact Cd hm hrow hwf hE hG hI hf hsl hg hk hv hb)
  |true=>
   have hno:NoLive L f ⟨k1,p1,q1,s1,r1⟩:= .inr ⟨n,sl,hf,hsl,hg⟩;rw[hI.set_none hno];by_cases hv0:k2=0
   ·rw[if_pos hv0];exact(TL w m g rb cap n L hm hrow hL hgl k1 p1 q1 s1 r1 k2 p2 q2 s2 r2 sl hsl hlk hvk hvv' hk0' (beq_iff_eq.2 hv0) hg).mono fun e w' h=>Al hO h.1 h.2
   ·rw[if_neg hv0];unfold UC;by_cases hr:Q1 L+8<L.length-Q1 L
    ·rw[if_pos hr];exact Ky w m g cap rb L E f hm hrow hL hE hG hr k1 p1 q1 s1 r1 k2 p2 q2 s2 r2 hk hvk hvv' hk0' hI hno hwf hv (beq_eq_false_iff_ne.2 hv0) n sl hsl hg hlk
    ·rw[if_neg hr];exact Yz w m g cap rb L E f hm hrow hL hE hG hr k1 p1 q1 s1 r1 k2 p2 q2 s2 r2 hk hvk hvv' hk0' hI hno hwf hv (beq_eq_false_iff_ne.2 hv0) n sl hsl hg hlk
theorem O9 (w:World) (t m g:Nat) (sv:Value) (L:List Sl) (hT:TabAt w t m g sv L) (hL:L.length<=1000) (s:ByteArray) (hs:s.size<=4096):
  Calls prog 86 #[t,(KR s).v] w (ValPost w (FQ L (KR s))):=by
 obtain⟨ht,hO⟩:=hT;have hv:=Ks (Jo hs);have HV:=zh (fun W=>(hv W:Calls prog 36 #[.agg #[.int .i64 3,(0:Int),(0:Int),s,(0:Int)]] W (BoolPost W true)));have HI:=zh (fun W=>(O5 W s:Calls prog 141 #[.agg #[.int .i64 3,(0:Int),(0:Int),s,(0:Int)]] W (IntBool W 0 false)));have HT:=zh ht;have HO:=zh hO;have hlt:t<w:=(Array.getElem?_eq_some_iff.1 ht).1;have hws:=BH hs;obtain⟨R,hR⟩:∃R,R=FQ L (KR s):=⟨_,rfl⟩
 rw[<-hR];have hget:∀W,OMap W m g sv L->Calls prog 142 #[m,.agg #[.int .i64 3,(0:Int),(0:Int),s,(0:Int)]] W (ValPost W R):=fun W h=>by rw[hR];exact CK W m g sv L h hL 3 0 0 s 0 hws
 have HG:=zh hget;clear ht hO hv hR hget;show Calls prog 86 #[t,.agg #[.int .i64 3,(0:Int),(0:Int),s,(0:Int)]] w _;go_enter func86,ntmps86;go_wp2_with fail
 refine(HV.out _).mono ?_;rintro e w1 ⟨rfl,hb⟩;have Ha1:=hkh hb (Qm _ _ _);have Hb1:=hkh hb (QY _ _ _);have Ht1:=hkh hb (Qs HT.out _ _);have HW1:=hbn (QE _ _ _) hb;have hz1:=hb.size;try simp at hz1
 clear hb;have hya:=hsz Ha1;obtain⟨a0,a1,a2,a3,a4⟩:=zc5 Ha1;go_wp2_with fail
 refine(HI.out _).mono ?_;rintro e w2 ⟨rfl,hb⟩;have Ha2:=hkh hb Ha1;have Hb2:=hkh hb Hb1;have Ht2:=hkh hb Ht1;have HW2:=hbn HW1 hb;have hz2:=hb.size;try simp at hz2
 clear hb;clear hya a0 a1 a2 a3 a4;have hya:=hsz Ha2;obtain⟨a0,a1,a2,a3,a4⟩:=zc5 Ha2;have hyb:=hsz Hb2;obtain⟨b0,b1,b2,b3,b4⟩:=zc5 Hb2;obtain⟨fb0,fb1,fb2,fb3,fb4⟩:=zf5 Hb2;have hyt:=hsz Ht2;have t0:w2.cell? t=some (.slice none 0 0):=by rw[QA Ht2.out];rfl
 have t1:w2.cell? ⟨t,1,none⟩=some (.pointer (some m)):=by rw[QA Ht2.out];rfl
 go_wp2;refine QK mixed (by kernel_rfl) ?_;go_wp2_with fail
 refine(HG.out _ (Zy HO.out HW2.out.drew)).mono ?_;rintro e w3 ⟨rfl,hb⟩;have Ha3:=hkh hb Ha2;have Hb3:=hkh hb Hb2;have Ht3:=hkh hb Ht2;have HW3:=hbn HW2.out.drew hb;have hz3:=hb.size;try simp at hz3
 clear hb;clear hya a0 a1 a2 a3 a4 hyb b0 fb0 b1 fb1 b2 fb2 b3 fb3 b4 fb4 hyt t0 t1;have hyb:=hsz Hb3;obtain⟨b0,b1,b2,b3,b4⟩:=zc5 Hb3;obtain⟨fb0,fb1,fb2,fb3,fb4⟩:=zf5 Hb3;go_wp2;refine⟨by kernel_rfl,?_⟩;go_wp2;refine zr (by simp[results,results86,go_sem,hyb,b0,b1,b2,b3,b4]<;>rfl) ?_;exact Qo rfl (QG HW3.out (by simp<;>omega) _ _ _ _ _)
theorem O6 (w:World) (t m g:Nat) (sv:Value) (L:List Sl) (hT:TabAt w t m g sv L) (hL:L.length<=1000) (s:ByteArray) (hs:s.size<=4096) (k2 p2 q2:Int) (s2:ByteArray) (r2:Int) (hv:Qt ⟨k2,p2,q2,s2,r2⟩=true) (hw2:WfV ⟨k2,p2,q2,s2,r2⟩):
  Calls prog 116 #[t,(KR s).v,.agg #[k2,p2,q2,s2,r2]] w (TabPost w t m g sv (Yu L (KR s) ⟨k2,p2,q2,s2,r2⟩)):=by
 have hsep:=Bk hT;have HT0:=zh hT;obtain⟨ht,hO⟩:=hT;have hvk:=Ks (Jo hs);have hvv:=Ks hv;have HV:=zh (fun W=>(hvk W:Calls prog 36 #[.agg #[.int .i64 3,(0:Int),(0:Int),s,(0:Int)]] W (BoolPost W true)));have HVV:=zh (fun W=>(hvv W:Calls prog 36 #[.agg #[k2,p2,q2,s2,r2]] W (BoolPost W true)));have HI:=zh (fun W=>(O5 W s:Calls prog 141 #[.agg #[.int .i64 3,(0:Int),(0:Int),s,(0:Int)]] W (IntBool W 0 false)));have hset:∀W,OMap W m g sv L->Calls prog 173 #[m,.agg #[.int .i64 3,(0:Int),(0:Int),s,(0:Int)],.agg #[k2,p2,q2,s2,r2]] W (OmPost W m g sv (Yu L (KR s) ⟨k2,p2,q2,s2,r2⟩)):=fun W h=>CI W m g sv L h hL (KR s) ⟨k2,p2,q2,s2,r2⟩ (BH hs) hw2 (Jo hs) hv (by show(3:Int)≠0;decide);obtain⟨R,hR⟩:∃R,R=Yu L (KR s) ⟨k2,p2,q2,s2,r2⟩:=⟨_,rfl⟩
 rw[<-hR] at hset ⊢;have HS:=zh hset;have HT:=zh ht;have HO:=zh hO;have hlt:t<w:=(Array.getElem?_eq_some_iff.1 ht).1;have HSEP:=zh hsep;clear ht hO hvk hvv hR hset hv hw2 hsep;show Calls prog 116 #[t,.agg #[.int .i64 3,(0:Int),(0:Int),s,(0:Int)],.agg #[k2,p2,q2,s2,r2]] w _;go_enter func116,ntmps116;go_wp2_with fail
 refine(HV.out _).mono ?_;rintro e w1 ⟨rfl,hb⟩;have Ha1:=hkh hb (Qm _ _ _);have Hb1:=hkh hb (QY _ _ _);have Ht1:=hkh hb (Qs HT.out _ _);have HW1:=hbn (QE _ _ _) hb;have hz1:=hb.size;try simp at hz1
 clear hb;have hya:=hsz Ha1;obtain⟨a0,a1,a2,a3,a4⟩:=zc5 Ha1;have hyb:=hsz Hb1;obtain⟨b0,b1,b2,b3,b4⟩:=zc5 Hb1;have hyt:=hsz Ht1;have t0:w1.cell? t=some (.slice none 0 0):=by rw[QA Ht1.out];rfl
 have t1:w1.cell? ⟨t,1,none⟩=some (.pointer (some m)):=by rw[QA Ht1.out];rfl
 go_wp2_with fail
 refine(HVV.out _).mono ?_;rintro e w2 ⟨rfl,hb⟩;have Ha2:=hkh hb Ha1;have Hb2:=hkh hb Hb1;have Ht2:=hkh hb Ht1;have HW2:=hbn HW1 hb;have hz2:=hb.size;try simp at hz2
 clear hb;clear hya a0 a1 a2 a3 a4 hyb b0 b1 b2 b3 b4 hyt t0 t1;have hya:=hsz Ha2;obtain⟨a0,a1,a2,a3,a4⟩:=zc5 Ha2;have hyb:=hsz Hb2;obtain⟨b0,b1,b2,b3,b4⟩:=zc5 Hb2;have hyt:=hsz Ht2;have t0:w2.cell? t=some (.slice none 0 0):=by rw[QA Ht2.out];rfl
 have t1:w2.cell? ⟨t,1,none⟩=some (.pointer (some m)):=by rw[QA Ht2.out];rfl
 go_wp2_with fail
 refine(HI.out _).mono ?_;rintro e w3 ⟨rfl,hb⟩;have Ha3:=hkh hb Ha2;have Hb3:=hkh hb Hb2;have Ht3:=hkh hb Ht2;have HW3:=hbn HW2 hb;have hz3:=hb.size;try simp at hz3
 clear hb;clear hya a0 a1 a2 a3 a4 hyb b0 b1 b2 b3 b4 hyt t0 t1;have hya:=hsz Ha3;obtain⟨a0,a1,a2,a3,a4⟩:=zc5 Ha3;have hyb:=hsz Hb3;obtain⟨b0,b1,b2,b3,b4⟩:=zc5 Hb3;have hyt:=hsz Ht3;have t0:w3.cell? t=some (.slice none 0 0):=by rw[QA Ht3.out];rfl
 have t1:w3.cell? ⟨t,1,none⟩=some (.pointer (some m)):=by rw[QA Ht3.out];rfl
 go_wp2;refine QK mixed (by kernel_rfl) ?_;go_wp2_with fail
 refine(HS.out _ (Zy HO.out HW3.out.drew)).mono ?_;rintro e w4 ⟨rfl,sv',hO4,hM4,hown4⟩;have HX:=zh (And.intro hO4 (And.intro hM4 hown4));clear hO4 hM4 hown4;go_wp2;refine⟨by kernel_rfl,?_⟩;go_wp2
 go_ret
 obtain⟨hO4,hM4,hown4⟩:=HX.out;have hb:Below w w w3.drew:=HW3.out.drew;have hM:Mods (OmF m g sv) w w4:=(Mods.of_below hb).trans hM4;refine⟨rfl,sv',⟨(hM.block t hlt HSEP.out).trans HT.out,hO4⟩,hM,fun b hb=> ?_⟩;rcases hown4 b hb with h|h
 ·exact .inl h
 ·exact .inr (Nat.le_trans HW3.out.size h)
theorem CJ (w:World):Calls prog 168 #[] w (fun e w'=>e= .returned (.pointer (some ⟨w+1,0,none⟩))/\OMap w' (w.heap.size+1) w.heap.size (.slice none 0 0) []/\Below w w w'):=by
 have hmm:= @run_makeMap prog;go_enter func168,ntmps168;go_wp2
 go_ret
 refine⟨by first|rfl|simp,⟨?_,World.ownsRow_nil _ _ _ _,fun s h=>(by cases h),[],fun _=>none,(G6 25 w).keep (Below.heap_alloc _ _ _ (by simp)),fun p=>⟨fun h=>(by cases h),fun⟨v,n,_,h⟩=>(by cases h)⟩,Si⟩,QE _ _ _⟩;exact QY _ _ _
theorem O7 (w:World):Calls prog 109 #[] w (fun e w'=>e= .returned (.pointer (some ⟨w'-1,0,none⟩))/\(∃m g,TabAt w' (w'.heap.size-1) m g (.slice none 0 0) []/\w.heap.size<=m/\w.heap.size<=g/\w.heap.size<=w'.heap.size-1)/\Below w w w'):=by
 go_enter func109,ntmps109;go_wp2_with fail
 refine(CJ _).mono ?_;rintro e w1 ⟨rfl,hO,hb⟩;have HO:=zh hO;have HB:=zh hb;have hz:=hb.size;clear hO hb;go_wp2
 go_ret
 have hb2:Below w1 w1 (w1.alloc (.cells #[.slice none 0 0,.pointer (some ⟨w+1,0,none⟩)] 136)):=(Below.refl _ _).alloc zl _;refine⟨by simp,⟨_,_,⟨?_,Zy HO.out hb2⟩,by omega,by omega,by simp;omega⟩,QC HB.out hb2⟩;have:=Qg w1 (.cells #[.slice none 0 0,.pointer (some ⟨w+1,0,none⟩)] 136);simpa using this
theorem O8 (w:World) (t m:Nat) (ht:w.heap[t]? =some (.cells #[.slice none 0 0,m] 136)):Calls prog 190 #[t] w (fun e w'=>e= .returned (.int .i64 0)/\w'=w):=by
 have t0:w.cell? t=some (.slice none 0 0):=by rw[QA ht];rfl
 have harr:Calls prog 232 #[t] w (fun e w'=>e= .returned (.int .i64 0)/\w'=w):=by
  clear ht;go_enter func232,ntmps232;go_wp2
  go_ret
  exact⟨rfl,rfl⟩
 have HA:=zh harr;clear harr ht t0;go_enter func190,ntmps190;go_wp2_with fail
 refine HA.out.mono ?_;rintro e w1 ⟨rfl,rfl⟩;go_wp2
 go_ret
 exact⟨rfl,rfl⟩
theorem TN (w:World) (h bo bt:Nat) (H:List PO) (hH:HpAt w h bo bt H) (k1 p1 q1:Int) (s1:ByteArray) (r1:Int) (hr:i64 r1) (ho:Gb H r1=none):
  Calls prog 87 #[h,.agg #[k1,p1,q1,s1,r1]] w (PtrPost w (.pointer none)):=by
 have hlt:h<w:=(Array.getElem?_eq_some_iff.1 hH.hh).1;have hbo:bo<w:=hH.objs.lt;have hlk:=fun W (hW:W.heap[bo]? =w.heap[bo]?)=>Ej hH.objs hr W hW;rw[ho] at hlk;have HLK:=zh hlk;have HH:=zh hH.hh;have h0:(w.alloc (oV k1 p1 q1 s1 r1)).cell? h=some (.map (some bo)):=by rw[QA (QI HH.out _)];rfl
 have h1:(w.alloc (oV k1 p1 q1 s1 r1)).cell? ⟨h,1,none⟩=some (.int .i64 (H.length:Nat)):=by rw[QA (QI HH.out _)];rfl
 have h2:(w.alloc (oV k1 p1 q1 s1 r1)).cell? ⟨h,2,none⟩=some (.map (some bt)):=by rw[QA (QI HH.out _)];rfl
 clear hH hlk ho hr;go_enter func87,ntmps87;go_wp2;refine QK mixed (by kernel_rfl) ?_;go_wp2_with (at_lookup;refine Qv _ rfl _ _ _ _ rfl _ _ _ rfl rfl (HLK.out _ (Below.heap_alloc w _ bo (by omega))) ?_)
 refine⟨by kernel_rfl,?_⟩;dsimp only[SK];go_wp2
 go_quiet (fail)
 go_wp2
 go_ret
 exact⟨rfl,below_drewN (Qf _ _).drew _⟩
theorem N6 (w:World) (h bo bt:Nat) (H:List PO) (hH:HpAt w h bo bt H) (k1 p1 q1:Int) (s1:ByteArray) (r1:Int) (hr:i64 r1) (x:PO) (ho:Gb H r1=some x) (hk:x.kind=k1):
  Calls prog 87 #[h,.agg #[k1,p1,q1,s1,r1]] w (PtrPost w (.pointer (some x.o))):=by
 have hlt:h<w:=(Array.getElem?_eq_some_iff.1 hH.hh).1;have hbo:bo<w:=hH.objs.lt;have hlk:=fun W (hW:W.heap[bo]? =w.heap[bo]?)=>Ej hH.objs hr W hW;rw[ho] at hlk;have HLK:=zh hlk;have HH:=zh hH.hh;have hx:=hH.one x (FJ ho);have hxl:x.o<w:=(Array.getElem?_eq_some_iff.1 hx.ho).1;have x0:(w.alloc (oV k1 p1 q1 s1 r1)).cell? x.o=some (.int .i64 x.kind):=by rw[QA (QI hx.ho _)];rfl
 rw[hk] at x0;clear hx;have h0:(w.alloc (oV k1 p1 q1 s1 r1)).cell? h=some (.map (some bo)):=by rw[QA (QI HH.out _)];rfl
 have h1:(w.alloc (oV k1 p1 q1 s1 r1)).cell? ⟨h,1,none⟩=some (.int .i64 (H.length:Nat)):=by rw[QA (QI HH.out _)];rfl
 have h2:(w.alloc (oV k1 p1 q1 s1 r1)).cell? ⟨h,2,none⟩=some (.map (some bt)):=by rw[QA (QI HH.out _)];rfl
 clear hH hlk ho hr hk;go_enter func87,ntmps87;go_wp2;refine QK mixed (by kernel_rfl) ?_;go_wp2_with (at_lookup;refine Qv _ rfl _ _ _ _ rfl _ _ _ rfl rfl (HLK.out _ (Below.heap_alloc w _ bo (by omega))) ?_)
 refine⟨by kernel_rfl,?_⟩;dsimp only[SK];go_wp2
 go_quiet (fail)
 go_wp2
 go_ret
 exact⟨rfl,below_drewN (Qf _ _).drew _⟩
theorem TO (w:World) (h bo bt:Nat) (H:List PO) (hH:HpAt w h bo bt H) (k1 p1 q1:Int) (s1:ByteArray) (r1:Int) (hr:i64 r1) (x:PO) (ho:Gb H r1=some x) (hk:x.kind≠k1):
  Calls prog 87 #[h,.agg #[k1,p1,q1,s1,r1]] w (PtrPost w (.pointer none)):=by
 have hlt:h<w:=(Array.getElem?_eq_some_iff.1 hH.hh).1;have hbo:bo<w:=hH.objs.lt;have hlk:=fun W (hW:W.heap[bo]? =w.heap[bo]?)=>Ej hH.objs hr W hW;rw[ho] at hlk;have HLK:=zh hlk;have HH:=zh hH.hh;have hx:=hH.one x (FJ ho);have hxl:x.o<w:=(Array.getElem?_eq_some_iff.1 hx.ho).1;have x0:(w.alloc (oV k1 p1 q1 s1 r1)).cell? x.o=some (.int .i64 x.kind):=by rw[QA (QI hx.ho _)];rfl
 have tk:(x.kind !=k1)=true:=by rw[bne_iff_ne];exact hk
 clear hx;have h0:(w.alloc (oV k1 p1 q1 s1 r1)).cell? h=some (.map (some bo)):=by rw[QA (QI HH.out _)];rfl
 have h1:(w.alloc (oV k1 p1 q1 s1 r1)).cell? ⟨h,1,none⟩=some (.int .i64 (H.length:Nat)):=by rw[QA (QI HH.out _)];rfl
 have h2:(w.alloc (oV k1 p1 q1 s1 r1)).cell? ⟨h,2,none⟩=some (.map (some bt)):=by rw[QA (QI HH.out _)];rfl
 clear hH hlk ho hr hk;go_enter func87,ntmps87;go_wp2;refine QK mixed (by kernel_rfl) ?_;go_wp2_with (at_lookup;refine Qv _ rfl _ _ _ _ rfl _ _ _ rfl rfl (HLK.out _ (Below.heap_alloc w _ bo (by omega))) ?_)
 refine⟨by kernel_rfl,?_⟩;dsimp only[SK];go_wp2
 go_quiet (fail)
 go_wp2
 go_ret
 exact⟨rfl,below_drewN (Qf _ _).drew _⟩
theorem EN (w:World) (h bo bt:Nat) (H:List PO) (hH:HpAt w h bo bt H) (k1 p1 q1:Int) (s1:ByteArray) (r1:Int) (hr:i64 r1):Calls prog 87 #[.pointer (some ⟨h,0,none⟩),.agg #[k1,p1,q1,s1,r1]] w (PtrPost w (SK (KO H ⟨k1,p1,q1,s1,r1⟩))):=by
 cases ho:Gb H r1 with
 |none=>rw[Mi ho];exact TN w h bo bt H hH k1 p1 q1 s1 r1 hr ho
 |some x=>
  rw[Mh ho];by_cases hk:x.kind=k1
  ·rw[if_pos hk];exact N6 w h bo bt H hH k1 p1 q1 s1 r1 hr x ho hk
  ·rw[if_neg hk];exact TO w h bo bt H hH k1 p1 q1 s1 r1 hr x ho hk
theorem Pb (w:World) (h bo bt:Nat) (H:List PO) (hH:HpAt w h bo bt H) (k1 p1 q1:Int) (s1:ByteArray) (r1:Int) (hr:i64 r1):Calls prog 84 #[.pointer (some ⟨h,0,none⟩),.agg #[k1,p1,q1,s1,r1]] w (PtrPost w (tabO (KO H ⟨k1,p1,q1,s1,r1⟩))):=by
 have hfi:=fun W (hb:Below w w W)=>EN W h bo bt H (hH.below hb) k1 p1 q1 s1 r1 hr;cases hf:KO H ⟨k1,p1,q1,s1,r1⟩ with
 |none=>
  rw[hf] at hfi;have HFI:=zh hfi;clear hfi hH hf;go_enter func84,ntmps84;go_wp2_with fail
  refine(HFI.out _ (Qf _ _)).mono ?_;rintro e w1 ⟨rfl,hb⟩;have HW1:=hbn (Qf _ _) hb;clear hb;dsimp only[SK];go_wp2
  go_ret
  exact⟨rfl,HW1.out⟩
 |some x=>
  rw[hf] at hfi;obtain⟨i,hi,hk,hri,hxm⟩:=K1 hf;have hx:=(hH.one x hxm).ho;have HX:=zh hx;have HFI:=zh hfi;clear hfi hH hf hi hk hri hxm hx;go_enter func84,ntmps84;go_wp2_with fail
  refine(HFI.out _ (Qf _ _)).mono ?_;rintro e w1 ⟨rfl,hb⟩;have HW1:=hbn (Qf _ _) hb;have x3:w1.cell? ⟨x.o,3,none⟩=some x.tabv:=by rw[QA (QL HW1.out HX.out)];rfl
  clear hb;dsimp only[SK];go_wp2
  go_ret
  exact⟨rfl,HW1.out⟩
theorem JT (w:World) (h:Nat):Calls prog 85 #[h] w (fun e w'=>e= .returned (.int .i64 8)/\w'=w):=by
 go_enter func85,ntmps85;go_wp2
 go_ret
 exact⟨rfl,rfl⟩
theorem D9 (w:World) (h:Nat) (k1 p1 q1:Int) (s1:ByteArray) (r1:Int) (s:ByteArray) (T:∀W,Below w w W->Calls prog 84 #[h,.agg #[k1,p1,q1,s1,r1]] W (PtrPost W (.pointer none))):
  Calls prog 32 #[h,.agg #[k1,p1,q1,s1,r1],.agg #[.int .i64 3,(0:Int),(0:Int),s,(0:Int)]] w (VrPost w (.error 8)):=by
 have HT:=zh T;clear T;go_enter func32,ntmps32;go_wp2_with fail
 refine(HT.out _ ((QE _ _ _).alloc (by simp;omega) _)).mono ?_;rintro e w1 ⟨rfl,hb⟩;have Hc1:=hkh hb (QU _ _ _ _);have HW1:=hbn (((QE _ _ _).alloc (by simp;omega) _)) hb;have hz1:=hb.size;try simp at hz1
 clear hb;have hyc:=hsz Hc1;obtain⟨c0,c1,c2,c3,c4⟩:=zc5 Hc1;obtain⟨fc0,fc1,fc2,fc3,fc4⟩:=zf5 Hc1;go_wp2_with fail
 refine(JT _ _).mono ?_;rintro e w2 ⟨rfl,rfl⟩;go_wp2;refine zr (by simp[results,results32,go_sem,hyc,c0,c1,c2,c3,c4]<;>rfl) ?_;exact ZF (c:=8) rfl (QG HW1.out (by omega) _ _ _ _ _)
theorem Ai (w:World) (h t:Nat) (k1 p1 q1:Int) (s1:ByteArray) (r1:Int) (s:ByteArray) (R:V) (T:∀W,Below w w W->Calls prog 84 #[h,.agg #[k1,p1,q1,s1,r1]] W (PtrPost W (.pointer (some t))))
  (G:∀W,Below w w W->Calls prog 86 #[t,.agg #[.int .i64 3,(0:Int),(0:Int),s,(0:Int)]] W (ValPost W R)):
  Calls prog 32 #[h,.agg #[k1,p1,q1,s1,r1],.agg #[.int .i64 3,(0:Int),(0:Int),s,(0:Int)]] w (VrPost w (.ok R)):=by
 have HT:=zh T;have HG:=zh G;clear T G;go_enter func32,ntmps32;go_wp2_with fail
 refine(HT.out _ ((QE _ _ _).alloc (by simp;omega) _)).mono ?_;rintro e w1 ⟨rfl,hb⟩;have Hb1:=hkh hb (Qa _ _ _ _);have Hc1:=hkh hb (QU _ _ _ _);have HW1:=hbn (((QE _ _ _).alloc (by simp;omega) _)) hb;have hz1:=hb.size;try simp at hz1
 clear hb;have hyb:=hsz Hb1;obtain⟨b0,b1,b2,b3,b4⟩:=zc5 Hb1;go_wp2_with fail
 refine(HG.out _ HW1.out).mono ?_;rintro e w2 ⟨rfl,hb⟩;have Hb2:=hkh hb Hb1;have Hc2:=hkh hb Hc1;have HW2:=hbn HW1 hb;have hz2:=hb.size;try simp at hz2
 clear hb;clear hyb b0 b1 b2 b3 b4;have hyc:=hsz Hc2;obtain⟨c0,c1,c2,c3,c4⟩:=zc5 Hc2;obtain⟨fc0,fc1,fc2,fc3,fc4⟩:=zf5 Hc2;go_wp2;refine zr (by simp[results,results32,go_sem,hyc,c0,c1,c2,c3,c4]<;>rfl) ?_;exact GJ (v:=R) rfl rfl (QG HW2.out (by omega) _ _ _ _ _)
theorem BV (w:World) (h bo bt:Nat) (H:List PO) (hH:HpAt w h bo bt H) (hS:Small 1000 H) (k1 p1 q1:Int) (s1:ByteArray) (r1:Int) (hr:i64 r1) (s:ByteArray) (hs:s.size<=4096):Calls prog 32 #[.pointer (some ⟨h,0,none⟩),.agg #[k1,p1,q1,s1,r1],.agg #[.int .i64 3,.int .i64 0,.int .i64 0,s,.int .i64 0]] w (VrPost w (UP (lh H) ⟨k1,p1,q1,s1,r1⟩ s)):=by
 have htab:=fun W (hb:Below w w W)=>Pb W h bo bt H (hH.below hb) k1 p1 q1 s1 r1 hr;unfold UP;rw[JJ];cases hf:KO H ⟨k1,p1,q1,s1,r1⟩ with
 |none=>rw[hf] at htab;exact D9 w h k1 p1 q1 s1 r1 s htab
 |some x=>
  rw[hf] at htab;obtain⟨i,hi,hk,hri,hxm⟩:=K1 hf;have htab:∀W,Below w w W->Calls prog 84 #[.pointer (some ⟨h,0,none⟩),.agg #[k1,p1,q1,s1,r1]] W (PtrPost W x.tabv):=htab;show Calls _ _ _ _ (VrPost w (if x.kind=4 then .ok (FQ (if x.kind=4 then x.L else[]) (KR s)) else .error 8));unfold PO.tabv at htab;by_cases h4:x.kind=4
  ·rw[if_pos h4,if_pos h4];rw[if_pos h4] at htab;exact Ai w h x.t k1 p1 q1 s1 r1 s _ htab (fun W hb=>O9 W x.t x.m x.g x.sv x.L (((hH.one x hxm).tb h4).below hb) (hS x hxm) s hs)
  ·rw[if_neg h4];rw[if_neg h4] at htab;exact D9 w h k1 p1 q1 s1 r1 s htab
theorem MJ (w:World) (hv:Value) (k1 p1 q1:Int) (s1:ByteArray) (r1:Int) (T:∀W,Below w w W->Calls prog 87 #[hv,.agg #[k1,p1,q1,s1,r1]] W (PtrPost W (.pointer none))):
  Calls prog 33 #[hv,.agg #[k1,p1,q1,s1,r1]] w (ValPost w V.nil):=by
 have HT:=zh T;clear T;go_enter func33,ntmps33;go_wp2_with fail
 refine(HT.out _ (QE _ _ _)).mono ?_;rintro e w1 ⟨rfl,hb⟩;have Hb1:=hkh hb (QY _ _ _);have HW1:=hbn (QE _ _ _) hb;have hz1:=hb.size;try simp at hz1
 clear hb;have hyb:=hsz Hb1;obtain⟨b0,b1,b2,b3,b4⟩:=zc5 Hb1;obtain⟨fb0,fb1,fb2,fb3,fb4⟩:=zf5 Hb1;go_wp2;refine zr (by simp[results,results33,go_sem,hyb,b0,b1,b2,b3,b4]<;>rfl) ?_;exact Qo rfl (QG HW1.out (by omega) _ _ _ _ _)
theorem MI (w:World) (h:Nat) (k1 p1 q1:Int) (s1:ByteArray) (r1:Int) (x:PO) (hx:w.heap[x.o]? =some (.cells x.cells 104)) (T:∀W,Below w w W->Calls prog 87 #[h,.agg #[k1,p1,q1,s1,r1]] W (PtrPost W (.pointer (some x.o)))):
  Calls prog 33 #[h,.agg #[k1,p1,q1,s1,r1]] w (ValPost w x.mt):=by
 have hxl:x.o<w:=(Array.getElem?_eq_some_iff.1 hx).1;have HT:=zh T;have HX:=zh hx;clear T hx;go_enter func33,ntmps33;go_wp2_with fail
 refine(HT.out _ (QE _ _ _)).mono ?_;rintro e w1 ⟨rfl,hb⟩;have Hb1:=hkh hb (QY _ _ _);have Hx1:=hkh hb (Qs HX.out _ _);have HW1:=hbn (QE _ _ _) hb;have hz1:=hb.size;try simp at hz1
 clear hb;have hyb:=hsz Hb1;obtain⟨b0,b1,b2,b3,b4⟩:=zc5 Hb1;obtain⟨fb0,fb1,fb2,fb3,fb4⟩:=zf5 Hb1;have hyx:=hsz Hx1;obtain⟨x0,x1,x2,x3,x4,x5,x6,x7,x8,x9⟩:=zc10 Hx1;go_wp2;refine zr (by simp[results,results33,go_sem,hyb,b0,b1,b2,b3,b4]<;>rfl) ?_;exact Qo rfl (QG HW1.out (by omega) _ _ _ _ _)
theorem AZ (w:World) (h bo bt:Nat) (H:List PO) (hH:HpAt w h bo bt H) (k1 p1 q1:Int) (s1:ByteArray) (r1:Int) (hr:i64 r1):Calls prog 33 #[.pointer (some ⟨h,0,none⟩),.agg #[k1,p1,q1,s1,r1]] w (ValPost w (Jt (lh H) ⟨k1,p1,q1,s1,r1⟩)):=by
 have hfi:=fun W (hb:Below w w W)=>EN W h bo bt H (hH.below hb) k1 p1 q1 s1 r1 hr;unfold Jt;rw[JJ];cases hf:KO H ⟨k1,p1,q1,s1,r1⟩ with
 |none=>rw[hf] at hfi;exact MJ w _ k1 p1 q1 s1 r1 hfi
 |some x=>
  rw[hf] at hfi;obtain⟨i,hi,hk,hri,hxm⟩:=K1 hf;exact MI w h k1 p1 q1 s1 r1 x (hH.one x hxm).ho hfi
theorem Er {base n:Nat} {w:World} {h:Nat} {M:LH} {o:LO} {f:FuncId} {args:Array Value} (hP:PHp base n w h M) (hb:base<=w) (hl:M.length<=60)
  (hc:∀bo bt H,HpAt w h bo bt H->H.length<=1000->Calls prog f args w (GrowPost w h bo bt H o)):
  Calls prog f args w (fun e w'=>(∃v,e= .returned v)/\PHp base n w' h (M++[o])/\BM base PB w w'):=by
 obtain⟨bo,bt,H,h1,h2,h3,h4⟩:=hP.ex;have hH:H.length=M.length:=by rw[<-h2];unfold lh;rw[List.length_map]
 refine(hc bo bt H h1 (by omega)).mono ?_;rintro e w' ⟨he,x,h5,h6,h7,h8,h9⟩;refine⟨he,⟨bo,bt,H++[x],h5,?_,?_,?_⟩,BM.of_mods h8 (fun b hb2=>⟨h4 b hb2,Mb h1 hb2⟩)⟩
 ·unfold lh;rw[List.map_append];unfold lh at h2;rw[h2,List.map_singleton,h6]
 ·intro y hy;rcases List.mem_append.1 hy with hy|hy
  ·exact h3 y hy
  ·rw[List.mem_singleton] at hy;rw[hy,h7];exact Nat.zero_le _
 ·rintro b (e|e|e|⟨y,hy,hyb⟩)
  ·exact h4 b (.inl e)
  ·exact h4 b (.inr (.inl e))
  ·exact h4 b (.inr (.inr (.inl e)))
  ·rcases List.mem_append.1 hy with hy|hy
   ·exact h4 b (.inr (.inr (.inr ⟨y,hy,hyb⟩)))
   ·rw[List.mem_singleton] at hy;subst hy;have:=h9 b hyb;omega
theorem MG (w:World) (h bo bt:Nat) (H:List PO) (hH:HpAt w h bo bt H) (hl:H.length<=1000) (tag:Int):Calls prog 65 #[.pointer (some ⟨h,0,none⟩),tag] w (GrowPost w h bo bt H ⟨5,V.nil,[]⟩):=by
 have hlt:h<w.heap.size:=(Array.getElem?_eq_some_iff.1 hH.hh).1;obtain⟨E0,hE0⟩:=hH.touched;have hbt:bt<w:=hE0.lt;have hbo:bo<w:=hH.objs.lt;have hHH:=zh hH;clear hH hE0;go_enter func65,ntmps65;go_wp2_with fail
 have hHW:=hHH.out.below (QE w (oV 0 0 0 ⟨#[]⟩ 0) (.cells #[.int .i64 5,tag,.string ⟨#[]⟩,.pointer none,(0:Int),(0:Int),(0:Int),.string ⟨#[]⟩,(0:Int),.slice none 0 0] 104));have hx:PObj ((w.alloc (oV 0 0 0 ⟨#[]⟩ 0)).alloc (.cells #[.int .i64 5,tag,.string ⟨#[]⟩,.pointer none,(0:Int),(0:Int),(0:Int),.string ⟨#[]⟩,(0:Int),.slice none 0 0] 104)) (⟨5,tag,⟨#[]⟩,V.nil,.slice none 0 0,w.heap.size+1,0,0,0,.slice none 0 0,[]⟩:PO):=⟨QY _ _ _,.inr (.inl rfl),Yf,fun _=>⟨rfl,rfl⟩,fun h=>absurd h (show¬(5:Int)=4 by decide)⟩
 obtain⟨hsep,hgg⟩:=Fn (x:=(⟨5,tag,⟨#[]⟩,V.nil,.slice none 0 0,w.heap.size+1,0,0,0,.slice none 0 0,[]⟩:PO)) hHH.out (Nat.le_add_right _ _) (fun h=>absurd h (show¬(5:Int)=4 by decide)) rfl;refine(Xe _ h bo bt H hHW hl (⟨5,tag,⟨#[]⟩,V.nil,.slice none 0 0,w.heap.size+1,0,0,0,.slice none 0 0,[]⟩:PO) hx hsep hgg).mono ?_;rintro e w3 ⟨rfl,hA,hM⟩;have HA:=zh hA;have HM:=zh hM;have HBW:=zh (QE w (oV 0 0 0 ⟨#[]⟩ 0) (.cells #[.int .i64 5,tag,.string ⟨#[]⟩,.pointer none,(0:Int),(0:Int),(0:Int),.string ⟨#[]⟩,(0:Int),.slice none 0 0] 104));have HR3:=zh (Qn hM (Qm _ _ _) (fun e=>by rcases e with e|e|e<;>omega));have hyr:=hsz HR3;clear hA hM hHW hx hsep hgg;obtain⟨r0,r1,r2,r3,r4⟩:=zc5 HR3;obtain⟨fr0,fr1,fr2,fr3,fr4⟩:=zf5 HR3;go_wp2;refine zr (by simp[results,results65,go_sem,hyr,r0,r1,r2,r3,r4]<;>rfl) ?_;refine Es hHH.out HBW.out HA.out HM.out HR3.out (Z5 (F:=fun b=>b=w.heap.size) (Mods.refl _ _) (.inl rfl) _ _ _ _ _) rfl rfl (fun b hb=> ?_) _;rcases hb with rfl|⟨h4,_⟩
 ·show w.heap.size<=w.heap.size+1;omega
 ·exact absurd h4 (show¬(5:Int)=4 by decide)
theorem Tb (w:World) (h bo bt:Nat) (H:List PO) (hH:HpAt w h bo bt H) (hl:H.length<=1000):Calls prog 61 #[.pointer (some ⟨h,0,none⟩)] w (GrowPost w h bo bt H ⟨4,V.nil,[]⟩):=by
 have hlt:h<w.heap.size:=(Array.getElem?_eq_some_iff.1 hH.hh).1;obtain⟨E0,hE0⟩:=hH.touched;have hbt:bt<w:=hE0.lt;have hbo:bo<w:=hH.objs.lt;have hHH:=zh hH;clear hH hE0;go_enter func61,ntmps61;go_wp2_with fail
 refine(O7 _).mono ?_;intro e w1 hpost;obtain⟨t,ht0⟩:∃t,t=w1.heap.size-1:=⟨_,rfl⟩
 rw[<-ht0] at hpost;obtain⟨rfl,⟨m,g,hT,hm,hg,ht⟩,hb⟩:=hpost;simp at hm hg ht;have HT:=zh hT;have HB1:=hbn (Qf _ _) hb;have HR1:=hkh hb (Qy w (oV 0 0 0 ⟨#[]⟩ 0));have hz1:=hb.size;simp at hz1;clear hb hT ht0;go_wp2_with fail
 have hHW:=hHH.out.below (HB1.out.alloc HB1.out.size (.cells #[.int .i64 4,(0:Int),.string ⟨#[]⟩,.pointer (some ⟨t,0,none⟩),(0:Int),(0:Int),(0:Int),.string ⟨#[]⟩,(0:Int),.slice none 0 0] 104));have hx:PObj (w1.alloc (.cells #[.int .i64 4,(0:Int),.string ⟨#[]⟩,.pointer (some ⟨t,0,none⟩),(0:Int),(0:Int),(0:Int),.string ⟨#[]⟩,(0:Int),.slice none 0 0] 104)) (⟨4,0,⟨#[]⟩,V.nil,.slice none 0 0,w1.heap.size,t,m,g,.slice none 0 0,[]⟩:PO):=⟨Qy _ _,.inl rfl,Yf,fun h=>absurd h (show¬(4:Int)=5 by decide),fun _=>HT.out.below (Qf _ _)⟩
 obtain⟨hsep,hgg⟩:=Fn (x:=(⟨4,0,⟨#[]⟩,V.nil,.slice none 0 0,w1.heap.size,t,m,g,.slice none 0 0,[]⟩:PO)) hHH.out (HB1.out.size) (fun _=>⟨by show w.heap.size<=m;omega,by show w.heap.size<=g;omega⟩) rfl;refine(Xe _ h bo bt H hHW hl (⟨4,0,⟨#[]⟩,V.nil,.slice none 0 0,w1.heap.size,t,m,g,.slice none 0 0,[]⟩:PO) hx hsep hgg).mono ?_;rintro e w3 ⟨rfl,hA,hM⟩;have HA:=zh hA;have HM:=zh hM;have HBW:=zh (HB1.out.alloc HB1.out.size (.cells #[.int .i64 4,(0:Int),.string ⟨#[]⟩,.pointer (some ⟨t,0,none⟩),(0:Int),(0:Int),(0:Int),.string ⟨#[]⟩,(0:Int),.slice none 0 0] 104));have HR3:=zh (Qn hM (QI HR1.out _) (fun e=>by rcases e with e|e|e<;>omega));have hyr:=hsz HR3;clear hA hM hHW hx hsep hgg;obtain⟨r0,r1,r2,r3,r4⟩:=zc5 HR3;obtain⟨fr0,fr1,fr2,fr3,fr4⟩:=zf5 HR3;go_wp2;refine zr (by simp[results,results61,go_sem,hyr,r0,r1,r2,r3,r4]<;>rfl) ?_;refine Es hHH.out HBW.out HA.out HM.out HR3.out (Z5 (F:=fun b=>b=w.heap.size) (Mods.refl _ _) (.inl rfl) _ _ _ _ _) rfl rfl (fun b hb=> ?_) _;rcases hb with e|⟨_,e|e|e|hb⟩
 ·have e:b=w1.heap.size:=e;have:=HB1.out.size;omega
 ·have e:b=t:=e;omega
 ·have e:b=m:=e;omega
 ·have e:b=g:=e;omega
 ·cases hb
theorem MH (w:World) (h bo bt:Nat) (H:List PO) (hH:HpAt w h bo bt H) (hl:H.length<=1000):Calls prog 63 #[.pointer (some ⟨h,0,none⟩),.string ⟨#[100]⟩] w (GrowPost w h bo bt H ⟨8,V.nil,[]⟩):=by
 have hlt:h<w.heap.size:=(Array.getElem?_eq_some_iff.1 hH.hh).1;obtain⟨E0,hE0⟩:=hH.touched;have hbt:bt<w:=hE0.lt;have hbo:bo<w:=hH.objs.lt;have hHH:=zh hH;clear hH hE0;obtain⟨C,hms⟩:∃C:Array Value,∀W:World,(Instr.makeSlice 41 (.int .i64 16) (.int .i64 16)).run prog W= .ok (.slice (some W) 16 16) (W.alloc (.cells C 25)):=by
  obtain⟨i,hi,hz,hs,hby⟩:=info_parts LA;exact⟨_,fun W=>run_make W 41 25 i _ underlying41 hi hz .i64 .i64 16 16 (by decide) (by decide) (by rw[hby];decide) (by decide)⟩
 go_enter func63,ntmps63;go_wp2_with fail
 have hHW:=hHH.out.below (QM w (oV 0 0 0 ⟨#[]⟩ 0) (.cells C 25) (.cells #[.int .i64 8,(0:Int),.string ⟨#[100]⟩,.pointer none,(0:Int),(0:Int),(0:Int),.string ⟨#[]⟩,(0:Int),.slice (some ⟨w+1,0,none⟩) 16 16] 104));have hx:PObj (((w.alloc (oV 0 0 0 ⟨#[]⟩ 0)).alloc (.cells C 25)).alloc (.cells #[.int .i64 8,(0:Int),.string ⟨#[100]⟩,.pointer none,(0:Int),(0:Int),(0:Int),.string ⟨#[]⟩,(0:Int),.slice (some ⟨w+1,0,none⟩) 16 16] 104)) (⟨8,0,⟨#[100]⟩,V.nil,.slice (some ⟨w+1,0,none⟩) 16 16,w.heap.size+1+1,0,0,0,.slice none 0 0,[]⟩:PO):=⟨QU _ _ _ _,.inr (.inr rfl),Yf,fun h=>absurd h (show¬(8:Int)=5 by decide),fun h=>absurd h (show¬(8:Int)=4 by decide)⟩
 obtain⟨hsep,hgg⟩:=Fn (x:=(⟨8,0,⟨#[100]⟩,V.nil,.slice (some ⟨w+1,0,none⟩) 16 16,w.heap.size+1+1,0,0,0,.slice none 0 0,[]⟩:PO)) hHH.out (by show w.heap.size<=w.heap.size+1+1;omega) (fun h=>absurd h (show¬(8:Int)=4 by decide)) rfl;refine(Xe _ h bo bt H hHW hl (⟨8,0,⟨#[100]⟩,V.nil,.slice (some ⟨w+1,0,none⟩) 16 16,w.heap.size+1+1,0,0,0,.slice none 0 0,[]⟩:PO) hx hsep hgg).mono ?_;rintro e w3 ⟨rfl,hA,hM⟩;have HA:=zh hA;have HM:=zh hM;have HBW:=zh (QM w (oV 0 0 0 ⟨#[]⟩ 0) (.cells C 25) (.cells #[.int .i64 8,(0:Int),.string ⟨#[100]⟩,.pointer none,(0:Int),(0:Int),(0:Int),.string ⟨#[]⟩,(0:Int),.slice (some ⟨w+1,0,none⟩) 16 16] 104));have HR3:=zh (Qn hM (Qi _ _ _ _) (fun e=>by rcases e with e|e|e<;>omega));have hyr:=hsz HR3;clear hA hM hHW hx hsep hgg;obtain⟨r0,r1,r2,r3,r4⟩:=zc5 HR3;obtain⟨fr0,fr1,fr2,fr3,fr4⟩:=zf5 HR3;go_wp2;refine zr (by simp[results,results63,go_sem,hyr,r0,r1,r2,r3,r4]<;>rfl) ?_;refine Es hHH.out HBW.out HA.out HM.out HR3.out (Z5 (F:=fun b=>b=w.heap.size) (Mods.refl _ _) (.inl rfl) _ _ _ _ _) rfl rfl (fun b hb=> ?_) _;rcases hb with rfl|⟨h4,_⟩
 ·show w.heap.size<=w.heap.size+1+1;omega
 ·exact absurd h4 (show¬(8:Int)=4 by decide)
theorem RQ (w:World):Calls prog 59 #[] w (fun e w'=>∃h,e= .returned (.pointer (some ⟨h,0,none⟩))/\PHp w.heap.size 0 w' h []/\Below w w w'):=by
 have hmm:= @run_makeMap prog;go_enter func59,ntmps59;go_wp2
 go_ret
 have hb:Below w w (((w.alloc (.map #[] 0)).alloc (.map #[] 0)).alloc (.cells #[.map (some w.heap.size),(0:Int),.map (some (w.heap.size+1))] 89)):=(QE _ _ _).alloc (by simp;omega) _;refine⟨w.heap.size+1+1,rfl,⟨w.heap.size,w.heap.size+1,[],⟨QU _ _ _ _,?_,⟨[],?_⟩,fun x hx=>(by cases hx),.nil,by omega,fun x hx=>(by cases hx)⟩,rfl,fun x hx=>(by cases hx),?_⟩,hb⟩
 ·exact(G6 3 w).keep (by rw[Qi,Qg])
 ·refine MapAt.keep (w:=(w.alloc (.map #[] 0)).alloc (.map #[] 0)) ?_ (Below.heap_alloc _ _ _ (by simp));have:=G6 (P:=prog) 3 (w.alloc (.map #[] 0));simpa using this
 ·rintro b (rfl|rfl|rfl|⟨x,hx,_⟩)
  ·omega
  ·omega
  ·omega
  ·cases hx
theorem AU (w:World) (h:Nat) (k1 p1 q1:Int) (s1:ByteArray) (r1:Int) (s:ByteArray) (k2 p2 q2:Int) (s2:ByteArray) (r2:Int) (T:∀W,Below w w W->Calls prog 84 #[h,.agg #[k1,p1,q1,s1,r1]] W (PtrPost W (.pointer none))):Calls prog 70 #[h,.agg #[k1,p1,q1,s1,r1],.agg #[.int .i64 3,(0:Int),(0:Int),s,(0:Int)],.agg #[k2,p2,q2,s2,r2]] w (IntPost w 8):=by
 have HT:=zh T;clear T;go_enter func70,ntmps70;go_wp2_with fail
 refine(HT.out _ ((QE _ _ _).alloc (by simp;omega) _)).mono ?_;rintro e w1 ⟨rfl,hb⟩;have HW1:=hbn (((QE _ _ _).alloc (by simp;omega) _)) hb;have hz1:=hb.size;try simp at hz1
 clear hb;go_wp2_with fail
 refine(JT _ _).mono ?_;rintro e w2 ⟨rfl,rfl⟩;go_wp2
 go_ret
 exact Qr rfl HW1.out
theorem CY (w:World) (h:Nat) (k1 p1 q1:Int) (s1:ByteArray) (r1:Int) (s:ByteArray) (k2 p2 q2:Int) (s2:ByteArray) (r2:Int) (tv:Addr) (T:∀W,Below w w W->Calls prog 84 #[h,.agg #[k1,p1,q1,s1,r1]] W (PtrPost W (.pointer (some tv)))) (V:∀W,Calls prog 36 #[.agg #[.int .i64 3,(0:Int),(0:Int),s,(0:Int)]] W (BoolPost W false)):Calls prog 70 #[h,.agg #[k1,p1,q1,s1,r1],.agg #[.int .i64 3,(0:Int),(0:Int),s,(0:Int)],.agg #[k2,p2,q2,s2,r2]] w (IntPost w 13):=by
 have HT:=zh T;have HV:=zh V;clear T V;go_enter func70,ntmps70;go_wp2_with fail
 refine(HT.out _ ((QE _ _ _).alloc (by simp;omega) _)).mono ?_;rintro e w1 ⟨rfl,hb⟩;have Hb1:=hkh hb (Qa _ _ _ _);have HW1:=hbn (((QE _ _ _).alloc (by simp;omega) _)) hb;have hz1:=hb.size;try simp at hz1
 clear hb;have hyb:=hsz Hb1;obtain⟨b0,b1,b2,b3,b4⟩:=zc5 Hb1;go_wp2_with fail
 refine(HV.out _).mono ?_;rintro e w2 ⟨rfl,hb⟩;have Hb2:=hkh hb Hb1;have HW2:=hbn HW1 hb;have hz2:=hb.size;try simp at hz2
 clear hb;clear hyb b0 b1 b2 b3 b4;have hyb:=hsz Hb2;obtain⟨b0,b1,b2,b3,b4⟩:=zc5 Hb2;go_wp2
 go_ret
 exact Qr rfl HW2.out
theorem AV (w:World) (h:Nat) (k1 p1 q1:Int) (s1:ByteArray) (r1:Int) (s:ByteArray) (k2 p2 q2:Int) (s2:ByteArray) (r2:Int) (tv:Addr) (c:Int) (hc:(c !=0)=true) (T:∀W,Below w w W->Calls prog 84 #[h,.agg #[k1,p1,q1,s1,r1]] W (PtrPost W (.pointer (some tv)))) (V:∀W,Calls prog 36 #[.agg #[.int .i64 3,(0:Int),(0:Int),s,(0:Int)]] W (BoolPost W true)) (E:∀W,Calls prog 115 #[.agg #[k2,p2,q2,s2,r2]] W (IntPost W c)):Calls prog 70 #[h,.agg #[k1,p1,q1,s1,r1],.agg #[.int .i64 3,(0:Int),(0:Int),s,(0:Int)],.agg #[k2,p2,q2,s2,r2]] w (IntPost w c):=by
 have HT:=zh T;have HV:=zh V;have HE:=zh E;clear T V E;go_enter func70,ntmps70;go_wp2_with fail
 refine(HT.out _ ((QE _ _ _).alloc (by simp;omega) _)).mono ?_;rintro e w1 ⟨rfl,hb⟩;have Hb1:=hkh hb (Qa _ _ _ _);have Hc1:=hkh hb (QU _ _ _ _);have HW1:=hbn (((QE _ _ _).alloc (by simp;omega) _)) hb;have hz1:=hb.size;try simp at hz1
 clear hb;have hyb:=hsz Hb1;obtain⟨b0,b1,b2,b3,b4⟩:=zc5 Hb1;have hyc:=hsz Hc1;obtain⟨c0,c1,c2,c3,c4⟩:=zc5 Hc1;go_wp2_with fail
 refine(HV.out _).mono ?_;rintro e w2 ⟨rfl,hb⟩;have Hb2:=hkh hb Hb1;have Hc2:=hkh hb Hc1;have HW2:=hbn HW1 hb;have hz2:=hb.size;try simp at hz2
 clear hb;clear hyb b0 b1 b2 b3 b4 hyc c0 c1 c2 c3 c4;have hyb:=hsz Hb2;obtain⟨b0,b1,b2,b3,b4⟩:=zc5 Hb2;have hyc:=hsz Hc2;obtain⟨c0,c1,c2,c3,c4⟩:=zc5 Hc2;go_wp2_with fail
 refine(HE.out _).mono ?_;rintro e w3 ⟨rfl,hb⟩;have Hb3:=hkh hb Hb2;have Hc3:=hkh hb Hc2;have HW3:=hbn HW2 hb;have hz3:=hb.size;try simp at hz3
 clear hb;clear hyb b0 b1 b2 b3 b4 hyc c0 c1 c2 c3 c4;have hyb:=hsz Hb3;obtain⟨b0,b1,b2,b3,b4⟩:=zc5 Hb3;have hyc:=hsz Hc3;obtain⟨c0,c1,c2,c3,c4⟩:=zc5 Hc3;go_wp2
 go_ret
 exact Qr rfl HW3.out
theorem SV (w:World) (h bo bt:Nat) (H:List PO) (hH:HpAt w h bo bt H) (i:Nat) (x:PO) (hi:H[i]? =some x) (h4:x.kind=4) (L':List Sl) (k1 p1 q1:Int) (s1:ByteArray) (r1:Int) (s:ByteArray) (k2 p2 q2:Int) (s2:ByteArray) (r2:Int) (T:∀W,Below w w W->Calls prog 84 #[h,.agg #[k1,p1,q1,s1,r1]] W (PtrPost W (.pointer (some x.t)))) (V:∀W,Calls prog 36 #[.agg #[.int .i64 3,(0:Int),(0:Int),s,(0:Int)]] W (BoolPost W true)) (E:∀W,Calls prog 115 #[.agg #[k2,p2,q2,s2,r2]] W (IntPost W 0))
  (S:∀W,Below w w W->Calls prog 116 #[.pointer (some x.t),.agg #[.int .i64 3,(0:Int),(0:Int),s,(0:Int)],.agg #[k2,p2,q2,s2,r2]] W (TabPost W x.t x.m x.g x.sv L'))
  (U:∀W H',HpAt W h bo bt H'->Calls prog 112 #[h,.agg #[k1,p1,q1,s1,r1],(0:Int)] W (TouchPost W h bo bt H')):
  Calls prog 70 #[h,.agg #[k1,p1,q1,s1,r1],.agg #[.int .i64 3,(0:Int),(0:Int),s,(0:Int)],.agg #[k2,p2,q2,s2,r2]] w (HSetPost w h bo bt H i x L'):=by
 have hbt:bt<w:=by obtain⟨E,hE⟩:=hH.touched;exact hE.lt
 have HF:=zh (fun b=>LC (b:=b) hH);have hxm:=List.mem_of_getElem? hi;have HX:=zh (fun b (hb:OmF x.m x.g x.sv b)=>LC hH (.inr (.inr (.inr ⟨x,hxm,.inr ⟨h4,.inr hb⟩⟩))));have HXM:=zh hxm;have HHH:=zh hH;have HI:=zh hi;have H4:=zh h4;have HT:=zh T;have HV:=zh V;have HE:=zh E;have HS:=zh S;have HU:=zh U;clear T V E S U hH hi h4 hxm;go_enter func70,ntmps70;go_wp2_with fail
 refine(HT.out _ ((QE _ _ _).alloc (by simp;omega) _)).mono ?_;rintro e w1 ⟨rfl,hb⟩;have Ha1:=hkh hb (Qi _ _ _ _);have Hb1:=hkh hb (Qa _ _ _ _);have Hc1:=hkh hb (QU _ _ _ _);have HW1:=hbn (((QE _ _ _).alloc (by simp;omega) _)) hb;have hz1:=hb.size;try simp at hz1
 clear hb;have hyb:=hsz Hb1;obtain⟨b0,b1,b2,b3,b4⟩:=zc5 Hb1.out;have hyc:=hsz Hc1;obtain⟨c0,c1,c2,c3,c4⟩:=zc5 Hc1.out;go_wp2_with fail
 refine(HV.out _).mono ?_;rintro e w2 ⟨rfl,hb⟩;have Ha2:=hkh hb Ha1.out;have Hb2:=hkh hb Hb1.out;have Hc2:=hkh hb Hc1.out;have HW2:=hbn HW1.out hb;have hz2:=hb.size;try simp at hz2
 clear hb;clear hyb b0 b1 b2 b3 b4 hyc c0 c1 c2 c3 c4;have hyc:=hsz Hc2;obtain⟨c0,c1,c2,c3,c4⟩:=zc5 Hc2.out;go_wp2_with fail
 refine(HE.out _).mono ?_;rintro e w3 ⟨rfl,hb⟩;have Ha3:=hkh hb Ha2.out;have Hb3:=hkh hb Hb2.out;have Hc3:=hkh hb Hc2.out;have HW3:=hbn HW2.out hb;have hz3:=hb.size;try simp at hz3
 clear hb;clear hyc c0 c1 c2 c3 c4;have SO:=zh (fun(W:World) (ha:W.heap[w.heap.size]? =some (oV k1 p1 q1 s1 r1)) (hb:W.heap[w.heap.size+1]? =some (oV 3 0 0 s 0)) (hc:W.heap[w.heap.size+1+1]? =some (oV k2 p2 q2 s2 r2))=>(show W.cell? w=some (.int .i64 k1)/\W.cell? ⟨w,1,none⟩=some (.int .i64 p1)/\W.cell? ⟨w,2,none⟩=some (.int .i64 q1)/\W.cell? ⟨w,3,none⟩=some (.string s1)/\W.cell? ⟨w,4,none⟩=some (.int .i64 r1)/\W.cell? ⟨w+1,0,none⟩=some (.int .i64 3)/\W.cell? ⟨w+1,1,none⟩=some (.int .i64 0)/\W.cell? ⟨w+1,2,none⟩=some (.int .i64 0)/\W.cell? ⟨w+1,3,none⟩=some (.string s)/\W.cell? ⟨w+1,4,none⟩=some (.int .i64 0)/\W.cell? ⟨w+1+1,0,none⟩=some (.int .i64 k2)/\W.cell? ⟨w+1+1,1,none⟩=some (.int .i64 p2)/\W.cell? ⟨w+1+1,2,none⟩=some (.int .i64 q2)/\W.cell? ⟨w+1+1,3,none⟩=some (.string s2)/\W.cell? ⟨w+1+1,4,none⟩=some (.int .i64 r2) from⟨by rw[QA ha];rfl,by rw[QA ha];rfl,by rw[QA ha];rfl,by rw[QA ha];rfl,by rw[QA ha];rfl,by rw[QA hb];rfl,by rw[QA hb];rfl,by rw[QA hb];rfl,by rw[QA hb];rfl,by rw[QA hb];rfl,by rw[QA hc];rfl,by rw[QA hc];rfl,by rw[QA hc];rfl,by rw[QA hc];rfl,by rw[QA hc];rfl⟩));go_wp2;have xa:w3.drew.heap[w.heap.size]? =some (oV k1 p1 q1 s1 r1):=Ha3.out;have xb:w3.drew.heap[w.heap.size+1]? =some (oV 3 0 0 s 0):=Hb3.out;have xc:w3.drew.heap[w.heap.size+1+1]? =some (oV k2 p2 q2 s2 r2):=Hc3.out;have hw3:w.heap.size<=w3.heap.size:=HW3.out.size
 go_region_held3 (fun w'=>w'.cell? w=some (.int .i64 k1)/\w'.cell? ⟨w,1,none⟩=some (.int .i64 p1)/\w'.cell? ⟨w,2,none⟩=some (.int .i64 q1)/\w'.cell? ⟨w,3,none⟩=some (.string s1)/\w'.cell? ⟨w,4,none⟩=some (.int .i64 r1)/\w'.cell? ⟨w+1,0,none⟩=some (.int .i64 3)/\w'.cell? ⟨w+1,1,none⟩=some (.int .i64 0)/\w'.cell? ⟨w+1,2,none⟩=some (.int .i64 0)/\w'.cell? ⟨w+1,3,none⟩=some (.string s)/\w'.cell? ⟨w+1,4,none⟩=some (.int .i64 0)/\w'.cell? ⟨w+1+1,0,none⟩=some (.int .i64 k2)/\w'.cell? ⟨w+1+1,1,none⟩=some (.int .i64 p2)/\w'.cell? ⟨w+1+1,2,none⟩=some (.int .i64 q2)/\w'.cell? ⟨w+1+1,3,none⟩=some (.string s2)/\w'.cell? ⟨w+1+1,4,none⟩=some (.int .i64 r2))
  (first|with_reducible exact SO.out _ (by assumption) (by assumption) (by assumption))
  (first|(go_at_call 116;refine(HS.out _ HW3.out.drew).mono ?_;rintro e w4 ⟨rfl,sv',hT4,hM4,hown4⟩;have xa4:=Qn hM4 xa (fun e=>by have:=HX.out _ e;omega);have xb4:=Qn hM4 xb (fun e=>by have:=HX.out _ e;omega);have xc4:=Qn hM4 xc (fun e=>by have:=HX.out _ e;omega);have HH4:=zh (((HHH.out.below HW3.out.drew).setTab HI.out H4.out hT4 hM4 hown4));have HM4:=zh hM4;have HO4:=zh hown4;clear hT4 hM4 hown4 xa xb xc)|(go_at_call 112;refine(HU.out _ _ HH4.out).mono ?_;rintro e w5 ⟨rfl,hH5,hM5⟩;have xa5:=Qn hM5 xa4 (by omega);have xb5:=Qn hM5 xb4 (by omega);have xc5:=Qn hM5 xc4 (by omega);have HH5:=zh hH5;have HM5:=zh hM5;clear hH5 hM5 xa4 xb4 xc4))
 go_wp2
 go_ret
 have hb3:Below w w w3.drew:=HW3.out.drew;refine⟨⟨_,rfl⟩,sv',HH5.out,((Mods.of_below hb3).trans (HM4.out.mono (fun k _ e=> .inr (.inr (.inr ⟨x,HXM.out,.inr ⟨H4.out,.inr e⟩⟩))))).trans (HM5.out.mono (fun k _ e=> .inr (.inr (.inl e)))),fun b hb=> ?_⟩;rcases HO4.out b hb with e|e
 ·exact .inl e
 ·exact .inr (Nat.le_trans hb3.size e)
theorem As (W:World) (k p q:Int) (s:ByteArray) (r:Int) (k2 p2 q2:Int) (s2:ByteArray) (r2:Int):
  (binOp .neq 25 (.agg #[k,p,q,s,r]) (.agg #[k2,p2,q2,s2,r2])).run prog W= .ok (.bool (!eqV ⟨k,p,q,s,r⟩ ⟨k2,p2,q2,s2,r2⟩)) W:=by
 by_cases h1:k=k2<;>by_cases h2:p=p2<;>by_cases h3:q=q2<;>by_cases h4:s=s2<;>by_cases h5:r=r2<;>simp[go_sem,eqV,h1,h2,h3,h4,h5];have h6:¬s.toList=s2.toList:=fun e=>h4 (ByteArray.ext (Array.toList_inj.1 (by rw[<-ByteArray.toList_eq,<-ByteArray.toList_eq];exact e)));have h7:(QF s==QF s2)=false:=beq_eq_false_iff_ne.2 (fun e=>h4 (JB e));first
 |(rw[if_neg h6];simp[h7];done)
 |(simp[h6,h7];done)
 |(have h8:¬QF s=QF s2:=fun e=>h4 (JB e);simp[h6,h8])
theorem Eb (w:World) (h:Nat) (k1 p1 q1:Int) (s1:ByteArray) (r1:Int) (k2 p2 q2:Int) (s2:ByteArray) (r2:Int) (F:∀W,Below w w W->Calls prog 87 #[h,.agg #[k1,p1,q1,s1,r1]] W (PtrPost W (.pointer none))):Calls prog 67 #[h,.agg #[k1,p1,q1,s1,r1],.agg #[k2,p2,q2,s2,r2]] w (IntPost w 8):=by
 have HF:=zh F;clear F;go_enter func67,ntmps67;go_wp2_with fail
 refine(HF.out _ (QE _ _ _)).mono ?_;rintro e w1 ⟨rfl,hb⟩;have HW1:=hbn (QE _ _ _) hb;have hz1:=hb.size;try simp at hz1
 clear hb;go_wp2_with fail
 refine(JT _ _).mono ?_;rintro e wm ⟨rfl,rfl⟩;go_wp2
 go_ret
 exact Qr rfl HW1.out
theorem Ee (w:World) (h:Nat) (k1 p1 q1:Int) (s1:ByteArray) (r1:Int) (k2 p2 q2:Int) (s2:ByteArray) (r2:Int) (x:PO) (X:w.heap[x.o]? =some (.cells x.cells 104)) (hk:x.kind=5) (F:∀W,Below w w W->Calls prog 87 #[h,.agg #[k1,p1,q1,s1,r1]] W (PtrPost W (.pointer (some x.o)))):Calls prog 67 #[h,.agg #[k1,p1,q1,s1,r1],.agg #[k2,p2,q2,s2,r2]] w (IntPost w 8):=by
 have HX:=zh X;have HF:=zh F;clear X F;go_enter func67,ntmps67;go_wp2_with fail
 refine(HF.out _ (QE _ _ _)).mono ?_;rintro e w1 ⟨rfl,hb⟩;have Hx1:=hkh hb (Qs HX.out _ _);have HW1:=hbn (QE _ _ _) hb;have hz1:=hb.size;try simp at hz1
 clear hb;have hyx:=hsz Hx1;obtain⟨x0,x1,x2,x3,x4,x5,x6,x7,x8,x9⟩:=zc10 Hx1;obtain⟨fx0,fx1,fx2,fx3,fx4,fx5,fx6,fx7,fx8,fx9⟩:=zf10 Hx1;rw[hk] at x0;clear hk;go_wp2_with fail
 refine(JT _ _).mono ?_;rintro e wm ⟨rfl,rfl⟩;go_wp2
 go_ret
 exact Qr rfl HW1.out
theorem Eg (w:World) (h:Nat) (k1 p1 q1:Int) (s1:ByteArray) (r1:Int) (k2 p2 q2:Int) (s2:ByteArray) (r2:Int) (x:PO) (X:w.heap[x.o]? =some (.cells x.cells 104)) (hk:x.kind=4) (hne:∀W:World,(binOp .neq 25 (.agg #[k2,p2,q2,s2,r2]) (.agg #[(0:Int),(0:Int),(0:Int),.string ⟨#[]⟩,(0:Int)])).run prog W= .ok (.bool true) W) (F:∀W,Below w w W->Calls prog 87 #[h,.agg #[k1,p1,q1,s1,r1]] W (PtrPost W (.pointer (some x.o)))) (T:∀W,Below w w W->Calls prog 84 #[h,.agg #[k2,p2,q2,s2,r2]] W (PtrPost W (.pointer none))):Calls prog 67 #[h,.agg #[k1,p1,q1,s1,r1],.agg #[k2,p2,q2,s2,r2]] w (IntPost w 8):=by
 have HX:=zh X;have HF:=zh F;have HT:=zh T;clear X F T;go_enter func67,ntmps67;go_wp2_with fail
 refine(HF.out _ (QE _ _ _)).mono ?_;rintro e w1 ⟨rfl,hb⟩;have Hx1:=hkh hb (Qs HX.out _ _);have Hb1:=hkh hb (QY _ _ _);have HW1:=hbn (QE _ _ _) hb;have hz1:=hb.size;try simp at hz1
 clear hb;have hyx:=hsz Hx1;obtain⟨x0,x1,x2,x3,x4,x5,x6,x7,x8,x9⟩:=zc10 Hx1;obtain⟨fx0,fx1,fx2,fx3,fx4,fx5,fx6,fx7,fx8,fx9⟩:=zf10 Hx1;have hyb:=hsz Hb1;obtain⟨b0,b1,b2,b3,b4⟩:=zc5 Hb1;rw[hk] at x0;go_wp2_with fail
 refine(HT.out _ HW1.out).mono ?_;rintro e w2 ⟨rfl,hb⟩;have Hx2:=hkh hb Hx1;have Hb2:=hkh hb Hb1;have HW2:=hbn HW1 hb;have hz2:=hb.size;try simp at hz2
 clear hb;clear hyx x0 fx0 x1 fx1 x2 fx2 x3 fx3 x4 fx4 x5 fx5 x6 fx6 x7 fx7 x8 fx8 x9 fx9 hyb b0 b1 b2 b3 b4;clear hk;go_wp2_with fail
 refine(JT _ _).mono ?_;rintro e wm ⟨rfl,rfl⟩;go_wp2
 go_ret
 exact Qr rfl HW2.out
theorem Ef (w:World) (h:Nat) (k1 p1 q1:Int) (s1:ByteArray) (r1:Int) (k2 p2 q2:Int) (s2:ByteArray) (r2:Int) (x:PO) (X:w.heap[x.o]? =some (.cells x.cells 104)) (hk:x.kind=8) (hne:∀W:World,(binOp .neq 25 (.agg #[k2,p2,q2,s2,r2]) (.agg #[(0:Int),(0:Int),(0:Int),.string ⟨#[]⟩,(0:Int)])).run prog W= .ok (.bool true) W) (F:∀W,Below w w W->Calls prog 87 #[h,.agg #[k1,p1,q1,s1,r1]] W (PtrPost W (.pointer (some x.o)))) (T:∀W,Below w w W->Calls prog 84 #[h,.agg #[k2,p2,q2,s2,r2]] W (PtrPost W (.pointer none))):Calls prog 67 #[h,.agg #[k1,p1,q1,s1,r1],.agg #[k2,p2,q2,s2,r2]] w (IntPost w 8):=by
 have HX:=zh X;have HF:=zh F;have HT:=zh T;clear X F T;go_enter func67,ntmps67;go_wp2_with fail
 refine(HF.out _ (QE _ _ _)).mono ?_;rintro e w1 ⟨rfl,hb⟩;have Hx1:=hkh hb (Qs HX.out _ _);have Hb1:=hkh hb (QY _ _ _);have HW1:=hbn (QE _ _ _) hb;have hz1:=hb.size;try simp at hz1
 clear hb;have hyx:=hsz Hx1;obtain⟨x0,x1,x2,x3,x4,x5,x6,x7,x8,x9⟩:=zc10 Hx1;obtain⟨fx0,fx1,fx2,fx3,fx4,fx5,fx6,fx7,fx8,fx9⟩:=zf10 Hx1;have hyb:=hsz Hb1;obtain⟨b0,b1,b2,b3,b4⟩:=zc5 Hb1;rw[hk] at x0;go_wp2_with fail
 refine(HT.out _ HW1.out).mono ?_;rintro e w2 ⟨rfl,hb⟩;have Hx2:=hkh hb Hx1;have Hb2:=hkh hb Hb1;have HW2:=hbn HW1 hb;have hz2:=hb.size;try simp at hz2
 clear hb;clear hyx x0 fx0 x1 fx1 x2 fx2 x3 fx3 x4 fx4 x5 fx5 x6 fx6 x7 fx7 x8 fx8 x9 fx9 hyb b0 b1 b2 b3 b4;clear hk;go_wp2_with fail
 refine(JT _ _).mono ?_;rintro e wm ⟨rfl,rfl⟩;go_wp2
 go_ret
 exact Qr rfl HW2.out
theorem Ea (w:World) (h bo bt:Nat) (H:List PO) (hH:HpAt w h bo bt H) (i:Nat) (x:PO) (hi:H[i]? =some x) (hk:x.kind=4) (k1 p1 q1:Int) (s1:ByteArray) (r1:Int) (k2 p2 q2:Int) (s2:ByteArray) (r2:Int) (hw2:WfV ⟨k2,p2,q2,s2,r2⟩) (hne:∀W:World,(binOp .neq 25 (.agg #[k2,p2,q2,s2,r2]) (.agg #[(0:Int),(0:Int),(0:Int),.string ⟨#[]⟩,(0:Int)])).run prog W= .ok (.bool true) W) (F:∀W,Below w w W->Calls prog 87 #[h,.agg #[k1,p1,q1,s1,r1]] W (PtrPost W (.pointer (some x.o)))) (tv:Addr) (T:∀W,Below w w W->Calls prog 84 #[h,.agg #[k2,p2,q2,s2,r2]] W (PtrPost W (.pointer (some tv))))
  (U:∀W H',HpAt W h bo bt H'->Calls prog 112 #[h,.agg #[k1,p1,q1,s1,r1],(0:Int)] W (TouchPost W h bo bt H')):
  Calls prog 67 #[h,.agg #[k1,p1,q1,s1,r1],.agg #[k2,p2,q2,s2,r2]] w (HMetaPost w h bo bt H i x ⟨k2,p2,q2,s2,r2⟩):=by
 have hxm:=List.mem_of_getElem? hi;have HX:=zh (hH.one x hxm).ho;have hxl:x.o<w:=hsz HX;have hxn:x.o≠w:=by omega
 have hxn2:w≠x.o:=by omega
 have HXM:=zh hxm;have HHH:=zh hH;have HI:=zh hi;have HK:=zh hk;have HWF:=zh hw2;have HF:=zh F;have HU:=zh U;have HT:=zh T;clear T;clear F U hH hi hxm hw2;go_enter func67,ntmps67;go_wp2_with fail
 refine(HF.out _ (QE _ _ _)).mono ?_;rintro e w1 ⟨rfl,hb⟩;have Hx1:=hkh hb (Qs HX.out _ _);have Ha1:=hkh hb (Qm _ _ _);have Hb1:=hkh hb (QY _ _ _);have HW1:=hbn (QE _ _ _) hb;have hz1:=hb.size;try simp at hz1
 clear hb;have hyx:=hsz Hx1;obtain⟨x0,x1,x2,x3,x4,x5,x6,x7,x8,x9⟩:=zc10 Hx1;obtain⟨fx0,fx1,fx2,fx3,fx4,fx5,fx6,fx7,fx8,fx9⟩:=zf10 Hx1;have hya:=hsz Ha1;obtain⟨a0,a1,a2,a3,a4⟩:=zc5 Ha1;have hyb:=hsz Hb1;obtain⟨b0,b1,b2,b3,b4⟩:=zc5 Hb1;rw[hk] at x0;go_wp2_with fail
 refine(HT.out _ HW1.out).mono ?_;rintro e w2 ⟨rfl,hb⟩;have Hx2:=hkh hb Hx1;have Ha2:=hkh hb Ha1;have Hb2:=hkh hb Hb1;have HW2:=hbn HW1 hb;have hz2:=hb.size;try simp at hz2
 clear hb;clear hyx x0 fx0 x1 fx1 x2 fx2 x3 fx3 x4 fx4 x5 fx5 x6 fx6 x7 fx7 x8 fx8 x9 fx9 hya a0 a1 a2 a3 a4 hyb b0 b1 b2 b3 b4;have hyx:=hsz Hx2;obtain⟨x0,x1,x2,x3,x4,x5,x6,x7,x8,x9⟩:=zc10 Hx2;obtain⟨fx0,fx1,fx2,fx3,fx4,fx5,fx6,fx7,fx8,fx9⟩:=zf10 Hx2;have hya:=hsz Ha2;obtain⟨a0,a1,a2,a3,a4⟩:=zc5 Ha2;have hyb:=hsz Hb2;obtain⟨b0,b1,b2,b3,b4⟩:=zc5 Hb2;clear hk;go_wp2_with fail
 refine(HU.out _ (H.set i {x with mt:=⟨k2,p2,q2,s2,r2⟩}) ((HHH.out.below HW2.out).setMt HI.out (by rw[HK.out];decide) HWF.out (GD Hx2.out _ _ _ _ _) (QQ (QQ (QQ (QQ (QQ (F:=fun b=>b=x.o) (Mods.refl _ _) (.inl rfl) _) (.inl rfl) _) (.inl rfl) _) (.inl rfl) _) (.inl rfl) _))).mono ?_;rintro e w5 ⟨rfl,hH5,hM5⟩;have HH5:=zh hH5;have HM5:=zh hM5;clear hH5 hM5;go_wp2
 go_ret
 have h1:=G4 w2 x.o (.int .i64 k2) (.int .i64 p2) (.int .i64 q2) (.string s2) (.int .i64 r2);exact⟨⟨_,rfl⟩,HH5.out,((Mods.of_below HW2.out).trans (h1.mono (fun k _ e=> .inr (.inr (.inr ⟨x,HXM.out,.inl e⟩))))).trans (HM5.out.mono (fun k _ e=> .inr (.inr (.inl e))))⟩
theorem Ed (w:World) (h bo bt:Nat) (H:List PO) (hH:HpAt w h bo bt H) (i:Nat) (x:PO) (hi:H[i]? =some x) (hk:x.kind=4) (k1 p1 q1:Int) (s1:ByteArray) (r1:Int) (k2 p2 q2:Int) (s2:ByteArray) (r2:Int) (hw2:WfV ⟨k2,p2,q2,s2,r2⟩) (hne:∀W:World,(binOp .neq 25 (.agg #[k2,p2,q2,s2,r2]) (.agg #[(0:Int),(0:Int),(0:Int),.string ⟨#[]⟩,(0:Int)])).run prog W= .ok (.bool false) W) (F:∀W,Below w w W->Calls prog 87 #[h,.agg #[k1,p1,q1,s1,r1]] W (PtrPost W (.pointer (some x.o))))
  (U:∀W H',HpAt W h bo bt H'->Calls prog 112 #[h,.agg #[k1,p1,q1,s1,r1],(0:Int)] W (TouchPost W h bo bt H')):
  Calls prog 67 #[h,.agg #[k1,p1,q1,s1,r1],.agg #[k2,p2,q2,s2,r2]] w (HMetaPost w h bo bt H i x ⟨k2,p2,q2,s2,r2⟩):=by
 have hxm:=List.mem_of_getElem? hi;have HX:=zh (hH.one x hxm).ho;have hxl:x.o<w:=hsz HX;have hxn:x.o≠w:=by omega
 have hxn2:w≠x.o:=by omega
 have HXM:=zh hxm;have HHH:=zh hH;have HI:=zh hi;have HK:=zh hk;have HWF:=zh hw2;have HF:=zh F;have HU:=zh U;clear F U hH hi hxm hw2;go_enter func67,ntmps67;go_wp2_with fail
 refine(HF.out _ (QE _ _ _)).mono ?_;rintro e w1 ⟨rfl,hb⟩;have Hx1:=hkh hb (Qs HX.out _ _);have Ha1:=hkh hb (Qm _ _ _);have Hb1:=hkh hb (QY _ _ _);have HW1:=hbn (QE _ _ _) hb;have hz1:=hb.size;try simp at hz1
 clear hb;have hyx:=hsz Hx1;obtain⟨x0,x1,x2,x3,x4,x5,x6,x7,x8,x9⟩:=zc10 Hx1;obtain⟨fx0,fx1,fx2,fx3,fx4,fx5,fx6,fx7,fx8,fx9⟩:=zf10 Hx1;have hya:=hsz Ha1;obtain⟨a0,a1,a2,a3,a4⟩:=zc5 Ha1;have hyb:=hsz Hb1;obtain⟨b0,b1,b2,b3,b4⟩:=zc5 Hb1;rw[hk] at x0;clear hk;go_wp2_with fail
 refine(HU.out _ (H.set i {x with mt:=⟨k2,p2,q2,s2,r2⟩}) ((HHH.out.below HW1.out).setMt HI.out (by rw[HK.out];decide) HWF.out (GD Hx1.out _ _ _ _ _) (QQ (QQ (QQ (QQ (QQ (F:=fun b=>b=x.o) (Mods.refl _ _) (.inl rfl) _) (.inl rfl) _) (.inl rfl) _) (.inl rfl) _) (.inl rfl) _))).mono ?_;rintro e w5 ⟨rfl,hH5,hM5⟩;have HH5:=zh hH5;have HM5:=zh hM5;clear hH5 hM5;go_wp2
 go_ret
 have h1:=G4 w1 x.o (.int .i64 k2) (.int .i64 p2) (.int .i64 q2) (.string s2) (.int .i64 r2);exact⟨⟨_,rfl⟩,HH5.out,((Mods.of_below HW1.out).trans (h1.mono (fun k _ e=> .inr (.inr (.inr ⟨x,HXM.out,.inl e⟩))))).trans (HM5.out.mono (fun k _ e=> .inr (.inr (.inl e))))⟩
theorem EZ (w:World) (h bo bt:Nat) (H:List PO) (hH:HpAt w h bo bt H) (i:Nat) (x:PO) (hi:H[i]? =some x) (hk:x.kind=8) (k1 p1 q1:Int) (s1:ByteArray) (r1:Int) (k2 p2 q2:Int) (s2:ByteArray) (r2:Int) (hw2:WfV ⟨k2,p2,q2,s2,r2⟩) (hne:∀W:World,(binOp .neq 25 (.agg #[k2,p2,q2,s2,r2]) (.agg #[(0:Int),(0:Int),(0:Int),.string ⟨#[]⟩,(0:Int)])).run prog W= .ok (.bool true) W) (F:∀W,Below w w W->Calls prog 87 #[h,.agg #[k1,p1,q1,s1,r1]] W (PtrPost W (.pointer (some x.o)))) (tv:Addr) (T:∀W,Below w w W->Calls prog 84 #[h,.agg #[k2,p2,q2,s2,r2]] W (PtrPost W (.pointer (some tv))))
  (U:∀W H',HpAt W h bo bt H'->Calls prog 112 #[h,.agg #[k1,p1,q1,s1,r1],(0:Int)] W (TouchPost W h bo bt H')):
  Calls prog 67 #[h,.agg #[k1,p1,q1,s1,r1],.agg #[k2,p2,q2,s2,r2]] w (HMetaPost w h bo bt H i x ⟨k2,p2,q2,s2,r2⟩):=by
 have hxm:=List.mem_of_getElem? hi;have HX:=zh (hH.one x hxm).ho;have hxl:x.o<w:=hsz HX;have hxn:x.o≠w:=by omega
 have hxn2:w≠x.o:=by omega
 have HXM:=zh hxm;have HHH:=zh hH;have HI:=zh hi;have HK:=zh hk;have HWF:=zh hw2;have HF:=zh F;have HU:=zh U;have HT:=zh T;clear T;clear F U hH hi hxm hw2;go_enter func67,ntmps67;go_wp2_with fail
 refine(HF.out _ (QE _ _ _)).mono ?_;rintro e w1 ⟨rfl,hb⟩;have Hx1:=hkh hb (Qs HX.out _ _);have Ha1:=hkh hb (Qm _ _ _);have Hb1:=hkh hb (QY _ _ _);have HW1:=hbn (QE _ _ _) hb;have hz1:=hb.size;try simp at hz1
 clear hb;have hyx:=hsz Hx1;obtain⟨x0,x1,x2,x3,x4,x5,x6,x7,x8,x9⟩:=zc10 Hx1;obtain⟨fx0,fx1,fx2,fx3,fx4,fx5,fx6,fx7,fx8,fx9⟩:=zf10 Hx1;have hya:=hsz Ha1;obtain⟨a0,a1,a2,a3,a4⟩:=zc5 Ha1;have hyb:=hsz Hb1;obtain⟨b0,b1,b2,b3,b4⟩:=zc5 Hb1;rw[hk] at x0;go_wp2_with fail
 refine(HT.out _ HW1.out).mono ?_;rintro e w2 ⟨rfl,hb⟩;have Hx2:=hkh hb Hx1;have Ha2:=hkh hb Ha1;have Hb2:=hkh hb Hb1;have HW2:=hbn HW1 hb;have hz2:=hb.size;try simp at hz2
 clear hb;clear hyx x0 fx0 x1 fx1 x2 fx2 x3 fx3 x4 fx4 x5 fx5 x6 fx6 x7 fx7 x8 fx8 x9 fx9 hya a0 a1 a2 a3 a4 hyb b0 b1 b2 b3 b4;have hyx:=hsz Hx2;obtain⟨x0,x1,x2,x3,x4,x5,x6,x7,x8,x9⟩:=zc10 Hx2;obtain⟨fx0,fx1,fx2,fx3,fx4,fx5,fx6,fx7,fx8,fx9⟩:=zf10 Hx2;have hya:=hsz Ha2;obtain⟨a0,a1,a2,a3,a4⟩:=zc5 Ha2;have hyb:=hsz Hb2;obtain⟨b0,b1,b2,b3,b4⟩:=zc5 Hb2;clear hk;go_wp2_with fail
 refine(HU.out _ (H.set i {x with mt:=⟨k2,p2,q2,s2,r2⟩}) ((HHH.out.below HW2.out).setMt HI.out (by rw[HK.out];decide) HWF.out (GD Hx2.out _ _ _ _ _) (QQ (QQ (QQ (QQ (QQ (F:=fun b=>b=x.o) (Mods.refl _ _) (.inl rfl) _) (.inl rfl) _) (.inl rfl) _) (.inl rfl) _) (.inl rfl) _))).mono ?_;rintro e w5 ⟨rfl,hH5,hM5⟩;have HH5:=zh hH5;have HM5:=zh hM5;clear hH5 hM5;go_wp2
 go_ret
 have h1:=G4 w2 x.o (.int .i64 k2) (.int .i64 p2) (.int .i64 q2) (.string s2) (.int .i64 r2);exact⟨⟨_,rfl⟩,HH5.out,((Mods.of_below HW2.out).trans (h1.mono (fun k _ e=> .inr (.inr (.inr ⟨x,HXM.out,.inl e⟩))))).trans (HM5.out.mono (fun k _ e=> .inr (.inr (.inl e))))⟩
theorem Ec (w:World) (h bo bt:Nat) (H:List PO) (hH:HpAt w h bo bt H) (i:Nat) (x:PO) (hi:H[i]? =some x) (hk:x.kind=8) (k1 p1 q1:Int) (s1:ByteArray) (r1:Int) (k2 p2 q2:Int) (s2:ByteArray) (r2:Int) (hw2:WfV ⟨k2,p2,q2,s2,r2⟩) (hne:∀W:World,(binOp .neq 25 (.agg #[k2,p2,q2,s2,r2]) (.agg #[(0:Int),(0:Int),(0:Int),.string ⟨#[]⟩,(0:Int)])).run prog W= .ok (.bool false) W) (F:∀W,Below w w W->Calls prog 87 #[h,.agg #[k1,p1,q1,s1,r1]] W (PtrPost W (.pointer (some x.o))))
  (U:∀W H',HpAt W h bo bt H'->Calls prog 112 #[h,.agg #[k1,p1,q1,s1,r1],(0:Int)] W (TouchPost W h bo bt H')):
  Calls prog 67 #[h,.agg #[k1,p1,q1,s1,r1],.agg #[k2,p2,q2,s2,r2]] w (HMetaPost w h bo bt H i x ⟨k2,p2,q2,s2,r2⟩):=by
 have hxm:=List.mem_of_getElem? hi;have HX:=zh (hH.one x hxm).ho;have hxl:x.o<w:=hsz HX;have hxn:x.o≠w:=by omega
 have hxn2:w≠x.o:=by omega
 have HXM:=zh hxm;have HHH:=zh hH;have HI:=zh hi;have HK:=zh hk;have HWF:=zh hw2;have HF:=zh F;have HU:=zh U;clear F U hH hi hxm hw2;go_enter func67,ntmps67;go_wp2_with fail
 refine(HF.out _ (QE _ _ _)).mono ?_;rintro e w1 ⟨rfl,hb⟩;have Hx1:=hkh hb (Qs HX.out _ _);have Ha1:=hkh hb (Qm _ _ _);have Hb1:=hkh hb (QY _ _ _);have HW1:=hbn (QE _ _ _) hb;have hz1:=hb.size;try simp at hz1
 clear hb;have hyx:=hsz Hx1;obtain⟨x0,x1,x2,x3,x4,x5,x6,x7,x8,x9⟩:=zc10 Hx1;obtain⟨fx0,fx1,fx2,fx3,fx4,fx5,fx6,fx7,fx8,fx9⟩:=zf10 Hx1;have hya:=hsz Ha1;obtain⟨a0,a1,a2,a3,a4⟩:=zc5 Ha1;have hyb:=hsz Hb1;obtain⟨b0,b1,b2,b3,b4⟩:=zc5 Hb1;rw[hk] at x0;clear hk;go_wp2_with fail
 refine(HU.out _ (H.set i {x with mt:=⟨k2,p2,q2,s2,r2⟩}) ((HHH.out.below HW1.out).setMt HI.out (by rw[HK.out];decide) HWF.out (GD Hx1.out _ _ _ _ _) (QQ (QQ (QQ (QQ (QQ (F:=fun b=>b=x.o) (Mods.refl _ _) (.inl rfl) _) (.inl rfl) _) (.inl rfl) _) (.inl rfl) _) (.inl rfl) _))).mono ?_;rintro e w5 ⟨rfl,hH5,hM5⟩;have HH5:=zh hH5;have HM5:=zh hM5;clear hH5 hM5;go_wp2
 go_ret
 have h1:=G4 w1 x.o (.int .i64 k2) (.int .i64 p2) (.int .i64 q2) (.string s2) (.int .i64 r2);exact⟨⟨_,rfl⟩,HH5.out,((Mods.of_below HW1.out).trans (h1.mono (fun k _ e=> .inr (.inr (.inr ⟨x,HXM.out,.inl e⟩))))).trans (HM5.out.mono (fun k _ e=> .inr (.inr (.inl e))))⟩
theorem MF {base n:Nat} {w:World} {h:Nat} {M:LH} (hP:PHp base n w h M) (hb:base<=w) (k1 p1 q1:Int) (s1:ByteArray) (r1:Int) (k2 p2 q2:Int) (s2:ByteArray) (r2:Int) (hr:i64 r1) (hw2:WfV ⟨k2,p2,q2,s2,r2⟩):Calls prog 67 #[.pointer (some ⟨h,0,none⟩),.agg #[.int .i64 k1,.int .i64 p1,.int .i64 q1,.string s1,.int .i64 r1],.agg #[.int .i64 k2,.int .i64 p2,.int .i64 q2,.string s2,.int .i64 r2]] w (fun e w'=>(∃v,e= .returned v)/\PHp base n w' h (Zc M ⟨k1,p1,q1,s1,r1⟩ ⟨k2,p2,q2,s2,r2⟩)/\BM base PB w w'):=by
 obtain⟨bo,bt,H,h1,h2,h3,h4⟩:=hP.ex;subst h2;have F:=fun W (hb:Below w w W)=>EN W h bo bt H (h1.below hb) k1 p1 q1 s1 r1 hr;have T:=fun W (hb:Below w w W)=>Pb W h bo bt H (h1.below hb) k2 p2 q2 s2 r2 hw2.r;have U:=fun W H' (hH':HpAt W h bo bt H')=>Pl W h bo bt H' hH' k1 p1 q1 s1 r1 hr;have N:=fun W=>As W k2 p2 q2 s2 r2 0 0 0 ⟨#[]⟩ 0;cases hf:KO H ⟨k1,p1,q1,s1,r1⟩ with
 |none=>
  rw[hf] at F;have hM:Zc (lh H) ⟨k1,p1,q1,s1,r1⟩ ⟨k2,p2,q2,s2,r2⟩=lh H:=by unfold Zc;rw[JJ,hf];rfl
  exact(Eb w h k1 p1 q1 s1 r1 k2 p2 q2 s2 r2 F).mono (fun e w' hp=>Kf hP hM hp)
 |some x=>
  rw[hf] at F;obtain⟨i,hi,hk,hri,hxm⟩:=K1 hf;have hri:r1=((i+1:Nat):Int):=hri;have hx:=h1.one x hxm;have hSM:Zc (lh H) ⟨k1,p1,q1,s1,r1⟩ ⟨k2,p2,q2,s2,r2⟩=if (x.kind=4\/x.kind=8)/\(eqV ⟨k2,p2,q2,s2,r2⟩ V.nil=true\/E1 (lh H) ⟨k2,p2,q2,s2,r2⟩=true) then(lh H).set (r1.toNat-1) ⟨x.kind,⟨k2,p2,q2,s2,r2⟩,x.lo.L⟩ else lh H:=by unfold Zc;rw[JJ,hf];rfl
  have fin:(x.kind=4\/x.kind=8)->(eqV ⟨k2,p2,q2,s2,r2⟩ V.nil=true\/E1 (lh H) ⟨k2,p2,q2,s2,r2⟩=true)->∀e w',HMetaPost w h bo bt H i x ⟨k2,p2,q2,s2,r2⟩ e w'->(∃v,e= .returned v)/\PHp base n w' h (Zc (lh H) ⟨k1,p1,q1,s1,r1⟩ ⟨k2,p2,q2,s2,r2⟩)/\BM base PB w w':=by
   rintro ha hb2 e w' ⟨he,hH',hM'⟩;refine⟨he,⟨bo,bt,_,hH',?_,?_,?_⟩,BM.of_mods hM' (fun b hb3=>⟨h4 b hb3,Mb h1 hb3⟩)⟩
   ·rw[hSM,if_pos ⟨ha,hb2⟩];unfold lh;rw[List.map_set,show r1.toNat-1=i by omega];rfl
   ·intro y hy;rcases JC hy with rfl|⟨j,hj,hjy⟩
    ·exact h3 x hxm
    ·exact h3 y (List.mem_of_getElem? hjy)
   ·rintro b (e|e|e|⟨y,hy,hyb⟩)
    ·exact h4 b (.inl e)
    ·exact h4 b (.inr (.inl e))
    ·exact h4 b (.inr (.inr (.inl e)))
    ·rcases JC hy with rfl|⟨j,hj,hjy⟩
     ·exact h4 b (.inr (.inr (.inr ⟨x,hxm,hyb⟩)))
     ·exact h4 b (.inr (.inr (.inr ⟨y,List.mem_of_getElem? hjy,hyb⟩)))
  have kinds:=hx.kd;rcases kinds with k4|k5|k8
  rotate_left
  ·exact(Ee w h k1 p1 q1 s1 r1 k2 p2 q2 s2 r2 x hx.ho k5 F).mono (fun e w' hp=>Kf hP (by rw[hSM,if_neg (by omega)]) hp)
  ·cases he:eqV ⟨k2,p2,q2,s2,r2⟩ V.nil with
   |true=>
    have N0:∀W:World,(binOp .neq 25 (.agg #[.int .i64 k2,.int .i64 p2,.int .i64 q2,.string s2,.int .i64 r2]) (.agg #[.int .i64 0,.int .i64 0,.int .i64 0,.string ⟨#[]⟩,.int .i64 0])).run prog W= .ok (.bool false) W:=fun W=>by have:=N W;rw[show eqV ⟨k2,p2,q2,s2,r2⟩ ⟨0,0,0,⟨#[]⟩,0⟩=true from he] at this;exact this
    exact(Ec w h bo bt H h1 i x hi k8 k1 p1 q1 s1 r1 k2 p2 q2 s2 r2 hw2 N0 F U).mono (fin (by omega) (.inl he))
   |false=>
    have N1:∀W:World,(binOp .neq 25 (.agg #[.int .i64 k2,.int .i64 p2,.int .i64 q2,.string s2,.int .i64 r2]) (.agg #[.int .i64 0,.int .i64 0,.int .i64 0,.string ⟨#[]⟩,.int .i64 0])).run prog W= .ok (.bool true) W:=fun W=>by have:=N W;rw[show eqV ⟨k2,p2,q2,s2,r2⟩ ⟨0,0,0,⟨#[]⟩,0⟩=false from he] at this;exact this
    have bad:(∀W,Below w w W->Calls prog 84 #[.pointer (some ⟨h,0,none⟩),.agg #[.int .i64 k2,.int .i64 p2,.int .i64 q2,.string s2,.int .i64 r2]] W (PtrPost W (.pointer none)))->E1 (lh H) ⟨k2,p2,q2,s2,r2⟩=false->Calls prog 67 #[.pointer (some ⟨h,0,none⟩),.agg #[.int .i64 k1,.int .i64 p1,.int .i64 q1,.string s1,.int .i64 r1],.agg #[.int .i64 k2,.int .i64 p2,.int .i64 q2,.string s2,.int .i64 r2]] w (fun e w'=>(∃v,e= .returned v)/\PHp base n w' h (Zc (lh H) ⟨k1,p1,q1,s1,r1⟩ ⟨k2,p2,q2,s2,r2⟩)/\BM base PB w w'):=fun hT hno=>
     (Ef w h k1 p1 q1 s1 r1 k2 p2 q2 s2 r2 x hx.ho k8 N1 F hT).mono (fun e w' hp=>Kf hP (by rw[hSM,if_neg (by rw[he,hno];simp)]) hp)
    cases hg:KO H ⟨k2,p2,q2,s2,r2⟩ with
    |none=>
     rw[hg] at T;exact bad T (by unfold E1;rw[JJ,hg];rfl)
    |some y=>
     rw[hg] at T;have T:∀W,Below w w W->Calls prog 84 #[.pointer (some ⟨h,0,none⟩),.agg #[.int .i64 k2,.int .i64 p2,.int .i64 q2,.string s2,.int .i64 r2]] W (PtrPost W y.tabv):=T;unfold PO.tabv at T;by_cases hy4:y.kind=4
     ·rw[if_pos hy4] at T;exact(EZ w h bo bt H h1 i x hi k8 k1 p1 q1 s1 r1 k2 p2 q2 s2 r2 hw2 N1 F _ T U).mono (fin (by omega) (.inr (by unfold E1;rw[JJ,hg];exact beq_iff_eq.2 hy4)))
     ·rw[if_neg hy4] at T;exact bad T (by unfold E1;rw[JJ,hg];exact beq_eq_false_iff_ne.2 hy4)
  ·cases he:eqV ⟨k2,p2,q2,s2,r2⟩ V.nil with
   |true=>
    have N0:∀W:World,(binOp .neq 25 (.agg #[.int .i64 k2,.int .i64 p2,.int .i64 q2,.string s2,.int .i64 r2]) (.agg #[.int .i64 0,.int .i64 0,.int .i64 0,.string ⟨#[]⟩,.int .i64 0])).run prog W= .ok (.bool false) W:=fun W=>by have:=N W;rw[show eqV ⟨k2,p2,q2,s2,r2⟩ ⟨0,0,0,⟨#[]⟩,0⟩=true from he] at this;exact this
    exact(Ed w h bo bt H h1 i x hi k4 k1 p1 q1 s1 r1 k2 p2 q2 s2 r2 hw2 N0 F U).mono (fin (by omega) (.inl he))
   |false=>
    have N1:∀W:World,(binOp .neq 25 (.agg #[.int .i64 k2,.int .i64 p2,.int .i64 q2,.string s2,.int .i64 r2]) (.agg #[.int .i64 0,.int .i64 0,.int .i64 0,.string ⟨#[]⟩,.int .i64 0])).run prog W= .ok (.bool true) W:=fun W=>by have:=N W;rw[show eqV ⟨k2,p2,q2,s2,r2⟩ ⟨0,0,0,⟨#[]⟩,0⟩=false from he] at this;exact this
    have bad:(∀W,Below w w W->Calls prog 84 #[.pointer (some ⟨h,0,none⟩),.agg #[.int .i64 k2,.int .i64 p2,.int .i64 q2,.string s2,.int .i64 r2]] W (PtrPost W (.pointer none)))->E1 (lh H) ⟨k2,p2,q2,s2,r2⟩=false->Calls prog 67 #[.pointer (some ⟨h,0,none⟩),.agg #[.int .i64 k1,.int .i64 p1,.int .i64 q1,.string s1,.int .i64 r1],.agg #[.int .i64 k2,.int .i64 p2,.int .i64 q2,.string s2,.int .i64 r2]] w (fun e w'=>(∃v,e= .returned v)/\PHp base n w' h (Zc (lh H) ⟨k1,p1,q1,s1,r1⟩ ⟨k2,p2,q2,s2,r2⟩)/\BM base PB w w'):=fun hT hno=>
     (Eg w h k1 p1 q1 s1 r1 k2 p2 q2 s2 r2 x hx.ho k4 N1 F hT).mono (fun e w' hp=>Kf hP (by rw[hSM,if_neg (by rw[he,hno];simp)]) hp)
    cases hg:KO H ⟨k2,p2,q2,s2,r2⟩ with
    |none=>
     rw[hg] at T;exact bad T (by unfold E1;rw[JJ,hg];rfl)
    |some y=>
     rw[hg] at T;have T:∀W,Below w w W->Calls prog 84 #[.pointer (some ⟨h,0,none⟩),.agg #[.int .i64 k2,.int .i64 p2,.int .i64 q2,.string s2,.int .i64 r2]] W (PtrPost W y.tabv):=T;unfold PO.tabv at T;by_cases hy4:y.kind=4
     ·rw[if_pos hy4] at T;exact(Ea w h bo bt H h1 i x hi k4 k1 p1 q1 s1 r1 k2 p2 q2 s2 r2 hw2 N1 F _ T U).mono (fin (by omega) (.inr (by unfold E1;rw[JJ,hg];exact beq_iff_eq.2 hy4)))
     ·rw[if_neg hy4] at T;exact bad T (by unfold E1;rw[JJ,hg];exact beq_eq_false_iff_ne.2 hy4)
theorem RP {base n:Nat} {w:World} {h:Nat} {M:LH} (hP:PHp base n w h M) (hb:base<=w) (hn:n<1000) (k1 p1 q1:Int) (s1:ByteArray) (r1:Int) (s:ByteArray) (k2 p2 q2:Int) (s2:ByteArray) (r2:Int) (hr:i64 r1) (hw2:WfV ⟨k2,p2,q2,s2,r2⟩):Calls prog 70 #[.pointer (some ⟨h,0,none⟩),.agg #[k1,p1,q1,s1,r1],.agg #[.int .i64 3,.int .i64 0,.int .i64 0,s,.int .i64 0],.agg #[k2,p2,q2,s2,r2]] w (fun e w'=>(∃v,e= .returned v)/\PHp base (n+1) w' h (Fm M ⟨k1,p1,q1,s1,r1⟩ s ⟨k2,p2,q2,s2,r2⟩)/\BM base PB w w'):=by
 obtain⟨bo,bt,H,h1,h2,h3,h4⟩:=hP.ex;subst h2;have hP1:=hP.up (Nat.le_succ n);have T:=fun W (hb:Below w w W)=>Pb W h bo bt H (h1.below hb) k1 p1 q1 s1 r1 hr;have U:=fun W H' (hH':HpAt W h bo bt H')=>Pl W h bo bt H' hH' k1 p1 q1 s1 r1 hr;have V:=fun W=>JY W 3 0 0 s 0;have E:=fun W=>SY W k2 p2 q2 s2 r2;have nope:(∀W,Below w w W->Calls prog 84 #[.pointer (some ⟨h,0,none⟩),.agg #[k1,p1,q1,s1,r1]] W (PtrPost W (.pointer none)))->Fm (lh H) ⟨k1,p1,q1,s1,r1⟩ s ⟨k2,p2,q2,s2,r2⟩=lh H->Calls prog 70 #[.pointer (some ⟨h,0,none⟩),.agg #[k1,p1,q1,s1,r1],.agg #[.int .i64 3,.int .i64 0,.int .i64 0,s,.int .i64 0],.agg #[k2,p2,q2,s2,r2]] w (fun e w'=>(∃v,e= .returned v)/\PHp base (n+1) w' h (Fm (lh H) ⟨k1,p1,q1,s1,r1⟩ s ⟨k2,p2,q2,s2,r2⟩)/\BM base PB w w'):=fun hT hM=>
  (AU w h k1 p1 q1 s1 r1 s k2 p2 q2 s2 r2 hT).mono (fun e w' hp=>Kf hP1 hM hp)
 cases hf:KO H ⟨k1,p1,q1,s1,r1⟩ with
 |none=>
  rw[hf] at T;exact nope T (by unfold Fm;rw[JJ,hf];rfl)
 |some x=>
  rw[hf] at T;have T:∀W,Below w w W->Calls prog 84 #[.pointer (some ⟨h,0,none⟩),.agg #[k1,p1,q1,s1,r1]] W (PtrPost W x.tabv):=T;unfold PO.tabv at T;obtain⟨i,hi,hk,hri,hxm⟩:=K1 hf;have hri:r1=((i+1:Nat):Int):=hri;have hx:=h1.one x hxm;have hSM:Fm (lh H) ⟨k1,p1,q1,s1,r1⟩ s ⟨k2,p2,q2,s2,r2⟩=if x.kind=4/\s.size<=4096/\Qt ⟨k2,p2,q2,s2,r2⟩=true then(lh H).set (r1.toNat-1) ⟨x.kind,x.mt,Yu x.lo.L (KR s) ⟨k2,p2,q2,s2,r2⟩⟩ else lh H:=by unfold Fm;rw[JJ,hf];rfl
  by_cases k4:x.kind=4
  rotate_left
  ·rw[if_neg k4] at T;exact nope T (by rw[hSM,if_neg (fun h=>k4 h.1)])
  ·rw[if_pos k4] at T;by_cases hs:s.size<=4096
   rotate_left
   ·rw[show Qt ⟨3,0,0,s,0⟩=false from M8 hs] at V;exact(CY w h k1 p1 q1 s1 r1 s k2 p2 q2 s2 r2 _ T V).mono (fun e w' hp=>Kf hP1 (by rw[hSM,if_neg (fun h=>hs h.2.1)]) hp)
   ·rw[show Qt ⟨3,0,0,s,0⟩=true from Jo hs] at V;by_cases hv:Qt ⟨k2,p2,q2,s2,r2⟩=true
    rotate_left
    ·exact(AV w h k1 p1 q1 s1 r1 s k2 p2 q2 s2 r2 _ _ (by rw[bne_iff_ne];exact P1 hv) T V E).mono (fun e w' hp=>Kf hP1 (by rw[hSM,if_neg (fun h=>hv h.2.2)]) hp)
    ·rw[Ul hv] at E;have S:=fun W (hb:Below w w W)=>O6 W x.t x.m x.g x.sv x.L ((hx.tb k4).below hb) (by have:=h3 x hxm;omega) s hs k2 p2 q2 s2 r2 hv hw2;refine(SV w h bo bt H h1 i x hi k4 _ k1 p1 q1 s1 r1 s k2 p2 q2 s2 r2 T V E S U).mono ?_;rintro e w' ⟨he,sv',hH',hM',hown⟩;have hloL:x.lo.L=x.L:=by unfold PO.lo;exact if_pos k4
     refine⟨he,⟨bo,bt,_,hH',?_,?_,?_⟩,BM.of_mods hM' (fun b hb3=>⟨h4 b hb3,Mb h1 hb3⟩)⟩
     ·rw[hSM,if_pos ⟨k4,hs,hv⟩,hloL];unfold lh;rw[List.map_set,show r1.toNat-1=i by omega];unfold PO.lo;simp only[k4,if_true]
     ·intro y hy;rcases JC hy with rfl|⟨j,hj,hjy⟩
      ·have h5:=PE x.L (KR s) ⟨k2,p2,q2,s2,r2⟩;have h6:=h3 x hxm;show(Yu x.L (KR s) ⟨k2,p2,q2,s2,r2⟩).length<=n+1;omega
      ·exact Nat.le_succ_of_le (h3 y (List.mem_of_getElem? hjy))
     ·rintro b (e|e|e|⟨y,hy,hyb⟩)
      ·exact h4 b (.inl e)
      ·exact h4 b (.inr (.inl e))
      ·exact h4 b (.inr (.inr (.inl e)))
      ·rcases JC hy with rfl|⟨j,hj,hjy⟩
       ·rcases hyb with e|⟨_,e|e|e|e⟩
        ·exact h4 b (.inr (.inr (.inr ⟨x,hxm,.inl e⟩)))
        ·exact h4 b (.inr (.inr (.inr ⟨x,hxm,.inr ⟨k4,.inl e⟩⟩)))
        ·exact h4 b (.inr (.inr (.inr ⟨x,hxm,.inr ⟨k4,.inr (.inl e)⟩⟩)))
        ·exact h4 b (.inr (.inr (.inr ⟨x,hxm,.inr ⟨k4,.inr (.inr (.inl e))⟩⟩)))
        ·rcases hown b e with e|e
         ·exact h4 b (.inr (.inr (.inr ⟨x,hxm,.inr ⟨k4,.inr (.inr (.inr e))⟩⟩)))
         ·omega
       ·exact h4 b (.inr (.inr (.inr ⟨y,List.mem_of_getElem? hjy,hyb⟩)))
end Go.Proofs.YthkpckgcgkijbaaGreatDoor
