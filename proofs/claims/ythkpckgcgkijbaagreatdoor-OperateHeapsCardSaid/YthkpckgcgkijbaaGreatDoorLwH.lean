import Derived.Test.YthkpckgcgkijbaaGreatDoorLwA
import Derived.Test.YthkpckgcgkijbaaGreatDoorBase
set_option linter.unusedVariables false
set_option linter.unusedSimpArgs false
namespace Go.Proofs.YthkpckgcgkijbaaGreatDoor
open Go.RowKit Go.Proofs.Lexi Go.Proofs.Tryz
def Bx (b k:Nat):Prop:=b<=k/\k<b+1+1+1
def TupPost (g:V) (er:Int) (W:World) (e:Ending) (w':World):Prop:=e= .returned (.tuple #[.agg #[.int .i64 g.k,.int .i64 g.p,.int .i64 g.q,.string g.s,.int .i64 g.r],er])/\Below W W w'
theorem Mods.drew {F:Nat->Prop} (w:World):Mods F w w.drew:=⟨rfl,rfl,rfl,Nat.le_refl _,fun _ _ _=>rfl⟩
theorem Mods.newer {F:Nat->Prop} {a b c:World} {x:Nat} (h:Mods F a b) (k:Mods (fun y=>y=x) b c) (hx:a<=x):Mods F a c:=
 ⟨k.os.trans h.os,k.tape.trans h.tape,k.output.trans h.output,Nat.le_trans h.size k.size,fun i hi hF=>(k.block i (Nat.lt_of_lt_of_le hi h.size) (by omega)).trans (h.block i hi hF)⟩
def StS (C:World) (xb:Nat) (U:World):Prop:=Mods (fun y=>y=xb) C U/\∃k p q s r,U.heap[xb]? =some (oV k p q s r)
theorem StS.below {C U U':World} {xb:Nat} (h:StS C xb U) (hb:Below U U U'):StS C xb U':=by
 obtain⟨h1,k,p,q,s,r,h2⟩:=h;exact⟨h1.trans (Mods.of_below hb),k,p,q,s,r,QL hb h2⟩
theorem StS.five {C U:World} {xb:Nat} (h:StS C xb U) (k p q:Int) (s:ByteArray) (r:Int):StS C xb (((((U.setCell xb (.int .i64 k)).setCell ⟨xb,1,none⟩ (.int .i64 p)).setCell ⟨xb,2,none⟩ (.int .i64 q)).setCell ⟨xb,3,none⟩ (.string s)).setCell ⟨xb,4,none⟩ (.int .i64 r)):=by
 obtain⟨h1,k',p',q',s',r',h2⟩:=h;exact⟨Z5 h1 (.inl rfl) _ _ _ _ _,k,p,q,s,r,Qp h2 _ _ _ _ _⟩
theorem StS.refl {C:World} {xb:Nat} {k p q:Int} {s:ByteArray} {r:Int} (h:C.heap[xb]? =some (oV k p q s r)):StS C xb C:=⟨Mods.refl _ _,k,p,q,s,r,h⟩
theorem StS.drew {C:World} {xb:Nat} {k p q:Int} {s:ByteArray} {r:Int} (h:C.heap[xb]? =some (oV k p q s r)):StS C xb C.drew:=⟨Mods.drew _,k,p,q,s,r,h⟩
theorem StS.old {C U:World} {xb b:Nat} {o:Obj} (h:StS C xb U) (hb:C.heap[b]? =some o) (hne:b≠xb):U.heap[b]? =some o:=(h.1.block b (Array.getElem?_eq_some_iff.1 hb).1 hne).trans hb
theorem StS.base {w C U:World} {xb:Nat} (h:StS C xb U) (hb:Below w w C) (hx:w<=xb):Below w w U:=
 ((Mods.of_below (F:=fun _=>False) hb).newer h.1 hx).below zl (fun _ _ h=>h)
theorem StS.newer {F:Nat->Prop} {a C U:World} {xb:Nat} (h:Mods F a C) (hs:StS C xb U) (hx:a<=xb):Mods F a U:=h.newer hs.1 hx
theorem Pw {F:Nat->Prop} {a b:Nat} {w U:World} (h:Mods F w U) (ha:F a) (hb:F b) (x y z u v x' y' z' u' v':Value):Mods F w ((((((((((U.setCell a x).setCell ⟨a,1,none⟩ y).setCell ⟨a,2,none⟩ z).setCell ⟨a,3,none⟩ u).setCell ⟨a,4,none⟩ v).setCell b x').setCell ⟨b,1,none⟩ y').setCell ⟨b,2,none⟩ z').setCell ⟨b,3,none⟩ u').setCell ⟨b,4,none⟩ v'):=
 Z5 (Z5 h (.inl ha) _ _ _ _ _) (.inl hb) _ _ _ _ _
theorem Zn {c0 c1 c2 c3 c4 c5 c6 c7 c8 c9 p:Prop} (h:c0/\c1/\c2/\c3/\c4/\c5/\c6/\c7/\c8/\c9/\Hid p):p:=h.2.2.2.2.2.2.2.2.2.2.out
theorem Yl {c0 c1 c2 c3 c4 c5 c6 c7 c8 c9 c10 c11 c12 c13 c14 c15 c16 c17 c18 c19 c20 c21 c22 c23 c24 c25 c26 c27 c28 c29 c30 p:Prop} (h:c0/\c1/\c2/\c3/\c4/\c5/\c6/\c7/\c8/\c9/\c10/\c11/\c12/\c13/\c14/\c15/\c16/\c17/\c18/\c19/\c20/\c21/\c22/\c23/\c24/\c25/\c26/\c27/\c28/\c29/\c30/\Hid p):p:=h.2.2.2.2.2.2.2.2.2.2.2.2.2.2.2.2.2.2.2.2.2.2.2.2.2.2.2.2.2.2.2.out
theorem PHp.mods {base n:Nat} {w W:World} {h:Nat} {M:LH} (hP:PHp base n w h M) {b:Nat} (hm:Mods (Bx b) w W) (hb:b+1+1+1<=base):PHp base n W h M:=by
 obtain⟨bo,bt,H,h1,h2,h3,h4⟩:=hP.ex;exact⟨bo,bt,H,h1.keepF (fun k hk=>hm.block k (LC h1 hk) (fun e=>by have:=h4 k hk;have:=e.2;omega)),h2,h3,h4⟩
theorem RHp.mods {base n:Nat} {w W:World} {h:Nat} {M:LH} (hP:RHp base n w h M) {b:Nat} (hm:Mods (Bx b) w W) (hb:b+1+1+1<=base):RHp base n W h M:=by
 obtain⟨av,uv,H,h1,h2,h3,h4⟩:=hP.ex;exact⟨av,uv,H,h1.keepF (fun k hk=>by
  obtain⟨o,h5,_⟩:=F9 h1 hk;exact hm.block k (Array.getElem?_eq_some_iff.1 h5).1 (fun e=>by have:=h4 k hk;have:=e.2;omega)),h2,h3,h4⟩
theorem AH {base n:Nat} {w:World} {h:Nat} {M:LH} (hP:PHp base n w h M):∀x∈M,x.L.length<=n:=by
 obtain⟨bo,bt,H,h1,h2,h3,h4⟩:=hP.ex;intro x hx;rw[<-h2] at hx;obtain⟨y,hy,rfl⟩:=List.mem_map.1 hx;have:=h3 y hy;unfold PO.lo;simp only;split
 ·exact this
 ·exact Nat.zero_le _
theorem PC {n:Nat}:∀(M:LH),(∀x∈M,x.L.length<=n)->JG M<=(M.length:Int)*(12+4*(n:Int))
 |[],_=>by show(0:Int)<=_;simp
 |x::M,h=>by
  have h1:=PC M (fun y hy=>h y (by simp[hy]));have h2:=h x (by simp);have h3:Kv x<=12+4*(n:Int):=by
   unfold Kv;split
   ·omega
   ·split<;>omega
  show Kv x+JG M<=_;rw[List.length_cons,Int.natCast_add,Int.add_mul];omega
theorem N5 {base n:Nat} {w:World} {h:Nat} {M:LH} (hP:PHp base n w h M) (v:V):WfV (Jt M v):=by
 obtain⟨bo,bt,H,h1,h2,h3,h4⟩:=hP.ex;rw[<-h2];exact Ax h1 v
theorem opp {a b:Int} (h:a≠b):(a==b)=false:=by rw[beq_eq_false_iff_ne];exact h
theorem opn {a b:Int} (h:a≠b):(a !=b)=true:=by rw[bne_iff_ne];exact h
end Go.Proofs.YthkpckgcgkijbaaGreatDoor
