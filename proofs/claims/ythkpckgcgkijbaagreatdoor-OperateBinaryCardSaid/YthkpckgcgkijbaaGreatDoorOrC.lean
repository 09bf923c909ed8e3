import Derived.Test.YthkpckgcgkijbaaGreatDoorLwA
set_option linter.unusedVariables false
set_option linter.unusedSimpArgs false
namespace Go.Proofs.YthkpckgcgkijbaaGreatDoor
open Go.RowKit Go.Proofs.Lexi Go.Proofs.Tryz
theorem Ui {w W W':World} {f a b:V} {af:Int} {r g:Nat} {o:Obj} (hb:Below w w W) (hr:w<=r) (hW:Mods (· =r) W W') (hsz:W'.heap.size=W.heap.size) (hg:g=W.heap.size+1):
  NdPost w (Zr f [a,b] af) (.returned (ndV (Zr f [a,b] af) (.slice (some g) 2 2))) ((W'.alloc o).alloc (.cells #[.int .i64 a.k,.int .i64 a.p,.int .i64 a.q,.string a.s,.int .i64 a.r,.int .i64 b.k,.int .i64 b.p,.int .i64 b.q,.string b.s,.int .i64 b.r] 25)):=by
 subst hg;have hB:Below w w W':=⟨hW.os.trans hb.os,hW.tape.trans hb.tape,hW.output.trans hb.output,Nat.le_trans hb.size hW.size,fun k hk=>(hW.block k (Nat.lt_of_lt_of_le hk hb.size) (by omega)).trans (hb.block k hk)⟩
 have hz:(W'.alloc o).heap.size=W.heap.size+1:=by simp[hsz]
 exact⟨_,rfl,.inr ⟨W.heap.size+1,a,b,rfl,rfl,Nat.le_trans hb.size (Nat.le_succ _),by rw[<-hz];exact Qg _ _⟩,(hB.alloc hB.size _).alloc (by rw[hz];exact Nat.le_trans hb.size (Nat.le_succ _)) _⟩
end Go.Proofs.YthkpckgcgkijbaaGreatDoor
