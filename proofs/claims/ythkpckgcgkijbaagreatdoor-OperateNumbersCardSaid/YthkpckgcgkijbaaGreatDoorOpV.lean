import Derived.Test.YthkpckgcgkijbaaGreatDoorValB
set_option linter.unusedVariables false
set_option linter.unusedSimpArgs false
namespace Go.Proofs.YthkpckgcgkijbaaGreatDoor
open Go.RowKit
theorem plain_gt (o:Int) (ho:o=18∨o=19) (a b:V):zAy o a b=zAy (o-2) b a:=by
 have hc:compareV o a b=compareV (o-2) b a:=by
  unfold compareV
  rcases ho with rfl|rfl
  ·rw[if_pos (by omega),if_neg (by omega)];rfl
  ·rw[if_neg (by omega),if_pos (by omega)];rfl
 unfold zAy
 by_cases hv:zAi a=false∨zAi b=false
 ·rw[if_pos (by rcases hv with h|h;exact .inr (.inl h);exact .inr (.inr ⟨by omega,h⟩)),if_pos (by rcases hv with h|h;exact .inr (.inr ⟨by omega,h⟩);exact .inr (.inl h))]
 ·have h1:zAi a≠false:=fun h=>hv (.inl h)
  have h2:zAi b≠false:=fun h=>hv (.inr h)
  rw[if_neg (by simp[h1,h2];omega),if_neg (by omega),if_neg (by omega),if_neg (by omega),if_pos (by omega)]
  rw[if_neg (by simp[h1,h2];omega),if_neg (by omega),if_neg (by omega),if_neg (by omega),if_pos (by omega)]
  exact hc
end Go.Proofs.YthkpckgcgkijbaaGreatDoor
namespace Go.Proofs.YthkpckgcgkijbaaGreatDoor
open Go.RowKit Go.Proofs.Lexi
theorem plain_eq {o:Int} (ho2:o=14∨o=15) {a b:V} (hv1:zAi a=true) (hv2:zAi b=true):zAy o a b= .ok (boolV (eqV a b==decide (o=14))):=by
 unfold zAy
 rw[if_neg (by
  rintro(h|h|⟨_,h⟩)
  ·omega
  ·rw[hv1] at h;cases h
  ·rw[hv2] at h;cases h),if_neg (by omega)]
 rcases ho2 with rfl|rfl
 ·rw[if_pos rfl];rfl
 ·rw[if_neg (by omega),if_pos rfl];rfl
end Go.Proofs.YthkpckgcgkijbaaGreatDoor
