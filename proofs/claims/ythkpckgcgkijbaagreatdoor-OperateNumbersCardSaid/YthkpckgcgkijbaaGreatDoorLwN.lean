import Derived.Test.YthkpckgcgkijbaaGreatDoorHpC
set_option linter.unusedVariables false
set_option linter.unusedSimpArgs false
namespace Go.Proofs.YthkpckgcgkijbaaGreatDoor
open Go.RowKit Go.Proofs.Lexi
theorem heap14_old {w:World} {c:Nat} {o:Obj} (h:w.heap[c]? =some o) {b:Nat} (hb:c≠b) (x0 x1 x2 x3 x4 x5 x6 x7 x8 x9 x10 x11 x12 x13:Value):((((((((((((((w.setCell ⟨b,0,none⟩ x0).setCell ⟨b,1,none⟩ x1).setCell ⟨b,2,none⟩ x2).setCell ⟨b,3,none⟩ x3).setCell ⟨b,4,none⟩ x4).setCell ⟨b,5,none⟩ x5).setCell ⟨b,6,none⟩ x6).setCell ⟨b,7,none⟩ x7).setCell ⟨b,8,none⟩ x8).setCell ⟨b,9,none⟩ x9).setCell ⟨b,10,none⟩ x10).setCell ⟨b,11,none⟩ x11).setCell ⟨b,12,none⟩ x12).setCell ⟨b,13,none⟩ x13).heap[c]? =some o:=
 ((zAM (F:=fun k=>k=b) (Mods.refl _ w) (.inl rfl) x0 x1 x2 x3 x4 x5 x6 x7 x8 x9 x10 x11 x12 x13).block c (Array.getElem?_eq_some_iff.1 h).1 hb).trans h
theorem heap14_new {w:World} {b:Nat} {c0 c1 c2 c3 c4 c5 c6 c7 c8 c9 c10 c11 c12 c13:Value} {t:TypeId} {fz:Nat×Nat} (h:w.heap[b]? =some (.cells #[c0,c1,c2,c3,c4,c5,c6,c7,c8,c9,c10,c11,c12,c13] t fz)) (x0 x1 x2 x3 x4 x5 x6 x7 x8 x9 x10 x11 x12 x13:Value):((((((((((((((w.setCell ⟨b,0,none⟩ x0).setCell ⟨b,1,none⟩ x1).setCell ⟨b,2,none⟩ x2).setCell ⟨b,3,none⟩ x3).setCell ⟨b,4,none⟩ x4).setCell ⟨b,5,none⟩ x5).setCell ⟨b,6,none⟩ x6).setCell ⟨b,7,none⟩ x7).setCell ⟨b,8,none⟩ x8).setCell ⟨b,9,none⟩ x9).setCell ⟨b,10,none⟩ x10).setCell ⟨b,11,none⟩ x11).setCell ⟨b,12,none⟩ x12).setCell ⟨b,13,none⟩ x13).heap[b]? =some (.cells #[x0,x1,x2,x3,x4,x5,x6,x7,x8,x9,x10,x11,x12,x13] t fz):=by
 replace h:=zAP h 0 x0
 change _=some (Obj.cells #[x0,c1,c2,c3,c4,c5,c6,c7,c8,c9,c10,c11,c12,c13] t fz) at h
 replace h:=zAP h 1 x1
 change _=some (Obj.cells #[x0,x1,c2,c3,c4,c5,c6,c7,c8,c9,c10,c11,c12,c13] t fz) at h
 replace h:=zAP h 2 x2
 change _=some (Obj.cells #[x0,x1,x2,c3,c4,c5,c6,c7,c8,c9,c10,c11,c12,c13] t fz) at h
 replace h:=zAP h 3 x3
 change _=some (Obj.cells #[x0,x1,x2,x3,c4,c5,c6,c7,c8,c9,c10,c11,c12,c13] t fz) at h
 replace h:=zAP h 4 x4
 change _=some (Obj.cells #[x0,x1,x2,x3,x4,c5,c6,c7,c8,c9,c10,c11,c12,c13] t fz) at h
 replace h:=zAP h 5 x5
 change _=some (Obj.cells #[x0,x1,x2,x3,x4,x5,c6,c7,c8,c9,c10,c11,c12,c13] t fz) at h
 replace h:=zAP h 6 x6
 change _=some (Obj.cells #[x0,x1,x2,x3,x4,x5,x6,c7,c8,c9,c10,c11,c12,c13] t fz) at h
 replace h:=zAP h 7 x7
 change _=some (Obj.cells #[x0,x1,x2,x3,x4,x5,x6,x7,c8,c9,c10,c11,c12,c13] t fz) at h
 replace h:=zAP h 8 x8
 change _=some (Obj.cells #[x0,x1,x2,x3,x4,x5,x6,x7,x8,c9,c10,c11,c12,c13] t fz) at h
 replace h:=zAP h 9 x9
 change _=some (Obj.cells #[x0,x1,x2,x3,x4,x5,x6,x7,x8,x9,c10,c11,c12,c13] t fz) at h
 replace h:=zAP h 10 x10
 change _=some (Obj.cells #[x0,x1,x2,x3,x4,x5,x6,x7,x8,x9,x10,c11,c12,c13] t fz) at h
 replace h:=zAP h 11 x11
 change _=some (Obj.cells #[x0,x1,x2,x3,x4,x5,x6,x7,x8,x9,x10,x11,c12,c13] t fz) at h
 replace h:=zAP h 12 x12
 change _=some (Obj.cells #[x0,x1,x2,x3,x4,x5,x6,x7,x8,x9,x10,x11,x12,c13] t fz) at h
 replace h:=zAP h 13 x13
 change _=some (Obj.cells #[x0,x1,x2,x3,x4,x5,x6,x7,x8,x9,x10,x11,x12,x13] t fz) at h
 exact h
end Go.Proofs.YthkpckgcgkijbaaGreatDoor
