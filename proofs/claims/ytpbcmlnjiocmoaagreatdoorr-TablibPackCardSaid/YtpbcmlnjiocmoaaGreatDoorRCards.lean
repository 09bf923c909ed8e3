/-
  DERIVED. GIVEN WITH THE SEED: THE CARDS: each row of YtpbcmlnjiocmoaaGreatDoorRRows.lean that lists a variable, with what it lists TIED to the program's text (the seventh form; the later family's looks); each row that meets fmt, with fmt's text TOLD by the authors' own Lean function (tested against real Go, not proved from fmt's source: count such statements apart). THE CARD IS WHAT COUNTS. Prove the row's statement (the work); the ties are given (YtpbcmlnjiocmoaaGreatDoorRTie.lean); close each card by the builder's one call (the guide's Derived/Test/ToyasCard.lean, 'card_holds'). Laid BY PROGRAM, IN A SANDBOX (cutbox-door.mjs). By AI agents, Wed Nov 11 2026. No macro, syntax, notation, axiom, sorry.
-/
import Derived.Test.YtpbcmlnjiocmoaaGreatDoorRRows
import GoSem.ClaimSeven
namespace Go.Proofs.YtpbcmlnjiocmoaaGreatDoorR
namespace Rows

/-- THE TIED CARD OF 'scriptinglaw22.TablibConcat'. -/
def tablibConcatCard : Claim7 := { stood := { row := tablibConcatRow, standIns := [], harness := (true, "ce0d0635c2a5bea2010a8b90bacf8d7b4f31e303794cc3e4ea3523229638d746"), looks := false }, kinds := [], alts := [], laidByText := true, laidKinds := [.data, .data, .data, .data, .pinned], laidTests := true, laidLooks := .later }
def TablibConcatCardSaid : Prop := Claim7.holds Tryz.pinned (.plain (OpenSpec.ofChange tablibConcatSpec)) tablibConcatCard

/-- THE TIED CARD OF 'scriptinglaw22.TablibInsert'. -/
def tablibInsertCard : Claim7 := { stood := { row := tablibInsertRow, standIns := [], harness := (true, "ce0d0635c2a5bea2010a8b90bacf8d7b4f31e303794cc3e4ea3523229638d746"), looks := false }, kinds := [], alts := [], laidByText := true, laidKinds := [.data, .data, .data, .data, .pinned], laidTests := true, laidLooks := .later }
def TablibInsertCardSaid : Prop := Claim7.holds Tryz.pinned (.plain (OpenSpec.ofChange tablibInsertSpec)) tablibInsertCard

/-- THE TIED CARD OF 'scriptinglaw22.TablibSorted'. -/
def tablibSortedCard : Claim7 := { stood := { row := tablibSortedRow, standIns := [], harness := (true, "ce0d0635c2a5bea2010a8b90bacf8d7b4f31e303794cc3e4ea3523229638d746"), looks := false }, kinds := [], alts := [], laidByText := true, laidKinds := [.data, .data, .data, .data, .pinned], laidTests := true, laidLooks := .later }
def TablibSortedCardSaid : Prop := Claim7.holds Tryz.pinned (.plain (OpenSpec.ofChange tablibSortedSpec)) tablibSortedCard

/-- THE TIED CARD OF 'scriptinglaw22.TablibPack'. -/
def tablibPackCard : Claim7 := { stood := { row := tablibPackRow, standIns := [], harness := (true, "ce0d0635c2a5bea2010a8b90bacf8d7b4f31e303794cc3e4ea3523229638d746"), looks := false }, kinds := [], alts := [], laidByText := true, laidKinds := [.data, .data, .data, .data, .pinned], laidTests := true, laidLooks := .later }
def TablibPackCardSaid : Prop := Claim7.holds Tryz.pinned (.plain (OpenSpec.ofChange tablibPackSpec)) tablibPackCard

/-- THE TIED CARD OF 'scriptinglaw22.TablibMove'. -/
def tablibMoveCard : Claim7 := { stood := { row := tablibMoveRow, standIns := [], harness := (true, "ce0d0635c2a5bea2010a8b90bacf8d7b4f31e303794cc3e4ea3523229638d746"), looks := false }, kinds := [], alts := [], laidByText := true, laidKinds := [.data, .data, .data, .data, .pinned], laidTests := true, laidLooks := .later }
def TablibMoveCardSaid : Prop := Claim7.holds Tryz.pinned (.plain (OpenSpec.ofChange tablibMoveSpec)) tablibMoveCard

/-- THE SECOND FORM's CARD OF 'scriptinglaw22.TablibConcat'. -/
def tablibConcatUptoCard : Claim7 := { stood := { row := tablibConcatUptoRow, standIns := [], harness := (true, "ce0d0635c2a5bea2010a8b90bacf8d7b4f31e303794cc3e4ea3523229638d746"), looks := false }, kinds := [], alts := [], laidByText := true, laidKinds := [.data, .data, .data, .data, .pinned], laidTests := true, laidLooks := .later }
def TablibConcatUptoCardSaid : Prop := Claim7.holds Tryz.pinned (.plain (OpenSpec.upto tablibConcatSpec)) tablibConcatUptoCard

/-- THE SECOND FORM's CARD OF 'scriptinglaw22.TablibInsert'. -/
def tablibInsertUptoCard : Claim7 := { stood := { row := tablibInsertUptoRow, standIns := [], harness := (true, "ce0d0635c2a5bea2010a8b90bacf8d7b4f31e303794cc3e4ea3523229638d746"), looks := false }, kinds := [], alts := [], laidByText := true, laidKinds := [.data, .data, .data, .data, .pinned], laidTests := true, laidLooks := .later }
def TablibInsertUptoCardSaid : Prop := Claim7.holds Tryz.pinned (.plain (OpenSpec.upto tablibInsertSpec)) tablibInsertUptoCard

/-- THE SECOND FORM's CARD OF 'scriptinglaw22.TablibSorted'. -/
def tablibSortedUptoCard : Claim7 := { stood := { row := tablibSortedUptoRow, standIns := [], harness := (true, "ce0d0635c2a5bea2010a8b90bacf8d7b4f31e303794cc3e4ea3523229638d746"), looks := false }, kinds := [], alts := [], laidByText := true, laidKinds := [.data, .data, .data, .data, .pinned], laidTests := true, laidLooks := .later }
def TablibSortedUptoCardSaid : Prop := Claim7.holds Tryz.pinned (.plain (OpenSpec.upto tablibSortedSpec)) tablibSortedUptoCard

/-- THE SECOND FORM's CARD OF 'scriptinglaw22.TablibPack'. -/
def tablibPackUptoCard : Claim7 := { stood := { row := tablibPackUptoRow, standIns := [], harness := (true, "ce0d0635c2a5bea2010a8b90bacf8d7b4f31e303794cc3e4ea3523229638d746"), looks := false }, kinds := [], alts := [], laidByText := true, laidKinds := [.data, .data, .data, .data, .pinned], laidTests := true, laidLooks := .later }
def TablibPackUptoCardSaid : Prop := Claim7.holds Tryz.pinned (.plain (OpenSpec.upto tablibPackSpec)) tablibPackUptoCard

/-- THE SECOND FORM's CARD OF 'scriptinglaw22.TablibMove'. -/
def tablibMoveUptoCard : Claim7 := { stood := { row := tablibMoveUptoRow, standIns := [], harness := (true, "ce0d0635c2a5bea2010a8b90bacf8d7b4f31e303794cc3e4ea3523229638d746"), looks := false }, kinds := [], alts := [], laidByText := true, laidKinds := [.data, .data, .data, .data, .pinned], laidTests := true, laidLooks := .later }
def TablibMoveUptoCardSaid : Prop := Claim7.holds Tryz.pinned (.plain (OpenSpec.upto tablibMoveSpec)) tablibMoveUptoCard
end Rows
end Go.Proofs.YtpbcmlnjiocmoaaGreatDoorR
