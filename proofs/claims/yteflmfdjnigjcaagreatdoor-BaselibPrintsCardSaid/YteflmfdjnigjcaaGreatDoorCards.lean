/-
  DERIVED. GIVEN WITH THE SEED: THE CARDS: each row of YteflmfdjnigjcaaGreatDoorRows.lean that lists a variable, with what it lists TIED to the program's text (the seventh form; the later family's looks); each row that meets fmt, with fmt's text TOLD by the authors' own Lean function (tested against real Go, not proved from fmt's source: count such statements apart). THE CARD IS WHAT COUNTS. Prove the row's statement (the work); the ties are given (YteflmfdjnigjcaaGreatDoorTie.lean); close each card by the builder's one call (the guide's Derived/Test/ToyasCard.lean, 'card_holds'). Laid BY PROGRAM, IN A SANDBOX (cutbox-door.mjs). By AI agents, Wed Nov 11 2026. No macro, syntax, notation, axiom, sorry.
-/
import Derived.Test.YteflmfdjnigjcaaGreatDoorRows
import GoSem.ClaimSeven
namespace Go.Proofs.YteflmfdjnigjcaaGreatDoor
namespace Rows

/-- THE TIED CARD OF 'scriptinglaw24.BaselibPrints'. -/
def baselibPrintsCard : Claim7 := { stood := { row := baselibPrintsRow, standIns := [], harness := (true, "6cfd30bd9e03ec106ab39e576f8e67c0d6472db87eb48577a856c36fbec13ce6"), looks := false }, kinds := [], alts := [], laidByText := true, laidKinds := [.data, .data, .data, .data, .listed, .data, .pinned], laidTests := true, laidLooks := .later }
def BaselibPrintsCardSaid : Prop := Claim7.holds Tryz.pinned (.plain (OpenSpec.ofChange baselibPrintsSpec)) baselibPrintsCard

/-- THE TIED CARD OF 'scriptinglaw24.BaselibPairs'. -/
def baselibPairsCard : Claim7 := { stood := { row := baselibPairsRow, standIns := [], harness := (true, "6cfd30bd9e03ec106ab39e576f8e67c0d6472db87eb48577a856c36fbec13ce6"), looks := false }, kinds := [], alts := [], laidByText := true, laidKinds := [.data, .data, .data, .data, .listed, .data, .pinned], laidTests := true, laidLooks := .later }
def BaselibPairsCardSaid : Prop := Claim7.holds Tryz.pinned (.plain (OpenSpec.ofChange baselibPairsSpec)) baselibPairsCard

/-- THE TIED CARD OF 'scriptinglaw24.BaselibRaws'. -/
def baselibRawsCard : Claim7 := { stood := { row := baselibRawsRow, standIns := [], harness := (true, "6cfd30bd9e03ec106ab39e576f8e67c0d6472db87eb48577a856c36fbec13ce6"), looks := false }, kinds := [], alts := [], laidByText := true, laidKinds := [.data, .data, .data, .data, .listed, .data, .pinned], laidTests := true, laidLooks := .later }
def BaselibRawsCardSaid : Prop := Claim7.holds Tryz.pinned (.plain (OpenSpec.ofChange baselibRawsSpec)) baselibRawsCard

/-- THE SECOND FORM's CARD OF 'scriptinglaw24.BaselibPrints'. -/
def baselibPrintsUptoCard : Claim7 := { stood := { row := baselibPrintsUptoRow, standIns := [], harness := (true, "6cfd30bd9e03ec106ab39e576f8e67c0d6472db87eb48577a856c36fbec13ce6"), looks := false }, kinds := [], alts := [], laidByText := true, laidKinds := [.data, .data, .data, .data, .listed, .data, .pinned], laidTests := true, laidLooks := .later }
def BaselibPrintsUptoCardSaid : Prop := Claim7.holds Tryz.pinned (.plain (OpenSpec.upto baselibPrintsSpec)) baselibPrintsUptoCard

/-- THE SECOND FORM's CARD OF 'scriptinglaw24.BaselibPairs'. -/
def baselibPairsUptoCard : Claim7 := { stood := { row := baselibPairsUptoRow, standIns := [], harness := (true, "6cfd30bd9e03ec106ab39e576f8e67c0d6472db87eb48577a856c36fbec13ce6"), looks := false }, kinds := [], alts := [], laidByText := true, laidKinds := [.data, .data, .data, .data, .listed, .data, .pinned], laidTests := true, laidLooks := .later }
def BaselibPairsUptoCardSaid : Prop := Claim7.holds Tryz.pinned (.plain (OpenSpec.upto baselibPairsSpec)) baselibPairsUptoCard

/-- THE SECOND FORM's CARD OF 'scriptinglaw24.BaselibRaws'. -/
def baselibRawsUptoCard : Claim7 := { stood := { row := baselibRawsUptoRow, standIns := [], harness := (true, "6cfd30bd9e03ec106ab39e576f8e67c0d6472db87eb48577a856c36fbec13ce6"), looks := false }, kinds := [], alts := [], laidByText := true, laidKinds := [.data, .data, .data, .data, .listed, .data, .pinned], laidTests := true, laidLooks := .later }
def BaselibRawsUptoCardSaid : Prop := Claim7.holds Tryz.pinned (.plain (OpenSpec.upto baselibRawsSpec)) baselibRawsUptoCard
end Rows
end Go.Proofs.YteflmfdjnigjcaaGreatDoor
