/-
  DERIVED. GIVEN WITH THE SEED: THE CARDS: each row of YtalfoihffnlelaaGreatDoorRows.lean that lists a variable, with what it lists TIED to the program's text (the seventh form; the later family's looks); each row that meets fmt, with fmt's text TOLD by the authors' own Lean function (tested against real Go, not proved from fmt's source: count such statements apart). THE CARD IS WHAT COUNTS. Prove the row's statement (the work); the ties are given (YtalfoihffnlelaaGreatDoorTie.lean); close each card by the builder's one call (the guide's Derived/Test/ToyasCard.lean, 'card_holds'). Laid BY PROGRAM, IN A SANDBOX (cutbox-door.mjs). By AI agents, Wed Nov 11 2026. No macro, syntax, notation, axiom, sorry.
-/
import Derived.Test.YtalfoihffnlelaaGreatDoorRows
import GoSem.ClaimSeven
namespace Go.Proofs.YtalfoihffnlelaaGreatDoor
namespace Rows

/-- THE TIED CARD OF 'scriptinglaw24.BaselibSelects'. -/
def baselibSelectsCard : Claim7 := { stood := { row := baselibSelectsRow, standIns := [], harness := (true, "be0bd6b1fb40ac6190c51e1aaf66f6460eb6a5a116909f559d0f98918fb46b60"), looks := false }, kinds := [], alts := [], laidByText := true, laidKinds := [.data, .data, .data, .data, .listed, .data, .pinned], laidTests := true, laidLooks := .later }
def BaselibSelectsCardSaid : Prop := Claim7.holds Tryz.pinned (.plain (OpenSpec.ofChange baselibSelectsSpec)) baselibSelectsCard

/-- THE TIED CARD OF 'scriptinglaw24.BaselibNumbers'. -/
def baselibNumbersCard : Claim7 := { stood := { row := baselibNumbersRow, standIns := [], harness := (true, "be0bd6b1fb40ac6190c51e1aaf66f6460eb6a5a116909f559d0f98918fb46b60"), looks := false }, kinds := [], alts := [], laidByText := true, laidKinds := [.data, .data, .data, .data, .listed, .data, .pinned], laidTests := true, laidLooks := .later }
def BaselibNumbersCardSaid : Prop := Claim7.holds Tryz.pinned (.plain (OpenSpec.ofChange baselibNumbersSpec)) baselibNumbersCard

/-- THE SECOND FORM's CARD OF 'scriptinglaw24.BaselibSelects'. -/
def baselibSelectsUptoCard : Claim7 := { stood := { row := baselibSelectsUptoRow, standIns := [], harness := (true, "be0bd6b1fb40ac6190c51e1aaf66f6460eb6a5a116909f559d0f98918fb46b60"), looks := false }, kinds := [], alts := [], laidByText := true, laidKinds := [.data, .data, .data, .data, .listed, .data, .pinned], laidTests := true, laidLooks := .later }
def BaselibSelectsUptoCardSaid : Prop := Claim7.holds Tryz.pinned (.plain (OpenSpec.upto baselibSelectsSpec)) baselibSelectsUptoCard

/-- THE SECOND FORM's CARD OF 'scriptinglaw24.BaselibNumbers'. -/
def baselibNumbersUptoCard : Claim7 := { stood := { row := baselibNumbersUptoRow, standIns := [], harness := (true, "be0bd6b1fb40ac6190c51e1aaf66f6460eb6a5a116909f559d0f98918fb46b60"), looks := false }, kinds := [], alts := [], laidByText := true, laidKinds := [.data, .data, .data, .data, .listed, .data, .pinned], laidTests := true, laidLooks := .later }
def BaselibNumbersUptoCardSaid : Prop := Claim7.holds Tryz.pinned (.plain (OpenSpec.upto baselibNumbersSpec)) baselibNumbersUptoCard
end Rows
end Go.Proofs.YtalfoihffnlelaaGreatDoor
