/-
  DERIVED. GIVEN WITH THE SEED: THE CARDS: each row of YthkpckgcgkijbaaGreatDoorRows.lean that lists a variable, with what it lists TIED to the program's text (the seventh form; the later family's looks); each row that meets fmt, with fmt's text TOLD by the authors' own Lean function (tested against real Go, not proved from fmt's source: count such statements apart). THE CARD IS WHAT COUNTS. Prove the row's statement (the work); the ties are given (YthkpckgcgkijbaaGreatDoorTie.lean); close each card by the builder's one call (the guide's Derived/Test/ToyasCard.lean, 'card_holds'). Laid BY PROGRAM, IN A SANDBOX (cutbox-door.mjs). By AI agents, Wed Nov 11 2026. No macro, syntax, notation, axiom, sorry.
-/
import Derived.Test.YthkpckgcgkijbaaGreatDoorRows
import GoSem.ClaimSeven
namespace Go.Proofs.YthkpckgcgkijbaaGreatDoor
namespace Rows

/-- THE TIED CARD OF 'scriptinglaw16.OperatePlain'. -/
def operatePlainCard : Claim7 := { stood := { row := operatePlainRow, standIns := [], harness := (true, "eeabdfeb74001352764b2fe2c75a114601027e963e712f712e4c7857d93286d5"), looks := false }, kinds := [], alts := [], laidByText := true, laidKinds := [.data, .data, .data, .data, .pinned], laidTests := true, laidLooks := .later }
def OperatePlainCardSaid : Prop := Claim7.holds Tryz.pinned (.plain (OpenSpec.ofChange operatePlainSpec)) operatePlainCard

/-- THE TIED CARD OF 'scriptinglaw16.OperateNames'. -/
def operateNamesCard : Claim7 := { stood := { row := operateNamesRow, standIns := [], harness := (true, "eeabdfeb74001352764b2fe2c75a114601027e963e712f712e4c7857d93286d5"), looks := false }, kinds := [], alts := [], laidByText := true, laidKinds := [.data, .data, .data, .data, .pinned], laidTests := true, laidLooks := .later }
def OperateNamesCardSaid : Prop := Claim7.holds Tryz.pinned (.plain (OpenSpec.ofChange operateNamesSpec)) operateNamesCard

/-- THE TIED CARD OF 'scriptinglaw16.OperateBinary'. -/
def operateBinaryCard : Claim7 := { stood := { row := operateBinaryRow, standIns := [], harness := (true, "eeabdfeb74001352764b2fe2c75a114601027e963e712f712e4c7857d93286d5"), looks := false }, kinds := [], alts := [], laidByText := true, laidKinds := [.data, .data, .data, .data, .pinned], laidTests := true, laidLooks := .later }
def OperateBinaryCardSaid : Prop := Claim7.holds Tryz.pinned (.plain (OpenSpec.ofChange operateBinarySpec)) operateBinaryCard

/-- THE TIED CARD OF 'scriptinglaw16.OperateUnary'. -/
def operateUnaryCard : Claim7 := { stood := { row := operateUnaryRow, standIns := [], harness := (true, "eeabdfeb74001352764b2fe2c75a114601027e963e712f712e4c7857d93286d5"), looks := false }, kinds := [], alts := [], laidByText := true, laidKinds := [.data, .data, .data, .data, .pinned], laidTests := true, laidLooks := .later }
def OperateUnaryCardSaid : Prop := Claim7.holds Tryz.pinned (.plain (OpenSpec.ofChange operateUnarySpec)) operateUnaryCard

/-- THE TIED CARD OF 'scriptinglaw16.OperateSettles'. -/
def operateSettlesCard : Claim7 := { stood := { row := operateSettlesRow, standIns := [], harness := (true, "eeabdfeb74001352764b2fe2c75a114601027e963e712f712e4c7857d93286d5"), looks := false }, kinds := [], alts := [], laidByText := true, laidKinds := [.data, .data, .data, .data, .pinned], laidTests := true, laidLooks := .later }
def OperateSettlesCardSaid : Prop := Claim7.holds Tryz.pinned (.plain (OpenSpec.ofChange operateSettlesSpec)) operateSettlesCard

/-- THE TIED CARD OF 'scriptinglaw16.OperateReduces'. -/
def operateReducesCard : Claim7 := { stood := { row := operateReducesRow, standIns := [], harness := (true, "eeabdfeb74001352764b2fe2c75a114601027e963e712f712e4c7857d93286d5"), looks := false }, kinds := [], alts := [], laidByText := true, laidKinds := [.data, .data, .data, .data, .pinned], laidTests := true, laidLooks := .later }
def OperateReducesCardSaid : Prop := Claim7.holds Tryz.pinned (.plain (OpenSpec.ofChange operateReducesSpec)) operateReducesCard

/-- THE TIED CARD OF 'scriptinglaw16.OperateNumbers'. -/
def operateNumbersCard : Claim7 := { stood := { row := operateNumbersRow, standIns := [], harness := (true, "eeabdfeb74001352764b2fe2c75a114601027e963e712f712e4c7857d93286d5"), looks := false }, kinds := [], alts := [], laidByText := true, laidKinds := [.data, .data, .data, .data, .pinned], laidTests := true, laidLooks := .later }
def OperateNumbersCardSaid : Prop := Claim7.holds Tryz.pinned (.plain (OpenSpec.ofChange operateNumbersSpec)) operateNumbersCard

/-- THE TIED CARD OF 'scriptinglaw16.OperateHeaps'. -/
def operateHeapsCard : Claim7 := { stood := { row := operateHeapsRow, standIns := [], harness := (true, "eeabdfeb74001352764b2fe2c75a114601027e963e712f712e4c7857d93286d5"), looks := false }, kinds := [], alts := [], laidByText := true, laidKinds := [.data, .data, .data, .data, .pinned], laidTests := true, laidLooks := .later }
def OperateHeapsCardSaid : Prop := Claim7.holds Tryz.pinned (.plain (OpenSpec.ofChange operateHeapsSpec)) operateHeapsCard

/-- THE SECOND FORM's CARD OF 'scriptinglaw16.OperatePlain'. -/
def operatePlainUptoCard : Claim7 := { stood := { row := operatePlainUptoRow, standIns := [], harness := (true, "eeabdfeb74001352764b2fe2c75a114601027e963e712f712e4c7857d93286d5"), looks := false }, kinds := [], alts := [], laidByText := true, laidKinds := [.data, .data, .data, .data, .pinned], laidTests := true, laidLooks := .later }
def OperatePlainUptoCardSaid : Prop := Claim7.holds Tryz.pinned (.plain (OpenSpec.upto operatePlainSpec)) operatePlainUptoCard

/-- THE SECOND FORM's CARD OF 'scriptinglaw16.OperateNames'. -/
def operateNamesUptoCard : Claim7 := { stood := { row := operateNamesUptoRow, standIns := [], harness := (true, "eeabdfeb74001352764b2fe2c75a114601027e963e712f712e4c7857d93286d5"), looks := false }, kinds := [], alts := [], laidByText := true, laidKinds := [.data, .data, .data, .data, .pinned], laidTests := true, laidLooks := .later }
def OperateNamesUptoCardSaid : Prop := Claim7.holds Tryz.pinned (.plain (OpenSpec.upto operateNamesSpec)) operateNamesUptoCard

/-- THE SECOND FORM's CARD OF 'scriptinglaw16.OperateBinary'. -/
def operateBinaryUptoCard : Claim7 := { stood := { row := operateBinaryUptoRow, standIns := [], harness := (true, "eeabdfeb74001352764b2fe2c75a114601027e963e712f712e4c7857d93286d5"), looks := false }, kinds := [], alts := [], laidByText := true, laidKinds := [.data, .data, .data, .data, .pinned], laidTests := true, laidLooks := .later }
def OperateBinaryUptoCardSaid : Prop := Claim7.holds Tryz.pinned (.plain (OpenSpec.upto operateBinarySpec)) operateBinaryUptoCard

/-- THE SECOND FORM's CARD OF 'scriptinglaw16.OperateUnary'. -/
def operateUnaryUptoCard : Claim7 := { stood := { row := operateUnaryUptoRow, standIns := [], harness := (true, "eeabdfeb74001352764b2fe2c75a114601027e963e712f712e4c7857d93286d5"), looks := false }, kinds := [], alts := [], laidByText := true, laidKinds := [.data, .data, .data, .data, .pinned], laidTests := true, laidLooks := .later }
def OperateUnaryUptoCardSaid : Prop := Claim7.holds Tryz.pinned (.plain (OpenSpec.upto operateUnarySpec)) operateUnaryUptoCard

/-- THE SECOND FORM's CARD OF 'scriptinglaw16.OperateSettles'. -/
def operateSettlesUptoCard : Claim7 := { stood := { row := operateSettlesUptoRow, standIns := [], harness := (true, "eeabdfeb74001352764b2fe2c75a114601027e963e712f712e4c7857d93286d5"), looks := false }, kinds := [], alts := [], laidByText := true, laidKinds := [.data, .data, .data, .data, .pinned], laidTests := true, laidLooks := .later }
def OperateSettlesUptoCardSaid : Prop := Claim7.holds Tryz.pinned (.plain (OpenSpec.upto operateSettlesSpec)) operateSettlesUptoCard

/-- THE SECOND FORM's CARD OF 'scriptinglaw16.OperateReduces'. -/
def operateReducesUptoCard : Claim7 := { stood := { row := operateReducesUptoRow, standIns := [], harness := (true, "eeabdfeb74001352764b2fe2c75a114601027e963e712f712e4c7857d93286d5"), looks := false }, kinds := [], alts := [], laidByText := true, laidKinds := [.data, .data, .data, .data, .pinned], laidTests := true, laidLooks := .later }
def OperateReducesUptoCardSaid : Prop := Claim7.holds Tryz.pinned (.plain (OpenSpec.upto operateReducesSpec)) operateReducesUptoCard

/-- THE SECOND FORM's CARD OF 'scriptinglaw16.OperateNumbers'. -/
def operateNumbersUptoCard : Claim7 := { stood := { row := operateNumbersUptoRow, standIns := [], harness := (true, "eeabdfeb74001352764b2fe2c75a114601027e963e712f712e4c7857d93286d5"), looks := false }, kinds := [], alts := [], laidByText := true, laidKinds := [.data, .data, .data, .data, .pinned], laidTests := true, laidLooks := .later }
def OperateNumbersUptoCardSaid : Prop := Claim7.holds Tryz.pinned (.plain (OpenSpec.upto operateNumbersSpec)) operateNumbersUptoCard

/-- THE SECOND FORM's CARD OF 'scriptinglaw16.OperateHeaps'. -/
def operateHeapsUptoCard : Claim7 := { stood := { row := operateHeapsUptoRow, standIns := [], harness := (true, "eeabdfeb74001352764b2fe2c75a114601027e963e712f712e4c7857d93286d5"), looks := false }, kinds := [], alts := [], laidByText := true, laidKinds := [.data, .data, .data, .data, .pinned], laidTests := true, laidLooks := .later }
def OperateHeapsUptoCardSaid : Prop := Claim7.holds Tryz.pinned (.plain (OpenSpec.upto operateHeapsSpec)) operateHeapsUptoCard
end Rows
end Go.Proofs.YthkpckgcgkijbaaGreatDoor
