/-
  DERIVED. GIVEN WITH THE SEED: THE CARDS: each row of YthhbbnfnejjpiaaGreatDoorRows.lean that lists a variable, with what it lists TIED to the program's text (the seventh form; the later family's looks); each row that meets fmt, with fmt's text TOLD by the authors' own Lean function (tested against real Go, not proved from fmt's source: count such statements apart). THE CARD IS WHAT COUNTS. Prove the row's statement (the work); the ties are given (YthhbbnfnejjpiaaGreatDoorTie.lean); close each card by the builder's one call (the guide's Derived/Test/ToyasCard.lean, 'card_holds'). Laid BY PROGRAM, IN A SANDBOX (cutbox-door.mjs). By AI agents, Wed Nov 11 2026. No macro, syntax, notation, axiom, sorry.
-/
import Derived.Test.YthhbbnfnejjpiaaGreatDoorRows
import GoSem.ClaimSeven
namespace Go.Proofs.YthhbbnfnejjpiaaGreatDoor
namespace Rows

/-- THE TIED CARD OF 'skyfixlaw05.MatrixRing'. -/
def matrixRingCard : Claim7 := { stood := { row := matrixRingRow, standIns := [], harness := (true, "fe53ca073df0f99b52ebcd63e78867a79db712052cd9f00d2252a6040558d553"), looks := true }, kinds := [], alts := [], laidByText := true, laidKinds := [.data], laidTests := true, laidLooks := .later }
def MatrixRingCardSaid : Prop := Claim7.holds Tryz.pinned (.plain (OpenSpec.ofChange matrixRingSpec)) matrixRingCard

/-- THE TIED CARD OF 'skyfixlaw05.MatrixSolves'. -/
def matrixSolvesCard : Claim7 := { stood := { row := matrixSolvesRow, standIns := [], harness := (true, "fe53ca073df0f99b52ebcd63e78867a79db712052cd9f00d2252a6040558d553"), looks := true }, kinds := [], alts := [], laidByText := true, laidKinds := [.data], laidTests := true, laidLooks := .later }
def MatrixSolvesCardSaid : Prop := Claim7.holds Tryz.pinned (.plain (OpenSpec.ofChange matrixSolvesSpec)) matrixSolvesCard

/-- THE TIED CARD OF 'skyfixlaw05.MatrixInverse'. -/
def matrixInverseCard : Claim7 := { stood := { row := matrixInverseRow, standIns := [], harness := (true, "fe53ca073df0f99b52ebcd63e78867a79db712052cd9f00d2252a6040558d553"), looks := true }, kinds := [], alts := [], laidByText := true, laidKinds := [.data], laidTests := true, laidLooks := .later }
def MatrixInverseCardSaid : Prop := Claim7.holds Tryz.pinned (.plain (OpenSpec.ofChange matrixInverseSpec)) matrixInverseCard

/-- THE TIED CARD OF 'skyfixlaw05.MatrixCalls'. -/
def matrixCallsCard : Claim7 := { stood := { row := matrixCallsRow, standIns := [], harness := (true, "fe53ca073df0f99b52ebcd63e78867a79db712052cd9f00d2252a6040558d553"), looks := true }, kinds := [], alts := [], laidByText := true, laidKinds := [.data], laidTests := true, laidLooks := .later }
def MatrixCallsCardSaid : Prop := Claim7.holds Tryz.pinned (.plain (OpenSpec.ofChange matrixCallsSpec)) matrixCallsCard

/-- THE TIED CARD OF 'skyfixlaw05.MatrixForms'. -/
def matrixFormsCard : Claim7 := { stood := { row := matrixFormsRow, standIns := [], harness := (true, "fe53ca073df0f99b52ebcd63e78867a79db712052cd9f00d2252a6040558d553"), looks := true }, kinds := [], alts := [], laidByText := true, laidKinds := [.data], laidTests := true, laidLooks := .later }
def MatrixFormsCardSaid : Prop := Claim7.holds Tryz.pinned (.plain (OpenSpec.ofChange matrixFormsSpec)) matrixFormsCard

/-- THE TIED CARD OF 'skyfixlaw05.MatrixDefinite'. -/
def matrixDefiniteCard : Claim7 := { stood := { row := matrixDefiniteRow, standIns := [], harness := (true, "fe53ca073df0f99b52ebcd63e78867a79db712052cd9f00d2252a6040558d553"), looks := true }, kinds := [], alts := [], laidByText := true, laidKinds := [.data], laidTests := true, laidLooks := .later }
def MatrixDefiniteCardSaid : Prop := Claim7.holds Tryz.pinned (.plain (OpenSpec.ofChange matrixDefiniteSpec)) matrixDefiniteCard

/-- THE TIED CARD OF 'skyfixlaw05.MatrixNames'. -/
def matrixNamesCard : Claim7 := { stood := { row := matrixNamesRow, standIns := [], harness := (true, "fe53ca073df0f99b52ebcd63e78867a79db712052cd9f00d2252a6040558d553"), looks := true }, kinds := [], alts := [], laidByText := true, laidKinds := [.data], laidTests := true, laidLooks := .later }
def MatrixNamesCardSaid : Prop := Claim7.holds Tryz.pinned (.plain (OpenSpec.ofChange matrixNamesSpec)) matrixNamesCard

/-- THE SECOND FORM's CARD OF 'skyfixlaw05.MatrixRing'. -/
def matrixRingUptoCard : Claim7 := { stood := { row := matrixRingUptoRow, standIns := [], harness := (true, "fe53ca073df0f99b52ebcd63e78867a79db712052cd9f00d2252a6040558d553"), looks := true }, kinds := [], alts := [], laidByText := true, laidKinds := [.data], laidTests := true, laidLooks := .later }
def MatrixRingUptoCardSaid : Prop := Claim7.holds Tryz.pinned (.plain (OpenSpec.upto matrixRingSpec)) matrixRingUptoCard

/-- THE SECOND FORM's CARD OF 'skyfixlaw05.MatrixSolves'. -/
def matrixSolvesUptoCard : Claim7 := { stood := { row := matrixSolvesUptoRow, standIns := [], harness := (true, "fe53ca073df0f99b52ebcd63e78867a79db712052cd9f00d2252a6040558d553"), looks := true }, kinds := [], alts := [], laidByText := true, laidKinds := [.data], laidTests := true, laidLooks := .later }
def MatrixSolvesUptoCardSaid : Prop := Claim7.holds Tryz.pinned (.plain (OpenSpec.upto matrixSolvesSpec)) matrixSolvesUptoCard

/-- THE SECOND FORM's CARD OF 'skyfixlaw05.MatrixInverse'. -/
def matrixInverseUptoCard : Claim7 := { stood := { row := matrixInverseUptoRow, standIns := [], harness := (true, "fe53ca073df0f99b52ebcd63e78867a79db712052cd9f00d2252a6040558d553"), looks := true }, kinds := [], alts := [], laidByText := true, laidKinds := [.data], laidTests := true, laidLooks := .later }
def MatrixInverseUptoCardSaid : Prop := Claim7.holds Tryz.pinned (.plain (OpenSpec.upto matrixInverseSpec)) matrixInverseUptoCard

/-- THE SECOND FORM's CARD OF 'skyfixlaw05.MatrixCalls'. -/
def matrixCallsUptoCard : Claim7 := { stood := { row := matrixCallsUptoRow, standIns := [], harness := (true, "fe53ca073df0f99b52ebcd63e78867a79db712052cd9f00d2252a6040558d553"), looks := true }, kinds := [], alts := [], laidByText := true, laidKinds := [.data], laidTests := true, laidLooks := .later }
def MatrixCallsUptoCardSaid : Prop := Claim7.holds Tryz.pinned (.plain (OpenSpec.upto matrixCallsSpec)) matrixCallsUptoCard

/-- THE SECOND FORM's CARD OF 'skyfixlaw05.MatrixForms'. -/
def matrixFormsUptoCard : Claim7 := { stood := { row := matrixFormsUptoRow, standIns := [], harness := (true, "fe53ca073df0f99b52ebcd63e78867a79db712052cd9f00d2252a6040558d553"), looks := true }, kinds := [], alts := [], laidByText := true, laidKinds := [.data], laidTests := true, laidLooks := .later }
def MatrixFormsUptoCardSaid : Prop := Claim7.holds Tryz.pinned (.plain (OpenSpec.upto matrixFormsSpec)) matrixFormsUptoCard

/-- THE SECOND FORM's CARD OF 'skyfixlaw05.MatrixDefinite'. -/
def matrixDefiniteUptoCard : Claim7 := { stood := { row := matrixDefiniteUptoRow, standIns := [], harness := (true, "fe53ca073df0f99b52ebcd63e78867a79db712052cd9f00d2252a6040558d553"), looks := true }, kinds := [], alts := [], laidByText := true, laidKinds := [.data], laidTests := true, laidLooks := .later }
def MatrixDefiniteUptoCardSaid : Prop := Claim7.holds Tryz.pinned (.plain (OpenSpec.upto matrixDefiniteSpec)) matrixDefiniteUptoCard

/-- THE SECOND FORM's CARD OF 'skyfixlaw05.MatrixNames'. -/
def matrixNamesUptoCard : Claim7 := { stood := { row := matrixNamesUptoRow, standIns := [], harness := (true, "fe53ca073df0f99b52ebcd63e78867a79db712052cd9f00d2252a6040558d553"), looks := true }, kinds := [], alts := [], laidByText := true, laidKinds := [.data], laidTests := true, laidLooks := .later }
def MatrixNamesUptoCardSaid : Prop := Claim7.holds Tryz.pinned (.plain (OpenSpec.upto matrixNamesSpec)) matrixNamesUptoCard
end Rows
end Go.Proofs.YthhbbnfnejjpiaaGreatDoor
