/-
  DERIVED. GIVEN WITH THE SEED: THE CARDS: each row of YtjdnpkicdmapnaaGreatDoorRows.lean that lists a variable, with what it lists TIED to the program's text (the seventh form; the later family's looks); each row that meets fmt, with fmt's text TOLD by the authors' own Lean function (tested against real Go, not proved from fmt's source: count such statements apart). THE CARD IS WHAT COUNTS. Prove the row's statement (the work); the ties are given (YtjdnpkicdmapnaaGreatDoorTie.lean); close each card by the builder's one call (the guide's Derived/Test/ToyasCard.lean, 'card_holds'). Laid BY PROGRAM, IN A SANDBOX (cutbox-door.mjs). By AI agents, Wed Nov 11 2026. No macro, syntax, notation, axiom, sorry.
-/
import Derived.Test.YtjdnpkicdmapnaaGreatDoorRows
import GoSem.ClaimSeven
namespace Go.Proofs.YtjdnpkicdmapnaaGreatDoor
namespace Rows

/-- THE TIED CARD OF 'skyfixlaw04.RatSums'. -/
def ratSumsCard : Claim7 := { stood := { row := ratSumsRow, standIns := [], harness := (true, "869b233eb8cd5251ee69f3b41f600159e13fb1c108a4a76270c6a5e57cf60187"), looks := true }, kinds := [], alts := [], laidByText := true, laidKinds := [.data], laidTests := true, laidLooks := .later }
def RatSumsCardSaid : Prop := Claim7.holds Tryz.pinned (.plain (OpenSpec.ofChange ratSumsSpec)) ratSumsCard

/-- THE TIED CARD OF 'skyfixlaw04.RatTexts'. -/
def ratTextsCard : Claim7 := { stood := { row := ratTextsRow, standIns := [], harness := (true, "869b233eb8cd5251ee69f3b41f600159e13fb1c108a4a76270c6a5e57cf60187"), looks := true }, kinds := [], alts := [], laidByText := true, laidKinds := [.data, .handle], laidTests := true, laidLooks := .later }
def RatTextsCardSaid : Prop := Claim7.holds Tryz.pinned (.plain (OpenSpec.ofChange ratTextsSpec)) ratTextsCard

/-- THE TIED CARD OF 'skyfixlaw04.RatBack'. -/
def ratBackCard : Claim7 := { stood := { row := ratBackRow, standIns := [], harness := (true, "869b233eb8cd5251ee69f3b41f600159e13fb1c108a4a76270c6a5e57cf60187"), looks := true }, kinds := [], alts := [], laidByText := true, laidKinds := [.data, .handle], laidTests := true, laidLooks := .later }
def RatBackCardSaid : Prop := Claim7.holds Tryz.pinned (.plain (OpenSpec.ofChange ratBackSpec)) ratBackCard

/-- THE TIED CARD OF 'skyfixlaw04.RatNames'. -/
def ratNamesCard : Claim7 := { stood := { row := ratNamesRow, standIns := [], harness := (true, "869b233eb8cd5251ee69f3b41f600159e13fb1c108a4a76270c6a5e57cf60187"), looks := true }, kinds := [], alts := [], laidByText := true, laidKinds := [.data, .handle], laidTests := true, laidLooks := .later }
def RatNamesCardSaid : Prop := Claim7.holds Tryz.pinned (.plain (OpenSpec.ofChange ratNamesSpec)) ratNamesCard

/-- THE SECOND FORM's CARD OF 'skyfixlaw04.RatSums'. -/
def ratSumsUptoCard : Claim7 := { stood := { row := ratSumsUptoRow, standIns := [], harness := (true, "869b233eb8cd5251ee69f3b41f600159e13fb1c108a4a76270c6a5e57cf60187"), looks := true }, kinds := [], alts := [], laidByText := true, laidKinds := [.data], laidTests := true, laidLooks := .later }
def RatSumsUptoCardSaid : Prop := Claim7.holds Tryz.pinned (.plain (OpenSpec.upto ratSumsSpec)) ratSumsUptoCard

/-- THE SECOND FORM's CARD OF 'skyfixlaw04.RatTexts'. -/
def ratTextsUptoCard : Claim7 := { stood := { row := ratTextsUptoRow, standIns := [], harness := (true, "869b233eb8cd5251ee69f3b41f600159e13fb1c108a4a76270c6a5e57cf60187"), looks := true }, kinds := [], alts := [], laidByText := true, laidKinds := [.data, .handle], laidTests := true, laidLooks := .later }
def RatTextsUptoCardSaid : Prop := Claim7.holds Tryz.pinned (.plain (OpenSpec.upto ratTextsSpec)) ratTextsUptoCard

/-- THE SECOND FORM's CARD OF 'skyfixlaw04.RatBack'. -/
def ratBackUptoCard : Claim7 := { stood := { row := ratBackUptoRow, standIns := [], harness := (true, "869b233eb8cd5251ee69f3b41f600159e13fb1c108a4a76270c6a5e57cf60187"), looks := true }, kinds := [], alts := [], laidByText := true, laidKinds := [.data, .handle], laidTests := true, laidLooks := .later }
def RatBackUptoCardSaid : Prop := Claim7.holds Tryz.pinned (.plain (OpenSpec.upto ratBackSpec)) ratBackUptoCard

/-- THE SECOND FORM's CARD OF 'skyfixlaw04.RatNames'. -/
def ratNamesUptoCard : Claim7 := { stood := { row := ratNamesUptoRow, standIns := [], harness := (true, "869b233eb8cd5251ee69f3b41f600159e13fb1c108a4a76270c6a5e57cf60187"), looks := true }, kinds := [], alts := [], laidByText := true, laidKinds := [.data, .handle], laidTests := true, laidLooks := .later }
def RatNamesUptoCardSaid : Prop := Claim7.holds Tryz.pinned (.plain (OpenSpec.upto ratNamesSpec)) ratNamesUptoCard
end Rows
end Go.Proofs.YtjdnpkicdmapnaaGreatDoor
