/-
  DERIVED. GIVEN WITH THE SEED: THE CARDS: each row of YtjdnpkicdmapnaaDoorRows.lean that lists a variable, with what it lists TIED to the program's text (the seventh form; the later family's looks); each row that meets fmt, with fmt's text TOLD by the authors' own Lean function (tested against real Go, not proved from fmt's source: count such statements apart). THE CARD IS WHAT COUNTS. Prove the row's statement (the work); the ties are given (YtjdnpkicdmapnaaDoorTie.lean); close each card by the builder's one call (the guide's Derived/Test/ToyasCard.lean, 'card_holds'). Laid BY PROGRAM, IN A SANDBOX (cutbox-door.mjs). By AI agents, Wed Nov 11 2026. No macro, syntax, notation, axiom, sorry.
-/
import Derived.Test.YtjdnpkicdmapnaaDoorRows
import GoSem.ClaimSeven
namespace Go.Proofs.YtjdnpkicdmapnaaDoor
namespace Rows

/-- THE TIED CARD OF 'skyfixlaw04.RatField'. -/
def ratFieldCard : Claim7 := { stood := { row := ratFieldRow, standIns := [], harness := (true, "f2ff19272e617947db8e721f6e855b6e24977a0966451b357e7e09cc3518141e"), looks := false }, kinds := [], alts := [], laidByText := true, laidKinds := [.data], laidTests := true, laidLooks := .later }
def RatFieldCardSaid : Prop := Claim7.holds Tryd.pinned (.plain (OpenSpec.ofChange ratFieldSpec)) ratFieldCard

/-- THE TIED CARD OF 'skyfixlaw04.RatOrder'. -/
def ratOrderCard : Claim7 := { stood := { row := ratOrderRow, standIns := [], harness := (true, "f2ff19272e617947db8e721f6e855b6e24977a0966451b357e7e09cc3518141e"), looks := false }, kinds := [], alts := [], laidByText := true, laidKinds := [.data], laidTests := true, laidLooks := .later }
def RatOrderCardSaid : Prop := Claim7.holds Tryd.pinned (.plain (OpenSpec.ofChange ratOrderSpec)) ratOrderCard

/-- THE TIED CARD OF 'skyfixlaw04.RatRounds'. -/
def ratRoundsCard : Claim7 := { stood := { row := ratRoundsRow, standIns := [], harness := (true, "f2ff19272e617947db8e721f6e855b6e24977a0966451b357e7e09cc3518141e"), looks := false }, kinds := [], alts := [], laidByText := true, laidKinds := [.data], laidTests := true, laidLooks := .later }
def RatRoundsCardSaid : Prop := Claim7.holds Tryd.pinned (.plain (OpenSpec.ofChange ratRoundsSpec)) ratRoundsCard

/-- THE TIED CARD OF 'skyfixlaw04.RatWholes'. -/
def ratWholesCard : Claim7 := { stood := { row := ratWholesRow, standIns := [], harness := (true, "f2ff19272e617947db8e721f6e855b6e24977a0966451b357e7e09cc3518141e"), looks := false }, kinds := [], alts := [], laidByText := true, laidKinds := [.data], laidTests := true, laidLooks := .later }
def RatWholesCardSaid : Prop := Claim7.holds Tryd.pinned (.plain (OpenSpec.ofChange ratWholesSpec)) ratWholesCard

/-- THE SECOND FORM's CARD OF 'skyfixlaw04.RatField'. -/
def ratFieldUptoCard : Claim7 := { stood := { row := ratFieldUptoRow, standIns := [], harness := (true, "f2ff19272e617947db8e721f6e855b6e24977a0966451b357e7e09cc3518141e"), looks := false }, kinds := [], alts := [], laidByText := true, laidKinds := [.data], laidTests := true, laidLooks := .later }
def RatFieldUptoCardSaid : Prop := Claim7.holds Tryd.pinned (.plain (OpenSpec.upto ratFieldSpec)) ratFieldUptoCard

/-- THE SECOND FORM's CARD OF 'skyfixlaw04.RatOrder'. -/
def ratOrderUptoCard : Claim7 := { stood := { row := ratOrderUptoRow, standIns := [], harness := (true, "f2ff19272e617947db8e721f6e855b6e24977a0966451b357e7e09cc3518141e"), looks := false }, kinds := [], alts := [], laidByText := true, laidKinds := [.data], laidTests := true, laidLooks := .later }
def RatOrderUptoCardSaid : Prop := Claim7.holds Tryd.pinned (.plain (OpenSpec.upto ratOrderSpec)) ratOrderUptoCard

/-- THE SECOND FORM's CARD OF 'skyfixlaw04.RatRounds'. -/
def ratRoundsUptoCard : Claim7 := { stood := { row := ratRoundsUptoRow, standIns := [], harness := (true, "f2ff19272e617947db8e721f6e855b6e24977a0966451b357e7e09cc3518141e"), looks := false }, kinds := [], alts := [], laidByText := true, laidKinds := [.data], laidTests := true, laidLooks := .later }
def RatRoundsUptoCardSaid : Prop := Claim7.holds Tryd.pinned (.plain (OpenSpec.upto ratRoundsSpec)) ratRoundsUptoCard

/-- THE SECOND FORM's CARD OF 'skyfixlaw04.RatWholes'. -/
def ratWholesUptoCard : Claim7 := { stood := { row := ratWholesUptoRow, standIns := [], harness := (true, "f2ff19272e617947db8e721f6e855b6e24977a0966451b357e7e09cc3518141e"), looks := false }, kinds := [], alts := [], laidByText := true, laidKinds := [.data], laidTests := true, laidLooks := .later }
def RatWholesUptoCardSaid : Prop := Claim7.holds Tryd.pinned (.plain (OpenSpec.upto ratWholesSpec)) ratWholesUptoCard
end Rows
end Go.Proofs.YtjdnpkicdmapnaaDoor
