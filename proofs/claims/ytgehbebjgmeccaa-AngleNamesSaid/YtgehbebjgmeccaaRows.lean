/-
  No cell of these rows narrows 'for every input' (looked for: loops, veiled, ifaces, maps, wideKeys, modest, calm, conditions, laid).
  DERIVED. THE GIVEN ROWS OF THIS SEAT. 21 by the template 'for every input the law returns true; each argument reads behind the call as it read before'; 0 by the template 'total and deterministic' (their statements: YtgehbebjgmeccaaTotals.lean).
  GIVEN WITH THE SEED: the statements are not yours to turn. If you find one false, say at which input.
  Laid BY PROGRAM, IN A SANDBOX (cutbox-rows.mjs): the forced cells as the released guide's own fill.sh prints them over the translation 17e0c2466b51f892… (all of the seat's roots in one cut). By AI agents, Wed Nov 11 2026. No macro, syntax, notation, axiom, sorry.
-/
import Derived.Test.YtgehbebjgmeccaaChecked
import GoSem.Claim
import GoSem.ClaimJoined
import GoSem.ClaimMapViews
import Derived.JoinedTies
import Derived.KernelRfl
namespace Go.Proofs.Ytgehbebjgmeccaa
/- THE CELL 'sum', in the pinned program and in every row, IS THE sha256 OF THE DUMP (.gsa) THAT YtgehbebjgmeccaaProg.lean LOADS. Nothing in Lean hashes anything: it is a label: what it is worth is what the hold of that sum in a sandbox is worth. -/
noncomputable def Try.pinned : Pinned := { name := "ytgehbebjgmeccaa", sum := "17e0c2466b51f89261e47aa232820cdd5bdeed673d05c13a70c6fd39b38a0c60", checked := Try.checked }
namespace Rows
def none {H : Type} : Left H := { results := [], args := [] }

/-- 'skyfixlaw17.DiscrSums': WHATEVER THE INPUT: true; the input reads as it did. -/
def discrSumsSpec : ChangeSpec := { name := "discrSums", fn := fun _ => fun
  | [d] => { results := [.lit (.bool true)], args := [d] }
  | _ => none }
def discrSumsRow : OpenClaim := { program := "ytgehbebjgmeccaa", sum := "17e0c2466b51f89261e47aa232820cdd5bdeed673d05c13a70c6fd39b38a0c60", func := "skyfix/skyfixlaw17.DiscrSums", spec := "discrSums", unfollowed := true, recurses := true, apart := false }
def DiscrSumsSaid : Prop := discrSumsRow.holds Try.pinned (OpenSpec.ofChange discrSumsSpec)

/-- ITS FALSE NEIGHBOUR: 'it returns false'. Refute it at one input. -/
def discrSumsWrong : ChangeSpec := { name := "discrSums", fn := fun _ => fun
  | [d] => { results := [.lit (.bool false)], args := [d] }
  | _ => none }
def DiscrSumsWrongFalsely : Prop := discrSumsRow.holds Try.pinned (OpenSpec.ofChange discrSumsWrong)

/-- 'skyfixlaw17.DiscrRates': WHATEVER THE INPUT: true; the input reads as it did. -/
def discrRatesSpec : ChangeSpec := { name := "discrRates", fn := fun _ => fun
  | [d1, d2] => { results := [.lit (.bool true)], args := [d1, d2] }
  | _ => none }
def discrRatesRow : OpenClaim := { program := "ytgehbebjgmeccaa", sum := "17e0c2466b51f89261e47aa232820cdd5bdeed673d05c13a70c6fd39b38a0c60", func := "skyfix/skyfixlaw17.DiscrRates", spec := "discrRates", unfollowed := true, recurses := true, apart := false }
def DiscrRatesSaid : Prop := discrRatesRow.holds Try.pinned (OpenSpec.ofChange discrRatesSpec)

/-- ITS FALSE NEIGHBOUR: 'it returns false'. Refute it at one input. -/
def discrRatesWrong : ChangeSpec := { name := "discrRates", fn := fun _ => fun
  | [d1, d2] => { results := [.lit (.bool false)], args := [d1, d2] }
  | _ => none }
def DiscrRatesWrongFalsely : Prop := discrRatesRow.holds Try.pinned (OpenSpec.ofChange discrRatesWrong)

/-- 'skyfixlaw17.DiscrKnown': WHATEVER THE INPUT: true; the input reads as it did. -/
def discrKnownSpec : ChangeSpec := { name := "discrKnown", fn := fun _ => fun
  | [] => { results := [.lit (.bool true)], args := [] }
  | _ => none }
def discrKnownRow : OpenClaim := { program := "ytgehbebjgmeccaa", sum := "17e0c2466b51f89261e47aa232820cdd5bdeed673d05c13a70c6fd39b38a0c60", func := "skyfix/skyfixlaw17.DiscrKnown", spec := "discrKnown", unfollowed := true, recurses := true, apart := false }
def DiscrKnownSaid : Prop := discrKnownRow.holds Try.pinned (OpenSpec.ofChange discrKnownSpec)

/-- ITS FALSE NEIGHBOUR: 'it returns false'. Refute it at one input. -/
def discrKnownWrong : ChangeSpec := { name := "discrKnown", fn := fun _ => fun
  | [] => { results := [.lit (.bool false)], args := [] }
  | _ => none }
def DiscrKnownWrongFalsely : Prop := discrKnownRow.holds Try.pinned (OpenSpec.ofChange discrKnownWrong)

/-- 'skyfixlaw17.DiscrCode': WHATEVER THE INPUT: true; the input reads as it did. -/
def discrCodeSpec : ChangeSpec := { name := "discrCode", fn := fun _ => fun
  | [d1, d2, d3] => { results := [.lit (.bool true)], args := [d1, d2, d3] }
  | _ => none }
def discrCodeRow : OpenClaim := { program := "ytgehbebjgmeccaa", sum := "17e0c2466b51f89261e47aa232820cdd5bdeed673d05c13a70c6fd39b38a0c60", func := "skyfix/skyfixlaw17.DiscrCode", spec := "discrCode", unfollowed := true, recurses := true, apart := false }
def DiscrCodeSaid : Prop := discrCodeRow.holds Try.pinned (OpenSpec.ofChange discrCodeSpec)

/-- ITS FALSE NEIGHBOUR: 'it returns false'. Refute it at one input. -/
def discrCodeWrong : ChangeSpec := { name := "discrCode", fn := fun _ => fun
  | [d1, d2, d3] => { results := [.lit (.bool false)], args := [d1, d2, d3] }
  | _ => none }
def DiscrCodeWrongFalsely : Prop := discrCodeRow.holds Try.pinned (OpenSpec.ofChange discrCodeWrong)

/-- 'skyfixlaw17.DiscrAngles': WHATEVER THE INPUT: true; the input reads as it did. -/
def discrAnglesSpec : ChangeSpec := { name := "discrAngles", fn := fun _ => fun
  | [d1, d2] => { results := [.lit (.bool true)], args := [d1, d2] }
  | _ => none }
def discrAnglesRow : OpenClaim := { program := "ytgehbebjgmeccaa", sum := "17e0c2466b51f89261e47aa232820cdd5bdeed673d05c13a70c6fd39b38a0c60", func := "skyfix/skyfixlaw17.DiscrAngles", spec := "discrAngles", unfollowed := true, recurses := true, apart := false }
def DiscrAnglesSaid : Prop := discrAnglesRow.holds Try.pinned (OpenSpec.ofChange discrAnglesSpec)

/-- ITS FALSE NEIGHBOUR: 'it returns false'. Refute it at one input. -/
def discrAnglesWrong : ChangeSpec := { name := "discrAngles", fn := fun _ => fun
  | [d1, d2] => { results := [.lit (.bool false)], args := [d1, d2] }
  | _ => none }
def DiscrAnglesWrongFalsely : Prop := discrAnglesRow.holds Try.pinned (OpenSpec.ofChange discrAnglesWrong)

/-- 'skyfixlaw17.DiscrSteps': WHATEVER THE INPUT: true; the input reads as it did. -/
def discrStepsSpec : ChangeSpec := { name := "discrSteps", fn := fun _ => fun
  | [d1, d2, d3] => { results := [.lit (.bool true)], args := [d1, d2, d3] }
  | _ => none }
def discrStepsRow : OpenClaim := { program := "ytgehbebjgmeccaa", sum := "17e0c2466b51f89261e47aa232820cdd5bdeed673d05c13a70c6fd39b38a0c60", func := "skyfix/skyfixlaw17.DiscrSteps", spec := "discrSteps", unfollowed := true, recurses := true, apart := false }
def DiscrStepsSaid : Prop := discrStepsRow.holds Try.pinned (OpenSpec.ofChange discrStepsSpec)

/-- ITS FALSE NEIGHBOUR: 'it returns false'. Refute it at one input. -/
def discrStepsWrong : ChangeSpec := { name := "discrSteps", fn := fun _ => fun
  | [d1, d2, d3] => { results := [.lit (.bool false)], args := [d1, d2, d3] }
  | _ => none }
def DiscrStepsWrongFalsely : Prop := discrStepsRow.holds Try.pinned (OpenSpec.ofChange discrStepsWrong)

/-- 'skyfixlaw02.AngleGrows': WHATEVER THE INPUT: true; the input reads as it did. -/
def angleGrowsSpec : ChangeSpec := { name := "angleGrows", fn := fun _ => fun
  | [d1, d2, d3, d4] => { results := [.lit (.bool true)], args := [d1, d2, d3, d4] }
  | _ => none }
def angleGrowsRow : OpenClaim := { program := "ytgehbebjgmeccaa", sum := "17e0c2466b51f89261e47aa232820cdd5bdeed673d05c13a70c6fd39b38a0c60", func := "skyfix/skyfixlaw02.AngleGrows", spec := "angleGrows", inPlace := ["math/bits.Add64"], unfollowed := true, recurses := true, apart := false }
def AngleGrowsSaid : Prop := angleGrowsRow.holds Try.pinned (OpenSpec.ofChange angleGrowsSpec)

/-- ITS FALSE NEIGHBOUR: 'it returns false'. Refute it at one input. -/
def angleGrowsWrong : ChangeSpec := { name := "angleGrows", fn := fun _ => fun
  | [d1, d2, d3, d4] => { results := [.lit (.bool false)], args := [d1, d2, d3, d4] }
  | _ => none }
def AngleGrowsWrongFalsely : Prop := angleGrowsRow.holds Try.pinned (OpenSpec.ofChange angleGrowsWrong)

/-- 'skyfixlaw02.AngleRoots': WHATEVER THE INPUT: true; the input reads as it did. -/
def angleRootsSpec : ChangeSpec := { name := "angleRoots", fn := fun _ => fun
  | [d1, d2] => { results := [.lit (.bool true)], args := [d1, d2] }
  | _ => none }
def angleRootsRow : OpenClaim := { program := "ytgehbebjgmeccaa", sum := "17e0c2466b51f89261e47aa232820cdd5bdeed673d05c13a70c6fd39b38a0c60", func := "skyfix/skyfixlaw02.AngleRoots", spec := "angleRoots", inPlace := ["math/bits.Add64", "math/bits.Sub64"], unfollowed := true, recurses := true, apart := false }
def AngleRootsSaid : Prop := angleRootsRow.holds Try.pinned (OpenSpec.ofChange angleRootsSpec)

/-- ITS FALSE NEIGHBOUR: 'it returns false'. Refute it at one input. -/
def angleRootsWrong : ChangeSpec := { name := "angleRoots", fn := fun _ => fun
  | [d1, d2] => { results := [.lit (.bool false)], args := [d1, d2] }
  | _ => none }
def AngleRootsWrongFalsely : Prop := angleRootsRow.holds Try.pinned (OpenSpec.ofChange angleRootsWrong)

/-- 'skyfixlaw02.AngleSquares': WHATEVER THE INPUT: true; the input reads as it did. -/
def angleSquaresSpec : ChangeSpec := { name := "angleSquares", fn := fun _ => fun
  | [d1, d2] => { results := [.lit (.bool true)], args := [d1, d2] }
  | _ => none }
def angleSquaresRow : OpenClaim := { program := "ytgehbebjgmeccaa", sum := "17e0c2466b51f89261e47aa232820cdd5bdeed673d05c13a70c6fd39b38a0c60", func := "skyfix/skyfixlaw02.AngleSquares", spec := "angleSquares", inPlace := ["math/bits.Add64", "math/bits.Sub64"], unfollowed := true, recurses := true, apart := false }
def AngleSquaresSaid : Prop := angleSquaresRow.holds Try.pinned (OpenSpec.ofChange angleSquaresSpec)

/-- ITS FALSE NEIGHBOUR: 'it returns false'. Refute it at one input. -/
def angleSquaresWrong : ChangeSpec := { name := "angleSquares", fn := fun _ => fun
  | [d1, d2] => { results := [.lit (.bool false)], args := [d1, d2] }
  | _ => none }
def AngleSquaresWrongFalsely : Prop := angleSquaresRow.holds Try.pinned (OpenSpec.ofChange angleSquaresWrong)

/-- 'skyfixlaw02.AngleSectors': WHATEVER THE INPUT: true; the input reads as it did. -/
def angleSectorsSpec : ChangeSpec := { name := "angleSectors", fn := fun _ => fun
  | [d1, d2, d3, d4] => { results := [.lit (.bool true)], args := [d1, d2, d3, d4] }
  | _ => none }
def angleSectorsRow : OpenClaim := { program := "ytgehbebjgmeccaa", sum := "17e0c2466b51f89261e47aa232820cdd5bdeed673d05c13a70c6fd39b38a0c60", func := "skyfix/skyfixlaw02.AngleSectors", spec := "angleSectors", inPlace := ["math/bits.Add64"], unfollowed := true, recurses := true, apart := false }
def AngleSectorsSaid : Prop := angleSectorsRow.holds Try.pinned (OpenSpec.ofChange angleSectorsSpec)

/-- ITS FALSE NEIGHBOUR: 'it returns false'. Refute it at one input. -/
def angleSectorsWrong : ChangeSpec := { name := "angleSectors", fn := fun _ => fun
  | [d1, d2, d3, d4] => { results := [.lit (.bool false)], args := [d1, d2, d3, d4] }
  | _ => none }
def AngleSectorsWrongFalsely : Prop := angleSectorsRow.holds Try.pinned (OpenSpec.ofChange angleSectorsWrong)

/-- 'skyfixlaw02.AnglePhases': WHATEVER THE INPUT: true; the input reads as it did. -/
def anglePhasesSpec : ChangeSpec := { name := "anglePhases", fn := fun _ => fun
  | [d1, d2, d3, d4] => { results := [.lit (.bool true)], args := [d1, d2, d3, d4] }
  | _ => none }
def anglePhasesRow : OpenClaim := { program := "ytgehbebjgmeccaa", sum := "17e0c2466b51f89261e47aa232820cdd5bdeed673d05c13a70c6fd39b38a0c60", func := "skyfix/skyfixlaw02.AnglePhases", spec := "anglePhases", inPlace := ["math/bits.Add64"], unfollowed := true, recurses := true, apart := false }
def AnglePhasesSaid : Prop := anglePhasesRow.holds Try.pinned (OpenSpec.ofChange anglePhasesSpec)

/-- ITS FALSE NEIGHBOUR: 'it returns false'. Refute it at one input. -/
def anglePhasesWrong : ChangeSpec := { name := "anglePhases", fn := fun _ => fun
  | [d1, d2, d3, d4] => { results := [.lit (.bool false)], args := [d1, d2, d3, d4] }
  | _ => none }
def AnglePhasesWrongFalsely : Prop := anglePhasesRow.holds Try.pinned (OpenSpec.ofChange anglePhasesWrong)

/-- 'skyfixlaw02.AngleTurns': WHATEVER THE INPUT: true; the input reads as it did. -/
def angleTurnsSpec : ChangeSpec := { name := "angleTurns", fn := fun _ => fun
  | [d1, d2, d3, d4, d5] => { results := [.lit (.bool true)], args := [d1, d2, d3, d4, d5] }
  | _ => none }
def angleTurnsRow : OpenClaim := { program := "ytgehbebjgmeccaa", sum := "17e0c2466b51f89261e47aa232820cdd5bdeed673d05c13a70c6fd39b38a0c60", func := "skyfix/skyfixlaw02.AngleTurns", spec := "angleTurns", inPlace := ["math/bits.Add64"], unfollowed := true, recurses := true, apart := false }
def AngleTurnsSaid : Prop := angleTurnsRow.holds Try.pinned (OpenSpec.ofChange angleTurnsSpec)

/-- ITS FALSE NEIGHBOUR: 'it returns false'. Refute it at one input. -/
def angleTurnsWrong : ChangeSpec := { name := "angleTurns", fn := fun _ => fun
  | [d1, d2, d3, d4, d5] => { results := [.lit (.bool false)], args := [d1, d2, d3, d4, d5] }
  | _ => none }
def AngleTurnsWrongFalsely : Prop := angleTurnsRow.holds Try.pinned (OpenSpec.ofChange angleTurnsWrong)

/-- 'skyfixlaw01.FixedProducts': WHATEVER THE INPUT: true; the input reads as it did. -/
def fixedProductsSpec : ChangeSpec := { name := "fixedProducts", fn := fun _ => fun
  | [d1, d2, d3, d4] => { results := [.lit (.bool true)], args := [d1, d2, d3, d4] }
  | _ => none }
def fixedProductsRow : OpenClaim := { program := "ytgehbebjgmeccaa", sum := "17e0c2466b51f89261e47aa232820cdd5bdeed673d05c13a70c6fd39b38a0c60", func := "skyfix/skyfixlaw01.FixedProducts", spec := "fixedProducts", inPlace := ["math/bits.Add64"], unfollowed := true, recurses := true, named := ["math/bits.divideError", "math/bits.overflowError"], apart := false }
def FixedProductsSaid : Prop := fixedProductsRow.holds Try.pinned (OpenSpec.ofChange fixedProductsSpec)

/-- ITS FALSE NEIGHBOUR: 'it returns false'. Refute it at one input. -/
def fixedProductsWrong : ChangeSpec := { name := "fixedProducts", fn := fun _ => fun
  | [d1, d2, d3, d4] => { results := [.lit (.bool false)], args := [d1, d2, d3, d4] }
  | _ => none }
def FixedProductsWrongFalsely : Prop := fixedProductsRow.holds Try.pinned (OpenSpec.ofChange fixedProductsWrong)

/-- 'skyfixlaw01.FixedRounds': WHATEVER THE INPUT: true; the input reads as it did. -/
def fixedRoundsSpec : ChangeSpec := { name := "fixedRounds", fn := fun _ => fun
  | [d1, d2, d3, d4] => { results := [.lit (.bool true)], args := [d1, d2, d3, d4] }
  | _ => none }
def fixedRoundsRow : OpenClaim := { program := "ytgehbebjgmeccaa", sum := "17e0c2466b51f89261e47aa232820cdd5bdeed673d05c13a70c6fd39b38a0c60", func := "skyfix/skyfixlaw01.FixedRounds", spec := "fixedRounds", inPlace := ["math/bits.Add64"], unfollowed := true, recurses := true, named := ["math/bits.divideError", "math/bits.overflowError"], apart := false }
def FixedRoundsSaid : Prop := fixedRoundsRow.holds Try.pinned (OpenSpec.ofChange fixedRoundsSpec)

/-- ITS FALSE NEIGHBOUR: 'it returns false'. Refute it at one input. -/
def fixedRoundsWrong : ChangeSpec := { name := "fixedRounds", fn := fun _ => fun
  | [d1, d2, d3, d4] => { results := [.lit (.bool false)], args := [d1, d2, d3, d4] }
  | _ => none }
def FixedRoundsWrongFalsely : Prop := fixedRoundsRow.holds Try.pinned (OpenSpec.ofChange fixedRoundsWrong)

/-- 'skyfixlaw02.AngleSamples': WHATEVER THE INPUT: true; the input reads as it did. -/
def angleSamplesSpec : ChangeSpec := { name := "angleSamples", fn := fun _ => fun
  | [d] => { results := [.lit (.bool true)], args := [d] }
  | _ => none }
def angleSamplesRow : OpenClaim := { program := "ytgehbebjgmeccaa", sum := "17e0c2466b51f89261e47aa232820cdd5bdeed673d05c13a70c6fd39b38a0c60", func := "skyfix/skyfixlaw02.AngleSamples", spec := "angleSamples", inPlace := ["math/bits.Add64", "math/bits.Sub64"], unfollowed := true, recurses := true, apart := false }
def AngleSamplesSaid : Prop := angleSamplesRow.holds Try.pinned (OpenSpec.ofChange angleSamplesSpec)

/-- ITS FALSE NEIGHBOUR: 'it returns false'. Refute it at one input. -/
def angleSamplesWrong : ChangeSpec := { name := "angleSamples", fn := fun _ => fun
  | [d] => { results := [.lit (.bool false)], args := [d] }
  | _ => none }
def AngleSamplesWrongFalsely : Prop := angleSamplesRow.holds Try.pinned (OpenSpec.ofChange angleSamplesWrong)

/-- 'skyfixlaw01.FixedSums': WHATEVER THE INPUT: true; the input reads as it did. -/
def fixedSumsSpec : ChangeSpec := { name := "fixedSums", fn := fun _ => fun
  | [d1, d2, d3] => { results := [.lit (.bool true)], args := [d1, d2, d3] }
  | _ => none }
def fixedSumsRow : OpenClaim := { program := "ytgehbebjgmeccaa", sum := "17e0c2466b51f89261e47aa232820cdd5bdeed673d05c13a70c6fd39b38a0c60", func := "skyfix/skyfixlaw01.FixedSums", spec := "fixedSums", inPlace := ["math/bits.Add64"], unfollowed := true, recurses := true, named := ["math/bits.divideError", "math/bits.overflowError"], apart := false }
def FixedSumsSaid : Prop := fixedSumsRow.holds Try.pinned (OpenSpec.ofChange fixedSumsSpec)

/-- ITS FALSE NEIGHBOUR: 'it returns false'. Refute it at one input. -/
def fixedSumsWrong : ChangeSpec := { name := "fixedSums", fn := fun _ => fun
  | [d1, d2, d3] => { results := [.lit (.bool false)], args := [d1, d2, d3] }
  | _ => none }
def FixedSumsWrongFalsely : Prop := fixedSumsRow.holds Try.pinned (OpenSpec.ofChange fixedSumsWrong)

/-- 'skyfixlaw01.FixedGrows': WHATEVER THE INPUT: true; the input reads as it did. -/
def fixedGrowsSpec : ChangeSpec := { name := "fixedGrows", fn := fun _ => fun
  | [d1, d2, d3, d4] => { results := [.lit (.bool true)], args := [d1, d2, d3, d4] }
  | _ => none }
def fixedGrowsRow : OpenClaim := { program := "ytgehbebjgmeccaa", sum := "17e0c2466b51f89261e47aa232820cdd5bdeed673d05c13a70c6fd39b38a0c60", func := "skyfix/skyfixlaw01.FixedGrows", spec := "fixedGrows", inPlace := ["math/bits.Add64"], unfollowed := true, recurses := true, named := ["math/bits.divideError", "math/bits.overflowError"], apart := false }
def FixedGrowsSaid : Prop := fixedGrowsRow.holds Try.pinned (OpenSpec.ofChange fixedGrowsSpec)

/-- ITS FALSE NEIGHBOUR: 'it returns false'. Refute it at one input. -/
def fixedGrowsWrong : ChangeSpec := { name := "fixedGrows", fn := fun _ => fun
  | [d1, d2, d3, d4] => { results := [.lit (.bool false)], args := [d1, d2, d3, d4] }
  | _ => none }
def FixedGrowsWrongFalsely : Prop := fixedGrowsRow.holds Try.pinned (OpenSpec.ofChange fixedGrowsWrong)

/-- 'skyfixlaw02.AngleNames': WHATEVER THE INPUT: true; the input reads as it did. -/
def angleNamesSpec : ChangeSpec := { name := "angleNames", fn := fun _ => fun
  | [] => { results := [.lit (.bool true)], args := [] }
  | _ => none }
def angleNamesRow : OpenClaim := { program := "ytgehbebjgmeccaa", sum := "17e0c2466b51f89261e47aa232820cdd5bdeed673d05c13a70c6fd39b38a0c60", func := "skyfix/skyfixlaw02.AngleNames", spec := "angleNames", inPlace := ["math/bits.Add64"], unfollowed := true, recurses := true, apart := false }
def AngleNamesSaid : Prop := angleNamesRow.holds Try.pinned (OpenSpec.ofChange angleNamesSpec)

/-- ITS FALSE NEIGHBOUR: 'it returns false'. Refute it at one input. -/
def angleNamesWrong : ChangeSpec := { name := "angleNames", fn := fun _ => fun
  | [] => { results := [.lit (.bool false)], args := [] }
  | _ => none }
def AngleNamesWrongFalsely : Prop := angleNamesRow.holds Try.pinned (OpenSpec.ofChange angleNamesWrong)

/-- 'skyfixlaw01.FixedWideRing': WHATEVER THE INPUT: true; the input reads as it did. -/
def fixedWideRingSpec : ChangeSpec := { name := "fixedWideRing", fn := fun _ => fun
  | [d1, d2, d3] => { results := [.lit (.bool true)], args := [d1, d2, d3] }
  | _ => none }
def fixedWideRingRow : OpenClaim := { program := "ytgehbebjgmeccaa", sum := "17e0c2466b51f89261e47aa232820cdd5bdeed673d05c13a70c6fd39b38a0c60", func := "skyfix/skyfixlaw01.FixedWideRing", spec := "fixedWideRing", inPlace := ["math/bits.Add64", "math/bits.Sub64"], unfollowed := true, recurses := true, named := ["math/bits.divideError", "math/bits.overflowError"], apart := false }
def FixedWideRingSaid : Prop := fixedWideRingRow.holds Try.pinned (OpenSpec.ofChange fixedWideRingSpec)

/-- ITS FALSE NEIGHBOUR: 'it returns false'. Refute it at one input. -/
def fixedWideRingWrong : ChangeSpec := { name := "fixedWideRing", fn := fun _ => fun
  | [d1, d2, d3] => { results := [.lit (.bool false)], args := [d1, d2, d3] }
  | _ => none }
def FixedWideRingWrongFalsely : Prop := fixedWideRingRow.holds Try.pinned (OpenSpec.ofChange fixedWideRingWrong)

/-- 'skyfixlaw01.FixedWides': WHATEVER THE INPUT: true; the input reads as it did. -/
def fixedWidesSpec : ChangeSpec := { name := "fixedWides", fn := fun _ => fun
  | [d1, d2, d3] => { results := [.lit (.bool true)], args := [d1, d2, d3] }
  | _ => none }
def fixedWidesRow : OpenClaim := { program := "ytgehbebjgmeccaa", sum := "17e0c2466b51f89261e47aa232820cdd5bdeed673d05c13a70c6fd39b38a0c60", func := "skyfix/skyfixlaw01.FixedWides", spec := "fixedWides", inPlace := ["math/bits.Add64", "math/bits.Sub64"], unfollowed := true, recurses := true, named := ["math/bits.divideError", "math/bits.overflowError"], apart := false }
def FixedWidesSaid : Prop := fixedWidesRow.holds Try.pinned (OpenSpec.ofChange fixedWidesSpec)

/-- ITS FALSE NEIGHBOUR: 'it returns false'. Refute it at one input. -/
def fixedWidesWrong : ChangeSpec := { name := "fixedWides", fn := fun _ => fun
  | [d1, d2, d3] => { results := [.lit (.bool false)], args := [d1, d2, d3] }
  | _ => none }
def FixedWidesWrongFalsely : Prop := fixedWidesRow.holds Try.pinned (OpenSpec.ofChange fixedWidesWrong)

/-- 'skyfixlaw01.FixedNames': WHATEVER THE INPUT: true; the input reads as it did. -/
def fixedNamesSpec : ChangeSpec := { name := "fixedNames", fn := fun _ => fun
  | [] => { results := [.lit (.bool true)], args := [] }
  | _ => none }
def fixedNamesRow : OpenClaim := { program := "ytgehbebjgmeccaa", sum := "17e0c2466b51f89261e47aa232820cdd5bdeed673d05c13a70c6fd39b38a0c60", func := "skyfix/skyfixlaw01.FixedNames", spec := "fixedNames", inPlace := ["math/bits.Add64"], unfollowed := true, recurses := true, named := ["math/bits.divideError", "math/bits.overflowError"], apart := false }
def FixedNamesSaid : Prop := fixedNamesRow.holds Try.pinned (OpenSpec.ofChange fixedNamesSpec)

/-- ITS FALSE NEIGHBOUR: 'it returns false'. Refute it at one input. -/
def fixedNamesWrong : ChangeSpec := { name := "fixedNames", fn := fun _ => fun
  | [] => { results := [.lit (.bool false)], args := [] }
  | _ => none }
def FixedNamesWrongFalsely : Prop := fixedNamesRow.holds Try.pinned (OpenSpec.ofChange fixedNamesWrong)

/- THE SECOND FORM. 'bulk': how many values and letters a reading holds, each counted each time it is reached (what is shared counts as often as it is met; a slice's spare places count too). A statement '..UptoSaid' is the law's where the arguments, and the package variables that the reading takes, are together of bulk at most 1048576: NARROWER than '..Said'. Prove '..Said' where nothing that the law and all that it calls make is longer than what came in: it says more and counts as full. Else prove '..UptoSaid'. A law counts once. -/
mutual
def uptoBulk {H : Type} : DataW H → Nat
  | .lit (.string bytes) => bytes.length + 1
  | .lit _ => 1
  | .nil => 1
  | .ptr d => uptoBulk d + 1
  | .slice elems spare => uptoBulkAll elems + uptoBulkAll spare + 1
  | .agg parts => uptoBulkAll parts + 1
  | .iface _ d => uptoBulk d + 1
  | .map entries => uptoBulkEntries entries + 1
  | .held _ => 1
def uptoBulkAll {H : Type} : List (DataW H) → Nat
  | [] => 0
  | d :: r => uptoBulk d + uptoBulkAll r
def uptoBulkEntries {H : Type} : List (Lit × DataW H) → Nat
  | [] => 0
  | x :: r => uptoBulkEntry x + uptoBulkEntries r
def uptoBulkEntry {H : Type} : Lit × DataW H → Nat
  | (.string bytes, d) => bytes.length + uptoBulk d + 1
  | (_, d) => uptoBulk d + 1
 end
def uptoSmall : (H : Type) → List (DataW H) → Bool := fun _ ds => decide (uptoBulkAll ds ≤ 1048576)
def OpenSpec.upto (s : _root_.Go.ChangeSpec) : _root_.Go.OpenSpec := { _root_.Go.OpenSpec.ofChange s with cond := some uptoSmall }

/-- 'skyfixlaw17.DiscrSums', WHERE WHAT IT READS IS OF BULK AT MOST 1048576: true; the input reads as it did. -/
def discrSumsUptoRow : OpenClaim := { program := "ytgehbebjgmeccaa", sum := "17e0c2466b51f89261e47aa232820cdd5bdeed673d05c13a70c6fd39b38a0c60", func := "skyfix/skyfixlaw17.DiscrSums", spec := "discrSums", unfollowed := true, recurses := true, apart := false, narrowed := true }
def DiscrSumsUptoSaid : Prop := discrSumsUptoRow.holds Try.pinned (OpenSpec.upto discrSumsSpec)

/-- 'skyfixlaw17.DiscrRates', WHERE WHAT IT READS IS OF BULK AT MOST 1048576: true; the input reads as it did. -/
def discrRatesUptoRow : OpenClaim := { program := "ytgehbebjgmeccaa", sum := "17e0c2466b51f89261e47aa232820cdd5bdeed673d05c13a70c6fd39b38a0c60", func := "skyfix/skyfixlaw17.DiscrRates", spec := "discrRates", unfollowed := true, recurses := true, apart := false, narrowed := true }
def DiscrRatesUptoSaid : Prop := discrRatesUptoRow.holds Try.pinned (OpenSpec.upto discrRatesSpec)

/-- 'skyfixlaw17.DiscrKnown', WHERE WHAT IT READS IS OF BULK AT MOST 1048576: true; the input reads as it did. -/
def discrKnownUptoRow : OpenClaim := { program := "ytgehbebjgmeccaa", sum := "17e0c2466b51f89261e47aa232820cdd5bdeed673d05c13a70c6fd39b38a0c60", func := "skyfix/skyfixlaw17.DiscrKnown", spec := "discrKnown", unfollowed := true, recurses := true, apart := false, narrowed := true }
def DiscrKnownUptoSaid : Prop := discrKnownUptoRow.holds Try.pinned (OpenSpec.upto discrKnownSpec)

/-- 'skyfixlaw17.DiscrCode', WHERE WHAT IT READS IS OF BULK AT MOST 1048576: true; the input reads as it did. -/
def discrCodeUptoRow : OpenClaim := { program := "ytgehbebjgmeccaa", sum := "17e0c2466b51f89261e47aa232820cdd5bdeed673d05c13a70c6fd39b38a0c60", func := "skyfix/skyfixlaw17.DiscrCode", spec := "discrCode", unfollowed := true, recurses := true, apart := false, narrowed := true }
def DiscrCodeUptoSaid : Prop := discrCodeUptoRow.holds Try.pinned (OpenSpec.upto discrCodeSpec)

/-- 'skyfixlaw17.DiscrAngles', WHERE WHAT IT READS IS OF BULK AT MOST 1048576: true; the input reads as it did. -/
def discrAnglesUptoRow : OpenClaim := { program := "ytgehbebjgmeccaa", sum := "17e0c2466b51f89261e47aa232820cdd5bdeed673d05c13a70c6fd39b38a0c60", func := "skyfix/skyfixlaw17.DiscrAngles", spec := "discrAngles", unfollowed := true, recurses := true, apart := false, narrowed := true }
def DiscrAnglesUptoSaid : Prop := discrAnglesUptoRow.holds Try.pinned (OpenSpec.upto discrAnglesSpec)

/-- 'skyfixlaw17.DiscrSteps', WHERE WHAT IT READS IS OF BULK AT MOST 1048576: true; the input reads as it did. -/
def discrStepsUptoRow : OpenClaim := { program := "ytgehbebjgmeccaa", sum := "17e0c2466b51f89261e47aa232820cdd5bdeed673d05c13a70c6fd39b38a0c60", func := "skyfix/skyfixlaw17.DiscrSteps", spec := "discrSteps", unfollowed := true, recurses := true, apart := false, narrowed := true }
def DiscrStepsUptoSaid : Prop := discrStepsUptoRow.holds Try.pinned (OpenSpec.upto discrStepsSpec)

/-- 'skyfixlaw02.AngleGrows', WHERE WHAT IT READS IS OF BULK AT MOST 1048576: true; the input reads as it did. -/
def angleGrowsUptoRow : OpenClaim := { program := "ytgehbebjgmeccaa", sum := "17e0c2466b51f89261e47aa232820cdd5bdeed673d05c13a70c6fd39b38a0c60", func := "skyfix/skyfixlaw02.AngleGrows", spec := "angleGrows", inPlace := ["math/bits.Add64"], unfollowed := true, recurses := true, apart := false, narrowed := true }
def AngleGrowsUptoSaid : Prop := angleGrowsUptoRow.holds Try.pinned (OpenSpec.upto angleGrowsSpec)

/-- 'skyfixlaw02.AngleRoots', WHERE WHAT IT READS IS OF BULK AT MOST 1048576: true; the input reads as it did. -/
def angleRootsUptoRow : OpenClaim := { program := "ytgehbebjgmeccaa", sum := "17e0c2466b51f89261e47aa232820cdd5bdeed673d05c13a70c6fd39b38a0c60", func := "skyfix/skyfixlaw02.AngleRoots", spec := "angleRoots", inPlace := ["math/bits.Add64", "math/bits.Sub64"], unfollowed := true, recurses := true, apart := false, narrowed := true }
def AngleRootsUptoSaid : Prop := angleRootsUptoRow.holds Try.pinned (OpenSpec.upto angleRootsSpec)

/-- 'skyfixlaw02.AngleSquares', WHERE WHAT IT READS IS OF BULK AT MOST 1048576: true; the input reads as it did. -/
def angleSquaresUptoRow : OpenClaim := { program := "ytgehbebjgmeccaa", sum := "17e0c2466b51f89261e47aa232820cdd5bdeed673d05c13a70c6fd39b38a0c60", func := "skyfix/skyfixlaw02.AngleSquares", spec := "angleSquares", inPlace := ["math/bits.Add64", "math/bits.Sub64"], unfollowed := true, recurses := true, apart := false, narrowed := true }
def AngleSquaresUptoSaid : Prop := angleSquaresUptoRow.holds Try.pinned (OpenSpec.upto angleSquaresSpec)

/-- 'skyfixlaw02.AngleSectors', WHERE WHAT IT READS IS OF BULK AT MOST 1048576: true; the input reads as it did. -/
def angleSectorsUptoRow : OpenClaim := { program := "ytgehbebjgmeccaa", sum := "17e0c2466b51f89261e47aa232820cdd5bdeed673d05c13a70c6fd39b38a0c60", func := "skyfix/skyfixlaw02.AngleSectors", spec := "angleSectors", inPlace := ["math/bits.Add64"], unfollowed := true, recurses := true, apart := false, narrowed := true }
def AngleSectorsUptoSaid : Prop := angleSectorsUptoRow.holds Try.pinned (OpenSpec.upto angleSectorsSpec)

/-- 'skyfixlaw02.AnglePhases', WHERE WHAT IT READS IS OF BULK AT MOST 1048576: true; the input reads as it did. -/
def anglePhasesUptoRow : OpenClaim := { program := "ytgehbebjgmeccaa", sum := "17e0c2466b51f89261e47aa232820cdd5bdeed673d05c13a70c6fd39b38a0c60", func := "skyfix/skyfixlaw02.AnglePhases", spec := "anglePhases", inPlace := ["math/bits.Add64"], unfollowed := true, recurses := true, apart := false, narrowed := true }
def AnglePhasesUptoSaid : Prop := anglePhasesUptoRow.holds Try.pinned (OpenSpec.upto anglePhasesSpec)

/-- 'skyfixlaw02.AngleTurns', WHERE WHAT IT READS IS OF BULK AT MOST 1048576: true; the input reads as it did. -/
def angleTurnsUptoRow : OpenClaim := { program := "ytgehbebjgmeccaa", sum := "17e0c2466b51f89261e47aa232820cdd5bdeed673d05c13a70c6fd39b38a0c60", func := "skyfix/skyfixlaw02.AngleTurns", spec := "angleTurns", inPlace := ["math/bits.Add64"], unfollowed := true, recurses := true, apart := false, narrowed := true }
def AngleTurnsUptoSaid : Prop := angleTurnsUptoRow.holds Try.pinned (OpenSpec.upto angleTurnsSpec)

/-- 'skyfixlaw01.FixedProducts', WHERE WHAT IT READS IS OF BULK AT MOST 1048576: true; the input reads as it did. -/
def fixedProductsUptoRow : OpenClaim := { program := "ytgehbebjgmeccaa", sum := "17e0c2466b51f89261e47aa232820cdd5bdeed673d05c13a70c6fd39b38a0c60", func := "skyfix/skyfixlaw01.FixedProducts", spec := "fixedProducts", inPlace := ["math/bits.Add64"], unfollowed := true, recurses := true, named := ["math/bits.divideError", "math/bits.overflowError"], apart := false, narrowed := true }
def FixedProductsUptoSaid : Prop := fixedProductsUptoRow.holds Try.pinned (OpenSpec.upto fixedProductsSpec)

/-- 'skyfixlaw01.FixedRounds', WHERE WHAT IT READS IS OF BULK AT MOST 1048576: true; the input reads as it did. -/
def fixedRoundsUptoRow : OpenClaim := { program := "ytgehbebjgmeccaa", sum := "17e0c2466b51f89261e47aa232820cdd5bdeed673d05c13a70c6fd39b38a0c60", func := "skyfix/skyfixlaw01.FixedRounds", spec := "fixedRounds", inPlace := ["math/bits.Add64"], unfollowed := true, recurses := true, named := ["math/bits.divideError", "math/bits.overflowError"], apart := false, narrowed := true }
def FixedRoundsUptoSaid : Prop := fixedRoundsUptoRow.holds Try.pinned (OpenSpec.upto fixedRoundsSpec)

/-- 'skyfixlaw02.AngleSamples', WHERE WHAT IT READS IS OF BULK AT MOST 1048576: true; the input reads as it did. -/
def angleSamplesUptoRow : OpenClaim := { program := "ytgehbebjgmeccaa", sum := "17e0c2466b51f89261e47aa232820cdd5bdeed673d05c13a70c6fd39b38a0c60", func := "skyfix/skyfixlaw02.AngleSamples", spec := "angleSamples", inPlace := ["math/bits.Add64", "math/bits.Sub64"], unfollowed := true, recurses := true, apart := false, narrowed := true }
def AngleSamplesUptoSaid : Prop := angleSamplesUptoRow.holds Try.pinned (OpenSpec.upto angleSamplesSpec)

/-- 'skyfixlaw01.FixedSums', WHERE WHAT IT READS IS OF BULK AT MOST 1048576: true; the input reads as it did. -/
def fixedSumsUptoRow : OpenClaim := { program := "ytgehbebjgmeccaa", sum := "17e0c2466b51f89261e47aa232820cdd5bdeed673d05c13a70c6fd39b38a0c60", func := "skyfix/skyfixlaw01.FixedSums", spec := "fixedSums", inPlace := ["math/bits.Add64"], unfollowed := true, recurses := true, named := ["math/bits.divideError", "math/bits.overflowError"], apart := false, narrowed := true }
def FixedSumsUptoSaid : Prop := fixedSumsUptoRow.holds Try.pinned (OpenSpec.upto fixedSumsSpec)

/-- 'skyfixlaw01.FixedGrows', WHERE WHAT IT READS IS OF BULK AT MOST 1048576: true; the input reads as it did. -/
def fixedGrowsUptoRow : OpenClaim := { program := "ytgehbebjgmeccaa", sum := "17e0c2466b51f89261e47aa232820cdd5bdeed673d05c13a70c6fd39b38a0c60", func := "skyfix/skyfixlaw01.FixedGrows", spec := "fixedGrows", inPlace := ["math/bits.Add64"], unfollowed := true, recurses := true, named := ["math/bits.divideError", "math/bits.overflowError"], apart := false, narrowed := true }
def FixedGrowsUptoSaid : Prop := fixedGrowsUptoRow.holds Try.pinned (OpenSpec.upto fixedGrowsSpec)

/-- 'skyfixlaw02.AngleNames', WHERE WHAT IT READS IS OF BULK AT MOST 1048576: true; the input reads as it did. -/
def angleNamesUptoRow : OpenClaim := { program := "ytgehbebjgmeccaa", sum := "17e0c2466b51f89261e47aa232820cdd5bdeed673d05c13a70c6fd39b38a0c60", func := "skyfix/skyfixlaw02.AngleNames", spec := "angleNames", inPlace := ["math/bits.Add64"], unfollowed := true, recurses := true, apart := false, narrowed := true }
def AngleNamesUptoSaid : Prop := angleNamesUptoRow.holds Try.pinned (OpenSpec.upto angleNamesSpec)

/-- 'skyfixlaw01.FixedWideRing', WHERE WHAT IT READS IS OF BULK AT MOST 1048576: true; the input reads as it did. -/
def fixedWideRingUptoRow : OpenClaim := { program := "ytgehbebjgmeccaa", sum := "17e0c2466b51f89261e47aa232820cdd5bdeed673d05c13a70c6fd39b38a0c60", func := "skyfix/skyfixlaw01.FixedWideRing", spec := "fixedWideRing", inPlace := ["math/bits.Add64", "math/bits.Sub64"], unfollowed := true, recurses := true, named := ["math/bits.divideError", "math/bits.overflowError"], apart := false, narrowed := true }
def FixedWideRingUptoSaid : Prop := fixedWideRingUptoRow.holds Try.pinned (OpenSpec.upto fixedWideRingSpec)

/-- 'skyfixlaw01.FixedWides', WHERE WHAT IT READS IS OF BULK AT MOST 1048576: true; the input reads as it did. -/
def fixedWidesUptoRow : OpenClaim := { program := "ytgehbebjgmeccaa", sum := "17e0c2466b51f89261e47aa232820cdd5bdeed673d05c13a70c6fd39b38a0c60", func := "skyfix/skyfixlaw01.FixedWides", spec := "fixedWides", inPlace := ["math/bits.Add64", "math/bits.Sub64"], unfollowed := true, recurses := true, named := ["math/bits.divideError", "math/bits.overflowError"], apart := false, narrowed := true }
def FixedWidesUptoSaid : Prop := fixedWidesUptoRow.holds Try.pinned (OpenSpec.upto fixedWidesSpec)

/-- 'skyfixlaw01.FixedNames', WHERE WHAT IT READS IS OF BULK AT MOST 1048576: true; the input reads as it did. -/
def fixedNamesUptoRow : OpenClaim := { program := "ytgehbebjgmeccaa", sum := "17e0c2466b51f89261e47aa232820cdd5bdeed673d05c13a70c6fd39b38a0c60", func := "skyfix/skyfixlaw01.FixedNames", spec := "fixedNames", inPlace := ["math/bits.Add64"], unfollowed := true, recurses := true, named := ["math/bits.divideError", "math/bits.overflowError"], apart := false, narrowed := true }
def FixedNamesUptoSaid : Prop := fixedNamesUptoRow.holds Try.pinned (OpenSpec.upto fixedNamesSpec)

end Rows
end Go.Proofs.Ytgehbebjgmeccaa
