/-
  No cell of these rows narrows 'for every input' (looked for: loops, veiled, ifaces, maps, wideKeys, modest, calm, conditions, laid).
  DERIVED. THE GIVEN ROWS OF THIS SEAT. 7 by the template 'for every input the law returns true; each argument reads behind the call as it read before'; 0 by the template 'total and deterministic' (their statements: YtodigegjngnknaaTotals.lean).
  GIVEN WITH THE SEED: the statements are not yours to turn. If you find one false, say at which input.
  Laid BY PROGRAM, IN A SANDBOX (cutbox-rows.mjs): the forced cells as the released guide's own fill.sh prints them over the translation d2bbdf16a195fcdf… (all of the seat's roots in one cut). By AI agents, Wed Nov 11 2026. No macro, syntax, notation, axiom, sorry.
-/
import Derived.Test.YtodigegjngnknaaChecked
import GoSem.Claim
import GoSem.ClaimJoined
import GoSem.ClaimMapViews
import Derived.JoinedTies
import Derived.KernelRfl
namespace Go.Proofs.Ytodigegjngnknaa
/- THE CELL 'sum', in the pinned program and in every row, IS THE sha256 OF THE DUMP (.gsa) THAT YtodigegjngnknaaProg.lean LOADS. Nothing in Lean hashes anything: it is a label: what it is worth is what the hold of that sum in a sandbox is worth. -/
noncomputable def Try.pinned : Pinned := { name := "ytodigegjngnknaa", sum := "d2bbdf16a195fcdf3dc100d36f2524e8b3fdfaaa3516e6027558e004e7aea4d3", checked := Try.checked }
namespace Rows
def none {H : Type} : Left H := { results := [], args := [] }

/-- 'skyfixlaw32.DistanceTriangles': WHATEVER THE INPUT: true; the input reads as it did. -/
def distanceTrianglesSpec : ChangeSpec := { name := "distanceTriangles", fn := fun _ => fun
  | [d1, d2, d3] => { results := [.lit (.bool true)], args := [d1, d2, d3] }
  | _ => none }
def distanceTrianglesRow : OpenClaim := { program := "ytodigegjngnknaa", sum := "d2bbdf16a195fcdf3dc100d36f2524e8b3fdfaaa3516e6027558e004e7aea4d3", func := "skyfix/skyfixlaw32.DistanceTriangles", spec := "distanceTriangles", inPlace := ["math/bits.Add64", "math/bits.Sub64"], unfollowed := true, recurses := true, named := ["math/bits.overflowError"], apart := false }
def DistanceTrianglesSaid : Prop := distanceTrianglesRow.holds Try.pinned (OpenSpec.ofChange distanceTrianglesSpec)

/-- ITS FALSE NEIGHBOUR: 'it returns false'. Refute it at one input. -/
def distanceTrianglesWrong : ChangeSpec := { name := "distanceTriangles", fn := fun _ => fun
  | [d1, d2, d3] => { results := [.lit (.bool false)], args := [d1, d2, d3] }
  | _ => none }
def DistanceTrianglesWrongFalsely : Prop := distanceTrianglesRow.holds Try.pinned (OpenSpec.ofChange distanceTrianglesWrong)

/-- 'skyfixlaw32.DistanceSpans': WHATEVER THE INPUT: true; the input reads as it did. -/
def distanceSpansSpec : ChangeSpec := { name := "distanceSpans", fn := fun _ => fun
  | [d1, d2, d3, d4] => { results := [.lit (.bool true)], args := [d1, d2, d3, d4] }
  | _ => none }
def distanceSpansRow : OpenClaim := { program := "ytodigegjngnknaa", sum := "d2bbdf16a195fcdf3dc100d36f2524e8b3fdfaaa3516e6027558e004e7aea4d3", func := "skyfix/skyfixlaw32.DistanceSpans", spec := "distanceSpans", inPlace := ["math/bits.Add64", "math/bits.Sub64"], unfollowed := true, recurses := true, named := ["math/bits.overflowError"], apart := false }
def DistanceSpansSaid : Prop := distanceSpansRow.holds Try.pinned (OpenSpec.ofChange distanceSpansSpec)

/-- ITS FALSE NEIGHBOUR: 'it returns false'. Refute it at one input. -/
def distanceSpansWrong : ChangeSpec := { name := "distanceSpans", fn := fun _ => fun
  | [d1, d2, d3, d4] => { results := [.lit (.bool false)], args := [d1, d2, d3, d4] }
  | _ => none }
def DistanceSpansWrongFalsely : Prop := distanceSpansRow.holds Try.pinned (OpenSpec.ofChange distanceSpansWrong)

/-- 'skyfixlaw32.DistanceUnits': WHATEVER THE INPUT: true; the input reads as it did. -/
def distanceUnitsSpec : ChangeSpec := { name := "distanceUnits", fn := fun _ => fun
  | [d1, d2] => { results := [.lit (.bool true)], args := [d1, d2] }
  | _ => none }
def distanceUnitsRow : OpenClaim := { program := "ytodigegjngnknaa", sum := "d2bbdf16a195fcdf3dc100d36f2524e8b3fdfaaa3516e6027558e004e7aea4d3", func := "skyfix/skyfixlaw32.DistanceUnits", spec := "distanceUnits", inPlace := ["math/bits.Add64"], unfollowed := true, recurses := true, named := ["math/bits.overflowError"], apart := false }
def DistanceUnitsSaid : Prop := distanceUnitsRow.holds Try.pinned (OpenSpec.ofChange distanceUnitsSpec)

/-- ITS FALSE NEIGHBOUR: 'it returns false'. Refute it at one input. -/
def distanceUnitsWrong : ChangeSpec := { name := "distanceUnits", fn := fun _ => fun
  | [d1, d2] => { results := [.lit (.bool false)], args := [d1, d2] }
  | _ => none }
def DistanceUnitsWrongFalsely : Prop := distanceUnitsRow.holds Try.pinned (OpenSpec.ofChange distanceUnitsWrong)

/-- 'skyfixlaw32.DistanceBounds': WHATEVER THE INPUT: true; the input reads as it did. -/
def distanceBoundsSpec : ChangeSpec := { name := "distanceBounds", fn := fun _ => fun
  | [d1, d2, d3, d4] => { results := [.lit (.bool true)], args := [d1, d2, d3, d4] }
  | _ => none }
def distanceBoundsRow : OpenClaim := { program := "ytodigegjngnknaa", sum := "d2bbdf16a195fcdf3dc100d36f2524e8b3fdfaaa3516e6027558e004e7aea4d3", func := "skyfix/skyfixlaw32.DistanceBounds", spec := "distanceBounds", inPlace := ["math/bits.Add64", "math/bits.Sub64"], unfollowed := true, recurses := true, named := ["math/bits.overflowError"], apart := false }
def DistanceBoundsSaid : Prop := distanceBoundsRow.holds Try.pinned (OpenSpec.ofChange distanceBoundsSpec)

/-- ITS FALSE NEIGHBOUR: 'it returns false'. Refute it at one input. -/
def distanceBoundsWrong : ChangeSpec := { name := "distanceBounds", fn := fun _ => fun
  | [d1, d2, d3, d4] => { results := [.lit (.bool false)], args := [d1, d2, d3, d4] }
  | _ => none }
def DistanceBoundsWrongFalsely : Prop := distanceBoundsRow.holds Try.pinned (OpenSpec.ofChange distanceBoundsWrong)

/-- 'skyfixlaw32.DistanceRanges': WHATEVER THE INPUT: true; the input reads as it did. -/
def distanceRangesSpec : ChangeSpec := { name := "distanceRanges", fn := fun _ => fun
  | [d1, d2, d3] => { results := [.lit (.bool true)], args := [d1, d2, d3] }
  | _ => none }
def distanceRangesRow : OpenClaim := { program := "ytodigegjngnknaa", sum := "d2bbdf16a195fcdf3dc100d36f2524e8b3fdfaaa3516e6027558e004e7aea4d3", func := "skyfix/skyfixlaw32.DistanceRanges", spec := "distanceRanges", inPlace := ["math/bits.Add64", "math/bits.Sub64"], unfollowed := true, recurses := true, named := ["math/bits.overflowError"], apart := false }
def DistanceRangesSaid : Prop := distanceRangesRow.holds Try.pinned (OpenSpec.ofChange distanceRangesSpec)

/-- ITS FALSE NEIGHBOUR: 'it returns false'. Refute it at one input. -/
def distanceRangesWrong : ChangeSpec := { name := "distanceRanges", fn := fun _ => fun
  | [d1, d2, d3] => { results := [.lit (.bool false)], args := [d1, d2, d3] }
  | _ => none }
def DistanceRangesWrongFalsely : Prop := distanceRangesRow.holds Try.pinned (OpenSpec.ofChange distanceRangesWrong)

/-- 'skyfixlaw32.DistanceLinear': WHATEVER THE INPUT: true; the input reads as it did. -/
def distanceLinearSpec : ChangeSpec := { name := "distanceLinear", fn := fun _ => fun
  | [d1, d2, d3, d4] => { results := [.lit (.bool true)], args := [d1, d2, d3, d4] }
  | _ => none }
def distanceLinearRow : OpenClaim := { program := "ytodigegjngnknaa", sum := "d2bbdf16a195fcdf3dc100d36f2524e8b3fdfaaa3516e6027558e004e7aea4d3", func := "skyfix/skyfixlaw32.DistanceLinear", spec := "distanceLinear", inPlace := ["math/bits.Add64"], unfollowed := true, recurses := true, named := ["math/bits.overflowError"], apart := false }
def DistanceLinearSaid : Prop := distanceLinearRow.holds Try.pinned (OpenSpec.ofChange distanceLinearSpec)

/-- ITS FALSE NEIGHBOUR: 'it returns false'. Refute it at one input. -/
def distanceLinearWrong : ChangeSpec := { name := "distanceLinear", fn := fun _ => fun
  | [d1, d2, d3, d4] => { results := [.lit (.bool false)], args := [d1, d2, d3, d4] }
  | _ => none }
def DistanceLinearWrongFalsely : Prop := distanceLinearRow.holds Try.pinned (OpenSpec.ofChange distanceLinearWrong)

/-- 'skyfixlaw32.DistanceNames': WHATEVER THE INPUT: true; the input reads as it did. -/
def distanceNamesSpec : ChangeSpec := { name := "distanceNames", fn := fun _ => fun
  | [] => { results := [.lit (.bool true)], args := [] }
  | _ => none }
def distanceNamesRow : OpenClaim := { program := "ytodigegjngnknaa", sum := "d2bbdf16a195fcdf3dc100d36f2524e8b3fdfaaa3516e6027558e004e7aea4d3", func := "skyfix/skyfixlaw32.DistanceNames", spec := "distanceNames", inPlace := ["math/bits.Add64"], unfollowed := true, recurses := true, named := ["math/bits.overflowError"], apart := false }
def DistanceNamesSaid : Prop := distanceNamesRow.holds Try.pinned (OpenSpec.ofChange distanceNamesSpec)

/-- ITS FALSE NEIGHBOUR: 'it returns false'. Refute it at one input. -/
def distanceNamesWrong : ChangeSpec := { name := "distanceNames", fn := fun _ => fun
  | [] => { results := [.lit (.bool false)], args := [] }
  | _ => none }
def DistanceNamesWrongFalsely : Prop := distanceNamesRow.holds Try.pinned (OpenSpec.ofChange distanceNamesWrong)

/- THE SECOND FORM. 'bulk': how many values and letters a reading holds, each counted each time it is reached (what is shared counts as often as it is met; a slice's spare places count too). A statement '..UptoSaid' is the law's where the arguments, and the package variables that the reading takes, are together of bulk at most 1048576: NARROWER than '..Said'. Prove '..Said' where nothing that the law and all that it calls make is longer than what came in: it says more and counts as full. Else prove '..UptoSaid'. A law counts once. -/
mutual
def uptoBulk {H : Type} : DataW H → Nat
  | .lit (.string bytes) => bytes.length + 1
  | .lit _ => 1
  | .nil => 1
  | .ptr d => uptoBulk d + 1
  | .slice elems spare => uptoBulkAll elems + uptoBulkAll spare + 1
  | .agg parts => uptoBulkAll parts + 1
  | .iface _ d => uptoBulk d + 1
  | .map entries => uptoBulkEntries entries + 1
  | .held _ => 1
def uptoBulkAll {H : Type} : List (DataW H) → Nat
  | [] => 0
  | d :: r => uptoBulk d + uptoBulkAll r
def uptoBulkEntries {H : Type} : List (Lit × DataW H) → Nat
  | [] => 0
  | x :: r => uptoBulkEntry x + uptoBulkEntries r
def uptoBulkEntry {H : Type} : Lit × DataW H → Nat
  | (.string bytes, d) => bytes.length + uptoBulk d + 1
  | (_, d) => uptoBulk d + 1
 end
def uptoSmall : (H : Type) → List (DataW H) → Bool := fun _ ds => decide (uptoBulkAll ds ≤ 1048576)
def OpenSpec.upto (s : _root_.Go.ChangeSpec) : _root_.Go.OpenSpec := { _root_.Go.OpenSpec.ofChange s with cond := some uptoSmall }

/-- 'skyfixlaw32.DistanceTriangles', WHERE WHAT IT READS IS OF BULK AT MOST 1048576: true; the input reads as it did. -/
def distanceTrianglesUptoRow : OpenClaim := { program := "ytodigegjngnknaa", sum := "d2bbdf16a195fcdf3dc100d36f2524e8b3fdfaaa3516e6027558e004e7aea4d3", func := "skyfix/skyfixlaw32.DistanceTriangles", spec := "distanceTriangles", inPlace := ["math/bits.Add64", "math/bits.Sub64"], unfollowed := true, recurses := true, named := ["math/bits.overflowError"], apart := false, narrowed := true }
def DistanceTrianglesUptoSaid : Prop := distanceTrianglesUptoRow.holds Try.pinned (OpenSpec.upto distanceTrianglesSpec)

/-- 'skyfixlaw32.DistanceSpans', WHERE WHAT IT READS IS OF BULK AT MOST 1048576: true; the input reads as it did. -/
def distanceSpansUptoRow : OpenClaim := { program := "ytodigegjngnknaa", sum := "d2bbdf16a195fcdf3dc100d36f2524e8b3fdfaaa3516e6027558e004e7aea4d3", func := "skyfix/skyfixlaw32.DistanceSpans", spec := "distanceSpans", inPlace := ["math/bits.Add64", "math/bits.Sub64"], unfollowed := true, recurses := true, named := ["math/bits.overflowError"], apart := false, narrowed := true }
def DistanceSpansUptoSaid : Prop := distanceSpansUptoRow.holds Try.pinned (OpenSpec.upto distanceSpansSpec)

/-- 'skyfixlaw32.DistanceUnits', WHERE WHAT IT READS IS OF BULK AT MOST 1048576: true; the input reads as it did. -/
def distanceUnitsUptoRow : OpenClaim := { program := "ytodigegjngnknaa", sum := "d2bbdf16a195fcdf3dc100d36f2524e8b3fdfaaa3516e6027558e004e7aea4d3", func := "skyfix/skyfixlaw32.DistanceUnits", spec := "distanceUnits", inPlace := ["math/bits.Add64"], unfollowed := true, recurses := true, named := ["math/bits.overflowError"], apart := false, narrowed := true }
def DistanceUnitsUptoSaid : Prop := distanceUnitsUptoRow.holds Try.pinned (OpenSpec.upto distanceUnitsSpec)

/-- 'skyfixlaw32.DistanceBounds', WHERE WHAT IT READS IS OF BULK AT MOST 1048576: true; the input reads as it did. -/
def distanceBoundsUptoRow : OpenClaim := { program := "ytodigegjngnknaa", sum := "d2bbdf16a195fcdf3dc100d36f2524e8b3fdfaaa3516e6027558e004e7aea4d3", func := "skyfix/skyfixlaw32.DistanceBounds", spec := "distanceBounds", inPlace := ["math/bits.Add64", "math/bits.Sub64"], unfollowed := true, recurses := true, named := ["math/bits.overflowError"], apart := false, narrowed := true }
def DistanceBoundsUptoSaid : Prop := distanceBoundsUptoRow.holds Try.pinned (OpenSpec.upto distanceBoundsSpec)

/-- 'skyfixlaw32.DistanceRanges', WHERE WHAT IT READS IS OF BULK AT MOST 1048576: true; the input reads as it did. -/
def distanceRangesUptoRow : OpenClaim := { program := "ytodigegjngnknaa", sum := "d2bbdf16a195fcdf3dc100d36f2524e8b3fdfaaa3516e6027558e004e7aea4d3", func := "skyfix/skyfixlaw32.DistanceRanges", spec := "distanceRanges", inPlace := ["math/bits.Add64", "math/bits.Sub64"], unfollowed := true, recurses := true, named := ["math/bits.overflowError"], apart := false, narrowed := true }
def DistanceRangesUptoSaid : Prop := distanceRangesUptoRow.holds Try.pinned (OpenSpec.upto distanceRangesSpec)

/-- 'skyfixlaw32.DistanceLinear', WHERE WHAT IT READS IS OF BULK AT MOST 1048576: true; the input reads as it did. -/
def distanceLinearUptoRow : OpenClaim := { program := "ytodigegjngnknaa", sum := "d2bbdf16a195fcdf3dc100d36f2524e8b3fdfaaa3516e6027558e004e7aea4d3", func := "skyfix/skyfixlaw32.DistanceLinear", spec := "distanceLinear", inPlace := ["math/bits.Add64"], unfollowed := true, recurses := true, named := ["math/bits.overflowError"], apart := false, narrowed := true }
def DistanceLinearUptoSaid : Prop := distanceLinearUptoRow.holds Try.pinned (OpenSpec.upto distanceLinearSpec)

/-- 'skyfixlaw32.DistanceNames', WHERE WHAT IT READS IS OF BULK AT MOST 1048576: true; the input reads as it did. -/
def distanceNamesUptoRow : OpenClaim := { program := "ytodigegjngnknaa", sum := "d2bbdf16a195fcdf3dc100d36f2524e8b3fdfaaa3516e6027558e004e7aea4d3", func := "skyfix/skyfixlaw32.DistanceNames", spec := "distanceNames", inPlace := ["math/bits.Add64"], unfollowed := true, recurses := true, named := ["math/bits.overflowError"], apart := false, narrowed := true }
def DistanceNamesUptoSaid : Prop := distanceNamesUptoRow.holds Try.pinned (OpenSpec.upto distanceNamesSpec)

end Rows
end Go.Proofs.Ytodigegjngnknaa
