/-
  NARROWER THAN 'FOR EVERY INPUT', by the rows' own cells (each row's printed sentence says how): MatrixRing: laid · MatrixSolves: laid · MatrixInverse: laid · MatrixCalls: laid · MatrixForms: laid · MatrixDefinite: laid · MatrixNames: laid.
  DERIVED. THE GIVEN ROWS OF THIS SEAT. 7 by the template 'for every input the law returns true; each argument reads behind the call as it read before'; 0 by the template 'total and deterministic' (their statements: YthhbbnfnejjpiaaGreatDoorTotals.lean).
  GIVEN WITH THE SEED: the statements are not yours to turn. If you find one false, say at which input.
  Laid BY PROGRAM, IN A SANDBOX (cutbox-rows.mjs): the forced cells as the released guide's own fill.sh prints them over the translation 4141289932f335ea… (all of the seat's roots in one cut). By AI agents, Wed Nov 11 2026. No macro, syntax, notation, axiom, sorry.
-/
import Derived.Test.YthhbbnfnejjpiaaGreatDoorChecked
import GoSem.Claim
import GoSem.ClaimJoined
import GoSem.ClaimMapViews
import Derived.JoinedTies
import Derived.KernelRfl
namespace Go.Proofs.YthhbbnfnejjpiaaGreatDoor
/- THE CELL 'sum', in the pinned program and in every row, IS THE sha256 OF THE DUMP (.gsa) THAT YthhbbnfnejjpiaaGreatDoorProg.lean LOADS. Nothing in Lean hashes anything: it is a label: what it is worth is what the hold of that sum in a sandbox is worth. -/
noncomputable def Tryz.pinned : Pinned := { name := "ythhbbnfnejjpiaagreatdoor", sum := "4141289932f335eaa2b3bfb20aa722fe43be4a4e3b81ea0d700552651ac2d3d4", checked := Tryz.checked }
namespace Rows
def none {H : Type} : Left H := { results := [], args := [] }

/- WHAT THE LISTED PACKAGE-LEVEL VARIABLES READ AS WHEN THE CALL BEGINS. Each datum BY PROGRAM (the guide's laid-datum.mjs) off the statement by which the dump's own 'gosem.cut.vars' lays the variable. In a bare row this is a premise. The card (YthhbbnfnejjpiaaGreatDoorCards.lean) ties it to the program's text. -/
def laid_math_bits_deBruijn32tab {H : Type} : DataW H := .agg [.lit (.int .u8 0), .lit (.int .u8 1), .lit (.int .u8 28), .lit (.int .u8 2), .lit (.int .u8 29), .lit (.int .u8 14), .lit (.int .u8 24), .lit (.int .u8 3), .lit (.int .u8 30), .lit (.int .u8 22), .lit (.int .u8 20), .lit (.int .u8 15), .lit (.int .u8 25), .lit (.int .u8 17), .lit (.int .u8 4), .lit (.int .u8 8), .lit (.int .u8 31), .lit (.int .u8 27), .lit (.int .u8 13), .lit (.int .u8 23), .lit (.int .u8 21), .lit (.int .u8 19), .lit (.int .u8 16), .lit (.int .u8 7), .lit (.int .u8 26), .lit (.int .u8 12), .lit (.int .u8 18), .lit (.int .u8 6), .lit (.int .u8 11), .lit (.int .u8 5), .lit (.int .u8 10), .lit (.int .u8 9)]

/-- 'skyfixlaw05.MatrixRing': WHATEVER THE INPUT: true; the input reads as it did. -/
def matrixRingSpec : ChangeSpec := { name := "matrixRing", fn := fun _ => fun
  | [d1, d2, d3, d4] => { results := [.lit (.bool true)], args := [d1, d2, d3, d4] }
  | _ => none }
def matrixRingRow : OpenClaim := { program := "ythhbbnfnejjpiaagreatdoor", sum := "4141289932f335eaa2b3bfb20aa722fe43be4a4e3b81ea0d700552651ac2d3d4", func := "skyfix/skyfixlaw05.MatrixRing", spec := "matrixRing", unfollowed := true, recurses := true, named := ["math/bits.deBruijn32tab"], apart := false, laid := [("math/bits.deBruijn32tab", laid_math_bits_deBruijn32tab)] }
def MatrixRingSaid : Prop := matrixRingRow.holds Tryz.pinned (OpenSpec.ofChange matrixRingSpec)

/-- ITS FALSE NEIGHBOUR: 'it returns false'. Refute it at one input. -/
def matrixRingWrong : ChangeSpec := { name := "matrixRing", fn := fun _ => fun
  | [d1, d2, d3, d4] => { results := [.lit (.bool false)], args := [d1, d2, d3, d4] }
  | _ => none }
def MatrixRingWrongFalsely : Prop := matrixRingRow.holds Tryz.pinned (OpenSpec.ofChange matrixRingWrong)

/-- 'skyfixlaw05.MatrixSolves': WHATEVER THE INPUT: true; the input reads as it did. -/
def matrixSolvesSpec : ChangeSpec := { name := "matrixSolves", fn := fun _ => fun
  | [d1, d2] => { results := [.lit (.bool true)], args := [d1, d2] }
  | _ => none }
def matrixSolvesRow : OpenClaim := { program := "ythhbbnfnejjpiaagreatdoor", sum := "4141289932f335eaa2b3bfb20aa722fe43be4a4e3b81ea0d700552651ac2d3d4", func := "skyfix/skyfixlaw05.MatrixSolves", spec := "matrixSolves", unfollowed := true, recurses := true, named := ["math/bits.deBruijn32tab"], apart := false, laid := [("math/bits.deBruijn32tab", laid_math_bits_deBruijn32tab)] }
def MatrixSolvesSaid : Prop := matrixSolvesRow.holds Tryz.pinned (OpenSpec.ofChange matrixSolvesSpec)

/-- ITS FALSE NEIGHBOUR: 'it returns false'. Refute it at one input. -/
def matrixSolvesWrong : ChangeSpec := { name := "matrixSolves", fn := fun _ => fun
  | [d1, d2] => { results := [.lit (.bool false)], args := [d1, d2] }
  | _ => none }
def MatrixSolvesWrongFalsely : Prop := matrixSolvesRow.holds Tryz.pinned (OpenSpec.ofChange matrixSolvesWrong)

/-- 'skyfixlaw05.MatrixInverse': WHATEVER THE INPUT: true; the input reads as it did. -/
def matrixInverseSpec : ChangeSpec := { name := "matrixInverse", fn := fun _ => fun
  | [d1, d2, d3] => { results := [.lit (.bool true)], args := [d1, d2, d3] }
  | _ => none }
def matrixInverseRow : OpenClaim := { program := "ythhbbnfnejjpiaagreatdoor", sum := "4141289932f335eaa2b3bfb20aa722fe43be4a4e3b81ea0d700552651ac2d3d4", func := "skyfix/skyfixlaw05.MatrixInverse", spec := "matrixInverse", unfollowed := true, recurses := true, named := ["math/bits.deBruijn32tab"], apart := false, laid := [("math/bits.deBruijn32tab", laid_math_bits_deBruijn32tab)] }
def MatrixInverseSaid : Prop := matrixInverseRow.holds Tryz.pinned (OpenSpec.ofChange matrixInverseSpec)

/-- ITS FALSE NEIGHBOUR: 'it returns false'. Refute it at one input. -/
def matrixInverseWrong : ChangeSpec := { name := "matrixInverse", fn := fun _ => fun
  | [d1, d2, d3] => { results := [.lit (.bool false)], args := [d1, d2, d3] }
  | _ => none }
def MatrixInverseWrongFalsely : Prop := matrixInverseRow.holds Tryz.pinned (OpenSpec.ofChange matrixInverseWrong)

/-- 'skyfixlaw05.MatrixCalls': WHATEVER THE INPUT: true; the input reads as it did. -/
def matrixCallsSpec : ChangeSpec := { name := "matrixCalls", fn := fun _ => fun
  | [d1, d2, d3, d4] => { results := [.lit (.bool true)], args := [d1, d2, d3, d4] }
  | _ => none }
def matrixCallsRow : OpenClaim := { program := "ythhbbnfnejjpiaagreatdoor", sum := "4141289932f335eaa2b3bfb20aa722fe43be4a4e3b81ea0d700552651ac2d3d4", func := "skyfix/skyfixlaw05.MatrixCalls", spec := "matrixCalls", unfollowed := true, recurses := true, named := ["math/bits.deBruijn32tab"], apart := false, laid := [("math/bits.deBruijn32tab", laid_math_bits_deBruijn32tab)] }
def MatrixCallsSaid : Prop := matrixCallsRow.holds Tryz.pinned (OpenSpec.ofChange matrixCallsSpec)

/-- ITS FALSE NEIGHBOUR: 'it returns false'. Refute it at one input. -/
def matrixCallsWrong : ChangeSpec := { name := "matrixCalls", fn := fun _ => fun
  | [d1, d2, d3, d4] => { results := [.lit (.bool false)], args := [d1, d2, d3, d4] }
  | _ => none }
def MatrixCallsWrongFalsely : Prop := matrixCallsRow.holds Tryz.pinned (OpenSpec.ofChange matrixCallsWrong)

/-- 'skyfixlaw05.MatrixForms': WHATEVER THE INPUT: true; the input reads as it did. -/
def matrixFormsSpec : ChangeSpec := { name := "matrixForms", fn := fun _ => fun
  | [d1, d2] => { results := [.lit (.bool true)], args := [d1, d2] }
  | _ => none }
def matrixFormsRow : OpenClaim := { program := "ythhbbnfnejjpiaagreatdoor", sum := "4141289932f335eaa2b3bfb20aa722fe43be4a4e3b81ea0d700552651ac2d3d4", func := "skyfix/skyfixlaw05.MatrixForms", spec := "matrixForms", unfollowed := true, recurses := true, named := ["math/bits.deBruijn32tab"], apart := false, laid := [("math/bits.deBruijn32tab", laid_math_bits_deBruijn32tab)] }
def MatrixFormsSaid : Prop := matrixFormsRow.holds Tryz.pinned (OpenSpec.ofChange matrixFormsSpec)

/-- ITS FALSE NEIGHBOUR: 'it returns false'. Refute it at one input. -/
def matrixFormsWrong : ChangeSpec := { name := "matrixForms", fn := fun _ => fun
  | [d1, d2] => { results := [.lit (.bool false)], args := [d1, d2] }
  | _ => none }
def MatrixFormsWrongFalsely : Prop := matrixFormsRow.holds Tryz.pinned (OpenSpec.ofChange matrixFormsWrong)

/-- 'skyfixlaw05.MatrixDefinite': WHATEVER THE INPUT: true; the input reads as it did. -/
def matrixDefiniteSpec : ChangeSpec := { name := "matrixDefinite", fn := fun _ => fun
  | [d1, d2, d3] => { results := [.lit (.bool true)], args := [d1, d2, d3] }
  | _ => none }
def matrixDefiniteRow : OpenClaim := { program := "ythhbbnfnejjpiaagreatdoor", sum := "4141289932f335eaa2b3bfb20aa722fe43be4a4e3b81ea0d700552651ac2d3d4", func := "skyfix/skyfixlaw05.MatrixDefinite", spec := "matrixDefinite", unfollowed := true, recurses := true, named := ["math/bits.deBruijn32tab"], apart := false, laid := [("math/bits.deBruijn32tab", laid_math_bits_deBruijn32tab)] }
def MatrixDefiniteSaid : Prop := matrixDefiniteRow.holds Tryz.pinned (OpenSpec.ofChange matrixDefiniteSpec)

/-- ITS FALSE NEIGHBOUR: 'it returns false'. Refute it at one input. -/
def matrixDefiniteWrong : ChangeSpec := { name := "matrixDefinite", fn := fun _ => fun
  | [d1, d2, d3] => { results := [.lit (.bool false)], args := [d1, d2, d3] }
  | _ => none }
def MatrixDefiniteWrongFalsely : Prop := matrixDefiniteRow.holds Tryz.pinned (OpenSpec.ofChange matrixDefiniteWrong)

/-- 'skyfixlaw05.MatrixNames': WHATEVER THE INPUT: true; the input reads as it did. -/
def matrixNamesSpec : ChangeSpec := { name := "matrixNames", fn := fun _ => fun
  | [] => { results := [.lit (.bool true)], args := [] }
  | _ => none }
def matrixNamesRow : OpenClaim := { program := "ythhbbnfnejjpiaagreatdoor", sum := "4141289932f335eaa2b3bfb20aa722fe43be4a4e3b81ea0d700552651ac2d3d4", func := "skyfix/skyfixlaw05.MatrixNames", spec := "matrixNames", unfollowed := true, recurses := true, named := ["math/bits.deBruijn32tab"], apart := false, laid := [("math/bits.deBruijn32tab", laid_math_bits_deBruijn32tab)] }
def MatrixNamesSaid : Prop := matrixNamesRow.holds Tryz.pinned (OpenSpec.ofChange matrixNamesSpec)

/-- ITS FALSE NEIGHBOUR: 'it returns false'. Refute it at one input. -/
def matrixNamesWrong : ChangeSpec := { name := "matrixNames", fn := fun _ => fun
  | [] => { results := [.lit (.bool false)], args := [] }
  | _ => none }
def MatrixNamesWrongFalsely : Prop := matrixNamesRow.holds Tryz.pinned (OpenSpec.ofChange matrixNamesWrong)

/- THE SECOND FORM. 'bulk': how many values and letters a reading holds, each counted each time it is reached (what is shared counts as often as it is met; a slice's spare places count too). A statement '..UptoSaid' is the law's where the arguments, and the package variables that the reading takes, are together of bulk at most 1048576: NARROWER than '..Said'. Prove '..Said' where nothing that the law and all that it calls make is longer than what came in: it says more and counts as full. Else prove '..UptoSaid'. A law counts once. -/
mutual
def uptoBulk {H : Type} : DataW H → Nat
  | .lit (.string bytes) => bytes.length + 1
  | .lit _ => 1
  | .nil => 1
  | .ptr d => uptoBulk d + 1
  | .slice elems spare => uptoBulkAll elems + uptoBulkAll spare + 1
  | .agg parts => uptoBulkAll parts + 1
  | .iface _ d => uptoBulk d + 1
  | .map entries => uptoBulkEntries entries + 1
  | .held _ => 1
def uptoBulkAll {H : Type} : List (DataW H) → Nat
  | [] => 0
  | d :: r => uptoBulk d + uptoBulkAll r
def uptoBulkEntries {H : Type} : List (Lit × DataW H) → Nat
  | [] => 0
  | x :: r => uptoBulkEntry x + uptoBulkEntries r
def uptoBulkEntry {H : Type} : Lit × DataW H → Nat
  | (.string bytes, d) => bytes.length + uptoBulk d + 1
  | (_, d) => uptoBulk d + 1
 end
def uptoSmall : (H : Type) → List (DataW H) → Bool := fun _ ds => decide (uptoBulkAll ds ≤ 1048576)
def OpenSpec.upto (s : _root_.Go.ChangeSpec) : _root_.Go.OpenSpec := { _root_.Go.OpenSpec.ofChange s with cond := some uptoSmall }

/-- 'skyfixlaw05.MatrixRing', WHERE WHAT IT READS IS OF BULK AT MOST 1048576: true; the input reads as it did. -/
def matrixRingUptoRow : OpenClaim := { program := "ythhbbnfnejjpiaagreatdoor", sum := "4141289932f335eaa2b3bfb20aa722fe43be4a4e3b81ea0d700552651ac2d3d4", func := "skyfix/skyfixlaw05.MatrixRing", spec := "matrixRing", unfollowed := true, recurses := true, named := ["math/bits.deBruijn32tab"], apart := false, laid := [("math/bits.deBruijn32tab", laid_math_bits_deBruijn32tab)], narrowed := true }
def MatrixRingUptoSaid : Prop := matrixRingUptoRow.holds Tryz.pinned (OpenSpec.upto matrixRingSpec)

/-- 'skyfixlaw05.MatrixSolves', WHERE WHAT IT READS IS OF BULK AT MOST 1048576: true; the input reads as it did. -/
def matrixSolvesUptoRow : OpenClaim := { program := "ythhbbnfnejjpiaagreatdoor", sum := "4141289932f335eaa2b3bfb20aa722fe43be4a4e3b81ea0d700552651ac2d3d4", func := "skyfix/skyfixlaw05.MatrixSolves", spec := "matrixSolves", unfollowed := true, recurses := true, named := ["math/bits.deBruijn32tab"], apart := false, laid := [("math/bits.deBruijn32tab", laid_math_bits_deBruijn32tab)], narrowed := true }
def MatrixSolvesUptoSaid : Prop := matrixSolvesUptoRow.holds Tryz.pinned (OpenSpec.upto matrixSolvesSpec)

/-- 'skyfixlaw05.MatrixInverse', WHERE WHAT IT READS IS OF BULK AT MOST 1048576: true; the input reads as it did. -/
def matrixInverseUptoRow : OpenClaim := { program := "ythhbbnfnejjpiaagreatdoor", sum := "4141289932f335eaa2b3bfb20aa722fe43be4a4e3b81ea0d700552651ac2d3d4", func := "skyfix/skyfixlaw05.MatrixInverse", spec := "matrixInverse", unfollowed := true, recurses := true, named := ["math/bits.deBruijn32tab"], apart := false, laid := [("math/bits.deBruijn32tab", laid_math_bits_deBruijn32tab)], narrowed := true }
def MatrixInverseUptoSaid : Prop := matrixInverseUptoRow.holds Tryz.pinned (OpenSpec.upto matrixInverseSpec)

/-- 'skyfixlaw05.MatrixCalls', WHERE WHAT IT READS IS OF BULK AT MOST 1048576: true; the input reads as it did. -/
def matrixCallsUptoRow : OpenClaim := { program := "ythhbbnfnejjpiaagreatdoor", sum := "4141289932f335eaa2b3bfb20aa722fe43be4a4e3b81ea0d700552651ac2d3d4", func := "skyfix/skyfixlaw05.MatrixCalls", spec := "matrixCalls", unfollowed := true, recurses := true, named := ["math/bits.deBruijn32tab"], apart := false, laid := [("math/bits.deBruijn32tab", laid_math_bits_deBruijn32tab)], narrowed := true }
def MatrixCallsUptoSaid : Prop := matrixCallsUptoRow.holds Tryz.pinned (OpenSpec.upto matrixCallsSpec)

/-- 'skyfixlaw05.MatrixForms', WHERE WHAT IT READS IS OF BULK AT MOST 1048576: true; the input reads as it did. -/
def matrixFormsUptoRow : OpenClaim := { program := "ythhbbnfnejjpiaagreatdoor", sum := "4141289932f335eaa2b3bfb20aa722fe43be4a4e3b81ea0d700552651ac2d3d4", func := "skyfix/skyfixlaw05.MatrixForms", spec := "matrixForms", unfollowed := true, recurses := true, named := ["math/bits.deBruijn32tab"], apart := false, laid := [("math/bits.deBruijn32tab", laid_math_bits_deBruijn32tab)], narrowed := true }
def MatrixFormsUptoSaid : Prop := matrixFormsUptoRow.holds Tryz.pinned (OpenSpec.upto matrixFormsSpec)

/-- 'skyfixlaw05.MatrixDefinite', WHERE WHAT IT READS IS OF BULK AT MOST 1048576: true; the input reads as it did. -/
def matrixDefiniteUptoRow : OpenClaim := { program := "ythhbbnfnejjpiaagreatdoor", sum := "4141289932f335eaa2b3bfb20aa722fe43be4a4e3b81ea0d700552651ac2d3d4", func := "skyfix/skyfixlaw05.MatrixDefinite", spec := "matrixDefinite", unfollowed := true, recurses := true, named := ["math/bits.deBruijn32tab"], apart := false, laid := [("math/bits.deBruijn32tab", laid_math_bits_deBruijn32tab)], narrowed := true }
def MatrixDefiniteUptoSaid : Prop := matrixDefiniteUptoRow.holds Tryz.pinned (OpenSpec.upto matrixDefiniteSpec)

/-- 'skyfixlaw05.MatrixNames', WHERE WHAT IT READS IS OF BULK AT MOST 1048576: true; the input reads as it did. -/
def matrixNamesUptoRow : OpenClaim := { program := "ythhbbnfnejjpiaagreatdoor", sum := "4141289932f335eaa2b3bfb20aa722fe43be4a4e3b81ea0d700552651ac2d3d4", func := "skyfix/skyfixlaw05.MatrixNames", spec := "matrixNames", unfollowed := true, recurses := true, named := ["math/bits.deBruijn32tab"], apart := false, laid := [("math/bits.deBruijn32tab", laid_math_bits_deBruijn32tab)], narrowed := true }
def MatrixNamesUptoSaid : Prop := matrixNamesUptoRow.holds Tryz.pinned (OpenSpec.upto matrixNamesSpec)

end Rows
end Go.Proofs.YthhbbnfnejjpiaaGreatDoor
