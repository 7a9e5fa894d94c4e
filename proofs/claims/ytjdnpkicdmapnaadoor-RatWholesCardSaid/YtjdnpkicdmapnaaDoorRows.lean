/-
  NARROWER THAN 'FOR EVERY INPUT', by the rows' own cells (each row's printed sentence says how): RatField: laid · RatOrder: laid · RatRounds: laid · RatWholes: laid.
  DERIVED. THE GIVEN ROWS OF THIS SEAT. 4 by the template 'for every input the law returns true; each argument reads behind the call as it read before'; 0 by the template 'total and deterministic' (their statements: YtjdnpkicdmapnaaDoorTotals.lean).
  GIVEN WITH THE SEED: the statements are not yours to turn. If you find one false, say at which input.
  Laid BY PROGRAM, IN A SANDBOX (cutbox-rows.mjs): the forced cells as the released guide's own fill.sh prints them over the translation b38901d074fe20ba… (all of the seat's roots in one cut). By AI agents, Wed Nov 11 2026. No macro, syntax, notation, axiom, sorry.
-/
import Derived.Test.YtjdnpkicdmapnaaDoorChecked
import GoSem.Claim
import GoSem.ClaimJoined
import GoSem.ClaimMapViews
import Derived.JoinedTies
import Derived.KernelRfl
namespace Go.Proofs.YtjdnpkicdmapnaaDoor
/- THE CELL 'sum', in the pinned program and in every row, IS THE sha256 OF THE DUMP (.gsa) THAT YtjdnpkicdmapnaaDoorProg.lean LOADS. Nothing in Lean hashes anything: it is a label: what it is worth is what the hold of that sum in a sandbox is worth. -/
noncomputable def Tryd.pinned : Pinned := { name := "ytjdnpkicdmapnaadoor", sum := "b38901d074fe20ba25c3c6f0307fc6224184d17ac560e51d7cb59f8f95fe1ba4", checked := Tryd.checked }
namespace Rows
def none {H : Type} : Left H := { results := [], args := [] }

/- WHAT THE LISTED PACKAGE-LEVEL VARIABLES READ AS WHEN THE CALL BEGINS. Each datum BY PROGRAM (the guide's laid-datum.mjs) off the statement by which the dump's own 'gosem.cut.vars' lays the variable. In a bare row this is a premise. The card (YtjdnpkicdmapnaaDoorCards.lean) ties it to the program's text. -/
def laid_math_bits_deBruijn32tab {H : Type} : DataW H := .agg [.lit (.int .u8 0), .lit (.int .u8 1), .lit (.int .u8 28), .lit (.int .u8 2), .lit (.int .u8 29), .lit (.int .u8 14), .lit (.int .u8 24), .lit (.int .u8 3), .lit (.int .u8 30), .lit (.int .u8 22), .lit (.int .u8 20), .lit (.int .u8 15), .lit (.int .u8 25), .lit (.int .u8 17), .lit (.int .u8 4), .lit (.int .u8 8), .lit (.int .u8 31), .lit (.int .u8 27), .lit (.int .u8 13), .lit (.int .u8 23), .lit (.int .u8 21), .lit (.int .u8 19), .lit (.int .u8 16), .lit (.int .u8 7), .lit (.int .u8 26), .lit (.int .u8 12), .lit (.int .u8 18), .lit (.int .u8 6), .lit (.int .u8 11), .lit (.int .u8 5), .lit (.int .u8 10), .lit (.int .u8 9)]

/-- 'skyfixlaw04.RatField': WHATEVER THE INPUT: true; the input reads as it did. -/
def ratFieldSpec : ChangeSpec := { name := "ratField", fn := fun _ => fun
  | [d1, d2, d3, d4] => { results := [.lit (.bool true)], args := [d1, d2, d3, d4] }
  | _ => none }
def ratFieldRow : OpenClaim := { program := "ytjdnpkicdmapnaadoor", sum := "b38901d074fe20ba25c3c6f0307fc6224184d17ac560e51d7cb59f8f95fe1ba4", func := "skyfix/skyfixlaw04.RatField", spec := "ratField", unfollowed := true, recurses := true, named := ["math/bits.deBruijn32tab", "math/bits.overflowError"], apart := false, laid := [("math/bits.deBruijn32tab", laid_math_bits_deBruijn32tab)] }
def RatFieldSaid : Prop := ratFieldRow.holds Tryd.pinned (OpenSpec.ofChange ratFieldSpec)

/-- ITS FALSE NEIGHBOUR: 'it returns false'. Refute it at one input. -/
def ratFieldWrong : ChangeSpec := { name := "ratField", fn := fun _ => fun
  | [d1, d2, d3, d4] => { results := [.lit (.bool false)], args := [d1, d2, d3, d4] }
  | _ => none }
def RatFieldWrongFalsely : Prop := ratFieldRow.holds Tryd.pinned (OpenSpec.ofChange ratFieldWrong)

/-- 'skyfixlaw04.RatOrder': WHATEVER THE INPUT: true; the input reads as it did. -/
def ratOrderSpec : ChangeSpec := { name := "ratOrder", fn := fun _ => fun
  | [d1, d2, d3, d4] => { results := [.lit (.bool true)], args := [d1, d2, d3, d4] }
  | _ => none }
def ratOrderRow : OpenClaim := { program := "ytjdnpkicdmapnaadoor", sum := "b38901d074fe20ba25c3c6f0307fc6224184d17ac560e51d7cb59f8f95fe1ba4", func := "skyfix/skyfixlaw04.RatOrder", spec := "ratOrder", unfollowed := true, recurses := true, named := ["math/bits.deBruijn32tab", "math/bits.overflowError"], apart := false, laid := [("math/bits.deBruijn32tab", laid_math_bits_deBruijn32tab)] }
def RatOrderSaid : Prop := ratOrderRow.holds Tryd.pinned (OpenSpec.ofChange ratOrderSpec)

/-- ITS FALSE NEIGHBOUR: 'it returns false'. Refute it at one input. -/
def ratOrderWrong : ChangeSpec := { name := "ratOrder", fn := fun _ => fun
  | [d1, d2, d3, d4] => { results := [.lit (.bool false)], args := [d1, d2, d3, d4] }
  | _ => none }
def RatOrderWrongFalsely : Prop := ratOrderRow.holds Tryd.pinned (OpenSpec.ofChange ratOrderWrong)

/-- 'skyfixlaw04.RatRounds': WHATEVER THE INPUT: true; the input reads as it did. -/
def ratRoundsSpec : ChangeSpec := { name := "ratRounds", fn := fun _ => fun
  | [d1, d2, d3] => { results := [.lit (.bool true)], args := [d1, d2, d3] }
  | _ => none }
def ratRoundsRow : OpenClaim := { program := "ytjdnpkicdmapnaadoor", sum := "b38901d074fe20ba25c3c6f0307fc6224184d17ac560e51d7cb59f8f95fe1ba4", func := "skyfix/skyfixlaw04.RatRounds", spec := "ratRounds", unfollowed := true, recurses := true, named := ["math/bits.deBruijn32tab", "math/bits.overflowError"], apart := false, laid := [("math/bits.deBruijn32tab", laid_math_bits_deBruijn32tab)] }
def RatRoundsSaid : Prop := ratRoundsRow.holds Tryd.pinned (OpenSpec.ofChange ratRoundsSpec)

/-- ITS FALSE NEIGHBOUR: 'it returns false'. Refute it at one input. -/
def ratRoundsWrong : ChangeSpec := { name := "ratRounds", fn := fun _ => fun
  | [d1, d2, d3] => { results := [.lit (.bool false)], args := [d1, d2, d3] }
  | _ => none }
def RatRoundsWrongFalsely : Prop := ratRoundsRow.holds Tryd.pinned (OpenSpec.ofChange ratRoundsWrong)

/-- 'skyfixlaw04.RatWholes': WHATEVER THE INPUT: true; the input reads as it did. -/
def ratWholesSpec : ChangeSpec := { name := "ratWholes", fn := fun _ => fun
  | [d1, d2, d3] => { results := [.lit (.bool true)], args := [d1, d2, d3] }
  | _ => none }
def ratWholesRow : OpenClaim := { program := "ytjdnpkicdmapnaadoor", sum := "b38901d074fe20ba25c3c6f0307fc6224184d17ac560e51d7cb59f8f95fe1ba4", func := "skyfix/skyfixlaw04.RatWholes", spec := "ratWholes", unfollowed := true, recurses := true, named := ["math/bits.deBruijn32tab", "math/bits.overflowError"], apart := false, laid := [("math/bits.deBruijn32tab", laid_math_bits_deBruijn32tab)] }
def RatWholesSaid : Prop := ratWholesRow.holds Tryd.pinned (OpenSpec.ofChange ratWholesSpec)

/-- ITS FALSE NEIGHBOUR: 'it returns false'. Refute it at one input. -/
def ratWholesWrong : ChangeSpec := { name := "ratWholes", fn := fun _ => fun
  | [d1, d2, d3] => { results := [.lit (.bool false)], args := [d1, d2, d3] }
  | _ => none }
def RatWholesWrongFalsely : Prop := ratWholesRow.holds Tryd.pinned (OpenSpec.ofChange ratWholesWrong)

/- THE SECOND FORM. 'bulk': how many values and letters a reading holds, each counted each time it is reached (what is shared counts as often as it is met; a slice's spare places count too). A statement '..UptoSaid' is the law's where the arguments, and the package variables that the reading takes, are together of bulk at most 1048576: NARROWER than '..Said'. Prove '..Said' where nothing that the law and all that it calls make is longer than what came in: it says more and counts as full. Else prove '..UptoSaid'. A law counts once. -/
mutual
def uptoBulk {H : Type} : DataW H → Nat
  | .lit (.string bytes) => bytes.length + 1
  | .lit _ => 1
  | .nil => 1
  | .ptr d => uptoBulk d + 1
  | .slice elems spare => uptoBulkAll elems + uptoBulkAll spare + 1
  | .agg parts => uptoBulkAll parts + 1
  | .iface _ d => uptoBulk d + 1
  | .map entries => uptoBulkEntries entries + 1
  | .held _ => 1
def uptoBulkAll {H : Type} : List (DataW H) → Nat
  | [] => 0
  | d :: r => uptoBulk d + uptoBulkAll r
def uptoBulkEntries {H : Type} : List (Lit × DataW H) → Nat
  | [] => 0
  | x :: r => uptoBulkEntry x + uptoBulkEntries r
def uptoBulkEntry {H : Type} : Lit × DataW H → Nat
  | (.string bytes, d) => bytes.length + uptoBulk d + 1
  | (_, d) => uptoBulk d + 1
 end
def uptoSmall : (H : Type) → List (DataW H) → Bool := fun _ ds => decide (uptoBulkAll ds ≤ 1048576)
def OpenSpec.upto (s : _root_.Go.ChangeSpec) : _root_.Go.OpenSpec := { _root_.Go.OpenSpec.ofChange s with cond := some uptoSmall }

/-- 'skyfixlaw04.RatField', WHERE WHAT IT READS IS OF BULK AT MOST 1048576: true; the input reads as it did. -/
def ratFieldUptoRow : OpenClaim := { program := "ytjdnpkicdmapnaadoor", sum := "b38901d074fe20ba25c3c6f0307fc6224184d17ac560e51d7cb59f8f95fe1ba4", func := "skyfix/skyfixlaw04.RatField", spec := "ratField", unfollowed := true, recurses := true, named := ["math/bits.deBruijn32tab", "math/bits.overflowError"], apart := false, laid := [("math/bits.deBruijn32tab", laid_math_bits_deBruijn32tab)], narrowed := true }
def RatFieldUptoSaid : Prop := ratFieldUptoRow.holds Tryd.pinned (OpenSpec.upto ratFieldSpec)

/-- 'skyfixlaw04.RatOrder', WHERE WHAT IT READS IS OF BULK AT MOST 1048576: true; the input reads as it did. -/
def ratOrderUptoRow : OpenClaim := { program := "ytjdnpkicdmapnaadoor", sum := "b38901d074fe20ba25c3c6f0307fc6224184d17ac560e51d7cb59f8f95fe1ba4", func := "skyfix/skyfixlaw04.RatOrder", spec := "ratOrder", unfollowed := true, recurses := true, named := ["math/bits.deBruijn32tab", "math/bits.overflowError"], apart := false, laid := [("math/bits.deBruijn32tab", laid_math_bits_deBruijn32tab)], narrowed := true }
def RatOrderUptoSaid : Prop := ratOrderUptoRow.holds Tryd.pinned (OpenSpec.upto ratOrderSpec)

/-- 'skyfixlaw04.RatRounds', WHERE WHAT IT READS IS OF BULK AT MOST 1048576: true; the input reads as it did. -/
def ratRoundsUptoRow : OpenClaim := { program := "ytjdnpkicdmapnaadoor", sum := "b38901d074fe20ba25c3c6f0307fc6224184d17ac560e51d7cb59f8f95fe1ba4", func := "skyfix/skyfixlaw04.RatRounds", spec := "ratRounds", unfollowed := true, recurses := true, named := ["math/bits.deBruijn32tab", "math/bits.overflowError"], apart := false, laid := [("math/bits.deBruijn32tab", laid_math_bits_deBruijn32tab)], narrowed := true }
def RatRoundsUptoSaid : Prop := ratRoundsUptoRow.holds Tryd.pinned (OpenSpec.upto ratRoundsSpec)

/-- 'skyfixlaw04.RatWholes', WHERE WHAT IT READS IS OF BULK AT MOST 1048576: true; the input reads as it did. -/
def ratWholesUptoRow : OpenClaim := { program := "ytjdnpkicdmapnaadoor", sum := "b38901d074fe20ba25c3c6f0307fc6224184d17ac560e51d7cb59f8f95fe1ba4", func := "skyfix/skyfixlaw04.RatWholes", spec := "ratWholes", unfollowed := true, recurses := true, named := ["math/bits.deBruijn32tab", "math/bits.overflowError"], apart := false, laid := [("math/bits.deBruijn32tab", laid_math_bits_deBruijn32tab)], narrowed := true }
def RatWholesUptoSaid : Prop := ratWholesUptoRow.holds Tryd.pinned (OpenSpec.upto ratWholesSpec)

end Rows
end Go.Proofs.YtjdnpkicdmapnaaDoor
