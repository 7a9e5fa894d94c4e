/- Plain facts and contracts of functions of the program, out of walks. Their conditions stand ahead of each. -/
import Derived.Test.YthhbbnfnejjpiaaGreatDoorRa1
import Derived.Test.YthhbbnfnejjpiaaGreatDoorRa2
import Derived.Test.YthhbbnfnejjpiaaGreatDoorRa13
import Derived.Test.YthhbbnfnejjpiaaGreatDoorRa14
import Derived.Test.YthhbbnfnejjpiaaGreatDoorRa17
import Derived.Test.YthhbbnfnejjpiaaGreatDoorRa21
import Derived.Below
import Derived.BigQuiet
import Derived.Deep.Draws
import Derived.Deep.LoopGhost
import Derived.Deep.QuietTactic
import Derived.Deep.RegionHeld3
import Derived.Deep.RegionLaw
import Derived.Defers
import Derived.Laws.BytesString
import Derived.Laws.Cells
import Derived.Laws.CopyOwn
import Derived.Laws.CopyRow
import Derived.Laws.NewBlocks
import Derived.Laws.OwnMore
import Derived.Laws.Pointers
import Derived.Laws.Rows
import Derived.Lib.BitFns
import Derived.Lib.Hide
import Derived.Lib.ItoaNum
import Derived.Lib.TrailingZeros
import Derived.LoopIn
import Derived.LoopNIn
import Derived.Maps.AppendAt
import Derived.OrdersIn
import Derived.OwnWalk
import Derived.OwnWalkIn
import Derived.RangeFuncBound
import Derived.RangeFuncBox
import Derived.RangeFuncCalls
import Derived.RangeFuncLeaves
import Derived.RangeFuncNested
import Derived.RowKit3
import Derived.Shelf.Abstract
import Derived.Shelf.RegionOpen
import Derived.Shelf.Spec.TrailingZeros
import Derived.StillTactics
import Derived.StillTailTactics
import Derived.TacticsInMore
import Derived.Test.YthhbbnfnejjpiaaGreatDoorProg
import Derived.WalkKit
import Derived.WalkLawsBesides
import Derived.WalkMore
import Derived.WalkSpells
set_option linter.unusedVariables false
set_option linter.unusedSimpArgs false
set_option exponentiation.threshold 10000
namespace Go.Proofs.YthhbbnfnejjpiaaGreatDoor
open Go.RowKit GW NL
theorem rchk_val0 {x : Rat} (h : Bd 8192 x) : rchk (rneg x) (limbs (rn x)) (limbs x.den) = 0 := by
 unfold rchk
 rw [chk_limbs h.1, chk_limbs h.2, val_limbs, val_limbs, if_neg (by decide), if_neg (by decide), if_neg x.den_nz, if_neg]
 rintro (⟨h1, h2⟩ | h1)
 ·exact rneg_ne h1 h2
 ·exact h1 (rgcd x)
end Go.Proofs.YthhbbnfnejjpiaaGreatDoor
