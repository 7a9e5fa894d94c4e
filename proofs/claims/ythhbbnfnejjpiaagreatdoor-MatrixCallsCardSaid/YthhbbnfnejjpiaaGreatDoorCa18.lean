/- Plain facts and contracts of functions of the program, out of walks. Their conditions stand ahead of each. -/
import Derived.Test.YthhbbnfnejjpiaaGreatDoorCa1
import Derived.Test.YthhbbnfnejjpiaaGreatDoorCa16
import Derived.Below
import Derived.BigQuiet
import Derived.ChangeSame
import Derived.Deep.Draws
import Derived.Deep.LoopGhost
import Derived.Deep.QuietTactic
import Derived.Deep.RegionHeld3
import Derived.HandedShaped
import Derived.JoinedOf
import Derived.KernelRfl
import Derived.LaidMore
import Derived.Laws.NewBlocks
import Derived.Laws.OwnMore
import Derived.Laws.Pointers
import Derived.Laws.Rows
import Derived.Lib.Hide
import Derived.Lib.LaidTab
import Derived.MakeChecks
import Derived.Maps.AppendAt
import Derived.OpenShut
import Derived.OrdersHeld
import Derived.ProofKit
import Derived.RangeFuncNested
import Derived.RowKit3
import Derived.Shelf.Spec.TrailingZeros
import Derived.SizedLaws
import Derived.StillTactics
import Derived.StillTailTactics
import Derived.Test.YthhbbnfnejjpiaaGreatDoorProg
import Derived.Test.YthhbbnfnejjpiaaGreatDoorRows
import Derived.Test.YthhbbnfnejjpiaaGreatDoorTie
import Derived.WalkKit
import Derived.WalkLawsBesides
import Derived.WalkMore
import Derived.WalkSpells
set_option linter.unusedVariables false
set_option linter.unusedSimpArgs false
set_option maxRecDepth 100000
namespace Go.Proofs.YthhbbnfnejjpiaaGreatDoor
open Go Go.ChangeShapes Go.WideShapes Go.ChangeAt Go.RowKit GW NL
theorem cellsI:Tryz.prog.cellsOf 3=1:=by kernel_rfl
theorem bytesI:Tryz.prog.bytesOf 3=8:=by kernel_rfl
end Go.Proofs.YthhbbnfnejjpiaaGreatDoor
