/- Plain facts and contracts of functions of the program, out of walks. Their conditions stand ahead of each. -/
import Derived.Test.YthhbbnfnejjpiaaGreatDoorNm1
import Derived.Below
import Derived.Deep.Draws
import Derived.HandedShaped
import Derived.JoinedOf
import Derived.KernelRfl
import Derived.Laws.NewBlocks
import Derived.Laws.OwnMore
import Derived.Laws.Rows
import Derived.OpenShut
import Derived.OrdersHeld
import Derived.ProofKit
import Derived.SizedLaws
import Derived.Test.YthhbbnfnejjpiaaGreatDoorRows
import Derived.WalkKit
set_option linter.unusedVariables false
set_option linter.unusedSimpArgs false
set_option maxRecDepth 100000
namespace Go.Proofs.YthhbbnfnejjpiaaGreatDoor
open Go Go.ChangeShapes Go.WideShapes Go.ChangeAt Go.RowKit GW NL
theorem and_mk {a b:Bool}(ha:a=true)(hb:b=true):(a&&b)=true:=by rw[ha,hb];rfl
theorem closed1:laidOutB Tryz.prog=true:=by kernel_rfl
theorem closed2:mapsRowed Tryz.prog=true:=by kernel_rfl
theorem closed3:(Tryz.prog.stops==[])=true:=by kernel_rfl
theorem closed4:(Tryz.prog.stopKnobs==[])=true:=by kernel_rfl
theorem closed5:Tryz.prog.stopsHeard=true:=by kernel_rfl
theorem closed6:Tryz.prog.mayEnter=true:=by kernel_rfl
end Go.Proofs.YthhbbnfnejjpiaaGreatDoor
