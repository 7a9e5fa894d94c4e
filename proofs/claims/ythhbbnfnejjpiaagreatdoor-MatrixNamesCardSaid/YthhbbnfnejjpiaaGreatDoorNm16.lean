/- Plain facts and contracts of functions of the program, out of walks. Their conditions stand ahead of each. -/
import Derived.Test.YthhbbnfnejjpiaaGreatDoorNm6
import Derived.Test.YthhbbnfnejjpiaaGreatDoorNm8
import Derived.Below
import Derived.BigQuiet
import Derived.ChangeSame
import Derived.Deep.Draws
import Derived.Deep.LoopGhost
import Derived.Deep.QuietTactic
import Derived.Deep.RegionHeld3
import Derived.HandedShaped
import Derived.JoinedOf
import Derived.KernelRfl
import Derived.LaidMore
import Derived.Laws.NewBlocks
import Derived.Laws.OwnMore
import Derived.Laws.Pointers
import Derived.Laws.Rows
import Derived.Lib.Hide
import Derived.Lib.LaidTab
import Derived.MakeChecks
import Derived.OpenShut
import Derived.OrdersHeld
import Derived.ProofKit
import Derived.RangeFuncNested
import Derived.RowKit3
import Derived.Shelf.Spec.TrailingZeros
import Derived.SizedLaws
import Derived.StillTactics
import Derived.StillTailTactics
import Derived.Test.YthhbbnfnejjpiaaGreatDoorProg
import Derived.Test.YthhbbnfnejjpiaaGreatDoorRows
import Derived.Test.YthhbbnfnejjpiaaGreatDoorTie
import Derived.WalkKit
import Derived.WalkLawsBesides
import Derived.WalkMore
import Derived.WalkSpells
set_option linter.unusedVariables false
set_option linter.unusedSimpArgs false
namespace Go.Proofs.YthhbbnfnejjpiaaGreatDoor
open Go Go.ChangeShapes Go.WideShapes Go.ChangeAt Go.RowKit GW NL
theorem own:ownKnob Tryz.prog.godebug=none:=by kernel_rfl
theorem gTab:Tryz.prog.globalNamed "math/bits.deBruijn32tab" =some 0:=by kernel_rfl
theorem tTab:(Tryz.prog.globals[0]?).map (·.type)=some 176:=by kernel_rfl
theorem cellsU8:Tryz.prog.cellsOf 5=1:=by kernel_rfl
theorem cellsTab:Tryz.prog.cellsOf 176=32:=by kernel_rfl
/-- the rows' list of variables -/
abbrev laidL:List (String×DataW Unit):=[("math/bits.deBruijn32tab",Rows.laid_math_bits_deBruijn32tab)]
theorem tab_of_laid {W:World}(h:laidMetH Tryz.prog laidL W):Tab W:=by
 rw[MakeChecks.laidMetH_plain _ _ _ (by kernel_rfl)] at h
 have h2:laidMet Tryz.prog [("math/bits.deBruijn32tab",Lib.tabData .u8 (Lib.deBruijn32tab.map fun(n:Nat)=>(n:Int)))] W:=h
 have hT:=Lib.tabIs_of_head gTab tTab Tryz.underlying176 Tryz.underlying5 cellsU8 cellsTab h2
 intro j hj
 have:=hT.cell gTab j (by simpa using hj)
 rw[this]
 rw[List.getD_eq_getElem?_getD,List.getElem?_map,List.getElem?_eq_getElem hj,List.getD_eq_getElem?_getD,List.getElem?_eq_getElem hj]
 rfl
/-- The door's own heap meets the condition. -/
theorem door_met (os:Os)(args:Array Value):laidMetH Tryz.prog laidL ((World.doorLaid Tryz.prog 400 os).forCall (fun _ _=>0) ⟨#[],args,[]⟩).memory:=
 laidMetH_of_parts3 (fuel:=8) (laidMet_of_run' 8 (by kernel_rfl) (by kernel_rfl)) (by kernel_rfl) (by kernel_rfl)
theorem door_shaped (os:Os)(args:Array Value):((World.doorLaid Tryz.prog 400 os).forCall (fun _ _=>0) ⟨#[],args,[]⟩).Shaped Tryz.prog:=
 World.shaped_of_RefB (by kernel_rfl) (by kernel_rfl)
end Go.Proofs.YthhbbnfnejjpiaaGreatDoor
