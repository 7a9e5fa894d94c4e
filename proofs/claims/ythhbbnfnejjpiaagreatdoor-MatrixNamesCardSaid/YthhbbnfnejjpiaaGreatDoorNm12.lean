/- Plain facts and contracts of functions of the program, out of walks. Their conditions stand ahead of each. -/
import Derived.Test.YthhbbnfnejjpiaaGreatDoorNm1
import Derived.Test.YthhbbnfnejjpiaaGreatDoorNm7
import Derived.Below
import Derived.BigQuiet
import Derived.Deep.Draws
import Derived.Deep.QuietTactic
import Derived.Deep.RegionHeld3
import Derived.Laws.NewBlocks
import Derived.Laws.OwnMore
import Derived.Laws.Pointers
import Derived.Laws.Rows
import Derived.Lib.BitFns
import Derived.Lib.Hide
import Derived.Lib.ItoaNum
import Derived.LoopIn
import Derived.LoopNIn
import Derived.OrdersHeld
import Derived.OwnWalkIn
import Derived.RangeFuncBound
import Derived.RangeFuncBox
import Derived.RangeFuncCalls
import Derived.RangeFuncLeaves
import Derived.RangeFuncNested
import Derived.RowKit3
import Derived.Shelf.Abstract
import Derived.Shelf.RegionOpen
import Derived.StillTactics
import Derived.StillTailTactics
import Derived.TacticsInMore
import Derived.Test.YthhbbnfnejjpiaaGreatDoorProg
import Derived.WalkKit
import Derived.WalkLawsBesides
import Derived.WalkSpells
set_option linter.unusedVariables false
set_option linter.unusedSimpArgs false
namespace Go.Proofs.YthhbbnfnejjpiaaGreatDoor
open Go.RowKit GW NL Go.Shelf
attribute [local go_sem] Oper.semAt_some
/-- the order of two numbers -/
def ord (x y:Nat):Int:=if x<y then -1 else if y<x then 1 else 0
end Go.Proofs.YthhbbnfnejjpiaaGreatDoor
namespace Go.Proofs.YthhbbnfnejjpiaaGreatDoor
open Go.RowKit GW NL Go.Shelf
attribute [local go_sem] Oper.semAt_some
/-- the result of a comparison that goes from the last limb on -/
theorem ord_at {la lb:List Nat}{k:Nat}(oa:Ok la)(ob:Ok lb)(hl:la.length=lb.length)(hk:k<la.length)(he:∀j,k<j→j<la.length→la.getD j 0=lb.getD j 0)(hne:la.getD k 0≠lb.getD k 0):ord (val la) (val lb)=ord (la.getD k 0) (lb.getD k 0):=by
 have hd:la.drop (k+1)=lb.drop (k+1):=by
  apply List.ext_getElem
  ·simp;omega
  ·intro i h1 h2
   simp only[List.getElem_drop]
   simp only[List.length_drop] at h1 h2
   have:=he (k+1+i) (by omega) (by omega)
   rw[List.getD_eq_getElem?_getD,List.getD_eq_getElem?_getD,List.getElem?_eq_getElem (by omega),List.getElem?_eq_getElem (by omega)] at this
   simpa using this
 unfold ord
 rcases Nat.lt_or_gt_of_ne hne with h|h
 ·rw[if_pos (val_lt_of_drop oa hl hk hd h),if_pos h]
 ·have:=val_lt_of_drop ob hl.symm (by omega) hd.symm h
  rw[if_neg (by omega),if_pos this,if_neg (by omega),if_pos h]
theorem eq_of_all {la lb:List Nat}(hl:la.length=lb.length)(he:∀j,j<la.length→la.getD j 0=lb.getD j 0):la=lb:=by
 apply List.ext_getElem hl
 intro i h1 h2
 have:=he i h1
 rw[List.getD_eq_getElem?_getD,List.getD_eq_getElem?_getD,List.getElem?_eq_getElem (by omega),List.getElem?_eq_getElem (by omega)] at this
 simpa using this
theorem ord_self (x:Nat):ord x x=0:=by unfold ord;rw[if_neg (by omega),if_neg (by omega)]
end Go.Proofs.YthhbbnfnejjpiaaGreatDoor
