/- Plain facts and contracts of functions of the program, out of walks. Their conditions stand ahead of each. -/
import Derived.Test.YthhbbnfnejjpiaaGreatDoorNm24
import Derived.Below
import Derived.BigQuiet
import Derived.Deep.DeepCutAuto
import Derived.Deep.Draws
import Derived.Deep.LoopGhost
import Derived.Deep.QuietTactic
import Derived.Deep.RegionHeld3
import Derived.Deep.RegionLaw
import Derived.Defers
import Derived.Great.BuildSlice
import Derived.Laws.BytesString
import Derived.Laws.Cells
import Derived.Laws.Concat
import Derived.Laws.CopyOwn
import Derived.Laws.CopyRow
import Derived.Laws.NewBlocks
import Derived.Laws.OwnMore
import Derived.Laws.Pointers
import Derived.Laws.Rows
import Derived.Lib.BitFns
import Derived.Lib.Hide
import Derived.Lib.ItoaNum
import Derived.Lib.TrailingZeros
import Derived.LoopIn
import Derived.LoopNIn
import Derived.Maps.AppendAt
import Derived.OrdersHeld
import Derived.OrdersIn
import Derived.OwnWalk
import Derived.OwnWalkIn
import Derived.RangeFuncBound
import Derived.RangeFuncBox
import Derived.RangeFuncCalls
import Derived.RangeFuncLeaves
import Derived.RangeFuncNested
import Derived.RowKit3
import Derived.Shelf.Abstract
import Derived.Shelf.RegionOpen
import Derived.Shelf.Spec.TrailingZeros
import Derived.StillTactics
import Derived.StillTailTactics
import Derived.TacticsInMore
import Derived.Test.YthhbbnfnejjpiaaGreatDoorProg
import Derived.WalkKit
import Derived.WalkLawsBesides
import Derived.WalkMore
import Derived.WalkSpells
set_option linter.unusedVariables false
set_option linter.unusedSimpArgs false
set_option exponentiation.threshold 10000
namespace Go.Proofs.YthhbbnfnejjpiaaGreatDoor
open Go.RowKit GW NL MX
theorem bslice2 {ops:Array Oper}{rest:List Oper}{o:Oper}{a:Act}{Q:Exit→Act→World→Prop}{w0:World}{X:List Nat}{M:List Blk}{I:List Frag}(hw:Region.wanted o (yielded ops a.tmps)=true)(i j:Operand)(ho:o.op=.buildSlice 38 2 #[(0,i),(1,j)]){p q r p' q' r':Value}(hi:a.eval i=.agg #[p,q,r])(hj:a.eval j=.agg #[p',q',r'])(g:G w0 X M I)
  (h:∀(b:Nat) (g':G w0 X ((b,43,[p,q,r,p',q',r'])::M) I),wpList Tryz.prog ops Q rest (a.put o.dst (.slice (some ⟨b,0,none⟩) 2 2)) g'.w):wpList Tryz.prog ops Q (o::rest) a g.w:=by
 refine wpList_step fun K hK=>?_
 rw[if_pos hw]
 obtain⟨i0,hi0,hz0,hz1,hz2⟩:=info_parts infoRat
 refine wp_buildSlice 38 43 2 _ ho [p,q,r,p',q',r'].toArray i0 _ Tryz.underlying38 hi0 hz0 (by rw[hz1];decide) (by rw[hz1];decide) ?_ (hK _ _ (h _ (g.new _ _)))
 rw[hz1]
 have e:(Array.map (fun x:Nat×Operand=>(x.1,a.eval x.2)) #[(0,i),(1,j)]).toList=[(0,.agg #[p,q,r]),(1,.agg #[p',q',r'])]:=by simp[hi,hj]
 show Instr.fill _ _ (Array.map (fun x:Nat×Operand=>(x.1,a.eval x.2)) #[(0,i),(1,j)]).toList=_
 rw[e]
 kernel_rfl
end Go.Proofs.YthhbbnfnejjpiaaGreatDoor
