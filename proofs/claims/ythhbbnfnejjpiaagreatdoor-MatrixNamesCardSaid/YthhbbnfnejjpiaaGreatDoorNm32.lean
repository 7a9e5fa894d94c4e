/- Plain facts and contracts of functions of the program, out of walks. Their conditions stand ahead of each. -/
import Derived.Test.YthhbbnfnejjpiaaGreatDoorNm5
import Derived.Test.YthhbbnfnejjpiaaGreatDoorNm30
import Derived.Below
import Derived.BigQuiet
import Derived.Deep.DeepCutAuto
import Derived.Deep.Draws
import Derived.Deep.LoopGhost
import Derived.Deep.QuietTactic
import Derived.Deep.RegionHeld3
import Derived.Deep.RegionLaw
import Derived.Defers
import Derived.Laws.BytesString
import Derived.Laws.Cells
import Derived.Laws.Concat
import Derived.Laws.CopyOwn
import Derived.Laws.CopyRow
import Derived.Laws.NewBlocks
import Derived.Laws.OwnMore
import Derived.Laws.Pointers
import Derived.Laws.Rows
import Derived.Lib.BitFns
import Derived.Lib.Hide
import Derived.Lib.ItoaNum
import Derived.Lib.SliceRun
import Derived.Lib.TrailingZeros
import Derived.LoopIn
import Derived.LoopNIn
import Derived.Maps.AppendAt
import Derived.OrdersHeld
import Derived.OrdersIn
import Derived.OwnWalk
import Derived.OwnWalkIn
import Derived.RangeFuncBound
import Derived.RangeFuncBox
import Derived.RangeFuncCalls
import Derived.RangeFuncLeaves
import Derived.RangeFuncNested
import Derived.RangeFuncWrites
import Derived.RowKit3
import Derived.Shelf.Abstract
import Derived.Shelf.RegionOpen
import Derived.Shelf.Spec.TrailingZeros
import Derived.StillTactics
import Derived.StillTailTactics
import Derived.TacticsInMore
import Derived.Test.YthhbbnfnejjpiaaGreatDoorProg
import Derived.WalkKit
import Derived.WalkLawsBesides
import Derived.WalkMore
import Derived.WalkSpells
set_option linter.unusedVariables false
set_option linter.unusedSimpArgs false
namespace Go.Proofs.YthhbbnfnejjpiaaGreatDoor
open Go.RowKit GW NL MX
theorem fine_of {n mt b c p:Nat}{s:El}(h:Fit n mt b s)(hc:c<mt)(hp:findP s.x n c s.rk=some p)(hb:2*b+2≤8192):Fine n mt (swapE s p) c∧Bd 8192 s.det:=by
 obtain⟨p1,p2,p3,p4⟩:=findP_some hp
 have hrk:s.rk<n:=by omega
 have hrow:∀i,i<n→RowF b mt ((swapE s p).x i):=by
  intro i hi
  show RowF b mt (swapR s.x s.rk p i)
  unfold swapR
  split
  ·exact h.row p p2
  ·split
   ·exact h.row s.rk hrk
   ·exact h.row i hi
 have hne:(swapE s p).x s.rk c≠0:=by
  show swapR s.x s.rk p s.rk c≠0
  unfold swapR
  rw[if_pos rfl]
  exact p3
 have hdet:Qn b b (swapE s p).det:=by
  show Qn b b (if p=s.rk then s.det else -s.det)
  split
  ·exact h.det
  ·exact h.det.neg
 have hpr:RowF b mt ((swapE s p).x s.rk):=hrow _ hrk
 have hdv:=hpr.div hc hne
 refine⟨⟨hdet.bd' (by omega) (by omega),?_,?_,?_,?_,?_⟩,h.det.bd' (by omega) (by omega)⟩
 ·exact(hdet.mul (hpr.qn hc)).bd' (by omega) (by omega)
 ·exact fun i hi j hj=>(hrow i hi).bdk hj (by omega)
 ·exact fun j hj=>hdv.bdk hj (by omega)
 ·exact fun i hi j hj=>((hrow i hi).bd_mul hdv hc hj).mono (by omega)
 ·exact fun i hi j hj=>((hrow i hi).sub hdv hc).bdk hj (by omega)
/-- at each column of an elimination that begins with rows of at most b bits -/
theorem fine_run {n mt b cols r:Nat}{s0:El}(h:Fit n mt b s0)(h0:s0.rk=0)(hcm:cols≤mt)(hr:∀c,c<cols→(runE n s0 c).rk<n→(runE n s0 c).rk≤r)(hb:2*bnd b r+2≤8192):
  ∀c,c<cols→∀p,findP (runE n s0 c).x n c (runE n s0 c).rk=some p→Fine n mt (swapE (runE n s0 c) p) c∧Bd 8192 (runE n s0 c).det:=by
 intro c hc p hp
 have h1:=fit_run_rk (s:=s0) (b:=b) (by rw[h0];exact h) c (by omega)
 obtain⟨p1,p2,_⟩:=findP_some hp
 have:=bnd_mono b (hr c hc (by omega))
 exact fine_of h1 (by omega) hp (by omega)
theorem fit_start {n mt k b:Nat}{a:Mx}(h:∀i,i<n→∀j,j<mt→Bd k (a i j))(hb:k*mt≤b):Fit n mt b (startE a):=
 ⟨fun i hi=>rowF_init (h i hi) hb,Qn.one _ _⟩
/-- not more pivots than n - 1 are there when a further one is found -/
theorem rk_lt (n:Nat)(s0:El)(cols:Nat):∀c,c<cols→(runE n s0 c).rk<n→(runE n s0 c).rk≤n-1:=fun c _ h=>by omega
end Go.Proofs.YthhbbnfnejjpiaaGreatDoor
