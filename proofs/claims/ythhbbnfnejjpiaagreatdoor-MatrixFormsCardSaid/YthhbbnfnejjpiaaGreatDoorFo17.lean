/- Plain facts and contracts of functions of the program, out of walks. Their conditions stand ahead of each. -/
import Derived.Test.YthhbbnfnejjpiaaGreatDoorFo16
import Derived.Below
import Derived.BigQuiet
import Derived.ChangeSame
import Derived.Deep.Draws
import Derived.Deep.LoopGhost
import Derived.Deep.QuietTactic
import Derived.Deep.RegionHeld3
import Derived.Deep.Strs
import Derived.HandedShaped
import Derived.JoinedOf
import Derived.KernelRfl
import Derived.LaidMore
import Derived.Laws.NewBlocks
import Derived.Laws.OwnMore
import Derived.Laws.Pointers
import Derived.Laws.Rows
import Derived.Lib.Hide
import Derived.Lib.LaidTab
import Derived.MakeChecks
import Derived.OpenShut
import Derived.OrdersHeld
import Derived.ProofKit
import Derived.RangeFuncNested
import Derived.RowKit3
import Derived.Shelf.Spec.TrailingZeros
import Derived.SizedLaws
import Derived.StillTactics
import Derived.StillTailTactics
import Derived.Test.YthhbbnfnejjpiaaGreatDoorProg
import Derived.Test.YthhbbnfnejjpiaaGreatDoorRows
import Derived.Test.YthhbbnfnejjpiaaGreatDoorTie
import Derived.WalkKit
import Derived.WalkLawsBesides
import Derived.WalkMore
import Derived.WalkSpells
set_option linter.unusedVariables false
set_option linter.unusedSimpArgs false
set_option maxRecDepth 100000
namespace Go.Proofs.YthhbbnfnejjpiaaGreatDoor
open Go Go.ChangeShapes Go.WideShapes Go.ChangeAt Go.RowKit GW NL
/-- A slice of uint32 in a cell. -/
theorem trod_u32s {H:Type}{enc:TypeId×Value→H}{W:World}{T:TypeId}{v:Value}{fuel:Nat}{x:DataW H×List MemPlace}(hT:Tryz.prog.underlying T=some (.slice 73))
  (hf:DataW.trod enc Tryz.prog W 0 (fun _=>true) true fuel T [v]=some x):
  ∃A c l,v=.slice A l.length c∧(l.length≤140737488355328→SlW W A c l):=by
 rcases open_ints hT Tryz.underlying73 cellsU32 hf with⟨hcs,hx⟩|⟨a,len,cap,zs,hcs,_,hl,hm,hz,hx,hcell,hwz⟩
 ·simp at hcs
  subst hcs
  exact⟨none,0,[],rfl,fun _=>Frag.Sl.nil _ _⟩
 ·simp at hcs
  subst hcs
  simp only[if_true] at hz
  have hll:((zs.take len).map Int.toNat).length=len:=by simp;omega
  refine⟨some a,cap,(zs.take len).map Int.toNat,by rw[hll],fun h9=>⟨by omega,by unfold maxLen at hm;omega,h9,?_,?_⟩⟩
  ·intro hpos
   obtain⟨b,o,rfl,hc⟩:=ints_at hcell (by omega)
   obtain⟨cs,T',fr,hb,_⟩:=cell_block (hc 0 (by omega))
   refine⟨b,o,rfl,cs,T',fr,hb,fun j hj=>?_⟩
   have hj':j<zs.length:=by omega
   have e:=hc j hj'
   simp only[World.cell?,hb] at e
   have e2:cs[o+j]?=some (.int .u32 (zs.getD j 0)):=by simpa using e
   rw[e2]
   have hb2:=bounds_u32 (hwz (zs.getD j 0) (by rw[List.getD_eq_getElem?_getD,List.getElem?_eq_getElem hj'];exact List.getElem_mem hj'))
   have e3:((zs.take len).map Int.toNat).getD j 0=(zs.getD j 0).toNat:=by
    rw[List.getD_eq_getElem?_getD,List.getElem?_map,List.getElem?_take_of_lt (by omega),List.getElem?_eq_getElem hj',List.getD_eq_getElem?_getD,List.getElem?_eq_getElem hj']
    rfl
   rw[e3,Int.toNat_of_nonneg hb2.1]
  ·intro x hx
   obtain⟨z,hz2,rfl⟩:=List.mem_map.1 hx
   have:=bounds_u32 (hwz z (List.mem_of_mem_take hz2))
   omega
theorem cellsRat:Tryz.prog.cellsOf 43=3:=by kernel_rfl
theorem cellsNat:Tryz.prog.cellsOf 41=1:=by kernel_rfl
theorem cellsBool:Tryz.prog.cellsOf 4=1:=by kernel_rfl
end Go.Proofs.YthhbbnfnejjpiaaGreatDoor
