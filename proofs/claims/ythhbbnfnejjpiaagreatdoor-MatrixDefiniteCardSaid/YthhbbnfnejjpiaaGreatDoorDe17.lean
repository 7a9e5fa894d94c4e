/- Plain facts and contracts of functions of the program, out of walks. Their conditions stand ahead of each. -/
import Derived.Test.YthhbbnfnejjpiaaGreatDoorDe1
import Derived.Test.YthhbbnfnejjpiaaGreatDoorDe16
import Derived.Below
import Derived.BigQuiet
import Derived.ChangeSame
import Derived.Deep.Draws
import Derived.Deep.LoopGhost
import Derived.Deep.QuietTactic
import Derived.Deep.RegionHeld3
import Derived.HandedShaped
import Derived.JoinedOf
import Derived.KernelRfl
import Derived.LaidMore
import Derived.Laws.NewBlocks
import Derived.Laws.OwnMore
import Derived.Laws.Pointers
import Derived.Laws.Rows
import Derived.Lib.Hide
import Derived.Lib.LaidTab
import Derived.MakeChecks
import Derived.Maps.AppendAt
import Derived.OpenShut
import Derived.OrdersHeld
import Derived.ProofKit
import Derived.RangeFuncNested
import Derived.RowKit3
import Derived.Shelf.Spec.TrailingZeros
import Derived.SizedLaws
import Derived.StillTactics
import Derived.StillTailTactics
import Derived.Test.YthhbbnfnejjpiaaGreatDoorProg
import Derived.Test.YthhbbnfnejjpiaaGreatDoorRows
import Derived.Test.YthhbbnfnejjpiaaGreatDoorTie
import Derived.WalkKit
import Derived.WalkLawsBesides
import Derived.WalkMore
import Derived.WalkSpells
set_option linter.unusedVariables false
set_option linter.unusedSimpArgs false
set_option maxRecDepth 100000
namespace Go.Proofs.YthhbbnfnejjpiaaGreatDoor
open Go Go.ChangeShapes Go.WideShapes Go.ChangeAt Go.RowKit GW NL
theorem cellsI:Tryz.prog.cellsOf 3=1:=by kernel_rfl
theorem bytesI:Tryz.prog.bytesOf 3=8:=by kernel_rfl
/-- A slice of ints among the arguments. -/
theorem open_i64s {H:Type}{enc:TypeId×Value→H}{W:World}{base:Nat}{T:TypeId}{v:Value}{d:DataW H}{p:List MemPlace}(hT:Tryz.prog.underlying T=some (.slice 3))(hval:Value.okWide Tryz.prog W .any base T v)
  (h:DataW.Trod enc Tryz.prog W 0 (fun _=>true) true T v d p):
  ∃A c l,v=.slice A l.length c∧((d=.nil∧l.length=0)∨∃xs ys,d=.slice xs ys∧xs.length=l.length)∧(l.length≤140737488355328→SiW W A c l):=by
 obtain⟨a0,len,cap,rfl⟩:=okWide_slice hT hval
 obtain⟨fuel,hf⟩:=h
 rcases open_ints hT Tryz.underlying3 cellsI hf with⟨hcs,hx⟩|⟨a,len',cap',zs,hcs,_,hl,hm,hz,hx,hcell,hwz⟩
 ·simp[Value.cells] at hcs
  obtain⟨rfl,rfl,rfl⟩:=hcs
  simp only[Prod.mk.injEq] at hx
  exact⟨none,0,[],rfl,.inl ⟨hx.1,rfl⟩,fun _=>⟨Nat.le_refl _,by decide,by simp,fun h=>absurd h (by simp),fun j=>by simp⟩⟩
 ·simp[Value.cells] at hcs
  obtain⟨rfl,rfl,rfl⟩:=hcs
  simp only[Prod.mk.injEq] at hx
  simp only[if_true] at hz
  have hll:(zs.take len).length=len:=by simp;omega
  have hgd:∀j,j<len→(zs.take len).getD j 0=zs.getD j 0:=fun j hj=>by
   rw[List.getD_eq_getElem?_getD,List.getElem?_take_of_lt hj,←List.getD_eq_getElem?_getD]
  refine⟨some a,cap,zs.take len,by rw[hll],.inr ⟨_,_,hx.1,by simp[lits]⟩,fun h9=>⟨by omega,by unfold maxLen at hm;omega,h9,?_,?_⟩⟩
  ·intro hpos
   obtain⟨b,o,rfl,hc⟩:=ints_at hcell (by omega)
   obtain⟨cs,T',fr,hb,_⟩:=cell_block (hc 0 (by omega))
   refine⟨b,o,rfl,cs,T',fr,hb,fun j hj=>?_⟩
   have hj':j<zs.length:=by omega
   have e:=hc j hj'
   simp only[World.cell?,hb] at e
   have e2:cs[o+j]?=some (.int .i64 (zs.getD j 0)):=by simpa using e
   rw[e2,hgd j (by omega)]
  ·intro j
   by_cases hj:j<len
   ·rw[hgd j hj]
    have hj':j<zs.length:=by omega
    have hb2:=bounds_i64 (hwz (zs.getD j 0) (by rw[List.getD_eq_getElem?_getD,List.getElem?_eq_getElem hj'];exact List.getElem_mem hj'))
    exact⟨hb2.1,Int.lt_add_one_of_le hb2.2⟩
   ·rw[List.getD_eq_getElem?_getD,List.getElem?_eq_none (by omega)]
    exact⟨by decide,by decide⟩
/-- How long it is at most. -/
theorem reach_i64s {H:Type}{ts:List TypeId}{ds:List (DataW H)}(hs:(DataW.weightsEach Tryz.prog ts ds).all (· ≤reachBytes)=true){j:Nat}{T:TypeId}{d:DataW H}{n:Nat}(ht:ts[j]?=some T)(hd:ds[j]?=some d)(hT:Tryz.prog.underlying T=some (.slice 3))
  (h:(d=.nil∧n=0)∨∃xs ys,d=.slice xs ys∧xs.length=n):n≤17592186044416:=by
 rcases h with⟨_,rfl⟩|⟨xs,ys,rfl,rfl⟩
 ·omega
 ·have:=sized_slice hs ht hd hT
  rw[bytesI] at this
  simp only[reachBytes] at this
  omega
end Go.Proofs.YthhbbnfnejjpiaaGreatDoor
