/- Plain facts and contracts of functions of the program, out of walks. Their conditions stand ahead of each. -/
import Derived.Test.YthhbbnfnejjpiaaGreatDoorSo26
import Derived.Test.YthhbbnfnejjpiaaGreatDoorSo27
import Derived.Test.YthhbbnfnejjpiaaGreatDoorSo29
import Derived.Test.YthhbbnfnejjpiaaGreatDoorSo32
import Derived.Test.YthhbbnfnejjpiaaGreatDoorSo33
import Derived.Test.YthhbbnfnejjpiaaGreatDoorSo35
import Derived.Below
import Derived.BigQuiet
import Derived.Deep.DeepCutAuto
import Derived.Deep.Draws
import Derived.Deep.LoopGhost
import Derived.Deep.QuietTactic
import Derived.Deep.RegionHeld3
import Derived.Deep.RegionLaw
import Derived.Defers
import Derived.Laws.BytesString
import Derived.Laws.Cells
import Derived.Laws.Concat
import Derived.Laws.CopyOwn
import Derived.Laws.CopyRow
import Derived.Laws.NewBlocks
import Derived.Laws.OwnMore
import Derived.Laws.Pointers
import Derived.Laws.Rows
import Derived.Lib.BitFns
import Derived.Lib.Hide
import Derived.Lib.ItoaNum
import Derived.Lib.SliceRun
import Derived.Lib.TrailingZeros
import Derived.LoopIn
import Derived.LoopNIn
import Derived.Maps.AppendAt
import Derived.OrdersHeld
import Derived.OrdersIn
import Derived.OwnWalk
import Derived.OwnWalkIn
import Derived.RangeFuncBound
import Derived.RangeFuncBox
import Derived.RangeFuncCalls
import Derived.RangeFuncLeaves
import Derived.RangeFuncNested
import Derived.RangeFuncWrites
import Derived.RowKit3
import Derived.Shelf.Abstract
import Derived.Shelf.RegionOpen
import Derived.Shelf.Spec.TrailingZeros
import Derived.StillTactics
import Derived.StillTailTactics
import Derived.TacticsInMore
import Derived.Test.YthhbbnfnejjpiaaGreatDoorProg
import Derived.WalkKit
import Derived.WalkLawsBesides
import Derived.WalkMore
import Derived.WalkSpells
set_option linter.unusedVariables false
set_option linter.unusedSimpArgs false
set_option exponentiation.threshold 10000
namespace Go.Proofs.YthhbbnfnejjpiaaGreatDoor
open Go.RowKit GW NL MX
/-- the sizes that an elimination of x needs, up to column cols -/
def FineAll (n mt cols:Nat)(x:Mx):Prop:=∀c,c<cols→∀p,findP (runE n (startE x) c).x n c (runE n (startE x) c).rk=some p→Fine n mt (swapE (runE n (startE x) c) p) c∧Bd 8192 (runE n (startE x) c).det
theorem G.sumCell {w0:World}{X:List Nat}{M:List Blk}{I:List Frag}(g:G w0 X M I){sb:Nat}(h:InF (sumF sb) I):g.w.cell? ⟨sb,0,Option.none⟩=some (.int .i64 0):=by
 have:=G.sumI g h
 unfold SumW at this
 simp[World.cell?,this]
set_option maxRecDepth 20000 in
set_option maxHeartbeats 4000000 in
theorem Rank_r (F0:Frag)(n m:Nat)(x:Mx)(A:Option Addr)(c:Nat)(w:World)(hF:F0.sub w)(hA:F0.Mt A c n (fun _=>m) (rawM x))(hT:Tab w)(n1:1≤n)(n2:n≤24)(m1:1≤m)(m2:m≤24)(bx:∀i,i<n→∀j,j<m→Bd 8192 (x i j))(hfine:FineAll n m m x):
  Calls Tryz.prog 25 #[.slice A n c] w fun e w'=>e=.returned (.tuple #[.int .i64 (rankM n m x:Int),.int .i64 0])∧Below w.heap.size w w':=by
 refine calls_f hF fun g=>?_
 have HA:=Lib.hid hA
 have HT:=Lib.hid hT
 have CC:=Lib.hid (fun w h t=>mCheck_any A c n (fun _=>m) (rawM x) w h t)
 rw[matE_ok n1 n2 m1 m2 bx] at CC
 have CBG:=Lib.hid (fun(g:G w [] [] [F0])=>begin_p A c n m x hA n1 (by omega) m1 (by omega) (InF.head F0 []) g hT)
 unfold BegP at CBG
 have HFA:=Lib.hid hfine
 obtain⟨b,o,rfl,hrow⟩:=hA.rowAt n1
 obtain⟨B0,k0,hh0,hrw0⟩:=hrow 0 n1
 have E0:∀(M:List Blk) (F:Frag) (g:G w [] M [F,F0]),g.w.cell? ⟨b,o,none⟩=some (.slice B0 m k0):=fun M F g=>hh0 _ _ _ _ g (InF.tail (InF.head _ _))
 have E1:∀(M:List Blk) (F H:Frag) (g:G w [] M [F,H,F0]),g.w.cell? ⟨b,o,none⟩=some (.slice B0 m k0):=fun M F H g=>hh0 _ _ _ _ g (InF.tail (InF.tail (InF.head _ _)))
 have hni:(0:Int)<(n:Int):=by omega
 clear hA hT bx hrow hh0 hrw0 hfine hF
 go_enter Tryz.func25,Tryz.ntmps25
 go_wp2_with (with_reducible refine yq _ ?_;(try generalize (G.w _).heap.size=bk);(try dsimp only[yi,yj]);(try clear g);intro g)
 (try(refine cmark _ ?_;(try dsimp only[yi,yj]);(try clear g);intro g))
 refine(CC.out _ (HA.out.mono (g.sub _ (by simp))) (G.tab g HT.out)).mono ?_
 rintro e w1 ⟨rfl,hb⟩
 obtain⟨g1,rfl⟩:=G.call_ex _ hb
 clear hb
 (try clear g)
 revert g1
 intro g
 go_wp2_with (with_reducible refine yq _ ?_;(try generalize (G.w _).heap.size=bk);(try dsimp only[yi,yj]);(try clear g);intro g)
 refine(CBG.out g).mono ?_
 rintro e w1 ⟨sb,eb,rb,capr,rs,R,F,p,q,r,g1,rfl,rfl,hp,hown,hov,hc1,hc2⟩
 clear CBG CC g
 revert g1
 intro g
 obtain⟨s1,A1,n3,c1,B1,d1,e1,rfl,rfl,rfl⟩:=hp.shape
 have HP:=Lib.hid hp
 have HO:=Lib.hid hown
 have HV:=Lib.hid hov
 clear hp hown hov
 dsimp only
 go_wp2_with (with_reducible refine yq _ ?_;(try generalize (G.w _).heap.size=bk);(try dsimp only[yi,yj]);(try clear g);intro g)
 refine(plain_run m n sb eb rb capr m F0 F (startE x) (by omega) (Nat.le_refl _) (by omega) hc1 hc2 rfl (by omega) HFA.out HT.out (InF.head _ _) rs R _ _ _ HP.out HO.out HV.out g).mono ?_
 rintro e w1 ⟨rfl,rs2,R2,F2,p2,q2,r2,hp2,hown2,hov2,g1,rfl⟩
 have ES:∀(M:List Blk) (F:Frag) (g:G w [] M [F,sumF sb,F0]),g.w.cell? ⟨sb,0,none⟩=some (.int .i64 0):=fun M F g=>G.sumCell g (InF.tail (InF.head _ _))
 clear g E0 E1
 revert g1
 intro g
 obtain⟨s2,A2,n4,c2,B2,d2,e2,rfl,rfl,rfl⟩:=hp2.shape
 have HP2:=Lib.hid hp2
 clear hp2 hown2 hov2 HP HO HV HA HFA
 dsimp only
 go_wp2_with (with_reducible refine yq _ ?_;(try generalize (G.w _).heap.size=bk);(try dsimp only[yi,yj]);(try clear g);intro g)
 go_ret2
 exact⟨rfl,G.below _⟩
set_option maxRecDepth 20000 in
theorem square_any (n m:Nat)(x:Nat→Nat→Raw)(A:Option Addr)(c:Nat)(w:World)(h:(heapOf w).Mt A c n (fun _=>m) x)(n1:1≤n):
  Calls Tryz.prog 61 #[.slice A n c] w fun e w'=>e=.returned (.bool (decide (n=m)))∧Below w.heap.size w w':=by
 refine calls_b fun g=>?_
 obtain⟨b,o,rfl,hrow⟩:=h.rowAt n1
 obtain⟨B0,k0,hh0,hrw0⟩:=hrow 0 n1
 have E0:∀(M:List Blk) (g:G w [] M [heapOf w]),g.w.cell? ⟨b,o,none⟩=some (.slice B0 m k0):=fun M g=>hh0 _ _ _ _ g (InF.head _ _)
 have hni:(0:Int)<(n:Int):=by omega
 clear h hrow hh0 hrw0
 by_cases e:n=m
 ·have hb:((n:Int)==(m:Int))=true:=by simp[e]
  have hd:decide (n=m)=true:=decide_eq_true e
  rw[hd]
  clear e hd
  go_enter Tryz.func61,Tryz.ntmps61
  go_wp2_with (with_reducible refine yq _ ?_;(try generalize (G.w _).heap.size=bk);(try dsimp only[yi,yj]);(try clear g);intro g)
  go_ret
  exact⟨rfl,G.below _⟩
 ·have hb:((n:Int)==(m:Int))=false:=by simp;omega
  have hd:decide (n=m)=false:=decide_eq_false e
  rw[hd]
  clear e hd
  go_enter Tryz.func61,Tryz.ntmps61
  go_wp2_with (with_reducible refine yq _ ?_;(try generalize (G.w _).heap.size=bk);(try dsimp only[yi,yj]);(try clear g);intro g)
  go_ret
  exact⟨rfl,G.below _⟩
set_option maxRecDepth 20000 in
set_option maxHeartbeats 4000000 in
theorem Det_r (F0:Frag)(n:Nat)(x:Mx)(A:Option Addr)(c:Nat)(w:World)(hF:F0.sub w)(hA:F0.Mt A c n (fun _=>n) (rawM x))(hT:Tab w)(n1:1≤n)(n2:n≤24)(bx:∀i,i<n→∀j,j<n→Bd 8192 (x i j))(hfine:FineAll n n n x):
  Calls Tryz.prog 19 #[.slice A n c] w fun e w'=>∃p q r H,e=.returned (.tuple #[.agg #[p,q,r],.int .i64 0])∧H.Rt p q r (rawOf (detV n x))∧NewOr F0 w w' H:=by
 refine calls_f hF fun g=>?_
 have HA:=Lib.hid hA
 have HT:=Lib.hid hT
 have CC:=Lib.hid (fun w h t=>mCheck_any A c n (fun _=>n) (rawM x) w h t)
 rw[matE_ok n1 n2 n1 n2 bx] at CC
 have CQ:=Lib.hid (fun w h=>square_any n n (rawM x) A c w h n1)
 rw[decide_eq_true rfl] at CQ
 have CBG:=Lib.hid (fun M (g:G w [] M [F0])=>begin_p A c n n x hA n1 (by omega) n1 (by omega) (InF.head F0 []) g hT)
 unfold BegP at CBG
 have C0:=Lib.hid (fun w t=>whole_r 0 0 bd_zero rfl (by decide) (by decide) w t)
 unfold RT1 at C0
 have HFA:=Lib.hid hfine
 have hni:(0:Int)<(n:Int):=by omega
 clear hA hT bx hfine hF
 go_enter Tryz.func19,Tryz.ntmps19
 go_wp2_with (with_reducible refine yq _ ?_;(try generalize (G.w _).heap.size=bk);(try dsimp only[yi,yj]);(try clear g);intro g)
 (try(refine cmark _ ?_;(try dsimp only[yi,yj]);(try clear g);intro g))
 refine(CC.out _ (HA.out.mono (g.sub _ (by simp))) (G.tab g HT.out)).mono ?_
 rintro e w1 ⟨rfl,hb⟩
 obtain⟨g1,rfl⟩:=G.call_ex _ hb
 clear hb
 (try clear g)
 revert g1
 intro g
 go_wp2_with (with_reducible refine yq _ ?_;(try generalize (G.w _).heap.size=bk);(try dsimp only[yi,yj]);(try clear g);intro g)
 (try(refine cmark _ ?_;(try dsimp only[yi,yj]);(try clear g);intro g))
 refine(CQ.out _ (HA.out.mono (g.sub _ (by simp)))).mono ?_
 rintro e w1 ⟨rfl,hb⟩
 obtain⟨g1,rfl⟩:=G.call_ex _ hb
 clear hb
 (try clear g)
 revert g1
 intro g
 go_wp2_with (with_reducible refine yq _ ?_;(try generalize (G.w _).heap.size=bk);(try dsimp only[yi,yj]);(try clear g);intro g)
 (try(refine cmark _ ?_;(try dsimp only[yi,yj]);(try clear g);intro g))
 refine(CBG.out _ g).mono ?_
 rintro e w1 ⟨sb,eb,rb,capr,rs,R,F,p,q,r,g1,rfl,rfl,hp,hown,hov,hc1,hc2⟩
 clear CBG CC CQ g
 revert g1
 intro g
 obtain⟨s1,A1,n3,c1,B1,d1,e1,rfl,rfl,rfl⟩:=hp.shape
 have HP:=Lib.hid hp
 have HO:=Lib.hid hown
 have HV:=Lib.hid hov
 clear hp hown hov
 dsimp only
 go_wp2_with (with_reducible refine yq _ ?_;(try generalize (G.w _).heap.size=bk);(try dsimp only[yi,yj]);(try clear g);intro g)
 refine(plain_run n n sb eb rb capr n F0 F (startE x) (by omega) (Nat.le_refl _) (by omega) hc1 hc2 rfl (by omega) HFA.out HT.out (InF.head _ _) rs R _ _ _ HP.out HO.out HV.out g).mono ?_
 rintro e w1 ⟨rfl,rs2,R2,F2,p2,q2,r2,hp2,hown2,hov2,g1,rfl⟩
 have ES:∀(M:List Blk) (F:Frag) (g:G w [] M [F,sumF sb,F0]),g.w.cell? ⟨sb,0,none⟩=some (.int .i64 0):=fun M F g=>G.sumCell g (InF.tail (InF.head _ _))
 clear g
 revert g1
 intro g
 obtain⟨s2,A2,n4,c2,B2,d2,e2,rfl,rfl,rfl⟩:=hp2.shape
 have HP2:=Lib.hid hp2
 have HV2:=Lib.hid hov2
 clear hp2 hown2 hov2 HP HO HV HA HFA
 obtain⟨g2,hg2⟩:=g.perm (List.perm_append_singleton (l:=_::_::R2) _)
 rw[hg2]
 clear hg2 g
 revert g2
 intro g
 dsimp only
 by_cases hr:(runE n (startE x) n).rk<n
 ·have hri:((runE n (startE x) n).rk:Int)<(n:Int):=by omega
  have hz0:detV n x=0:=by unfold detV;rw[if_pos hr]
  go_wp2_with (with_reducible refine yq _ ?_;(try generalize (G.w _).heap.size=bk);(try dsimp only[yi,yj]);(try clear g);intro g)
  refine(C0.out _ (G.tab g HT.out)).mono ?_
  rintro e w1 ⟨pz,qz,rz,Fz,rfl,hz,hn⟩
  have hnnz:=fun k o hk=>Nat.le_trans g.chg.size (hn.new k o hk)
  obtain⟨sz,Az,nz,cz,Bz,dz,kz,rfl,rfl,rfl⟩:=hz.shape
  obtain⟨g1,rfl⟩:=G.new_ex _ hn
  clear hn
  (try clear g)
  revert g1
  intro g
  go_wp2_with (with_reducible refine yq _ ?_;(try generalize (G.w _).heap.size=bk);(try dsimp only[yi,yj]);(try clear g);intro g)
  refine bodyPost_ret (v:=.tuple #[.agg #[.bool sz,.slice Az nz cz,.slice Bz dz kz],.int .i64 0]) (by simp[results,Tryz.results19,go_sem]) rfl ?_
  exact⟨_,_,_,Fz,rfl,by rw[hz0];exact hz,G.below _,G.sub _ _ (by simp),fun k o hk=> .inr (hnnz k o hk)⟩
 ·have hri:¬ (((runE n (startE x) n).rk:Int)<(n:Int)):=by omega
  have hz0:detV n x=(runE n (startE x) n).det:=by unfold detV;rw[if_neg hr]
  go_wp2_with (with_reducible refine yq _ ?_;(try generalize (G.w _).heap.size=bk);(try dsimp only[yi,yj]);(try clear g);intro g)
  refine bodyPost_ret (v:=.tuple #[.agg #[.bool s2,.slice A2 n4 c2,.slice B2 d2 e2],.int .i64 0]) (by simp[results,Tryz.results19,go_sem]) rfl ?_
  exact⟨_,_,_,rfl,F2,HP2.out,G.below _,G.sub _ _ (by simp),HV2.out⟩
end Go.Proofs.YthhbbnfnejjpiaaGreatDoor
namespace Go.Proofs.YthhbbnfnejjpiaaGreatDoor
open Go.RowKit GW NL MX
/-- Two parts as one, the second kept besides. -/
theorem mergeK {w0:World}{X:List Nat}{M:List Blk}{I:List Frag}{F H:Frag}(g:G w0 X M (H::F::I)):∃F':Frag,∃g':G w0 X M (F'::F::I),g.w=g'.w∧F.le F'∧H.le F'∧∀k o,F' k=some o→F k=some o∨H k=some o:=by
 have hF:=g.sub F (by simp)
 have hH:=g.sub H (by simp)
 refine⟨F.or H,⟨g.w,g.chg,g.own,g.may,g.dist,fun f hf=>?_,fun f hf k o hk=>?_⟩,rfl,Frag.le_orl F H,Frag.le_orr hF hH,fun k o h=>Frag.or_some h⟩
 ·rcases List.mem_cons.1 hf with rfl|hf
  ·exact Frag.or_sub hF hH
  ·exact g.sub f (List.mem_cons_of_mem _ hf)
 ·rcases List.mem_cons.1 hf with rfl|hf
  ·exact(Frag.or_some hk).elim (g.keep F (by simp) k o) (g.keep H (by simp) k o)
  ·exact g.keep f (List.mem_cons_of_mem _ hf) k o hk
/-- what reduced returns -/
def RRed (F0:Frag)(n m cols:Nat)(x:Mx)(w:World)(e:Ending)(w':World):Prop:=∃(b k:Nat) (p q r:Value) (H:Frag),e=.returned (.tuple #[.slice (some ⟨b,0,none⟩) n k,.int .i64 (rankM n cols x:Int),.agg #[p,q,r]])∧H.Mt (some ⟨b,0,none⟩) k n (fun _=>m) (rawM (runE n (startE x) cols).x)∧H.Rt p q r (rawOf (runE n (startE x) cols).det)∧NewOr F0 w w' H
set_option maxRecDepth 100000 in
set_option maxHeartbeats 16000000 in
theorem reduced_r (F0:Frag)(n m cols:Nat)(x:Mx)(A:Option Addr)(c0:Nat)(w:World)(hF:F0.sub w)(hA:F0.Mt A c0 n (fun _=>m) (rawM x))(n1:1≤n)(n2:n≤24)(m1:1≤m)(m2:m≤24)(hc:cols≤m)(hfine:FineAll n m cols x):
  Calls Tryz.prog 66 #[.slice A n c0,.int .i64 (cols:Int)] w (RRed F0 n m cols x w):=by
 refine calls_f hF fun g=>?_
 have HFI:=Lib.hid hfine
 have CBK:=Lib.hid (fun w=>blank_own n m n1 n2 m2 w)
 unfold RBlk at CBK
 have CW:=Lib.hid (fun w=>rWhole_r 1 (by decide) (by decide) w)
 unfold RT1 at CW
 rw[show rawOf ((1:Int):Rat)=rawOf 1 from rfl] at CW
 have CZ:=Lib.hid (fun x p q r w h=>risZero_r x p q r w h)
 have CTI:=Lib.hid (fun(x y:Rat) (hx:Bd 8192 x) (hy:Bd 8192 y) p q r p' q' r' w a b=>rqTimes_r x y hx hy p q r p' q' r' w a b)
 have CPL:=Lib.hid (fun(x y:Rat) (hx:Bd 8192 x) (hy:Bd 8192 y) p q r p' q' r' w a b=>rqPlus_r x y hx hy p q r p' q' r' w a b)
 have COV:=Lib.hid (fun(x y:Rat) (hx:Bd 8192 x) (hy:Bd 8192 y) h0 p q r p' q' r' w a b=>rqOver_r x y hx hy h0 p q r p' q' r' w a b)
 have CMI:=Lib.hid (fun(x:Rat) (hx:Bd 8192 x) p q r w a=>rqMinus_r x hx p q r w a)
 unfold RT1 at CTI CPL COV CMI
 obtain⟨b,o,rfl,hrow⟩:=hA.rowAt n1
 have HR:=Lib.hid hrow
 obtain⟨B0,k0,hh0,hrw0⟩:=hrow 0 (by omega)
 have E0:∀(M:List Blk) (I:List Frag) (g:G w [] M I) (hF:InF F0 I),g.w.cell? ⟨b,o,none⟩=some (.slice B0 m k0):=fun M I g hF=>hh0 _ _ _ _ g hF
 have t1:0<n:=by omega
 have t2:(0:Int)<(n:Int):=by omega
 have hm0:(0:Int)≤(m:Int):=by omega
 have hn0:(0:Int)≤(n:Int):=by omega
 clear hA hrow hh0 hrw0 hfine hF
 go_enter Tryz.func66,Tryz.ntmps66
 go_wp2_with (with_reducible refine yq _ ?_;(try generalize (G.w _).heap.size=bk);(try dsimp only[yi,yj]);(try clear g);intro g)
 (try(refine cmark _ ?_;(try dsimp only[yi,yj]);(try clear g);intro g))
 obtain⟨eb,rfl⟩:∃eb,eb=bk:=⟨_,rfl⟩
 refine(CBK.out _).mono ?_
 rintro e w1 ⟨ob,cc,cs,R,F,g1,rfl,hcc,hown,hnw,rfl⟩
 obtain⟨g2,e2⟩:=G.lift g g1 hnw
 rw[e2]
 have hnwW:F.Nw w:=fun k o hk=>Nat.le_trans g.chg.size (hnw k o hk)
 have hownW:OwnOn (List.range n) (fun j=>NumRow w.heap.size 43 F m (rawM (cpM x 0 0) j)) R cs:=hown.next (fun _ _=>rfl) (fun j hj v s hq=>(NumRow.lo hq g.chg.size).congr (fun k hk=>by unfold rawM cpM zM;rw[if_neg (by omega)]))
 obtain⟨g3,e3⟩:=g2.perm (M':=(ob,38,cs)::(eb,43,[.bool false,.slice none 0 0,.slice none 0 0])::R) ((List.perm_append_singleton _ _).cons _)
 rw[e3]
 obtain⟨F1,g4,e4,hle1,hle2,hnew⟩:=mergeK g3
 rw[e4]
 have hov1:F1.over F0 w:=fun k o hk=>(hnew k o hk).elim .inl (fun h=> .inr (hnwW k o h))
 have hown1:=hownW.next (Q':=fun j=>NumRow w.heap.size 43 F1 m (rawM (cpM x 0 0) j)) (fun _ _=>rfl) (fun j hj v s hq=>NumRow.mono hq hle2)
 clear e2 e3 e4 hown hownW hnw hnwW g1 g2 g3 g CBK hnew hle2 F
 revert g4
 intro g
 go_wp2_with (with_reducible refine yq _ ?_;(try generalize (G.w _).heap.size=bk);(try dsimp only[yi,yj]);(try clear g);intro g)
 go_loopw [8] (fun iv wr=>∃i:Nat,iv=.int .i64 (i:Int)∧i≤n∧∃(R:List Blk),OwnOn (List.range n) (fun j=>NumRow w.heap.size 43 F1 m (rawM (cpM x i 0) j)) R cs∧∃g:G w [] ((ob,38,cs)::(eb,43,[.bool false,.slice none 0 0,.slice none 0 0])::R) [F1,F0],wr=g.w) (fun iv _=>n-(intOf iv).toNat)
 case atStart=>exact⟨0,rfl,by omega,R,hown1,g,rfl⟩
 case round=>
  clear g hown1
  obtain⟨i,rfl,hi',R,hown,g,rfl⟩:=hrel
  by_cases hin:i<n
  ·have hii:(i:Int)<(n:Int):=by omega
   obtain⟨Br,kr,hh,hrw⟩:=HR.out i hin
   obtain⟨ba,oa,rfl,hna⟩:=hrw.num m1
   have EH:∀(M:List Blk) (I:List Frag) (g:G w [] M I) (hF:InF F0 I),g.w.cell? ⟨b,o+i,none⟩=some (.slice (some ⟨ba,oa,none⟩) m kr):=fun M I g hF=>hh _ _ _ _ g hF
   have HNA:=Lib.hid hna
   have HEH:=Lib.hid EH
   clear hh hrw hna EH
   go_wp2_with (with_reducible refine yq _ ?_;(try generalize (G.w _).heap.size=bk);(try dsimp only[yi,yj]);(try clear g);intro g)
   go_loopw [9] (fun kv wr=>∃k:Nat,kv=.int .i64 (k:Int)∧k≤m∧∃(R:List Blk),OwnOn (List.range n) (fun j=>NumRow w.heap.size 43 F1 m (rawM (cpM x i k) j)) R cs∧∃g:G w [] ((ob,38,cs)::(eb,43,[.bool false,.slice none 0 0,.slice none 0 0])::R) [F1,F0],wr=g.w) (fun kv _=>m-(intOf kv).toNat)
   case atStart=>exact⟨0,rfl,by omega,R,hown,g,rfl⟩
   case round=>
    clear g hown R
    obtain⟨k,rfl,hk',R,hown,g,rfl⟩:=hrel
    by_cases hkm:k<m
    ·have hki:(k:Int)<(m:Int):=by omega
     obtain⟨rb,c4,rcs,l,R',hv,hrb,hrrow,hl,hp,hbut⟩:=own_open hown hin m1
     obtain⟨g1,e1⟩:=g.perm ((hp.cons _).cons _)
     rw[e1]
     clear e1 g hp hown
     revert g1
     intro g
     obtain⟨p,q,r,h3,hrt⟩:=HNA.out k hkm
     obtain⟨sx,Px,nx,dx,Qx,mx,ex,rfl,rfl,rfl⟩:=hrt.shape
     have X0:∀(M:List Blk) (I:List Frag) (g:G w [] M I) (hF:InF F0 I),g.w.cell? ⟨ba,oa+k*3,none⟩=some (.bool sx):=fun M I g hF=>(h3 _ _ _ _ g hF).1
     have X1:∀(M:List Blk) (I:List Frag) (g:G w [] M I) (hF:InF F0 I),g.w.cell? ⟨ba,oa+k*3+1,none⟩=some (.slice Px nx dx):=fun M I g hF=>(h3 _ _ _ _ g hF).2.1
     have X2:∀(M:List Blk) (I:List Frag) (g:G w [] M I) (hF:InF F0 I),g.w.cell? ⟨ba,oa+k*3+2,none⟩=some (.slice Qx mx ex):=fun M I g hF=>(h3 _ _ _ _ g hF).2.2
     have EH:=HEH.out
     have HC:=Lib.hid (own_set (z':=rawM (cpM x i (k+1))) hin hkm hv hrb hrrow hl hbut (fun r c _ _ h=>by unfold rawM;rw[cpM_ne h]) F1 _ _ _ (Frag.le_refl F1) (by unfold rawM;rw[cpM_at];exact hrt.mono hle1))
     obtain⟨p6,q6,r6,hl6,ht6⟩:=hl.2 k hkm
     obtain⟨z0,z1,z2⟩:=hrrow.tri hl6
     clear h3 hrt hl hl6 ht6 hrrow hbut
     go_upto_region 8 with(with_reducible refine yq _ ?_;(try generalize (G.w _).heap.size=bk);(try dsimp only[yi,yj]);(try clear g);intro g)
     ((try simp only[G.drew_eq,G.drewN_eq]);(refine yq _ ?_;(try generalize (G.w _).heap.size=bk);(try dsimp only[yi,yj]);(try clear g);intro g))
     refine wp_region_held_drew (S:=(fun w'=>w'.cell? ⟨ob,i,none⟩=some (.slice (some ⟨rb,0,none⟩) m c4)∧w'.cell? ⟨b,o+i,none⟩=some (.slice (some ⟨ba,oa,none⟩) m kr)∧w'.cell? ⟨ba,oa+k*3,none⟩=some (.bool sx)∧w'.cell? ⟨ba,oa+k*3+1,none⟩=some (.slice Px nx dx)∧w'.cell? ⟨ba,oa+k*3+2,none⟩=some (.slice Qx mx ex))) (by kernel_rfl) (by(simp[go_sem,InF.t2,InF.t3, *];done)) (fun hHeld=>?_)
     refine tk0 [0,1,2,3,4,5,6,7,8,9,10,11,12] ?_
     iterate 13 (refine tkc rfl (by kernel_rfl) (fun _ _ _ h=>h) (by rfl) ‹_› (by intro w hSw;(try dsimp only at hSw);go_simp;(try with_reducible rfl)) ?_;try simp only[Act.put,yk,yl,yn,yo,yi,yj])
     refine tkn ?_
     refine wpAnyH_ready (rs:=[13]) (by kernel_rfl) (by simp) ?_
     refine AllReadyH.cons rfl (fun K hK=>?_) AllReadyH.nil
     ·(try simp only[Act.put,yk,yl,yn,yo,yi,yj])
      go_simp
      refine hK.out _ _ (by(simp[go_sem,InF.t2,InF.t3, *];done)) (fun hHeld=>?_)
      clear hK K
      (try simp only[Act.put,yk,yl,yn,yo,yi,yj])
      refine wpAnyH_done (by kernel_rfl) ?_ _
      (as_aux_lemma=>
       (try clear hHeld)
       ((try simp only[G.drew_eq,G.drewN_eq]);(refine yq _ ?_;(try generalize (G.w _).heap.size=bk);(try dsimp only[yi,yj]);(try clear g);intro g))
       go_wp2_with (with_reducible refine yq _ ?_;(try generalize (G.w _).heap.size=bk);(try dsimp only[yi,yj]);(try clear g);intro g)
       go_roundw
       case rel=>exact⟨k+1,by go_num,by omega,_,HC.out,g,rfl⟩
       case measure=>simp[intOf]<;>omega)
    ·obtain rfl:k=m:=by omega
     go_wp2_with (with_reducible refine yq _ ?_;(try generalize (G.w _).heap.size=bk);(try dsimp only[yi,yj]);(try clear g);intro g)
     go_roundw
     case rel=>exact⟨i+1,by go_num,by omega,R,hown.next (fun _ _=>rfl) (fun j hj v s hq=>hq.congr fun c hc=>by unfold rawM;rw[cpM_row hc]),g,rfl⟩
     case measure=>simp[intOf]<;>omega
  ·obtain rfl:n=i:=by omega
   have hown0:=hown.next (Q':=fun j=>NumRow w.heap.size 43 F1 m (rawM (startE x).x j)) (fun _ _=>rfl) (fun j hj v s hq=>NumRow.congr hq (fun c hc=>by unfold rawM cpM;rw[if_pos (.inl (List.mem_range.1 hj))];rfl))
   clear hown HR E0
   (as_aux_lemma=>
    go_wp2_with (with_reducible refine yq _ ?_;(try generalize (G.w _).heap.size=bk);(try dsimp only[yi,yj]);(try clear g);intro g)
    (try(refine cmark _ ?_;(try dsimp only[yi,yj]);(try clear g);intro g))
    refine(CW.out _).mono ?_
    rintro e w1 ⟨pq,qq,rq,Fq,rfl,hq,hn⟩
    have hnnq:=fun k o hk=>Nat.le_trans g.chg.size (hn.new k o hk)
    obtain⟨sq,Aq,nq,cq,Bq,dq,kq,rfl,rfl,rfl⟩:=hq.shape
    obtain⟨g1,rfl⟩:=G.new_ex _ hn
    clear hn
    (try clear g)
    revert g1
    intro g
    obtain⟨F2,g2,e2,hle2,hle3,hnew⟩:=g.merge
    rw[e2]
    have hov2:F2.over F0 w:=fun k o hk=>(hnew k o hk).elim (hov1 k o) (fun h=> .inr (hnnq k o h))
    have hle4:=Frag.le_trans hle1 hle2
    have hdet:F2.Rt (.bool sq) (.slice Aq nq cq) (.slice Bq dq kq) (rawOf (startE x).det):=hq.mono hle3
    have hown2:=hown0.next (Q':=fun j=>NumRow w.heap.size 43 F2 m (rawM (startE x).x j)) (fun _ _=>rfl) (fun j hj v s hq=>NumRow.mono hq hle2)
    clear e2 g hown0 hov1 hle1 hle2 hle3 hnew hnnq hq CW
    revert g2
    intro g
    go_wp2_with (with_reducible refine yq _ ?_;(try generalize (G.w _).heap.size=bk);(try dsimp only[yi,yj]);(try clear g);intro g)
    obtain⟨db,rfl⟩:∃db,db=bk:=⟨_,rfl⟩
    go_loopw [10,12] (fun av cv wr=>∃(c:Nat) (s:El),cv=.int .i64 (c:Int)∧c≤cols∧Hid (runE n (startE x) c=s)∧av=.int .i64 (s.rk:Int)∧s.rk≤n∧∃(F:Frag) (R:List Blk) (cs:List Value) (p q r:Value),Hid (F.Rt p q r (rawOf s.det))∧OwnOn (List.range n) (fun j=>NumRow w.heap.size 43 F m (rawM s.x j)) R cs∧Hid (F.over F0 w)∧Hid (F0.le F)∧∃g:G w [] ((db,43,[p,q,r])::(ob,38,cs)::(eb,43,[.bool false,.slice none 0 0,.slice none 0 0])::R) [F,F0],wr=g.w) (fun _ cv _=>cols-(intOf cv).toNat)
    case atStart=>exact⟨0,startE x,rfl,by omega,Lib.hid rfl,rfl,by show 0≤n;omega,F2,R,cs,_,_,_,Lib.hid hdet,hown2,Lib.hid hov2,Lib.hid hle4,_,rfl⟩
    case round=>
     clear g hown2 hdet hov2 hle4
     obtain⟨c,s,rfl,hcc',HS,rfl,hrk,F,R,cs,p,q,r,HD,hown,HOV,HLE,g,rfl⟩:=hrel
     have HDS:=HD.out.shape
     obtain⟨sd,Ad,nd,cd,Dd,dd,kd,rfl,rfl,rfl⟩:=HDS
     by_cases hgo:c<cols∧s.rk<n
     ·obtain⟨hcl,hrl⟩:=hgo
      have hci:(c:Int)<(cols:Int):=by omega
      have hri:(s.rk:Int)<(n:Int):=by omega
      have dci:decide ((c:Int)<(cols:Int))=true:=decide_eq_true hci
      have hcm:c<m:=by omega
      have hrk0:(0:Int)≤(s.rk:Int):=by omega
      go_wp2_with (with_reducible refine yq _ ?_;(try generalize (G.w _).heap.size=bk);(try dsimp only[yi,yj]);(try clear g);intro g)
      go_loopw [13] (fun pv wr=>∃p:Nat,pv=.int .i64 (p:Int)∧s.rk≤p∧p≤n∧Hid (∀q,s.rk≤q→q<p→s.x q c=0)∧∃(R:List Blk),OwnOn (List.range n) (fun j=>NumRow w.heap.size 43 F m (rawM s.x j)) R cs∧∃g:G w [] ((db,43,[.bool sd,.slice Ad nd cd,.slice Dd dd kd])::(ob,38,cs)::(eb,43,[.bool false,.slice none 0 0,.slice none 0 0])::R) [F,F0],wr=g.w) (fun pv _=>n-(intOf pv).toNat)
      case atStart=>exact⟨s.rk,rfl,Nat.le_refl _,hrk,Lib.hid (fun q h1 h2=>by omega),R,hown,g,rfl⟩
      case round =>
       clear g hown R
       obtain⟨p,rfl,hsp,hpn,HZ,R,hown,g,rfl⟩:=hrel
       by_cases hp:p<n
       ·have hpi:(p:Int)<(n:Int):=by omega
        have dpi:decide ((p:Int)<(n:Int))=true:=decide_eq_true hpi
        obtain⟨rb,c4,rcs,l,R',hv,hrb,hrrow,hl,hpm,hown2⟩:=own_see hown (List.mem_range.2 hp) m1
        obtain⟨g1,e1⟩:=g.perm (((hpm.cons _).cons _).cons _)
        rw[e1]
        clear e1 g hpm hown
        revert g1
        intro g
        obtain⟨p6,q6,r6,hl6,ht6⟩:=hl.2 c hcm
        obtain⟨z0,z1,z2⟩:=hrrow.tri hl6
        obtain⟨s6,P6,n6,d6,Q6,m6,e6,rfl,rfl,rfl⟩:=ht6.shape
        have HX6:=Lib.hid ht6
        obtain⟨bz,hbz⟩:∃bz,decide (s.x p c=0)=bz:=⟨_,rfl⟩
        have CZ1:=Lib.hid (CZ.out (s.x p c))
        rw[hbz] at CZ1
        clear ht6 hl6 hl hrrow
        go_wp2_with (with_reducible refine yq _ ?_;(try generalize (G.w _).heap.size=bk);(try dsimp only[yi,yj]);(try clear g);intro g)
        refine(CZ1.out _ _ _ _ (G.rtI g (f:=F) (by simp) HX6.out)).mono ?_
        rintro e w1 ⟨rfl,hb⟩
        obtain⟨g1,rfl⟩:=G.call_ex _ hb
        clear hb
        (try clear g)
        revert g1
        intro g
        cases bz
        case true=>
         have hz0:s.x p c=0:=of_decide_eq_true hbz
         clear hbz
         go_wp2_with (with_reducible refine yq _ ?_;(try generalize (G.w _).heap.size=bk);(try dsimp only[yi,yj]);(try clear g);intro g)
         go_roundw
         case rel=>exact⟨p+1,by go_num,by omega,by omega,Lib.hid (fun q h1 h2=>by
           by_cases hqp:q=p
           ·rw[hqp];exact hz0
           ·exact HZ.out q h1 (by omega)),_,hown2,g,rfl⟩
         case measure=>simp[intOf]<;>omega
        have hnz:s.x p c≠0:=of_decide_eq_false hbz
        have HFP:Hid (findP s.x n c s.rk=some p):=Lib.hid (findP_some_of hsp hp hnz (fun q h1 h2=>HZ.out q h1 h2))
        clear hbz HX6 z0 z1 z2 CZ1 HZ hnz
        obtain⟨t,ht⟩:∃t,swapE s p=t:=⟨_,rfl⟩
        have HT:=Lib.hid ht
        have HST:Hid (runE n (startE x) (c+1)=roundE t c):=Lib.hid (by
         show stepE n c (runE n (startE x) c)=_
         rw[HS.out,←ht]
         exact stepE_some HFP.out)
        have HFN:Hid (Fine n m t c∧t.x t.rk c≠0):=Lib.hid (by
         have h1:=HFI.out c (by omega) p (by rw[HS.out];exact HFP.out)
         rw[HS.out,ht] at h1
         refine⟨h1.1,?_⟩
         rw[←ht]
         show swapR s.x s.rk p s.rk c≠0
         unfold swapR
         rw[if_pos rfl]
         exact(findP_some HFP.out).2.2.1)
        have HBD:Hid (Bd 8192 s.det):=Lib.hid (by
         have h1:=HFI.out c (by omega) p (by rw[HS.out];exact HFP.out)
         rw[HS.out] at h1
         exact h1.2)
        have hta:t.rk=s.rk:=by rw[←ht];rfl
        obtain⟨a,ha⟩:∃a,s.rk=a:=⟨_,rfl⟩
        rw[ha] at hta hrl hri hsp hrk0 ⊢
        have hpn':((p:Int)==(n:Int))=false:=by simp;omega
        clear HFP HS
        go_upto_if 88 with(with_reducible refine yq _ ?_;(try generalize (G.w _).heap.size=bk);(try dsimp only[yi,yj]);(try clear g);intro g)
        go_cut [13] (fun r13 wx=>∃(F:Frag) (R:List Blk) (cs:List Value) (p q r:Value),Hid (F.Rt p q r (rawOf t.det))∧OwnOn (List.range n) (fun j=>NumRow w.heap.size 43 F m (rawM t.x j)) R cs∧Hid (F.over F0 w)∧Hid (F0.le F)∧∃g:G w [] ((db,43,[p,q,r])::(ob,38,cs)::(eb,43,[.bool false,.slice none 0 0,.slice none 0 0])::R) [F,F0],wx=g.w)
        case first=>
         clear HST HFN
         by_cases hpa:p=a
         ·have hpb:((p:Int)==(a:Int))=true:=by simp[hpa]
          have hpb2:((p:Int) !=(a:Int))=false:=by simp[hpa]
          have htx:s.x=t.x:=by
           rw[←ht]
           show s.x=swapR s.x s.rk p
           rw[ha,hpa,swapR_self]
          have htd:s.det=t.det:=by
           rw[←ht]
           show s.det=if p=s.rk then s.det else -s.det
           rw[if_pos (hpa.trans ha.symm)]
          (as_aux_lemma=>
           go_wp2_with (with_reducible refine yq _ ?_;(try generalize (G.w _).heap.size=bk);(try dsimp only[yi,yj]);(try clear g);intro g)
           go_meet
           case rel=>exact⟨F,_,cs,_,_,_,Lib.hid (by rw[←htd];exact HD.out),(by rw[←htx];exact hown2),HOV,HLE,g,rfl⟩)
         ·have hpb:((p:Int)==(a:Int))=false:=by simp;omega
          have hpb2:((p:Int) !=(a:Int))=true:=by simp;omega
          obtain⟨rb2,c5,rcs2,l2,R2,hva,hrb2,hrrow2,hl2,hp2,hown3⟩:=own_see hown2 (List.mem_range.2 hrl) m1
          have HSW:Hid (OwnOn (List.range n) (fun j=>NumRow w.heap.size 43 F m (rawM t.x j)) ((rb,43,rcs)::R') ((cs.set p (.slice (some ⟨rb2,0,none⟩) m c5)).set a (.slice (some ⟨rb,0,none⟩) m c4))):=Lib.hid (by
           rw[List.set_comm _ _ hpa,←ht]
           show OwnOn _ (fun j=>NumRow w.heap.size 43 F m (rawM (swapR s.x s.rk p) j)) _ _
           rw[ha]
           exact OwnOn.swap (P:=fun y v u=>NumRow w.heap.size 43 F m (fun k=>rawOf (y k)) v u) hown2 hrl hp (fun h=>hpa h.symm) hva hv)
          have htd: -s.det=t.det:=by
           rw[←ht]
           show -s.det=if p=s.rk then s.det else -s.det
           rw[if_neg (fun h=>hpa (h.trans ha))]
          have HTD:=Lib.hid htd
          clear hown2 hown3 hl2 hrrow2 hp2 hrb2 htd
          (as_aux_lemma=>
           go_upto_region 18 with(with_reducible refine yq _ ?_;(try generalize (G.w _).heap.size=bk);(try dsimp only[yi,yj]);(try clear g);intro g)
           ((try simp only[G.drew_eq,G.drewN_eq]);(refine yq _ ?_;(try generalize (G.w _).heap.size=bk);(try dsimp only[yi,yj]);(try clear g);intro g))
           refine wp_region_held_drew (S:=(fun w'=>True)) (by kernel_rfl) (by trivial) (fun hHeld=>?_)
           refine tk0 [0,1,2,3,4,5,6,8,9,10] ?_
           iterate 10 (refine tkc rfl (by kernel_rfl) (fun _ _ _ h=>h) (by rfl) ‹_› (by intro w hSw;(try dsimp only at hSw);go_simp;(try with_reducible rfl)) ?_;try simp only[Act.put,yk,yl,yn,yo,yi,yj])
           refine tkn ?_
           refine wpAnyH_ready (rs:=[7,11]) (by kernel_rfl) (by simp) ?_
           refine AllReadyH.cons rfl (fun K hK=>?_) (AllReadyH.cons rfl (fun K hK=>?_) AllReadyH.nil)
           ·(try simp only[Act.put,yk,yl,yn,yo,yi,yj])
            go_simp
            refine hK.out _ _ (by trivial) (fun hHeld=>?_)
            clear hK K
            (try simp only[Act.put,yk,yl,yn,yo,yi,yj])
            refine wpAnyH_ready (rs:=[11]) (by kernel_rfl) (by simp) ?_
            refine AllReadyH.cons rfl (fun K hK=>?_) AllReadyH.nil
            ·(try simp only[Act.put,yk,yl,yn,yo,yi,yj])
             go_simp
             refine hK.out _ _ (by trivial) (fun hHeld=>?_)
             clear hK K
             (try simp only[Act.put,yk,yl,yn,yo,yi,yj])
             refine tk0 [12] ?_
             iterate 1 (refine tkc rfl (by kernel_rfl) (fun _ _ _ h=>h) (by rfl) ‹_› (by intro w hSw;(try dsimp only at hSw);go_simp;(try with_reducible rfl)) ?_;try simp only[Act.put,yk,yl,yn,yo,yi,yj])
             refine tkn ?_
             refine wpAnyH_ready (rs:=[13]) (by kernel_rfl) (by simp) ?_
             refine AllReadyH.cons rfl (fun K hK=>?_) AllReadyH.nil
             ·(try simp only[Act.put,yk,yl,yn,yo,yi,yj])
              go_simp
              refine hK.out _ _ (by trivial) (fun hHeld=>?_)
              clear hK K
              (try simp only[Act.put,yk,yl,yn,yo,yi,yj])
              refine tk0 [14] ?_
              iterate 1 (refine tkc rfl (by kernel_rfl) (fun _ _ _ h=>h) (by rfl) ‹_› (by intro w hSw;(try dsimp only at hSw);go_simp;(try with_reducible rfl)) ?_;try simp only[Act.put,yk,yl,yn,yo,yi,yj])
              refine tkn ?_
              refine wpAnyH_ready (rs:=[15]) (by kernel_rfl) (by simp) ?_
              refine AllReadyH.cons rfl (fun K hK=>?_) AllReadyH.nil
              ·(try simp only[Act.put,yk,yl,yn,yo,yi,yj])
               go_simp
               refine hK.out _ _ (by trivial) (fun hHeld=>?_)
               clear hK K
               (try simp only[Act.put,yk,yl,yn,yo,yi,yj])
               refine wpAnyH_done (by kernel_rfl) ?_ _
               (as_aux_lemma=>
                (try clear hHeld)
                ((try simp only[G.drew_eq,G.drewN_eq]);(refine yq _ ?_;(try generalize (G.w _).heap.size=bk);(try dsimp only[yi,yj]);(try clear g);intro g))
                go_wp2_with (with_reducible refine yq _ ?_;(try generalize (G.w _).heap.size=bk);(try dsimp only[yi,yj]);(try clear g);intro g)
                (try(refine cmark _ ?_;(try dsimp only[yi,yj]);(try clear g);intro g))
                refine(CMI.out s.det HBD.out _ _ _ _ (G.rtI g (f:=F) (by simp) HD.out)).mono ?_
                rintro e w1 ⟨pv,qv,rv,Fv,rfl,hv,hn⟩
                have hnnv:=fun k o hk=>Nat.le_trans g.chg.size (hn.new k o hk)
                obtain⟨sv,Av,nv,cv,Bv,dv,kv,rfl,rfl,rfl⟩:=hv.shape
                obtain⟨g1,rfl⟩:=G.new_ex _ hn
                clear hn
                (try clear g)
                revert g1
                intro g
                obtain⟨F2,g2,e2,hle2,hle3,hnew⟩:=g.merge
                rw[e2]
                clear e2 g
                revert g2
                intro g
                go_wp2_with (with_reducible refine yq _ ?_;(try generalize (G.w _).heap.size=bk);(try dsimp only[yi,yj]);(try clear g);intro g)
                go_meet
                case rel=>exact⟨F2,_,_,_,_,_,Lib.hid (by rw[←HTD.out];exact hv.mono hle3),HSW.out.next (fun _ _=>rfl) (fun j hj v s hq=>NumRow.mono hq hle2),Lib.hid (fun k o hk=>(hnew k o hk).elim (HOV.out k o) (fun h=> .inr (hnnv k o h))),Lib.hid (Frag.le_trans HLE.out hle2),_,rfl⟩)
           ·(try simp only[Act.put,yk,yl,yn,yo,yi,yj])
            go_simp
            refine hK.out _ _ (by trivial) (fun hHeld=>?_)
            clear hK K
            (try simp only[Act.put,yk,yl,yn,yo,yi,yj])
            refine wpAnyH_ready (rs:=[7]) (by kernel_rfl) (by simp) ?_
            refine AllReadyH.cons rfl (fun K hK=>?_) AllReadyH.nil
            ·(try simp only[Act.put,yk,yl,yn,yo,yi,yj])
             go_simp
             refine hK.out _ _ (by trivial) (fun hHeld=>?_)
             clear hK K
             (try simp only[Act.put,yk,yl,yn,yo,yi,yj])
             refine tk0 [12] ?_
             iterate 1 (refine tkc rfl (by kernel_rfl) (fun _ _ _ h=>h) (by rfl) ‹_› (by intro w hSw;(try dsimp only at hSw);go_simp;(try with_reducible rfl)) ?_;try simp only[Act.put,yk,yl,yn,yo,yi,yj])
             refine tkn ?_
             refine wpAnyH_ready (rs:=[13]) (by kernel_rfl) (by simp) ?_
             refine AllReadyH.cons rfl (fun K hK=>?_) AllReadyH.nil
             ·(try simp only[Act.put,yk,yl,yn,yo,yi,yj])
              go_simp
              refine hK.out _ _ (by trivial) (fun hHeld=>?_)
              clear hK K
              (try simp only[Act.put,yk,yl,yn,yo,yi,yj])
              refine tk0 [14] ?_
              iterate 1 (refine tkc rfl (by kernel_rfl) (fun _ _ _ h=>h) (by rfl) ‹_› (by intro w hSw;(try dsimp only at hSw);go_simp;(try with_reducible rfl)) ?_;try simp only[Act.put,yk,yl,yn,yo,yi,yj])
              refine tkn ?_
              refine wpAnyH_ready (rs:=[15]) (by kernel_rfl) (by simp) ?_
              refine AllReadyH.cons rfl (fun K hK=>?_) AllReadyH.nil
              ·(try simp only[Act.put,yk,yl,yn,yo,yi,yj])
               go_simp
               refine hK.out _ _ (by trivial) (fun hHeld=>?_)
               clear hK K
               (try simp only[Act.put,yk,yl,yn,yo,yi,yj])
               refine wpAnyH_done (by kernel_rfl) ?_ _
               (as_aux_lemma=>
                (try clear hHeld)
                ((try simp only[G.drew_eq,G.drewN_eq]);(refine yq _ ?_;(try generalize (G.w _).heap.size=bk);(try dsimp only[yi,yj]);(try clear g);intro g))
                go_wp2_with (with_reducible refine yq _ ?_;(try generalize (G.w _).heap.size=bk);(try dsimp only[yi,yj]);(try clear g);intro g)
                (try(refine cmark _ ?_;(try dsimp only[yi,yj]);(try clear g);intro g))
                refine(CMI.out s.det HBD.out _ _ _ _ (G.rtI g (f:=F) (by simp) HD.out)).mono ?_
                rintro e w1 ⟨pv,qv,rv,Fv,rfl,hv,hn⟩
                have hnnv:=fun k o hk=>Nat.le_trans g.chg.size (hn.new k o hk)
                obtain⟨sv,Av,nv,cv,Bv,dv,kv,rfl,rfl,rfl⟩:=hv.shape
                obtain⟨g1,rfl⟩:=G.new_ex _ hn
                clear hn
                (try clear g)
                revert g1
                intro g
                obtain⟨F2,g2,e2,hle2,hle3,hnew⟩:=g.merge
                rw[e2]
                clear e2 g
                revert g2
                intro g
                go_wp2_with (with_reducible refine yq _ ?_;(try generalize (G.w _).heap.size=bk);(try dsimp only[yi,yj]);(try clear g);intro g)
                go_meet
                case rel=>exact⟨F2,_,_,_,_,_,Lib.hid (by rw[←HTD.out];exact hv.mono hle3),HSW.out.next (fun _ _=>rfl) (fun j hj v s hq=>NumRow.mono hq hle2),Lib.hid (fun k o hk=>(hnew k o hk).elim (HOV.out k o) (fun h=> .inr (hnnv k o h))),Lib.hid (Frag.le_trans HLE.out hle2),_,rfl⟩)
           )
        case rest=>
         clear hown2 HD HOV HLE HBD HT ht hv hrb g R' HFI
         obtain⟨F,R,cs,p',q',r',HD,hown,HOV,HLE,g,rfl⟩:=hcut
         obtain⟨s1,A1,e1,f1,B1,h1,i1,rfl,rfl,rfl⟩:=HD.out.shape
         obtain⟨hfn,hne⟩:=HFN.out
         rw[hta] at hne
         have hrk1:a+1≤n:=hrl
         have HFa:=Lib.hid hfn.ent
         have HFd:=Lib.hid hfn.det
         have HFq:=Lib.hid hfn.quo
         have HFp:=Lib.hid hfn.pro
         have HNE:=Lib.hid hne
         rw[hta] at HFq HFp
         clear hfn hne HFN
         obtain⟨v,hv⟩:∃v,t.x a c=v:=⟨_,rfl⟩
         obtain⟨dt,hdt⟩:∃dt,t.det*v=dt:=⟨_,rfl⟩
         have HDT:=Lib.hid hdt
         obtain⟨Y,hY⟩:∃Y,divR t.x a v=Y:=⟨_,rfl⟩
         have HYa:Hid (∀j,Y a j=t.x a j/v):=Lib.hid (fun j=>by rw[←hY];unfold divR;rw[if_pos rfl])
         have HYi:Hid (∀i,i≠a→∀j,Y i j=t.x i j):=Lib.hid (fun i hi j=>by rw[←hY];unfold divR;rw[if_neg hi])
         have HST2:Hid (runE n (startE x) (c+1)=⟨takeR Y a c,dt,a+1⟩):=Lib.hid (by
          rw[HST.out]
          unfold roundE
          rw[hta,hv,hdt,hY])
         rw[hv] at HNE HFq HFp
         have HV:=Lib.hid hv
         have HYY:=Lib.hid hY
         clear hv hdt hY HST
         (as_aux_lemma=>
          obtain⟨rb,c4,rcs,l,R',hv,hrb,hrrow,hl,hp,hbut⟩:=own_open hown hrl m1
          obtain⟨g1,e1'⟩:=g.perm (((hp.cons _).cons _).cons _)
          rw[e1']
          have HOW:=Lib.hid (hown.permR hp)
          clear e1' g hp hown hbut
          revert g1
          intro g
          obtain⟨p6,q6,r6,hl6,ht6⟩:=hl.2 c hcm
          obtain⟨z0,z1,z2⟩:=hrrow.tri hl6
          obtain⟨s6,P6,n6,d6,Q6,m6,e6,rfl,rfl,rfl⟩:=ht6.shape
          have HPV:Hid (F.Rt (.bool s6) (.slice P6 n6 d6) (.slice Q6 m6 e6) (rawOf v)):=Lib.hid (by rw[←HV.out];exact ht6)
          clear ht6 hl6 hl hrrow
          go_wp2_with (with_reducible refine yq _ ?_;(try generalize (G.w _).heap.size=bk);(try dsimp only[yi,yj]);(try clear g);intro g)
          (try(refine cmark _ ?_;(try dsimp only[yi,yj]);(try clear g);intro g))
          refine(CTI.out t.det v HFd.out (by rw[←HV.out];exact HFa.out a hrl c hcm) _ _ _ _ _ _ _ (G.rtI g (f:=F) (by simp) HD.out) (G.rtI g (f:=F) (by simp) HPV.out)).mono ?_
          rintro e w1 ⟨pu,qu,ru,Fu,rfl,hu,hn⟩
          have hnnu:=fun k o hk=>Nat.le_trans g.chg.size (hn.new k o hk)
          obtain⟨su,Au,nu,cu,Bu,du,ku,rfl,rfl,rfl⟩:=hu.shape
          obtain⟨g1,rfl⟩:=G.new_ex _ hn
          clear hn
          (try clear g)
          revert g1
          intro g
          rw[HDT.out] at hu
          obtain⟨F2,g2,e2,hle2,hle3,hnew⟩:=g.merge
          rw[e2]
          have HD2:=Lib.hid (hu.mono hle3)
          have HPV2:=Lib.hid (HPV.out.mono hle2)
          have HOV2:Hid (F2.over F0 w):=Lib.hid (fun k o hk=>(hnew k o hk).elim (HOV.out k o) (fun h=> .inr (hnnu k o h)))
          have HLE2:=Lib.hid (Frag.le_trans HLE.out hle2)
          have HOW2:Hid (OwnOn (List.range n) (fun j=>NumRow w.heap.size 43 F2 m (rawM (dvM t.x a v 0) j)) ((rb,43,rcs)::R') cs):=Lib.hid (by
           rw[dvM_zero]
           exact HOW.out.next (fun _ _=>rfl) (fun j hj v s hq=>NumRow.mono hq hle2))
          clear e2 g hu hnew hnnu HD HPV HOV HLE HOW z0 z1 z2 hle2 hle3 hv hrb HDT HFd
          revert g2
          intro g
          go_wp2_with (with_reducible refine yq _ ?_;(try generalize (G.w _).heap.size=bk);(try dsimp only[yi,yj]);(try clear g);intro g)
          obtain⟨pb,rfl⟩:∃pb,pb=bk:=⟨_,rfl⟩
          go_loopw [15] (fun kv wr=>∃k:Nat,kv=.int .i64 (k:Int)∧k≤m∧∃(F:Frag) (R:List Blk),Hid (F.Rt (.bool su) (.slice Au nu cu) (.slice Bu du ku) (rawOf dt))∧Hid (F.Rt (.bool s6) (.slice P6 n6 d6) (.slice Q6 m6 e6) (rawOf v))∧Hid (OwnOn (List.range n) (fun j=>NumRow w.heap.size 43 F m (rawM (dvM t.x a v k) j)) R cs)∧Hid (F.over F0 w)∧Hid (F0.le F)∧∃g:G w [] ((pb,43,[.bool s6,.slice P6 n6 d6,.slice Q6 m6 e6])::(db,43,[.bool su,.slice Au nu cu,.slice Bu du ku])::(ob,38,cs)::(eb,43,[.bool false,.slice none 0 0,.slice none 0 0])::R) [F,F0],wr=g.w) (fun kv _=>m-(intOf kv).toNat)
          case atStart=>exact⟨0,rfl,by omega,F2,_,HD2,HPV2,HOW2,HOV2,HLE2,_,rfl⟩
          case round=>
           clear g HD2 HPV2 HOW2 HOV2 HLE2
           obtain⟨k,rfl,hkm',F,R,HD,HPV,HOW,HOV,HLE,g,rfl⟩:=hrel
           obtain⟨rb,c4,rcs,l,R',hv,hrb,hrrow,hl,hp,hbut⟩:=own_open HOW.out hrl m1
           obtain⟨g1,e1'⟩:=g.perm ((((hp.cons _).cons _).cons _).cons _)
           rw[e1']
           have HOWp:=Lib.hid (HOW.out.permR hp)
           clear e1' g hp HOW
           revert g1
           intro g
           by_cases hkm:k<m
           ·have hki:(k:Int)<(m:Int):=by omega
            have HC:=Lib.hid (own_set (z':=rawM (dvM t.x a v (k+1))) hrl hkm hv hrb hrrow hl hbut (fun r c _ _ h=>by unfold rawM;rw[dvM_ne h]))
            obtain⟨p7,q7,r7,hl7,ht7⟩:=hl.2 k hkm
            obtain⟨z0,z1,z2⟩:=hrrow.tri hl7
            obtain⟨s7,P7,n7,d7,Q7,m7,e7,rfl,rfl,rfl⟩:=ht7.shape
            unfold rawM at ht7
            rw[dvM_was] at ht7
            have HX7:=Lib.hid ht7
            have HE1:=Lib.hid (HFa.out a hrl k hkm)
            have HE2:Hid (Bd 8192 v):=Lib.hid (by rw[←HV.out];exact HFa.out a hrl c hcm)
            clear ht7 hl7 hl hrrow hbut HOWp
            go_upto_region 25 with(with_reducible refine yq _ ?_;(try generalize (G.w _).heap.size=bk);(try dsimp only[yi,yj]);(try clear g);intro g)
            ((try simp only[G.drew_eq,G.drewN_eq]);(refine yq _ ?_;(try generalize (G.w _).heap.size=bk);(try dsimp only[yi,yj]);(try clear g);intro g))
            refine wp_region_held_drew (S:=(fun w'=>w'.cell? ⟨ob,a,none⟩=some (.slice (some ⟨rb,0,none⟩) m c4)∧w'.cell? ⟨pb,0,none⟩=some (.bool s6)∧w'.cell? ⟨pb,1,none⟩=some (.slice P6 n6 d6)∧w'.cell? ⟨pb,2,none⟩=some (.slice Q6 m6 e6))) (by kernel_rfl) (by(simp[go_sem, *];done)) (fun hHeld=>?_)
            refine tk0 [0,1,2,3,4,5,6,7,8,9,10,12] ?_
            iterate 12 (refine tkc rfl (by kernel_rfl) (fun _ _ _ h=>h) (by rfl) ‹_› (by intro w hSw;(try dsimp only at hSw);go_simp;(try with_reducible rfl)) ?_;try simp only[Act.put,yk,yl,yn,yo,yi,yj])
            refine tkn ?_
            refine wpAnyH_ready (rs:=[11]) (by kernel_rfl) (by simp) ?_
            refine AllReadyH.cons rfl (fun K hK=>?_) AllReadyH.nil
            ·(try simp only[Act.put,yk,yl,yn,yo,yi,yj])
             go_simp
             refine hK.out _ _ (by(simp[go_sem, *];done)) (fun hHeld=>?_)
             clear hK K
             (try simp only[Act.put,yk,yl,yn,yo,yi,yj])
             refine wpAnyH_ready (rs:=[13]) (by kernel_rfl) (by simp) ?_
             refine AllReadyH.cons rfl (fun K hK=>?_) AllReadyH.nil
             ·(try simp only[Act.put,yk,yl,yn,yo,yi,yj])
              go_simp
              go_at_call 108
              (try(refine cmark _ ?_;(try dsimp only[yi,yj]);(try clear g);intro g))
              refine(COV.out _ v HE1.out HE2.out HNE.out _ _ _ _ _ _ _ (G.rtI g (f:=F) (by simp) HX7.out) (G.rtI g (f:=F) (by simp) HPV.out)).mono ?_
              rintro e w1 ⟨py,qy,ry,Fy,rfl,hy,hn⟩
              have hnny:=fun k o hk=>Nat.le_trans g.chg.size (hn.new k o hk)
              obtain⟨sy,Ay,ny,cy,By,dy,ky,rfl,rfl,rfl⟩:=hy.shape
              obtain⟨g1,rfl⟩:=G.new_ex _ hn
              clear hn
              (try clear g)
              revert g1
              intro g
              refine hK.out _ _ (by(simp[go_sem, *];done)) (fun hHeld=>?_)
              clear hK K
              (try simp only[Act.put,yk,yl,yn,yo,yi,yj])
              refine tk0 [14] ?_
              iterate 1 (refine tkc rfl (by kernel_rfl) (fun _ _ _ h=>h) (by rfl) ‹_› (by intro w hSw;(try dsimp only at hSw);go_simp;(try with_reducible rfl)) ?_;try simp only[Act.put,yk,yl,yn,yo,yi,yj])
              refine tkn ?_
              refine wpAnyH_ready (rs:=[15]) (by kernel_rfl) (by simp) ?_
              refine AllReadyH.cons rfl (fun K hK=>?_) AllReadyH.nil
              ·(try simp only[Act.put,yk,yl,yn,yo,yi,yj])
               go_simp
               refine hK.out _ _ (by(simp[go_sem, *];done)) (fun hHeld=>?_)
               clear hK K
               (try simp only[Act.put,yk,yl,yn,yo,yi,yj])
               refine wpAnyH_done (by kernel_rfl) ?_ _
               (as_aux_lemma=>
                (try clear hHeld)
                ((try simp only[G.drew_eq,G.drewN_eq]);(refine yq _ ?_;(try generalize (G.w _).heap.size=bk);(try dsimp only[yi,yj]);(try clear g);intro g))
                go_wp2_with (with_reducible refine yq _ ?_;(try generalize (G.w _).heap.size=bk);(try dsimp only[yi,yj]);(try clear g);intro g)
                obtain⟨F',g3,e3,hle1,hle2,hnew⟩:=g.merge
                rw[e3]
                go_roundw
                case rel=>exact⟨k+1,by go_num,by omega,F',_,Lib.hid (HD.out.mono hle1),Lib.hid (HPV.out.mono hle1),Lib.hid (HC.out _ _ _ _ hle1 (by unfold rawM;rw[dvM_at];exact hy.mono hle2)),Lib.hid (fun k' o hk'=>(hnew k' o hk').elim (HOV.out k' o) (fun h=> .inr (hnny k' o h))),Lib.hid (Frag.le_trans HLE.out hle1),g3,rfl⟩
                case measure=>simp[intOf]<;>omega)
           ·obtain rfl:m=k:=by omega
            have HOX:Hid (OwnOn (List.range n) (fun j=>NumRow w.heap.size 43 F m (rawM (takeU Y a c 0) j)) ((rb,43,rcs)::R') cs):=Lib.hid (HOWp.out.next (fun _ _=>rfl) (fun j hj v' s hq=>hq.congr fun c' hc'=>by
             unfold rawM
             rw[dvM_end hc',HYY.out,takeU_zero]))
            clear hl hrrow hbut HOWp HPV hrb hkm' hkm
            have HYq:Hid (∀j,j<m→Bd 8192 (Y a j)):=Lib.hid (fun j hj=>by rw[HYa.out];exact HFq.out j hj)
            have HYp:Hid (∀i,i<n→i≠a→∀j,j<m→Bd 8192 (Y i c*Y a j)):=Lib.hid (fun i hi hia j hj=>by rw[HYa.out,HYi.out i hia];exact HFp.out i hi j hj)
            have HYe:Hid (∀i,i<n→∀j,j<m→Bd 8192 (Y i j)):=Lib.hid (fun i hi j hj=>by
             by_cases hia:i=a
             ·rw[hia];exact HYq.out j hj
             ·rw[HYi.out i hia];exact HFa.out i hi j hj)
            clear HYa HYi HFq HFp HFa HV HYY HNE
            (as_aux_lemma=>
             go_wp2_with (with_reducible refine yq _ ?_;(try generalize (G.w _).heap.size=bk);(try dsimp only[yi,yj]);(try clear g);intro g)
             go_loopw [16] (fun iv wr=>∃i:Nat,iv=.int .i64 (i:Int)∧i≤n∧∃(F:Frag) (R:List Blk),Hid (F.Rt (.bool su) (.slice Au nu cu) (.slice Bu du ku) (rawOf dt))∧Hid (OwnOn (List.range n) (fun j=>NumRow w.heap.size 43 F m (rawM (takeU Y a c i) j)) R cs)∧Hid (F.over F0 w)∧Hid (F0.le F)∧∃g:G w [] ((pb,43,[.bool s6,.slice P6 n6 d6,.slice Q6 m6 e6])::(db,43,[.bool su,.slice Au nu cu,.slice Bu du ku])::(ob,38,cs)::(eb,43,[.bool false,.slice none 0 0,.slice none 0 0])::R) [F,F0],wr=g.w) (fun iv _=>n-(intOf iv).toNat)
             case atStart=>exact⟨0,rfl,by omega,F,_,HD,HOX,HOV,HLE,g,rfl⟩
             case round=>
              clear g HD HOX HOV HLE hv
              obtain⟨i,rfl,hi',F,R,HD,HOW,HOV,HLE,g,rfl⟩:=hrel
              by_cases hin:i<n
              ·have hii:(i:Int)<(n:Int):=by omega
               obtain⟨ri,c5,rcs,l,R',hv,hrb,hrrow,hl,hp,hbut⟩:=own_open HOW.out hin m1
               obtain⟨g1,e1'⟩:=g.perm ((((hp.cons _).cons _).cons _).cons _)
               rw[e1']
               have HOWp:=Lib.hid (HOW.out.permR hp)
               clear e1' g hp HOW hbut
               revert g1
               intro g
               obtain⟨p8,q8,r8,hl8,ht8⟩:=hl.2 c hcm
               obtain⟨z0,z1,z2⟩:=hrrow.tri hl8
               obtain⟨s8,P8,n8,d8,Q8,m8,e8,rfl,rfl,rfl⟩:=ht8.shape
               unfold rawM at ht8
               rw[takeU_at] at ht8
               have HX8:=Lib.hid ht8
               obtain⟨f,hf⟩:∃f,Y i c=f:=⟨_,rfl⟩
               have HF:=Lib.hid hf
               have CM1:=Lib.hid (CMI.out f (by rw[←hf];exact HYe.out i hin c hcm))
               rw[hf] at HX8
               clear ht8 hl8 hl hrrow hf
               go_wp2_with (with_reducible refine yq _ ?_;(try generalize (G.w _).heap.size=bk);(try dsimp only[yi,yj]);(try clear g);intro g)
               refine(CM1.out _ _ _ _ (G.rtI g (f:=F) (by simp) HX8.out)).mono ?_
               rintro e w1 ⟨pf,qf,rf,Ff,rfl,hf,hn⟩
               have hnnf:=fun k o hk=>Nat.le_trans g.chg.size (hn.new k o hk)
               obtain⟨sf,Af,nf,cf,Bf,df,kf,rfl,rfl,rfl⟩:=hf.shape
               obtain⟨g1,rfl⟩:=G.new_ex _ hn
               clear hn
               (try clear g)
               revert g1
               intro g
               obtain⟨F2,g2,e2,hle2,hle3,hnew⟩:=g.merge
               rw[e2]
               have HD2:=Lib.hid (HD.out.mono hle2)
               have HF2:=Lib.hid (hf.mono hle3)
               have HOV2:Hid (F2.over F0 w):=Lib.hid (fun k o hk=>(hnew k o hk).elim (HOV.out k o) (fun h=> .inr (hnnf k o h)))
               have HLE2:=Lib.hid (Frag.le_trans HLE.out hle2)
               have HOW2:Hid (OwnOn (List.range n) (fun j=>NumRow w.heap.size 43 F2 m (rawM (tkM Y a c i 0) j)) ((ri,43,rcs)::R') cs):=Lib.hid (by
                rw[tkM_zero]
                exact HOWp.out.next (fun _ _=>rfl) (fun j hj v s hq=>NumRow.mono hq hle2))
               clear e2 g hf hnew hnnf HD HOV HLE HOWp z0 z1 z2 hle2 hle3 hv hrb HX8 CM1
               revert g2
               intro g
               go_wp2_with (with_reducible refine yq _ ?_;(try generalize (G.w _).heap.size=bk);(try dsimp only[yi,yj]);(try clear g);intro g)
               obtain⟨fb,rfl⟩:∃fb,fb=bk:=⟨_,rfl⟩
               go_loopw [18] (fun kv wr=>∃k:Nat,kv=.int .i64 (k:Int)∧k≤m∧Hid (k=0∨(i≠a∧f≠0))∧∃(F:Frag) (R:List Blk),Hid (F.Rt (.bool su) (.slice Au nu cu) (.slice Bu du ku) (rawOf dt))∧Hid (F.Rt (.bool sf) (.slice Af nf cf) (.slice Bf df kf) (rawOf (-f)))∧Hid (OwnOn (List.range n) (fun j=>NumRow w.heap.size 43 F m (rawM (tkM Y a c i k) j)) R cs)∧Hid (F.over F0 w)∧Hid (F0.le F)∧∃g:G w [] ((fb,43,[.bool sf,.slice Af nf cf,.slice Bf df kf])::(pb,43,[.bool s6,.slice P6 n6 d6,.slice Q6 m6 e6])::(db,43,[.bool su,.slice Au nu cu,.slice Bu du ku])::(ob,38,cs)::(eb,43,[.bool false,.slice none 0 0,.slice none 0 0])::R) [F,F0],wr=g.w) (fun kv _=>m-(intOf kv).toNat)
               case atStart=>exact⟨0,rfl,by omega,Lib.hid (.inl rfl),F2,_,HD2,HF2,HOW2,HOV2,HLE2,_,rfl⟩
               case round =>
                clear g HD2 HF2 HOW2 HOV2 HLE2
                obtain⟨k,rfl,hkm',HK,F,R,HD,HFB,HOW,HOV,HLE,g,rfl⟩:=hrel
                obtain⟨ri,c5,rcs,l,R',hv,hrb,hrrow,hl,hp,hbut⟩:=own_open HOW.out hin m1
                obtain⟨g1,e1'⟩:=g.perm (((((hp.cons _).cons _).cons _).cons _).cons _)
                rw[e1']
                have HOWp:=Lib.hid (HOW.out.permR hp)
                clear e1' g hp HOW
                revert g1
                intro g
                by_cases hkm:k<m
                ·have hki:(k:Int)<(m:Int):=by omega
                 have dki:decide ((k:Int)<(m:Int))=true:=decide_eq_true hki
                 by_cases hia:i=a
                 ·have hib:((i:Int)==(a:Int))=true:=by simp[hia]
                  have hib2:((i:Int) !=(a:Int))=false:=by simp[hia]
                  have HNX:Hid (OwnOn (List.range n) (fun j=>NumRow w.heap.size 43 F m (rawM (takeU Y a c (i+1)) j)) ((ri,43,rcs)::R') cs):=Lib.hid (by
                   have hk0:k=0:=HK.out.elim id (fun h=>absurd hia h.1)
                   refine HOWp.out.next (fun _ _=>rfl) (fun j hj v s hq=>hq.congr fun c' hc'=>?_)
                   unfold rawM
                   rw[hk0,tkM_zero,hia,takeU_self])
                  clear hl hrrow hbut HOWp HFB HK hkm' hia
                  (as_aux_lemma=>
                   go_wp2_with (with_reducible refine yq _ ?_;(try generalize (G.w _).heap.size=bk);(try dsimp only[yi,yj]);(try clear g);intro g)
                   go_roundw
                   case rel=>exact⟨i+1,by go_num,by omega,F,_,HD,HNX,HOV,HLE,G.less _ (List.sublist_cons_self _ _)⟩
                   case measure=>simp[intOf]<;>omega)
                 have hib:((i:Int)==(a:Int))=false:=by simp;omega
                 have hib2:((i:Int) !=(a:Int))=true:=by simp;omega
                 obtain⟨bz,hbz⟩:∃bz,decide (-f=0)=bz:=⟨_,rfl⟩
                 have CZ1:=Lib.hid (CZ.out (-f))
                 rw[hbz] at CZ1
                 have HBZ:=Lib.hid hbz
                 clear hbz
                 cases bz
                 case true=>
                  have HNX:Hid (OwnOn (List.range n) (fun j=>NumRow w.heap.size 43 F m (rawM (takeU Y a c (i+1)) j)) ((ri,43,rcs)::R') cs):=Lib.hid (by
                   have hf0:f=0:=by
                    have:=of_decide_eq_true HBZ.out
                    rw[←Rat.neg_neg (a:=f),this];rfl
                   have hk0:k=0:=HK.out.elim id (fun h=>absurd hf0 h.2)
                   refine HOWp.out.next (fun _ _=>rfl) (fun j hj v s hq=>hq.congr fun c' hc'=>?_)
                   unfold rawM
                   rw[hk0,tkM_zero,takeU_null Y (by rw[HF.out];exact hf0)])
                  clear hl hrrow hbut HOWp HK hkm'
                  (as_aux_lemma=>
                   go_wp2_with (with_reducible refine yq _ ?_;(try generalize (G.w _).heap.size=bk);(try dsimp only[yi,yj]);(try clear g);intro g)
                   refine(CZ1.out _ _ _ _ (G.rtI g (f:=F) (by simp) HFB.out)).mono ?_
                   rintro e w1 ⟨rfl,hb⟩
                   obtain⟨g1,rfl⟩:=G.call_ex _ hb
                   clear hb
                   (try clear g)
                   revert g1
                   intro g
                   go_wp2_with (with_reducible refine yq _ ?_;(try generalize (G.w _).heap.size=bk);(try dsimp only[yi,yj]);(try clear g);intro g)
                   go_roundw
                   case rel=>exact⟨i+1,by go_num,by omega,F,_,HD,HNX,HOV,HLE,G.less _ (List.sublist_cons_self _ _)⟩
                   case measure=>simp[intOf]<;>omega)
                 have HNZ:Hid (f≠0):=Lib.hid (fun h=>of_decide_eq_false HBZ.out (by rw[h];rfl))
                 obtain⟨ra,c9,rca,la,R2,hva,hrba,hrrowa,hla,hpa,hbut2⟩:=own_see hbut (mem_but.2 ⟨fun h=>hia h.symm,hrl⟩) m1
                 obtain⟨g1,e1'⟩:=g.perm ((((((hpa.cons _).cons _).cons _).cons _).cons _).cons _)
                 rw[e1']
                 clear e1' g hpa hbut HOWp
                 revert g1
                 intro g
                 have HC:=Lib.hid (own_set (z':=rawM (tkM Y a c i (k+1))) hin hkm hv hrb hrrow hl hbut2 (fun r c' _ _ h=>by unfold rawM;rw[tkM_ne h]))
                 obtain⟨p7,q7,r7,hl7,ht7⟩:=hl.2 k hkm
                 obtain⟨z0,z1,z2⟩:=hrrow.tri hl7
                 obtain⟨s7,P7,n7,d7,Q7,m7,e7,rfl,rfl,rfl⟩:=ht7.shape
                 unfold rawM at ht7
                 rw[tkM_was] at ht7
                 have HX7:=Lib.hid ht7
                 obtain⟨p9,q9,r9,hl9,ht9⟩:=hla.2 k hkm
                 obtain⟨y0,y1,y2⟩:=hrrowa.tri hl9
                 obtain⟨s9,P9,n9,d9,Q9,m9,e9,rfl,rfl,rfl⟩:=ht9.shape
                 unfold rawM at ht9
                 rw[tkM_t hia] at ht9
                 have HX9:=Lib.hid ht9
                 have HE1:Hid (Bd 8192 (-f)):=Lib.hid (by
                  unfold Bd
                  rw[rn_neg,Rat.neg_den,←HF.out]
                  exact HYe.out i hin c hcm)
                 have HE2:=Lib.hid (HYq.out k hkm)
                 have HE3:=Lib.hid (HYe.out i hin k hkm)
                 have HE4:Hid (Bd 8192 (-f*Y a k)):=Lib.hid (by
                  rw[Rat.neg_mul]
                  unfold Bd
                  rw[rn_neg,Rat.neg_den,←HF.out]
                  exact HYp.out i hin hia k hkm)
                 have HVAL:Hid (Y i k+ -f*Y a k=tkM Y a c i (k+1) i k):=Lib.hid (by
                  rw[tkM_at,HF.out,Rat.neg_mul,Rat.sub_eq_add_neg])
                 have HIA:=Lib.hid hia
                 clear ht7 hl7 hl hrrow hbut2 ht9 hl9 hla hrrowa hrba hrb HK HBZ hia
                 (as_aux_lemma=>
                  go_wp2_with (with_reducible refine yq _ ?_;(try generalize (G.w _).heap.size=bk);(try dsimp only[yi,yj]);(try clear g);intro g)
                  refine(CZ1.out _ _ _ _ (G.rtI g (f:=F) (by simp) HFB.out)).mono ?_
                  rintro e w1 ⟨rfl,hb⟩
                  obtain⟨g1,rfl⟩:=G.call_ex _ hb
                  clear hb
                  (try clear g)
                  revert g1
                  intro g
                  clear CZ1 CZ
                  go_upto_region 33 with(with_reducible refine yq _ ?_;(try generalize (G.w _).heap.size=bk);(try dsimp only[yi,yj]);(try clear g);intro g)
                  ((try simp only[G.drew_eq,G.drewN_eq]);(refine yq _ ?_;(try generalize (G.w _).heap.size=bk);(try dsimp only[yi,yj]);(try clear g);intro g))
                  refine wp_region_held_drew (S:=(fun w'=>w'.cell? ⟨ob,i,none⟩=some (.slice (some ⟨ri,0,none⟩) m c5)∧w'.cell? ⟨ob,a,none⟩=some (.slice (some ⟨ra,0,none⟩) m c9)∧(w'.cell? ⟨fb,0,none⟩=some (.bool sf)∧w'.cell? ⟨fb,1,none⟩=some (.slice Af nf cf)∧w'.cell? ⟨fb,2,none⟩=some (.slice Bf df kf))∧w'.cell? ⟨ra,k*3,none⟩=some (.bool s9)∧w'.cell? ⟨ra,k*3+1,none⟩=some (.slice P9 n9 d9)∧w'.cell? ⟨ra,k*3+2,none⟩=some (.slice Q9 m9 e9))) (by kernel_rfl) (by(simp[go_sem, *];done)) (fun hHeld=>?_)
                  refine tk0 [0,1,2,3,4,5,6,7,8,9,10,12,13,14,15,16,17,18,19] ?_
                  iterate 19 (refine tkc rfl (by kernel_rfl) (fun _ _ _ h=>h) (by rfl) ‹_› (by intro w hSw;(try dsimp only at hSw);go_simp;(try with_reducible rfl)) ?_;try simp only[Act.put,yk,yl,yn,yo,yi,yj])
                  refine tkn ?_
                  refine wpAnyH_ready (rs:=[11,20]) (by kernel_rfl) (by simp) ?_
                  refine AllReadyH.cons rfl (fun K hK=>?_) (AllReadyH.cons rfl (fun K hK=>?_) AllReadyH.nil)
                  ·(try simp only[Act.put,yk,yl,yn,yo,yi,yj])
                   go_simp
                   refine hK.out _ _ (by(simp[go_sem, *];done)) (fun hHeld=>?_)
                   clear hK K
                   (try simp only[Act.put,yk,yl,yn,yo,yi,yj])
                   refine wpAnyH_ready (rs:=[20]) (by kernel_rfl) (by simp) ?_
                   refine AllReadyH.cons rfl (fun K hK=>?_) AllReadyH.nil
                   ·(try simp only[Act.put,yk,yl,yn,yo,yi,yj])
                    go_simp
                    go_at_call 48
                    (try(refine cmark _ ?_;(try dsimp only[yi,yj]);(try clear g);intro g))
                    refine(CTI.out _ _ HE1.out HE2.out _ _ _ _ _ _ _ (G.rtI g (f:=F) (by simp) HFB.out) (G.rtI g (f:=F) (by simp) HX9.out)).mono ?_
                    rintro e w1 ⟨pt,qt,rt,Ft,rfl,ht,hn⟩
                    have hnnt:=fun k o hk=>Nat.le_trans g.chg.size (hn.new k o hk)
                    obtain⟨st,At,nt,ct,Bt,dt,kt,rfl,rfl,rfl⟩:=ht.shape
                    obtain⟨g1,rfl⟩:=G.new_ex _ hn
                    clear hn
                    (try clear g)
                    revert g1
                    intro g
                    refine hK.out _ _ (by(simp[go_sem, *];done)) (fun hHeld=>?_)
                    clear hK K
                    (try simp only[Act.put,yk,yl,yn,yo,yi,yj])
                    refine wpAnyH_ready (rs:=[21]) (by kernel_rfl) (by simp) ?_
                    refine AllReadyH.cons rfl (fun K hK=>?_) AllReadyH.nil
                    ·(try simp only[Act.put,yk,yl,yn,yo,yi,yj])
                     go_simp
                     go_at_call 74
                     (try(refine cmark _ ?_;(try dsimp only[yi,yj]);(try clear g);intro g))
                     refine(CPL.out _ _ HE3.out HE4.out _ _ _ _ _ _ _ (G.rtI g (f:=F) (by simp) HX7.out) (G.rtI g (by simp) ht)).mono ?_
                     rintro e w1 ⟨px,qx,rx,Fx,rfl,hx,hn⟩
                     have hnnx:=fun k o hk=>Nat.le_trans g.chg.size (hn.new k o hk)
                     obtain⟨sx,Ax,nx,cx,Bx,dx,kx,rfl,rfl,rfl⟩:=hx.shape
                     obtain⟨g1,rfl⟩:=G.new_ex _ hn
                     clear hn
                     (try clear g)
                     revert g1
                     intro g
                     refine hK.out _ _ (by(simp[go_sem, *];done)) (fun hHeld=>?_)
                     clear hK K
                     (try simp only[Act.put,yk,yl,yn,yo,yi,yj])
                     refine tk0 [22] ?_
                     iterate 1 (refine tkc rfl (by kernel_rfl) (fun _ _ _ h=>h) (by rfl) ‹_› (by intro w hSw;(try dsimp only at hSw);go_simp;(try with_reducible rfl)) ?_;try simp only[Act.put,yk,yl,yn,yo,yi,yj])
                     refine tkn ?_
                     refine wpAnyH_ready (rs:=[23]) (by kernel_rfl) (by simp) ?_
                     refine AllReadyH.cons rfl (fun K hK=>?_) AllReadyH.nil
                     ·(try simp only[Act.put,yk,yl,yn,yo,yi,yj])
                      go_simp
                      refine hK.out _ _ (by(simp[go_sem, *];done)) (fun hHeld=>?_)
                      clear hK K
                      (try simp only[Act.put,yk,yl,yn,yo,yi,yj])
                      refine wpAnyH_done (by kernel_rfl) ?_ _
                      (as_aux_lemma=>
                       (try clear hHeld)
                       ((try simp only[G.drew_eq,G.drewN_eq]);(refine yq _ ?_;(try generalize (G.w _).heap.size=bk);(try dsimp only[yi,yj]);(try clear g);intro g))
                       go_wp2_with (with_reducible refine yq _ ?_;(try generalize (G.w _).heap.size=bk);(try dsimp only[yi,yj]);(try clear g);intro g)
                       rw[HVAL.out] at hx
                       obtain⟨F1,g3,e3,hle1,hle2,hnew1⟩:=g.merge
                       obtain⟨F',g4,e4,hle3,hle4,hnew2⟩:=g3.merge
                       rw[e3,e4]
                       go_roundw
                       case rel=>exact⟨k+1,by go_num,by omega,Lib.hid (.inr ⟨HIA.out,HNZ.out⟩),F',_,Lib.hid (HD.out.mono hle3),Lib.hid (HFB.out.mono hle3),Lib.hid (HC.out _ _ _ _ hle3 ((hx.mono hle2).mono hle4)),Lib.hid (fun k' o hk'=>(hnew2 k' o hk').elim (HOV.out k' o) (fun h=> .inr ((hnew1 k' o h).elim (hnnt k' o) (hnnx k' o)))),Lib.hid (Frag.le_trans HLE.out hle3),g4,rfl⟩
                       case measure=>simp[intOf]<;>omega)
                  ·(try simp only[Act.put,yk,yl,yn,yo,yi,yj])
                   go_simp
                   go_at_call 48
                   (try(refine cmark _ ?_;(try dsimp only[yi,yj]);(try clear g);intro g))
                   refine(CTI.out _ _ HE1.out HE2.out _ _ _ _ _ _ _ (G.rtI g (f:=F) (by simp) HFB.out) (G.rtI g (f:=F) (by simp) HX9.out)).mono ?_
                   rintro e w1 ⟨pt,qt,rt,Ft,rfl,ht,hn⟩
                   have hnnt:=fun k o hk=>Nat.le_trans g.chg.size (hn.new k o hk)
                   obtain⟨st,At,nt,ct,Bt,dt,kt,rfl,rfl,rfl⟩:=ht.shape
                   obtain⟨g1,rfl⟩:=G.new_ex _ hn
                   clear hn
                   (try clear g)
                   revert g1
                   intro g
                   refine hK.out _ _ (by(simp[go_sem, *];done)) (fun hHeld=>?_)
                   clear hK K
                   (try simp only[Act.put,yk,yl,yn,yo,yi,yj])
                   refine wpAnyH_ready (rs:=[11]) (by kernel_rfl) (by simp) ?_
                   refine AllReadyH.cons rfl (fun K hK=>?_) AllReadyH.nil
                   ·(try simp only[Act.put,yk,yl,yn,yo,yi,yj])
                    go_simp
                    refine hK.out _ _ (by(simp[go_sem, *];done)) (fun hHeld=>?_)
                    clear hK K
                    (try simp only[Act.put,yk,yl,yn,yo,yi,yj])
                    refine wpAnyH_ready (rs:=[21]) (by kernel_rfl) (by simp) ?_
                    refine AllReadyH.cons rfl (fun K hK=>?_) AllReadyH.nil
                    ·(try simp only[Act.put,yk,yl,yn,yo,yi,yj])
                     go_simp
                     go_at_call 74
                     (try(refine cmark _ ?_;(try dsimp only[yi,yj]);(try clear g);intro g))
                     refine(CPL.out _ _ HE3.out HE4.out _ _ _ _ _ _ _ (G.rtI g (f:=F) (by simp) HX7.out) (G.rtI g (by simp) ht)).mono ?_
                     rintro e w1 ⟨px,qx,rx,Fx,rfl,hx,hn⟩
                     have hnnx:=fun k o hk=>Nat.le_trans g.chg.size (hn.new k o hk)
                     obtain⟨sx,Ax,nx,cx,Bx,dx,kx,rfl,rfl,rfl⟩:=hx.shape
                     obtain⟨g1,rfl⟩:=G.new_ex _ hn
                     clear hn
                     (try clear g)
                     revert g1
                     intro g
                     refine hK.out _ _ (by(simp[go_sem, *];done)) (fun hHeld=>?_)
                     clear hK K
                     (try simp only[Act.put,yk,yl,yn,yo,yi,yj])
                     refine tk0 [22] ?_
                     iterate 1 (refine tkc rfl (by kernel_rfl) (fun _ _ _ h=>h) (by rfl) ‹_› (by intro w hSw;(try dsimp only at hSw);go_simp;(try with_reducible rfl)) ?_;try simp only[Act.put,yk,yl,yn,yo,yi,yj])
                     refine tkn ?_
                     refine wpAnyH_ready (rs:=[23]) (by kernel_rfl) (by simp) ?_
                     refine AllReadyH.cons rfl (fun K hK=>?_) AllReadyH.nil
                     ·(try simp only[Act.put,yk,yl,yn,yo,yi,yj])
                      go_simp
                      refine hK.out _ _ (by(simp[go_sem, *];done)) (fun hHeld=>?_)
                      clear hK K
                      (try simp only[Act.put,yk,yl,yn,yo,yi,yj])
                      refine wpAnyH_done (by kernel_rfl) ?_ _
                      (as_aux_lemma=>
                       (try clear hHeld)
                       ((try simp only[G.drew_eq,G.drewN_eq]);(refine yq _ ?_;(try generalize (G.w _).heap.size=bk);(try dsimp only[yi,yj]);(try clear g);intro g))
                       go_wp2_with (with_reducible refine yq _ ?_;(try generalize (G.w _).heap.size=bk);(try dsimp only[yi,yj]);(try clear g);intro g)
                       rw[HVAL.out] at hx
                       obtain⟨F1,g3,e3,hle1,hle2,hnew1⟩:=g.merge
                       obtain⟨F',g4,e4,hle3,hle4,hnew2⟩:=g3.merge
                       rw[e3,e4]
                       go_roundw
                       case rel=>exact⟨k+1,by go_num,by omega,Lib.hid (.inr ⟨HIA.out,HNZ.out⟩),F',_,Lib.hid (HD.out.mono hle3),Lib.hid (HFB.out.mono hle3),Lib.hid (HC.out _ _ _ _ hle3 ((hx.mono hle2).mono hle4)),Lib.hid (fun k' o hk'=>(hnew2 k' o hk').elim (HOV.out k' o) (fun h=> .inr ((hnew1 k' o h).elim (hnnt k' o) (hnnx k' o)))),Lib.hid (Frag.le_trans HLE.out hle3),g4,rfl⟩
                       case measure=>simp[intOf]<;>omega)
                  )
                ·obtain rfl:m=k:=by omega
                 have HNX:Hid (OwnOn (List.range n) (fun j=>NumRow w.heap.size 43 F m (rawM (takeU Y a c (i+1)) j)) ((ri,43,rcs)::R') cs):=Lib.hid (by
                  have hia:i≠a:=HK.out.elim (fun h=>absurd h (by omega)) (fun h=>h.1)
                  refine HOWp.out.next (fun _ _=>rfl) (fun j hj v s hq=>hq.congr fun c' hc'=>?_)
                  unfold rawM
                  rw[tkM_end hia hc'])
                 clear hl hrrow hbut HOWp HFB HK hkm' hkm
                 (as_aux_lemma=>
                  go_wp2_with (with_reducible refine yq _ ?_;(try generalize (G.w _).heap.size=bk);(try dsimp only[yi,yj]);(try clear g);intro g)
                  go_roundw
                  case rel=>exact⟨i+1,by go_num,by omega,F,_,HD,HNX,HOV,HLE,G.less _ (List.sublist_cons_self _ _)⟩
                  case measure=>simp[intOf]<;>omega)
              ·obtain rfl:n=i:=by omega
               have HFIN:Hid (OwnOn (List.range n) (fun j=>NumRow w.heap.size 43 F m (rawM (takeR Y a c) j)) R cs):=Lib.hid (HOW.out.next (fun _ _=>rfl) (fun j hj v s hq=>hq.congr fun c' hc'=>by
                unfold rawM
                rw[takeU_end Y a c (List.mem_range.1 hj)]))
               have hwa:IntKind.i64.wrap ((a:Int)+1)=((a+1:Nat):Int):=by rw[IntKind.wrap_i64];omega
               go_wp2_with (with_reducible refine yq _ ?_;(try generalize (G.w _).heap.size=bk);(try dsimp only[yi,yj]);(try clear g);intro g)
               obtain⟨g2,e2⟩:=G.less g (M':=(db,43,[.bool su,.slice Au nu cu,.slice Bu du ku])::(ob,38,cs)::(eb,43,[.bool false,.slice none 0 0,.slice none 0 0])::R) (List.sublist_cons_self _ _)
               rw[e2]
               go_roundw
               case rel=>exact⟨c+1,⟨takeR Y a c,dt,a+1⟩,by go_num,by omega,HST2,by go_num,hrk1,F,R,cs,_,_,_,HD,HFIN.out,HOV,HLE,g2,rfl⟩
               case measure=>simp[intOf]<;>omega)
          )
       ·obtain rfl:n=p:=by omega
        have HNP:Hid (findP s.x n c s.rk=none):=Lib.hid (findP_none_of (fun q h1 h2=>HZ.out q h1 h2))
        have HST:Hid (runE n (startE x) (c+1)=s):=Lib.hid (by
         show stepE n c (runE n (startE x) c)=_
         rw[HS.out]
         exact stepE_none HNP.out)
        clear HZ HNP hsp
        go_wp2_with (with_reducible refine yq _ ?_;(try generalize (G.w _).heap.size=bk);(try dsimp only[yi,yj]);(try clear g);intro g)
        go_roundw
        case rel=>exact⟨c+1,s,by go_num,by omega,HST,rfl,hrk,F,R,cs,_,_,_,HD,hown,HOV,HLE,g,rfl⟩
        case measure=>simp[intOf]<;>omega
     ·have HEND:Hid (runE n (startE x) cols=s):=Lib.hid (by
       by_cases h1:c<cols
       ·obtain⟨d,hd⟩:∃d,cols=c+d:=⟨cols-c,by omega⟩
        rw[hd,run_full (by rw[HS.out];omega) d,HS.out]
       ·obtain rfl:c=cols:=by omega
        exact HS.out)
      have hq:(¬ (c:Int)<(cols:Int))∨((c:Int)<(cols:Int)∧¬ (s.rk:Int)<(n:Int)):=by omega
      clear hgo
      rcases hq with h1|⟨h1,h2⟩
      case' inl=>have d1:decide ((c:Int)<(cols:Int))=false:=decide_eq_false h1
      case' inr=>
       have d1:decide ((c:Int)<(cols:Int))=true:=decide_eq_true h1
       have d2:decide ((s.rk:Int)<(n:Int))=false:=decide_eq_false h2
      all_goals (as_aux_lemma=>
       go_upto_region 35 with(with_reducible refine yq _ ?_;(try generalize (G.w _).heap.size=bk);(try dsimp only[yi,yj]);(try clear g);intro g)
       ((try simp only[G.drew_eq,G.drewN_eq]);(refine yq _ ?_;(try generalize (G.w _).heap.size=bk);(try dsimp only[yi,yj]);(try clear g);intro g))
       refine wp_region_held_drew (S:=G.heldN g [true]) (by kernel_rfl) (by(simp[G.heldN,HeldN,go_sem];done)) (fun hHeld=>?_)
       refine tk0 [0,1,2,3,4] ?_
       iterate 5 (refine tkc rfl (by kernel_rfl) (fun _ _ _ h=>h) (by rfl) ‹_› (by intro w hSw;(try dsimp only at hSw);go_simp;(try with_reducible rfl)) ?_;try simp only[Act.put,yk,yl,yn,yo,yi,yj])
       refine tkn ?_
       refine wpAnyH_ready (rs:=[5]) (by kernel_rfl) (by simp) ?_
       refine AllReadyH.cons rfl (fun K hK=>?_) AllReadyH.nil
       ·(try simp only[Act.put,yk,yl,yn,yo,yi,yj])
        go_simp
        refine hK.out _ _ (by(simp[G.heldN,HeldN,go_sem];done)) (fun hHeld=>?_)
        clear hK K
        (try simp only[Act.put,yk,yl,yn,yo,yi,yj])
        refine wpAnyH_done (by kernel_rfl) ?_ _
        (as_aux_lemma=>
         (try clear hHeld)
         ((try simp only[G.drew_eq,G.drewN_eq]);(refine yq _ ?_;(try generalize (G.w _).heap.size=bk);(try dsimp only[yi,yj]);(try clear g);intro g))
         go_wp2_with (with_reducible refine yq _ ?_;(try generalize (G.w _).heap.size=bk);(try dsimp only[yi,yj]);(try clear g);intro g)
         obtain⟨g1,e1⟩:=G.less g (M':=(ob,38,cs)::(R++[])) (by rw[List.append_nil];exact .cons _ (.cons_cons _ (.cons _ (List.Sublist.refl _))))
         obtain⟨F',g',e',hmt,hle,hov⟩:=frzO g1 hown HOV.out hcc.1 hcc.2 (by omega) (fun i _=>by omega)
         refine bodyPost_ret (v:=.tuple #[.slice (some ⟨ob,0,none⟩) n cc,.int .i64 (s.rk:Int),.agg #[.bool sd,.slice Ad nd cd,.slice Dd dd kd]]) (by simp[results,Tryz.results66,go_sem]) rfl ?_
         unfold RRed
         refine⟨ob,cc,.bool sd,.slice Ad nd cd,.slice Dd dd kd,F',?_,?_,?_,?_⟩
         ·unfold rankM;rw[HEND.out]
         ·rw[HEND.out];exact hmt
         ·rw[HEND.out];exact HD.out.mono hle
         ·exact⟨G.below _,by rw[e1,e'];exact g'.sub _ (by simp),hov⟩)
       ))
end Go.Proofs.YthhbbnfnejjpiaaGreatDoor
namespace Go.Proofs.YthhbbnfnejjpiaaGreatDoor
open Go.RowKit GW NL MX
/-- what Inverse returns -/
def RInv (F0:Frag)(n:Nat)(x:Mx)(w:World)(e:Ending)(w':World):Prop:=(rankM n n x<n∧e=.returned (.tuple #[.slice none 0 0,.bool false])∧Below w.heap.size w w')∨(rankM n n x=n∧∃b k H,e=.returned (.tuple #[.slice (some ⟨b,0,none⟩) n k,.bool true])∧Frag.Mt H (some ⟨b,0,none⟩) k n (fun _=>n) (rawM (behindM n x oneM))∧NewOr F0 w w' H)
set_option maxRecDepth 100000 in
set_option maxHeartbeats 16000000 in
theorem rInverse_r (F0:Frag)(n:Nat)(x:Mx)(A:Option Addr)(c0:Nat)(w:World)(hF:F0.sub w)(hA:F0.Mt A c0 n (fun _=>n) (rawM x))(n1:1≤n)(n2:n≤12)(hfine:FineAll n (n+n) n (wideM n x oneM)):
  Calls Tryz.prog 70 #[.slice A n c0] w (RInv F0 n x w):=by
 refine calls_f hF fun g=>?_
 have UN:=Lib.hid (fun w=>rUnit_r n n1 (by omega) w)
 unfold RMt at UN
 have CR:=Lib.hid (fun F A c w hF hA=>reduced_r F n (n+n) n (wideM n x oneM) A c w hF hA n1 (by omega) (by omega) (by omega) (by omega) hfine)
 unfold RRed rankM at CR
 rw[rank_wide] at CR
 have CO:=Lib.hid (fun(F:Frag) (A:Option Addr) (c:Nat) (y:Nat→Raw) (w:World) (hF:F.sub w) (h:F.Rw A c n y)=>rOwn_rat F A c n y n1 (by omega) w hF h)
 obtain⟨i0,hi,hz0,hz1,hz2⟩:=info_parts infoRat
 obtain⟨j0,hj0,hy0,hy1,hy2⟩:=info_parts infoRats5
 obtain⟨b,o,rfl,hrow⟩:=hA.rowAt n1
 have HR:=Lib.hid hrow
 have t1:0<n:=by omega
 have t2:(0:Int)<(n:Int):=by omega
 have hn0:(0:Int)≤(n:Int):=by omega
 clear hA hrow hfine hF
 go_enter Tryz.func70,Tryz.ntmps70
 go_wp2_with (with_reducible refine yq _ ?_;(try generalize (G.w _).heap.size=bk);(try dsimp only[yi,yj]);(try clear g);intro g)
 (try(refine cmark _ ?_;(try dsimp only[yi,yj]);(try clear g);intro g))
 refine(UN.out _).mono ?_
 rintro e w1 ⟨bi,ci,Fi,rfl,hi,hn⟩
 have hnni:=fun k o hk=>Nat.le_trans g.chg.size (hn.new k o hk)
 obtain⟨g1,rfl⟩:=G.new_ex _ hn
 clear hn
 (try clear g)
 revert g1
 intro g
 obtain⟨F1,g2,e2,hle1,hle2,hnew⟩:=mergeK g
 rw[e2]
 have HOV:Hid (F1.over F0 w):=Lib.hid (fun k o hk=>(hnew k o hk).elim .inl (fun h=> .inr (hnni k o h)))
 have HLE:=Lib.hid hle1
 obtain⟨bi2,oi,hbi,hrowi⟩:=(hi.mono hle2).rowAt n1
 obtain⟨rfl,rfl⟩:bi=bi2∧oi=0:=by
  injection hbi with h
  injection h with h1 h2 h3
  exact⟨h1,h2.symm⟩
 have HRI:=Lib.hid hrowi
 clear e2 g hi hle2 hnew hnni hrowi hbi UN
 revert g2
 intro g
 go_wp2_with (with_reducible refine yq _ ?_;(try generalize (G.w _).heap.size=bk);(try dsimp only[yi,yj]);(try clear g);intro g)
 go_loopw [6,7] (fun mv iv wr=>∃i:Nat,iv=.int .i64 (i:Int)∧i≤n∧∃(cc:Nat) (Ac:Option Addr) (xs:List Value) (sc R:List Blk),mv=.slice Ac i cc∧RowV w.heap.size 38 1 i xs Ac cc sc∧OwnOn (List.range i) (fun j=>NumRow w.heap.size 43 F1 (n+n) (rawM (wideM n x oneM) j)) R xs∧∃g:G w [] (sc++R) [F1,F0],wr=g.w) (fun _ iv _=>n-(intOf iv).toNat)
 case atStart=>exact⟨0,rfl,by omega,0,none,[],[],[],rfl,RowV.nil _ _ _,OwnOn.nil _ _,g,rfl⟩
 case round=>
  clear g
  obtain⟨i,rfl,hi',cc,Ac,xs,sc,R,rfl,hvr,hown,g,rfl⟩:=hrel
  by_cases hin:i<n
  ·have hii:(i:Int)<(n:Int):=by omega
   obtain⟨Br,kr,hh,hrw⟩:=HR.out i hin
   have EH:∀(M:List Blk) (I:List Frag) (g:G w [] M I) (hF:InF F0 I),g.w.cell? ⟨b,o+i,none⟩=some (.slice Br n kr):=fun M I g hF=>hh _ _ _ _ g hF
   obtain⟨Bi2,ki,hhi,hrwi⟩:=HRI.out i hin
   obtain⟨b4,o4,l4,rfl,hl4,hn4⟩:=Rw.tris hrwi n1
   have EI:∀(M:List Blk) (I:List Frag) (g:G w [] M I) (hF:InF F1 I),g.w.cell? ⟨bi,0+i,none⟩=some (.slice (some ⟨b4,o4,none⟩) n ki):=fun M I g hF=>hhi _ _ _ _ g hF
   simp only[Nat.zero_add] at EI
   have HN4:=Lib.hid hn4
   have HL4:=Lib.hid hl4
   have HRW:=Lib.hid (hrw.mono HLE.out)
   have HLEN4:(cells3 l4).length=n*3:=by rw[cells3_len,hl4.1]
   have H14:=cells3_one hl4
   have HO:=Lib.hid hown
   have hw1:i+1≤maxLen:=by show i+1≤9223372036854775807;omega
   have hw2:(i+1)*24≤140737488355328:=by omega
   have hw3:n+n≤maxLen:=by show n+n≤9223372036854775807;omega
   have hw4:(n+n)*56≤140737488355328:=by omega
   clear hh hrw hhi hrwi hl4 hn4 hown
   go_upto_region 7 with(with_reducible refine yq _ ?_;(try generalize (G.w _).heap.size=bk);(try dsimp only[yi,yj]);(try clear g);intro g)
   ((try simp only[G.drew_eq,G.drewN_eq]);(refine yq _ ?_;(try generalize (G.w _).heap.size=bk);(try dsimp only[yi,yj]);(try clear g);intro g))
   refine wp_region_held_drew (S:=(fun w'=>w'.cell? ⟨b,o+i,none⟩=some (.slice Br n kr)∧w'.cell? ⟨bi,i,none⟩=some (.slice (some ⟨b4,o4,none⟩) n ki))) (by kernel_rfl) (by(simp[go_sem, *];done)) (fun hHeld=>?_)
   refine tk0 [0,1,2,3,4,6,7,8,9] ?_
   iterate 9 (refine tkc rfl (by kernel_rfl) (fun _ _ _ h=>h) (by rfl) ‹_› (by intro w hSw;(try dsimp only at hSw);go_simp;(try with_reducible rfl)) ?_;try simp only[Act.put,yk,yl,yn,yo,yi,yj])
   refine tkn ?_
   refine wpAnyH_ready (rs:=[5]) (by kernel_rfl) (by simp) ?_
   refine AllReadyH.cons rfl (fun K hK=>?_) AllReadyH.nil
   ·(try simp only[Act.put,yk,yl,yn,yo,yi,yj])
    go_simp
    go_at_call 109
    (try(refine cmark _ ?_;(try dsimp only[yi,yj]);(try clear g);intro g))
    refine(CO.out F1 _ _ _ _ (g.sub _ (by simp)) HRW.out).mono ?_
    rintro e w1 ⟨b3,cap3,cs3,l3,rfl,hr3,hl3,hb3,hlo3,hc3⟩
    have hlo:=Nat.le_trans g.chg.size hlo3
    obtain⟨g1,rfl⟩:=G.own_ex _ hb3 hlo3 hc3
    clear hb3 hlo3 hc3
    (try clear g)
    revert g1
    intro g
    refine hK.out _ _ (by(simp[go_sem, *];done)) (fun hHeld=>?_)
    clear hK K
    (try simp only[Act.put,yk,yl,yn,yo,yi,yj])
    refine wpAnyH_ready (rs:=[10]) (by kernel_rfl) (by simp) ?_
    refine AllReadyH.cons rfl (fun K hK=>?_) AllReadyH.nil
    ·(try simp only[Act.put,yk,yl,yn,yo,yi,yj])
     (rw[if_pos (by rfl)];refine wp_append_f rfl _ _ 38 rfl 43 i0 _ 3 56 Tryz.underlying38 hi hz0 hz1 hz2 rfl (by decide) 0 g (Rr:=[(b3,43,cs3)]) (R':=sc++R) (by rfl) (RowV.row hr3 hlo) (by rfl) ⟨b4,o4,none⟩ n ki (by rfl) HLEN4 (fun M' g'=>HN4.out _ _ _ _ g' (InF.head _ _)) H14 n1 hw3 hw4 ?_;(try clear g);intro b5 cap5 cs5 g hb5 hr5;revert g;dsimp only[List.take,List.cons_append,List.nil_append];intro g)
     refine hK.out _ _ (by(simp[go_sem, *];done)) (fun hHeld=>?_)
     clear hK K
     (try simp only[Act.put,yk,yl,yn,yo,yi,yj])
     refine wpAnyH_ready (rs:=[11]) (by kernel_rfl) (by simp) ?_
     refine AllReadyH.cons rfl (fun K hK=>?_) AllReadyH.nil
     ·(try simp only[Act.put,yk,yl,yn,yo,yi,yj])
      go_simp
      refine hK.out _ _ (by(simp[go_sem, *];done)) (fun hHeld=>?_)
      clear hK K
      (try simp only[Act.put,yk,yl,yn,yo,yi,yj])
      refine wpAnyH_ready (rs:=[12]) (by kernel_rfl) (by simp) ?_
      refine AllReadyH.cons rfl (fun K hK=>?_) AllReadyH.nil
      ·(try simp only[Act.put,yk,yl,yn,yo,yi,yj])
       (rw[if_pos (by rfl)];refine wp_append_vv rfl _ _ 29 rfl 38 j0 _ 1 24 Tryz.underlying29 hj0 hy0 hy1 hy2 rfl (by decide) 2 _ (Rr:=sc) (R':=R) (by rfl) hvr (by rfl) (by exact List.mem_cons_self ..) 1 (by rfl) rfl (one_cell5 _ rfl) (by decide) hw1 hw2 ?_;(try clear g);intro b6 cap6 cs6 g hb6 hr6;revert g;dsimp only[List.take,List.cons_append,List.nil_append];intro g)
       refine hK.out _ _ (by(simp[go_sem, *];done)) (fun hHeld=>?_)
       clear hK K
       (try simp only[Act.put,yk,yl,yn,yo,yi,yj])
       refine tk0 [13] ?_
       iterate 1 (refine tkc rfl (by kernel_rfl) (fun _ _ _ h=>h) (by rfl) ‹_› (by intro w hSw;(try dsimp only at hSw);go_simp;(try with_reducible rfl)) ?_;try simp only[Act.put,yk,yl,yn,yo,yi,yj])
       refine tkn ?_
       refine wpAnyH_done (by kernel_rfl) ?_ _
       (as_aux_lemma=>
        (try clear hHeld)
        ((try simp only[G.drew_eq,G.drewN_eq]);(refine yq _ ?_;(try generalize (G.w _).heap.size=bk);(try dsimp only[yi,yj]);(try clear g);intro g))
        go_wp2_with (with_reducible refine yq _ ?_;(try generalize (G.w _).heap.size=bk);(try dsimp only[yi,yj]);(try clear g);intro g)
        obtain⟨g5,e5⟩:=g.less (List.sublist_cons_self _ _)
        obtain⟨g6,e6⟩:=g5.perm (List.Perm.swap _ _ _)
        rw[e5,e6]
        have hxl:xs.length=i:=by
         have:=hr6.xl
         simp at this
         omega
        go_roundw
        case rel=>
         refine⟨i+1,by go_num,by omega,cap6,_,_,[(b6,_,cs6)],(b5,43,cs5)::R,rfl,RowV.row hr6 hb6,HO.out.more (v:=.slice (some ⟨b5,0,none⟩) (n+n) cap5) (s:=[(b5,43,cs5)]) (by rw[←hxl];simp) ?_ (fun j hj=>List.getElem?_append_left (by omega)) (fun j' hj v s h=>h),g6,rfl⟩
         refine NumRow.of (l:=l3++l4) (RowV.row (by rw[cells3_append];exact hr5) hb5) ⟨by rw[List.length_append,hl3.1,HL4.out.1],fun j hj=>?_⟩
         by_cases hjn:j<n
         ·obtain⟨p,q,r,h1,h2⟩:=hl3.2 j hjn
          exact⟨p,q,r,by rw[List.getElem?_append_left (by rw[hl3.1];exact hjn)];exact h1,by unfold rawM;rw[wide_lo x oneM i hjn];exact h2⟩
         ·obtain⟨d,rfl⟩:∃d,j=n+d:=⟨j-n,by omega⟩
          obtain⟨p,q,r,h1,h2⟩:=HL4.out.2 d (by omega)
          exact⟨p,q,r,by rw[List.getElem?_append_right (by rw[hl3.1];omega),hl3.1,show n+d-n=d from by omega];exact h1,by unfold rawM;rw[wide_hi x oneM i d];exact h2⟩
        case measure=>simp[intOf]<;>omega)
  ·obtain rfl:n=i:=by omega
   obtain⟨g1,e1⟩:=g.as (M':=sc++(R++[])) (by simp)
   obtain⟨F5,b',g3,rfl,e3,hm,hle5,hov5⟩:=frzVO g1 hvr hown (by omega) (by omega) (fun _ _=>by omega)
   rw[e1,e3]
   have HOV5:=Lib.hid (hov5 F0 HOV.out)
   have HM:=Lib.hid hm
   clear e1 e3 g g1 hvr hown hm hle5 hov5 HR HRI HLE
   revert g3
   intro g
   (as_aux_lemma=>
    go_wp2_with (with_reducible refine yq _ ?_;(try generalize (G.w _).heap.size=bk);(try dsimp only[yi,yj]);(try clear g);intro g)
    (try(refine cmark _ ?_;(try dsimp only[yi,yj]);(try clear g);intro g))
    refine(CR.out F5 _ _ _ (g.sub _ (by simp)) HM.out).mono ?_
    rintro e w1 ⟨bm,cm,p,q,r,H,rfl,hm,hr,hno⟩
    obtain⟨sr,Ar,nr,cr,Br,dr,kr,rfl,rfl,rfl⟩:=hr.shape
    obtain⟨g1,rfl,hoh⟩:=G.nor_ex g (F:=F5) (by simp) hno
    have HOH:Hid (H.over F0 w):=Lib.hid (fun k o hk=>(hoh k o hk).elim (HOV5.out k o) .inr)
    obtain⟨bm2,om,hbm,hrowm⟩:=hm.rowAt n1
    obtain⟨rfl,rfl⟩:bm=bm2∧om=0:=by
     injection hbm with h
     injection h with h1 h2 h3
     exact⟨h1,h2.symm⟩
    have HRM:=Lib.hid hrowm
    clear hm hr hno hoh hbm hrowm g CR
    revert g1
    intro g
    by_cases hrk:rankM n n x<n
    ·have HRK:=Lib.hid hrk
     have hri:((rankM n n x:Int)<(n:Int)):=by omega
     have HFI:∀e w',e=.returned (.tuple #[.slice none 0 0,.bool false])→Below w.heap.size w w'→RInv F0 n x w e w':=fun e w' h1 h2=> .inl ⟨HRK.out,h1,h2⟩
     have HFIN:=Lib.hid HFI
     clear hrk HRM HFI HRK
     (as_aux_lemma=>
      go_wp2_with (with_reducible refine yq _ ?_;(try generalize (G.w _).heap.size=bk);(try dsimp only[yi,yj]);(try clear g);intro g)
      go_ret2
      exact HFIN.out _ _ rfl (G.below _))
    ·have hrn:rankM n n x=n:=by have:=rank_le n n x;omega
     rw[hrn]
     have HRN:=Lib.hid hrn
     have hri:¬ ((n:Int)<(n:Int)):=by omega
     clear hrk hrn
     go_wp2_with (with_reducible refine yq _ ?_;(try generalize (G.w _).heap.size=bk);(try dsimp only[yi,yj]);(try clear g);intro g)
     ((try simp only[G.drew_eq,G.drewN_eq]);(refine yq _ ?_;(try clear g);intro g))
     obtain⟨g1,e1⟩:=G.less g (M':=[]) (List.nil_sublist _)
     rw[e1]
     clear e1 g
     revert g1
     intro g
     go_loopw [11,12] (fun mv iv wr=>∃i:Nat,iv=.int .i64 (i:Int)∧i≤n∧∃(cc:Nat) (Ac:Option Addr) (xs:List Value) (sc R:List Blk),mv=.slice Ac i cc∧RowV w.heap.size 38 1 i xs Ac cc sc∧OwnOn (List.range i) (fun j=>NumRow w.heap.size 43 H n (rawM (behindM n x oneM) j)) R xs∧∃g:G w [] (sc++R) [H,F5,F0],wr=g.w) (fun _ iv _=>n-(intOf iv).toNat)
     case atStart=>exact⟨0,rfl,by omega,0,none,[],[],[],rfl,RowV.nil _ _ _,OwnOn.nil _ _,g,rfl⟩
     case round=>
      clear g
      obtain⟨i,rfl,hi',cc,Ac,xs,sc,R,rfl,hvr,hown,g,rfl⟩:=hrel
      by_cases hin:i<n
      ·have hii:(i:Int)<(n:Int):=by omega
       obtain⟨B2,k2,hh,hrw⟩:=HRM.out i hin
       obtain⟨b4,o4,rfl,_⟩:=hrw.num (by omega)
       have hcap:=hrw.cap
       have EH:∀(M:List Blk) (I:List Frag) (g:G w [] M I) (hF:InF H I),g.w.cell? ⟨bm,0+i,none⟩=some (.slice (some ⟨b4,o4,none⟩) (n+n) k2):=fun M I g hF=>hh _ _ _ _ g hF
       simp only[Nat.zero_add] at EH
       have HRW:=Lib.hid (rw_drop hrw n1)
       have HO:=Lib.hid hown
       have hw1:i+1≤maxLen:=by show i+1≤9223372036854775807;omega
       have hw2:(i+1)*24≤140737488355328:=by omega
       have hs1:(n:Int)≤((n+n:Nat):Int):=by omega
       have hs2:((n+n:Nat):Int)≤(k2:Int):=by omega
       clear hh hrw hown
       go_wp2_with (with_reducible refine yq _ ?_;(try generalize (G.w _).heap.size=bk);(try dsimp only[yi,yj]);(try clear g);intro g)
       (try(refine cmark _ ?_;(try dsimp only[yi,yj]);(try clear g);intro g))
       refine(CO.out H _ _ _ _ (g.sub _ (by simp)) HRW.out).mono ?_
       rintro e w1 ⟨b3,cap3,cs3,l3,rfl,hr3,hl3,hb3,hlo3,hc3⟩
       have hlo:=Nat.le_trans g.chg.size hlo3
       obtain⟨g1,rfl⟩:=G.own_ex _ hb3 hlo3 hc3
       clear hb3 hlo3 hc3
       (try clear g)
       revert g1
       intro g
       go_wp2_with (first|(with_reducible refine yq _ ?_;(try generalize (G.w _).heap.size=bk);(try dsimp only[yi,yj]);(try clear g);intro g)|(at_builtin;refine wpList_append_v rfl _ _ 29 rfl 38 j0 _ 1 24 Tryz.underlying29 hj0 hy0 hy1 hy2 rfl (by decide) 2 g (Rr:=sc) (R':=R) (by rfl) hvr (by rfl) (by exact List.mem_cons_self ..) 1 (by rfl) rfl (one_cell5 _ rfl) (by decide) hw1 hw2 ?_;(try clear g);intro b6 cap6 cs6 g hb6 hr6;revert g;dsimp only[List.take,List.cons_append,List.nil_append];intro g))
       obtain⟨g5,e5⟩:=g.less (List.sublist_cons_self _ _)
       obtain⟨g6,e6⟩:=g5.perm (List.Perm.swap _ _ _)
       rw[e5,e6]
       have hxl:xs.length=i:=by
        have:=hr6.xl
        simp at this
        omega
       go_roundw
       case rel=>
        refine⟨i+1,by go_num,by omega,cap6,_,_,[(b6,_,cs6)],(b3,43,cs3)::R,rfl,RowV.row hr6 hb6,HO.out.more (v:=.slice (some ⟨b3,0,none⟩) n cap3) (s:=[(b3,43,cs3)]) (by rw[←hxl];simp) ?_ (fun j hj=>List.getElem?_append_left (by omega)) (fun j' hj v s h=>h),g6,rfl⟩
        exact NumRow.of (RowV.row hr3 hlo) hl3
       case measure=>simp[intOf]<;>omega
      ·obtain rfl:n=i:=by omega
       have HFI:∀(b k:Nat) (F:Frag) (w':World),F.Mt (some ⟨b,0,none⟩) k n (fun _=>n) (rawM (behindM n x oneM))→NewOr F0 w w' F→RInv F0 n x w (.returned (.tuple #[.slice (some ⟨b,0,none⟩) n k,.bool true])) w':=fun b k F w' h1 h2=> .inr ⟨HRN.out,b,k,F,rfl,h1,h2⟩
       have HFIN:=Lib.hid HFI
       clear HFI HRN HRM
       go_wp2_with (with_reducible refine yq _ ?_;(try generalize (G.w _).heap.size=bk);(try dsimp only[yi,yj]);(try clear g);intro g)
       go_ret2
       obtain⟨g1,e1⟩:=g.as (M':=sc++(R++[])) (by simp)
       obtain⟨F6,b7,g3,rfl,e3,hm,_,hov⟩:=frzVO g1 hvr hown (by omega) (by omega) (fun _ _=>by omega)
       exact HFIN.out _ _ F6 _ hm ⟨G.below _,by rw[e1,e3];exact g3.sub _ (by simp),hov F0 HOH.out⟩)
end Go.Proofs.YthhbbnfnejjpiaaGreatDoor
