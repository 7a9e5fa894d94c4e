/- Plain facts and contracts of functions of the program, out of walks. Their conditions stand ahead of each. -/
import Derived.Test.YthhbbnfnejjpiaaGreatDoorNm17
import Derived.Test.YthhbbnfnejjpiaaGreatDoorNm22
import Derived.Test.YthhbbnfnejjpiaaGreatDoorNm23
import Derived.Test.YthhbbnfnejjpiaaGreatDoorNm24
import Derived.Test.YthhbbnfnejjpiaaGreatDoorNm25
import Derived.Test.YthhbbnfnejjpiaaGreatDoorNm29
import Derived.Test.YthhbbnfnejjpiaaGreatDoorNm30
import Derived.Test.YthhbbnfnejjpiaaGreatDoorNm31
import Derived.Test.YthhbbnfnejjpiaaGreatDoorNm32
import Derived.Below
import Derived.BigQuiet
import Derived.Deep.DeepCutAuto
import Derived.Deep.Draws
import Derived.Deep.LoopGhost
import Derived.Deep.QuietTactic
import Derived.Deep.RegionHeld3
import Derived.Deep.RegionLaw
import Derived.Defers
import Derived.Laws.BytesString
import Derived.Laws.Cells
import Derived.Laws.Concat
import Derived.Laws.CopyOwn
import Derived.Laws.CopyRow
import Derived.Laws.NewBlocks
import Derived.Laws.OwnMore
import Derived.Laws.Pointers
import Derived.Laws.Rows
import Derived.Lib.BitFns
import Derived.Lib.Hide
import Derived.Lib.ItoaNum
import Derived.Lib.SliceRun
import Derived.Lib.TrailingZeros
import Derived.LoopIn
import Derived.LoopNIn
import Derived.Maps.AppendAt
import Derived.OrdersHeld
import Derived.OrdersIn
import Derived.OwnWalk
import Derived.OwnWalkIn
import Derived.RangeFuncBound
import Derived.RangeFuncBox
import Derived.RangeFuncCalls
import Derived.RangeFuncLeaves
import Derived.RangeFuncNested
import Derived.RangeFuncWrites
import Derived.RowKit3
import Derived.Shelf.Abstract
import Derived.Shelf.RegionOpen
import Derived.Shelf.Spec.TrailingZeros
import Derived.StillTactics
import Derived.StillTailTactics
import Derived.TacticsInMore
import Derived.Test.YthhbbnfnejjpiaaGreatDoorProg
import Derived.WalkKit
import Derived.WalkLawsBesides
import Derived.WalkMore
import Derived.WalkSpells
set_option linter.unusedVariables false
set_option linter.unusedSimpArgs false
set_option exponentiation.threshold 10000
namespace Go.Proofs.YthhbbnfnejjpiaaGreatDoor
open Go.RowKit GW NL MX
/-- the sizes that an elimination of x needs, up to column cols -/
def FineAll (n mt cols:Nat)(x:Mx):Prop:=∀c,c<cols→∀p,findP (runE n (startE x) c).x n c (runE n (startE x) c).rk=some p→Fine n mt (swapE (runE n (startE x) c) p) c∧Bd 8192 (runE n (startE x) c).det
theorem G.sumCell {w0:World}{X:List Nat}{M:List Blk}{I:List Frag}(g:G w0 X M I){sb:Nat}(h:InF (sumF sb) I):g.w.cell? ⟨sb,0,Option.none⟩=some (.int .i64 0):=by
 have:=G.sumI g h
 unfold SumW at this
 simp[World.cell?,this]
set_option maxRecDepth 20000 in
set_option maxHeartbeats 4000000 in
theorem Rank_r (F0:Frag)(n m:Nat)(x:Mx)(A:Option Addr)(c:Nat)(w:World)(hF:F0.sub w)(hA:F0.Mt A c n (fun _=>m) (rawM x))(hT:Tab w)(n1:1≤n)(n2:n≤24)(m1:1≤m)(m2:m≤24)(bx:∀i,i<n→∀j,j<m→Bd 8192 (x i j))(hfine:FineAll n m m x):
  Calls Tryz.prog 25 #[.slice A n c] w fun e w'=>e=.returned (.tuple #[.int .i64 (rankM n m x:Int),.int .i64 0])∧Below w.heap.size w w':=by
 refine calls_f hF fun g=>?_
 have HA:=Lib.hid hA
 have HT:=Lib.hid hT
 have CC:=Lib.hid (fun w h t=>mCheck_any A c n (fun _=>m) (rawM x) w h t)
 rw[matE_ok n1 n2 m1 m2 bx] at CC
 have CBG:=Lib.hid (fun(g:G w [] [] [F0])=>begin_p A c n m x hA n1 (by omega) m1 (by omega) (InF.head F0 []) g hT)
 unfold BegP at CBG
 have HFA:=Lib.hid hfine
 obtain⟨b,o,rfl,hrow⟩:=hA.rowAt n1
 obtain⟨B0,k0,hh0,hrw0⟩:=hrow 0 n1
 have E0:∀(M:List Blk) (F:Frag) (g:G w [] M [F,F0]),g.w.cell? ⟨b,o,none⟩=some (.slice B0 m k0):=fun M F g=>hh0 _ _ _ _ g (InF.tail (InF.head _ _))
 have E1:∀(M:List Blk) (F H:Frag) (g:G w [] M [F,H,F0]),g.w.cell? ⟨b,o,none⟩=some (.slice B0 m k0):=fun M F H g=>hh0 _ _ _ _ g (InF.tail (InF.tail (InF.head _ _)))
 have hni:(0:Int)<(n:Int):=by omega
 clear hA hT bx hrow hh0 hrw0 hfine hF
 go_enter Tryz.func25,Tryz.ntmps25
 go_wp2_with (with_reducible refine yq _ ?_;(try generalize (G.w _).heap.size=bk);(try dsimp only[yi,yj]);(try clear g);intro g)
 (try(refine cmark _ ?_;(try dsimp only[yi,yj]);(try clear g);intro g))
 refine(CC.out _ (HA.out.mono (g.sub _ (by simp))) (G.tab g HT.out)).mono ?_
 rintro e w1 ⟨rfl,hb⟩
 obtain⟨g1,rfl⟩:=G.call_ex _ hb
 clear hb
 (try clear g)
 revert g1
 intro g
 go_wp2_with (with_reducible refine yq _ ?_;(try generalize (G.w _).heap.size=bk);(try dsimp only[yi,yj]);(try clear g);intro g)
 refine(CBG.out g).mono ?_
 rintro e w1 ⟨sb,eb,rb,capr,rs,R,F,p,q,r,g1,rfl,rfl,hp,hown,hov,hc1,hc2⟩
 clear CBG CC g
 revert g1
 intro g
 obtain⟨s1,A1,n3,c1,B1,d1,e1,rfl,rfl,rfl⟩:=hp.shape
 have HP:=Lib.hid hp
 have HO:=Lib.hid hown
 have HV:=Lib.hid hov
 clear hp hown hov
 dsimp only
 go_wp2_with (with_reducible refine yq _ ?_;(try generalize (G.w _).heap.size=bk);(try dsimp only[yi,yj]);(try clear g);intro g)
 refine(plain_run m n sb eb rb capr m F0 F (startE x) (by omega) (Nat.le_refl _) (by omega) hc1 hc2 rfl (by omega) HFA.out HT.out (InF.head _ _) rs R _ _ _ HP.out HO.out HV.out g).mono ?_
 rintro e w1 ⟨rfl,rs2,R2,F2,p2,q2,r2,hp2,hown2,hov2,g1,rfl⟩
 have ES:∀(M:List Blk) (F:Frag) (g:G w [] M [F,sumF sb,F0]),g.w.cell? ⟨sb,0,none⟩=some (.int .i64 0):=fun M F g=>G.sumCell g (InF.tail (InF.head _ _))
 clear g E0 E1
 revert g1
 intro g
 obtain⟨s2,A2,n4,c2,B2,d2,e2,rfl,rfl,rfl⟩:=hp2.shape
 have HP2:=Lib.hid hp2
 clear hp2 hown2 hov2 HP HO HV HA HFA
 dsimp only
 go_wp2_with (with_reducible refine yq _ ?_;(try generalize (G.w _).heap.size=bk);(try dsimp only[yi,yj]);(try clear g);intro g)
 go_ret2
 exact⟨rfl,G.below _⟩
set_option maxRecDepth 20000 in
theorem square_any (n m:Nat)(x:Nat→Nat→Raw)(A:Option Addr)(c:Nat)(w:World)(h:(heapOf w).Mt A c n (fun _=>m) x)(n1:1≤n):
  Calls Tryz.prog 61 #[.slice A n c] w fun e w'=>e=.returned (.bool (decide (n=m)))∧Below w.heap.size w w':=by
 refine calls_b fun g=>?_
 obtain⟨b,o,rfl,hrow⟩:=h.rowAt n1
 obtain⟨B0,k0,hh0,hrw0⟩:=hrow 0 n1
 have E0:∀(M:List Blk) (g:G w [] M [heapOf w]),g.w.cell? ⟨b,o,none⟩=some (.slice B0 m k0):=fun M g=>hh0 _ _ _ _ g (InF.head _ _)
 have hni:(0:Int)<(n:Int):=by omega
 clear h hrow hh0 hrw0
 by_cases e:n=m
 ·have hb:((n:Int)==(m:Int))=true:=by simp[e]
  have hd:decide (n=m)=true:=decide_eq_true e
  rw[hd]
  clear e hd
  go_enter Tryz.func61,Tryz.ntmps61
  go_wp2_with (with_reducible refine yq _ ?_;(try generalize (G.w _).heap.size=bk);(try dsimp only[yi,yj]);(try clear g);intro g)
  go_ret
  exact⟨rfl,G.below _⟩
 ·have hb:((n:Int)==(m:Int))=false:=by simp;omega
  have hd:decide (n=m)=false:=decide_eq_false e
  rw[hd]
  clear e hd
  go_enter Tryz.func61,Tryz.ntmps61
  go_wp2_with (with_reducible refine yq _ ?_;(try generalize (G.w _).heap.size=bk);(try dsimp only[yi,yj]);(try clear g);intro g)
  go_ret
  exact⟨rfl,G.below _⟩
set_option maxRecDepth 20000 in
set_option maxHeartbeats 4000000 in
theorem Det_r (F0:Frag)(n:Nat)(x:Mx)(A:Option Addr)(c:Nat)(w:World)(hF:F0.sub w)(hA:F0.Mt A c n (fun _=>n) (rawM x))(hT:Tab w)(n1:1≤n)(n2:n≤24)(bx:∀i,i<n→∀j,j<n→Bd 8192 (x i j))(hfine:FineAll n n n x):
  Calls Tryz.prog 19 #[.slice A n c] w fun e w'=>∃p q r H,e=.returned (.tuple #[.agg #[p,q,r],.int .i64 0])∧H.Rt p q r (rawOf (detV n x))∧NewOr F0 w w' H:=by
 refine calls_f hF fun g=>?_
 have HA:=Lib.hid hA
 have HT:=Lib.hid hT
 have CC:=Lib.hid (fun w h t=>mCheck_any A c n (fun _=>n) (rawM x) w h t)
 rw[matE_ok n1 n2 n1 n2 bx] at CC
 have CQ:=Lib.hid (fun w h=>square_any n n (rawM x) A c w h n1)
 rw[decide_eq_true rfl] at CQ
 have CBG:=Lib.hid (fun M (g:G w [] M [F0])=>begin_p A c n n x hA n1 (by omega) n1 (by omega) (InF.head F0 []) g hT)
 unfold BegP at CBG
 have C0:=Lib.hid (fun w t=>whole_r 0 0 bd_zero rfl (by decide) (by decide) w t)
 unfold RT1 at C0
 have HFA:=Lib.hid hfine
 have hni:(0:Int)<(n:Int):=by omega
 clear hA hT bx hfine hF
 go_enter Tryz.func19,Tryz.ntmps19
 go_wp2_with (with_reducible refine yq _ ?_;(try generalize (G.w _).heap.size=bk);(try dsimp only[yi,yj]);(try clear g);intro g)
 (try(refine cmark _ ?_;(try dsimp only[yi,yj]);(try clear g);intro g))
 refine(CC.out _ (HA.out.mono (g.sub _ (by simp))) (G.tab g HT.out)).mono ?_
 rintro e w1 ⟨rfl,hb⟩
 obtain⟨g1,rfl⟩:=G.call_ex _ hb
 clear hb
 (try clear g)
 revert g1
 intro g
 go_wp2_with (with_reducible refine yq _ ?_;(try generalize (G.w _).heap.size=bk);(try dsimp only[yi,yj]);(try clear g);intro g)
 (try(refine cmark _ ?_;(try dsimp only[yi,yj]);(try clear g);intro g))
 refine(CQ.out _ (HA.out.mono (g.sub _ (by simp)))).mono ?_
 rintro e w1 ⟨rfl,hb⟩
 obtain⟨g1,rfl⟩:=G.call_ex _ hb
 clear hb
 (try clear g)
 revert g1
 intro g
 go_wp2_with (with_reducible refine yq _ ?_;(try generalize (G.w _).heap.size=bk);(try dsimp only[yi,yj]);(try clear g);intro g)
 (try(refine cmark _ ?_;(try dsimp only[yi,yj]);(try clear g);intro g))
 refine(CBG.out _ g).mono ?_
 rintro e w1 ⟨sb,eb,rb,capr,rs,R,F,p,q,r,g1,rfl,rfl,hp,hown,hov,hc1,hc2⟩
 clear CBG CC CQ g
 revert g1
 intro g
 obtain⟨s1,A1,n3,c1,B1,d1,e1,rfl,rfl,rfl⟩:=hp.shape
 have HP:=Lib.hid hp
 have HO:=Lib.hid hown
 have HV:=Lib.hid hov
 clear hp hown hov
 dsimp only
 go_wp2_with (with_reducible refine yq _ ?_;(try generalize (G.w _).heap.size=bk);(try dsimp only[yi,yj]);(try clear g);intro g)
 refine(plain_run n n sb eb rb capr n F0 F (startE x) (by omega) (Nat.le_refl _) (by omega) hc1 hc2 rfl (by omega) HFA.out HT.out (InF.head _ _) rs R _ _ _ HP.out HO.out HV.out g).mono ?_
 rintro e w1 ⟨rfl,rs2,R2,F2,p2,q2,r2,hp2,hown2,hov2,g1,rfl⟩
 have ES:∀(M:List Blk) (F:Frag) (g:G w [] M [F,sumF sb,F0]),g.w.cell? ⟨sb,0,none⟩=some (.int .i64 0):=fun M F g=>G.sumCell g (InF.tail (InF.head _ _))
 clear g
 revert g1
 intro g
 obtain⟨s2,A2,n4,c2,B2,d2,e2,rfl,rfl,rfl⟩:=hp2.shape
 have HP2:=Lib.hid hp2
 have HV2:=Lib.hid hov2
 clear hp2 hown2 hov2 HP HO HV HA HFA
 obtain⟨g2,hg2⟩:=g.perm (List.perm_append_singleton (l:=_::_::R2) _)
 rw[hg2]
 clear hg2 g
 revert g2
 intro g
 dsimp only
 by_cases hr:(runE n (startE x) n).rk<n
 ·have hri:((runE n (startE x) n).rk:Int)<(n:Int):=by omega
  have hz0:detV n x=0:=by unfold detV;rw[if_pos hr]
  go_wp2_with (with_reducible refine yq _ ?_;(try generalize (G.w _).heap.size=bk);(try dsimp only[yi,yj]);(try clear g);intro g)
  refine(C0.out _ (G.tab g HT.out)).mono ?_
  rintro e w1 ⟨pz,qz,rz,Fz,rfl,hz,hn⟩
  have hnnz:=fun k o hk=>Nat.le_trans g.chg.size (hn.new k o hk)
  obtain⟨sz,Az,nz,cz,Bz,dz,kz,rfl,rfl,rfl⟩:=hz.shape
  obtain⟨g1,rfl⟩:=G.new_ex _ hn
  clear hn
  (try clear g)
  revert g1
  intro g
  go_wp2_with (with_reducible refine yq _ ?_;(try generalize (G.w _).heap.size=bk);(try dsimp only[yi,yj]);(try clear g);intro g)
  refine bodyPost_ret (v:=.tuple #[.agg #[.bool sz,.slice Az nz cz,.slice Bz dz kz],.int .i64 0]) (by simp[results,Tryz.results19,go_sem]) rfl ?_
  exact⟨_,_,_,Fz,rfl,by rw[hz0];exact hz,G.below _,G.sub _ _ (by simp),fun k o hk=> .inr (hnnz k o hk)⟩
 ·have hri:¬ (((runE n (startE x) n).rk:Int)<(n:Int)):=by omega
  have hz0:detV n x=(runE n (startE x) n).det:=by unfold detV;rw[if_neg hr]
  go_wp2_with (with_reducible refine yq _ ?_;(try generalize (G.w _).heap.size=bk);(try dsimp only[yi,yj]);(try clear g);intro g)
  refine bodyPost_ret (v:=.tuple #[.agg #[.bool s2,.slice A2 n4 c2,.slice B2 d2 e2],.int .i64 0]) (by simp[results,Tryz.results19,go_sem]) rfl ?_
  exact⟨_,_,_,rfl,F2,HP2.out,G.below _,G.sub _ _ (by simp),HV2.out⟩
theorem assert_wide1 (A B:Option Addr)(n c n' c':Nat)(w:World):(Instr.typeAssert (.iface 132 (.agg #[.slice A n c,.slice B n' c'])) 137 132 false).run Tryz.prog w=.ok (.agg #[.slice A n c,.slice B n' c']) w:=by kernel_rfl
theorem field_more (a b:Value)(w:World):(Instr.field 132 (.agg #[a,b]) 1).run Tryz.prog w=.ok b w:=by kernel_rfl
/-- what the first k rows of behind's result are -/
def BehP (n m2 k:Nat)(F:Frag)(z:Mx)(Rs:Nat→List Blk)(oc:List Value):Prop:=∀j,j<k→∃B cap' s1 s2,oc[j]?=some (.slice B m2 cap')∧Rs j=s1++s2∧NRow m2 F (fun l=>z j (n+l)) B cap' s2
set_option maxRecDepth 20000 in
set_option maxHeartbeats 8000000 in
theorem behind_r (F0:Frag)(n m2:Nat)(x y:Mx)(A A2:Option Addr)(c c2:Nat)(w:World)(hF:F0.sub w)(hA:F0.Mt A c n (fun _=>n) (rawM x))(hA2:F0.Mt A2 c2 n (fun _=>m2) (rawM y))(hT:Tab w)(n1:1≤n)(n2:n≤24)(m1:1≤m2)(m3:m2≤24)(hfine:FineAll n (n+m2) n (wideM n x y)):
  Calls Tryz.prog 69 #[.slice A n c,.slice A2 n c2] w fun e w'=>(rankM n n x<n∧e=.returned (.tuple #[.slice none 0 0,.int .i64 15])∧Below w.heap.size w w')∨(rankM n n x=n∧∃b k H,e=.returned (.tuple #[.slice (some ⟨b,0,none⟩) n k,.int .i64 0])∧Frag.Mt H (some ⟨b,0,none⟩) k n (fun _=>m2) (rawM (behindM n x y))∧NewOr F0 w w' H):=by
 refine calls_f hF fun g=>?_
 have HT:=Lib.hid hT
 have CBG:=Lib.hid (fun M (g:G w [] M [F0])=>begin_w A A2 c c2 n n m2 x y hA hA2 n1 (by omega) n1 (by omega) m1 (by omega) (InF.head F0 []) g hT)
 unfold BegP at CBG
 have HFA:=Lib.hid hfine
 have hmk:=make_rows n (by omega)
 have hni:(0:Int)≤(n:Int):=by omega
 rw[←rank_wide n x y]
 clear hA hA2 hT hfine hF
 go_enter Tryz.func69,Tryz.ntmps69
 go_wp2_with (with_reducible refine yq _ ?_;(try generalize (G.w _).heap.size=bk);(try dsimp only[yi,yj]);(try clear g);intro g)
 refine(CBG.out _ g).mono ?_
 rintro e w1 ⟨sb,eb,rb,capr,rs,R,F,p,q,r,g1,rfl,rfl,hp,hown,hov,hc1,hc2⟩
 clear CBG g
 revert g1
 intro g
 obtain⟨s1,A1,n3,c1,B1,d1,e1,rfl,rfl,rfl⟩:=hp.shape
 have HP:=Lib.hid hp
 have HO:=Lib.hid hown
 have HV:=Lib.hid hov
 clear hp hown hov
 dsimp only
 go_wp2_with (with_reducible refine yq _ ?_;(try generalize (G.w _).heap.size=bk);(try dsimp only[yi,yj]);(try clear g);intro g)
 refine(wide_run n m2 n sb eb rb capr n F0 F (startE (wideM n x y)) (by omega) (Nat.le_refl _) (by omega) hc1 hc2 rfl (by omega) HFA.out HT.out (InF.head _ _) rs R _ _ _ HP.out HO.out HV.out g).mono ?_
 rintro e w1 ⟨rfl,rs2,R2,F2,p2,q2,r2,hp2,hown2,hov2,g1,rfl⟩
 have ES:∀(M:List Blk) (F:Frag) (g:G w [] M [F,sumF sb,F0]),g.w.cell? ⟨sb,0,none⟩=some (.int .i64 0):=fun M F g=>G.sumCell g (InF.tail (InF.head _ _))
 clear g
 revert g1
 intro g
 obtain⟨s2,A3,n4,c3,B2,d2,e2,rfl,rfl,rfl⟩:=hp2.shape
 have HV2:=Lib.hid hov2
 clear hp2 hov2 HP HO HV HFA
 dsimp only
 obtain⟨st,hst⟩:∃st,runE n (startE (wideM n x y)) n=st:=⟨_,rfl⟩
 have HZ:Hid (behindM n x y=moreM n st.x):=Lib.hid (by unfold behindM;rw[hst])
 have HST:=Lib.hid hst
 rw[hst] at hown2 ⊢
 clear hst
 by_cases hr:st.rk<n
 ·have hri:(st.rk:Int)<(n:Int):=by omega
  go_wp2_with (with_reducible refine yq _ ?_;(try generalize (G.w _).heap.size=bk);(try dsimp only[yi,yj]);(try clear g);intro g)
  go_ret2
  exact .inl ⟨by rw[HST.out];exact hr,rfl,G.below _⟩
 ·have hri:¬ ((st.rk:Int)<(n:Int)):=by omega
  have HRK:=Lib.hid hr
  obtain⟨Rs,hpm,hq⟩:=hown2
  have HQ:=Lib.hid hq
  have HPM:=Lib.hid hpm
  clear hpm hq hr
  go_wp2_with (with_reducible refine yq _ ?_;(try generalize (G.w _).heap.size=bk);(try dsimp only[yi,yj]);(try clear g);intro g)
  obtain⟨ob,rfl⟩:∃ob,ob=bk:=⟨_,rfl⟩
  go_loopw [47] (fun i wr=>∃k:Nat,i=.int .i64 (k:Int)∧k≤n∧∃oc:List Value,Hid (oc.length=n)∧Hid (BehP n m2 k F2 st.x Rs oc)∧∃g:G w [] ((ob,38,oc)::(eb,91,[.pointer (some ⟨sb,0,none⟩),.slice (some ⟨rb,0,none⟩) n capr,.bool s2,.slice A3 n4 c3,.slice B2 d2 e2])::(rb,137,rs2)::(R2++[])) [F2,sumF sb,F0],wr=g.w) (fun i _=>n-(intOf i).toNat)
  case atStart=>exact⟨0,rfl,by omega,_,Lib.hid (by simp),Lib.hid (fun j hj=>absurd hj (Nat.not_lt_zero j)),g,rfl⟩
  case round=>
   clear g
   obtain⟨k,rfl,hk,oc,hocl,hbeh,g,rfl⟩:=hrel
   by_cases hkn:k<n
   ·have hki:(k:Int)<(n:Int):=by omega
    obtain⟨v,hv,u,rfl,A5,cap5,B5,cap6,t1,t2,rfl,hRs,h5,h6⟩:=HQ.out k (List.mem_range.2 hkn)
    obtain⟨vo,hvo⟩:∃v,oc[k]?=some v:=⟨_,List.getElem?_eq_getElem (by have:=hocl.out;omega)⟩
    have HR6:=Lib.hid h6
    have HRS:=Lib.hid hRs
    have HVO:=Lib.hid hvo
    have qa:=assert_wide1
    have qf:=field_more
    clear h5 h6 hRs
    go_wp2_with (with_reducible refine yq _ ?_;(try generalize (G.w _).heap.size=bk);(try dsimp only[yi,yj]);(try clear g);intro g)
    go_roundw
    case rel=>
     refine⟨k+1,by go_num,by omega,_,Lib.hid (by simp[hocl.out]),Lib.hid (fun j hj=>?_),g,rfl⟩
     by_cases e:j=k
     ·subst e
      exact⟨B5,cap6,t1,t2,List.getElem?_set_self (by have:=hocl.out;omega),HRS.out,HR6.out⟩
     ·obtain⟨B',c',u1,u2,e1,e2,e3⟩:=hbeh.out j (by omega)
      exact⟨B',c',u1,u2,by rw[List.getElem?_set_ne (Ne.symm e)];exact e1,e2,e3⟩
    case measure=>simp[intOf];omega
   ·obtain rfl:k=n:=by omega
    go_wp2_with (with_reducible refine yq _ ?_;(try generalize (G.w _).heap.size=bk);(try dsimp only[yi,yj]);(try clear g);intro g)
    go_ret2
    refine .inr ⟨?_,?_⟩
    ·have:=rank_le k k x
     rw[←rank_wide k x y,HST.out] at this
     rw[HST.out]
     have:=HRK.out
     omega
    ·obtain⟨g1,e1'⟩:=g.none_ex
     obtain⟨g2,e2'⟩:=g1.less (M':=((ob,38,oc)::R2)++[]) ((((List.Sublist.refl _).cons _).cons _).cons_cons _)
     obtain⟨F5,g3,e3',hle5,hbl,hnw⟩:=G.layR ((ob,38,oc)::R2) g2
     have hn5:=hnw (Frag.Nw.none w)
     obtain⟨F6,g4,e4',hle,hle2,hnew⟩:=g3.merge
     refine⟨ob,k,F6,rfl,?_,?_⟩
     ·rw[HZ.out]
      refine blk_mt (hle2 _ _ (hbl _ (List.mem_cons_self ..))) (Nat.le_refl _) (by omega) (by omega) fun i hi=>?_
      obtain⟨B',c',u1,u2,e1,e2,b,l,cs,rfl,rfl,hr,hl⟩:=hbeh.out i hi
      have hm:(b,43,cs)∈R2:=HPM.out.mem_iff.2 (List.mem_flatMap.2 ⟨i,List.mem_range.2 hi,by rw[e2];simp⟩)
      exact⟨_,c',e1,row_rw hr (hle2 _ _ (hbl (b,43,cs) (List.mem_cons_of_mem _ hm))) (hl.mono hle) (by omega)⟩
     ·rw[e1',e2',e3',e4']
      exact g4.passOr (by simp) (fun k' o hk'=>(hnew k' o hk').elim (HV2.out k' o) (fun h=> .inr (hn5 k' o h)))
/-- what behind returns: a matrix, or an error if the rank is less than n -/
def RBeh (F0:Frag)(n m2:Nat)(x:Mx)(z:Mx)(w:World)(e:Ending)(w':World):Prop:=(rankM n n x<n∧e=.returned (.tuple #[.slice none 0 0,.int .i64 15])∧Below w.heap.size w w')∨(rankM n n x=n∧∃b k H,e=.returned (.tuple #[.slice (some ⟨b,0,none⟩) n k,.int .i64 0])∧Frag.Mt H (some ⟨b,0,none⟩) k n (fun _=>m2) (rawM z)∧NewOr F0 w w' H)
set_option maxRecDepth 20000 in
set_option maxHeartbeats 4000000 in
theorem Inv_r (F0:Frag)(n:Nat)(x:Mx)(A:Option Addr)(c:Nat)(w:World)(hF:F0.sub w)(hA:F0.Mt A c n (fun _=>n) (rawM x))(hT:Tab w)(n1:1≤n)(n2:n≤24)(bx:∀i,i<n→∀j,j<n→Bd 8192 (x i j))(hfine:FineAll n (n+n) n (wideM n x oneM)):
  Calls Tryz.prog 21 #[.slice A n c] w (RBeh F0 n n x (behindM n x oneM) w):=by
 refine calls_f hF fun g=>?_
 have HA:=Lib.hid hA
 have HT:=Lib.hid hT
 have CC:=Lib.hid (fun w h t=>mCheck_any A c n (fun _=>n) (rawM x) w h t)
 rw[matE_ok n1 n2 n1 n2 bx] at CC
 have CQ:=Lib.hid (fun w h=>square_any n n (rawM x) A c w h n1)
 rw[decide_eq_true rfl] at CQ
 have CO:=Lib.hid (fun w t=>one_r n n1 (by omega) w t)
 unfold RMt at CO
 have CBH:=Lib.hid (fun(F:Frag) (w:World) (b k:Nat) hF h1 h2 t=>behind_r F n n x oneM A (some ⟨b,0,none⟩) c k w hF h1 h2 t n1 n2 n1 n2 hfine)
 clear hA hT bx hfine hF
 unfold RBeh
 go_enter Tryz.func21,Tryz.ntmps21
 go_wp2_with (with_reducible refine yq _ ?_;(try generalize (G.w _).heap.size=bk);(try dsimp only[yi,yj]);(try clear g);intro g)
 refine(CC.out _ (HA.out.mono (g.sub _ (by simp))) (G.tab g HT.out)).mono ?_
 rintro e w1 ⟨rfl,hb⟩
 obtain⟨g1,rfl⟩:=G.call_ex _ hb
 clear hb
 (try clear g)
 revert g1
 intro g
 go_wp2_with (with_reducible refine yq _ ?_;(try generalize (G.w _).heap.size=bk);(try dsimp only[yi,yj]);(try clear g);intro g)
 refine(CQ.out _ (HA.out.mono (g.sub _ (by simp)))).mono ?_
 rintro e w1 ⟨rfl,hb⟩
 obtain⟨g1,rfl⟩:=G.call_ex _ hb
 clear hb
 (try clear g)
 revert g1
 intro g
 go_wp2_with (with_reducible refine yq _ ?_;(try generalize (G.w _).heap.size=bk);(try dsimp only[yi,yj]);(try clear g);intro g)
 refine(CO.out _ (G.tab g HT.out)).mono ?_
 rintro e w1 ⟨b1,k1,F1,rfl,hm1,hn1⟩
 have ho1:=fun k o hk=>Nat.le_trans g.chg.size (hn1.new k o hk)
 obtain⟨g1,rfl⟩:=G.new_ex _ hn1
 clear hn1 g CC CQ CO
 revert g1
 intro g
 obtain⟨F2,g2,e2,hle,hle2,hnew⟩:=g.merge
 rw[e2]
 clear e2 g
 revert g2
 intro g
 dsimp only
 go_wp2_with (with_reducible refine yq _ ?_;(try generalize (G.w _).heap.size=bk);(try dsimp only[yi,yj]);(try clear g);intro g)
 refine(CBH.out F2 _ _ _ (g.sub _ (by simp)) (HA.out.mono hle) (hm1.mono hle2) (G.tab g HT.out)).mono ?_
 rintro e w1 (⟨hr,rfl,hb⟩|⟨hr,b,k,H,rfl,hmt,hno⟩)
 ·have HR:=Lib.hid hr
  clear hr
  obtain⟨g1,rfl⟩:=G.call_ex _ hb
  clear hb g
  revert g1
  intro g
  dsimp only
  go_wp2_with (with_reducible refine yq _ ?_;(try generalize (G.w _).heap.size=bk);(try dsimp only[yi,yj]);(try clear g);intro g)
  go_ret2
  exact .inl ⟨HR.out,rfl,G.below _⟩
 ·have HR:=Lib.hid hr
  have HM:=Lib.hid hmt
  have hov2:F2.over F0 w:=fun k o hk=>(hnew k o hk).elim .inl (fun h=> .inr (ho1 k o h))
  obtain⟨g1,rfl,hov⟩:=g.newor_ex (F0:=F0) (F:=H) ⟨hno.below,hno.sub,fun k o hk=>(hno.new k o hk).elim (fun h=> .inl (g.fr_of (by simp) hov2 k o h)) .inr⟩
  have HOV:=Lib.hid hov
  clear hr hmt hno hnew hov hov2 g
  revert g1
  intro g
  dsimp only
  go_wp2_with (with_reducible refine yq _ ?_;(try generalize (G.w _).heap.size=bk);(try dsimp only[yi,yj]);(try clear g);intro g)
  go_ret2
  exact .inr ⟨HR.out,b,k,H,rfl,HM.out,g.passOr (by simp) HOV.out⟩
theorem infoRats2:(Tryz.prog.info? 38).map (fun i=>(i.zero,i.size,i.bytes))=some (some (.slice none 0 0),1,24):=by kernel_rfl
theorem listE_val {n:Nat}{v:Nat→Rat}(h:∀j,j<n→Bd 8192 (v j))(n1:1≤n)(n2:n≤24):listE (rawR v) n=0:=listE_ok fun j hj=>numE_ok (h j hj)
def rawZ:Raw:=(false,[],[])
theorem zero_tris (H:Frag)(n:Nat):H.Tris (List.replicate n zeroT) n (fun _=>rawZ):=⟨by simp,fun j hj=>⟨_,_,_,by rw[List.getElem?_replicate,if_pos hj];rfl,rfl,⟨none,0,rfl,Frag.Sl.nil _ _⟩,none,0,rfl,Frag.Sl.nil _ _⟩⟩
/-- a matrix of one column -/
def colM (v:Nat→Rat):Mx:=fun i _=>v i
set_option maxRecDepth 20000 in
set_option maxHeartbeats 8000000 in
theorem Solve_r (F0:Frag)(n:Nat)(x:Mx)(v:Nat→Rat)(A B:Option Addr)(c cB:Nat)(w:World)(hF:F0.sub w)(hA:F0.Mt A c n (fun _=>n) (rawM x))(hB:F0.Rw B cB n (rawR v))(hT:Tab w)(n1:1≤n)(n2:n≤24)(bx:∀i,i<n→∀j,j<n→Bd 8192 (x i j))(bv:∀i,i<n→Bd 8192 (v i))(hfine:FineAll n (n+1) n (wideM n x (colM v))):
  Calls Tryz.prog 23 #[.slice A n c,.slice B n cB] w fun e w'=>(rankM n n x<n∧e=.returned (.tuple #[.slice none 0 0,.int .i64 15])∧Below w.heap.size w w')∨(rankM n n x=n∧∃b k H,e=.returned (.tuple #[.slice (some ⟨b,0,none⟩) n k,.int .i64 0])∧Frag.Rw H (some ⟨b,0,none⟩) k n (rawR (fun i=>behindM n x (colM v) i 0))∧NewOr F0 w w' H):=by
 refine calls_f hF fun g=>?_
 have HA:=Lib.hid hA
 have HB:=Lib.hid hB
 have HT:=Lib.hid hT
 have CC:=Lib.hid (fun w h t=>mCheck_any A c n (fun _=>n) (rawM x) w h t)
 rw[matE_ok n1 n2 n1 n2 bx] at CC
 have CL:=Lib.hid (fun w h t=>list_any B cB n (rawR v) w h t)
 rw[listE_val bv n1 n2] at CL
 have CQ:=Lib.hid (fun w h=>square_any n n (rawM x) A c w h n1)
 rw[decide_eq_true rfl] at CQ
 have CBH:=Lib.hid (fun(F:Frag) (w:World) (b k:Nat) hF h1 h2 t=>behind_r F n 1 x (colM v) A (some ⟨b,0,none⟩) c k w hF h1 h2 t n1 n2 (by omega) (by omega) hfine)
 obtain⟨bb,o,rfl,hnum⟩:=hB.num n1
 have HN:=Lib.hid hnum
 obtain⟨j0,hi,hz0,hz1,hz2⟩:=info_parts infoRats2
 clear hA hB hT bx bv hfine hF hnum
 go_enter Tryz.func23,Tryz.ntmps23
 go_wp2_with (with_reducible refine yq _ ?_;(try generalize (G.w _).heap.size=bk);(try dsimp only[yi,yj]);(try clear g);intro g)
 refine(CC.out _ (HA.out.mono (g.sub _ (by simp))) (G.tab g HT.out)).mono ?_
 rintro e w1 ⟨rfl,hb⟩
 obtain⟨g1,rfl⟩:=G.call_ex _ hb
 clear hb
 (try clear g)
 revert g1
 intro g
 go_wp2_with (with_reducible refine yq _ ?_;(try generalize (G.w _).heap.size=bk);(try dsimp only[yi,yj]);(try clear g);intro g)
 refine(CL.out _ (HB.out.mono (g.sub _ (by simp))) (G.tab g HT.out)).mono ?_
 rintro e w1 ⟨rfl,hb⟩
 obtain⟨g1,rfl⟩:=G.call_ex _ hb
 clear hb
 (try clear g)
 revert g1
 intro g
 go_wp2_with (with_reducible refine yq _ ?_;(try generalize (G.w _).heap.size=bk);(try dsimp only[yi,yj]);(try clear g);intro g)
 refine(CQ.out _ (HA.out.mono (g.sub _ (by simp)))).mono ?_
 rintro e w1 ⟨rfl,hb⟩
 obtain⟨g1,rfl⟩:=G.call_ex _ hb
 clear hb
 (try clear g)
 revert g1
 intro g
 go_wp2_with (with_reducible refine yq _ ?_;(try generalize (G.w _).heap.size=bk);(try dsimp only[yi,yj]);(try clear g);intro g)
 clear CC CL CQ
 go_loopw [8,38] (fun col i wr=>∃k:Nat,i=.int .i64 (k:Int)∧k≤n∧∃(Ac:Option Addr) (cc:Nat) (xs:List Value) (sc R:List Blk),col=.slice Ac k cc∧RowV w.heap.size 38 1 k xs Ac cc sc∧OwnOn (List.range k) (fun i=>NumRow w.heap.size 43 F0 1 (rawM (colM v) i)) R xs∧∃g:G w [] (sc++R) [F0],wr=g.w) (fun _ i _=>n-(intOf i).toNat)
 case atStart=>exact⟨0,rfl,by omega,none,0,[],[],[],rfl,RowV.nil _ _ _,OwnOn.nil _ _,g,rfl⟩
 case round=>
  clear g
  obtain⟨k,rfl,hk,Ac,cc,xs,sc,R,rfl,hvr,hown,g,rfl⟩:=hrel
  by_cases hkn:k<n
  ·have hki:(k:Int)<(n:Int):=by omega
   obtain⟨p,q,r,h3,hrt⟩:=HN.out k hkn
   obtain⟨s1,P1,m1,d1,Q1,m2,d2,rfl,rfl,rfl⟩:=hrt.shape
   have E0:∀(M:List Blk) (g:G w [] M [F0]),g.w.cell? ⟨bb,o+k*3,none⟩=some (.bool s1):=fun M g=>(h3 _ _ _ _ g (InF.head _ _)).1
   have E1:∀(M:List Blk) (g:G w [] M [F0]),g.w.cell? ⟨bb,o+k*3+1,none⟩=some (.slice P1 m1 d1):=fun M g=>(h3 _ _ _ _ g (InF.head _ _)).2.1
   have E2:∀(M:List Blk) (g:G w [] M [F0]),g.w.cell? ⟨bb,o+k*3+2,none⟩=some (.slice Q1 m2 d2):=fun M g=>(h3 _ _ _ _ g (InF.head _ _)).2.2
   have HRT:=Lib.hid hrt
   have HO:=Lib.hid hown
   have hw1:k+1≤maxLen:=by show k+1≤9223372036854775807;omega
   have hw2:(k+1)*24≤140737488355328:=by omega
   clear h3 hrt hown
   go_wp2_with (first|(with_reducible refine yq _ ?_;(try generalize (G.w _).heap.size=bk);(try dsimp only[yi,yj]);(try clear g);intro g)|(at_builtin;refine wpList_append_v rfl _ _ 29 rfl 38 j0 _ 1 24 Tryz.underlying29 hi hz0 hz1 hz2 rfl (by decide) 3 g (Rr:=sc) (R':=R) (by rfl) hvr (by rfl) (by exact List.mem_cons_self ..) 1 (by rfl) rfl (one_cell _ rfl) (by decide) hw1 hw2 ?_;clear hvr;(try clear g);intro b2 cap2 cs2 g hb2 hrow2;revert g;dsimp only[List.take,List.cons_append,List.nil_append];intro g))
   obtain⟨g5,e5⟩:=g.less (((List.Sublist.refl _).cons_cons _).cons _|>.cons_cons _|>.cons _)
   obtain⟨g6,e6⟩:=g5.perm (List.Perm.swap _ _ _)
   rw[e5,e6]
   have hxl:xs.length=k:=by
    have:=hrow2.xl
    simp at this
    omega
   go_roundw
   case rel=>
    refine⟨k+1,by go_num,by omega,_,cap2,_,[(b2,_,cs2)],_,rfl,RowV.row hrow2 hb2,HO.out.more (by rw[←hxl];simp) ⟨_,1,[(.bool s1,.slice P1 m1 d1,.slice Q1 m2 d2)],rfl,RowV.row ⟨Nat.le_refl _,by decide,rfl,rfl,rfl⟩ (g5.fresh (List.mem_cons_self ..)),rfl,fun j hj=>?_⟩ (fun j hj=>List.getElem?_append_left (by omega)) (fun j hj v s h=>h),g6,rfl⟩
    obtain rfl:j=0:=by omega
    exact⟨_,_,_,rfl,HRT.out⟩
   case measure=>simp[intOf];omega
  ·obtain rfl:k=n:=by omega
   rcases hvr with⟨_,_,h0,_⟩|⟨cb,cs,rfl,rfl,hcb,hrow⟩
   ·omega
   have hxl:xs.length=k:=by
    have:=hrow.xl
    omega
   have hown':=hown.next (oc':=cs) (Q':=fun i=>NumRow w.heap.size 43 F0 1 (rawM (colM v) i)) (fun j hj=>by
    have hj':=List.mem_range.1 hj
    have e:xs[j]?=some xs[j]:=List.getElem?_eq_getElem (by omega)
    rw[e]
    exact hrow.get1 e) (fun j hj v s h=>h)
   obtain⟨g1,e1⟩:=g.none_ex
   obtain⟨g2,e2⟩:=g1.as (M':=((cb,38,cs)::R)++[]) (by simp)
   obtain⟨F5,g3,e3,_,hbl,hnw⟩:=G.layR ((cb,38,cs)::R) g2
   have hn5:=hnw (Frag.Nw.none w)
   obtain⟨F6,g4,e4,hle,hle2,hnew⟩:=g3.merge
   have hov6:F6.over F0 w:=fun k' o hk'=>(hnew k' o hk').elim .inl (fun h=> .inr (hn5 k' o h))
   have hmt:=hown'.mt (F':=F6) (ob:=cb) (cap:=cc) (Ts:=38) hle (fun m hm=>hle2 _ _ (hbl m (List.mem_cons_of_mem _ hm))) (hle2 _ _ (hbl (cb,38,cs) (List.mem_cons_self ..))) hrow.le hrow.max (by omega) (fun _ _=>by omega)
   rw[e1,e2,e3,e4]
   have HMT:=Lib.hid hmt
   have HA6:=Lib.hid (HA.out.mono hle)
   have HO6:=Lib.hid hov6
   clear e1 e2 e3 e4 hmt hov6 hnew hbl hnw hn5 hle hle2 g1 g2 g3 g hown hown' hrow hcb HA
   revert g4
   intro g
   go_wp2_with (with_reducible refine yq _ ?_;(try generalize (G.w _).heap.size=bk);(try dsimp only[yi,yj]);(try clear g);intro g)
   refine(CBH.out F6 _ _ _ (g.sub _ (by simp)) HA6.out HMT.out (G.tab g HT.out)).mono ?_
   rintro e w1 (⟨hr,rfl,hb⟩|⟨hr,b,k2,H,rfl,hmt,hno⟩)
   ·have HR:=Lib.hid hr
    clear hr
    obtain⟨g1,rfl⟩:=G.call_ex _ hb
    clear hb g
    revert g1
    intro g
    dsimp only
    go_wp2_with (with_reducible refine yq _ ?_;(try generalize (G.w _).heap.size=bk);(try dsimp only[yi,yj]);(try clear g);intro g)
    go_ret2
    exact .inl ⟨HR.out,rfl,G.below _⟩
   ·have HR:=Lib.hid hr
    have HM:=Lib.hid hmt
    obtain⟨g1,rfl,hov⟩:=g.newor_ex (F0:=F0) (F:=H) ⟨hno.below,hno.sub,fun k o hk=>(hno.new k o hk).elim (fun h=> .inl (g.fr_of (by simp) HO6.out k o h)) .inr⟩
    have HOV:=Lib.hid hov
    clear hr hmt hno hov g
    revert g1
    intro g
    dsimp only
    have hmk:=make_rats k (by omega)
    have hni:(0:Int)≤(k:Int):=by omega
    obtain⟨z,hz⟩:∃z,behindM k x (colM v)=z:=⟨_,rfl⟩
    have HZ:=Lib.hid hz
    have HMZ:Hid (H.Mt (some ⟨b,0,none⟩) k2 k (fun _=>1) (rawM z)):=Lib.hid (by rw[←hz];exact HM.out)
    obtain⟨b',o',eb',hrow⟩:=HMZ.out.rowAt n1
    cases eb'
    have HROW:=Lib.hid hrow
    clear hz hrow HM
    go_wp2_with (with_reducible refine yq _ ?_;(try generalize (G.w _).heap.size=bk);(try dsimp only[yi,yj]);(try clear g);intro g)
    obtain⟨ob,rfl⟩:∃ob,ob=bk:=⟨_,rfl⟩
    have HR0:Row 43 3 k (cells3 (List.replicate k zeroT)) k (cells3 (List.replicate k zeroT)):=⟨Nat.le_refl _,by show k≤9223372036854775807;omega,by rw[cells3_len];simp,by rw[List.take_of_length_le (by rw[cells3_len];simp)],by rw[cells3_len];simp⟩
    go_loopw [62] (fun i wr=>∃j:Nat,i=.int .i64 (j:Int)∧j≤k∧∃(l:List Tri) (cs:List Value),Row 43 3 k (cells3 l) k cs∧Hid (H.Tris l k (fun i=>if i<j then rawOf (z i 0) else rawZ))∧∃g:G w [] [(ob,43,cs)] [H,F6],wr=g.w) (fun i _=>k-(intOf i).toNat)
    case atStart=>exact⟨0,rfl,by omega,_,_,HR0,Lib.hid (by simpa using zero_tris H k),g,rfl⟩
    case round=>
     clear g HR0
     obtain⟨j,rfl,hj,l,cs,hr,HL,g,rfl⟩:=hrel
     by_cases hjk:j<k
     ·have hji:(j:Int)<(k:Int):=by omega
      obtain⟨Bj,kj,hc1,hrw⟩:=HROW.out j hjk
      obtain⟨b3,o3,rfl,hnum⟩:=hrw.num (by decide)
      obtain⟨p,q,r,h3,hrt⟩:=hnum 0 (by decide)
      obtain⟨s3,P3,m3,d3,Q3,m4,d4,rfl,rfl,rfl⟩:=hrt.shape
      have EJ:∀(M:List Blk) (g:G w [] M [H,F6]),g.w.cell? ⟨b,j,none⟩=some (.slice (some ⟨b3,o3,none⟩) 1 kj):=fun M g=>by
       have:=hc1 _ _ _ _ g (InF.head _ _)
       rwa[Nat.zero_add] at this
      have E0:∀(M:List Blk) (g:G w [] M [H,F6]),g.w.cell? ⟨b3,o3,none⟩=some (.bool s3):=fun M g=>(h3 _ _ _ _ g (InF.head _ _)).1
      have E1:∀(M:List Blk) (g:G w [] M [H,F6]),g.w.cell? ⟨b3,o3+1,none⟩=some (.slice P3 m3 d3):=fun M g=>by
       have:=(h3 _ _ _ _ g (InF.head _ _)).2.1
       simpa using this
      have E2:∀(M:List Blk) (g:G w [] M [H,F6]),g.w.cell? ⟨b3,o3+2,none⟩=some (.slice Q3 m4 d4):=fun M g=>by
       have:=(h3 _ _ _ _ g (InF.head _ _)).2.2
       simpa using this
      obtain⟨p4,q4,r4,hlk,hrt4⟩:=HL.out.2 j hjk
      simp only[Nat.lt_irrefl,if_false] at hrt4
      obtain⟨s5,A5,n5,c5,B5,d5,k5,rfl,rfl,rfl⟩:=hrt4.shape
      obtain⟨e0,e1,e2⟩:=hr.tri hlk
      have HRT:=Lib.hid hrt
      have HRW:=Lib.hid hr
      clear hc1 hrw hnum h3 hrt hlk hrt4 hr
      go_wp2_with (with_reducible refine yq _ ?_;(try generalize (G.w _).heap.size=bk);(try dsimp only[yi,yj]);(try clear g);intro g)
      go_roundw
      case rel=>
       refine⟨j+1,by go_num,by omega,_,_,HRW.out.setTri hjk HL.out.1 _ _ _,Lib.hid (HL.out.set (y:=fun i=>if i<j+1 then rawOf (z i 0) else rawZ) hjk ?_ (fun i hi hne=>?_)),g,rfl⟩
       ·rw[if_pos (Nat.lt_succ_self j)]
        exact HRT.out
       ·have e:(i<j+1)↔(i<j):=by omega
        simp only[e]
      case measure=>simp[intOf];omega
     ·obtain rfl:j=k:=by omega
      have HRW:=Lib.hid hr
      clear hr
      go_wp2_with (with_reducible refine yq _ ?_;(try generalize (G.w _).heap.size=bk);(try dsimp only[yi,yj]);(try clear g);intro g)
      go_ret2
      obtain⟨g1,e1⟩:=g.fix
      obtain⟨F7,g2,e2,hle,hle2,hnew⟩:=g1.merge
      refine .inr ⟨HR.out,ob,j,F7,rfl,?_,?_⟩
      ·rw[HZ.out]
       exact row_rw HRW.out (hle2 _ _ (by unfold blkF;rw[if_pos rfl])) ((HL.out.mono hle).congr (fun i hi=>if_pos hi)) (by omega)
      ·rw[e1,e2]
       refine g2.passOr (by simp) (fun k' o hk'=>(hnew k' o hk').elim (HOV.out k' o) (fun h=> .inr ?_))
       rw[blkF_at h]
       exact g.fresh (List.mem_cons_self ..)
/-- the error of a system of equations -/
def slE (n:Nat)(m:Nat→Nat)(x:Nat→Nat→Raw)(k:Nat)(y:Nat→Raw):Int:=if matE n m x=0 then(if listE y k=0 then(if n=m 0∧k=n then 0 else 10) else listE y k) else matE n m x
set_option maxRecDepth 20000 in
set_option maxHeartbeats 4000000 in
theorem Solve_e (n k:Nat)(m:Nat→Nat)(x:Nat→Nat→Raw)(y:Nat→Raw)(A B:Option Addr)(c d:Nat)(E:Int)(w:World)(hA:(heapOf w).Mt A c n m x)(hB:(heapOf w).Rw B d k y)(hT:Tab w)(hE:slE n m x k y=E)(h0:E≠0):
  Calls Tryz.prog 23 #[.slice A n c,.slice B k d] w (RErr E w):=by
 refine calls_b fun g=>?_
 unfold RErr
 have HA:=Lib.hid hA
 have HB:=Lib.hid hB
 have HT:=Lib.hid hT
 have CC:=Lib.hid (fun w h t=>mCheck_any A c n m x w h t)
 have CL:=Lib.hid (fun w h t=>list_any B d k y w h t)
 unfold slE at hE
 by_cases h1:matE n m x=0
 ·rw[if_pos h1] at hE
  rw[h1] at CC
  have hp:=matE_pos h1
  have hm:=matE_m h1
  by_cases h2:listE y k=0
  ·rw[if_pos h2] at hE
   rw[h2] at CL
   have h3:¬ (n=m 0∧k=n):=fun h=>h0 (by rw[←hE,if_pos h])
   rw[if_neg h3] at hE
   subst hE
   have CQ:=Lib.hid (fun w h=>square_any n (m 0) x A c w h (by omega))
   have HA2:=Lib.hid (hA.congr hm (fun _ _ _ _=>rfl))
   generalize m 0=m0 at*
   by_cases hnm:n=m0
   ·have hkb:((k:Int)==(n:Int))=false:=by simp;omega
    have hkb2:((k:Int) !=(n:Int))=true:=by simp;omega
    rw[decide_eq_true hnm] at CQ
    clear hA hB hT h0 h1 h2 h3 hp hm hnm
    go_enter Tryz.func23,Tryz.ntmps23
    go_wp2_with (with_reducible refine yq _ ?_;(try generalize (G.w _).heap.size=bk);(try dsimp only[yi,yj]);(try clear g);intro g)
    refine(CC.out _ (HA.out.mono (g.sub _ (by simp))) (G.tab g HT.out)).mono ?_
    rintro e w1 ⟨rfl,hb⟩
    obtain⟨g1,rfl⟩:=G.call_ex _ hb
    clear hb
    (try clear g)
    revert g1
    intro g
    go_wp2_with (with_reducible refine yq _ ?_;(try generalize (G.w _).heap.size=bk);(try dsimp only[yi,yj]);(try clear g);intro g)
    refine(CL.out _ (HB.out.mono (g.sub _ (by simp))) (G.tab g HT.out)).mono ?_
    rintro e w1 ⟨rfl,hb⟩
    obtain⟨g1,rfl⟩:=G.call_ex _ hb
    clear hb
    (try clear g)
    revert g1
    intro g
    go_wp2_with (with_reducible refine yq _ ?_;(try generalize (G.w _).heap.size=bk);(try dsimp only[yi,yj]);(try clear g);intro g)
    refine(CQ.out _ (HA2.out.mono (g.sub _ (by simp)))).mono ?_
    rintro e w1 ⟨rfl,hb⟩
    obtain⟨g1,rfl⟩:=G.call_ex _ hb
    clear hb
    (try clear g)
    revert g1
    intro g
    go_wp2_with (with_reducible refine yq _ ?_;(try generalize (G.w _).heap.size=bk);(try dsimp only[yi,yj]);(try clear g);intro g)
    go_ret2
    exact⟨rfl,G.below _⟩
   ·rw[decide_eq_false hnm] at CQ
    clear hA hB hT h0 h1 h2 h3 hp hm hnm
    go_enter Tryz.func23,Tryz.ntmps23
    go_wp2_with (with_reducible refine yq _ ?_;(try generalize (G.w _).heap.size=bk);(try dsimp only[yi,yj]);(try clear g);intro g)
    refine(CC.out _ (HA.out.mono (g.sub _ (by simp))) (G.tab g HT.out)).mono ?_
    rintro e w1 ⟨rfl,hb⟩
    obtain⟨g1,rfl⟩:=G.call_ex _ hb
    clear hb
    (try clear g)
    revert g1
    intro g
    go_wp2_with (with_reducible refine yq _ ?_;(try generalize (G.w _).heap.size=bk);(try dsimp only[yi,yj]);(try clear g);intro g)
    refine(CL.out _ (HB.out.mono (g.sub _ (by simp))) (G.tab g HT.out)).mono ?_
    rintro e w1 ⟨rfl,hb⟩
    obtain⟨g1,rfl⟩:=G.call_ex _ hb
    clear hb
    (try clear g)
    revert g1
    intro g
    go_wp2_with (with_reducible refine yq _ ?_;(try generalize (G.w _).heap.size=bk);(try dsimp only[yi,yj]);(try clear g);intro g)
    refine(CQ.out _ (HA2.out.mono (g.sub _ (by simp)))).mono ?_
    rintro e w1 ⟨rfl,hb⟩
    obtain⟨g1,rfl⟩:=G.call_ex _ hb
    clear hb
    (try clear g)
    revert g1
    intro g
    go_wp2_with (with_reducible refine yq _ ?_;(try generalize (G.w _).heap.size=bk);(try dsimp only[yi,yj]);(try clear g);intro g)
    go_ret2
    exact⟨rfl,G.below _⟩
  ·rw[if_neg h2] at hE
   rw[hE] at CL
   have heb:(E==0)=false:=by simpa using h0
   have hen:(E !=0)=true:=by simpa using h0
   clear hA hB hE h1 h2 hp hm hT
   go_enter Tryz.func23,Tryz.ntmps23
   go_wp2_with (with_reducible refine yq _ ?_;(try generalize (G.w _).heap.size=bk);(try dsimp only[yi,yj]);(try clear g);intro g)
   refine(CC.out _ (HA.out.mono (g.sub _ (by simp))) (G.tab g HT.out)).mono ?_
   rintro e w1 ⟨rfl,hb⟩
   obtain⟨g1,rfl⟩:=G.call_ex _ hb
   clear hb
   (try clear g)
   revert g1
   intro g
   go_wp2_with (with_reducible refine yq _ ?_;(try generalize (G.w _).heap.size=bk);(try dsimp only[yi,yj]);(try clear g);intro g)
   refine(CL.out _ (HB.out.mono (g.sub _ (by simp))) (G.tab g HT.out)).mono ?_
   rintro e w1 ⟨rfl,hb⟩
   obtain⟨g1,rfl⟩:=G.call_ex _ hb
   clear hb
   (try clear g)
   revert g1
   intro g
   go_wp2_with (with_reducible refine yq _ ?_;(try generalize (G.w _).heap.size=bk);(try dsimp only[yi,yj]);(try clear g);intro g)
   go_ret2
   exact⟨rfl,G.below _⟩
 ·rw[if_neg h1] at hE
  rw[hE] at CC
  have heb:(E==0)=false:=by simpa using h0
  have hen:(E !=0)=true:=by simpa using h0
  clear hA hB hE h1 hT
  go_enter Tryz.func23,Tryz.ntmps23
  go_wp2_with (with_reducible refine yq _ ?_;(try generalize (G.w _).heap.size=bk);(try dsimp only[yi,yj]);(try clear g);intro g)
  refine(CC.out _ (HA.out.mono (g.sub _ (by simp))) (G.tab g HT.out)).mono ?_
  rintro e w1 ⟨rfl,hb⟩
  obtain⟨g1,rfl⟩:=G.call_ex _ hb
  clear hb
  (try clear g)
  revert g1
  intro g
  go_wp2_with (with_reducible refine yq _ ?_;(try generalize (G.w _).heap.size=bk);(try dsimp only[yi,yj]);(try clear g);intro g)
  go_ret2
  exact⟨rfl,G.below _⟩
end Go.Proofs.YthhbbnfnejjpiaaGreatDoor
