/- Plain facts and contracts of functions of the program, out of walks. Their conditions stand ahead of each. -/
import Derived.Test.YthhbbnfnejjpiaaGreatDoorFo26
import Derived.Test.YthhbbnfnejjpiaaGreatDoorFo27
import Derived.Test.YthhbbnfnejjpiaaGreatDoorFo28
import Derived.Test.YthhbbnfnejjpiaaGreatDoorFo31
import Derived.Test.YthhbbnfnejjpiaaGreatDoorFo34
import Derived.Test.YthhbbnfnejjpiaaGreatDoorFo35
import Derived.Below
import Derived.BigQuiet
import Derived.Deep.DeepCutAuto
import Derived.Deep.Draws
import Derived.Deep.LoopGhost
import Derived.Deep.QuietTactic
import Derived.Deep.RegionHeld3
import Derived.Deep.RegionLaw
import Derived.Defers
import Derived.Laws.BytesString
import Derived.Laws.Cells
import Derived.Laws.Concat
import Derived.Laws.CopyOwn
import Derived.Laws.CopyRow
import Derived.Laws.NewBlocks
import Derived.Laws.OwnMore
import Derived.Laws.Pointers
import Derived.Laws.Rows
import Derived.Lib.BitFns
import Derived.Lib.Hide
import Derived.Lib.ItoaNum
import Derived.Lib.SliceRun
import Derived.Lib.TrailingZeros
import Derived.LoopIn
import Derived.LoopNIn
import Derived.Maps.AppendAt
import Derived.OrdersHeld
import Derived.OrdersIn
import Derived.OwnWalk
import Derived.OwnWalkIn
import Derived.RangeFuncBound
import Derived.RangeFuncBox
import Derived.RangeFuncCalls
import Derived.RangeFuncLeaves
import Derived.RangeFuncNested
import Derived.RangeFuncWrites
import Derived.RowKit3
import Derived.Shelf.Abstract
import Derived.Shelf.RegionOpen
import Derived.Shelf.Spec.TrailingZeros
import Derived.StillTactics
import Derived.StillTailTactics
import Derived.TacticsInMore
import Derived.Test.YthhbbnfnejjpiaaGreatDoorProg
import Derived.WalkKit
import Derived.WalkLawsBesides
import Derived.WalkMore
import Derived.WalkSpells
set_option linter.unusedVariables false
set_option linter.unusedSimpArgs false
set_option exponentiation.threshold 10000
namespace Go.Proofs.YthhbbnfnejjpiaaGreatDoor
open Go.RowKit GW NL MX
/-- the sizes that an elimination of x needs, up to column cols -/
def FineAll (n mt cols:Nat)(x:Mx):Prop:=∀c,c<cols→∀p,findP (runE n (startE x) c).x n c (runE n (startE x) c).rk=some p→Fine n mt (swapE (runE n (startE x) c) p) c∧Bd 8192 (runE n (startE x) c).det
theorem G.sumCell {w0:World}{X:List Nat}{M:List Blk}{I:List Frag}(g:G w0 X M I){sb:Nat}(h:InF (sumF sb) I):g.w.cell? ⟨sb,0,Option.none⟩=some (.int .i64 0):=by
 have:=G.sumI g h
 unfold SumW at this
 simp[World.cell?,this]
set_option maxRecDepth 20000 in
theorem square_any (n m:Nat)(x:Nat→Nat→Raw)(A:Option Addr)(c:Nat)(w:World)(h:(heapOf w).Mt A c n (fun _=>m) x)(n1:1≤n):
  Calls Tryz.prog 61 #[.slice A n c] w fun e w'=>e=.returned (.bool (decide (n=m)))∧Below w.heap.size w w':=by
 refine calls_b fun g=>?_
 obtain⟨b,o,rfl,hrow⟩:=h.rowAt n1
 obtain⟨B0,k0,hh0,hrw0⟩:=hrow 0 n1
 have E0:∀(M:List Blk) (g:G w [] M [heapOf w]),g.w.cell? ⟨b,o,none⟩=some (.slice B0 m k0):=fun M g=>hh0 _ _ _ _ g (InF.head _ _)
 have hni:(0:Int)<(n:Int):=by omega
 clear h hrow hh0 hrw0
 by_cases e:n=m
 ·have hb:((n:Int)==(m:Int))=true:=by simp[e]
  have hd:decide (n=m)=true:=decide_eq_true e
  rw[hd]
  clear e hd
  go_enter Tryz.func61,Tryz.ntmps61
  go_wp2_with (with_reducible refine yq _ ?_;(try generalize (G.w _).heap.size=bk);(try dsimp only[yi,yj]);(try clear g);intro g)
  go_ret
  exact⟨rfl,G.below _⟩
 ·have hb:((n:Int)==(m:Int))=false:=by simp;omega
  have hd:decide (n=m)=false:=decide_eq_false e
  rw[hd]
  clear e hd
  go_enter Tryz.func61,Tryz.ntmps61
  go_wp2_with (with_reducible refine yq _ ?_;(try generalize (G.w _).heap.size=bk);(try dsimp only[yi,yj]);(try clear g);intro g)
  go_ret
  exact⟨rfl,G.below _⟩
set_option maxRecDepth 20000 in
set_option maxHeartbeats 4000000 in
theorem Det_r (F0:Frag)(n:Nat)(x:Mx)(A:Option Addr)(c:Nat)(w:World)(hF:F0.sub w)(hA:F0.Mt A c n (fun _=>n) (rawM x))(hT:Tab w)(n1:1≤n)(n2:n≤24)(bx:∀i,i<n→∀j,j<n→Bd 8192 (x i j))(hfine:FineAll n n n x):
  Calls Tryz.prog 19 #[.slice A n c] w fun e w'=>∃p q r H,e=.returned (.tuple #[.agg #[p,q,r],.int .i64 0])∧H.Rt p q r (rawOf (detV n x))∧NewOr F0 w w' H:=by
 refine calls_f hF fun g=>?_
 have HA:=Lib.hid hA
 have HT:=Lib.hid hT
 have CC:=Lib.hid (fun w h t=>mCheck_any A c n (fun _=>n) (rawM x) w h t)
 rw[matE_ok n1 n2 n1 n2 bx] at CC
 have CQ:=Lib.hid (fun w h=>square_any n n (rawM x) A c w h n1)
 rw[decide_eq_true rfl] at CQ
 have CBG:=Lib.hid (fun M (g:G w [] M [F0])=>begin_p A c n n x hA n1 (by omega) n1 (by omega) (InF.head F0 []) g hT)
 unfold BegP at CBG
 have C0:=Lib.hid (fun w t=>whole_r 0 0 bd_zero rfl (by decide) (by decide) w t)
 unfold RT1 at C0
 have HFA:=Lib.hid hfine
 have hni:(0:Int)<(n:Int):=by omega
 clear hA hT bx hfine hF
 go_enter Tryz.func19,Tryz.ntmps19
 go_wp2_with (with_reducible refine yq _ ?_;(try generalize (G.w _).heap.size=bk);(try dsimp only[yi,yj]);(try clear g);intro g)
 (try(refine cmark _ ?_;(try dsimp only[yi,yj]);(try clear g);intro g))
 refine(CC.out _ (HA.out.mono (g.sub _ (by simp))) (G.tab g HT.out)).mono ?_
 rintro e w1 ⟨rfl,hb⟩
 obtain⟨g1,rfl⟩:=G.call_ex _ hb
 clear hb
 (try clear g)
 revert g1
 intro g
 go_wp2_with (with_reducible refine yq _ ?_;(try generalize (G.w _).heap.size=bk);(try dsimp only[yi,yj]);(try clear g);intro g)
 (try(refine cmark _ ?_;(try dsimp only[yi,yj]);(try clear g);intro g))
 refine(CQ.out _ (HA.out.mono (g.sub _ (by simp)))).mono ?_
 rintro e w1 ⟨rfl,hb⟩
 obtain⟨g1,rfl⟩:=G.call_ex _ hb
 clear hb
 (try clear g)
 revert g1
 intro g
 go_wp2_with (with_reducible refine yq _ ?_;(try generalize (G.w _).heap.size=bk);(try dsimp only[yi,yj]);(try clear g);intro g)
 (try(refine cmark _ ?_;(try dsimp only[yi,yj]);(try clear g);intro g))
 refine(CBG.out _ g).mono ?_
 rintro e w1 ⟨sb,eb,rb,capr,rs,R,F,p,q,r,g1,rfl,rfl,hp,hown,hov,hc1,hc2⟩
 clear CBG CC CQ g
 revert g1
 intro g
 obtain⟨s1,A1,n3,c1,B1,d1,e1,rfl,rfl,rfl⟩:=hp.shape
 have HP:=Lib.hid hp
 have HO:=Lib.hid hown
 have HV:=Lib.hid hov
 clear hp hown hov
 dsimp only
 go_wp2_with (with_reducible refine yq _ ?_;(try generalize (G.w _).heap.size=bk);(try dsimp only[yi,yj]);(try clear g);intro g)
 refine(plain_run n n sb eb rb capr n F0 F (startE x) (by omega) (Nat.le_refl _) (by omega) hc1 hc2 rfl (by omega) HFA.out HT.out (InF.head _ _) rs R _ _ _ HP.out HO.out HV.out g).mono ?_
 rintro e w1 ⟨rfl,rs2,R2,F2,p2,q2,r2,hp2,hown2,hov2,g1,rfl⟩
 have ES:∀(M:List Blk) (F:Frag) (g:G w [] M [F,sumF sb,F0]),g.w.cell? ⟨sb,0,none⟩=some (.int .i64 0):=fun M F g=>G.sumCell g (InF.tail (InF.head _ _))
 clear g
 revert g1
 intro g
 obtain⟨s2,A2,n4,c2,B2,d2,e2,rfl,rfl,rfl⟩:=hp2.shape
 have HP2:=Lib.hid hp2
 have HV2:=Lib.hid hov2
 clear hp2 hown2 hov2 HP HO HV HA HFA
 obtain⟨g2,hg2⟩:=g.perm (List.perm_append_singleton (l:=_::_::R2) _)
 rw[hg2]
 clear hg2 g
 revert g2
 intro g
 dsimp only
 by_cases hr:(runE n (startE x) n).rk<n
 ·have hri:((runE n (startE x) n).rk:Int)<(n:Int):=by omega
  have hz0:detV n x=0:=by unfold detV;rw[if_pos hr]
  go_wp2_with (with_reducible refine yq _ ?_;(try generalize (G.w _).heap.size=bk);(try dsimp only[yi,yj]);(try clear g);intro g)
  refine(C0.out _ (G.tab g HT.out)).mono ?_
  rintro e w1 ⟨pz,qz,rz,Fz,rfl,hz,hn⟩
  have hnnz:=fun k o hk=>Nat.le_trans g.chg.size (hn.new k o hk)
  obtain⟨sz,Az,nz,cz,Bz,dz,kz,rfl,rfl,rfl⟩:=hz.shape
  obtain⟨g1,rfl⟩:=G.new_ex _ hn
  clear hn
  (try clear g)
  revert g1
  intro g
  go_wp2_with (with_reducible refine yq _ ?_;(try generalize (G.w _).heap.size=bk);(try dsimp only[yi,yj]);(try clear g);intro g)
  refine bodyPost_ret (v:=.tuple #[.agg #[.bool sz,.slice Az nz cz,.slice Bz dz kz],.int .i64 0]) (by simp[results,Tryz.results19,go_sem]) rfl ?_
  exact⟨_,_,_,Fz,rfl,by rw[hz0];exact hz,G.below _,G.sub _ _ (by simp),fun k o hk=> .inr (hnnz k o hk)⟩
 ·have hri:¬ (((runE n (startE x) n).rk:Int)<(n:Int)):=by omega
  have hz0:detV n x=(runE n (startE x) n).det:=by unfold detV;rw[if_neg hr]
  go_wp2_with (with_reducible refine yq _ ?_;(try generalize (G.w _).heap.size=bk);(try dsimp only[yi,yj]);(try clear g);intro g)
  refine bodyPost_ret (v:=.tuple #[.agg #[.bool s2,.slice A2 n4 c2,.slice B2 d2 e2],.int .i64 0]) (by simp[results,Tryz.results19,go_sem]) rfl ?_
  exact⟨_,_,_,rfl,F2,HP2.out,G.below _,G.sub _ _ (by simp),HV2.out⟩
theorem assert_wide1 (A B:Option Addr)(n c n' c':Nat)(w:World):(Instr.typeAssert (.iface 132 (.agg #[.slice A n c,.slice B n' c'])) 137 132 false).run Tryz.prog w=.ok (.agg #[.slice A n c,.slice B n' c']) w:=by kernel_rfl
theorem field_more (a b:Value)(w:World):(Instr.field 132 (.agg #[a,b]) 1).run Tryz.prog w=.ok b w:=by kernel_rfl
/-- what the first k rows of behind's result are -/
def BehP (n m2 k:Nat)(F:Frag)(z:Mx)(Rs:Nat→List Blk)(oc:List Value):Prop:=∀j,j<k→∃B cap' s1 s2,oc[j]?=some (.slice B m2 cap')∧Rs j=s1++s2∧NRow m2 F (fun l=>z j (n+l)) B cap' s2
set_option maxRecDepth 20000 in
set_option maxHeartbeats 8000000 in
theorem behind_r (F0:Frag)(n m2:Nat)(x y:Mx)(A A2:Option Addr)(c c2:Nat)(w:World)(hF:F0.sub w)(hA:F0.Mt A c n (fun _=>n) (rawM x))(hA2:F0.Mt A2 c2 n (fun _=>m2) (rawM y))(hT:Tab w)(n1:1≤n)(n2:n≤24)(m1:1≤m2)(m3:m2≤24)(hfine:FineAll n (n+m2) n (wideM n x y)):
  Calls Tryz.prog 69 #[.slice A n c,.slice A2 n c2] w fun e w'=>(rankM n n x<n∧e=.returned (.tuple #[.slice none 0 0,.int .i64 15])∧Below w.heap.size w w')∨(rankM n n x=n∧∃b k H,e=.returned (.tuple #[.slice (some ⟨b,0,none⟩) n k,.int .i64 0])∧Frag.Mt H (some ⟨b,0,none⟩) k n (fun _=>m2) (rawM (behindM n x y))∧NewOr F0 w w' H):=by
 refine calls_f hF fun g=>?_
 have HT:=Lib.hid hT
 have CBG:=Lib.hid (fun M (g:G w [] M [F0])=>begin_w A A2 c c2 n n m2 x y hA hA2 n1 (by omega) n1 (by omega) m1 (by omega) (InF.head F0 []) g hT)
 unfold BegP at CBG
 have HFA:=Lib.hid hfine
 have hmk:=make_rows n (by omega)
 have hni:(0:Int)≤(n:Int):=by omega
 rw[←rank_wide n x y]
 clear hA hA2 hT hfine hF
 go_enter Tryz.func69,Tryz.ntmps69
 go_wp2_with (with_reducible refine yq _ ?_;(try generalize (G.w _).heap.size=bk);(try dsimp only[yi,yj]);(try clear g);intro g)
 refine(CBG.out _ g).mono ?_
 rintro e w1 ⟨sb,eb,rb,capr,rs,R,F,p,q,r,g1,rfl,rfl,hp,hown,hov,hc1,hc2⟩
 clear CBG g
 revert g1
 intro g
 obtain⟨s1,A1,n3,c1,B1,d1,e1,rfl,rfl,rfl⟩:=hp.shape
 have HP:=Lib.hid hp
 have HO:=Lib.hid hown
 have HV:=Lib.hid hov
 clear hp hown hov
 dsimp only
 go_wp2_with (with_reducible refine yq _ ?_;(try generalize (G.w _).heap.size=bk);(try dsimp only[yi,yj]);(try clear g);intro g)
 refine(wide_run n m2 n sb eb rb capr n F0 F (startE (wideM n x y)) (by omega) (Nat.le_refl _) (by omega) hc1 hc2 rfl (by omega) HFA.out HT.out (InF.head _ _) rs R _ _ _ HP.out HO.out HV.out g).mono ?_
 rintro e w1 ⟨rfl,rs2,R2,F2,p2,q2,r2,hp2,hown2,hov2,g1,rfl⟩
 have ES:∀(M:List Blk) (F:Frag) (g:G w [] M [F,sumF sb,F0]),g.w.cell? ⟨sb,0,none⟩=some (.int .i64 0):=fun M F g=>G.sumCell g (InF.tail (InF.head _ _))
 clear g
 revert g1
 intro g
 obtain⟨s2,A3,n4,c3,B2,d2,e2,rfl,rfl,rfl⟩:=hp2.shape
 have HV2:=Lib.hid hov2
 clear hp2 hov2 HP HO HV HFA
 dsimp only
 obtain⟨st,hst⟩:∃st,runE n (startE (wideM n x y)) n=st:=⟨_,rfl⟩
 have HZ:Hid (behindM n x y=moreM n st.x):=Lib.hid (by unfold behindM;rw[hst])
 have HST:=Lib.hid hst
 rw[hst] at hown2 ⊢
 clear hst
 by_cases hr:st.rk<n
 ·have hri:(st.rk:Int)<(n:Int):=by omega
  go_wp2_with (with_reducible refine yq _ ?_;(try generalize (G.w _).heap.size=bk);(try dsimp only[yi,yj]);(try clear g);intro g)
  go_ret2
  exact .inl ⟨by rw[HST.out];exact hr,rfl,G.below _⟩
 ·have hri:¬ ((st.rk:Int)<(n:Int)):=by omega
  have HRK:=Lib.hid hr
  obtain⟨Rs,hpm,hq⟩:=hown2
  have HQ:=Lib.hid hq
  have HPM:=Lib.hid hpm
  clear hpm hq hr
  go_wp2_with (with_reducible refine yq _ ?_;(try generalize (G.w _).heap.size=bk);(try dsimp only[yi,yj]);(try clear g);intro g)
  obtain⟨ob,rfl⟩:∃ob,ob=bk:=⟨_,rfl⟩
  go_loopw [47] (fun i wr=>∃k:Nat,i=.int .i64 (k:Int)∧k≤n∧∃oc:List Value,Hid (oc.length=n)∧Hid (BehP n m2 k F2 st.x Rs oc)∧∃g:G w [] ((ob,38,oc)::(eb,91,[.pointer (some ⟨sb,0,none⟩),.slice (some ⟨rb,0,none⟩) n capr,.bool s2,.slice A3 n4 c3,.slice B2 d2 e2])::(rb,137,rs2)::(R2++[])) [F2,sumF sb,F0],wr=g.w) (fun i _=>n-(intOf i).toNat)
  case atStart=>exact⟨0,rfl,by omega,_,Lib.hid (by simp),Lib.hid (fun j hj=>absurd hj (Nat.not_lt_zero j)),g,rfl⟩
  case round=>
   clear g
   obtain⟨k,rfl,hk,oc,hocl,hbeh,g,rfl⟩:=hrel
   by_cases hkn:k<n
   ·have hki:(k:Int)<(n:Int):=by omega
    obtain⟨v,hv,u,rfl,A5,cap5,B5,cap6,t1,t2,rfl,hRs,h5,h6⟩:=HQ.out k (List.mem_range.2 hkn)
    obtain⟨vo,hvo⟩:∃v,oc[k]?=some v:=⟨_,List.getElem?_eq_getElem (by have:=hocl.out;omega)⟩
    have HR6:=Lib.hid h6
    have HRS:=Lib.hid hRs
    have HVO:=Lib.hid hvo
    have qa:=assert_wide1
    have qf:=field_more
    clear h5 h6 hRs
    go_wp2_with (with_reducible refine yq _ ?_;(try generalize (G.w _).heap.size=bk);(try dsimp only[yi,yj]);(try clear g);intro g)
    go_roundw
    case rel=>
     refine⟨k+1,by go_num,by omega,_,Lib.hid (by simp[hocl.out]),Lib.hid (fun j hj=>?_),g,rfl⟩
     by_cases e:j=k
     ·subst e
      exact⟨B5,cap6,t1,t2,List.getElem?_set_self (by have:=hocl.out;omega),HRS.out,HR6.out⟩
     ·obtain⟨B',c',u1,u2,e1,e2,e3⟩:=hbeh.out j (by omega)
      exact⟨B',c',u1,u2,by rw[List.getElem?_set_ne (Ne.symm e)];exact e1,e2,e3⟩
    case measure=>simp[intOf];omega
   ·obtain rfl:k=n:=by omega
    go_wp2_with (with_reducible refine yq _ ?_;(try generalize (G.w _).heap.size=bk);(try dsimp only[yi,yj]);(try clear g);intro g)
    go_ret2
    refine .inr ⟨?_,?_⟩
    ·have:=rank_le k k x
     rw[←rank_wide k x y,HST.out] at this
     rw[HST.out]
     have:=HRK.out
     omega
    ·obtain⟨g1,e1'⟩:=g.none_ex
     obtain⟨g2,e2'⟩:=g1.less (M':=((ob,38,oc)::R2)++[]) ((((List.Sublist.refl _).cons _).cons _).cons_cons _)
     obtain⟨F5,g3,e3',hle5,hbl,hnw⟩:=G.layR ((ob,38,oc)::R2) g2
     have hn5:=hnw (Frag.Nw.none w)
     obtain⟨F6,g4,e4',hle,hle2,hnew⟩:=g3.merge
     refine⟨ob,k,F6,rfl,?_,?_⟩
     ·rw[HZ.out]
      refine blk_mt (hle2 _ _ (hbl _ (List.mem_cons_self ..))) (Nat.le_refl _) (by omega) (by omega) fun i hi=>?_
      obtain⟨B',c',u1,u2,e1,e2,b,l,cs,rfl,rfl,hr,hl⟩:=hbeh.out i hi
      have hm:(b,43,cs)∈R2:=HPM.out.mem_iff.2 (List.mem_flatMap.2 ⟨i,List.mem_range.2 hi,by rw[e2];simp⟩)
      exact⟨_,c',e1,row_rw hr (hle2 _ _ (hbl (b,43,cs) (List.mem_cons_of_mem _ hm))) (hl.mono hle) (by omega)⟩
     ·rw[e1',e2',e3',e4']
      exact g4.passOr (by simp) (fun k' o hk'=>(hnew k' o hk').elim (HV2.out k' o) (fun h=> .inr (hn5 k' o h)))
/-- what behind returns: a matrix, or an error if the rank is less than n -/
def RBeh (F0:Frag)(n m2:Nat)(x:Mx)(z:Mx)(w:World)(e:Ending)(w':World):Prop:=(rankM n n x<n∧e=.returned (.tuple #[.slice none 0 0,.int .i64 15])∧Below w.heap.size w w')∨(rankM n n x=n∧∃b k H,e=.returned (.tuple #[.slice (some ⟨b,0,none⟩) n k,.int .i64 0])∧Frag.Mt H (some ⟨b,0,none⟩) k n (fun _=>m2) (rawM z)∧NewOr F0 w w' H)
set_option maxRecDepth 20000 in
set_option maxHeartbeats 4000000 in
theorem Inv_r (F0:Frag)(n:Nat)(x:Mx)(A:Option Addr)(c:Nat)(w:World)(hF:F0.sub w)(hA:F0.Mt A c n (fun _=>n) (rawM x))(hT:Tab w)(n1:1≤n)(n2:n≤24)(bx:∀i,i<n→∀j,j<n→Bd 8192 (x i j))(hfine:FineAll n (n+n) n (wideM n x oneM)):
  Calls Tryz.prog 21 #[.slice A n c] w (RBeh F0 n n x (behindM n x oneM) w):=by
 refine calls_f hF fun g=>?_
 have HA:=Lib.hid hA
 have HT:=Lib.hid hT
 have CC:=Lib.hid (fun w h t=>mCheck_any A c n (fun _=>n) (rawM x) w h t)
 rw[matE_ok n1 n2 n1 n2 bx] at CC
 have CQ:=Lib.hid (fun w h=>square_any n n (rawM x) A c w h n1)
 rw[decide_eq_true rfl] at CQ
 have CO:=Lib.hid (fun w t=>one_r n n1 (by omega) w t)
 unfold RMt at CO
 have CBH:=Lib.hid (fun(F:Frag) (w:World) (b k:Nat) hF h1 h2 t=>behind_r F n n x oneM A (some ⟨b,0,none⟩) c k w hF h1 h2 t n1 n2 n1 n2 hfine)
 clear hA hT bx hfine hF
 unfold RBeh
 go_enter Tryz.func21,Tryz.ntmps21
 go_wp2_with (with_reducible refine yq _ ?_;(try generalize (G.w _).heap.size=bk);(try dsimp only[yi,yj]);(try clear g);intro g)
 refine(CC.out _ (HA.out.mono (g.sub _ (by simp))) (G.tab g HT.out)).mono ?_
 rintro e w1 ⟨rfl,hb⟩
 obtain⟨g1,rfl⟩:=G.call_ex _ hb
 clear hb
 (try clear g)
 revert g1
 intro g
 go_wp2_with (with_reducible refine yq _ ?_;(try generalize (G.w _).heap.size=bk);(try dsimp only[yi,yj]);(try clear g);intro g)
 refine(CQ.out _ (HA.out.mono (g.sub _ (by simp)))).mono ?_
 rintro e w1 ⟨rfl,hb⟩
 obtain⟨g1,rfl⟩:=G.call_ex _ hb
 clear hb
 (try clear g)
 revert g1
 intro g
 go_wp2_with (with_reducible refine yq _ ?_;(try generalize (G.w _).heap.size=bk);(try dsimp only[yi,yj]);(try clear g);intro g)
 refine(CO.out _ (G.tab g HT.out)).mono ?_
 rintro e w1 ⟨b1,k1,F1,rfl,hm1,hn1⟩
 have ho1:=fun k o hk=>Nat.le_trans g.chg.size (hn1.new k o hk)
 obtain⟨g1,rfl⟩:=G.new_ex _ hn1
 clear hn1 g CC CQ CO
 revert g1
 intro g
 obtain⟨F2,g2,e2,hle,hle2,hnew⟩:=g.merge
 rw[e2]
 clear e2 g
 revert g2
 intro g
 dsimp only
 go_wp2_with (with_reducible refine yq _ ?_;(try generalize (G.w _).heap.size=bk);(try dsimp only[yi,yj]);(try clear g);intro g)
 refine(CBH.out F2 _ _ _ (g.sub _ (by simp)) (HA.out.mono hle) (hm1.mono hle2) (G.tab g HT.out)).mono ?_
 rintro e w1 (⟨hr,rfl,hb⟩|⟨hr,b,k,H,rfl,hmt,hno⟩)
 ·have HR:=Lib.hid hr
  clear hr
  obtain⟨g1,rfl⟩:=G.call_ex _ hb
  clear hb g
  revert g1
  intro g
  dsimp only
  go_wp2_with (with_reducible refine yq _ ?_;(try generalize (G.w _).heap.size=bk);(try dsimp only[yi,yj]);(try clear g);intro g)
  go_ret2
  exact .inl ⟨HR.out,rfl,G.below _⟩
 ·have HR:=Lib.hid hr
  have HM:=Lib.hid hmt
  have hov2:F2.over F0 w:=fun k o hk=>(hnew k o hk).elim .inl (fun h=> .inr (ho1 k o h))
  obtain⟨g1,rfl,hov⟩:=g.newor_ex (F0:=F0) (F:=H) ⟨hno.below,hno.sub,fun k o hk=>(hno.new k o hk).elim (fun h=> .inl (g.fr_of (by simp) hov2 k o h)) .inr⟩
  have HOV:=Lib.hid hov
  clear hr hmt hno hnew hov hov2 g
  revert g1
  intro g
  dsimp only
  go_wp2_with (with_reducible refine yq _ ?_;(try generalize (G.w _).heap.size=bk);(try dsimp only[yi,yj]);(try clear g);intro g)
  go_ret2
  exact .inr ⟨HR.out,b,k,H,rfl,HM.out,g.passOr (by simp) HOV.out⟩
/-- Two parts as one, the second kept besides. -/
theorem mergeK {w0:World}{X:List Nat}{M:List Blk}{I:List Frag}{F H:Frag}(g:G w0 X M (H::F::I)):∃F':Frag,∃g':G w0 X M (F'::F::I),g.w=g'.w∧F.le F'∧H.le F'∧∀k o,F' k=some o→F k=some o∨H k=some o:=by
 have hF:=g.sub F (by simp)
 have hH:=g.sub H (by simp)
 refine⟨F.or H,⟨g.w,g.chg,g.own,g.may,g.dist,fun f hf=>?_,fun f hf k o hk=>?_⟩,rfl,Frag.le_orl F H,Frag.le_orr hF hH,fun k o h=>Frag.or_some h⟩
 ·rcases List.mem_cons.1 hf with rfl|hf
  ·exact Frag.or_sub hF hH
  ·exact g.sub f (List.mem_cons_of_mem _ hf)
 ·rcases List.mem_cons.1 hf with rfl|hf
  ·exact(Frag.or_some hk).elim (g.keep F (by simp) k o) (g.keep H (by simp) k o)
  ·exact g.keep f (List.mem_cons_of_mem _ hf) k o hk
set_option maxRecDepth 20000 in
theorem rsquare_any (n:Nat)(m:Nat→Nat)(x:Nat→Nat→Raw)(A:Option Addr)(c:Nat)(w:World)(hA:(heapOf w).Mt A c n m x):
  Calls Tryz.prog 65 #[.slice A n c] w fun e w'=>e=.returned (.int .i64 (sqE n m x))∧Below w.heap.size w w':=by
 refine calls_b fun g=>?_
 have HA:=Lib.hid hA
 have CC:=Lib.hid (fun w h=>rCheck5_any A c n m x w h)
 unfold sqE
 by_cases h0:matE n m x=0
 ·have hp:=matE_pos h0
  rw[h0] at CC
  rw[if_pos h0]
  obtain⟨b,o,rfl,hrow⟩:=hA.rowAt (by omega)
  obtain⟨B0,k0,hh0,hrw0⟩:=hrow 0 (by omega)
  generalize m 0=m0 at*
  have E0:∀(M:List Blk) (g:G w [] M [heapOf w]),g.w.cell? ⟨b,o,none⟩=some (.slice B0 m0 k0):=fun M g=>hh0 _ _ _ _ g (InF.head _ _)
  have hn0i:(0:Int)<(n:Int):=by omega
  have hn0:0<n:=by omega
  clear hA h0 hrow hh0 hrw0 hp
  by_cases hnm:n=m0
  ·have hb:((n:Int)==(m0:Int))=true:=by simp[hnm]
   have hb2:((n:Int) !=(m0:Int))=false:=by simp[hnm]
   rw[if_pos hnm]
   clear hnm
   go_enter Tryz.func65,Tryz.ntmps65
   go_wp2_with (with_reducible refine yq _ ?_;(try generalize (G.w _).heap.size=bk);(try dsimp only[yi,yj]);(try clear g);intro g)
   refine(CC.out _ (HA.out.mono (g.sub _ (by simp)))).mono ?_
   rintro e w1 ⟨rfl,hb⟩
   obtain⟨g1,rfl⟩:=G.call_ex _ hb
   clear hb
   (try clear g)
   revert g1
   intro g
   go_wp2_with (with_reducible refine yq _ ?_;(try generalize (G.w _).heap.size=bk);(try dsimp only[yi,yj]);(try clear g);intro g)
   go_ret
   exact⟨rfl,G.below _⟩
  ·have hb:((n:Int)==(m0:Int))=false:=by simp;omega
   have hb2:((n:Int) !=(m0:Int))=true:=by simp;omega
   rw[if_neg hnm]
   clear hnm
   go_enter Tryz.func65,Tryz.ntmps65
   go_wp2_with (with_reducible refine yq _ ?_;(try generalize (G.w _).heap.size=bk);(try dsimp only[yi,yj]);(try clear g);intro g)
   refine(CC.out _ (HA.out.mono (g.sub _ (by simp)))).mono ?_
   rintro e w1 ⟨rfl,hb⟩
   obtain⟨g1,rfl⟩:=G.call_ex _ hb
   clear hb
   (try clear g)
   revert g1
   intro g
   go_wp2_with (with_reducible refine yq _ ?_;(try generalize (G.w _).heap.size=bk);(try dsimp only[yi,yj]);(try clear g);intro g)
   go_ret
   exact⟨rfl,G.below _⟩
 ·rw[if_neg h0]
  generalize matE n m x=E at*
  have heb:(E==0)=false:=by simpa using h0
  clear hA h0
  go_enter Tryz.func65,Tryz.ntmps65
  go_wp2_with (with_reducible refine yq _ ?_;(try generalize (G.w _).heap.size=bk);(try dsimp only[yi,yj]);(try clear g);intro g)
  refine(CC.out _ (HA.out.mono (g.sub _ (by simp)))).mono ?_
  rintro e w1 ⟨rfl,hb⟩
  obtain⟨g1,rfl⟩:=G.call_ex _ hb
  clear hb
  (try clear g)
  revert g1
  intro g
  go_wp2_with (with_reducible refine yq _ ?_;(try generalize (G.w _).heap.size=bk);(try dsimp only[yi,yj]);(try clear g);intro g)
  go_ret
  exact⟨rfl,G.below _⟩
theorem listE_val {n:Nat}{v:Nat→Rat}(h:∀j,j<n→Bd 8192 (v j))(n1:1≤n)(n2:n≤24):listE (rawR v) n=0:=listE_ok fun j hj=>numE_ok (h j hj)
def rawZ:Raw:=(false,[],[])
theorem InF.t4 (F a b c d:Frag)(I:List Frag):InF F (a::b::c::d::F::I):=InF.tail (InF.t3 _ _ _ _ _)
/-- the error of a system of equations -/
def slE (n:Nat)(m:Nat→Nat)(x:Nat→Nat→Raw)(k:Nat)(y:Nat→Raw):Int:=if matE n m x=0 then(if listE y k=0 then(if n=m 0∧k=n then 0 else 10) else listE y k) else matE n m x
set_option maxRecDepth 20000 in
set_option maxHeartbeats 4000000 in
theorem Quad_e (n k:Nat)(m:Nat→Nat)(x:Nat→Nat→Raw)(y:Nat→Raw)(A B:Option Addr)(c d:Nat)(E:Int)(w:World)(hA:(heapOf w).Mt A c n m x)(hB:(heapOf w).Rw B d k y)(hT:Tab w)(hE:slE n m x k y=E)(h0:E≠0):
  Calls Tryz.prog 43 #[.slice A n c,.slice B k d] w (RErrR E w):=by
 refine calls_b fun g=>?_
 unfold RErrR
 have HA:=Lib.hid hA
 have HB:=Lib.hid hB
 have HT:=Lib.hid hT
 have CC:=Lib.hid (fun w h t=>mCheck_any A c n m x w h t)
 have CL:=Lib.hid (fun w h t=>list_any B d k y w h t)
 unfold slE at hE
 by_cases h1:matE n m x=0
 ·rw[if_pos h1] at hE
  rw[h1] at CC
  have hp:=matE_pos h1
  have hm:=matE_m h1
  by_cases h2:listE y k=0
  ·rw[if_pos h2] at hE
   rw[h2] at CL
   have h3:¬ (n=m 0∧k=n):=fun h=>h0 (by rw[←hE,if_pos h])
   rw[if_neg h3] at hE
   subst hE
   have CQ:=Lib.hid (fun w h=>square_any n (m 0) x A c w h (by omega))
   have HA2:=Lib.hid (hA.congr hm (fun _ _ _ _=>rfl))
   generalize m 0=m0 at*
   by_cases hnm:n=m0
   ·have hkb:((k:Int)==(n:Int))=false:=by simp;omega
    have hkb2:((k:Int) !=(n:Int))=true:=by simp;omega
    rw[decide_eq_true hnm] at CQ
    clear hA hB hT h0 h1 h2 h3 hp hm hnm
    go_enter Tryz.func43,Tryz.ntmps43
    go_wp2_with (with_reducible refine yq _ ?_;(try generalize (G.w _).heap.size=bk);(try dsimp only[yi,yj]);(try clear g);intro g)
    (try(refine cmark _ ?_;(try dsimp only[yi,yj]);(try clear g);intro g))
    refine(CC.out _ (HA.out.mono (g.sub _ (by simp))) (G.tab g HT.out)).mono ?_
    rintro e w1 ⟨rfl,hb⟩
    obtain⟨g1,rfl⟩:=G.call_ex _ hb
    clear hb
    (try clear g)
    revert g1
    intro g
    go_wp2_with (with_reducible refine yq _ ?_;(try generalize (G.w _).heap.size=bk);(try dsimp only[yi,yj]);(try clear g);intro g)
    (try(refine cmark _ ?_;(try dsimp only[yi,yj]);(try clear g);intro g))
    refine(CL.out _ (HB.out.mono (g.sub _ (by simp))) (G.tab g HT.out)).mono ?_
    rintro e w1 ⟨rfl,hb⟩
    obtain⟨g1,rfl⟩:=G.call_ex _ hb
    clear hb
    (try clear g)
    revert g1
    intro g
    go_wp2_with (with_reducible refine yq _ ?_;(try generalize (G.w _).heap.size=bk);(try dsimp only[yi,yj]);(try clear g);intro g)
    (try(refine cmark _ ?_;(try dsimp only[yi,yj]);(try clear g);intro g))
    refine(CQ.out _ (HA2.out.mono (g.sub _ (by simp)))).mono ?_
    rintro e w1 ⟨rfl,hb⟩
    obtain⟨g1,rfl⟩:=G.call_ex _ hb
    clear hb
    (try clear g)
    revert g1
    intro g
    go_wp2_with (with_reducible refine yq _ ?_;(try generalize (G.w _).heap.size=bk);(try dsimp only[yi,yj]);(try clear g);intro g)
    refine bodyPost_ret (v:=.tuple #[.agg #[.bool false,.slice none 0 0,.slice none 0 0],.int .i64 10]) (by simp[results,Tryz.results43,go_sem]) rfl ?_
    exact⟨rfl,G.below _⟩
   ·rw[decide_eq_false hnm] at CQ
    clear hA hB hT h0 h1 h2 h3 hp hm hnm
    go_enter Tryz.func43,Tryz.ntmps43
    go_wp2_with (with_reducible refine yq _ ?_;(try generalize (G.w _).heap.size=bk);(try dsimp only[yi,yj]);(try clear g);intro g)
    (try(refine cmark _ ?_;(try dsimp only[yi,yj]);(try clear g);intro g))
    refine(CC.out _ (HA.out.mono (g.sub _ (by simp))) (G.tab g HT.out)).mono ?_
    rintro e w1 ⟨rfl,hb⟩
    obtain⟨g1,rfl⟩:=G.call_ex _ hb
    clear hb
    (try clear g)
    revert g1
    intro g
    go_wp2_with (with_reducible refine yq _ ?_;(try generalize (G.w _).heap.size=bk);(try dsimp only[yi,yj]);(try clear g);intro g)
    (try(refine cmark _ ?_;(try dsimp only[yi,yj]);(try clear g);intro g))
    refine(CL.out _ (HB.out.mono (g.sub _ (by simp))) (G.tab g HT.out)).mono ?_
    rintro e w1 ⟨rfl,hb⟩
    obtain⟨g1,rfl⟩:=G.call_ex _ hb
    clear hb
    (try clear g)
    revert g1
    intro g
    go_wp2_with (with_reducible refine yq _ ?_;(try generalize (G.w _).heap.size=bk);(try dsimp only[yi,yj]);(try clear g);intro g)
    (try(refine cmark _ ?_;(try dsimp only[yi,yj]);(try clear g);intro g))
    refine(CQ.out _ (HA2.out.mono (g.sub _ (by simp)))).mono ?_
    rintro e w1 ⟨rfl,hb⟩
    obtain⟨g1,rfl⟩:=G.call_ex _ hb
    clear hb
    (try clear g)
    revert g1
    intro g
    go_wp2_with (with_reducible refine yq _ ?_;(try generalize (G.w _).heap.size=bk);(try dsimp only[yi,yj]);(try clear g);intro g)
    refine bodyPost_ret (v:=.tuple #[.agg #[.bool false,.slice none 0 0,.slice none 0 0],.int .i64 10]) (by simp[results,Tryz.results43,go_sem]) rfl ?_
    exact⟨rfl,G.below _⟩
  ·rw[if_neg h2] at hE
   rw[hE] at CL
   have heb:(E==0)=false:=by simpa using h0
   have hen:(E !=0)=true:=by simpa using h0
   clear hA hB hE h1 h2 hp hm hT
   go_enter Tryz.func43,Tryz.ntmps43
   go_wp2_with (with_reducible refine yq _ ?_;(try generalize (G.w _).heap.size=bk);(try dsimp only[yi,yj]);(try clear g);intro g)
   (try(refine cmark _ ?_;(try dsimp only[yi,yj]);(try clear g);intro g))
   refine(CC.out _ (HA.out.mono (g.sub _ (by simp))) (G.tab g HT.out)).mono ?_
   rintro e w1 ⟨rfl,hb⟩
   obtain⟨g1,rfl⟩:=G.call_ex _ hb
   clear hb
   (try clear g)
   revert g1
   intro g
   go_wp2_with (with_reducible refine yq _ ?_;(try generalize (G.w _).heap.size=bk);(try dsimp only[yi,yj]);(try clear g);intro g)
   (try(refine cmark _ ?_;(try dsimp only[yi,yj]);(try clear g);intro g))
   refine(CL.out _ (HB.out.mono (g.sub _ (by simp))) (G.tab g HT.out)).mono ?_
   rintro e w1 ⟨rfl,hb⟩
   obtain⟨g1,rfl⟩:=G.call_ex _ hb
   clear hb
   (try clear g)
   revert g1
   intro g
   go_wp2_with (with_reducible refine yq _ ?_;(try generalize (G.w _).heap.size=bk);(try dsimp only[yi,yj]);(try clear g);intro g)
   refine bodyPost_ret (v:=.tuple #[.agg #[.bool false,.slice none 0 0,.slice none 0 0],.int .i64 E]) (by simp[results,Tryz.results43,go_sem]) rfl ?_
   exact⟨rfl,G.below _⟩
 ·rw[if_neg h1] at hE
  rw[hE] at CC
  have heb:(E==0)=false:=by simpa using h0
  have hen:(E !=0)=true:=by simpa using h0
  clear hA hB hE h1 hT
  go_enter Tryz.func43,Tryz.ntmps43
  go_wp2_with (with_reducible refine yq _ ?_;(try generalize (G.w _).heap.size=bk);(try dsimp only[yi,yj]);(try clear g);intro g)
  (try(refine cmark _ ?_;(try dsimp only[yi,yj]);(try clear g);intro g))
  refine(CC.out _ (HA.out.mono (g.sub _ (by simp))) (G.tab g HT.out)).mono ?_
  rintro e w1 ⟨rfl,hb⟩
  obtain⟨g1,rfl⟩:=G.call_ex _ hb
  clear hb
  (try clear g)
  revert g1
  intro g
  go_wp2_with (with_reducible refine yq _ ?_;(try generalize (G.w _).heap.size=bk);(try dsimp only[yi,yj]);(try clear g);intro g)
  refine bodyPost_ret (v:=.tuple #[.agg #[.bool false,.slice none 0 0,.slice none 0 0],.int .i64 E]) (by simp[results,Tryz.results43,go_sem]) rfl ?_
  exact⟨rfl,G.below _⟩
set_option maxRecDepth 20000 in
set_option maxHeartbeats 4000000 in
theorem rQuad_e (n k:Nat)(m:Nat→Nat)(x:Nat→Nat→Raw)(y:Nat→Raw)(A B:Option Addr)(c d:Nat)(E:Int)(w:World)(hA:(heapOf w).Mt A c n m x)(hB:(heapOf w).Rw B d k y)(hE:slE n m x k y=E)(h0:E≠0):
  Calls Tryz.prog 44 #[.slice A n c,.slice B k d] w (RErrR E w):=by
 refine calls_b fun g=>?_
 unfold RErrR
 have HA:=Lib.hid hA
 have HB:=Lib.hid hB
 have CC:=Lib.hid (fun w h=>rCheck5_any A c n m x w h)
 have CL:=Lib.hid (fun w h=>rList_any B d k y w h)
 unfold slE at hE
 by_cases h1:matE n m x=0
 ·rw[if_pos h1] at hE
  rw[h1] at CC
  have hp:=matE_pos h1
  have hm:=matE_m h1
  by_cases h2:listE y k=0
  ·rw[if_pos h2] at hE
   rw[h2] at CL
   have h3:¬ (n=m 0∧k=n):=fun h=>h0 (by rw[←hE,if_pos h])
   rw[if_neg h3] at hE
   subst hE
   obtain⟨b,o,rfl,hrow⟩:=hA.rowAt (by omega)
   obtain⟨B0,k0,hh0,hrw0⟩:=hrow 0 (by omega)
   generalize m 0=m0 at*
   have E0:∀(M:List Blk) (g:G w [] M [heapOf w]),g.w.cell? ⟨b,o,none⟩=some (.slice B0 m0 k0):=fun M g=>hh0 _ _ _ _ g (InF.head _ _)
   have hn0i:(0:Int)<(n:Int):=by omega
   have hn0:0<n:=by omega
   by_cases hnm:n=m0
   ·have hkb:((k:Int)==(n:Int))=false:=by simp;omega
    have hkb2:((k:Int) !=(n:Int))=true:=by simp;omega
    have hmb:((n:Int)==(m0:Int))=true:=by simp[hnm]
    have hmb2:((n:Int) !=(m0:Int))=false:=by simp[hnm]
    clear hA hB h0 h1 h2 h3 hp hm hnm hrow hh0 hrw0
    go_enter Tryz.func44,Tryz.ntmps44
    go_wp2_with (with_reducible refine yq _ ?_;(try generalize (G.w _).heap.size=bk);(try dsimp only[yi,yj]);(try clear g);intro g)
    (try(refine cmark _ ?_;(try dsimp only[yi,yj]);(try clear g);intro g))
    refine(CC.out _ (HA.out.mono (g.sub _ (by simp)))).mono ?_
    rintro e w1 ⟨rfl,hb⟩
    obtain⟨g1,rfl⟩:=G.call_ex _ hb
    clear hb
    (try clear g)
    revert g1
    intro g
    go_wp2_with (with_reducible refine yq _ ?_;(try generalize (G.w _).heap.size=bk);(try dsimp only[yi,yj]);(try clear g);intro g)
    (try(refine cmark _ ?_;(try dsimp only[yi,yj]);(try clear g);intro g))
    refine(CL.out _ (HB.out.mono (g.sub _ (by simp)))).mono ?_
    rintro e w1 ⟨rfl,hb⟩
    obtain⟨g1,rfl⟩:=G.call_ex _ hb
    clear hb
    (try clear g)
    revert g1
    intro g
    go_wp2_with (with_reducible refine yq _ ?_;(try generalize (G.w _).heap.size=bk);(try dsimp only[yi,yj]);(try clear g);intro g)
    refine bodyPost_ret (v:=.tuple #[.agg #[.bool false,.slice none 0 0,.slice none 0 0],.int .i64 10]) (by simp[results,Tryz.results44,go_sem]) rfl ?_
    exact⟨rfl,G.below _⟩
   ·have hmb:((n:Int)==(m0:Int))=false:=by simp;omega
    have hmb2:((n:Int) !=(m0:Int))=true:=by simp;omega
    clear hA hB h0 h1 h2 h3 hp hm hnm hrow hh0 hrw0
    go_enter Tryz.func44,Tryz.ntmps44
    go_wp2_with (with_reducible refine yq _ ?_;(try generalize (G.w _).heap.size=bk);(try dsimp only[yi,yj]);(try clear g);intro g)
    (try(refine cmark _ ?_;(try dsimp only[yi,yj]);(try clear g);intro g))
    refine(CC.out _ (HA.out.mono (g.sub _ (by simp)))).mono ?_
    rintro e w1 ⟨rfl,hb⟩
    obtain⟨g1,rfl⟩:=G.call_ex _ hb
    clear hb
    (try clear g)
    revert g1
    intro g
    go_wp2_with (with_reducible refine yq _ ?_;(try generalize (G.w _).heap.size=bk);(try dsimp only[yi,yj]);(try clear g);intro g)
    (try(refine cmark _ ?_;(try dsimp only[yi,yj]);(try clear g);intro g))
    refine(CL.out _ (HB.out.mono (g.sub _ (by simp)))).mono ?_
    rintro e w1 ⟨rfl,hb⟩
    obtain⟨g1,rfl⟩:=G.call_ex _ hb
    clear hb
    (try clear g)
    revert g1
    intro g
    go_wp2_with (with_reducible refine yq _ ?_;(try generalize (G.w _).heap.size=bk);(try dsimp only[yi,yj]);(try clear g);intro g)
    refine bodyPost_ret (v:=.tuple #[.agg #[.bool false,.slice none 0 0,.slice none 0 0],.int .i64 10]) (by simp[results,Tryz.results44,go_sem]) rfl ?_
    exact⟨rfl,G.below _⟩
  ·rw[if_neg h2] at hE
   rw[hE] at CL
   have heb:(E==0)=false:=by simpa using h0
   have hen:(E !=0)=true:=by simpa using h0
   clear hA hB hE h1 h2 hp hm
   go_enter Tryz.func44,Tryz.ntmps44
   go_wp2_with (with_reducible refine yq _ ?_;(try generalize (G.w _).heap.size=bk);(try dsimp only[yi,yj]);(try clear g);intro g)
   (try(refine cmark _ ?_;(try dsimp only[yi,yj]);(try clear g);intro g))
   refine(CC.out _ (HA.out.mono (g.sub _ (by simp)))).mono ?_
   rintro e w1 ⟨rfl,hb⟩
   obtain⟨g1,rfl⟩:=G.call_ex _ hb
   clear hb
   (try clear g)
   revert g1
   intro g
   go_wp2_with (with_reducible refine yq _ ?_;(try generalize (G.w _).heap.size=bk);(try dsimp only[yi,yj]);(try clear g);intro g)
   (try(refine cmark _ ?_;(try dsimp only[yi,yj]);(try clear g);intro g))
   refine(CL.out _ (HB.out.mono (g.sub _ (by simp)))).mono ?_
   rintro e w1 ⟨rfl,hb⟩
   obtain⟨g1,rfl⟩:=G.call_ex _ hb
   clear hb
   (try clear g)
   revert g1
   intro g
   go_wp2_with (with_reducible refine yq _ ?_;(try generalize (G.w _).heap.size=bk);(try dsimp only[yi,yj]);(try clear g);intro g)
   refine bodyPost_ret (v:=.tuple #[.agg #[.bool false,.slice none 0 0,.slice none 0 0],.int .i64 E]) (by simp[results,Tryz.results44,go_sem]) rfl ?_
   exact⟨rfl,G.below _⟩
 ·rw[if_neg h1] at hE
  rw[hE] at CC
  have heb:(E==0)=false:=by simpa using h0
  have hen:(E !=0)=true:=by simpa using h0
  clear hA hB hE h1
  go_enter Tryz.func44,Tryz.ntmps44
  go_wp2_with (with_reducible refine yq _ ?_;(try generalize (G.w _).heap.size=bk);(try dsimp only[yi,yj]);(try clear g);intro g)
  (try(refine cmark _ ?_;(try dsimp only[yi,yj]);(try clear g);intro g))
  refine(CC.out _ (HA.out.mono (g.sub _ (by simp)))).mono ?_
  rintro e w1 ⟨rfl,hb⟩
  obtain⟨g1,rfl⟩:=G.call_ex _ hb
  clear hb
  (try clear g)
  revert g1
  intro g
  go_wp2_with (with_reducible refine yq _ ?_;(try generalize (G.w _).heap.size=bk);(try dsimp only[yi,yj]);(try clear g);intro g)
  refine bodyPost_ret (v:=.tuple #[.agg #[.bool false,.slice none 0 0,.slice none 0 0],.int .i64 E]) (by simp[results,Tryz.results44,go_sem]) rfl ?_
  exact⟨rfl,G.below _⟩
end Go.Proofs.YthhbbnfnejjpiaaGreatDoor
