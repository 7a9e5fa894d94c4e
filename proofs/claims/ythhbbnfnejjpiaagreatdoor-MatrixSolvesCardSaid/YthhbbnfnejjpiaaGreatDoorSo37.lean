/- Plain facts and contracts of functions of the program, out of walks. Their conditions stand ahead of each. -/
import Derived.Test.YthhbbnfnejjpiaaGreatDoorSo27
import Derived.Test.YthhbbnfnejjpiaaGreatDoorSo28
import Derived.Test.YthhbbnfnejjpiaaGreatDoorSo29
import Derived.Test.YthhbbnfnejjpiaaGreatDoorSo34
import Derived.Test.YthhbbnfnejjpiaaGreatDoorSo36
import Derived.Below
import Derived.BigQuiet
import Derived.Deep.DeepCutAuto
import Derived.Deep.Draws
import Derived.Deep.LoopGhost
import Derived.Deep.QuietTactic
import Derived.Deep.RegionHeld3
import Derived.Deep.RegionLaw
import Derived.Defers
import Derived.Laws.BytesString
import Derived.Laws.Cells
import Derived.Laws.Concat
import Derived.Laws.CopyOwn
import Derived.Laws.CopyRow
import Derived.Laws.NewBlocks
import Derived.Laws.OwnMore
import Derived.Laws.Pointers
import Derived.Laws.Rows
import Derived.Lib.BitFns
import Derived.Lib.Hide
import Derived.Lib.ItoaNum
import Derived.Lib.SliceRun
import Derived.Lib.TrailingZeros
import Derived.LoopIn
import Derived.LoopNIn
import Derived.Maps.AppendAt
import Derived.OrdersHeld
import Derived.OrdersIn
import Derived.OwnWalk
import Derived.OwnWalkIn
import Derived.RangeFuncBound
import Derived.RangeFuncBox
import Derived.RangeFuncCalls
import Derived.RangeFuncLeaves
import Derived.RangeFuncNested
import Derived.RangeFuncWrites
import Derived.RowKit3
import Derived.Shelf.Abstract
import Derived.Shelf.RegionOpen
import Derived.Shelf.Spec.TrailingZeros
import Derived.StillTactics
import Derived.StillTailTactics
import Derived.TacticsInMore
import Derived.Test.YthhbbnfnejjpiaaGreatDoorProg
import Derived.WalkKit
import Derived.WalkLawsBesides
import Derived.WalkMore
import Derived.WalkSpells
set_option linter.unusedVariables false
set_option linter.unusedSimpArgs false
set_option exponentiation.threshold 10000
namespace Go.Proofs.YthhbbnfnejjpiaaGreatDoor
open Go.RowKit GW NL MX
theorem assert_wide1 (A B:Option Addr)(n c n' c':Nat)(w:World):(Instr.typeAssert (.iface 132 (.agg #[.slice A n c,.slice B n' c'])) 137 132 false).run Tryz.prog w=.ok (.agg #[.slice A n c,.slice B n' c']) w:=by kernel_rfl
theorem field_more (a b:Value)(w:World):(Instr.field 132 (.agg #[a,b]) 1).run Tryz.prog w=.ok b w:=by kernel_rfl
/-- what the first k rows of behind's result are -/
def BehP (n m2 k:Nat)(F:Frag)(z:Mx)(Rs:Nat→List Blk)(oc:List Value):Prop:=∀j,j<k→∃B cap' s1 s2,oc[j]?=some (.slice B m2 cap')∧Rs j=s1++s2∧NRow m2 F (fun l=>z j (n+l)) B cap' s2
set_option maxRecDepth 20000 in
set_option maxHeartbeats 8000000 in
theorem behind_r (F0:Frag)(n m2:Nat)(x y:Mx)(A A2:Option Addr)(c c2:Nat)(w:World)(hF:F0.sub w)(hA:F0.Mt A c n (fun _=>n) (rawM x))(hA2:F0.Mt A2 c2 n (fun _=>m2) (rawM y))(hT:Tab w)(n1:1≤n)(n2:n≤24)(m1:1≤m2)(m3:m2≤24)(hfine:FineAll n (n+m2) n (wideM n x y)):
  Calls Tryz.prog 69 #[.slice A n c,.slice A2 n c2] w fun e w'=>(rankM n n x<n∧e=.returned (.tuple #[.slice none 0 0,.int .i64 15])∧Below w.heap.size w w')∨(rankM n n x=n∧∃b k H,e=.returned (.tuple #[.slice (some ⟨b,0,none⟩) n k,.int .i64 0])∧Frag.Mt H (some ⟨b,0,none⟩) k n (fun _=>m2) (rawM (behindM n x y))∧NewOr F0 w w' H):=by
 refine calls_f hF fun g=>?_
 have HT:=Lib.hid hT
 have CBG:=Lib.hid (fun M (g:G w [] M [F0])=>begin_w A A2 c c2 n n m2 x y hA hA2 n1 (by omega) n1 (by omega) m1 (by omega) (InF.head F0 []) g hT)
 unfold BegP at CBG
 have HFA:=Lib.hid hfine
 have hmk:=make_rows n (by omega)
 have hni:(0:Int)≤(n:Int):=by omega
 rw[←rank_wide n x y]
 clear hA hA2 hT hfine hF
 go_enter Tryz.func69,Tryz.ntmps69
 go_wp2_with (with_reducible refine yq _ ?_;(try generalize (G.w _).heap.size=bk);(try dsimp only[yi,yj]);(try clear g);intro g)
 refine(CBG.out _ g).mono ?_
 rintro e w1 ⟨sb,eb,rb,capr,rs,R,F,p,q,r,g1,rfl,rfl,hp,hown,hov,hc1,hc2⟩
 clear CBG g
 revert g1
 intro g
 obtain⟨s1,A1,n3,c1,B1,d1,e1,rfl,rfl,rfl⟩:=hp.shape
 have HP:=Lib.hid hp
 have HO:=Lib.hid hown
 have HV:=Lib.hid hov
 clear hp hown hov
 dsimp only
 go_wp2_with (with_reducible refine yq _ ?_;(try generalize (G.w _).heap.size=bk);(try dsimp only[yi,yj]);(try clear g);intro g)
 refine(wide_run n m2 n sb eb rb capr n F0 F (startE (wideM n x y)) (by omega) (Nat.le_refl _) (by omega) hc1 hc2 rfl (by omega) HFA.out HT.out (InF.head _ _) rs R _ _ _ HP.out HO.out HV.out g).mono ?_
 rintro e w1 ⟨rfl,rs2,R2,F2,p2,q2,r2,hp2,hown2,hov2,g1,rfl⟩
 have ES:∀(M:List Blk) (F:Frag) (g:G w [] M [F,sumF sb,F0]),g.w.cell? ⟨sb,0,none⟩=some (.int .i64 0):=fun M F g=>G.sumCell g (InF.tail (InF.head _ _))
 clear g
 revert g1
 intro g
 obtain⟨s2,A3,n4,c3,B2,d2,e2,rfl,rfl,rfl⟩:=hp2.shape
 have HV2:=Lib.hid hov2
 clear hp2 hov2 HP HO HV HFA
 dsimp only
 obtain⟨st,hst⟩:∃st,runE n (startE (wideM n x y)) n=st:=⟨_,rfl⟩
 have HZ:Hid (behindM n x y=moreM n st.x):=Lib.hid (by unfold behindM;rw[hst])
 have HST:=Lib.hid hst
 rw[hst] at hown2 ⊢
 clear hst
 by_cases hr:st.rk<n
 ·have hri:(st.rk:Int)<(n:Int):=by omega
  go_wp2_with (with_reducible refine yq _ ?_;(try generalize (G.w _).heap.size=bk);(try dsimp only[yi,yj]);(try clear g);intro g)
  go_ret2
  exact .inl ⟨by rw[HST.out];exact hr,rfl,G.below _⟩
 ·have hri:¬ ((st.rk:Int)<(n:Int)):=by omega
  have HRK:=Lib.hid hr
  obtain⟨Rs,hpm,hq⟩:=hown2
  have HQ:=Lib.hid hq
  have HPM:=Lib.hid hpm
  clear hpm hq hr
  go_wp2_with (with_reducible refine yq _ ?_;(try generalize (G.w _).heap.size=bk);(try dsimp only[yi,yj]);(try clear g);intro g)
  obtain⟨ob,rfl⟩:∃ob,ob=bk:=⟨_,rfl⟩
  go_loopw [47] (fun i wr=>∃k:Nat,i=.int .i64 (k:Int)∧k≤n∧∃oc:List Value,Hid (oc.length=n)∧Hid (BehP n m2 k F2 st.x Rs oc)∧∃g:G w [] ((ob,38,oc)::(eb,91,[.pointer (some ⟨sb,0,none⟩),.slice (some ⟨rb,0,none⟩) n capr,.bool s2,.slice A3 n4 c3,.slice B2 d2 e2])::(rb,137,rs2)::(R2++[])) [F2,sumF sb,F0],wr=g.w) (fun i _=>n-(intOf i).toNat)
  case atStart=>exact⟨0,rfl,by omega,_,Lib.hid (by simp),Lib.hid (fun j hj=>absurd hj (Nat.not_lt_zero j)),g,rfl⟩
  case round=>
   clear g
   obtain⟨k,rfl,hk,oc,hocl,hbeh,g,rfl⟩:=hrel
   by_cases hkn:k<n
   ·have hki:(k:Int)<(n:Int):=by omega
    obtain⟨v,hv,u,rfl,A5,cap5,B5,cap6,t1,t2,rfl,hRs,h5,h6⟩:=HQ.out k (List.mem_range.2 hkn)
    obtain⟨vo,hvo⟩:∃v,oc[k]?=some v:=⟨_,List.getElem?_eq_getElem (by have:=hocl.out;omega)⟩
    have HR6:=Lib.hid h6
    have HRS:=Lib.hid hRs
    have HVO:=Lib.hid hvo
    have qa:=assert_wide1
    have qf:=field_more
    clear h5 h6 hRs
    go_wp2_with (with_reducible refine yq _ ?_;(try generalize (G.w _).heap.size=bk);(try dsimp only[yi,yj]);(try clear g);intro g)
    go_roundw
    case rel=>
     refine⟨k+1,by go_num,by omega,_,Lib.hid (by simp[hocl.out]),Lib.hid (fun j hj=>?_),g,rfl⟩
     by_cases e:j=k
     ·subst e
      exact⟨B5,cap6,t1,t2,List.getElem?_set_self (by have:=hocl.out;omega),HRS.out,HR6.out⟩
     ·obtain⟨B',c',u1,u2,e1,e2,e3⟩:=hbeh.out j (by omega)
      exact⟨B',c',u1,u2,by rw[List.getElem?_set_ne (Ne.symm e)];exact e1,e2,e3⟩
    case measure=>simp[intOf];omega
   ·obtain rfl:k=n:=by omega
    go_wp2_with (with_reducible refine yq _ ?_;(try generalize (G.w _).heap.size=bk);(try dsimp only[yi,yj]);(try clear g);intro g)
    go_ret2
    refine .inr ⟨?_,?_⟩
    ·have:=rank_le k k x
     rw[←rank_wide k x y,HST.out] at this
     rw[HST.out]
     have:=HRK.out
     omega
    ·obtain⟨g1,e1'⟩:=g.none_ex
     obtain⟨g2,e2'⟩:=g1.less (M':=((ob,38,oc)::R2)++[]) ((((List.Sublist.refl _).cons _).cons _).cons_cons _)
     obtain⟨F5,g3,e3',hle5,hbl,hnw⟩:=G.layR ((ob,38,oc)::R2) g2
     have hn5:=hnw (Frag.Nw.none w)
     obtain⟨F6,g4,e4',hle,hle2,hnew⟩:=g3.merge
     refine⟨ob,k,F6,rfl,?_,?_⟩
     ·rw[HZ.out]
      refine blk_mt (hle2 _ _ (hbl _ (List.mem_cons_self ..))) (Nat.le_refl _) (by omega) (by omega) fun i hi=>?_
      obtain⟨B',c',u1,u2,e1,e2,b,l,cs,rfl,rfl,hr,hl⟩:=hbeh.out i hi
      have hm:(b,43,cs)∈R2:=HPM.out.mem_iff.2 (List.mem_flatMap.2 ⟨i,List.mem_range.2 hi,by rw[e2];simp⟩)
      exact⟨_,c',e1,row_rw hr (hle2 _ _ (hbl (b,43,cs) (List.mem_cons_of_mem _ hm))) (hl.mono hle) (by omega)⟩
     ·rw[e1',e2',e3',e4']
      exact g4.passOr (by simp) (fun k' o hk'=>(hnew k' o hk').elim (HV2.out k' o) (fun h=> .inr (hn5 k' o h)))
end Go.Proofs.YthhbbnfnejjpiaaGreatDoor
namespace Go.Proofs.YthhbbnfnejjpiaaGreatDoor
open Go.RowKit GW NL MX
/-- what behind returns: a matrix, or an error if the rank is less than n -/
def RBeh (F0:Frag)(n m2:Nat)(x:Mx)(z:Mx)(w:World)(e:Ending)(w':World):Prop:=(rankM n n x<n∧e=.returned (.tuple #[.slice none 0 0,.int .i64 15])∧Below w.heap.size w w')∨(rankM n n x=n∧∃b k H,e=.returned (.tuple #[.slice (some ⟨b,0,none⟩) n k,.int .i64 0])∧Frag.Mt H (some ⟨b,0,none⟩) k n (fun _=>m2) (rawM z)∧NewOr F0 w w' H)
set_option maxRecDepth 20000 in
set_option maxHeartbeats 4000000 in
theorem Inv_r (F0:Frag)(n:Nat)(x:Mx)(A:Option Addr)(c:Nat)(w:World)(hF:F0.sub w)(hA:F0.Mt A c n (fun _=>n) (rawM x))(hT:Tab w)(n1:1≤n)(n2:n≤24)(bx:∀i,i<n→∀j,j<n→Bd 8192 (x i j))(hfine:FineAll n (n+n) n (wideM n x oneM)):
  Calls Tryz.prog 21 #[.slice A n c] w (RBeh F0 n n x (behindM n x oneM) w):=by
 refine calls_f hF fun g=>?_
 have HA:=Lib.hid hA
 have HT:=Lib.hid hT
 have CC:=Lib.hid (fun w h t=>mCheck_any A c n (fun _=>n) (rawM x) w h t)
 rw[matE_ok n1 n2 n1 n2 bx] at CC
 have CQ:=Lib.hid (fun w h=>square_any n n (rawM x) A c w h n1)
 rw[decide_eq_true rfl] at CQ
 have CO:=Lib.hid (fun w t=>one_r n n1 (by omega) w t)
 unfold RMt at CO
 have CBH:=Lib.hid (fun(F:Frag) (w:World) (b k:Nat) hF h1 h2 t=>behind_r F n n x oneM A (some ⟨b,0,none⟩) c k w hF h1 h2 t n1 n2 n1 n2 hfine)
 clear hA hT bx hfine hF
 unfold RBeh
 go_enter Tryz.func21,Tryz.ntmps21
 go_wp2_with (with_reducible refine yq _ ?_;(try generalize (G.w _).heap.size=bk);(try dsimp only[yi,yj]);(try clear g);intro g)
 refine(CC.out _ (HA.out.mono (g.sub _ (by simp))) (G.tab g HT.out)).mono ?_
 rintro e w1 ⟨rfl,hb⟩
 obtain⟨g1,rfl⟩:=G.call_ex _ hb
 clear hb
 (try clear g)
 revert g1
 intro g
 go_wp2_with (with_reducible refine yq _ ?_;(try generalize (G.w _).heap.size=bk);(try dsimp only[yi,yj]);(try clear g);intro g)
 refine(CQ.out _ (HA.out.mono (g.sub _ (by simp)))).mono ?_
 rintro e w1 ⟨rfl,hb⟩
 obtain⟨g1,rfl⟩:=G.call_ex _ hb
 clear hb
 (try clear g)
 revert g1
 intro g
 go_wp2_with (with_reducible refine yq _ ?_;(try generalize (G.w _).heap.size=bk);(try dsimp only[yi,yj]);(try clear g);intro g)
 refine(CO.out _ (G.tab g HT.out)).mono ?_
 rintro e w1 ⟨b1,k1,F1,rfl,hm1,hn1⟩
 have ho1:=fun k o hk=>Nat.le_trans g.chg.size (hn1.new k o hk)
 obtain⟨g1,rfl⟩:=G.new_ex _ hn1
 clear hn1 g CC CQ CO
 revert g1
 intro g
 obtain⟨F2,g2,e2,hle,hle2,hnew⟩:=g.merge
 rw[e2]
 clear e2 g
 revert g2
 intro g
 dsimp only
 go_wp2_with (with_reducible refine yq _ ?_;(try generalize (G.w _).heap.size=bk);(try dsimp only[yi,yj]);(try clear g);intro g)
 refine(CBH.out F2 _ _ _ (g.sub _ (by simp)) (HA.out.mono hle) (hm1.mono hle2) (G.tab g HT.out)).mono ?_
 rintro e w1 (⟨hr,rfl,hb⟩|⟨hr,b,k,H,rfl,hmt,hno⟩)
 ·have HR:=Lib.hid hr
  clear hr
  obtain⟨g1,rfl⟩:=G.call_ex _ hb
  clear hb g
  revert g1
  intro g
  dsimp only
  go_wp2_with (with_reducible refine yq _ ?_;(try generalize (G.w _).heap.size=bk);(try dsimp only[yi,yj]);(try clear g);intro g)
  go_ret2
  exact .inl ⟨HR.out,rfl,G.below _⟩
 ·have HR:=Lib.hid hr
  have HM:=Lib.hid hmt
  have hov2:F2.over F0 w:=fun k o hk=>(hnew k o hk).elim .inl (fun h=> .inr (ho1 k o h))
  obtain⟨g1,rfl,hov⟩:=g.newor_ex (F0:=F0) (F:=H) ⟨hno.below,hno.sub,fun k o hk=>(hno.new k o hk).elim (fun h=> .inl (g.fr_of (by simp) hov2 k o h)) .inr⟩
  have HOV:=Lib.hid hov
  clear hr hmt hno hnew hov hov2 g
  revert g1
  intro g
  dsimp only
  go_wp2_with (with_reducible refine yq _ ?_;(try generalize (G.w _).heap.size=bk);(try dsimp only[yi,yj]);(try clear g);intro g)
  go_ret2
  exact .inr ⟨HR.out,b,k,H,rfl,HM.out,g.passOr (by simp) HOV.out⟩
end Go.Proofs.YthhbbnfnejjpiaaGreatDoor
namespace Go.Proofs.YthhbbnfnejjpiaaGreatDoor
open Go.RowKit GW NL MX
set_option maxRecDepth 20000 in
theorem rsquare_any (n:Nat)(m:Nat→Nat)(x:Nat→Nat→Raw)(A:Option Addr)(c:Nat)(w:World)(hA:(heapOf w).Mt A c n m x):
  Calls Tryz.prog 65 #[.slice A n c] w fun e w'=>e=.returned (.int .i64 (sqE n m x))∧Below w.heap.size w w':=by
 refine calls_b fun g=>?_
 have HA:=Lib.hid hA
 have CC:=Lib.hid (fun w h=>rCheck5_any A c n m x w h)
 unfold sqE
 by_cases h0:matE n m x=0
 ·have hp:=matE_pos h0
  rw[h0] at CC
  rw[if_pos h0]
  obtain⟨b,o,rfl,hrow⟩:=hA.rowAt (by omega)
  obtain⟨B0,k0,hh0,hrw0⟩:=hrow 0 (by omega)
  generalize m 0=m0 at*
  have E0:∀(M:List Blk) (g:G w [] M [heapOf w]),g.w.cell? ⟨b,o,none⟩=some (.slice B0 m0 k0):=fun M g=>hh0 _ _ _ _ g (InF.head _ _)
  have hn0i:(0:Int)<(n:Int):=by omega
  have hn0:0<n:=by omega
  clear hA h0 hrow hh0 hrw0 hp
  by_cases hnm:n=m0
  ·have hb:((n:Int)==(m0:Int))=true:=by simp[hnm]
   have hb2:((n:Int) !=(m0:Int))=false:=by simp[hnm]
   rw[if_pos hnm]
   clear hnm
   go_enter Tryz.func65,Tryz.ntmps65
   go_wp2_with (with_reducible refine yq _ ?_;(try generalize (G.w _).heap.size=bk);(try dsimp only[yi,yj]);(try clear g);intro g)
   refine(CC.out _ (HA.out.mono (g.sub _ (by simp)))).mono ?_
   rintro e w1 ⟨rfl,hb⟩
   obtain⟨g1,rfl⟩:=G.call_ex _ hb
   clear hb
   (try clear g)
   revert g1
   intro g
   go_wp2_with (with_reducible refine yq _ ?_;(try generalize (G.w _).heap.size=bk);(try dsimp only[yi,yj]);(try clear g);intro g)
   go_ret
   exact⟨rfl,G.below _⟩
  ·have hb:((n:Int)==(m0:Int))=false:=by simp;omega
   have hb2:((n:Int) !=(m0:Int))=true:=by simp;omega
   rw[if_neg hnm]
   clear hnm
   go_enter Tryz.func65,Tryz.ntmps65
   go_wp2_with (with_reducible refine yq _ ?_;(try generalize (G.w _).heap.size=bk);(try dsimp only[yi,yj]);(try clear g);intro g)
   refine(CC.out _ (HA.out.mono (g.sub _ (by simp)))).mono ?_
   rintro e w1 ⟨rfl,hb⟩
   obtain⟨g1,rfl⟩:=G.call_ex _ hb
   clear hb
   (try clear g)
   revert g1
   intro g
   go_wp2_with (with_reducible refine yq _ ?_;(try generalize (G.w _).heap.size=bk);(try dsimp only[yi,yj]);(try clear g);intro g)
   go_ret
   exact⟨rfl,G.below _⟩
 ·rw[if_neg h0]
  generalize matE n m x=E at*
  have heb:(E==0)=false:=by simpa using h0
  clear hA h0
  go_enter Tryz.func65,Tryz.ntmps65
  go_wp2_with (with_reducible refine yq _ ?_;(try generalize (G.w _).heap.size=bk);(try dsimp only[yi,yj]);(try clear g);intro g)
  refine(CC.out _ (HA.out.mono (g.sub _ (by simp)))).mono ?_
  rintro e w1 ⟨rfl,hb⟩
  obtain⟨g1,rfl⟩:=G.call_ex _ hb
  clear hb
  (try clear g)
  revert g1
  intro g
  go_wp2_with (with_reducible refine yq _ ?_;(try generalize (G.w _).heap.size=bk);(try dsimp only[yi,yj]);(try clear g);intro g)
  go_ret
  exact⟨rfl,G.below _⟩
set_option maxRecDepth 20000 in
theorem rRank_e (n:Nat)(m:Nat→Nat)(x:Nat→Nat→Raw)(A:Option Addr)(c:Nat)(E:Int)(w:World)(hA:(heapOf w).Mt A c n m x)(hE:matE n m x=E)(h0:E≠0):
  Calls Tryz.prog 26 #[.slice A n c] w (RErrI E w):=by
 refine calls_b fun g=>?_
 unfold RErrI
 have HA:=Lib.hid hA
 have CC:=Lib.hid (fun w h=>rCheck5_any A c n m x w h)
 rw[hE] at CC
 have heb:(E==0)=false:=by simpa using h0
 have hen:(E !=0)=true:=by simpa using h0
 clear hA hE
 go_enter Tryz.func26,Tryz.ntmps26
 go_wp2_with (with_reducible refine yq _ ?_;(try generalize (G.w _).heap.size=bk);(try dsimp only[yi,yj]);(try clear g);intro g)
 refine(CC.out _ (HA.out.mono (g.sub _ (by simp)))).mono ?_
 rintro e w1 ⟨rfl,hb⟩
 obtain⟨g1,rfl⟩:=G.call_ex _ hb
 clear hb
 (try clear g)
 revert g1
 intro g
 go_wp2_with (with_reducible refine yq _ ?_;(try generalize (G.w _).heap.size=bk);(try dsimp only[yi,yj]);(try clear g);intro g)
 go_ret2
 exact⟨rfl,G.below _⟩
set_option maxRecDepth 20000 in
theorem rRank_r (F0:Frag)(n m:Nat)(x:Mx)(A:Option Addr)(c:Nat)(w:World)(hF:F0.sub w)(hA:F0.Mt A c n (fun _=>m) (rawM x))(n1:1≤n)(n2:n≤24)(m1:1≤m)(m2:m≤24)(bx:∀i,i<n→∀j,j<m→Bd 8192 (x i j))(hfine:FineAll n m m x):
  Calls Tryz.prog 26 #[.slice A n c] w fun e w'=>e=.returned (.tuple #[.int .i64 (rankM n m x:Int),.int .i64 0])∧Below w.heap.size w w':=by
 refine calls_f hF fun g=>?_
 have HA:=Lib.hid hA
 have CC:=Lib.hid (fun w h=>rCheck5_any A c n (fun _=>m) (rawM x) w h)
 rw[matE_ok n1 n2 m1 m2 bx] at CC
 have CR:=Lib.hid (fun w hF=>reduced_r F0 n m m x A c w hF hA n1 n2 m1 m2 (Nat.le_refl _) hfine)
 unfold RRed at CR
 obtain⟨b,o,rfl,hrow⟩:=hA.rowAt n1
 obtain⟨B0,k0,hh0,hrw0⟩:=hrow 0 (by omega)
 have E0:∀(M:List Blk) (I:List Frag) (g:G w [] M I) (hF:InF F0 I),g.w.cell? ⟨b,o,none⟩=some (.slice B0 m k0):=fun M I g hF=>hh0 _ _ _ _ g hF
 have t1:0<n:=by omega
 have t2:(0:Int)<(n:Int):=by omega
 generalize rankM n m x=rk at*
 clear hA hrow hh0 hrw0 bx hfine hF
 go_enter Tryz.func26,Tryz.ntmps26
 go_wp2_with (with_reducible refine yq _ ?_;(try generalize (G.w _).heap.size=bk);(try dsimp only[yi,yj]);(try clear g);intro g)
 refine(CC.out _ (HA.out.mono (g.sub _ (by simp)))).mono ?_
 rintro e w1 ⟨rfl,hb⟩
 obtain⟨g1,rfl⟩:=G.call_ex _ hb
 clear hb
 (try clear g)
 revert g1
 intro g
 go_wp2_with (with_reducible refine yq _ ?_;(try generalize (G.w _).heap.size=bk);(try dsimp only[yi,yj]);(try clear g);intro g)
 refine(CR.out _ (g.sub _ (by simp))).mono ?_
 rintro e w1 ⟨bm,cm,p,q,r,H,rfl,hm,hr,hno⟩
 obtain⟨sr,Ar,nr,cr,Br,dr,kr,rfl,rfl,rfl⟩:=hr.shape
 obtain⟨g1,rfl,hoh⟩:=G.nor_ex g (F:=F0) (by simp) hno
 clear hm hr hno hoh g
 revert g1
 intro g
 go_wp2_with (with_reducible refine yq _ ?_;(try generalize (G.w _).heap.size=bk);(try dsimp only[yi,yj]);(try clear g);intro g)
 go_ret2
 exact⟨rfl,G.below _⟩
set_option maxRecDepth 20000 in
theorem rDet_e (n:Nat)(m:Nat→Nat)(x:Nat→Nat→Raw)(A:Option Addr)(c:Nat)(E:Int)(w:World)(hA:(heapOf w).Mt A c n m x)(hE:sqE n m x=E)(h0:E≠0):
  Calls Tryz.prog 20 #[.slice A n c] w (RErrR E w):=by
 refine calls_b fun g=>?_
 unfold RErrR
 have HA:=Lib.hid hA
 have CC:=Lib.hid (fun w h=>rsquare_any n m x A c w h)
 rw[hE] at CC
 have heb:(E==0)=false:=by simpa using h0
 have hen:(E !=0)=true:=by simpa using h0
 clear hA hE
 go_enter Tryz.func20,Tryz.ntmps20
 go_wp2_with (with_reducible refine yq _ ?_;(try generalize (G.w _).heap.size=bk);(try dsimp only[yi,yj]);(try clear g);intro g)
 (try(refine cmark _ ?_;(try dsimp only[yi,yj]);(try clear g);intro g))
 refine(CC.out _ (HA.out.mono (g.sub _ (by simp)))).mono ?_
 rintro e w1 ⟨rfl,hb⟩
 obtain⟨g1,rfl⟩:=G.call_ex _ hb
 clear hb
 (try clear g)
 revert g1
 intro g
 go_wp2_with (with_reducible refine yq _ ?_;(try generalize (G.w _).heap.size=bk);(try dsimp only[yi,yj]);(try clear g);intro g)
 refine bodyPost_ret (v:=.tuple #[.agg #[.bool false,.slice none 0 0,.slice none 0 0],.int .i64 E]) (by simp[results,Tryz.results20,go_sem]) rfl ?_
 exact⟨rfl,G.below _⟩
set_option maxRecDepth 20000 in
theorem rDet_r (F0:Frag)(n:Nat)(x:Mx)(A:Option Addr)(c:Nat)(w:World)(hF:F0.sub w)(hA:F0.Mt A c n (fun _=>n) (rawM x))(n1:1≤n)(n2:n≤24)(bx:∀i,i<n→∀j,j<n→Bd 8192 (x i j))(hfine:FineAll n n n x)(hb:Bd 8192 (runE n (startE x) n).det):
  Calls Tryz.prog 20 #[.slice A n c] w fun e w'=>∃p q r H,e=.returned (.tuple #[.agg #[p,q,r],.int .i64 0])∧H.Rt p q r (rawOf (detV n x))∧NewOr F0 w w' H:=by
 refine calls_f hF fun g=>?_
 have HA:=Lib.hid hA
 have CC:=Lib.hid (fun w h=>rsquare_any n (fun _=>n) (rawM x) A c w h)
 unfold sqE at CC
 rw[matE_ok n1 n2 n1 n2 bx,if_pos rfl,if_pos rfl] at CC
 have CR:=Lib.hid (fun w hF=>reduced_r F0 n n n x A c w hF hA n1 n2 n1 n2 (Nat.le_refl _) hfine)
 unfold RRed rankM at CR
 have CZ:=Lib.hid (fun w=>rzero_r w)
 unfold RT1 at CZ
 have CF:=Lib.hid (fun p q r w h=>rqFits_r _ hb p q r w h)
 obtain⟨dv,hdv⟩:∃dv,detV n x=dv:=⟨_,rfl⟩
 rw[hdv]
 have t1:0<n:=by omega
 have t2:(0:Int)<(n:Int):=by omega
 clear hA bx hfine hF hb
 go_enter Tryz.func20,Tryz.ntmps20
 go_wp2_with (with_reducible refine yq _ ?_;(try generalize (G.w _).heap.size=bk);(try dsimp only[yi,yj]);(try clear g);intro g)
 (try(refine cmark _ ?_;(try dsimp only[yi,yj]);(try clear g);intro g))
 refine(CC.out _ (HA.out.mono (g.sub _ (by simp)))).mono ?_
 rintro e w1 ⟨rfl,hb⟩
 obtain⟨g1,rfl⟩:=G.call_ex _ hb
 clear hb
 (try clear g)
 revert g1
 intro g
 go_wp2_with (with_reducible refine yq _ ?_;(try generalize (G.w _).heap.size=bk);(try dsimp only[yi,yj]);(try clear g);intro g)
 (try(refine cmark _ ?_;(try dsimp only[yi,yj]);(try clear g);intro g))
 refine(CR.out _ (g.sub _ (by simp))).mono ?_
 rintro e w1 ⟨bm,cm,p,q,r,H,rfl,hm,hr,hno⟩
 obtain⟨sr,Ar,nr,cr,Br,dr,kr,rfl,rfl,rfl⟩:=hr.shape
 obtain⟨g1,rfl,hoh⟩:=G.nor_ex g (F:=F0) (by simp) hno
 have HRR:=Lib.hid hr
 have HOH:=Lib.hid hoh
 clear hm hr hno hoh g CR CC
 revert g1
 intro g
 by_cases hk:(runE n (startE x) n).rk<n
 ·have hri:((runE n (startE x) n).rk:Int)<(n:Int):=by omega
  obtain rfl:dv=0:=by rw[←hdv];unfold detV;rw[if_pos hk]
  clear hdv
  dsimp only
  generalize (runE n (startE x) n).rk=rk at*
  go_wp2_with (with_reducible refine yq _ ?_;(try generalize (G.w _).heap.size=bk);(try dsimp only[yi,yj]);(try clear g);intro g)
  (try(refine cmark _ ?_;(try dsimp only[yi,yj]);(try clear g);intro g))
  refine(CZ.out _).mono ?_
  rintro e w1 ⟨pz,qz,rz,Fz,rfl,hz,hn⟩
  have hnnz:=fun k o hk=>Nat.le_trans g.chg.size (hn.new k o hk)
  obtain⟨sz,Az,nz,cz,Bz,dz,kz,rfl,rfl,rfl⟩:=hz.shape
  obtain⟨g1,rfl⟩:=G.new_ex _ hn
  clear hn
  (try clear g)
  revert g1
  intro g
  go_wp2_with (with_reducible refine yq _ ?_;(try generalize (G.w _).heap.size=bk);(try dsimp only[yi,yj]);(try clear g);intro g)
  refine bodyPost_ret (v:=.tuple #[.agg #[.bool sz,.slice Az nz cz,.slice Bz dz kz],.int .i64 0]) (by simp[results,Tryz.results20,go_sem]) rfl ?_
  exact⟨_,_,_,Fz,rfl,hz,G.below _,G.sub _ _ (by simp),fun k o hk=> .inr (hnnz k o hk)⟩
 ·have hri:¬ (((runE n (startE x) n).rk:Int)<(n:Int)):=by omega
  obtain rfl:dv=(runE n (startE x) n).det:=by rw[←hdv];unfold detV;rw[if_neg hk]
  clear hdv
  dsimp only
  generalize (runE n (startE x) n).rk=rk at*
  go_wp2_with (with_reducible refine yq _ ?_;(try generalize (G.w _).heap.size=bk);(try dsimp only[yi,yj]);(try clear g);intro g)
  (try(refine cmark _ ?_;(try dsimp only[yi,yj]);(try clear g);intro g))
  refine(CF.out _ _ _ _ (G.rtI g (f:=H) (by simp) HRR.out)).mono ?_
  rintro e w1 ⟨rfl,hb⟩
  obtain⟨g1,rfl⟩:=G.call_ex _ hb
  clear hb
  (try clear g)
  revert g1
  intro g
  go_wp2_with (with_reducible refine yq _ ?_;(try generalize (G.w _).heap.size=bk);(try dsimp only[yi,yj]);(try clear g);intro g)
  refine bodyPost_ret (v:=.tuple #[.agg #[.bool sr,.slice Ar nr cr,.slice Br dr kr],.int .i64 0]) (by simp[results,Tryz.results20,go_sem]) rfl ?_
  exact⟨_,_,_,H,rfl,HRR.out,G.below _,G.sub _ _ (by simp),HOH.out⟩
set_option maxRecDepth 20000 in
theorem rInv_e (n:Nat)(m:Nat→Nat)(x:Nat→Nat→Raw)(A:Option Addr)(c:Nat)(E:Int)(w:World)(hA:(heapOf w).Mt A c n m x)(hE:sqE n m x=E)(h0:E≠0):
  Calls Tryz.prog 22 #[.slice A n c] w (RErr E w):=by
 refine calls_b fun g=>?_
 unfold RErr
 have HA:=Lib.hid hA
 have CC:=Lib.hid (fun w h=>rsquare_any n m x A c w h)
 rw[hE] at CC
 have heb:(E==0)=false:=by simpa using h0
 have hen:(E !=0)=true:=by simpa using h0
 clear hA hE
 go_enter Tryz.func22,Tryz.ntmps22
 go_wp2_with (with_reducible refine yq _ ?_;(try generalize (G.w _).heap.size=bk);(try dsimp only[yi,yj]);(try clear g);intro g)
 refine(CC.out _ (HA.out.mono (g.sub _ (by simp)))).mono ?_
 rintro e w1 ⟨rfl,hb⟩
 obtain⟨g1,rfl⟩:=G.call_ex _ hb
 clear hb
 (try clear g)
 revert g1
 intro g
 go_wp2_with (with_reducible refine yq _ ?_;(try generalize (G.w _).heap.size=bk);(try dsimp only[yi,yj]);(try clear g);intro g)
 go_ret2
 exact⟨rfl,G.below _⟩
set_option maxRecDepth 20000 in
theorem rInv_r (F0:Frag)(n:Nat)(x:Mx)(A:Option Addr)(c:Nat)(w:World)(hF:F0.sub w)(hA:F0.Mt A c n (fun _=>n) (rawM x))(n1:1≤n)(n2:n≤12)(bx:∀i,i<n→∀j,j<n→Bd 8192 (x i j))(hfine:FineAll n (n+n) n (wideM n x oneM))(hb:∀i,i<n→∀j,j<n→Bd 8192 (behindM n x oneM i j)):
  Calls Tryz.prog 22 #[.slice A n c] w (RBeh F0 n n x (behindM n x oneM) w):=by
 refine calls_f hF fun g=>?_
 have HA:=Lib.hid hA
 have CC:=Lib.hid (fun w h=>rsquare_any n (fun _=>n) (rawM x) A c w h)
 unfold sqE at CC
 rw[matE_ok n1 (by omega) n1 (by omega) bx,if_pos rfl,if_pos rfl] at CC
 have CI:=Lib.hid (fun w hF=>rInverse_r F0 n x A c w hF hA n1 n2 hfine)
 unfold RInv at CI
 have CF:=Lib.hid (fun A c w h=>rfits_r n (fun _=>n) (behindM n x oneM) A c w h (by omega) (fun _ _=>by omega) hb)
 have t1:0<n:=by omega
 have t2:(0:Int)<(n:Int):=by omega
 clear hA bx hfine hF hb
 go_enter Tryz.func22,Tryz.ntmps22
 go_wp2_with (with_reducible refine yq _ ?_;(try generalize (G.w _).heap.size=bk);(try dsimp only[yi,yj]);(try clear g);intro g)
 refine(CC.out _ (HA.out.mono (g.sub _ (by simp)))).mono ?_
 rintro e w1 ⟨rfl,hb⟩
 obtain⟨g1,rfl⟩:=G.call_ex _ hb
 clear hb
 (try clear g)
 revert g1
 intro g
 go_wp2_with (with_reducible refine yq _ ?_;(try generalize (G.w _).heap.size=bk);(try dsimp only[yi,yj]);(try clear g);intro g)
 refine(CI.out _ (g.sub _ (by simp))).mono ?_
 rintro e w1 (⟨hk,rfl,hb⟩|⟨hk,bm,cm,H,rfl,hm,hno⟩)
 ·have HK:=Lib.hid hk
  obtain⟨g1,rfl⟩:=G.call_ex _ hb
  clear hb g hk
  revert g1
  intro g
  go_wp2_with (with_reducible refine yq _ ?_;(try generalize (G.w _).heap.size=bk);(try dsimp only[yi,yj]);(try clear g);intro g)
  go_ret2
  unfold RBeh
  exact .inl ⟨HK.out,rfl,G.below _⟩
 ·have HK:=Lib.hid hk
  obtain⟨g1,rfl,hoh⟩:=G.nor_ex g (F:=F0) (by simp) hno
  have HM:=Lib.hid hm
  have HOH:=Lib.hid hoh
  clear hm hno hoh g hk
  revert g1
  intro g
  go_wp2_with (with_reducible refine yq _ ?_;(try generalize (G.w _).heap.size=bk);(try dsimp only[yi,yj]);(try clear g);intro g)
  refine(CF.out _ _ _ (HM.out.mono (g.sub _ (by simp)))).mono ?_
  rintro e w1 ⟨rfl,hb⟩
  obtain⟨g1,rfl⟩:=G.call_ex _ hb
  clear hb
  (try clear g)
  revert g1
  intro g
  go_wp2_with (with_reducible refine yq _ ?_;(try generalize (G.w _).heap.size=bk);(try dsimp only[yi,yj]);(try clear g);intro g)
  go_ret2
  unfold RBeh
  exact .inr ⟨HK.out,bm,cm,H,rfl,HM.out,G.below _,G.sub _ _ (by simp),HOH.out⟩
end Go.Proofs.YthhbbnfnejjpiaaGreatDoor
namespace Go.Proofs.YthhbbnfnejjpiaaGreatDoor
open Go.RowKit GW NL MX
theorem infoRats2:(Tryz.prog.info? 38).map (fun i=>(i.zero,i.size,i.bytes))=some (some (.slice none 0 0),1,24):=by kernel_rfl
theorem listE_val {n:Nat}{v:Nat→Rat}(h:∀j,j<n→Bd 8192 (v j))(n1:1≤n)(n2:n≤24):listE (rawR v) n=0:=listE_ok fun j hj=>numE_ok (h j hj)
def rawZ:Raw:=(false,[],[])
theorem zero_tris (H:Frag)(n:Nat):H.Tris (List.replicate n zeroT) n (fun _=>rawZ):=⟨by simp,fun j hj=>⟨_,_,_,by rw[List.getElem?_replicate,if_pos hj];rfl,rfl,⟨none,0,rfl,Frag.Sl.nil _ _⟩,none,0,rfl,Frag.Sl.nil _ _⟩⟩
/-- a matrix of one column -/
def colM (v:Nat→Rat):Mx:=fun i _=>v i
set_option maxRecDepth 20000 in
set_option maxHeartbeats 8000000 in
theorem Solve_r (F0:Frag)(n:Nat)(x:Mx)(v:Nat→Rat)(A B:Option Addr)(c cB:Nat)(w:World)(hF:F0.sub w)(hA:F0.Mt A c n (fun _=>n) (rawM x))(hB:F0.Rw B cB n (rawR v))(hT:Tab w)(n1:1≤n)(n2:n≤24)(bx:∀i,i<n→∀j,j<n→Bd 8192 (x i j))(bv:∀i,i<n→Bd 8192 (v i))(hfine:FineAll n (n+1) n (wideM n x (colM v))):
  Calls Tryz.prog 23 #[.slice A n c,.slice B n cB] w fun e w'=>(rankM n n x<n∧e=.returned (.tuple #[.slice none 0 0,.int .i64 15])∧Below w.heap.size w w')∨(rankM n n x=n∧∃b k H,e=.returned (.tuple #[.slice (some ⟨b,0,none⟩) n k,.int .i64 0])∧Frag.Rw H (some ⟨b,0,none⟩) k n (rawR (fun i=>behindM n x (colM v) i 0))∧NewOr F0 w w' H):=by
 refine calls_f hF fun g=>?_
 have HA:=Lib.hid hA
 have HB:=Lib.hid hB
 have HT:=Lib.hid hT
 have CC:=Lib.hid (fun w h t=>mCheck_any A c n (fun _=>n) (rawM x) w h t)
 rw[matE_ok n1 n2 n1 n2 bx] at CC
 have CL:=Lib.hid (fun w h t=>list_any B cB n (rawR v) w h t)
 rw[listE_val bv n1 n2] at CL
 have CQ:=Lib.hid (fun w h=>square_any n n (rawM x) A c w h n1)
 rw[decide_eq_true rfl] at CQ
 have CBH:=Lib.hid (fun(F:Frag) (w:World) (b k:Nat) hF h1 h2 t=>behind_r F n 1 x (colM v) A (some ⟨b,0,none⟩) c k w hF h1 h2 t n1 n2 (by omega) (by omega) hfine)
 obtain⟨bb,o,rfl,hnum⟩:=hB.num n1
 have HN:=Lib.hid hnum
 obtain⟨j0,hi,hz0,hz1,hz2⟩:=info_parts infoRats2
 clear hA hB hT bx bv hfine hF hnum
 go_enter Tryz.func23,Tryz.ntmps23
 go_wp2_with (with_reducible refine yq _ ?_;(try generalize (G.w _).heap.size=bk);(try dsimp only[yi,yj]);(try clear g);intro g)
 refine(CC.out _ (HA.out.mono (g.sub _ (by simp))) (G.tab g HT.out)).mono ?_
 rintro e w1 ⟨rfl,hb⟩
 obtain⟨g1,rfl⟩:=G.call_ex _ hb
 clear hb
 (try clear g)
 revert g1
 intro g
 go_wp2_with (with_reducible refine yq _ ?_;(try generalize (G.w _).heap.size=bk);(try dsimp only[yi,yj]);(try clear g);intro g)
 refine(CL.out _ (HB.out.mono (g.sub _ (by simp))) (G.tab g HT.out)).mono ?_
 rintro e w1 ⟨rfl,hb⟩
 obtain⟨g1,rfl⟩:=G.call_ex _ hb
 clear hb
 (try clear g)
 revert g1
 intro g
 go_wp2_with (with_reducible refine yq _ ?_;(try generalize (G.w _).heap.size=bk);(try dsimp only[yi,yj]);(try clear g);intro g)
 refine(CQ.out _ (HA.out.mono (g.sub _ (by simp)))).mono ?_
 rintro e w1 ⟨rfl,hb⟩
 obtain⟨g1,rfl⟩:=G.call_ex _ hb
 clear hb
 (try clear g)
 revert g1
 intro g
 go_wp2_with (with_reducible refine yq _ ?_;(try generalize (G.w _).heap.size=bk);(try dsimp only[yi,yj]);(try clear g);intro g)
 clear CC CL CQ
 go_loopw [8,38] (fun col i wr=>∃k:Nat,i=.int .i64 (k:Int)∧k≤n∧∃(Ac:Option Addr) (cc:Nat) (xs:List Value) (sc R:List Blk),col=.slice Ac k cc∧RowV w.heap.size 38 1 k xs Ac cc sc∧OwnOn (List.range k) (fun i=>NumRow w.heap.size 43 F0 1 (rawM (colM v) i)) R xs∧∃g:G w [] (sc++R) [F0],wr=g.w) (fun _ i _=>n-(intOf i).toNat)
 case atStart=>exact⟨0,rfl,by omega,none,0,[],[],[],rfl,RowV.nil _ _ _,OwnOn.nil _ _,g,rfl⟩
 case round=>
  clear g
  obtain⟨k,rfl,hk,Ac,cc,xs,sc,R,rfl,hvr,hown,g,rfl⟩:=hrel
  by_cases hkn:k<n
  ·have hki:(k:Int)<(n:Int):=by omega
   obtain⟨p,q,r,h3,hrt⟩:=HN.out k hkn
   obtain⟨s1,P1,m1,d1,Q1,m2,d2,rfl,rfl,rfl⟩:=hrt.shape
   have E0:∀(M:List Blk) (g:G w [] M [F0]),g.w.cell? ⟨bb,o+k*3,none⟩=some (.bool s1):=fun M g=>(h3 _ _ _ _ g (InF.head _ _)).1
   have E1:∀(M:List Blk) (g:G w [] M [F0]),g.w.cell? ⟨bb,o+k*3+1,none⟩=some (.slice P1 m1 d1):=fun M g=>(h3 _ _ _ _ g (InF.head _ _)).2.1
   have E2:∀(M:List Blk) (g:G w [] M [F0]),g.w.cell? ⟨bb,o+k*3+2,none⟩=some (.slice Q1 m2 d2):=fun M g=>(h3 _ _ _ _ g (InF.head _ _)).2.2
   have HRT:=Lib.hid hrt
   have HO:=Lib.hid hown
   have hw1:k+1≤maxLen:=by show k+1≤9223372036854775807;omega
   have hw2:(k+1)*24≤140737488355328:=by omega
   clear h3 hrt hown
   go_wp2_with (first|(with_reducible refine yq _ ?_;(try generalize (G.w _).heap.size=bk);(try dsimp only[yi,yj]);(try clear g);intro g)|(at_builtin;refine wpList_append_v rfl _ _ 29 rfl 38 j0 _ 1 24 Tryz.underlying29 hi hz0 hz1 hz2 rfl (by decide) 3 g (Rr:=sc) (R':=R) (by rfl) hvr (by rfl) (by exact List.mem_cons_self ..) 1 (by rfl) rfl (one_cell _ rfl) (by decide) hw1 hw2 ?_;clear hvr;(try clear g);intro b2 cap2 cs2 g hb2 hrow2;revert g;dsimp only[List.take,List.cons_append,List.nil_append];intro g))
   obtain⟨g5,e5⟩:=g.less (((List.Sublist.refl _).cons_cons _).cons _|>.cons_cons _|>.cons _)
   obtain⟨g6,e6⟩:=g5.perm (List.Perm.swap _ _ _)
   rw[e5,e6]
   have hxl:xs.length=k:=by
    have:=hrow2.xl
    simp at this
    omega
   go_roundw
   case rel=>
    refine⟨k+1,by go_num,by omega,_,cap2,_,[(b2,_,cs2)],_,rfl,RowV.row hrow2 hb2,HO.out.more (by rw[←hxl];simp) ⟨_,1,[(.bool s1,.slice P1 m1 d1,.slice Q1 m2 d2)],rfl,RowV.row ⟨Nat.le_refl _,by decide,rfl,rfl,rfl⟩ (g5.fresh (List.mem_cons_self ..)),rfl,fun j hj=>?_⟩ (fun j hj=>List.getElem?_append_left (by omega)) (fun j hj v s h=>h),g6,rfl⟩
    obtain rfl:j=0:=by omega
    exact⟨_,_,_,rfl,HRT.out⟩
   case measure=>simp[intOf];omega
  ·obtain rfl:k=n:=by omega
   rcases hvr with⟨_,_,h0,_⟩|⟨cb,cs,rfl,rfl,hcb,hrow⟩
   ·omega
   have hxl:xs.length=k:=by
    have:=hrow.xl
    omega
   have hown':=hown.next (oc':=cs) (Q':=fun i=>NumRow w.heap.size 43 F0 1 (rawM (colM v) i)) (fun j hj=>by
    have hj':=List.mem_range.1 hj
    have e:xs[j]?=some xs[j]:=List.getElem?_eq_getElem (by omega)
    rw[e]
    exact hrow.get1 e) (fun j hj v s h=>h)
   obtain⟨g1,e1⟩:=g.none_ex
   obtain⟨g2,e2⟩:=g1.as (M':=((cb,38,cs)::R)++[]) (by simp)
   obtain⟨F5,g3,e3,_,hbl,hnw⟩:=G.layR ((cb,38,cs)::R) g2
   have hn5:=hnw (Frag.Nw.none w)
   obtain⟨F6,g4,e4,hle,hle2,hnew⟩:=g3.merge
   have hov6:F6.over F0 w:=fun k' o hk'=>(hnew k' o hk').elim .inl (fun h=> .inr (hn5 k' o h))
   have hmt:=hown'.mt (F':=F6) (ob:=cb) (cap:=cc) (Ts:=38) hle (fun m hm=>hle2 _ _ (hbl m (List.mem_cons_of_mem _ hm))) (hle2 _ _ (hbl (cb,38,cs) (List.mem_cons_self ..))) hrow.le hrow.max (by omega) (fun _ _=>by omega)
   rw[e1,e2,e3,e4]
   have HMT:=Lib.hid hmt
   have HA6:=Lib.hid (HA.out.mono hle)
   have HO6:=Lib.hid hov6
   clear e1 e2 e3 e4 hmt hov6 hnew hbl hnw hn5 hle hle2 g1 g2 g3 g hown hown' hrow hcb HA
   revert g4
   intro g
   go_wp2_with (with_reducible refine yq _ ?_;(try generalize (G.w _).heap.size=bk);(try dsimp only[yi,yj]);(try clear g);intro g)
   refine(CBH.out F6 _ _ _ (g.sub _ (by simp)) HA6.out HMT.out (G.tab g HT.out)).mono ?_
   rintro e w1 (⟨hr,rfl,hb⟩|⟨hr,b,k2,H,rfl,hmt,hno⟩)
   ·have HR:=Lib.hid hr
    clear hr
    obtain⟨g1,rfl⟩:=G.call_ex _ hb
    clear hb g
    revert g1
    intro g
    dsimp only
    go_wp2_with (with_reducible refine yq _ ?_;(try generalize (G.w _).heap.size=bk);(try dsimp only[yi,yj]);(try clear g);intro g)
    go_ret2
    exact .inl ⟨HR.out,rfl,G.below _⟩
   ·have HR:=Lib.hid hr
    have HM:=Lib.hid hmt
    obtain⟨g1,rfl,hov⟩:=g.newor_ex (F0:=F0) (F:=H) ⟨hno.below,hno.sub,fun k o hk=>(hno.new k o hk).elim (fun h=> .inl (g.fr_of (by simp) HO6.out k o h)) .inr⟩
    have HOV:=Lib.hid hov
    clear hr hmt hno hov g
    revert g1
    intro g
    dsimp only
    have hmk:=make_rats k (by omega)
    have hni:(0:Int)≤(k:Int):=by omega
    obtain⟨z,hz⟩:∃z,behindM k x (colM v)=z:=⟨_,rfl⟩
    have HZ:=Lib.hid hz
    have HMZ:Hid (H.Mt (some ⟨b,0,none⟩) k2 k (fun _=>1) (rawM z)):=Lib.hid (by rw[←hz];exact HM.out)
    obtain⟨b',o',eb',hrow⟩:=HMZ.out.rowAt n1
    cases eb'
    have HROW:=Lib.hid hrow
    clear hz hrow HM
    go_wp2_with (with_reducible refine yq _ ?_;(try generalize (G.w _).heap.size=bk);(try dsimp only[yi,yj]);(try clear g);intro g)
    obtain⟨ob,rfl⟩:∃ob,ob=bk:=⟨_,rfl⟩
    have HR0:Row 43 3 k (cells3 (List.replicate k zeroT)) k (cells3 (List.replicate k zeroT)):=⟨Nat.le_refl _,by show k≤9223372036854775807;omega,by rw[cells3_len];simp,by rw[List.take_of_length_le (by rw[cells3_len];simp)],by rw[cells3_len];simp⟩
    go_loopw [62] (fun i wr=>∃j:Nat,i=.int .i64 (j:Int)∧j≤k∧∃(l:List Tri) (cs:List Value),Row 43 3 k (cells3 l) k cs∧Hid (H.Tris l k (fun i=>if i<j then rawOf (z i 0) else rawZ))∧∃g:G w [] [(ob,43,cs)] [H,F6],wr=g.w) (fun i _=>k-(intOf i).toNat)
    case atStart=>exact⟨0,rfl,by omega,_,_,HR0,Lib.hid (by simpa using zero_tris H k),g,rfl⟩
    case round=>
     clear g HR0
     obtain⟨j,rfl,hj,l,cs,hr,HL,g,rfl⟩:=hrel
     by_cases hjk:j<k
     ·have hji:(j:Int)<(k:Int):=by omega
      obtain⟨Bj,kj,hc1,hrw⟩:=HROW.out j hjk
      obtain⟨b3,o3,rfl,hnum⟩:=hrw.num (by decide)
      obtain⟨p,q,r,h3,hrt⟩:=hnum 0 (by decide)
      obtain⟨s3,P3,m3,d3,Q3,m4,d4,rfl,rfl,rfl⟩:=hrt.shape
      have EJ:∀(M:List Blk) (g:G w [] M [H,F6]),g.w.cell? ⟨b,j,none⟩=some (.slice (some ⟨b3,o3,none⟩) 1 kj):=fun M g=>by
       have:=hc1 _ _ _ _ g (InF.head _ _)
       rwa[Nat.zero_add] at this
      have E0:∀(M:List Blk) (g:G w [] M [H,F6]),g.w.cell? ⟨b3,o3,none⟩=some (.bool s3):=fun M g=>(h3 _ _ _ _ g (InF.head _ _)).1
      have E1:∀(M:List Blk) (g:G w [] M [H,F6]),g.w.cell? ⟨b3,o3+1,none⟩=some (.slice P3 m3 d3):=fun M g=>by
       have:=(h3 _ _ _ _ g (InF.head _ _)).2.1
       simpa using this
      have E2:∀(M:List Blk) (g:G w [] M [H,F6]),g.w.cell? ⟨b3,o3+2,none⟩=some (.slice Q3 m4 d4):=fun M g=>by
       have:=(h3 _ _ _ _ g (InF.head _ _)).2.2
       simpa using this
      obtain⟨p4,q4,r4,hlk,hrt4⟩:=HL.out.2 j hjk
      simp only[Nat.lt_irrefl,if_false] at hrt4
      obtain⟨s5,A5,n5,c5,B5,d5,k5,rfl,rfl,rfl⟩:=hrt4.shape
      obtain⟨e0,e1,e2⟩:=hr.tri hlk
      have HRT:=Lib.hid hrt
      have HRW:=Lib.hid hr
      clear hc1 hrw hnum h3 hrt hlk hrt4 hr
      go_wp2_with (with_reducible refine yq _ ?_;(try generalize (G.w _).heap.size=bk);(try dsimp only[yi,yj]);(try clear g);intro g)
      go_roundw
      case rel=>
       refine⟨j+1,by go_num,by omega,_,_,HRW.out.setTri hjk HL.out.1 _ _ _,Lib.hid (HL.out.set (y:=fun i=>if i<j+1 then rawOf (z i 0) else rawZ) hjk ?_ (fun i hi hne=>?_)),g,rfl⟩
       ·rw[if_pos (Nat.lt_succ_self j)]
        exact HRT.out
       ·have e:(i<j+1)↔(i<j):=by omega
        simp only[e]
      case measure=>simp[intOf];omega
     ·obtain rfl:j=k:=by omega
      have HRW:=Lib.hid hr
      clear hr
      go_wp2_with (with_reducible refine yq _ ?_;(try generalize (G.w _).heap.size=bk);(try dsimp only[yi,yj]);(try clear g);intro g)
      go_ret2
      obtain⟨g1,e1⟩:=g.fix
      obtain⟨F7,g2,e2,hle,hle2,hnew⟩:=g1.merge
      refine .inr ⟨HR.out,ob,j,F7,rfl,?_,?_⟩
      ·rw[HZ.out]
       exact row_rw HRW.out (hle2 _ _ (by unfold blkF;rw[if_pos rfl])) ((HL.out.mono hle).congr (fun i hi=>if_pos hi)) (by omega)
      ·rw[e1,e2]
       refine g2.passOr (by simp) (fun k' o hk'=>(hnew k' o hk').elim (HOV.out k' o) (fun h=> .inr ?_))
       rw[blkF_at h]
       exact g.fresh (List.mem_cons_self ..)
end Go.Proofs.YthhbbnfnejjpiaaGreatDoor
namespace Go.Proofs.YthhbbnfnejjpiaaGreatDoor
open Go.RowKit GW NL MX
theorem behind_sum {n:Nat}{x:Mx}{v:Nat→Rat}(hr:rankM n n x=n){i:Nat}(hi:i<n):sumN n (fun k=>behindM n x oneM i k*v k)=behindM n x (colM v) i 0:=by
 have h1:mulM n (mulM n (behindM n x oneM) x) (behindM n x (colM v)) i 0=mulM n oneM (behindM n x (colM v)) i 0:=mulM_congr (fun j hj=>behind_mul hr i hi j hj) (fun _ _=>rfl)
 rw[one_mulM n _ i 0 hi,mulM_assoc] at h1
 rw[←h1]
 exact sumN_congr fun k hk=>by rw[mul_behind hr k hk 0];rfl
theorem InF.t4 (F a b c d:Frag)(I:List Frag):InF F (a::b::c::d::F::I):=InF.tail (InF.t3 _ _ _ _ _)
/-- the error of a system of equations -/
def slE (n:Nat)(m:Nat→Nat)(x:Nat→Nat→Raw)(k:Nat)(y:Nat→Raw):Int:=if matE n m x=0 then(if listE y k=0 then(if n=m 0∧k=n then 0 else 10) else listE y k) else matE n m x
def RSol (F0:Frag)(n:Nat)(x:Mx)(v:Nat→Rat)(w:World)(e:Ending)(w':World):Prop:=(rankM n n x<n∧e=.returned (.tuple #[.slice none 0 0,.int .i64 15])∧Below w.heap.size w w')∨(rankM n n x=n∧∃b k H,e=.returned (.tuple #[.slice (some ⟨b,0,none⟩) n k,.int .i64 0])∧Frag.Rw H (some ⟨b,0,none⟩) k n (rawR (fun i=>behindM n x (colM v) i 0))∧NewOr F0 w w' H)
set_option maxRecDepth 100000 in
set_option maxHeartbeats 16000000 in
theorem rSolve_r (F0:Frag)(n:Nat)(x:Mx)(v:Nat→Rat)(A B:Option Addr)(c cB:Nat)(w:World)(hF:F0.sub w)(hA:F0.Mt A c n (fun _=>n) (rawM x))(hB:F0.Rw B cB n (rawR v))(n1:1≤n)(n2:n≤12)(bx:∀i,i<n→∀j,j<n→Bd 8192 (x i j))(bv:∀i,i<n→Bd 8192 (v i))(hfine:FineAll n (n+n) n (wideM n x oneM))
  (hb:∀i,i<n→∀j,j<n→Bd 8192 (behindM n x oneM i j)) (hp:∀i,i<n→∀j,j<n→Bd 8192 (behindM n x oneM i j*v j)) (hs:∀i,i<n→∀j,j≤n→Bd 8192 (sumN j (fun k=>behindM n x oneM i k*v k))):
  Calls Tryz.prog 24 #[.slice A n c,.slice B n cB] w (RSol F0 n x v w):=by
 refine calls_f hF fun g=>?_
 have HA:=Lib.hid hA
 have HB:=Lib.hid hB
 have CC:=Lib.hid (fun w h=>rCheck5_any A c n (fun _=>n) (rawM x) w h)
 rw[matE_ok n1 (by omega) n1 (by omega) bx] at CC
 have CL:=Lib.hid (fun w h=>rList_any B cB n (rawR v) w h)
 rw[listE_val bv n1 (by omega)] at CL
 have CI:=Lib.hid (fun w hF=>rInverse_r F0 n x A c w hF hA n1 n2 hfine)
 unfold RInv at CI
 have HBS:Hid (rankM n n x=n→∀i,i<n→sumN n (fun k=>behindM n x oneM i k*v k)=behindM n x (colM v) i 0):=Lib.hid (fun hr i hi=>behind_sum hr hi)
 obtain⟨Y,hY⟩:∃Y,behindM n x oneM=Y:=⟨_,rfl⟩
 rw[hY] at CI HBS hb hp hs
 have CZ:=Lib.hid (fun w=>rzero_r w)
 have CTI:=Lib.hid (fun i (hi:i<n) j (hj:j<n) p q r p' q' r' w a b=>rqTimes_r (Y i j) (v j) (hb i hi j hj) (bv j hj) p q r p' q' r' w a b)
 have CPL:=Lib.hid (fun i (hi:i<n) j (hj:j<n) p q r p' q' r' w a b=>rqPlus_r (sumN j (fun k=>Y i k*v k)) (Y i j*v j) (hs i hi j (by omega)) (hp i hi j hj) p q r p' q' r' w a b)
 unfold RT1 at CZ CTI CPL
 have CF:=Lib.hid (fun i (hi:i<n) p q r w h=>rqFits_r (sumN n (fun k=>Y i k*v k)) (hs i hi n (Nat.le_refl _)) p q r w h)
 obtain⟨i0,hi,hz0,hz1,hz2⟩:=info_parts infoRat
 obtain⟨b,o,rfl,hrow⟩:=hA.rowAt n1
 obtain⟨B0,k0,hh0,hrw0⟩:=hrow 0 (by omega)
 have E0:∀(M:List Blk) (I:List Frag) (g:G w [] M I) (hF:InF F0 I),g.w.cell? ⟨b,o,none⟩=some (.slice B0 n k0):=fun M I g hF=>hh0 _ _ _ _ g hF
 obtain⟨bb,ob2,rfl,hnb⟩:=hB.num n1
 have HNB:=Lib.hid hnb
 have t1:0<n:=by omega
 have t2:(0:Int)<(n:Int):=by omega
 have hnn:((n:Int)==(n:Int))=true:=by simp
 clear hA hB hrow hh0 hrw0 hnb bx bv hfine hb hp hs hF hY
 go_enter Tryz.func24,Tryz.ntmps24
 go_wp2_with (with_reducible refine yq _ ?_;(try generalize (G.w _).heap.size=bk);(try dsimp only[yi,yj]);(try clear g);intro g)
 refine(CC.out _ (HA.out.mono (g.sub _ (by simp)))).mono ?_
 rintro e w1 ⟨rfl,hb⟩
 obtain⟨g1,rfl⟩:=G.call_ex _ hb
 clear hb
 (try clear g)
 revert g1
 intro g
 go_wp2_with (with_reducible refine yq _ ?_;(try generalize (G.w _).heap.size=bk);(try dsimp only[yi,yj]);(try clear g);intro g)
 refine(CL.out _ (HB.out.mono (g.sub _ (by simp)))).mono ?_
 rintro e w1 ⟨rfl,hb⟩
 obtain⟨g1,rfl⟩:=G.call_ex _ hb
 clear hb
 (try clear g)
 revert g1
 intro g
 go_wp2_with (with_reducible refine yq _ ?_;(try generalize (G.w _).heap.size=bk);(try dsimp only[yi,yj]);(try clear g);intro g)
 (try(refine cmark _ ?_;(try dsimp only[yi,yj]);(try clear g);intro g))
 refine(CI.out _ (g.sub _ (by simp))).mono ?_
 rintro e w1 (⟨hk,rfl,hb⟩|⟨hk,bm,cm,H,rfl,hm,hno⟩)
 ·have HK:=Lib.hid hk
  obtain⟨g1,rfl⟩:=G.call_ex _ hb
  clear hb g hk
  revert g1
  intro g
  (as_aux_lemma=>
   go_wp2_with (with_reducible refine yq _ ?_;(try generalize (G.w _).heap.size=bk);(try dsimp only[yi,yj]);(try clear g);intro g)
   go_ret2
   unfold RSol
   exact .inl ⟨HK.out,rfl,G.below _⟩)
 ·have HK:=Lib.hid hk
  have HBS2:=Lib.hid (HBS.out hk)
  obtain⟨g1,rfl,hoh⟩:=G.nor_ex g (F:=F0) (by simp) hno
  obtain⟨F1,g2,e2,hle1,hle2,hnew⟩:=mergeK g1
  rw[e2]
  have HOV1:Hid (F1.over F0 w):=Lib.hid (fun k o hk=>(hnew k o hk).elim .inl (hoh k o))
  obtain⟨g3,e3⟩:=g2.none_ex
  obtain⟨F2,g4,e4,hle3,hle4,hnew2⟩:=mergeK g3
  rw[e3,e4]
  have HOV2:Hid (F2.over F0 w):=Lib.hid (fun k o hk=>(hnew2 k o hk).elim (HOV1.out k o) (fun h=>by cases h))
  have HLE2:Hid (F1.le F2):=Lib.hid hle3
  obtain⟨bm2,om,hbm,hrowm⟩:=(hm.mono hle2).rowAt n1
  obtain⟨rfl,rfl⟩:bm=bm2∧om=0:=by
   injection hbm with h
   injection h with h1 h2 h3
   exact⟨h1,h2.symm⟩
  have HRM:=Lib.hid hrowm
  have HLE0:=Lib.hid hle1
  clear hm hno hoh hnew hnew2 e2 e3 e4 hle1 hle2 hle3 hle4 g g1 g2 g3 hbm hrowm hk HBS CI CC CL E0 HOV1
  revert g4
  intro g
  (as_aux_lemma=>
   go_wp2_with (with_reducible refine yq _ ?_;(try generalize (G.w _).heap.size=bk);(try dsimp only[yi,yj]);(try clear g);intro g)
   obtain⟨g5,e5⟩:=G.less g (M':=[]++[]) (List.nil_sublist _)
   rw[e5]
   clear e5 g
   revert g5
   intro g
   go_loopw [10,11] (fun mv iv wr=>∃i:Nat,iv=.int .i64 (i:Int)∧i≤n∧∃(cc:Nat) (Ac:Option Addr) (l:List Tri) (sc:List Blk) (F:Frag),mv=.slice Ac i cc∧RowV w.heap.size 43 3 i (cells3 l) Ac cc sc∧F.Tris l i (rawR (fun i=>behindM n x (colM v) i 0))∧Hid (F.over F0 w)∧Hid (F1.le F)∧∃g:G w [] (sc++[]) [F,F1,F0],wr=g.w) (fun _ iv _=>n-(intOf iv).toNat)
   case atStart=>exact⟨0,rfl,by omega,0,none,[],[],F2,rfl,RowV.nil _ _ _,Frag.Tris.nil _ _,HOV2,HLE2,g,rfl⟩
   case round=>
    clear g HOV2 HLE2
    obtain⟨i,rfl,hi',cc,Ac,l,sc,F,rfl,hvr,hl,HOV,HLE,g,rfl⟩:=hrel
    by_cases hin:i<n
    ·have hii:(i:Int)<(n:Int):=by omega
     obtain⟨B2,k2,hh,hrw⟩:=HRM.out i hin
     obtain⟨b4,o4,rfl,hnum⟩:=hrw.num n1
     have EH:∀(M:List Blk) (I:List Frag) (g:G w [] M I) (hF:InF F1 I),g.w.cell? ⟨bm,0+i,none⟩=some (.slice (some ⟨b4,o4,none⟩) n k2):=fun M I g hF=>hh _ _ _ _ g hF
     simp only[Nat.zero_add] at EH
     have HEH:=Lib.hid EH
     have HNU:=Lib.hid hnum
     have HVR:=Lib.hid hvr
     have HL:=Lib.hid hl
     have hw1:i+1≤maxLen:=by show i+1≤9223372036854775807;omega
     have hw2:(i+1)*56≤140737488355328:=by omega
     clear hh hrw hnum EH hvr hl
     go_wp2_with (with_reducible refine yq _ ?_;(try generalize (G.w _).heap.size=bk);(try dsimp only[yi,yj]);(try clear g);intro g)
     (try(refine cmark _ ?_;(try dsimp only[yi,yj]);(try clear g);intro g))
     refine(CZ.out _).mono ?_
     rintro e w1 ⟨pz,qz,rz,Fz,rfl,hz,hn⟩
     have hnnz:=fun k o hk=>Nat.le_trans g.chg.size (hn.new k o hk)
     obtain⟨sz,Az,nz,cz,Bz,dz,kz,rfl,rfl,rfl⟩:=hz.shape
     obtain⟨g1,rfl⟩:=G.new_ex _ hn
     clear hn
     (try clear g)
     revert g1
     intro g
     obtain⟨F3,g3,e3,hle5,hle6,hnew⟩:=g.merge
     rw[e3]
     have HOV3:Hid (F3.over F0 w):=Lib.hid (fun k o hk=>(hnew k o hk).elim (HOV.out k o) (fun h=> .inr (hnnz k o h)))
     have HLE3:=Lib.hid (Frag.le_trans HLE.out hle5)
     have HL3:=Lib.hid (HL.out.mono hle5)
     have HS3:Hid (F3.Rt (.bool sz) (.slice Az nz cz) (.slice Bz dz kz) (rawOf (sumN 0 (fun k=>Y i k*v k)))):=Lib.hid (hz.mono hle6)
     clear e3 g hz hnew hnnz hle5 hle6 HOV HLE HL
     revert g3
     intro g
     go_wp2_with (with_reducible refine yq _ ?_;(try generalize (G.w _).heap.size=bk);(try dsimp only[yi,yj]);(try clear g);intro g)
     obtain⟨sb,rfl⟩:∃sb,sb=bk:=⟨_,rfl⟩
     go_loopw [13] (fun kv wr=>∃k:Nat,kv=.int .i64 (k:Int)∧k≤n∧∃(F:Frag) (p q r:Value),Hid (F.Rt p q r (rawOf (sumN k (fun k=>Y i k*v k))))∧Hid (F.Tris l i (rawR (fun i=>behindM n x (colM v) i 0)))∧Hid (F.over F0 w)∧Hid (F1.le F)∧∃g:G w [] ((sb,43,[p,q,r])::(sc++[])) [F,F1,F0],wr=g.w) (fun kv _=>n-(intOf kv).toNat)
     case atStart=>exact⟨0,rfl,by omega,F3,_,_,_,HS3,HL3,HOV3,HLE3,_,rfl⟩
     case round=>
      clear g HS3 HL3 HOV3 HLE3
      obtain⟨k,rfl,hk',F,p,q,r,HS,HL,HOV,HLE,g,rfl⟩:=hrel
      obtain⟨s5,P5,n5,d5,Q5,m5,e5,rfl,rfl,rfl⟩:=HS.out.shape
      by_cases hkn:k<n
      ·have hki:(k:Int)<(n:Int):=by omega
       obtain⟨p,q,r,h3,hrt⟩:=HNU.out k hkn
       obtain⟨sx,Px,nx,dx,Qx,mx,ex,rfl,rfl,rfl⟩:=hrt.shape
       have X0:∀(M:List Blk) (I:List Frag) (g:G w [] M I) (hF:InF F1 I),g.w.cell? ⟨b4,o4+k*3,none⟩=some (.bool sx):=fun M I g hF=>(h3 _ _ _ _ g hF).1
       have X1:∀(M:List Blk) (I:List Frag) (g:G w [] M I) (hF:InF F1 I),g.w.cell? ⟨b4,o4+k*3+1,none⟩=some (.slice Px nx dx):=fun M I g hF=>(h3 _ _ _ _ g hF).2.1
       have X2:∀(M:List Blk) (I:List Frag) (g:G w [] M I) (hF:InF F1 I),g.w.cell? ⟨b4,o4+k*3+2,none⟩=some (.slice Qx mx ex):=fun M I g hF=>(h3 _ _ _ _ g hF).2.2
       obtain⟨p,q,r,h4,hrt2⟩:=HNB.out k hkn
       obtain⟨sy,Py,ny,dy,Qy,my,ey,rfl,rfl,rfl⟩:=hrt2.shape
       have Y0:∀(M:List Blk) (I:List Frag) (g:G w [] M I) (hF:InF F0 I),g.w.cell? ⟨bb,ob2+k*3,none⟩=some (.bool sy):=fun M I g hF=>(h4 _ _ _ _ g hF).1
       have Y1:∀(M:List Blk) (I:List Frag) (g:G w [] M I) (hF:InF F0 I),g.w.cell? ⟨bb,ob2+k*3+1,none⟩=some (.slice Py ny dy):=fun M I g hF=>(h4 _ _ _ _ g hF).2.1
       have Y2:∀(M:List Blk) (I:List Frag) (g:G w [] M I) (hF:InF F0 I),g.w.cell? ⟨bb,ob2+k*3+2,none⟩=some (.slice Qy my ey):=fun M I g hF=>(h4 _ _ _ _ g hF).2.2
       have EH:=HEH.out
       have HX:=Lib.hid hrt
       have HY:=Lib.hid hrt2
       clear h3 h4 hrt hrt2
       go_upto_region 20 with(with_reducible refine yq _ ?_;(try generalize (G.w _).heap.size=bk);(try dsimp only[yi,yj]);(try clear g);intro g)
       ((try simp only[G.drew_eq,G.drewN_eq]);(refine yq _ ?_;(try generalize (G.w _).heap.size=bk);(try dsimp only[yi,yj]);(try clear g);intro g))
       refine wp_region_held_drew (S:=(fun w'=>w'.cell? ⟨bm,i,none⟩=some (.slice (some ⟨b4,o4,none⟩) n k2)∧(w'.cell? ⟨b4,o4+k*3,none⟩=some (.bool sx)∧w'.cell? ⟨b4,o4+k*3+1,none⟩=some (.slice Px nx dx)∧w'.cell? ⟨b4,o4+k*3+2,none⟩=some (.slice Qx mx ex))∧w'.cell? ⟨bb,ob2+k*3,none⟩=some (.bool sy)∧w'.cell? ⟨bb,ob2+k*3+1,none⟩=some (.slice Py ny dy)∧w'.cell? ⟨bb,ob2+k*3+2,none⟩=some (.slice Qy my ey))) (by kernel_rfl) (by(simp[go_sem,InF.t2,InF.t3,InF.t4, *];done)) (fun hHeld=>?_)
       refine tk0 [1,2,3,4,5,6,7,8,9,10,11] ?_
       iterate 11 (refine tkc rfl (by kernel_rfl) (fun _ _ _ h=>h) (by rfl) ‹_› (by intro w hSw;(try dsimp only at hSw);go_simp;(try with_reducible rfl)) ?_;try simp only[Act.put,yk,yl,yn,yo,yi,yj])
       refine tkn ?_
       refine wpAnyH_ready (rs:=[0,12]) (by kernel_rfl) (by simp) ?_
       refine AllReadyH.cons rfl (fun K hK=>?_) (AllReadyH.cons rfl (fun K hK=>?_) AllReadyH.nil)
       ·(try simp only[Act.put,yk,yl,yn,yo,yi,yj])
        go_simp
        refine hK.out _ _ (by(simp[go_sem,InF.t2,InF.t3,InF.t4, *];done)) (fun hHeld=>?_)
        clear hK K
        (try simp only[Act.put,yk,yl,yn,yo,yi,yj])
        refine wpAnyH_ready (rs:=[12]) (by kernel_rfl) (by simp) ?_
        refine AllReadyH.cons rfl (fun K hK=>?_) AllReadyH.nil
        ·(try simp only[Act.put,yk,yl,yn,yo,yi,yj])
         go_simp
         go_at_call 48
         (try(refine cmark _ ?_;(try dsimp only[yi,yj]);(try clear g);intro g))
         refine(CTI.out i hin k hkn _ _ _ _ _ _ _ (G.rtI g (f:=F1) (by simp) HX.out) (G.rtI g (f:=F0) (by simp) HY.out)).mono ?_
         rintro e w1 ⟨pt,qt,rt,Ft,rfl,ht,hn⟩
         have hnnt:=fun k o hk=>Nat.le_trans g.chg.size (hn.new k o hk)
         obtain⟨st,At,nt,ct,Bt,dt,kt,rfl,rfl,rfl⟩:=ht.shape
         obtain⟨g1,rfl⟩:=G.new_ex _ hn
         clear hn
         (try clear g)
         revert g1
         intro g
         refine hK.out _ _ (by(simp[go_sem,InF.t2,InF.t3,InF.t4, *];done)) (fun hHeld=>?_)
         clear hK K
         (try simp only[Act.put,yk,yl,yn,yo,yi,yj])
         refine wpAnyH_ready (rs:=[13]) (by kernel_rfl) (by simp) ?_
         refine AllReadyH.cons rfl (fun K hK=>?_) AllReadyH.nil
         ·(try simp only[Act.put,yk,yl,yn,yo,yi,yj])
          go_simp
          go_at_call 74
          (try(refine cmark _ ?_;(try dsimp only[yi,yj]);(try clear g);intro g))
          refine(CPL.out i hin k hkn _ _ _ _ _ _ _ (G.rtI g (f:=F) (by simp) HS.out) (G.rtI g (by simp) ht)).mono ?_
          rintro e w1 ⟨pu,qu,ru,Fu,rfl,hu,hn⟩
          have hnnu:=fun k o hk=>Nat.le_trans g.chg.size (hn.new k o hk)
          obtain⟨su,Au,nu,cu,Bu,du,ku,rfl,rfl,rfl⟩:=hu.shape
          obtain⟨g1,rfl⟩:=G.new_ex _ hn
          clear hn
          (try clear g)
          revert g1
          intro g
          refine hK.out _ _ (by(simp[go_sem,InF.t2,InF.t3,InF.t4, *];done)) (fun hHeld=>?_)
          clear hK K
          (try simp only[Act.put,yk,yl,yn,yo,yi,yj])
          refine wpAnyH_ready (rs:=[14]) (by kernel_rfl) (by simp) ?_
          refine AllReadyH.cons rfl (fun K hK=>?_) AllReadyH.nil
          ·(try simp only[Act.put,yk,yl,yn,yo,yi,yj])
           go_simp
           refine hK.out _ _ (by(simp[go_sem,InF.t2,InF.t3,InF.t4, *];done)) (fun hHeld=>?_)
           clear hK K
           (try simp only[Act.put,yk,yl,yn,yo,yi,yj])
           refine wpAnyH_done (by kernel_rfl) ?_ _
           (as_aux_lemma=>
            (try clear hHeld)
            ((try simp only[G.drew_eq,G.drewN_eq]);(refine yq _ ?_;(try generalize (G.w _).heap.size=bk);(try dsimp only[yi,yj]);(try clear g);intro g))
            go_wp2_with (with_reducible refine yq _ ?_;(try generalize (G.w _).heap.size=bk);(try dsimp only[yi,yj]);(try clear g);intro g)
            obtain⟨F4,g3,e3,hle1,hle2,hnew1⟩:=g.merge
            obtain⟨F',g4,e4,hle3,hle4,hnew2⟩:=g3.merge
            rw[e3,e4]
            go_roundw
            case rel=>exact⟨k+1,by go_num,by omega,F',_,_,_,Lib.hid ((hu.mono hle2).mono hle4),Lib.hid (HL.out.mono hle3),Lib.hid (fun k' o hk'=>(hnew2 k' o hk').elim (HOV.out k' o) (fun h=> .inr ((hnew1 k' o h).elim (hnnt k' o) (hnnu k' o)))),Lib.hid (Frag.le_trans HLE.out hle3),g4,rfl⟩
            case measure=>simp[intOf]<;>omega)
       ·(try simp only[Act.put,yk,yl,yn,yo,yi,yj])
        go_simp
        go_at_call 48
        (try(refine cmark _ ?_;(try dsimp only[yi,yj]);(try clear g);intro g))
        refine(CTI.out i hin k hkn _ _ _ _ _ _ _ (G.rtI g (f:=F1) (by simp) HX.out) (G.rtI g (f:=F0) (by simp) HY.out)).mono ?_
        rintro e w1 ⟨pt,qt,rt,Ft,rfl,ht,hn⟩
        have hnnt:=fun k o hk=>Nat.le_trans g.chg.size (hn.new k o hk)
        obtain⟨st,At,nt,ct,Bt,dt,kt,rfl,rfl,rfl⟩:=ht.shape
        obtain⟨g1,rfl⟩:=G.new_ex _ hn
        clear hn
        (try clear g)
        revert g1
        intro g
        refine hK.out _ _ (by(simp[go_sem,InF.t2,InF.t3,InF.t4, *];done)) (fun hHeld=>?_)
        clear hK K
        (try simp only[Act.put,yk,yl,yn,yo,yi,yj])
        refine wpAnyH_ready (rs:=[0]) (by kernel_rfl) (by simp) ?_
        refine AllReadyH.cons rfl (fun K hK=>?_) AllReadyH.nil
        ·(try simp only[Act.put,yk,yl,yn,yo,yi,yj])
         go_simp
         refine hK.out _ _ (by(simp[go_sem,InF.t2,InF.t3,InF.t4, *];done)) (fun hHeld=>?_)
         clear hK K
         (try simp only[Act.put,yk,yl,yn,yo,yi,yj])
         refine wpAnyH_ready (rs:=[13]) (by kernel_rfl) (by simp) ?_
         refine AllReadyH.cons rfl (fun K hK=>?_) AllReadyH.nil
         ·(try simp only[Act.put,yk,yl,yn,yo,yi,yj])
          go_simp
          go_at_call 74
          (try(refine cmark _ ?_;(try dsimp only[yi,yj]);(try clear g);intro g))
          refine(CPL.out i hin k hkn _ _ _ _ _ _ _ (G.rtI g (f:=F) (by simp) HS.out) (G.rtI g (by simp) ht)).mono ?_
          rintro e w1 ⟨pu,qu,ru,Fu,rfl,hu,hn⟩
          have hnnu:=fun k o hk=>Nat.le_trans g.chg.size (hn.new k o hk)
          obtain⟨su,Au,nu,cu,Bu,du,ku,rfl,rfl,rfl⟩:=hu.shape
          obtain⟨g1,rfl⟩:=G.new_ex _ hn
          clear hn
          (try clear g)
          revert g1
          intro g
          refine hK.out _ _ (by(simp[go_sem,InF.t2,InF.t3,InF.t4, *];done)) (fun hHeld=>?_)
          clear hK K
          (try simp only[Act.put,yk,yl,yn,yo,yi,yj])
          refine wpAnyH_ready (rs:=[14]) (by kernel_rfl) (by simp) ?_
          refine AllReadyH.cons rfl (fun K hK=>?_) AllReadyH.nil
          ·(try simp only[Act.put,yk,yl,yn,yo,yi,yj])
           go_simp
           refine hK.out _ _ (by(simp[go_sem,InF.t2,InF.t3,InF.t4, *];done)) (fun hHeld=>?_)
           clear hK K
           (try simp only[Act.put,yk,yl,yn,yo,yi,yj])
           refine wpAnyH_done (by kernel_rfl) ?_ _
           (as_aux_lemma=>
            (try clear hHeld)
            ((try simp only[G.drew_eq,G.drewN_eq]);(refine yq _ ?_;(try generalize (G.w _).heap.size=bk);(try dsimp only[yi,yj]);(try clear g);intro g))
            go_wp2_with (with_reducible refine yq _ ?_;(try generalize (G.w _).heap.size=bk);(try dsimp only[yi,yj]);(try clear g);intro g)
            obtain⟨F4,g3,e3,hle1,hle2,hnew1⟩:=g.merge
            obtain⟨F',g4,e4,hle3,hle4,hnew2⟩:=g3.merge
            rw[e3,e4]
            go_roundw
            case rel=>exact⟨k+1,by go_num,by omega,F',_,_,_,Lib.hid ((hu.mono hle2).mono hle4),Lib.hid (HL.out.mono hle3),Lib.hid (fun k' o hk'=>(hnew2 k' o hk').elim (HOV.out k' o) (fun h=> .inr ((hnew1 k' o h).elim (hnnt k' o) (hnnu k' o)))),Lib.hid (Frag.le_trans HLE.out hle3),g4,rfl⟩
            case measure=>simp[intOf]<;>omega)
      ·obtain rfl:n=k:=by omega
       have hvr:=HVR.out
       have HS9:Hid (F.Rt (.bool s5) (.slice P5 n5 d5) (.slice Q5 m5 e5) (rawR (fun i=>behindM n x (colM v) i 0) i)):=Lib.hid (by
        show F.Rt _ _ _ (rawOf (behindM n x (colM v) i 0))
        rw[←HBS2.out i hin];exact HS.out)
       (as_aux_lemma=>
        go_wp2_with (with_reducible refine yq _ ?_;(try generalize (G.w _).heap.size=bk);(try dsimp only[yi,yj]);(try clear g);intro g)
        (try(refine cmark _ ?_;(try dsimp only[yi,yj]);(try clear g);intro g))
        refine(CF.out i hin _ _ _ _ (G.rtI g (f:=F) (by simp) HS.out)).mono ?_
        rintro e w1 ⟨rfl,hb⟩
        obtain⟨g1,rfl⟩:=G.call_ex _ hb
        clear hb
        (try clear g)
        revert g1
        intro g
        go_wp2_with (first|(with_reducible refine yq _ ?_;(try generalize (G.w _).heap.size=bk);(try dsimp only[yi,yj]);(try clear g);intro g)|(at_builtin;refine wpList_append_v rfl _ _ 38 rfl 43 i0 _ 3 56 Tryz.underlying38 hi hz0 hz1 hz2 rfl (by decide) 3 g (Rr:=sc) (R':=[]) (by rfl) hvr (by rfl) (by exact List.mem_cons_self ..) 1 (by rfl) rfl (three _ _ _ ⟨rfl,rfl,rfl⟩) (by decide) hw1 hw2 ?_;clear hvr;(try clear g);intro b2 cap2 cs2 g hb2 hrow2;revert g;dsimp only[List.take,List.cons_append,List.nil_append];intro g))
        obtain⟨g5,e5'⟩:=G.less g (M':=[(b2,43,cs2)]++[]) (.cons _ (.cons _ (.cons _ (List.Sublist.refl _))))
        rw[e5']
        go_roundw
        case rel=>exact⟨i+1,by go_num,by omega,cap2,_,l++[(.bool s5,.slice P5 n5 d5,.slice Q5 m5 e5)],[(b2,_,cs2)],F,rfl,RowV.row (by rw[cells3_append];exact hrow2) hb2,HL.out.snoc HS9.out,HOV,HLE,g5,rfl⟩
        case measure=>simp[intOf]<;>omega)
    ·obtain rfl:n=i:=by omega
     have HFI:∀(b k:Nat) (F:Frag) (w':World),F.Rw (some ⟨b,0,none⟩) k n (rawR (fun i=>behindM n x (colM v) i 0))→NewOr F0 w w' F→RSol F0 n x v w (.returned (.tuple #[.slice (some ⟨b,0,none⟩) n k,.int .i64 0])) w':=fun b k F w' h1 h2=> .inr ⟨HK.out,b,k,F,rfl,h1,h2⟩
     have HFIN:=Lib.hid HFI
     clear HFI HK HRM HBS2
     (as_aux_lemma=>
      go_wp2_with (with_reducible refine yq _ ?_;(try generalize (G.w _).heap.size=bk);(try dsimp only[yi,yj]);(try clear g);intro g)
      go_ret2
      rcases hvr with⟨_,_,h0,_⟩|⟨cb,cs,rfl,rfl,hcb,hrow⟩
      ·omega
      ·obtain⟨F6,g3,e3,hle,hbl,hov⟩:=layO (F0:=F0) [(cb,43,cs)] g
       exact HFIN.out _ _ F6 _ (row_rw hrow (hbl (cb,43,cs) (List.mem_cons_self ..)) (hl.mono hle) (by omega)) ⟨G.below _,by rw[e3];exact g3.sub _ (by simp),hov HOV.out⟩))
end Go.Proofs.YthhbbnfnejjpiaaGreatDoor
namespace Go.Proofs.YthhbbnfnejjpiaaGreatDoor
open Go.RowKit GW NL MX
set_option maxRecDepth 20000 in
theorem Rank_e (n:Nat)(m:Nat→Nat)(x:Nat→Nat→Raw)(A:Option Addr)(c:Nat)(E:Int)(w:World)(hA:(heapOf w).Mt A c n m x)(hT:Tab w)(hE:matE n m x=E)(h0:E≠0):
  Calls Tryz.prog 25 #[.slice A n c] w (RErrI E w):=by
 refine calls_b fun g=>?_
 unfold RErrI
 have HA:=Lib.hid hA
 have HT:=Lib.hid hT
 have CC:=Lib.hid (fun w h t=>mCheck_any A c n m x w h t)
 rw[hE] at CC
 have heb:(E==0)=false:=by simpa using h0
 have hen:(E !=0)=true:=by simpa using h0
 clear hA hE hT
 go_enter Tryz.func25,Tryz.ntmps25
 go_wp2_with (with_reducible refine yq _ ?_;(try generalize (G.w _).heap.size=bk);(try dsimp only[yi,yj]);(try clear g);intro g)
 refine(CC.out _ (HA.out.mono (g.sub _ (by simp))) (G.tab g HT.out)).mono ?_
 rintro e w1 ⟨rfl,hb⟩
 obtain⟨g1,rfl⟩:=G.call_ex _ hb
 clear hb
 (try clear g)
 revert g1
 intro g
 go_wp2_with (with_reducible refine yq _ ?_;(try generalize (G.w _).heap.size=bk);(try dsimp only[yi,yj]);(try clear g);intro g)
 go_ret2
 exact⟨rfl,G.below _⟩
set_option maxRecDepth 20000 in
theorem Det_e (n:Nat)(m:Nat→Nat)(x:Nat→Nat→Raw)(A:Option Addr)(c:Nat)(E:Int)(w:World)(hA:(heapOf w).Mt A c n m x)(hT:Tab w)(hE:sqE n m x=E)(h0:E≠0):
  Calls Tryz.prog 19 #[.slice A n c] w (RErrR E w):=by
 refine calls_b fun g=>?_
 unfold RErrR
 have HA:=Lib.hid hA
 have HT:=Lib.hid hT
 have CC:=Lib.hid (fun w h t=>mCheck_any A c n m x w h t)
 unfold sqE at hE
 by_cases h1:matE n m x=0
 ·rw[if_pos h1] at hE
  have hp:=matE_pos h1
  have hm:=matE_m h1
  have hnm:n≠m 0:=fun h=>h0 (by rw[←hE,if_pos h])
  rw[if_neg hnm] at hE
  subst hE
  rw[h1] at CC
  have CQ:=Lib.hid (fun w h=>square_any n (m 0) x A c w h (by omega))
  rw[decide_eq_false hnm] at CQ
  have HA2:=Lib.hid (hA.congr hm (fun _ _ _ _=>rfl))
  clear hA hT h0 h1 hp hm hnm
  go_enter Tryz.func19,Tryz.ntmps19
  go_wp2_with (with_reducible refine yq _ ?_;(try generalize (G.w _).heap.size=bk);(try dsimp only[yi,yj]);(try clear g);intro g)
  (try(refine cmark _ ?_;(try dsimp only[yi,yj]);(try clear g);intro g))
  refine(CC.out _ (HA.out.mono (g.sub _ (by simp))) (G.tab g HT.out)).mono ?_
  rintro e w1 ⟨rfl,hb⟩
  obtain⟨g1,rfl⟩:=G.call_ex _ hb
  clear hb
  (try clear g)
  revert g1
  intro g
  go_wp2_with (with_reducible refine yq _ ?_;(try generalize (G.w _).heap.size=bk);(try dsimp only[yi,yj]);(try clear g);intro g)
  (try(refine cmark _ ?_;(try dsimp only[yi,yj]);(try clear g);intro g))
  refine(CQ.out _ (HA2.out.mono (g.sub _ (by simp)))).mono ?_
  rintro e w1 ⟨rfl,hb⟩
  obtain⟨g1,rfl⟩:=G.call_ex _ hb
  clear hb
  (try clear g)
  revert g1
  intro g
  go_wp2_with (with_reducible refine yq _ ?_;(try generalize (G.w _).heap.size=bk);(try dsimp only[yi,yj]);(try clear g);intro g)
  refine bodyPost_ret (v:=.tuple #[.agg #[.bool false,.slice none 0 0,.slice none 0 0],.int .i64 10]) (by simp[results,Tryz.results19,go_sem]) rfl ?_
  exact⟨rfl,G.below _⟩
 ·rw[if_neg h1] at hE
  rw[hE] at CC
  have heb:(E==0)=false:=by simpa using h0
  have hen:(E !=0)=true:=by simpa using h0
  clear hA hT hE h1
  go_enter Tryz.func19,Tryz.ntmps19
  go_wp2_with (with_reducible refine yq _ ?_;(try generalize (G.w _).heap.size=bk);(try dsimp only[yi,yj]);(try clear g);intro g)
  (try(refine cmark _ ?_;(try dsimp only[yi,yj]);(try clear g);intro g))
  refine(CC.out _ (HA.out.mono (g.sub _ (by simp))) (G.tab g HT.out)).mono ?_
  rintro e w1 ⟨rfl,hb⟩
  obtain⟨g1,rfl⟩:=G.call_ex _ hb
  clear hb
  (try clear g)
  revert g1
  intro g
  go_wp2_with (with_reducible refine yq _ ?_;(try generalize (G.w _).heap.size=bk);(try dsimp only[yi,yj]);(try clear g);intro g)
  refine bodyPost_ret (v:=.tuple #[.agg #[.bool false,.slice none 0 0,.slice none 0 0],.int .i64 E]) (by simp[results,Tryz.results19,go_sem]) rfl ?_
  exact⟨rfl,G.below _⟩
set_option maxRecDepth 20000 in
theorem Inv_e (n:Nat)(m:Nat→Nat)(x:Nat→Nat→Raw)(A:Option Addr)(c:Nat)(E:Int)(w:World)(hA:(heapOf w).Mt A c n m x)(hT:Tab w)(hE:sqE n m x=E)(h0:E≠0):
  Calls Tryz.prog 21 #[.slice A n c] w (RErr E w):=by
 refine calls_b fun g=>?_
 unfold RErr
 have HA:=Lib.hid hA
 have HT:=Lib.hid hT
 have CC:=Lib.hid (fun w h t=>mCheck_any A c n m x w h t)
 unfold sqE at hE
 by_cases h1:matE n m x=0
 ·rw[if_pos h1] at hE
  have hp:=matE_pos h1
  have hm:=matE_m h1
  have hnm:n≠m 0:=fun h=>h0 (by rw[←hE,if_pos h])
  rw[if_neg hnm] at hE
  subst hE
  rw[h1] at CC
  have CQ:=Lib.hid (fun w h=>square_any n (m 0) x A c w h (by omega))
  rw[decide_eq_false hnm] at CQ
  have HA2:=Lib.hid (hA.congr hm (fun _ _ _ _=>rfl))
  clear hA hT h0 h1 hp hm hnm
  go_enter Tryz.func21,Tryz.ntmps21
  go_wp2_with (with_reducible refine yq _ ?_;(try generalize (G.w _).heap.size=bk);(try dsimp only[yi,yj]);(try clear g);intro g)
  (try(refine cmark _ ?_;(try dsimp only[yi,yj]);(try clear g);intro g))
  refine(CC.out _ (HA.out.mono (g.sub _ (by simp))) (G.tab g HT.out)).mono ?_
  rintro e w1 ⟨rfl,hb⟩
  obtain⟨g1,rfl⟩:=G.call_ex _ hb
  clear hb
  (try clear g)
  revert g1
  intro g
  go_wp2_with (with_reducible refine yq _ ?_;(try generalize (G.w _).heap.size=bk);(try dsimp only[yi,yj]);(try clear g);intro g)
  (try(refine cmark _ ?_;(try dsimp only[yi,yj]);(try clear g);intro g))
  refine(CQ.out _ (HA2.out.mono (g.sub _ (by simp)))).mono ?_
  rintro e w1 ⟨rfl,hb⟩
  obtain⟨g1,rfl⟩:=G.call_ex _ hb
  clear hb
  (try clear g)
  revert g1
  intro g
  go_wp2_with (with_reducible refine yq _ ?_;(try generalize (G.w _).heap.size=bk);(try dsimp only[yi,yj]);(try clear g);intro g)
  go_ret2
  exact⟨rfl,G.below _⟩
 ·rw[if_neg h1] at hE
  rw[hE] at CC
  have heb:(E==0)=false:=by simpa using h0
  have hen:(E !=0)=true:=by simpa using h0
  clear hA hT hE h1
  go_enter Tryz.func21,Tryz.ntmps21
  go_wp2_with (with_reducible refine yq _ ?_;(try generalize (G.w _).heap.size=bk);(try dsimp only[yi,yj]);(try clear g);intro g)
  (try(refine cmark _ ?_;(try dsimp only[yi,yj]);(try clear g);intro g))
  refine(CC.out _ (HA.out.mono (g.sub _ (by simp))) (G.tab g HT.out)).mono ?_
  rintro e w1 ⟨rfl,hb⟩
  obtain⟨g1,rfl⟩:=G.call_ex _ hb
  clear hb
  (try clear g)
  revert g1
  intro g
  go_wp2_with (with_reducible refine yq _ ?_;(try generalize (G.w _).heap.size=bk);(try dsimp only[yi,yj]);(try clear g);intro g)
  go_ret2
  exact⟨rfl,G.below _⟩
end Go.Proofs.YthhbbnfnejjpiaaGreatDoor
namespace Go.Proofs.YthhbbnfnejjpiaaGreatDoor
open Go.RowKit GW NL MX
set_option maxRecDepth 20000 in
set_option maxHeartbeats 4000000 in
theorem Solve_e (n k:Nat)(m:Nat→Nat)(x:Nat→Nat→Raw)(y:Nat→Raw)(A B:Option Addr)(c d:Nat)(E:Int)(w:World)(hA:(heapOf w).Mt A c n m x)(hB:(heapOf w).Rw B d k y)(hT:Tab w)(hE:slE n m x k y=E)(h0:E≠0):
  Calls Tryz.prog 23 #[.slice A n c,.slice B k d] w (RErr E w):=by
 refine calls_b fun g=>?_
 unfold RErr
 have HA:=Lib.hid hA
 have HB:=Lib.hid hB
 have HT:=Lib.hid hT
 have CC:=Lib.hid (fun w h t=>mCheck_any A c n m x w h t)
 have CL:=Lib.hid (fun w h t=>list_any B d k y w h t)
 unfold slE at hE
 by_cases h1:matE n m x=0
 ·rw[if_pos h1] at hE
  rw[h1] at CC
  have hp:=matE_pos h1
  have hm:=matE_m h1
  by_cases h2:listE y k=0
  ·rw[if_pos h2] at hE
   rw[h2] at CL
   have h3:¬ (n=m 0∧k=n):=fun h=>h0 (by rw[←hE,if_pos h])
   rw[if_neg h3] at hE
   subst hE
   have CQ:=Lib.hid (fun w h=>square_any n (m 0) x A c w h (by omega))
   have HA2:=Lib.hid (hA.congr hm (fun _ _ _ _=>rfl))
   generalize m 0=m0 at*
   by_cases hnm:n=m0
   ·have hkb:((k:Int)==(n:Int))=false:=by simp;omega
    have hkb2:((k:Int) !=(n:Int))=true:=by simp;omega
    rw[decide_eq_true hnm] at CQ
    clear hA hB hT h0 h1 h2 h3 hp hm hnm
    go_enter Tryz.func23,Tryz.ntmps23
    go_wp2_with (with_reducible refine yq _ ?_;(try generalize (G.w _).heap.size=bk);(try dsimp only[yi,yj]);(try clear g);intro g)
    refine(CC.out _ (HA.out.mono (g.sub _ (by simp))) (G.tab g HT.out)).mono ?_
    rintro e w1 ⟨rfl,hb⟩
    obtain⟨g1,rfl⟩:=G.call_ex _ hb
    clear hb
    (try clear g)
    revert g1
    intro g
    go_wp2_with (with_reducible refine yq _ ?_;(try generalize (G.w _).heap.size=bk);(try dsimp only[yi,yj]);(try clear g);intro g)
    refine(CL.out _ (HB.out.mono (g.sub _ (by simp))) (G.tab g HT.out)).mono ?_
    rintro e w1 ⟨rfl,hb⟩
    obtain⟨g1,rfl⟩:=G.call_ex _ hb
    clear hb
    (try clear g)
    revert g1
    intro g
    go_wp2_with (with_reducible refine yq _ ?_;(try generalize (G.w _).heap.size=bk);(try dsimp only[yi,yj]);(try clear g);intro g)
    refine(CQ.out _ (HA2.out.mono (g.sub _ (by simp)))).mono ?_
    rintro e w1 ⟨rfl,hb⟩
    obtain⟨g1,rfl⟩:=G.call_ex _ hb
    clear hb
    (try clear g)
    revert g1
    intro g
    go_wp2_with (with_reducible refine yq _ ?_;(try generalize (G.w _).heap.size=bk);(try dsimp only[yi,yj]);(try clear g);intro g)
    go_ret2
    exact⟨rfl,G.below _⟩
   ·rw[decide_eq_false hnm] at CQ
    clear hA hB hT h0 h1 h2 h3 hp hm hnm
    go_enter Tryz.func23,Tryz.ntmps23
    go_wp2_with (with_reducible refine yq _ ?_;(try generalize (G.w _).heap.size=bk);(try dsimp only[yi,yj]);(try clear g);intro g)
    refine(CC.out _ (HA.out.mono (g.sub _ (by simp))) (G.tab g HT.out)).mono ?_
    rintro e w1 ⟨rfl,hb⟩
    obtain⟨g1,rfl⟩:=G.call_ex _ hb
    clear hb
    (try clear g)
    revert g1
    intro g
    go_wp2_with (with_reducible refine yq _ ?_;(try generalize (G.w _).heap.size=bk);(try dsimp only[yi,yj]);(try clear g);intro g)
    refine(CL.out _ (HB.out.mono (g.sub _ (by simp))) (G.tab g HT.out)).mono ?_
    rintro e w1 ⟨rfl,hb⟩
    obtain⟨g1,rfl⟩:=G.call_ex _ hb
    clear hb
    (try clear g)
    revert g1
    intro g
    go_wp2_with (with_reducible refine yq _ ?_;(try generalize (G.w _).heap.size=bk);(try dsimp only[yi,yj]);(try clear g);intro g)
    refine(CQ.out _ (HA2.out.mono (g.sub _ (by simp)))).mono ?_
    rintro e w1 ⟨rfl,hb⟩
    obtain⟨g1,rfl⟩:=G.call_ex _ hb
    clear hb
    (try clear g)
    revert g1
    intro g
    go_wp2_with (with_reducible refine yq _ ?_;(try generalize (G.w _).heap.size=bk);(try dsimp only[yi,yj]);(try clear g);intro g)
    go_ret2
    exact⟨rfl,G.below _⟩
  ·rw[if_neg h2] at hE
   rw[hE] at CL
   have heb:(E==0)=false:=by simpa using h0
   have hen:(E !=0)=true:=by simpa using h0
   clear hA hB hE h1 h2 hp hm hT
   go_enter Tryz.func23,Tryz.ntmps23
   go_wp2_with (with_reducible refine yq _ ?_;(try generalize (G.w _).heap.size=bk);(try dsimp only[yi,yj]);(try clear g);intro g)
   refine(CC.out _ (HA.out.mono (g.sub _ (by simp))) (G.tab g HT.out)).mono ?_
   rintro e w1 ⟨rfl,hb⟩
   obtain⟨g1,rfl⟩:=G.call_ex _ hb
   clear hb
   (try clear g)
   revert g1
   intro g
   go_wp2_with (with_reducible refine yq _ ?_;(try generalize (G.w _).heap.size=bk);(try dsimp only[yi,yj]);(try clear g);intro g)
   refine(CL.out _ (HB.out.mono (g.sub _ (by simp))) (G.tab g HT.out)).mono ?_
   rintro e w1 ⟨rfl,hb⟩
   obtain⟨g1,rfl⟩:=G.call_ex _ hb
   clear hb
   (try clear g)
   revert g1
   intro g
   go_wp2_with (with_reducible refine yq _ ?_;(try generalize (G.w _).heap.size=bk);(try dsimp only[yi,yj]);(try clear g);intro g)
   go_ret2
   exact⟨rfl,G.below _⟩
 ·rw[if_neg h1] at hE
  rw[hE] at CC
  have heb:(E==0)=false:=by simpa using h0
  have hen:(E !=0)=true:=by simpa using h0
  clear hA hB hE h1 hT
  go_enter Tryz.func23,Tryz.ntmps23
  go_wp2_with (with_reducible refine yq _ ?_;(try generalize (G.w _).heap.size=bk);(try dsimp only[yi,yj]);(try clear g);intro g)
  refine(CC.out _ (HA.out.mono (g.sub _ (by simp))) (G.tab g HT.out)).mono ?_
  rintro e w1 ⟨rfl,hb⟩
  obtain⟨g1,rfl⟩:=G.call_ex _ hb
  clear hb
  (try clear g)
  revert g1
  intro g
  go_wp2_with (with_reducible refine yq _ ?_;(try generalize (G.w _).heap.size=bk);(try dsimp only[yi,yj]);(try clear g);intro g)
  go_ret2
  exact⟨rfl,G.below _⟩
set_option maxRecDepth 20000 in
set_option maxHeartbeats 4000000 in
theorem rSolve_e (n k:Nat)(m:Nat→Nat)(x:Nat→Nat→Raw)(y:Nat→Raw)(A B:Option Addr)(c d:Nat)(E:Int)(w:World)(hA:(heapOf w).Mt A c n m x)(hB:(heapOf w).Rw B d k y)(hE:slE n m x k y=E)(h0:E≠0):
  Calls Tryz.prog 24 #[.slice A n c,.slice B k d] w (RErr E w):=by
 refine calls_b fun g=>?_
 unfold RErr
 have HA:=Lib.hid hA
 have HB:=Lib.hid hB
 have CC:=Lib.hid (fun w h=>rCheck5_any A c n m x w h)
 have CL:=Lib.hid (fun w h=>rList_any B d k y w h)
 unfold slE at hE
 by_cases h1:matE n m x=0
 ·rw[if_pos h1] at hE
  rw[h1] at CC
  have hp:=matE_pos h1
  have hm:=matE_m h1
  by_cases h2:listE y k=0
  ·rw[if_pos h2] at hE
   rw[h2] at CL
   have h3:¬ (n=m 0∧k=n):=fun h=>h0 (by rw[←hE,if_pos h])
   rw[if_neg h3] at hE
   subst hE
   obtain⟨b,o,rfl,hrow⟩:=hA.rowAt (by omega)
   obtain⟨B0,k0,hh0,hrw0⟩:=hrow 0 (by omega)
   generalize m 0=m0 at*
   have E0:∀(M:List Blk) (g:G w [] M [heapOf w]),g.w.cell? ⟨b,o,none⟩=some (.slice B0 m0 k0):=fun M g=>hh0 _ _ _ _ g (InF.head _ _)
   have hn0i:(0:Int)<(n:Int):=by omega
   have hn0:0<n:=by omega
   by_cases hnm:n=m0
   ·have hkb:((k:Int)==(n:Int))=false:=by simp;omega
    have hkb2:((k:Int) !=(n:Int))=true:=by simp;omega
    have hmb:((n:Int)==(m0:Int))=true:=by simp[hnm]
    have hmb2:((n:Int) !=(m0:Int))=false:=by simp[hnm]
    clear hA hB h0 h1 h2 h3 hp hm hnm hrow hh0 hrw0
    go_enter Tryz.func24,Tryz.ntmps24
    go_wp2_with (with_reducible refine yq _ ?_;(try generalize (G.w _).heap.size=bk);(try dsimp only[yi,yj]);(try clear g);intro g)
    refine(CC.out _ (HA.out.mono (g.sub _ (by simp)))).mono ?_
    rintro e w1 ⟨rfl,hb⟩
    obtain⟨g1,rfl⟩:=G.call_ex _ hb
    clear hb
    (try clear g)
    revert g1
    intro g
    go_wp2_with (with_reducible refine yq _ ?_;(try generalize (G.w _).heap.size=bk);(try dsimp only[yi,yj]);(try clear g);intro g)
    refine(CL.out _ (HB.out.mono (g.sub _ (by simp)))).mono ?_
    rintro e w1 ⟨rfl,hb⟩
    obtain⟨g1,rfl⟩:=G.call_ex _ hb
    clear hb
    (try clear g)
    revert g1
    intro g
    go_wp2_with (with_reducible refine yq _ ?_;(try generalize (G.w _).heap.size=bk);(try dsimp only[yi,yj]);(try clear g);intro g)
    go_ret2
    exact⟨rfl,G.below _⟩
   ·have hmb:((n:Int)==(m0:Int))=false:=by simp;omega
    have hmb2:((n:Int) !=(m0:Int))=true:=by simp;omega
    clear hA hB h0 h1 h2 h3 hp hm hnm hrow hh0 hrw0
    go_enter Tryz.func24,Tryz.ntmps24
    go_wp2_with (with_reducible refine yq _ ?_;(try generalize (G.w _).heap.size=bk);(try dsimp only[yi,yj]);(try clear g);intro g)
    refine(CC.out _ (HA.out.mono (g.sub _ (by simp)))).mono ?_
    rintro e w1 ⟨rfl,hb⟩
    obtain⟨g1,rfl⟩:=G.call_ex _ hb
    clear hb
    (try clear g)
    revert g1
    intro g
    go_wp2_with (with_reducible refine yq _ ?_;(try generalize (G.w _).heap.size=bk);(try dsimp only[yi,yj]);(try clear g);intro g)
    refine(CL.out _ (HB.out.mono (g.sub _ (by simp)))).mono ?_
    rintro e w1 ⟨rfl,hb⟩
    obtain⟨g1,rfl⟩:=G.call_ex _ hb
    clear hb
    (try clear g)
    revert g1
    intro g
    go_wp2_with (with_reducible refine yq _ ?_;(try generalize (G.w _).heap.size=bk);(try dsimp only[yi,yj]);(try clear g);intro g)
    go_ret2
    exact⟨rfl,G.below _⟩
  ·rw[if_neg h2] at hE
   rw[hE] at CL
   have heb:(E==0)=false:=by simpa using h0
   have hen:(E !=0)=true:=by simpa using h0
   clear hA hB hE h1 h2 hp hm
   go_enter Tryz.func24,Tryz.ntmps24
   go_wp2_with (with_reducible refine yq _ ?_;(try generalize (G.w _).heap.size=bk);(try dsimp only[yi,yj]);(try clear g);intro g)
   refine(CC.out _ (HA.out.mono (g.sub _ (by simp)))).mono ?_
   rintro e w1 ⟨rfl,hb⟩
   obtain⟨g1,rfl⟩:=G.call_ex _ hb
   clear hb
   (try clear g)
   revert g1
   intro g
   go_wp2_with (with_reducible refine yq _ ?_;(try generalize (G.w _).heap.size=bk);(try dsimp only[yi,yj]);(try clear g);intro g)
   refine(CL.out _ (HB.out.mono (g.sub _ (by simp)))).mono ?_
   rintro e w1 ⟨rfl,hb⟩
   obtain⟨g1,rfl⟩:=G.call_ex _ hb
   clear hb
   (try clear g)
   revert g1
   intro g
   go_wp2_with (with_reducible refine yq _ ?_;(try generalize (G.w _).heap.size=bk);(try dsimp only[yi,yj]);(try clear g);intro g)
   go_ret2
   exact⟨rfl,G.below _⟩
 ·rw[if_neg h1] at hE
  rw[hE] at CC
  have heb:(E==0)=false:=by simpa using h0
  have hen:(E !=0)=true:=by simpa using h0
  clear hA hB hE h1
  go_enter Tryz.func24,Tryz.ntmps24
  go_wp2_with (with_reducible refine yq _ ?_;(try generalize (G.w _).heap.size=bk);(try dsimp only[yi,yj]);(try clear g);intro g)
  refine(CC.out _ (HA.out.mono (g.sub _ (by simp)))).mono ?_
  rintro e w1 ⟨rfl,hb⟩
  obtain⟨g1,rfl⟩:=G.call_ex _ hb
  clear hb
  (try clear g)
  revert g1
  intro g
  go_wp2_with (with_reducible refine yq _ ?_;(try generalize (G.w _).heap.size=bk);(try dsimp only[yi,yj]);(try clear g);intro g)
  go_ret2
  exact⟨rfl,G.below _⟩
end Go.Proofs.YthhbbnfnejjpiaaGreatDoor
