/- Plain facts and contracts of functions of the program, out of walks. Their conditions stand ahead of each. -/
import Derived.Test.YthhbbnfnejjpiaaGreatDoorSo5
import Derived.Test.YthhbbnfnejjpiaaGreatDoorSo28
import Derived.Test.YthhbbnfnejjpiaaGreatDoorSo29
import Derived.Test.YthhbbnfnejjpiaaGreatDoorSo30
import Derived.Test.YthhbbnfnejjpiaaGreatDoorSo37
import Derived.Below
import Derived.BigQuiet
import Derived.Deep.DeepCutAuto
import Derived.Deep.Draws
import Derived.Deep.LoopGhost
import Derived.Deep.QuietTactic
import Derived.Deep.RegionHeld3
import Derived.Deep.RegionLaw
import Derived.Defers
import Derived.Great.BuildSlice
import Derived.Laws.BytesString
import Derived.Laws.Cells
import Derived.Laws.Concat
import Derived.Laws.CopyOwn
import Derived.Laws.CopyRow
import Derived.Laws.NewBlocks
import Derived.Laws.OwnMore
import Derived.Laws.Pointers
import Derived.Laws.Rows
import Derived.Lib.BitFns
import Derived.Lib.Hide
import Derived.Lib.ItoaNum
import Derived.Lib.SliceRun
import Derived.Lib.TrailingZeros
import Derived.LoopIn
import Derived.LoopNIn
import Derived.Maps.AppendAt
import Derived.OrdersHeld
import Derived.OrdersIn
import Derived.OwnWalk
import Derived.OwnWalkIn
import Derived.RangeFuncBound
import Derived.RangeFuncBox
import Derived.RangeFuncCalls
import Derived.RangeFuncLeaves
import Derived.RangeFuncNested
import Derived.RangeFuncWrites
import Derived.RowKit3
import Derived.Shelf.Abstract
import Derived.Shelf.RegionOpen
import Derived.Shelf.Spec.TrailingZeros
import Derived.StillTactics
import Derived.StillTailTactics
import Derived.TacticsInMore
import Derived.Test.YthhbbnfnejjpiaaGreatDoorProg
import Derived.WalkKit
import Derived.WalkLawsBesides
import Derived.WalkMore
import Derived.WalkSpells
set_option linter.unusedVariables false
set_option linter.unusedSimpArgs false
set_option exponentiation.threshold 10000
namespace Go.Proofs.YthhbbnfnejjpiaaGreatDoor
open Go.RowKit GW NL MX
theorem fineAll_of {n mt cols k b:Nat}{x:Mx}(h:∀i,i<n→∀j,j<mt→Bd k (x i j))(hb:k*mt≤b)(hc:cols≤mt)(h9:2*bnd b (n-1)+2≤8192):FineAll n mt cols x:=fine_run (fit_start h hb) rfl hc (rk_lt n (startE x) cols) h9
theorem wide_bd {n k:Nat}{a b:Mx}{m:Nat}(h:∀i,i<n→∀j,j<n→Bd k (a i j))(h':∀i,i<n→∀j,j<m→Bd k (b i j)):∀i,i<n→∀j,j<n+m→Bd k (wideM n a b i j):=fun i hi j hj=>by
 unfold wideM
 split
 ·exact h i hi j ‹_›
 ·exact h' i hi _ (by omega)
theorem one_bd {k:Nat}(hk:1≤k)(i j:Nat):Bd k (oneM i j):=by
 unfold oneM
 split
 ·exact Bd.mono (k:=1) ⟨by decide+kernel,by decide+kernel⟩ hk
 ·exact Bd.mono (k:=1) ⟨by decide+kernel,by decide+kernel⟩ hk
theorem lints5_r (n m:Nat)(v:Nat→Nat→Int)(A:Option Addr)(c:Nat)(w:World)(hA:(heapOf w).Im A c n (fun _=>m) v)(n1:1≤n)(n2:n≤24)(m1:1≤m)(m2:m≤24):
  Calls Tryz.prog 49 #[.slice A n c] w (RMt n (fun _=>m) (rawM (intM v)) w):=by
 refine calls_b fun g=>?_
 have HA:=Lib.hid hA
 have C:=Lib.hid (fun w h=>rInts_r n m v A c w h n1 n2 m1 m2)
 unfold RMtE at C
 unfold RMt
 clear hA n1 n2 m1 m2
 go_enter Tryz.func49,Tryz.ntmps49
 go_wp2_with (with_reducible refine yq _ ?_;(try generalize (G.w _).heap.size=bk);(try dsimp only[yi,yj]);(try clear g);intro g)
 refine(C.out _ (HA.out.mono (g.sub _ (by simp)))).mono ?_
 rintro e w1 ⟨ba,ca,Fa,rfl,ha,hn⟩
 have hnna:=fun k o hk=>Nat.le_trans g.chg.size (hn.new k o hk)
 obtain⟨g1,rfl⟩:=G.new_ex _ hn
 clear hn
 (try clear g)
 revert g1
 intro g
 go_wp2_with (with_reducible refine yq _ ?_;(try generalize (G.w _).heap.size=bk);(try dsimp only[yi,yj]);(try clear g);intro g)
 go_ret
 exact⟨_,_,_,rfl,ha,G.below _,G.sub _ _ (by simp),hnna⟩
/-- two by two, written out -/
theorem mx2 {x y:Mx}(h:∀i:Fin 2,∀j:Fin 2,x i j=y i j):∀i,i<2→∀j,j<2→x i j=y i j:=fun i hi j hj=>h ⟨i,hi⟩ ⟨j,hj⟩
def invL:Mx:=fun i j=>if i=0 then(if j=0 then -2 else 1) else(if j=0 then 3/2 else -1/2)
theorem live_mul:∀i,i<2→∀j,j<2→mulM 2 (intM (m22 1 2 3 4)) (intM (m22 2 1 1 2)) i j=intM (m22 4 5 10 11) i j:=mx2 (by decide+kernel)
theorem live_det:detV 2 (intM (m22 1 2 3 4))= -2:=by decide+kernel
theorem live_rank:rankM 2 2 (intM (m22 1 2 3 4))=2:=by decide+kernel
theorem live_inv:∀i,i<2→∀j,j<2→behindM 2 (intM (m22 1 2 3 4)) oneM i j=invL i j:=mx2 (by decide+kernel)
theorem bd22 {k:Nat}{x:Mx}(h:∀i:Fin 2,∀j:Fin 2,Bd k (x i j)):∀i,i<2→∀j,j<2→Bd k (x i j):=fun i hi j hj=>h ⟨i,hi⟩ ⟨j,hj⟩
theorem bd22a:∀i,i<2→∀j,j<2→Bd 4 (intM (m22 1 2 3 4) i j):=bd22 (by unfold Bd;decide+kernel)
theorem bd22b:∀i,i<2→∀j,j<2→Bd 4 (intM (m22 2 1 1 2) i j):=bd22 (by unfold Bd;decide+kernel)
theorem bd22p:∀i,i<2→∀t,t<2→∀j,j<2→Bd 8192 (intM (m22 1 2 3 4) i t*intM (m22 2 1 1 2) t j):=fun i hi t ht j hj=>((Bd.qn (bd22a i hi t ht)).mul (Bd.qn (bd22b t ht j hj))).bd' (by decide) (by decide)
theorem bd22s:∀i,i<2→∀j,j<2→∀t,t≤2→Bd 8192 (sumN t (fun l=>intM (m22 1 2 3 4) i l*intM (m22 2 1 1 2) l j)):=fun i hi j hj t ht=>(qn_sum (m:=t) (k:=8) (l:=8) (fun l hl=>(Bd.qn (bd22a i hi l (by omega))).mul (Bd.qn (bd22b l (by omega) j hj)))).bd' (by omega) (by omega)
set_option maxRecDepth 20000 in
set_option maxHeartbeats 8000000 in
theorem lives5_x (w:World)(hT:Tab w):Calls Tryz.prog 10 #[] w fun e w'=>e=.returned (.bool true)∧Below w.heap.size w w':=by
 refine calls_b fun g=>?_
 have HT:=Lib.hid hT
 clear hT
 have CI:=Lib.hid (fun v A c w h=>lints5_r 2 2 v A c w h (by decide) (by decide) (by decide) (by decide))
 unfold RMt at CI
 have CM:=Lib.hid (fun A B c cB w hA hB hT=>Mul_r 2 2 2 (intM (m22 1 2 3 4)) (intM (m22 2 1 1 2)) A B c cB w hA hB hT (by decide) (by decide) (by decide) (by decide) (by decide) (by decide) (fun i hi j hj=>(bd22a i hi j hj).mono (by decide)) (fun i hi j hj=>(bd22b i hi j hj).mono (by decide)) bd22p bd22s)
 unfold RMtE at CM
 have CD:=Lib.hid (fun F0 A c w hF hA hT=>Det_r F0 2 (intM (m22 1 2 3 4)) A c w hF hA hT (by decide) (by decide) (fun i hi j hj=>(bd22a i hi j hj).mono (by decide)) (fineAll_of bd22a (b:=8) (by decide) (by decide) (by decide)))
 rw[live_det] at CD
 have CV:=Lib.hid (fun F0 A c w hF hA hT=>Inv_r F0 2 (intM (m22 1 2 3 4)) A c w hF hA hT (by decide) (by decide) (fun i hi j hj=>(bd22a i hi j hj).mono (by decide)) (fineAll_of (wide_bd bd22a (fun i _ j _=>one_bd (by decide) i j)) (b:=16) (by decide) (by decide) (by decide)))
 unfold RBeh at CV
 rw[live_rank] at CV
 have CS:=Lib.hid (fun x A B c d w hA hB=>lis5_x 2 (fun _=>2) x A B c d w hA hB (by decide) (fun _ _=>by decide))
 have CN:=Lib.hid (fun p q r w h=>lnum5_x (-2) 1 (-2) (by decide) (by decide+kernel) (by decide) (by decide) (by decide) (by decide) p q r w h)
 have CO:=Lib.hid (fun(a b:Int) (z:Rat) (hb:b≠0) (e:frac (decide (a<0) !=decide (b<0)) a.natAbs b.natAbs=z) (h1:I64 a) (h2:I64 b) w=>lof5_r a b z hb e h1.1 h1.2 h2.1 h2.2 w)
 unfold RT1 at CO
 go_enter Tryz.func10,Tryz.ntmps10
 go_wp2_with (with_reducible refine yq _ ?_;(try generalize (G.w _).heap.size=bk);(try dsimp only[yi,yj]);(try clear g);intro g)
 refine(CI.out (m22 1 2 3 4) _ _ _ (im22 g 1 2 3 4 (.head _) (.tail _ (.tail _ (.head _))) (.tail _ (.head _)) (by decide) (by decide) (by decide) (by decide))).mono ?_
 rintro e w1 ⟨ba,ca,Fa,rfl,ha,hn⟩
 have hnna:=fun k o hk=>Nat.le_trans g.chg.size (hn.new k o hk)
 obtain⟨g1,rfl⟩:=G.new_ex _ hn
 clear hn
 (try clear g)
 revert g1
 intro g
 go_wp2_with (with_reducible refine yq _ ?_;(try generalize (G.w _).heap.size=bk);(try dsimp only[yi,yj]);(try clear g);intro g)
 refine(CI.out (m22 2 1 1 2) _ _ _ (im22 g 2 1 1 2 (.head _) (.tail _ (.tail _ (.head _))) (.tail _ (.head _)) (by decide) (by decide) (by decide) (by decide))).mono ?_
 rintro e w1 ⟨bb,cb,Fb,rfl,hb,hn⟩
 have hnnb:=fun k o hk=>Nat.le_trans g.chg.size (hn.new k o hk)
 obtain⟨g1,rfl⟩:=G.new_ex _ hn
 clear hn
 (try clear g)
 revert g1
 intro g
 obtain⟨g2,hg2⟩:=G.less g (M':=[]) (List.nil_sublist _)
 rw[hg2]
 clear hg2
 (try clear g)
 revert g2
 intro g
 go_wp2_with (with_reducible refine yq _ ?_;(try generalize (G.w _).heap.size=bk);(try dsimp only[yi,yj]);(try clear g);intro g)
 refine(CM.out _ _ _ _ _ (ha.mono (g.sub _ (by simp))) (hb.mono (g.sub _ (by simp))) (G.tab g HT.out)).mono ?_
 rintro e w1 ⟨bm,cm,Fm,rfl,hm,hn⟩
 have hnnm:=fun k o hk=>Nat.le_trans g.chg.size (hn.new k o hk)
 obtain⟨g1,rfl⟩:=G.new_ex _ hn
 clear hn
 (try clear g)
 revert g1
 intro g
 go_wp2_with (with_reducible refine yq _ ?_;(try generalize (G.w _).heap.size=bk);(try dsimp only[yi,yj]);(try clear g);intro g)
 refine(CD.out Fa _ _ _ (g.sub _ (by simp)) ha (G.tab g HT.out)).mono ?_
 rintro e w1 ⟨pd,qd,rd,Fd,rfl,hd,hn⟩
 obtain⟨sd,Ad,nd,cd,Bd,dd,kd,rfl,rfl,rfl⟩:=hd.shape
 obtain⟨g1,rfl,hod⟩:=G.nor_ex _ (by simp) hn
 clear hn
 (try clear g)
 revert g1
 intro g
 go_wp2_with (with_reducible refine yq _ ?_;(try generalize (G.w _).heap.size=bk);(try dsimp only[yi,yj]);(try clear g);intro g)
 (try(refine cmark _ ?_;(try dsimp only[yi,yj]);(try clear g);intro g))
 refine(CV.out Fa _ _ _ (g.sub _ (by simp)) ha (G.tab g HT.out)).mono ?_
 rintro e w1 (⟨hr,_⟩|⟨_,bi,ki,Fi,rfl,hmi,hno⟩)
 ·exact absurd hr (by decide)
 obtain⟨g1,rfl,hoi⟩:=G.nor_ex _ (by simp) hno
 clear hno g
 revert g1
 intro g
 have hmm:Fm.Mt (some ⟨bm,0,none⟩) cm 2 (fun _=>2) (rawM (intM (m22 4 5 10 11))):=hm.congr (fun _ _=>rfl) (fun i hi j hj=>congrArg rawOf (live_mul i hi j hj))
 have hii:Fi.Mt (some ⟨bi,0,none⟩) ki 2 (fun _=>2) (rawM invL):=hmi.congr (fun _ _=>rfl) (fun i hi j hj=>congrArg rawOf (live_inv i hi j hj))
 clear hm hmi CM CD CV
 (as_aux_lemma=>
  go_wp2_with (with_reducible refine yq _ ?_;(try generalize (G.w _).heap.size=bk);(try dsimp only[yi,yj]);(try clear g);intro g)
  refine(CI.out (m22 4 5 10 11) _ _ _ (im22 g 4 5 10 11 (.head _) (.tail _ (.tail _ (.head _))) (.tail _ (.head _)) (by decide) (by decide) (by decide) (by decide))).mono ?_
  rintro e w1 ⟨bx,cx,Fx,rfl,hx,hn⟩
  have hnnx:=fun k o hk=>Nat.le_trans g.chg.size (hn.new k o hk)
  obtain⟨g1,rfl⟩:=G.new_ex _ hn
  clear hn
  (try clear g)
  revert g1
  intro g
  go_wp2_with (with_reducible refine yq _ ?_;(try generalize (G.w _).heap.size=bk);(try dsimp only[yi,yj]);(try clear g);intro g)
  refine(CS.out _ _ _ _ _ _ (hmm.mono (g.sub _ (by simp))) (hx.mono (g.sub _ (by simp)))).mono ?_
  rintro e w1 ⟨rfl,hb⟩
  obtain⟨g1,rfl⟩:=G.call_ex _ hb
  clear hb
  (try clear g)
  revert g1
  intro g
  go_wp2_with (with_reducible refine yq _ ?_;(try generalize (G.w _).heap.size=bk);(try dsimp only[yi,yj]);(try clear g);intro g)
  refine(CN.out _ _ _ _ (G.rtI g (by simp) hd)).mono ?_
  rintro e w1 ⟨rfl,hb⟩
  obtain⟨g1,rfl⟩:=G.call_ex _ hb
  clear hb
  (try clear g)
  revert g1
  intro g
  go_wp2_with (with_reducible refine yq _ ?_;(try generalize (G.w _).heap.size=bk);(try dsimp only[yi,yj]);(try clear g);intro g)
  (as_aux_lemma=>
   refine(CO.out (-2) 1 (-2) (by decide) (by decide+kernel) (by decide) (by decide) _).mono ?_
   rintro e w1 ⟨po1,qo1,ro1,Fo1,rfl,ho1,hn⟩
   have hnno1:=fun k o hk=>Nat.le_trans g.chg.size (hn.new k o hk)
   obtain⟨so1,Ao1,no1,co1,Bo1,do1,ko1,rfl,rfl,rfl⟩:=ho1.shape
   obtain⟨g1,rfl⟩:=G.new_ex _ hn
   clear hn
   (try clear g)
   revert g1
   intro g
   go_wp2_with (with_reducible refine yq _ ?_;(try generalize (G.w _).heap.size=bk);(try dsimp only[yi,yj]);(try clear g);intro g)
   refine(CO.out 1 1 1 (by decide) (by decide+kernel) (by decide) (by decide) _).mono ?_
   rintro e w1 ⟨po2,qo2,ro2,Fo2,rfl,ho2,hn⟩
   have hnno2:=fun k o hk=>Nat.le_trans g.chg.size (hn.new k o hk)
   obtain⟨so2,Ao2,no2,co2,Bo2,do2,ko2,rfl,rfl,rfl⟩:=ho2.shape
   obtain⟨g1,rfl⟩:=G.new_ex _ hn
   clear hn
   (try clear g)
   revert g1
   intro g
   go_wp2_with (first|(with_reducible refine yq _ ?_;(try generalize (G.w _).heap.size=bk);(try dsimp only[yi,yj]);(try clear g);intro g)|(refine bslice2 (by rfl) _ _ (by rfl) (by rfl) (by rfl) g ?_;(try clear g);intro b2 g))
   refine(CO.out 3 2 (3/2) (by decide) (by decide+kernel) (by decide) (by decide) _).mono ?_
   rintro e w1 ⟨po3,qo3,ro3,Fo3,rfl,ho3,hn⟩
   have hnno3:=fun k o hk=>Nat.le_trans g.chg.size (hn.new k o hk)
   obtain⟨so3,Ao3,no3,co3,Bo3,do3,ko3,rfl,rfl,rfl⟩:=ho3.shape
   obtain⟨g1,rfl⟩:=G.new_ex _ hn
   clear hn
   (try clear g)
   revert g1
   intro g
   go_wp2_with (with_reducible refine yq _ ?_;(try generalize (G.w _).heap.size=bk);(try dsimp only[yi,yj]);(try clear g);intro g)
   refine(CO.out (-1) 2 (-1/2) (by decide) (by decide+kernel) (by decide) (by decide) _).mono ?_
   rintro e w1 ⟨po4,qo4,ro4,Fo4,rfl,ho4,hn⟩
   have hnno4:=fun k o hk=>Nat.le_trans g.chg.size (hn.new k o hk)
   obtain⟨so4,Ao4,no4,co4,Bo4,do4,ko4,rfl,rfl,rfl⟩:=ho4.shape
   obtain⟨g1,rfl⟩:=G.new_ex _ hn
   clear hn
   (try clear g)
   revert g1
   intro g
   go_wp2_with (first|(with_reducible refine yq _ ?_;(try generalize (G.w _).heap.size=bk);(try dsimp only[yi,yj]);(try clear g);intro g)|(refine bslice2 (by rfl) _ _ (by rfl) (by rfl) (by rfl) g ?_;(try clear g);intro b2 g))
   (as_aux_lemma=>
    have hl:(heapOf g.w).Mt _ _ 2 (fun _=>2) (rawM invL):=mtM g (.head _) (by decide) (two_cases ⟨_,_,rfl,rwM g _ (.tail _ (.tail _ (.head _))) (tris2 (x:=rawM invL 0) (G.rtI g (by simp) ho1) (G.rtI g (by simp) ho2)) (by decide)⟩ ⟨_,_,rfl,rwM g _ (.tail _ (.head _)) (tris2 (x:=rawM invL 1) (G.rtI g (by simp) ho3) (G.rtI g (by simp) ho4)) (by decide)⟩)
    refine(CS.out _ _ _ _ _ _ (hii.mono (g.sub _ (by simp))) hl).mono ?_
    rintro e w1 ⟨rfl,hb⟩
    obtain⟨g1,rfl⟩:=G.call_ex _ hb
    clear hb
    (try clear g)
    revert g1
    intro g
    go_wp2_with (with_reducible refine yq _ ?_;(try generalize (G.w _).heap.size=bk);(try dsimp only[yi,yj]);(try clear g);intro g)
    go_ret
    exact⟨rfl,G.below _⟩)))
end Go.Proofs.YthhbbnfnejjpiaaGreatDoor
namespace Go.Proofs.YthhbbnfnejjpiaaGreatDoor
open Go.RowKit GW NL MX
theorem listE_all {x:Nat→Raw}:∀ {n:Nat},listE x n=0→∀j,j<n→numE (x j)=0
 |0,_,j,h=>absurd h (Nat.not_lt_zero j)
 |n+1,h,j,hj=>by
  unfold listE at h
  by_cases h0:listE x n=0
  ·rw[if_pos h0] at h
   by_cases hjn:j=n
   ·subst hjn;exact h
   ·exact listE_all h0 j (by omega)
  ·rw[if_neg h0] at h;exact absurd h h0
theorem rowsE_all {m:Nat→Nat}{x:Nat→Nat→Raw}:∀ {n:Nat},rowsE m x n=0→∀i,i<n→rowE m x i=0
 |0,_,i,h=>absurd h (Nat.not_lt_zero i)
 |n+1,h,i,hi=>by
  unfold rowsE at h
  by_cases h0:rowsE m x n=0
  ·rw[if_pos h0] at h
   by_cases hin:i=n
   ·subst hin;exact h
   ·exact rowsE_all h0 i (by omega)
  ·rw[if_neg h0] at h;exact absurd h h0
/-- The limbs of what lies in memory are below 2^32. -/
theorem mt_ok {f:Frag}{A:Option Addr}{c n:Nat}{m:Nat→Nat}{x:Nat→Nat→Raw}(h:f.Mt A c n m x){i j:Nat}(hi:i<n)(hj:j<m i):Ok (x i j).2.1∧Ok (x i j).2.2:=by
 obtain⟨b,o,_,hrow⟩:=h.rowAt (by omega)
 obtain⟨B,k,_,hrw⟩:=hrow i hi
 obtain⟨b2,o2,_,hnum⟩:=hrw.num (by omega)
 obtain⟨p,q,r,_,_,⟨_,_,_,h1⟩,_,_,_,h2⟩:=hnum j hj
 exact⟨h1.ok,h2.ok⟩
theorem rw_ok {f:Frag}{A:Option Addr}{c n:Nat}{x:Nat→Raw}(h:f.Rw A c n x){j:Nat}(hj:j<n):Ok (x j).2.1∧Ok (x j).2.2:=by
 obtain⟨b2,o2,_,hnum⟩:=h.num (by omega)
 obtain⟨p,q,r,_,_,⟨_,_,_,h1⟩,_,_,_,h2⟩:=hnum j hj
 exact⟨h1.ok,h2.ok⟩
theorem numE_rat {t:Raw}(h:numE t=0)(h1:Ok t.2.1)(h2:Ok t.2.2)(h3:SzT t):∃z:Rat,t=rawOf z∧Bd 64 z:=by
 obtain⟨s,l,m⟩:=t
 obtain⟨z,rfl,rfl,rfl,_⟩:=rchk_val h1 h2 h
 refine⟨z,rfl,?_⟩
 have e:=limbs_len (rn z) 2
 have e2:=limbs_len z.den 2
 exact⟨e.1 h3.1,e2.1 h3.2⟩
/-- A matrix of n rows of k numbers of at most 64 bits. -/
def VM (n:Nat)(m:Nat→Nat)(x:Nat→Nat→Raw)(k:Nat)(X:Mx):Prop:=(∀i,i<n→m i=k)∧∀i,i<n→∀j,j<k→x i j=rawM X i j∧Bd 64 (X i j)
theorem valM {f:Frag}{A:Option Addr}{c n:Nat}{m:Nat→Nat}{x:Nat→Nat→Raw}(hA:f.Mt A c n m x)(h:matE n m x=0)(hs:SzM n m x):∃X:Mx,VM n m x (m 0) X:=by
 have hp:=matE_pos h
 unfold matE at h
 rw[if_pos (show shpE n (m 0)=0 from by unfold shpE;rw[if_neg (by omega)])] at h
 have hr:=rowsE_all h
 have hm:∀i,i<n→m i=m 0∧listE (x i) (m i)=0:=fun i hi=>by
  have:=hr i hi
  unfold rowE at this
  by_cases h0:m i=m 0
  ·rw[if_pos h0] at this;exact⟨h0,this⟩
  ·rw[if_neg h0] at this;exact absurd this (by decide)
 have hz:∀i j,∃z:Rat,i<n→j<m 0→x i j=rawOf z∧Bd 64 z:=fun i j=>by
  by_cases hi:i<n
  ·by_cases hj:j<m 0
   ·have hj':j<m i:=by rw[(hm i hi).1];exact hj
    have ok:=mt_ok hA hi hj'
    obtain⟨z,h1,h2⟩:=numE_rat (listE_all (hm i hi).2 j hj') ok.1 ok.2 ((hs.2 i hi).2 j hj')
    exact⟨z,fun _ _=>⟨h1,h2⟩⟩
   ·exact⟨0,fun _ h=>absurd h hj⟩
  ·exact⟨0,fun h=>absurd h hi⟩
 exact⟨fun i j=>(hz i j).choose,fun i hi=>(hm i hi).1,fun i hi j hj=>(hz i j).choose_spec hi hj⟩
theorem VM.mt {f:Frag}{A:Option Addr}{c n k:Nat}{m:Nat→Nat}{x:Nat→Nat→Raw}{X:Mx}(h:VM n m x k X)(hA:f.Mt A c n m x):f.Mt A c n (fun _=>k) (rawM X):=
 hA.congr h.1 (fun i hi j hj=>(h.2 i hi j (by rw[←h.1 i hi];exact hj)).1)
theorem VM.bd {n k:Nat}{m:Nat→Nat}{x:Nat→Nat→Raw}{X:Mx}(h:VM n m x k X):∀i,i<n→∀j,j<k→Bd 8192 (X i j):=fun i hi j hj=>(h.2 i hi j hj).2.mono (by decide)
theorem New.none {w w':World}(h:Below w.heap.size w w'):New w w' (fun _=>Option.none):=⟨h,fun k o e=>(by cases e),fun k o e=>(by cases e)⟩
end Go.Proofs.YthhbbnfnejjpiaaGreatDoor
namespace Go.Proofs.YthhbbnfnejjpiaaGreatDoor
open Go.RowKit GW NL MX
theorem rowF_dot {b b' n:Nat}{r s:Nat→Rat}(h:RowF b n r)(k:RowF b' n s)(hn:n≤16):∀j,j≤n→Qn (b+b'+4) (b+b') (sumN j (fun t=>r t*s t)):=by
 obtain⟨D,d0,d1,d2⟩:=h
 obtain⟨E,e0,e1,e2⟩:=k
 have key:∀j,j≤n→∃S:Int,S.natAbs≤j*2^(b+b')∧sumN j (fun t=>r t*s t)*((D*E:Nat):Rat)=(S:Rat):=by
  intro j
  induction j with
  |zero=>exact fun _=>⟨0,by simp,by show(0:Rat)*_=_;grind⟩
  |succ j ih=>
   intro hj
   obtain⟨S,h1,h2⟩:=ih (by omega)
   obtain⟨N,n1,n2⟩:=d2 _ (mem_row r (show j<n by omega))
   obtain⟨M,m1,m2⟩:=e2 _ (mem_row s (show j<n by omega))
   refine⟨S+N*M,?_,?_⟩
   ·have h3:(N*M).natAbs≤2^(b+b'):=by rw[Int.natAbs_mul,Nat.pow_add];exact Nat.mul_le_mul n1 m1
    have h4:=Int.natAbs_add_le S (N*M)
    rw[Nat.succ_mul]
    omega
   ·show(sumN j (fun t=>r t*s t)+r j*s j)*_=_
    have e:((D*E:Nat):Rat)=(D:Rat)*(E:Rat):=by simp
    have e3:((S+N*M:Int):Rat)=(S:Rat)+(N:Rat)*(M:Rat):=by simp
    rw[e] at h2
    rw[e,e3,←h2,←n2,←m2]
    grind
 intro j hj
 obtain⟨S,h1,h2⟩:=key j hj
 refine⟨D*E,S,Nat.mul_pos d0 e0,by rw[Nat.pow_add];exact Nat.mul_le_mul d1 e1,Nat.le_trans h1 ?_,h2⟩
 rw[Nat.pow_add 2 (b+b') 4,Nat.mul_comm (2^(b+b'))]
 exact Nat.mul_le_mul_right _ (by omega)
theorem rowF_shift {b m n k:Nat}{r:Nat→Rat}(h:RowF b m r)(hk:n+k≤m):RowF b k (fun j=>r (n+j)):=by
 obtain⟨D,d0,d1,d2⟩:=h
 refine⟨D,d0,d1,fun x hx=>?_⟩
 obtain⟨j,hj,rfl⟩:=List.mem_map.1 hx
 exact d2 _ (mem_row r (show n+j<m by have:=List.mem_range.1 hj;omega))
theorem bnd_256 {n:Nat}(hn:n≤4):bnd 256 n≤4111:=bnd_mono 256 hn
section
variable {n:Nat}{X:Mx}(hn:n≤4)(hX:∀i,i<n→∀j,j<n→Bd 64 (X i j))
include hn hX
theorem fit_inv:Fit n (n+n) 256 (startE (wideM n X oneM)):=⟨fun i hi=>rowF_wide_one n (fun j hj=>hX i hi j hj) (by omega),Qn.one _ _⟩
theorem fine_inv:FineAll n (n+n) n (wideM n X oneM):=fine_run (fit_inv hn hX) rfl (by omega) (rk_lt n (startE (wideM n X oneM)) n) (by
 have:bnd 256 (n-1)≤2055:=bnd_mono 256 (show n-1≤3 by omega)
 omega)
theorem behind_row {i:Nat}(hi:i<n):RowF 4111 n (behindM n X oneM i):=RowF.mono (rowF_shift (n:=n) (k:=n) ((fit_run (fit_inv hn hX) n (by omega)).row i hi) (Nat.le_refl _)) (bnd_256 hn)
theorem behind_bd:∀i,i<n→∀j,j<n→Bd 8192 (behindM n X oneM i j):=fun i hi j hj=>(behind_row hn hX hi).bdk hj (by decide)
theorem det_bd:Bd 8192 (runE n (startE X) n).det:=((fit_run (fit_start hX (b:=256) (by omega)) n (Nat.le_refl n)).det.mono (bnd_256 hn) (bnd_256 hn)).bd' (by decide) (by decide)
theorem fine_sq:FineAll n n n X:=fineAll_of hX (b:=256) (by omega) (Nat.le_refl _) (by
 have:bnd 256 (n-1)≤2055:=bnd_mono 256 (show n-1≤3 by omega)
 omega)
variable {v:Nat→Rat}(hv:∀i,i<n→Bd 64 (v i))
include hv
theorem fine_sol:FineAll n (n+1) n (wideM n X (colM v)):=fineAll_of (wide_bd hX (fun i hi j _=>hv i hi)) (b:=320) (by omega) (by omega) (by
 have:bnd 320 (n-1)≤2567:=bnd_mono 320 (show n-1≤3 by omega)
 omega)
theorem sol_sum {i:Nat}(hi:i<n)(j:Nat)(hj:j≤n):Bd 8192 (sumN j (fun k=>behindM n X oneM i k*v k)):=(rowF_dot (behind_row hn hX hi) (rowF_init hv (show 64*n≤256 by omega)) (by omega) j hj).bd' (by decide) (by decide)
theorem sol_pro {i:Nat}(hi:i<n)(j:Nat)(hj:j<n):Bd 8192 (behindM n X oneM i j*v j):=(((behind_row hn hX hi).qn hj).mul (Bd.qn (hv j hj))).bd' (by decide) (by decide)
end
theorem fine_rk {n m:Nat}{X:Mx}(hn:n≤4)(hm:m≤4)(hX:∀i,i<n→∀j,j<m→Bd 64 (X i j)):FineAll n m m X:=fineAll_of hX (b:=256) (by omega) (Nat.le_refl _) (by
 have:bnd 256 (n-1)≤2055:=bnd_mono 256 (show n-1≤3 by omega)
 omega)
/-- what returns a number, a matrix, a list, and an error -/
def RTO (F0:Frag)(E:Int)(t:Raw)(w:World)(e:Ending)(w':World):Prop:=∃p q r H,e=.returned (.tuple #[.agg #[p,q,r],.int .i64 E])∧Frag.Rt H p q r t∧NewOr F0 w w' H
def RMO (F0:Frag)(E:Int)(N K:Nat)(Z:Mx)(w:World)(e:Ending)(w':World):Prop:=∃A c H,e=.returned (.tuple #[.slice A N c,.int .i64 E])∧Frag.Mt H A c N (fun _=>K) (rawM Z)∧NewOr F0 w w' H
def RLO (F0:Frag)(E:Int)(N:Nat)(z:Nat→Raw)(w:World)(e:Ending)(w':World):Prop:=∃A c H,e=.returned (.tuple #[.slice A N c,.int .i64 E])∧Frag.Rw H A c N z∧NewOr F0 w w' H
def RIO (E k:Int)(w:World)(e:Ending)(w':World):Prop:=e=.returned (.tuple #[.int .i64 k,.int .i64 E])∧Below w.heap.size w w'
theorem NewOr.none {F0:Frag}{w w':World}(h:Below w.heap.size w w'):NewOr F0 w w' (fun _=>Option.none):=(New.none h).or F0
theorem RTO.err {F0:Frag}{E:Int}{w w':World}{e:Ending}(h:RErrR E w e w'):RTO F0 E rawZ w e w':=
 ⟨_,_,_,fun _=>Option.none,h.1,⟨rfl,⟨Option.none,0,rfl,Frag.Sl.nil _ _⟩,Option.none,0,rfl,Frag.Sl.nil _ _⟩,NewOr.none h.2⟩
theorem RMO.err {F0:Frag}{E:Int}{w w':World}{e:Ending}(h:RErr E w e w'):RMO F0 E 0 0 zM w e w':=⟨Option.none,0,fun _=>Option.none,h.1,Frag.Mt.nil _ _ _ _,NewOr.none h.2⟩
theorem RLO.err {F0:Frag}{E:Int}{w w':World}{e:Ending}(h:RErr E w e w'):RLO F0 E 0 (fun _=>rawZ) w e w':=⟨Option.none,0,fun _=>Option.none,h.1,Frag.Rw.nil _ _ _,NewOr.none h.2⟩
theorem RMO.beh {F0:Frag}{n:Nat}{x z:Mx}{w w':World}{e:Ending}(h:RBeh F0 n n x z w e w'):if rankM n n x<n then RMO F0 15 0 0 zM w e w' else RMO F0 0 n n z w e w':=by
 rcases h with⟨h1,h2,h3⟩|⟨h1,b,k,H,h2,h3,h4⟩
 ·rw[if_pos h1];exact RMO.err ⟨h2,h3⟩
 ·rw[if_neg (by omega)];exact⟨_,k,H,h2,h3,h4⟩
theorem RLO.sol {F0:Frag}{n:Nat}{x:Mx}{v:Nat→Rat}{w w':World}{e:Ending}(h:RSol F0 n x v w e w'):if rankM n n x<n then RLO F0 15 0 (fun _=>rawZ) w e w' else RLO F0 0 n (rawR (fun i=>behindM n x (colM v) i 0)) w e w':=by
 rcases h with⟨h1,h2,h3⟩|⟨h1,b,k,H,h2,h3,h4⟩
 ·rw[if_pos h1];exact RLO.err ⟨h2,h3⟩
 ·rw[if_neg (by omega)];exact⟨_,k,H,h2,h3,h4⟩
theorem sqE_zero {n:Nat}{m:Nat→Nat}{x:Nat→Nat→Raw}(h:sqE n m x=0):matE n m x=0∧n=m 0:=by
 unfold sqE at h
 by_cases h1:matE n m x=0
 ·rw[if_pos h1] at h
  by_cases h2:n=m 0
  ·exact⟨h1,h2⟩
  ·rw[if_neg h2] at h;exact absurd h (by decide)
 ·rw[if_neg h1] at h;exact absurd h h1
section
variable {F0:Frag}{A:Option Addr}{c n:Nat}{m:Nat→Nat}{x:Nat→Nat→Raw}
theorem det_both (hA:F0.Mt A c n m x)(hs:SzM n m x):∃(E:Int) (t:Raw),(∀w,F0.sub w→Tab w→Calls Tryz.prog 19 #[.slice A n c] w (RTO F0 E t w))∧(∀w,F0.sub w→Calls Tryz.prog 20 #[.slice A n c] w (RTO F0 E t w)):=by
 by_cases h0:sqE n m x=0
 ·obtain⟨h1,h2⟩:=sqE_zero h0
  have hp:=matE_pos h1
  obtain⟨X,hX⟩:=valM hA h1 hs
  rw[←h2] at hX
  have hb:=fun i hi j hj=>(hX.2 i hi j hj).2
  exact⟨0,rawOf (detV n X),fun w hF t=>(Det_r F0 n X A c w hF (hX.mt hA) t hp.1.1 hp.1.2 hX.bd (fine_sq hs.1 hb)).mono fun _ _ h=>h,fun w hF=>(rDet_r F0 n X A c w hF (hX.mt hA) hp.1.1 hp.1.2 hX.bd (fine_sq hs.1 hb) (det_bd hs.1 hb)).mono fun _ _ h=>h⟩
 ·exact⟨_,rawZ,fun w hF t=>(Det_e n m x A c _ w (hA.mono hF) t rfl h0).mono fun _ _ h=>RTO.err h,fun w hF=>(rDet_e n m x A c _ w (hA.mono hF) rfl h0).mono fun _ _ h=>RTO.err h⟩
theorem inv_both (hA:F0.Mt A c n m x)(hs:SzM n m x):∃(E:Int) (N K:Nat) (Z:Mx),(N≤1000∧K≤1000)∧(∀w,F0.sub w→Tab w→Calls Tryz.prog 21 #[.slice A n c] w (RMO F0 E N K Z w))∧(∀w,F0.sub w→Calls Tryz.prog 22 #[.slice A n c] w (RMO F0 E N K Z w)):=by
 by_cases h0:sqE n m x=0
 ·obtain⟨h1,h2⟩:=sqE_zero h0
  have hp:=matE_pos h1
  obtain⟨X,hX⟩:=valM hA h1 hs
  rw[←h2] at hX
  have hb:=fun i hi j hj=>(hX.2 i hi j hj).2
  have c1:=fun w hF t=>Inv_r F0 n X A c w hF (hX.mt hA) t hp.1.1 hp.1.2 hX.bd (fine_inv hs.1 hb)
  have c2:=fun w hF=>rInv_r F0 n X A c w hF (hX.mt hA) hp.1.1 (by have:=hs.1;omega) hX.bd (fine_inv hs.1 hb) (behind_bd hs.1 hb)
  by_cases hr:rankM n n X<n
  ·exact⟨15,0,0,zM,by decide,fun w hF t=>(c1 w hF t).mono fun _ _ h=>by have:=RMO.beh h;rwa[if_pos hr] at this,fun w hF=>(c2 w hF).mono fun _ _ h=>by have:=RMO.beh h;rwa[if_pos hr] at this⟩
  ·exact⟨0,n,n,behindM n X oneM,by omega,fun w hF t=>(c1 w hF t).mono fun _ _ h=>by have:=RMO.beh h;rwa[if_neg hr] at this,fun w hF=>(c2 w hF).mono fun _ _ h=>by have:=RMO.beh h;rwa[if_neg hr] at this⟩
 ·exact⟨_,0,0,zM,by decide,fun w hF t=>(Inv_e n m x A c _ w (hA.mono hF) t rfl h0).mono fun _ _ h=>RMO.err h,fun w hF=>(rInv_e n m x A c _ w (hA.mono hF) rfl h0).mono fun _ _ h=>RMO.err h⟩
theorem rank_both (hA:F0.Mt A c n m x)(hs:SzM n m x):∃(E k:Int),(∀w,F0.sub w→Tab w→Calls Tryz.prog 25 #[.slice A n c] w (RIO E k w))∧(∀w,F0.sub w→Calls Tryz.prog 26 #[.slice A n c] w (RIO E k w)):=by
 by_cases h0:matE n m x=0
 ·have hp:=matE_pos h0
  obtain⟨X,hX⟩:=valM hA h0 hs
  have hb:=fun i hi j hj=>(hX.2 i hi j hj).2
  have h4:m 0≤4:=(hs.2 0 (by omega)).1
  exact⟨0,_,fun w hF t=>(Rank_r F0 n (m 0) X A c w hF (hX.mt hA) t hp.1.1 hp.1.2 hp.2.1 hp.2.2 hX.bd (fine_rk hs.1 h4 hb)).mono fun _ _ h=>h,fun w hF=>(rRank_r F0 n (m 0) X A c w hF (hX.mt hA) hp.1.1 hp.1.2 hp.2.1 hp.2.2 hX.bd (fine_rk hs.1 h4 hb)).mono fun _ _ h=>h⟩
 ·exact⟨_,0,fun w hF t=>(Rank_e n m x A c _ w (hA.mono hF) t rfl h0).mono fun _ _ h=>h,fun w hF=>(rRank_e n m x A c _ w (hA.mono hF) rfl h0).mono fun _ _ h=>h⟩
theorem valR {B:Option Addr}{d k:Nat}{y:Nat→Raw}(hB:F0.Rw B d k y)(h:listE y k=0)(hs:SzR k y):∃v:Nat→Rat,∀j,j<k→y j=rawR v j∧Bd 64 (v j):=by
 have hz:∀j,∃z:Rat,j<k→y j=rawOf z∧Bd 64 z:=fun j=>by
  by_cases hj:j<k
  ·have ok:=rw_ok hB hj
   obtain⟨z,h1,h2⟩:=numE_rat (listE_all h j hj) ok.1 ok.2 (hs.2 j hj)
   exact⟨z,fun _=>⟨h1,h2⟩⟩
  ·exact⟨0,fun h=>absurd h hj⟩
 exact⟨fun j=>(hz j).choose,fun j hj=>(hz j).choose_spec hj⟩
theorem solve_both {B:Option Addr}{d k:Nat}{y:Nat→Raw}(hA:F0.Mt A c n m x)(hB:F0.Rw B d k y)(hs:SzM n m x)(hs':SzR k y):∃(E:Int) (N:Nat) (z:Nat→Raw),N≤1000∧(∀w,F0.sub w→Tab w→Calls Tryz.prog 23 #[.slice A n c,.slice B k d] w (RLO F0 E N z w))∧(∀w,F0.sub w→Calls Tryz.prog 24 #[.slice A n c,.slice B k d] w (RLO F0 E N z w)):=by
 by_cases h0:slE n m x k y=0
 ·have h9:matE n m x=0∧listE y k=0∧n=m 0∧k=n:=by
   unfold slE at h0
   by_cases h1:matE n m x=0
   ·rw[if_pos h1] at h0
    by_cases h2:listE y k=0
    ·rw[if_pos h2] at h0
     by_cases h3:n=m 0∧k=n
     ·exact⟨h1,h2,h3⟩
     ·rw[if_neg h3] at h0;exact absurd h0 (by decide)
    ·rw[if_neg h2] at h0;exact absurd h0 h2
   ·rw[if_neg h1] at h0;exact absurd h0 h1
  obtain⟨h1,h3,h2,rfl⟩:=h9
  have hp:=matE_pos h1
  obtain⟨X,hX⟩:=valM hA h1 hs
  rw[←h2] at hX
  obtain⟨v,hv⟩:=valR hB h3 hs'
  have hb:=fun i hi j hj=>(hX.2 i hi j hj).2
  have hvb:=fun i hi=>(hv i hi).2
  have hB':=hB.congr (fun j hj=>(hv j hj).1)
  have c1:=fun w hF t=>Solve_r F0 k X v A B c d w hF (hX.mt hA) hB' t hp.1.1 hp.1.2 hX.bd (fun i hi=>(hvb i hi).mono (by decide)) (fine_sol hs.1 hb hvb)
  have c2:=fun w hF=>rSolve_r F0 k X v A B c d w hF (hX.mt hA) hB' hp.1.1 (by have:=hs.1;omega) hX.bd (fun i hi=>(hvb i hi).mono (by decide)) (fine_inv hs.1 hb) (behind_bd hs.1 hb) (fun i hi j hj=>sol_pro hs.1 hb hvb hi j hj) (fun i hi j hj=>sol_sum hs.1 hb hvb hi j hj)
  by_cases hr:rankM k k X<k
  ·exact⟨15,0,_,by decide,fun w hF t=>(c1 w hF t).mono fun _ _ h=>by have:=RLO.sol h;rwa[if_pos hr] at this,fun w hF=>(c2 w hF).mono fun _ _ h=>by have:=RLO.sol h;rwa[if_pos hr] at this⟩
  ·exact⟨0,k,_,by omega,fun w hF t=>(c1 w hF t).mono fun _ _ h=>by have:=RLO.sol h;rwa[if_neg hr] at this,fun w hF=>(c2 w hF).mono fun _ _ h=>by have:=RLO.sol h;rwa[if_neg hr] at this⟩
 ·exact⟨_,0,_,by decide,fun w hF t=>(Solve_e n k m x y A B c d _ w (hA.mono hF) (hB.mono hF) t rfl h0).mono fun _ _ h=>RLO.err h,fun w hF=>(rSolve_e n k m x y A B c d _ w (hA.mono hF) (hB.mono hF) rfl h0).mono fun _ _ h=>RLO.err h⟩
end
end Go.Proofs.YthhbbnfnejjpiaaGreatDoor
namespace Go.Proofs.YthhbbnfnejjpiaaGreatDoor
open Go.RowKit GW NL MX
set_option maxRecDepth 100000 in
set_option maxHeartbeats 16000000 in
theorem solves_walk (A B:Option Addr)(c d n k:Nat)(m:Nat→Nat)(x:Nat→Nat→Raw)(y:Nat→Raw)(W:World)(hA:(heapOf W).Mt A c n m x)(hB:(heapOf W).Rw B d k y)(hT:Tab W):
  Calls Tryz.prog 4 #[.slice A n c,.slice B k d] W fun e w'=>e=.returned (.bool true)∧Below W.heap.size W w':=by
 refine calls_b fun g=>?_
 have HA:=Lib.hid hA
 have HB:=Lib.hid hB
 have HT:=Lib.hid hT
 have CLV:=Lib.hid (fun w h=>lives5_x w h)
 have CLG:=Lib.hid (fun bs b1 w (hc:∀t,t<2→w.cell? ⟨bs,t,none⟩=some (.slice (if t=0 then A else some ⟨b1,0,none⟩) (if t=0 then n else 1) (if t=0 then c else 1))) hM=>large_any (fun t=>if t=0 then n else 1) (fun t=>if t=0 then m else fun _=>k) (fun t=>if t=0 then x else fun _=>y) (fun t=>if t=0 then A else some ⟨b1,0,none⟩) (fun t=>if t=0 then c else 1) bs w hc hM)
 clear hA hB hT
 go_enter Tryz.func4,Tryz.ntmps4
 go_wp2_with (with_reducible refine yq _ ?_;(try generalize (G.w _).heap.size=bk);(try dsimp only[yi,yj]);(try clear g);intro g)
 refine(CLV.out _ (G.tab g HT.out)).mono ?_
 rintro e w1 ⟨rfl,hb⟩
 obtain⟨g1,rfl⟩:=G.call_ex _ hb
 clear hb
 (try clear g)
 revert g1
 intro g
 go_wp2_with (with_reducible refine yq _ ?_;(try generalize (G.w _).heap.size=bk);(try dsimp only[yi,yj]);(try clear g);intro g)
 (try(refine cmark _ ?_;(try dsimp only[yi,yj]);(try clear g);intro g))
 refine(CLG.out _ _ _ (two_cases (G.cell0 g 0) (G.cell0 g 1)) (two_cases (HA.out.mono (g.sub _ (by simp))) (mtM g (n:=1) (m:=fun _=>k) (x:=fun _=>y) (.tail _ (.head _)) (by decide) (fun i hi=>by
  obtain rfl:i=0:=by omega
  exact⟨B,d,rfl,HB.out.mono (g.sub _ (by simp))⟩)))).mono ?_
 rintro e w1 ⟨Lg,hLg,rfl,hb⟩
 obtain⟨g1,rfl⟩:=G.call_ex _ hb
 clear hb g CLV CLG
 revert g1
 intro g
 cases Lg
 case true=>
  clear hLg
  go_wp2_with (with_reducible refine yq _ ?_;(try generalize (G.w _).heap.size=bk);(try dsimp only[yi,yj]);(try clear g);intro g)
  go_ret
  exact⟨rfl,G.below _⟩
 have hs1:SzM n m x:=hLg rfl 0 (by decide)
 have hs3:SzM 1 (fun _=>k) (fun _=>y):=hLg rfl 1 (by decide)
 have hs2:SzR k y:=hs3.2 0 (by decide)
 clear hs3
 obtain⟨E1,T1,h13,h14⟩:=det_both HA.out hs1
 obtain⟨E2,N2,K2,Z2,⟨h21,h22⟩,h23,h24⟩:=inv_both HA.out hs1
 obtain⟨E3,N3,Z3,h31,h33,h34⟩:=solve_both HA.out HB.out hs1 hs2
 obtain⟨E4,K4,h43,h44⟩:=rank_both HA.out hs1
 have C1:=Lib.hid h13
 have D1:=Lib.hid h14
 have C2:=Lib.hid h23
 have D2:=Lib.hid h24
 have C3:=Lib.hid h33
 have D3:=Lib.hid h34
 have C4:=Lib.hid h43
 have D4:=Lib.hid h44
 unfold RTO at C1 D1
 unfold RMO at C2 D2
 unfold RLO at C3 D3
 unfold RIO at C4 D4
 have S1:=Lib.hid (fun p q r p' q' r' w h h'=>rsame5_x T1 p q r p' q' r' w h h')
 have S2:=Lib.hid (fun A B c d w hA hB=>samemat_x N2 (fun _=>K2) (rawM Z2) A B c d w hA hB h21 (fun _ _=>h22))
 have S3:=Lib.hid (fun A B c d w hA hB=>samelist_x N3 Z3 A B c d w hA hB h31)
 clear hLg hs1 hs2 h13 h14 h21 h22 h23 h24 h31 h33 h34 h43 h44
 obtain⟨g2,hg2⟩:=G.less g (M':=[]) (List.nil_sublist _)
 rw[hg2]
 clear hg2 g
 revert g2
 intro g
 (as_aux_lemma=>
  go_wp2_with (with_reducible refine yq _ ?_;(try generalize (G.w _).heap.size=bk);(try dsimp only[yi,yj]);(try clear g);intro g)
  refine(C1.out _ (g.sub _ (by simp)) (G.tab g HT.out)).mono ?_
  rintro e w1 ⟨pa,qa,ra,Fa,rfl,ha,hn⟩
  obtain⟨sa,Aa,na,ca,Ba,da,ka,rfl,rfl,rfl⟩:=ha.shape
  obtain⟨g1,rfl,hoa⟩:=G.nor_ex _ (by simp) hn
  clear hn
  (try clear g)
  revert g1
  intro g
  go_wp2_with (with_reducible refine yq _ ?_;(try generalize (G.w _).heap.size=bk);(try dsimp only[yi,yj]);(try clear g);intro g)
  (try(refine cmark _ ?_;(try dsimp only[yi,yj]);(try clear g);intro g))
  refine(D1.out _ (g.sub _ (by simp))).mono ?_
  rintro e w1 ⟨pb,qb,rb,Fb,rfl,hb,hn⟩
  obtain⟨sb,Ab,nb,cb,Bb,db,kb,rfl,rfl,rfl⟩:=hb.shape
  obtain⟨g1,rfl,hob⟩:=G.nor_ex _ (by simp) hn
  clear hn
  (try clear g)
  revert g1
  intro g
  clear C1 D1
  go_wp2_with (with_reducible refine yq _ ?_;(try generalize (G.w _).heap.size=bk);(try dsimp only[yi,yj]);(try clear g);intro g)
  (try(refine cmark _ ?_;(try dsimp only[yi,yj]);(try clear g);intro g))
  refine(C2.out _ (g.sub _ (by simp)) (G.tab g HT.out)).mono ?_
  rintro e w1 ⟨A1,c1,F1,rfl,hm1,hn⟩
  obtain⟨g1,rfl,ho1⟩:=G.nor_ex _ (by simp) hn
  clear hn ho1
  (try clear g)
  revert g1
  intro g
  go_wp2_with (with_reducible refine yq _ ?_;(try generalize (G.w _).heap.size=bk);(try dsimp only[yi,yj]);(try clear g);intro g)
  refine(D2.out _ (g.sub _ (by simp))).mono ?_
  rintro e w1 ⟨A2,c2,F2,rfl,hm2,hn⟩
  obtain⟨g1,rfl,ho2⟩:=G.nor_ex _ (by simp) hn
  clear hn ho2
  (try clear g)
  revert g1
  intro g
  clear C2 D2
  (as_aux_lemma=>
   go_wp2_with (with_reducible refine yq _ ?_;(try generalize (G.w _).heap.size=bk);(try dsimp only[yi,yj]);(try clear g);intro g)
   refine(C3.out _ (g.sub _ (by simp)) (G.tab g HT.out)).mono ?_
   rintro e w1 ⟨A3,c3,F3,rfl,hm3,hn⟩
   obtain⟨g1,rfl,ho3⟩:=G.nor_ex _ (by simp) hn
   clear hn ho3
   (try clear g)
   revert g1
   intro g
   go_wp2_with (with_reducible refine yq _ ?_;(try generalize (G.w _).heap.size=bk);(try dsimp only[yi,yj]);(try clear g);intro g)
   refine(D3.out _ (g.sub _ (by simp))).mono ?_
   rintro e w1 ⟨A4,c4,F4,rfl,hm4,hn⟩
   obtain⟨g1,rfl,ho4⟩:=G.nor_ex _ (by simp) hn
   clear hn ho4
   (try clear g)
   revert g1
   intro g
   clear C3 D3
   (as_aux_lemma=>
    go_wp2_with (with_reducible refine yq _ ?_;(try generalize (G.w _).heap.size=bk);(try dsimp only[yi,yj]);(try clear g);intro g)
    refine(C4.out _ (g.sub _ (by simp)) (G.tab g HT.out)).mono ?_
    rintro e w1 ⟨rfl,hb⟩
    obtain⟨g1,rfl⟩:=G.call_ex _ hb
    clear hb
    (try clear g)
    revert g1
    intro g
    go_wp2_with (with_reducible refine yq _ ?_;(try generalize (G.w _).heap.size=bk);(try dsimp only[yi,yj]);(try clear g);intro g)
    refine(D4.out _ (g.sub _ (by simp))).mono ?_
    rintro e w1 ⟨rfl,hb⟩
    obtain⟨g1,rfl⟩:=G.call_ex _ hb
    clear hb
    (try clear g)
    revert g1
    intro g
    clear C4 D4
    go_wp2_with (with_reducible refine yq _ ?_;(try generalize (G.w _).heap.size=bk);(try dsimp only[yi,yj]);(try clear g);intro g)
    refine(S1.out _ _ _ _ _ _ _ (G.rtI g (by simp) ha) (G.rtI g (by simp) hb)).mono ?_
    rintro e w1 ⟨rfl,hb⟩
    obtain⟨g1,rfl⟩:=G.call_ex _ hb
    clear hb
    (try clear g)
    revert g1
    intro g
    go_wp2_with (with_reducible refine yq _ ?_;(try generalize (G.w _).heap.size=bk);(try dsimp only[yi,yj]);(try clear g);intro g)
    refine(S2.out _ _ _ _ _ (hm1.mono (g.sub _ (by simp))) (hm2.mono (g.sub _ (by simp)))).mono ?_
    rintro e w1 ⟨rfl,hb⟩
    obtain⟨g1,rfl⟩:=G.call_ex _ hb
    clear hb
    (try clear g)
    revert g1
    intro g
    go_wp2_with (with_reducible refine yq _ ?_;(try generalize (G.w _).heap.size=bk);(try dsimp only[yi,yj]);(try clear g);intro g)
    refine(S3.out _ _ _ _ _ (G.rwI g (by simp) hm3) (G.rwI g (by simp) hm4)).mono ?_
    rintro e w1 ⟨rfl,hb⟩
    obtain⟨g1,rfl⟩:=G.call_ex _ hb
    clear hb
    (try clear g)
    revert g1
    intro g
    go_wp2_with (with_reducible refine yq _ ?_;(try generalize (G.w _).heap.size=bk);(try dsimp only[yi,yj]);(try clear g);intro g)
    go_ret
    exact⟨rfl,G.below _⟩)))
end Go.Proofs.YthhbbnfnejjpiaaGreatDoor
