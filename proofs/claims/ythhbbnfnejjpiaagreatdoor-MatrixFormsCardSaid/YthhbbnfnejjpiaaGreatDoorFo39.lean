/- Plain facts and contracts of functions of the program, out of walks. Their conditions stand ahead of each. -/
import Derived.Test.YthhbbnfnejjpiaaGreatDoorFo5
import Derived.Test.YthhbbnfnejjpiaaGreatDoorFo15
import Derived.Test.YthhbbnfnejjpiaaGreatDoorFo28
import Derived.Test.YthhbbnfnejjpiaaGreatDoorFo31
import Derived.Test.YthhbbnfnejjpiaaGreatDoorFo32
import Derived.Test.YthhbbnfnejjpiaaGreatDoorFo36
import Derived.Below
import Derived.BigQuiet
import Derived.Deep.DeepCutAuto
import Derived.Deep.Draws
import Derived.Deep.LoopGhost
import Derived.Deep.QuietTactic
import Derived.Deep.RegionHeld3
import Derived.Deep.RegionLaw
import Derived.Defers
import Derived.Great.BuildSlice
import Derived.Laws.BytesString
import Derived.Laws.Cells
import Derived.Laws.Concat
import Derived.Laws.CopyOwn
import Derived.Laws.CopyRow
import Derived.Laws.NewBlocks
import Derived.Laws.OwnMore
import Derived.Laws.Pointers
import Derived.Laws.Rows
import Derived.Lib.BitFns
import Derived.Lib.Hide
import Derived.Lib.ItoaNum
import Derived.Lib.SliceRun
import Derived.Lib.TrailingZeros
import Derived.LoopIn
import Derived.LoopNIn
import Derived.Maps.AppendAt
import Derived.OrdersHeld
import Derived.OrdersIn
import Derived.OwnWalk
import Derived.OwnWalkIn
import Derived.RangeFuncBound
import Derived.RangeFuncBox
import Derived.RangeFuncCalls
import Derived.RangeFuncLeaves
import Derived.RangeFuncNested
import Derived.RangeFuncWrites
import Derived.RowKit3
import Derived.Shelf.Abstract
import Derived.Shelf.RegionOpen
import Derived.Shelf.Spec.TrailingZeros
import Derived.StillTactics
import Derived.StillTailTactics
import Derived.TacticsInMore
import Derived.Test.YthhbbnfnejjpiaaGreatDoorProg
import Derived.WalkKit
import Derived.WalkLawsBesides
import Derived.WalkMore
import Derived.WalkSpells
set_option linter.unusedVariables false
set_option linter.unusedSimpArgs false
set_option exponentiation.threshold 10000
namespace Go.Proofs.YthhbbnfnejjpiaaGreatDoor
open Go.RowKit GW NL MX
theorem fineAll_of {n mt cols k b:Nat}{x:Mx}(h:∀i,i<n→∀j,j<mt→Bd k (x i j))(hb:k*mt≤b)(hc:cols≤mt)(h9:2*bnd b (n-1)+2≤8192):FineAll n mt cols x:=fine_run (fit_start h hb) rfl hc (rk_lt n (startE x) cols) h9
theorem wide_bd {n k:Nat}{a b:Mx}{m:Nat}(h:∀i,i<n→∀j,j<n→Bd k (a i j))(h':∀i,i<n→∀j,j<m→Bd k (b i j)):∀i,i<n→∀j,j<n+m→Bd k (wideM n a b i j):=fun i hi j hj=>by
 unfold wideM
 split
 ·exact h i hi j ‹_›
 ·exact h' i hi _ (by omega)
theorem one_bd {k:Nat}(hk:1≤k)(i j:Nat):Bd k (oneM i j):=by
 unfold oneM
 split
 ·exact Bd.mono (k:=1) ⟨by decide+kernel,by decide+kernel⟩ hk
 ·exact Bd.mono (k:=1) ⟨by decide+kernel,by decide+kernel⟩ hk
theorem lints5_r (n m:Nat)(v:Nat→Nat→Int)(A:Option Addr)(c:Nat)(w:World)(hA:(heapOf w).Im A c n (fun _=>m) v)(n1:1≤n)(n2:n≤24)(m1:1≤m)(m2:m≤24):
  Calls Tryz.prog 49 #[.slice A n c] w (RMt n (fun _=>m) (rawM (intM v)) w):=by
 refine calls_b fun g=>?_
 have HA:=Lib.hid hA
 have C:=Lib.hid (fun w h=>rInts_r n m v A c w h n1 n2 m1 m2)
 unfold RMtE at C
 unfold RMt
 clear hA n1 n2 m1 m2
 go_enter Tryz.func49,Tryz.ntmps49
 go_wp2_with (with_reducible refine yq _ ?_;(try generalize (G.w _).heap.size=bk);(try dsimp only[yi,yj]);(try clear g);intro g)
 refine(C.out _ (HA.out.mono (g.sub _ (by simp)))).mono ?_
 rintro e w1 ⟨ba,ca,Fa,rfl,ha,hn⟩
 have hnna:=fun k o hk=>Nat.le_trans g.chg.size (hn.new k o hk)
 obtain⟨g1,rfl⟩:=G.new_ex _ hn
 clear hn
 (try clear g)
 revert g1
 intro g
 go_wp2_with (with_reducible refine yq _ ?_;(try generalize (G.w _).heap.size=bk);(try dsimp only[yi,yj]);(try clear g);intro g)
 go_ret
 exact⟨_,_,_,rfl,ha,G.below _,G.sub _ _ (by simp),hnna⟩
/-- two by two, written out -/
theorem mx2 {x y:Mx}(h:∀i:Fin 2,∀j:Fin 2,x i j=y i j):∀i,i<2→∀j,j<2→x i j=y i j:=fun i hi j hj=>h ⟨i,hi⟩ ⟨j,hj⟩
def invL:Mx:=fun i j=>if i=0 then(if j=0 then -2 else 1) else(if j=0 then 3/2 else -1/2)
theorem live_mul:∀i,i<2→∀j,j<2→mulM 2 (intM (m22 1 2 3 4)) (intM (m22 2 1 1 2)) i j=intM (m22 4 5 10 11) i j:=mx2 (by decide+kernel)
theorem live_det:detV 2 (intM (m22 1 2 3 4))= -2:=by decide+kernel
theorem live_rank:rankM 2 2 (intM (m22 1 2 3 4))=2:=by decide+kernel
theorem live_inv:∀i,i<2→∀j,j<2→behindM 2 (intM (m22 1 2 3 4)) oneM i j=invL i j:=mx2 (by decide+kernel)
theorem bd22 {k:Nat}{x:Mx}(h:∀i:Fin 2,∀j:Fin 2,Bd k (x i j)):∀i,i<2→∀j,j<2→Bd k (x i j):=fun i hi j hj=>h ⟨i,hi⟩ ⟨j,hj⟩
theorem bd22a:∀i,i<2→∀j,j<2→Bd 4 (intM (m22 1 2 3 4) i j):=bd22 (by unfold Bd;decide+kernel)
theorem bd22b:∀i,i<2→∀j,j<2→Bd 4 (intM (m22 2 1 1 2) i j):=bd22 (by unfold Bd;decide+kernel)
theorem bd22p:∀i,i<2→∀t,t<2→∀j,j<2→Bd 8192 (intM (m22 1 2 3 4) i t*intM (m22 2 1 1 2) t j):=fun i hi t ht j hj=>((Bd.qn (bd22a i hi t ht)).mul (Bd.qn (bd22b t ht j hj))).bd' (by decide) (by decide)
theorem bd22s:∀i,i<2→∀j,j<2→∀t,t≤2→Bd 8192 (sumN t (fun l=>intM (m22 1 2 3 4) i l*intM (m22 2 1 1 2) l j)):=fun i hi j hj t ht=>(qn_sum (m:=t) (k:=8) (l:=8) (fun l hl=>(Bd.qn (bd22a i hi l (by omega))).mul (Bd.qn (bd22b l (by omega) j hj)))).bd' (by omega) (by omega)
set_option maxRecDepth 20000 in
set_option maxHeartbeats 8000000 in
theorem lives5_x (w:World)(hT:Tab w):Calls Tryz.prog 10 #[] w fun e w'=>e=.returned (.bool true)∧Below w.heap.size w w':=by
 refine calls_b fun g=>?_
 have HT:=Lib.hid hT
 clear hT
 have CI:=Lib.hid (fun v A c w h=>lints5_r 2 2 v A c w h (by decide) (by decide) (by decide) (by decide))
 unfold RMt at CI
 have CM:=Lib.hid (fun A B c cB w hA hB hT=>Mul_r 2 2 2 (intM (m22 1 2 3 4)) (intM (m22 2 1 1 2)) A B c cB w hA hB hT (by decide) (by decide) (by decide) (by decide) (by decide) (by decide) (fun i hi j hj=>(bd22a i hi j hj).mono (by decide)) (fun i hi j hj=>(bd22b i hi j hj).mono (by decide)) bd22p bd22s)
 unfold RMtE at CM
 have CD:=Lib.hid (fun F0 A c w hF hA hT=>Det_r F0 2 (intM (m22 1 2 3 4)) A c w hF hA hT (by decide) (by decide) (fun i hi j hj=>(bd22a i hi j hj).mono (by decide)) (fineAll_of bd22a (b:=8) (by decide) (by decide) (by decide)))
 rw[live_det] at CD
 have CV:=Lib.hid (fun F0 A c w hF hA hT=>Inv_r F0 2 (intM (m22 1 2 3 4)) A c w hF hA hT (by decide) (by decide) (fun i hi j hj=>(bd22a i hi j hj).mono (by decide)) (fineAll_of (wide_bd bd22a (fun i _ j _=>one_bd (by decide) i j)) (b:=16) (by decide) (by decide) (by decide)))
 unfold RBeh at CV
 rw[live_rank] at CV
 have CS:=Lib.hid (fun x A B c d w hA hB=>lis5_x 2 (fun _=>2) x A B c d w hA hB (by decide) (fun _ _=>by decide))
 have CN:=Lib.hid (fun p q r w h=>lnum5_x (-2) 1 (-2) (by decide) (by decide+kernel) (by decide) (by decide) (by decide) (by decide) p q r w h)
 have CO:=Lib.hid (fun(a b:Int) (z:Rat) (hb:b≠0) (e:frac (decide (a<0) !=decide (b<0)) a.natAbs b.natAbs=z) (h1:I64 a) (h2:I64 b) w=>lof5_r a b z hb e h1.1 h1.2 h2.1 h2.2 w)
 unfold RT1 at CO
 go_enter Tryz.func10,Tryz.ntmps10
 go_wp2_with (with_reducible refine yq _ ?_;(try generalize (G.w _).heap.size=bk);(try dsimp only[yi,yj]);(try clear g);intro g)
 refine(CI.out (m22 1 2 3 4) _ _ _ (im22 g 1 2 3 4 (.head _) (.tail _ (.tail _ (.head _))) (.tail _ (.head _)) (by decide) (by decide) (by decide) (by decide))).mono ?_
 rintro e w1 ⟨ba,ca,Fa,rfl,ha,hn⟩
 have hnna:=fun k o hk=>Nat.le_trans g.chg.size (hn.new k o hk)
 obtain⟨g1,rfl⟩:=G.new_ex _ hn
 clear hn
 (try clear g)
 revert g1
 intro g
 go_wp2_with (with_reducible refine yq _ ?_;(try generalize (G.w _).heap.size=bk);(try dsimp only[yi,yj]);(try clear g);intro g)
 refine(CI.out (m22 2 1 1 2) _ _ _ (im22 g 2 1 1 2 (.head _) (.tail _ (.tail _ (.head _))) (.tail _ (.head _)) (by decide) (by decide) (by decide) (by decide))).mono ?_
 rintro e w1 ⟨bb,cb,Fb,rfl,hb,hn⟩
 have hnnb:=fun k o hk=>Nat.le_trans g.chg.size (hn.new k o hk)
 obtain⟨g1,rfl⟩:=G.new_ex _ hn
 clear hn
 (try clear g)
 revert g1
 intro g
 obtain⟨g2,hg2⟩:=G.less g (M':=[]) (List.nil_sublist _)
 rw[hg2]
 clear hg2
 (try clear g)
 revert g2
 intro g
 go_wp2_with (with_reducible refine yq _ ?_;(try generalize (G.w _).heap.size=bk);(try dsimp only[yi,yj]);(try clear g);intro g)
 refine(CM.out _ _ _ _ _ (ha.mono (g.sub _ (by simp))) (hb.mono (g.sub _ (by simp))) (G.tab g HT.out)).mono ?_
 rintro e w1 ⟨bm,cm,Fm,rfl,hm,hn⟩
 have hnnm:=fun k o hk=>Nat.le_trans g.chg.size (hn.new k o hk)
 obtain⟨g1,rfl⟩:=G.new_ex _ hn
 clear hn
 (try clear g)
 revert g1
 intro g
 go_wp2_with (with_reducible refine yq _ ?_;(try generalize (G.w _).heap.size=bk);(try dsimp only[yi,yj]);(try clear g);intro g)
 refine(CD.out Fa _ _ _ (g.sub _ (by simp)) ha (G.tab g HT.out)).mono ?_
 rintro e w1 ⟨pd,qd,rd,Fd,rfl,hd,hn⟩
 obtain⟨sd,Ad,nd,cd,Bd,dd,kd,rfl,rfl,rfl⟩:=hd.shape
 obtain⟨g1,rfl,hod⟩:=G.nor_ex _ (by simp) hn
 clear hn
 (try clear g)
 revert g1
 intro g
 go_wp2_with (with_reducible refine yq _ ?_;(try generalize (G.w _).heap.size=bk);(try dsimp only[yi,yj]);(try clear g);intro g)
 (try(refine cmark _ ?_;(try dsimp only[yi,yj]);(try clear g);intro g))
 refine(CV.out Fa _ _ _ (g.sub _ (by simp)) ha (G.tab g HT.out)).mono ?_
 rintro e w1 (⟨hr,_⟩|⟨_,bi,ki,Fi,rfl,hmi,hno⟩)
 ·exact absurd hr (by decide)
 obtain⟨g1,rfl,hoi⟩:=G.nor_ex _ (by simp) hno
 clear hno g
 revert g1
 intro g
 have hmm:Fm.Mt (some ⟨bm,0,none⟩) cm 2 (fun _=>2) (rawM (intM (m22 4 5 10 11))):=hm.congr (fun _ _=>rfl) (fun i hi j hj=>congrArg rawOf (live_mul i hi j hj))
 have hii:Fi.Mt (some ⟨bi,0,none⟩) ki 2 (fun _=>2) (rawM invL):=hmi.congr (fun _ _=>rfl) (fun i hi j hj=>congrArg rawOf (live_inv i hi j hj))
 clear hm hmi CM CD CV
 (as_aux_lemma=>
  go_wp2_with (with_reducible refine yq _ ?_;(try generalize (G.w _).heap.size=bk);(try dsimp only[yi,yj]);(try clear g);intro g)
  refine(CI.out (m22 4 5 10 11) _ _ _ (im22 g 4 5 10 11 (.head _) (.tail _ (.tail _ (.head _))) (.tail _ (.head _)) (by decide) (by decide) (by decide) (by decide))).mono ?_
  rintro e w1 ⟨bx,cx,Fx,rfl,hx,hn⟩
  have hnnx:=fun k o hk=>Nat.le_trans g.chg.size (hn.new k o hk)
  obtain⟨g1,rfl⟩:=G.new_ex _ hn
  clear hn
  (try clear g)
  revert g1
  intro g
  go_wp2_with (with_reducible refine yq _ ?_;(try generalize (G.w _).heap.size=bk);(try dsimp only[yi,yj]);(try clear g);intro g)
  refine(CS.out _ _ _ _ _ _ (hmm.mono (g.sub _ (by simp))) (hx.mono (g.sub _ (by simp)))).mono ?_
  rintro e w1 ⟨rfl,hb⟩
  obtain⟨g1,rfl⟩:=G.call_ex _ hb
  clear hb
  (try clear g)
  revert g1
  intro g
  go_wp2_with (with_reducible refine yq _ ?_;(try generalize (G.w _).heap.size=bk);(try dsimp only[yi,yj]);(try clear g);intro g)
  refine(CN.out _ _ _ _ (G.rtI g (by simp) hd)).mono ?_
  rintro e w1 ⟨rfl,hb⟩
  obtain⟨g1,rfl⟩:=G.call_ex _ hb
  clear hb
  (try clear g)
  revert g1
  intro g
  go_wp2_with (with_reducible refine yq _ ?_;(try generalize (G.w _).heap.size=bk);(try dsimp only[yi,yj]);(try clear g);intro g)
  (as_aux_lemma=>
   refine(CO.out (-2) 1 (-2) (by decide) (by decide+kernel) (by decide) (by decide) _).mono ?_
   rintro e w1 ⟨po1,qo1,ro1,Fo1,rfl,ho1,hn⟩
   have hnno1:=fun k o hk=>Nat.le_trans g.chg.size (hn.new k o hk)
   obtain⟨so1,Ao1,no1,co1,Bo1,do1,ko1,rfl,rfl,rfl⟩:=ho1.shape
   obtain⟨g1,rfl⟩:=G.new_ex _ hn
   clear hn
   (try clear g)
   revert g1
   intro g
   go_wp2_with (with_reducible refine yq _ ?_;(try generalize (G.w _).heap.size=bk);(try dsimp only[yi,yj]);(try clear g);intro g)
   refine(CO.out 1 1 1 (by decide) (by decide+kernel) (by decide) (by decide) _).mono ?_
   rintro e w1 ⟨po2,qo2,ro2,Fo2,rfl,ho2,hn⟩
   have hnno2:=fun k o hk=>Nat.le_trans g.chg.size (hn.new k o hk)
   obtain⟨so2,Ao2,no2,co2,Bo2,do2,ko2,rfl,rfl,rfl⟩:=ho2.shape
   obtain⟨g1,rfl⟩:=G.new_ex _ hn
   clear hn
   (try clear g)
   revert g1
   intro g
   go_wp2_with (first|(with_reducible refine yq _ ?_;(try generalize (G.w _).heap.size=bk);(try dsimp only[yi,yj]);(try clear g);intro g)|(refine bslice2 (by rfl) _ _ (by rfl) (by rfl) (by rfl) g ?_;(try clear g);intro b2 g))
   refine(CO.out 3 2 (3/2) (by decide) (by decide+kernel) (by decide) (by decide) _).mono ?_
   rintro e w1 ⟨po3,qo3,ro3,Fo3,rfl,ho3,hn⟩
   have hnno3:=fun k o hk=>Nat.le_trans g.chg.size (hn.new k o hk)
   obtain⟨so3,Ao3,no3,co3,Bo3,do3,ko3,rfl,rfl,rfl⟩:=ho3.shape
   obtain⟨g1,rfl⟩:=G.new_ex _ hn
   clear hn
   (try clear g)
   revert g1
   intro g
   go_wp2_with (with_reducible refine yq _ ?_;(try generalize (G.w _).heap.size=bk);(try dsimp only[yi,yj]);(try clear g);intro g)
   refine(CO.out (-1) 2 (-1/2) (by decide) (by decide+kernel) (by decide) (by decide) _).mono ?_
   rintro e w1 ⟨po4,qo4,ro4,Fo4,rfl,ho4,hn⟩
   have hnno4:=fun k o hk=>Nat.le_trans g.chg.size (hn.new k o hk)
   obtain⟨so4,Ao4,no4,co4,Bo4,do4,ko4,rfl,rfl,rfl⟩:=ho4.shape
   obtain⟨g1,rfl⟩:=G.new_ex _ hn
   clear hn
   (try clear g)
   revert g1
   intro g
   go_wp2_with (first|(with_reducible refine yq _ ?_;(try generalize (G.w _).heap.size=bk);(try dsimp only[yi,yj]);(try clear g);intro g)|(refine bslice2 (by rfl) _ _ (by rfl) (by rfl) (by rfl) g ?_;(try clear g);intro b2 g))
   (as_aux_lemma=>
    have hl:(heapOf g.w).Mt _ _ 2 (fun _=>2) (rawM invL):=mtM g (.head _) (by decide) (two_cases ⟨_,_,rfl,rwM g _ (.tail _ (.tail _ (.head _))) (tris2 (x:=rawM invL 0) (G.rtI g (by simp) ho1) (G.rtI g (by simp) ho2)) (by decide)⟩ ⟨_,_,rfl,rwM g _ (.tail _ (.head _)) (tris2 (x:=rawM invL 1) (G.rtI g (by simp) ho3) (G.rtI g (by simp) ho4)) (by decide)⟩)
    refine(CS.out _ _ _ _ _ _ (hii.mono (g.sub _ (by simp))) hl).mono ?_
    rintro e w1 ⟨rfl,hb⟩
    obtain⟨g1,rfl⟩:=G.call_ex _ hb
    clear hb
    (try clear g)
    revert g1
    intro g
    go_wp2_with (with_reducible refine yq _ ?_;(try generalize (G.w _).heap.size=bk);(try dsimp only[yi,yj]);(try clear g);intro g)
    go_ret
    exact⟨rfl,G.below _⟩)))
theorem listE_all {x:Nat→Raw}:∀ {n:Nat},listE x n=0→∀j,j<n→numE (x j)=0
 |0,_,j,h=>absurd h (Nat.not_lt_zero j)
 |n+1,h,j,hj=>by
  unfold listE at h
  by_cases h0:listE x n=0
  ·rw[if_pos h0] at h
   by_cases hjn:j=n
   ·subst hjn;exact h
   ·exact listE_all h0 j (by omega)
  ·rw[if_neg h0] at h;exact absurd h h0
theorem rowsE_all {m:Nat→Nat}{x:Nat→Nat→Raw}:∀ {n:Nat},rowsE m x n=0→∀i,i<n→rowE m x i=0
 |0,_,i,h=>absurd h (Nat.not_lt_zero i)
 |n+1,h,i,hi=>by
  unfold rowsE at h
  by_cases h0:rowsE m x n=0
  ·rw[if_pos h0] at h
   by_cases hin:i=n
   ·subst hin;exact h
   ·exact rowsE_all h0 i (by omega)
  ·rw[if_neg h0] at h;exact absurd h h0
/-- The limbs of what lies in memory are below 2^32. -/
theorem mt_ok {f:Frag}{A:Option Addr}{c n:Nat}{m:Nat→Nat}{x:Nat→Nat→Raw}(h:f.Mt A c n m x){i j:Nat}(hi:i<n)(hj:j<m i):Ok (x i j).2.1∧Ok (x i j).2.2:=by
 obtain⟨b,o,_,hrow⟩:=h.rowAt (by omega)
 obtain⟨B,k,_,hrw⟩:=hrow i hi
 obtain⟨b2,o2,_,hnum⟩:=hrw.num (by omega)
 obtain⟨p,q,r,_,_,⟨_,_,_,h1⟩,_,_,_,h2⟩:=hnum j hj
 exact⟨h1.ok,h2.ok⟩
theorem rw_ok {f:Frag}{A:Option Addr}{c n:Nat}{x:Nat→Raw}(h:f.Rw A c n x){j:Nat}(hj:j<n):Ok (x j).2.1∧Ok (x j).2.2:=by
 obtain⟨b2,o2,_,hnum⟩:=h.num (by omega)
 obtain⟨p,q,r,_,_,⟨_,_,_,h1⟩,_,_,_,h2⟩:=hnum j hj
 exact⟨h1.ok,h2.ok⟩
theorem numE_rat {t:Raw}(h:numE t=0)(h1:Ok t.2.1)(h2:Ok t.2.2)(h3:SzT t):∃z:Rat,t=rawOf z∧Bd 64 z:=by
 obtain⟨s,l,m⟩:=t
 obtain⟨z,rfl,rfl,rfl,_⟩:=rchk_val h1 h2 h
 refine⟨z,rfl,?_⟩
 have e:=limbs_len (rn z) 2
 have e2:=limbs_len z.den 2
 exact⟨e.1 h3.1,e2.1 h3.2⟩
/-- A matrix of n rows of k numbers of at most 64 bits. -/
def VM (n:Nat)(m:Nat→Nat)(x:Nat→Nat→Raw)(k:Nat)(X:Mx):Prop:=(∀i,i<n→m i=k)∧∀i,i<n→∀j,j<k→x i j=rawM X i j∧Bd 64 (X i j)
theorem valM {f:Frag}{A:Option Addr}{c n:Nat}{m:Nat→Nat}{x:Nat→Nat→Raw}(hA:f.Mt A c n m x)(h:matE n m x=0)(hs:SzM n m x):∃X:Mx,VM n m x (m 0) X:=by
 have hp:=matE_pos h
 unfold matE at h
 rw[if_pos (show shpE n (m 0)=0 from by unfold shpE;rw[if_neg (by omega)])] at h
 have hr:=rowsE_all h
 have hm:∀i,i<n→m i=m 0∧listE (x i) (m i)=0:=fun i hi=>by
  have:=hr i hi
  unfold rowE at this
  by_cases h0:m i=m 0
  ·rw[if_pos h0] at this;exact⟨h0,this⟩
  ·rw[if_neg h0] at this;exact absurd this (by decide)
 have hz:∀i j,∃z:Rat,i<n→j<m 0→x i j=rawOf z∧Bd 64 z:=fun i j=>by
  by_cases hi:i<n
  ·by_cases hj:j<m 0
   ·have hj':j<m i:=by rw[(hm i hi).1];exact hj
    have ok:=mt_ok hA hi hj'
    obtain⟨z,h1,h2⟩:=numE_rat (listE_all (hm i hi).2 j hj') ok.1 ok.2 ((hs.2 i hi).2 j hj')
    exact⟨z,fun _ _=>⟨h1,h2⟩⟩
   ·exact⟨0,fun _ h=>absurd h hj⟩
  ·exact⟨0,fun h=>absurd h hi⟩
 exact⟨fun i j=>(hz i j).choose,fun i hi=>(hm i hi).1,fun i hi j hj=>(hz i j).choose_spec hi hj⟩
theorem VM.mt {f:Frag}{A:Option Addr}{c n k:Nat}{m:Nat→Nat}{x:Nat→Nat→Raw}{X:Mx}(h:VM n m x k X)(hA:f.Mt A c n m x):f.Mt A c n (fun _=>k) (rawM X):=
 hA.congr h.1 (fun i hi j hj=>(h.2 i hi j (by rw[←h.1 i hi];exact hj)).1)
theorem New.none {w w':World}(h:Below w.heap.size w w'):New w w' (fun _=>Option.none):=⟨h,fun k o e=>(by cases e),fun k o e=>(by cases e)⟩
section
variable {n:Nat}{X:Mx}(hn:n≤4)(hX:∀i,i<n→∀j,j<n→Bd 64 (X i j))
include hn hX
variable {v:Nat→Rat}(hv:∀i,i<n→Bd 64 (v i))
include hv
end
/-- what returns a number, a matrix, a list, and an error -/
def RTO (F0:Frag)(E:Int)(t:Raw)(w:World)(e:Ending)(w':World):Prop:=∃p q r H,e=.returned (.tuple #[.agg #[p,q,r],.int .i64 E])∧Frag.Rt H p q r t∧NewOr F0 w w' H
theorem NewOr.none {F0:Frag}{w w':World}(h:Below w.heap.size w w'):NewOr F0 w w' (fun _=>Option.none):=(New.none h).or F0
theorem RTO.err {F0:Frag}{E:Int}{w w':World}{e:Ending}(h:RErrR E w e w'):RTO F0 E rawZ w e w':=
 ⟨_,_,_,fun _=>Option.none,h.1,⟨rfl,⟨Option.none,0,rfl,Frag.Sl.nil _ _⟩,Option.none,0,rfl,Frag.Sl.nil _ _⟩,NewOr.none h.2⟩
theorem sqE_zero {n:Nat}{m:Nat→Nat}{x:Nat→Nat→Raw}(h:sqE n m x=0):matE n m x=0∧n=m 0:=by
 unfold sqE at h
 by_cases h1:matE n m x=0
 ·rw[if_pos h1] at h
  by_cases h2:n=m 0
  ·exact⟨h1,h2⟩
  ·rw[if_neg h2] at h;exact absurd h (by decide)
 ·rw[if_neg h1] at h;exact absurd h h1
section
variable {F0:Frag}{A:Option Addr}{c n:Nat}{m:Nat→Nat}{x:Nat→Nat→Raw}
theorem valR {B:Option Addr}{d k:Nat}{y:Nat→Raw}(hB:F0.Rw B d k y)(h:listE y k=0)(hs:SzR k y):∃v:Nat→Rat,∀j,j<k→y j=rawR v j∧Bd 64 (v j):=by
 have hz:∀j,∃z:Rat,j<k→y j=rawOf z∧Bd 64 z:=fun j=>by
  by_cases hj:j<k
  ·have ok:=rw_ok hB hj
   obtain⟨z,h1,h2⟩:=numE_rat (listE_all h j hj) ok.1 ok.2 (hs.2 j hj)
   exact⟨z,fun _=>⟨h1,h2⟩⟩
  ·exact⟨0,fun h=>absurd h hj⟩
 exact⟨fun j=>(hz j).choose,fun j hj=>(hz j).choose_spec hj⟩
end
theorem rsame5_g (t t':Raw)(p q r p' q' r':Value)(w:World)(h:RtW w p q r t)(h':RtW w p' q' r' t'):
  Calls Tryz.prog 27 #[.agg #[p,q,r],.agg #[p',q',r']] w fun e w'=>e=.returned (.bool (decide (t=t')))∧Below w.heap.size w w':=by
 refine calls_b fun g=>?_
 obtain⟨s,l,m⟩:=t
 obtain⟨s',l',m'⟩:=t'
 obtain⟨rfl,⟨A1,c1,rfl,h1⟩,B1,k1,rfl,j1⟩:=h
 obtain⟨rfl,⟨A2,c2,rfl,h2⟩,B2,k2,rfl,j2⟩:=h'
 dsimp only at h1 h2 j1 j2 ⊢
 have C1:=Lib.hid (fun w h1 h2=>same_gen A1 A2 c1 c2 l l' w h1 h2)
 have C2:=Lib.hid (fun w h1 h2=>same_gen B1 B2 k1 k2 m m' w h1 h2)
 have H1:=Lib.hid h1
 have H2:=Lib.hid h2
 have J1:=Lib.hid j1
 have J2:=Lib.hid j2
 clear h1 h2 j1 j2
 by_cases hs:s=s'
 ·subst hs
  by_cases hl:l=l'
  ·rw[decide_eq_true hl] at C1
   obtain⟨z,hz⟩:∃z,decide (m=m')=z:=⟨_,rfl⟩
   have hd:decide (((s,l,m):Raw)=(s,l',m'))=z:=by rw[←hz,hl];simp
   rw[hz] at C2
   rw[hd]
   clear hz hd hl
   generalize l.length=n at*
   generalize l'.length=n' at*
   generalize m.length=d at*
   generalize m'.length=d' at*
   go_enter Tryz.func27,Tryz.ntmps27
   go_wp2_with (with_reducible refine yq _ ?_;(try generalize (G.w _).heap.size=bk);(try dsimp only[yi,yj]);(try clear g);intro g)
   refine(C1.out _ (G.sl g (by simp) H1.out) (G.sl g (by simp) H2.out)).mono ?_
   rintro e w1 ⟨rfl,hb⟩
   obtain⟨g1,rfl⟩:=G.call_ex _ hb
   clear hb
   (try clear g)
   revert g1
   intro g
   go_wp2_with (with_reducible refine yq _ ?_;(try generalize (G.w _).heap.size=bk);(try dsimp only[yi,yj]);(try clear g);intro g)
   refine(C2.out _ (G.sl g (by simp) J1.out) (G.sl g (by simp) J2.out)).mono ?_
   rintro e w1 ⟨rfl,hb⟩
   obtain⟨g1,rfl⟩:=G.call_ex _ hb
   clear hb
   (try clear g)
   revert g1
   intro g
   go_wp2_with (with_reducible refine yq _ ?_;(try generalize (G.w _).heap.size=bk);(try dsimp only[yi,yj]);(try clear g);intro g)
   go_ret
   exact⟨rfl,G.below _⟩
  ·rw[decide_eq_false hl] at C1
   have hd:decide (((s,l,m):Raw)=(s,l',m'))=false:=by simp[hl]
   rw[hd]
   clear hd hl
   generalize l.length=n at*
   generalize l'.length=n' at*
   generalize m.length=d at*
   generalize m'.length=d' at*
   go_enter Tryz.func27,Tryz.ntmps27
   go_wp2_with (with_reducible refine yq _ ?_;(try generalize (G.w _).heap.size=bk);(try dsimp only[yi,yj]);(try clear g);intro g)
   refine(C1.out _ (G.sl g (by simp) H1.out) (G.sl g (by simp) H2.out)).mono ?_
   rintro e w1 ⟨rfl,hb⟩
   obtain⟨g1,rfl⟩:=G.call_ex _ hb
   clear hb
   (try clear g)
   revert g1
   intro g
   go_wp2_with (with_reducible refine yq _ ?_;(try generalize (G.w _).heap.size=bk);(try dsimp only[yi,yj]);(try clear g);intro g)
   go_ret
   exact⟨rfl,G.below _⟩
 ·have hd:decide (((s,l,m):Raw)=(s',l',m'))=false:=by simp[hs]
  have hb:(s==s')=false:=by simpa using hs
  rw[hd]
  clear hd hs C1 C2
  go_enter Tryz.func27,Tryz.ntmps27
  go_wp2_with (with_reducible refine yq _ ?_;(try generalize (G.w _).heap.size=bk);(try dsimp only[yi,yj]);(try clear g);intro g)
  go_ret
  exact⟨rfl,G.below _⟩
theorem rawOf_inj {x y:Rat}(h:rawOf x=rawOf y):x=y:=by
 unfold rawOf at h
 injection h with h1 h
 injection h with h2 h3
 have e1:rn x=rn y:=by rw[←val_limbs (rn x),h2,val_limbs]
 have e2:x.den=y.den:=by rw[←val_limbs x.den,h3,val_limbs]
 refine Rat.ext ?_ e2
 unfold rn at e1
 unfold rneg at h1
 by_cases hx:x.num<0
 ·have hy:y.num<0:=by
   rw[decide_eq_true hx] at h1
   exact of_decide_eq_true h1.symm
  omega
 ·have hy:¬ y.num<0:=by
   rw[decide_eq_false hx] at h1
   exact of_decide_eq_false h1.symm
  omega
/-- the lower half of a, and its mirror -/
def lowM (a:Mx):Mx:=fun i k=>if k≤i then a i k else a k i
theorem lowM_at (a:Mx){i k:Nat}(h:k≤i):lowM a i k=a i k:=if_pos h
theorem lowM_sym (a:Mx)(i k:Nat):lowM a i k=lowM a k i:=by
 unfold lowM
 by_cases h:k≤i
 ·rw[if_pos h]
  by_cases h2:i≤k
  ·obtain rfl:i=k:=by omega
   rw[if_pos h2]
  ·rw[if_neg h2]
 ·rw[if_neg h,if_pos (by omega)]
theorem lowM_bd {a:Mx}{n:Nat}(h:∀i,i<n→∀k,k<n→Bd 64 (a i k)):∀i,i<n→∀k,k<n→Bd 64 (lowM a i k):=fun i hi k hk=>by
 unfold lowM
 split
 ·exact h i hi k hk
 ·exact h k hk i hi
/-- what is left of an entry when t summands were taken away -/
def parM (a:Mx)(i k t:Nat):Rat:=a i k-sumN t (fun j=>facL a i j*facL a k j*facD a j)
theorem parM_zero (a:Mx)(i k:Nat):parM a i k 0=a i k:=by
 show a i k-0=_
 grind
theorem parM_next (a:Mx)(i k t:Nat):parM a i k t+ -(facL a i t*facL a k t*facD a t)=parM a i k (t+1):=by
 show a i k-_+_=a i k-(_+_)
 grind
theorem parM_end (a:Mx){i k:Nat}(h:k≤i):parM a i k k=facS a k i:=(facS_walk h).symm
theorem parM_bd {a:Mx}{n:Nat}(hn:n≤4)(hs:∀i,i<n→∀k,k<n→a i k=a k i)(hb:∀i,i<n→∀k,k<n→Bd 64 (a i k)){i k t:Nat}(hi:i<n)(hk:k≤i)(ht:t≤k)(hd:∀j,j<k→facD a j≠0):Bd 8192 (parM a i k t):=by
 have hrow:∀i,i<n→RowF 256 n (a i):=fun i hi=>rowF_init (hb i hi) (by omega)
 have e:parM a i k t=gauR a t i k:=by
  rw[gau_sum hs t (by omega) (fun j hj=>hd j (by omega)) i hi k (by omega)]
  unfold parM
  congr 1
  refine sumN_congr fun j hj=>?_
  have h0:=hd j (by omega)
  unfold facL
  rw[if_pos (by omega),if_pos (by omega),Rat.div_def,Rat.div_def,Rat.div_def]
  have e2:(facD a j)⁻¹*facD a j=1:=Rat.inv_mul_cancel _ h0
  grind
 rw[e]
 exact((gau_row hs hrow t (by omega) (fun j hj=>hd j (by omega)) i hi).mono (bnd_mono 256 (show t≤4 by omega))).bdk (show k<n by omega) (by decide)
theorem low_fine {a:Mx}{n:Nat}(hn:n≤4)(h:∀i,i<n→∀k,k<n→Bd 64 (a i k)):FacFine n (lowM a):=
 fac_fine hn (fun i _ k _=>lowM_sym a i k) (fun i hi=>rowF_init (lowM_bd h i hi) (show 64*n≤256 by omega)) (by decide)
theorem cellB {w0:World}{X:List Nat}{M:List Blk}{I:List Frag}(g:G w0 X M I){b:Nat}{T:TypeId}{cs:List Value}(h:(b,T,cs)∈M){j:Nat}{v:Value}(hv:cs[j]?=some v):g.w.cell? ⟨b,j,none⟩=some v:=by
 have:=g.own _ h
 simp only at this
 simp[World.cell?,this,hv]
/-- what Factors returns -/
def RFc (F0:Frag)(n:Nat)(x:Mx)(w:World)(e:Ending)(w':World):Prop:=((∀i,i<n→∀k,k≤i→x i k=x k i)∧(∀k,k<n→0<facD (lowM x) k)∧∃b cl A cd H,e=.returned (.tuple #[.slice (some ⟨b,0,none⟩) n cl,.slice A n cd,.bool true])∧Frag.Mt H (some ⟨b,0,none⟩) cl n (fun _=>n) (rawM (facL (lowM x)))∧Frag.Rw H A cd n (rawR (facD (lowM x)))∧NewOr F0 w w' H)∨(¬ ((∀i,i<n→∀k,k≤i→x i k=x k i)∧∀k,k<n→0<facD (lowM x) k)∧e=.returned (.tuple #[.slice none 0 0,.slice none 0 0,.bool false])∧Below w.heap.size w w')
theorem RFc.no {F0:Frag}{n:Nat}{x:Mx}{w w':World}(h:¬ ((∀i,i<n→∀k,k≤i→x i k=x k i)∧∀k,k<n→0<facD (lowM x) k))(k:Below w.heap.size w w'):RFc F0 n x w (.returned (.tuple #[.slice none 0 0,.slice none 0 0,.bool false])) w':=.inr ⟨h,rfl,k⟩
set_option maxRecDepth 100000 in
set_option maxHeartbeats 16000000 in
theorem rFactors_r (F0:Frag)(n:Nat)(x:Mx)(A:Option Addr)(c0:Nat)(w:World)(hF:F0.sub w)(hA:F0.Mt A c0 n (fun _=>n) (rawM x))(n1:1≤n)(n2:n≤4)(bx:∀i,i<n→∀j,j<n→Bd 64 (x i j)):
  Calls Tryz.prog 88 #[.slice A n c0] w (RFc F0 n x w):=by
 refine calls_f hF fun g=>?_
 have UN:=Lib.hid (fun w=>Unit_own n n1 (by omega) w)
 unfold RBlk at UN
 have CS:=Lib.hid (fun t t' p q r p' q' r' w h h'=>rsame5_g t t' p q r p' q' r' w h h')
 have CZ:=Lib.hid (fun x p q r w h=>risZero_r x p q r w h)
 have CTI:=Lib.hid (fun(x y:Rat) (hx:Bd 8192 x) (hy:Bd 8192 y) p q r p' q' r' w a b=>rqTimes_r x y hx hy p q r p' q' r' w a b)
 have CPL:=Lib.hid (fun(x y:Rat) (hx:Bd 8192 x) (hy:Bd 8192 y) p q r p' q' r' w a b=>rqPlus_r x y hx hy p q r p' q' r' w a b)
 have COV:=Lib.hid (fun(x y:Rat) (hx:Bd 8192 x) (hy:Bd 8192 y) h0 p q r p' q' r' w a b=>rqOver_r x y hx hy h0 p q r p' q' r' w a b)
 have CMI:=Lib.hid (fun(x:Rat) (hx:Bd 8192 x) p q r w a=>rqMinus_r x hx p q r w a)
 unfold RT1 at CTI CPL COV CMI
 obtain⟨a,ha⟩:∃a,lowM x=a:=⟨_,rfl⟩
 have HLO:Hid (∀i k,k≤i→a i k=x i k):=Lib.hid (fun i k h=>by rw[←ha];exact lowM_at x h)
 have HFF:Hid (FacFine n a):=Lib.hid (by rw[←ha];exact low_fine n2 bx)
 have HPB:Hid (∀i,i<n→∀k,k≤i→∀t,t≤k→(∀j,j<k→facD a j≠0)→Bd 8192 (parM a i k t)):=Lib.hid (fun i hi k hk t ht hd=>by
  rw[←ha] at hd ⊢
  exact parM_bd n2 (fun i _ k _=>lowM_sym x i k) (lowM_bd bx) hi hk ht hd)
 have HNO:Hid (∀w',¬ ((∀i,i<n→∀k,k≤i→x i k=x k i)∧∀k,k<n→0<facD a k)→Below w.heap.size w w'→RFc F0 n x w (.returned (.tuple #[.slice none 0 0,.slice none 0 0,.bool false])) w'):=Lib.hid (fun w' h k=>RFc.no (by rw[ha];exact h) k)
 have HYES:Hid (∀(b cl:Nat) (A:Option Addr) (cd:Nat) (H:Frag) (w':World),(∀i,i<n→∀k,k≤i→x i k=x k i)→(∀k,k<n→0<facD a k)→H.Mt (some ⟨b,0,none⟩) cl n (fun _=>n) (rawM (facL a))→H.Rw A cd n (rawR (facD a))→NewOr F0 w w' H→RFc F0 n x w (.returned (.tuple #[.slice (some ⟨b,0,none⟩) n cl,.slice A n cd,.bool true])) w'):=Lib.hid (fun b cl A cd H w' h1 h2 h3 h4 h5=> .inl ⟨h1,by rw[ha];exact h2,b,cl,A,cd,H,rfl,by rw[ha];exact h3,by rw[ha];exact h4,h5⟩)
 obtain⟨i0,hi,hz0,hz1,hz2⟩:=info_parts infoRat
 obtain⟨b,o,rfl,hrow⟩:=hA.rowAt n1
 have HR:=Lib.hid hrow
 have t1:0<n:=by omega
 have t2:(0:Int)<(n:Int):=by omega
 have hn0:(0:Int)≤(n:Int):=by omega
 clear hA hrow hF ha bx
 go_enter Tryz.func88,Tryz.ntmps88
 go_wp2_with (with_reducible refine yq _ ?_;(try generalize (G.w _).heap.size=bk);(try dsimp only[yi,yj]);(try clear g);intro g)
 (try(refine cmark _ ?_;(try dsimp only[yi,yj]);(try clear g);intro g))
 refine(UN.out _).mono ?_
 rintro e w1 ⟨ob,cc,cs,R,F,g1,rfl,hcc,hown,hnw,rfl⟩
 obtain⟨g2,e2⟩:=G.lift g g1 hnw
 rw[e2]
 have hnwW:F.Nw w:=fun k o hk=>Nat.le_trans g.chg.size (hnw k o hk)
 have hownW:OwnOn (List.range n) (fun j=>NumRow w.heap.size 43 F n (rawM (lM a 0 0) j)) R cs:=hown.next (fun _ _=>rfl) (fun j hj v s hq=>(NumRow.lo hq g.chg.size).congr (fun k hk=>by unfold rawM;rw[lM_start]))
 obtain⟨g3,e3⟩:=g2.as (M':=(ob,38,cs)::([]++R)) (by simp)
 obtain⟨F1,g4,e4,hle1,hle2,hnew⟩:=mergeK g3
 rw[e3,e4]
 have HOV1:Hid (F1.over F0 w):=Lib.hid (fun k o hk=>(hnew k o hk).elim .inl (fun h=> .inr (hnwW k o h)))
 have HLE1:=Lib.hid hle1
 have HOW1:=Lib.hid (hownW.next (Q':=fun j=>NumRow w.heap.size 43 F1 n (rawM (lM a 0 0) j)) (fun _ _=>rfl) (fun j hj v s hq=>NumRow.mono hq hle2))
 clear e2 e3 e4 hown hnw hnwW hownW g1 g2 g3 g UN hnew hle1 hle2 F
 revert g4
 intro g
 go_wp2_with (with_reducible refine yq _ ?_;(try generalize (G.w _).heap.size=bk);(try dsimp only[yi,yj]);(try clear g);intro g)
 go_loopw [2,3,6] (fun lv dv iv wr=>lv=.slice (some ⟨ob,0,none⟩) n cc∧∃i:Nat,iv=.int .i64 (i:Int)∧i≤n∧Hid (∀j,j<i→0<facD a j)∧Hid (∀r,r<i→∀c,c≤r→x r c=x c r)∧∃(cd:Nat) (Ad:Option Addr) (ld:List Tri) (sc R:List Blk) (F:Frag),dv=.slice Ad i cd∧Hid (RowV w.heap.size 43 3 i (cells3 ld) Ad cd sc)∧Hid (F.Tris ld i (rawR (facD a)))∧Hid (OwnOn (List.range n) (fun j=>NumRow w.heap.size 43 F n (rawM (lM a i 0) j)) R cs)∧Hid (F.over F0 w)∧Hid (F0.le F)∧∃g:G w [] ((ob,38,cs)::(sc++R)) [F,F0],wr=g.w) (fun _ _ iv _=>n-(intOf iv).toNat)
 case atStart=>exact⟨rfl,0,rfl,by omega,Lib.hid (fun j h=>absurd h (Nat.not_lt_zero j)),Lib.hid (fun j h=>absurd h (Nat.not_lt_zero j)),0,none,[],[],R,F1,rfl,Lib.hid (RowV.nil _ _ _),Lib.hid (Frag.Tris.nil _ _),HOW1,HOV1,HLE1,g,rfl⟩
 case round =>
  clear g HOW1 HOV1 HLE1
  obtain⟨rfl,i,rfl,hi',HPO,HSY,cd,Ad,ld,sc,R,F,rfl,HVR,HTD,HOW,HOV,HLE,g,rfl⟩:=hrel
  by_cases hin:i<n
  ·have hii:(i:Int)<(n:Int):=by omega
   obtain⟨Bi,ki,hhi,hrwi⟩:=HR.out i hin
   obtain⟨bi,oi,rfl,hni⟩:=hrwi.num n1
   have EHI:∀(M:List Blk) (I:List Frag) (g:G w [] M I) (hF:InF F0 I),g.w.cell? ⟨b,o+i,none⟩=some (.slice (some ⟨bi,oi,none⟩) n ki):=fun M I g hF=>hhi _ _ _ _ g hF
   have HNI:=Lib.hid hni
   clear hhi hrwi hni
   go_wp2_with (with_reducible refine yq _ ?_;(try generalize (G.w _).heap.size=bk);(try dsimp only[yi,yj]);(try clear g);intro g)
   go_loopw [2,3,7] (fun lv dv kv wr=>lv=.slice (some ⟨ob,0,none⟩) n cc∧∃k:Nat,kv=.int .i64 (k:Int)∧∃nd:Nat,Hid ((k≤i∧nd=i)∨(k=i+1∧nd=i+1))∧Hid (∀j,j<nd→0<facD a j)∧Hid (∀c,c<k→x i c=x c i)∧∃(cd:Nat) (Ad:Option Addr) (ld:List Tri) (sc R:List Blk) (F:Frag),dv=.slice Ad nd cd∧Hid (RowV w.heap.size 43 3 nd (cells3 ld) Ad cd sc)∧Hid (F.Tris ld nd (rawR (facD a)))∧Hid (OwnOn (List.range n) (fun j=>NumRow w.heap.size 43 F n (rawM (lM a i k) j)) R cs)∧Hid (F.over F0 w)∧Hid (F0.le F)∧∃g:G w [] ((ob,38,cs)::(sc++R)) [F,F0],wr=g.w) (fun _ _ kv _=>i+1-(intOf kv).toNat)
   case atStart=>exact⟨rfl,0,rfl,i,Lib.hid (.inl ⟨by omega,rfl⟩),HPO,Lib.hid (fun c h=>absurd h (Nat.not_lt_zero c)),cd,Ad,ld,sc,R,F,rfl,HVR,HTD,HOW,HOV,HLE,g,rfl⟩
   case round=>
    clear g HPO HVR HTD HOW HOV HLE
    obtain⟨rfl,k,rfl,nd,HND,HPO,HSR,cd,Ad,ld,sc,R,F,rfl,HVR,HTD,HOW,HOV,HLE,g,rfl⟩:=hrel
    by_cases hki:k≤i
    ·have hkii:(k:Int)≤(i:Int):=by omega
     have hkn:k<n:=by omega
     obtain rfl:i=nd:=HND.out.elim (fun h=>h.2.symm) (fun h=>by omega)
     obtain⟨Bk,kk,hhk,hrwk⟩:=HR.out k hkn
     obtain⟨bk2,ok2,rfl,hnk⟩:=hrwk.num n1
     have EHK:∀(M:List Blk) (I:List Frag) (g:G w [] M I) (hF:InF F0 I),g.w.cell? ⟨b,o+k,none⟩=some (.slice (some ⟨bk2,ok2,none⟩) n kk):=fun M I g hF=>hhk _ _ _ _ g hF
     obtain⟨p,q,r,h3,hrt⟩:=HNI.out k hkn
     obtain⟨sx,Px,nx,dx,Qx,mx,ex,rfl,rfl,rfl⟩:=hrt.shape
     have X0:∀(M:List Blk) (I:List Frag) (g:G w [] M I) (hF:InF F0 I),g.w.cell? ⟨bi,oi+k*3,none⟩=some (.bool sx):=fun M I g hF=>(h3 _ _ _ _ g hF).1
     have X1:∀(M:List Blk) (I:List Frag) (g:G w [] M I) (hF:InF F0 I),g.w.cell? ⟨bi,oi+k*3+1,none⟩=some (.slice Px nx dx):=fun M I g hF=>(h3 _ _ _ _ g hF).2.1
     have X2:∀(M:List Blk) (I:List Frag) (g:G w [] M I) (hF:InF F0 I),g.w.cell? ⟨bi,oi+k*3+2,none⟩=some (.slice Qx mx ex):=fun M I g hF=>(h3 _ _ _ _ g hF).2.2
     obtain⟨p,q,r,h4,hrt2⟩:=hnk i hin
     obtain⟨sy,Py,ny,dy,Qy,my,ey,rfl,rfl,rfl⟩:=hrt2.shape
     have Y0:∀(M:List Blk) (I:List Frag) (g:G w [] M I) (hF:InF F0 I),g.w.cell? ⟨bk2,ok2+i*3,none⟩=some (.bool sy):=fun M I g hF=>(h4 _ _ _ _ g hF).1
     have Y1:∀(M:List Blk) (I:List Frag) (g:G w [] M I) (hF:InF F0 I),g.w.cell? ⟨bk2,ok2+i*3+1,none⟩=some (.slice Py ny dy):=fun M I g hF=>(h4 _ _ _ _ g hF).2.1
     have Y2:∀(M:List Blk) (I:List Frag) (g:G w [] M I) (hF:InF F0 I),g.w.cell? ⟨bk2,ok2+i*3+2,none⟩=some (.slice Qy my ey):=fun M I g hF=>(h4 _ _ _ _ g hF).2.2
     obtain⟨z,hz⟩:∃z,decide (rawM x i k=rawM x k i)=z:=⟨_,rfl⟩
     have HSK:Hid (z=true↔x i k=x k i):=Lib.hid (by
      rw[←hz,decide_eq_true_iff]
      exact⟨fun h=>rawOf_inj h,fun h=>congrArg rawOf h⟩)
     have CS1:=Lib.hid (CS.out (rawM x i k) (rawM x k i))
     rw[hz] at CS1
     have HX:=Lib.hid hrt
     have HY:=Lib.hid hrt2
     clear h3 h4 hrt hrt2 hz hhk hrwk hnk HND
     go_upto_region 9 with(with_reducible refine yq _ ?_;(try generalize (G.w _).heap.size=bk);(try dsimp only[yi,yj]);(try clear g);intro g)
     ((try simp only[G.drew_eq,G.drewN_eq]);(refine yq _ ?_;(try generalize (G.w _).heap.size=bk);(try dsimp only[yi,yj]);(try clear g);intro g))
     refine wp_region_held_drew (S:=(fun w'=>w'.cell? ⟨b,o+i,none⟩=some (.slice (some ⟨bi,oi,none⟩) n ki)∧(w'.cell? ⟨bi,oi+k*3,none⟩=some (.bool sx)∧w'.cell? ⟨bi,oi+k*3+1,none⟩=some (.slice Px nx dx)∧w'.cell? ⟨bi,oi+k*3+2,none⟩=some (.slice Qx mx ex))∧w'.cell? ⟨b,o+k,none⟩=some (.slice (some ⟨bk2,ok2,none⟩) n kk)∧w'.cell? ⟨bk2,ok2+i*3,none⟩=some (.bool sy)∧w'.cell? ⟨bk2,ok2+i*3+1,none⟩=some (.slice Py ny dy)∧w'.cell? ⟨bk2,ok2+i*3+2,none⟩=some (.slice Qy my ey))) (by kernel_rfl) (by(simp[go_sem,InF.t2,InF.t3,InF.t4, *];done)) (fun hHeld=>?_)
     refine tk0 [0,1,2,3,4,5,6,7,8,9,10,11,12,13] ?_
     iterate 14 (refine tkc rfl (by kernel_rfl) (fun _ _ _ h=>h) (by rfl) ‹_› (by intro w hSw;(try dsimp only at hSw);go_simp;(try with_reducible rfl)) ?_;try simp only[Act.put,yk,yl,yn,yo,yi,yj])
     refine tkn ?_
     refine wpAnyH_ready (rs:=[14]) (by kernel_rfl) (by simp) ?_
     refine AllReadyH.cons rfl (fun K hK=>?_) AllReadyH.nil
     ·(try simp only[Act.put,yk,yl,yn,yo,yi,yj])
      go_simp
      go_at_call 27
      (try(refine cmark _ ?_;(try dsimp only[yi,yj]);(try clear g);intro g))
      refine(CS1.out _ _ _ _ _ _ _ (G.rtI g (f:=F0) (by simp) HX.out) (G.rtI g (f:=F0) (by simp) HY.out)).mono ?_
      rintro e w1 ⟨rfl,hb⟩
      obtain⟨g1,rfl⟩:=G.call_ex _ hb
      clear hb
      (try clear g)
      revert g1
      intro g
      refine hK.out _ _ (by(simp[go_sem,InF.t2,InF.t3,InF.t4, *];done)) (fun hHeld=>?_)
      clear hK K
      (try simp only[Act.put,yk,yl,yn,yo,yi,yj])
      refine tk0 [15] ?_
      iterate 1 (refine tkc rfl (by kernel_rfl) (fun _ _ _ h=>h) (by rfl) ‹_› (by intro w hSw;(try dsimp only at hSw);go_simp;(try with_reducible rfl)) ?_;try simp only[Act.put,yk,yl,yn,yo,yi,yj])
      refine tkn ?_
      refine wpAnyH_done (by kernel_rfl) ?_ _
      (as_aux_lemma=>
       (try clear hHeld)
       clear CS1 EHK Y0 Y1 Y2 HY
       ((try simp only[G.drew_eq,G.drewN_eq]);(refine yq _ ?_;(try generalize (G.w _).heap.size=bk);(try dsimp only[yi,yj]);(try clear g);intro g))
       cases z
       case false=>
        go_wp2_with (with_reducible refine yq _ ?_;(try generalize (G.w _).heap.size=bk);(try dsimp only[yi,yj]);(try clear g);intro g)
        refine bodyPost_ret (v:=.tuple #[.slice none 0 0,.slice none 0 0,.bool false]) (by simp[results,Tryz.results88,go_sem]) rfl ?_
        exact HNO.out _ (fun h=>absurd (HSK.out.2 (h.1 i hin k hki)) (by decide)) (G.below _)
       case true=>
        have HSR2:Hid (∀c,c<k+1→x i c=x c i):=Lib.hid (fun c hc=>by
         by_cases hck:c=k
         ·rw[hck];exact HSK.out.1 rfl
         ·exact HSR.out c (by omega))
        have HS0:Hid (F.Rt (.bool sx) (.slice Px nx dx) (.slice Qx mx ex) (rawOf (parM a i k 0))):=Lib.hid (by
         rw[parM_zero,HLO.out i k hki]
         exact HX.out.mono HLE.out)
        have HD0:Hid (∀j,j<k→facD a j≠0):=Lib.hid (fun j hj e=>by
         have:=HPO.out j (by omega)
         rw[e] at this
         exact absurd this (Rat.lt_irrefl))
        have HFK:=Lib.hid (HFF.out i hin k hki HD0.out)
        clear HSK HSR
        go_wp2_with (with_reducible refine yq _ ?_;(try generalize (G.w _).heap.size=bk);(try dsimp only[yi,yj]);(try clear g);intro g)
        obtain⟨sb,rfl⟩:∃sb,sb=bk:=⟨_,rfl⟩
        clear X0 X1 X2 HX EHI
        go_loopw [9] (fun jv wr=>∃j:Nat,jv=.int .i64 (j:Int)∧j≤k∧∃(F:Frag) (p q r:Value),Hid (F.Rt p q r (rawOf (parM a i k j)))∧Hid (F.Tris ld i (rawR (facD a)))∧Hid (OwnOn (List.range n) (fun j=>NumRow w.heap.size 43 F n (rawM (lM a i k) j)) R cs)∧Hid (F.over F0 w)∧Hid (F0.le F)∧∃g:G w [] ((sb,43,[p,q,r])::(ob,38,cs)::(sc++R)) [F,F0],wr=g.w) (fun jv _=>k-(intOf jv).toNat)
        case atStart=>exact⟨0,rfl,by omega,F,_,_,_,HS0,HTD,HOW,HOV,HLE,_,rfl⟩
        case round=>
         clear g HS0 HTD HOW HOV HLE
         obtain⟨j,rfl,hj',F,p,q,r,HS,HTD,HOW,HOV,HLE,g,rfl⟩:=hrel
         obtain⟨s5,P5,n5,d5,Q5,m5,e5,rfl,rfl,rfl⟩:=HS.out.shape
         by_cases hjk:j<k
         ·have hjj:(j:Int)<(k:Int):=by omega
          obtain⟨ri,ci,li,csi,hoi,hmi,hri,hti⟩:=OwnOn.block HOW.out hin n1
          obtain⟨rk,ck,lk,csk,hok,hmk,hrk,htk⟩:=OwnOn.block HOW.out hkn n1
          rcases HVR.out with⟨_,_,h0,_⟩|⟨db,dcs,rfl,rfl,hdb,hdrow⟩
          ·omega
          obtain⟨p6,q6,r6,hl6,ht6⟩:=hti.2 j (by omega)
          obtain⟨u0,u1,u2⟩:=hri.tri hl6
          obtain⟨s6,P6,n6,d6,Q6,m6,e6,rfl,rfl,rfl⟩:=ht6.shape
          unfold rawM at ht6
          rw[lM_at a (.inr ⟨rfl,hjk⟩)] at ht6
          obtain⟨p7,q7,r7,hl7,ht7⟩:=htk.2 j (by omega)
          obtain⟨v0,v1,v2⟩:=hrk.tri hl7
          obtain⟨s7,P7,n7,d7,Q7,m7,e7,rfl,rfl,rfl⟩:=ht7.shape
          unfold rawM at ht7
          rw[lM_at a (by omega)] at ht7
          obtain⟨p8,q8,r8,hl8,ht8⟩:=HTD.out.2 j (by omega)
          obtain⟨w0,w1,w2⟩:=hdrow.tri hl8
          obtain⟨s8,P8,n8,d8,Q8,m8,e8,rfl,rfl,rfl⟩:=ht8.shape
          have HX6:=Lib.hid ht6
          have HX7:=Lib.hid ht7
          have HX8:Hid (F.Rt (.bool s8) (.slice P8 n8 d8) (.slice Q8 m8 e8) (rawOf (facD a j))):=Lib.hid ht8
          have L6:∀(v:Blk) (I:List Frag) (g:G w [] (v::(ob,38,cs)::([(db,43,dcs)]++R)) I),(g.w.cell? ⟨ri,j*3,none⟩=some (.bool s6)∧g.w.cell? ⟨ri,j*3+1,none⟩=some (.slice P6 n6 d6)∧g.w.cell? ⟨ri,j*3+2,none⟩=some (.slice Q6 m6 e6))∧(g.w.cell? ⟨rk,j*3,none⟩=some (.bool s7)∧g.w.cell? ⟨rk,j*3+1,none⟩=some (.slice P7 n7 d7)∧g.w.cell? ⟨rk,j*3+2,none⟩=some (.slice Q7 m7 e7))∧(g.w.cell? ⟨db,j*3,none⟩=some (.bool s8)∧g.w.cell? ⟨db,j*3+1,none⟩=some (.slice P8 n8 d8)∧g.w.cell? ⟨db,j*3+2,none⟩=some (.slice Q8 m8 e8)):=fun v I g=>⟨⟨cellB g (T:=43) (cs:=csi) (by simp[hmi]) u0,cellB g (T:=43) (cs:=csi) (by simp[hmi]) u1,cellB g (T:=43) (cs:=csi) (by simp[hmi]) u2⟩,⟨cellB g (T:=43) (cs:=csk) (by simp[hmk]) v0,cellB g (T:=43) (cs:=csk) (by simp[hmk]) v1,cellB g (T:=43) (cs:=csk) (by simp[hmk]) v2⟩,cellB g (T:=43) (cs:=dcs) (by simp) w0,cellB g (T:=43) (cs:=dcs) (by simp) w1,cellB g (T:=43) (cs:=dcs) (by simp) w2⟩
          have hcd:Hid (i≤cd∧cd≤9223372036854775807):=Lib.hid ⟨hdrow.le,hdrow.max⟩
          have hji:(j:Int)<(i:Int):=by omega
          have hjn:(j:Int)<(n:Int):=by omega
          have HBJ:=Lib.hid (HFK.out.1 j hjk)
          have HB1:=Lib.hid (HPB.out i hin k hki j hj' HD0.out)
          have HB2:Hid (Bd 8192 (-(facL a i j*facL a k j*facD a j))):=Lib.hid (by
           unfold Bd
           rw[rn_neg,Rat.neg_den]
           exact HBJ.out.2.2.2.2)
          clear hti htk hri hrk hl6 hl7 hl8 ht6 ht7 ht8 u0 u1 u2 v0 v1 v2 w0 w1 w2 hmi hmk hdrow
          go_upto_region 15 with(with_reducible refine yq _ ?_;(try generalize (G.w _).heap.size=bk);(try dsimp only[yi,yj]);(try clear g);intro g)
          ((try simp only[G.drew_eq,G.drewN_eq]);(refine yq _ ?_;(try generalize (G.w _).heap.size=bk);(try dsimp only[yi,yj]);(try clear g);intro g))
          refine wp_region_held_drew (S:=(fun w'=>(w'.cell? ⟨ob,i,none⟩=some (.slice (some ⟨ri,0,none⟩) n ci)∧w'.cell? ⟨ob,k,none⟩=some (.slice (some ⟨rk,0,none⟩) n ck))∧(w'.cell? ⟨ri,j*3,none⟩=some (.bool s6)∧w'.cell? ⟨ri,j*3+1,none⟩=some (.slice P6 n6 d6)∧w'.cell? ⟨ri,j*3+2,none⟩=some (.slice Q6 m6 e6))∧(w'.cell? ⟨rk,j*3,none⟩=some (.bool s7)∧w'.cell? ⟨rk,j*3+1,none⟩=some (.slice P7 n7 d7)∧w'.cell? ⟨rk,j*3+2,none⟩=some (.slice Q7 m7 e7))∧(w'.cell? ⟨db,j*3,none⟩=some (.bool s8)∧w'.cell? ⟨db,j*3+1,none⟩=some (.slice P8 n8 d8)∧w'.cell? ⟨db,j*3+2,none⟩=some (.slice Q8 m8 e8)))) (by kernel_rfl) (by(simp[go_sem, *];done)) (fun hHeld=>?_)
          refine tk0 [1,2,3,4,5,6,7,8,9,10,11,12,13,14,16,17,18,19] ?_
          iterate 18 (refine tkc rfl (by kernel_rfl) (fun _ _ _ h=>h) (by rfl) ‹_› (by intro w hSw;(try dsimp only at hSw);go_simp;(try with_reducible rfl)) ?_;try simp only[Act.put,yk,yl,yn,yo,yi,yj])
          refine tkn ?_
          refine wpAnyH_ready (rs:=[0,15]) (by kernel_rfl) (by simp) ?_
          refine AllReadyH.cons rfl (fun K hK=>?_) (AllReadyH.cons rfl (fun K hK=>?_) AllReadyH.nil)
          ·(try simp only[Act.put,yk,yl,yn,yo,yi,yj])
           go_simp
           refine hK.out _ _ (by(simp[go_sem, *];done)) (fun hHeld=>?_)
           clear hK K
           (try simp only[Act.put,yk,yl,yn,yo,yi,yj])
           refine wpAnyH_ready (rs:=[15]) (by kernel_rfl) (by simp) ?_
           refine AllReadyH.cons rfl (fun K hK=>?_) AllReadyH.nil
           ·(try simp only[Act.put,yk,yl,yn,yo,yi,yj])
            go_simp
            go_at_call 48
            (try(refine cmark _ ?_;(try dsimp only[yi,yj]);(try clear g);intro g))
            refine(CTI.out _ _ HBJ.out.1 HBJ.out.2.1 _ _ _ _ _ _ _ (G.rtI g (f:=F) (by simp) HX6.out) (G.rtI g (f:=F) (by simp) HX7.out)).mono ?_
            rintro e w1 ⟨pt,qt,rt,Ft,rfl,ht,hn⟩
            have hnnt:=fun k o hk=>Nat.le_trans g.chg.size (hn.new k o hk)
            obtain⟨st,At,nt,ct,Bt,dt,kt,rfl,rfl,rfl⟩:=ht.shape
            obtain⟨g1,rfl⟩:=G.new_ex _ hn
            clear hn
            (try clear g)
            revert g1
            intro g
            refine hK.out _ _ (by(simp[go_sem, *];done)) (fun hHeld=>?_)
            clear hK K
            (try simp only[Act.put,yk,yl,yn,yo,yi,yj])
            refine wpAnyH_ready (rs:=[20]) (by kernel_rfl) (by simp) ?_
            refine AllReadyH.cons rfl (fun K hK=>?_) AllReadyH.nil
            ·(try simp only[Act.put,yk,yl,yn,yo,yi,yj])
             go_simp
             go_at_call 48
             (try(refine cmark _ ?_;(try dsimp only[yi,yj]);(try clear g);intro g))
             refine(CTI.out _ _ HBJ.out.2.2.1 HBJ.out.2.2.2.1 _ _ _ _ _ _ _ (G.rtI g (by simp) ht) (G.rtI g (f:=F) (by simp) HX8.out)).mono ?_
             rintro e w1 ⟨pu,qu,ru,Fu,rfl,hu,hn⟩
             have hnnu:=fun k o hk=>Nat.le_trans g.chg.size (hn.new k o hk)
             obtain⟨su,Au,nu,cu,Bu,du,ku,rfl,rfl,rfl⟩:=hu.shape
             obtain⟨g1,rfl⟩:=G.new_ex _ hn
             clear hn
             (try clear g)
             revert g1
             intro g
             refine hK.out _ _ (by(simp[go_sem, *];done)) (fun hHeld=>?_)
             clear hK K
             (try simp only[Act.put,yk,yl,yn,yo,yi,yj])
             refine wpAnyH_ready (rs:=[21]) (by kernel_rfl) (by simp) ?_
             refine AllReadyH.cons rfl (fun K hK=>?_) AllReadyH.nil
             ·(try simp only[Act.put,yk,yl,yn,yo,yi,yj])
              go_simp
              go_at_call 107
              (try(refine cmark _ ?_;(try dsimp only[yi,yj]);(try clear g);intro g))
              refine(CMI.out _ HBJ.out.2.2.2.2 _ _ _ _ (G.rtI g (by simp) hu)).mono ?_
              rintro e w1 ⟨pv,qv,rv,Fv,rfl,hv,hn⟩
              have hnnv:=fun k o hk=>Nat.le_trans g.chg.size (hn.new k o hk)
              obtain⟨sv,Av,nv,cv,Bv,dv,kv,rfl,rfl,rfl⟩:=hv.shape
              obtain⟨g1,rfl⟩:=G.new_ex _ hn
              clear hn
              (try clear g)
              revert g1
              intro g
              refine hK.out _ _ (by(simp[go_sem, *];done)) (fun hHeld=>?_)
              clear hK K
              (try simp only[Act.put,yk,yl,yn,yo,yi,yj])
              refine wpAnyH_ready (rs:=[22]) (by kernel_rfl) (by simp) ?_
              refine AllReadyH.cons rfl (fun K hK=>?_) AllReadyH.nil
              ·(try simp only[Act.put,yk,yl,yn,yo,yi,yj])
               go_simp
               go_at_call 74
               (try(refine cmark _ ?_;(try dsimp only[yi,yj]);(try clear g);intro g))
               refine(CPL.out _ _ HB1.out HB2.out _ _ _ _ _ _ _ (G.rtI g (f:=F) (by simp) HS.out) (G.rtI g (by simp) hv)).mono ?_
               rintro e w1 ⟨px,qx,rx,Fx,rfl,hx,hn⟩
               have hnnx:=fun k o hk=>Nat.le_trans g.chg.size (hn.new k o hk)
               obtain⟨sx,Ax,nx,cx,Bx,dx,kx,rfl,rfl,rfl⟩:=hx.shape
               obtain⟨g1,rfl⟩:=G.new_ex _ hn
               clear hn
               (try clear g)
               revert g1
               intro g
               refine hK.out _ _ (by(simp[go_sem, *];done)) (fun hHeld=>?_)
               clear hK K
               (try simp only[Act.put,yk,yl,yn,yo,yi,yj])
               refine wpAnyH_ready (rs:=[23]) (by kernel_rfl) (by simp) ?_
               refine AllReadyH.cons rfl (fun K hK=>?_) AllReadyH.nil
               ·(try simp only[Act.put,yk,yl,yn,yo,yi,yj])
                go_simp
                refine hK.out _ _ (by(simp[go_sem, *];done)) (fun hHeld=>?_)
                clear hK K
                (try simp only[Act.put,yk,yl,yn,yo,yi,yj])
                refine wpAnyH_done (by kernel_rfl) ?_ _
                (as_aux_lemma=>
                 (try clear hHeld)
                 clear L6
                 ((try simp only[G.drew_eq,G.drewN_eq]);(refine yq _ ?_;(try generalize (G.w _).heap.size=bk);(try dsimp only[yi,yj]);(try clear g);intro g))
                 go_wp2_with (with_reducible refine yq _ ?_;(try generalize (G.w _).heap.size=bk);(try dsimp only[yi,yj]);(try clear g);intro g)
                 rw[parM_next] at hx
                 obtain⟨g2,e2⟩:=g.lessI (I':=[Fx,F,F0]) (by simp)
                 obtain⟨F',g3,e3,hle1,hle2,hnew⟩:=g2.merge
                 rw[e2,e3]
                 refine⟨?_,?measure⟩
                 refine⟨_,_,_,_,_,_,_,_,_,_,_,_,_,_,_,_,_,_,_,_,_,_,_,_,_,_,_,_,_,?rel,rfl⟩
                 case rel=>exact⟨j+1,by go_num,by omega,F',_,_,_,Lib.hid (hx.mono hle2),Lib.hid (HTD.out.mono hle1),Lib.hid (HOW.out.next (fun _ _=>rfl) (fun j hj v s hq=>NumRow.mono hq hle1)),Lib.hid (fun k' o hk'=>(hnew k' o hk').elim (HOV.out k' o) (fun h=> .inr (hnnx k' o h))),Lib.hid (Frag.le_trans HLE.out hle1),g3,rfl⟩
                 case measure=>simp[intOf]<;>omega)
          ·(try simp only[Act.put,yk,yl,yn,yo,yi,yj])
           go_simp
           go_at_call 48
           (try(refine cmark _ ?_;(try dsimp only[yi,yj]);(try clear g);intro g))
           refine(CTI.out _ _ HBJ.out.1 HBJ.out.2.1 _ _ _ _ _ _ _ (G.rtI g (f:=F) (by simp) HX6.out) (G.rtI g (f:=F) (by simp) HX7.out)).mono ?_
           rintro e w1 ⟨pt,qt,rt,Ft,rfl,ht,hn⟩
           have hnnt:=fun k o hk=>Nat.le_trans g.chg.size (hn.new k o hk)
           obtain⟨st,At,nt,ct,Bt,dt,kt,rfl,rfl,rfl⟩:=ht.shape
           obtain⟨g1,rfl⟩:=G.new_ex _ hn
           clear hn
           (try clear g)
           revert g1
           intro g
           refine hK.out _ _ (by(simp[go_sem, *];done)) (fun hHeld=>?_)
           clear hK K
           (try simp only[Act.put,yk,yl,yn,yo,yi,yj])
           refine wpAnyH_ready (rs:=[0,20]) (by kernel_rfl) (by simp) ?_
           refine AllReadyH.cons rfl (fun K hK=>?_) (AllReadyH.cons rfl (fun K hK=>?_) AllReadyH.nil)
           ·(try simp only[Act.put,yk,yl,yn,yo,yi,yj])
            go_simp
            refine hK.out _ _ (by(simp[go_sem, *];done)) (fun hHeld=>?_)
            clear hK K
            (try simp only[Act.put,yk,yl,yn,yo,yi,yj])
            refine wpAnyH_ready (rs:=[20]) (by kernel_rfl) (by simp) ?_
            refine AllReadyH.cons rfl (fun K hK=>?_) AllReadyH.nil
            ·(try simp only[Act.put,yk,yl,yn,yo,yi,yj])
             go_simp
             go_at_call 48
             (try(refine cmark _ ?_;(try dsimp only[yi,yj]);(try clear g);intro g))
             refine(CTI.out _ _ HBJ.out.2.2.1 HBJ.out.2.2.2.1 _ _ _ _ _ _ _ (G.rtI g (by simp) ht) (G.rtI g (f:=F) (by simp) HX8.out)).mono ?_
             rintro e w1 ⟨pu,qu,ru,Fu,rfl,hu,hn⟩
             have hnnu:=fun k o hk=>Nat.le_trans g.chg.size (hn.new k o hk)
             obtain⟨su,Au,nu,cu,Bu,du,ku,rfl,rfl,rfl⟩:=hu.shape
             obtain⟨g1,rfl⟩:=G.new_ex _ hn
             clear hn
             (try clear g)
             revert g1
             intro g
             refine hK.out _ _ (by(simp[go_sem, *];done)) (fun hHeld=>?_)
             clear hK K
             (try simp only[Act.put,yk,yl,yn,yo,yi,yj])
             refine wpAnyH_ready (rs:=[21]) (by kernel_rfl) (by simp) ?_
             refine AllReadyH.cons rfl (fun K hK=>?_) AllReadyH.nil
             ·(try simp only[Act.put,yk,yl,yn,yo,yi,yj])
              go_simp
              go_at_call 107
              (try(refine cmark _ ?_;(try dsimp only[yi,yj]);(try clear g);intro g))
              refine(CMI.out _ HBJ.out.2.2.2.2 _ _ _ _ (G.rtI g (by simp) hu)).mono ?_
              rintro e w1 ⟨pv,qv,rv,Fv,rfl,hv,hn⟩
              have hnnv:=fun k o hk=>Nat.le_trans g.chg.size (hn.new k o hk)
              obtain⟨sv,Av,nv,cv,Bv,dv,kv,rfl,rfl,rfl⟩:=hv.shape
              obtain⟨g1,rfl⟩:=G.new_ex _ hn
              clear hn
              (try clear g)
              revert g1
              intro g
              refine hK.out _ _ (by(simp[go_sem, *];done)) (fun hHeld=>?_)
              clear hK K
              (try simp only[Act.put,yk,yl,yn,yo,yi,yj])
              refine wpAnyH_ready (rs:=[22]) (by kernel_rfl) (by simp) ?_
              refine AllReadyH.cons rfl (fun K hK=>?_) AllReadyH.nil
              ·(try simp only[Act.put,yk,yl,yn,yo,yi,yj])
               go_simp
               go_at_call 74
               (try(refine cmark _ ?_;(try dsimp only[yi,yj]);(try clear g);intro g))
               refine(CPL.out _ _ HB1.out HB2.out _ _ _ _ _ _ _ (G.rtI g (f:=F) (by simp) HS.out) (G.rtI g (by simp) hv)).mono ?_
               rintro e w1 ⟨px,qx,rx,Fx,rfl,hx,hn⟩
               have hnnx:=fun k o hk=>Nat.le_trans g.chg.size (hn.new k o hk)
               obtain⟨sx,Ax,nx,cx,Bx,dx,kx,rfl,rfl,rfl⟩:=hx.shape
               obtain⟨g1,rfl⟩:=G.new_ex _ hn
               clear hn
               (try clear g)
               revert g1
               intro g
               refine hK.out _ _ (by(simp[go_sem, *];done)) (fun hHeld=>?_)
               clear hK K
               (try simp only[Act.put,yk,yl,yn,yo,yi,yj])
               refine wpAnyH_ready (rs:=[23]) (by kernel_rfl) (by simp) ?_
               refine AllReadyH.cons rfl (fun K hK=>?_) AllReadyH.nil
               ·(try simp only[Act.put,yk,yl,yn,yo,yi,yj])
                go_simp
                refine hK.out _ _ (by(simp[go_sem, *];done)) (fun hHeld=>?_)
                clear hK K
                (try simp only[Act.put,yk,yl,yn,yo,yi,yj])
                refine wpAnyH_done (by kernel_rfl) ?_ _
                (as_aux_lemma=>
                 (try clear hHeld)
                 clear L6
                 ((try simp only[G.drew_eq,G.drewN_eq]);(refine yq _ ?_;(try generalize (G.w _).heap.size=bk);(try dsimp only[yi,yj]);(try clear g);intro g))
                 go_wp2_with (with_reducible refine yq _ ?_;(try generalize (G.w _).heap.size=bk);(try dsimp only[yi,yj]);(try clear g);intro g)
                 rw[parM_next] at hx
                 obtain⟨g2,e2⟩:=g.lessI (I':=[Fx,F,F0]) (by simp)
                 obtain⟨F',g3,e3,hle1,hle2,hnew⟩:=g2.merge
                 rw[e2,e3]
                 refine⟨?_,?measure⟩
                 refine⟨_,_,_,_,_,_,_,_,_,_,_,_,_,_,_,_,_,_,_,_,_,_,_,_,_,_,_,_,_,?rel,rfl⟩
                 case rel=>exact⟨j+1,by go_num,by omega,F',_,_,_,Lib.hid (hx.mono hle2),Lib.hid (HTD.out.mono hle1),Lib.hid (HOW.out.next (fun _ _=>rfl) (fun j hj v s hq=>NumRow.mono hq hle1)),Lib.hid (fun k' o hk'=>(hnew k' o hk').elim (HOV.out k' o) (fun h=> .inr (hnnx k' o h))),Lib.hid (Frag.le_trans HLE.out hle1),g3,rfl⟩
                 case measure=>simp[intOf]<;>omega)
           ·(try simp only[Act.put,yk,yl,yn,yo,yi,yj])
            go_simp
            go_at_call 48
            (try(refine cmark _ ?_;(try dsimp only[yi,yj]);(try clear g);intro g))
            refine(CTI.out _ _ HBJ.out.2.2.1 HBJ.out.2.2.2.1 _ _ _ _ _ _ _ (G.rtI g (by simp) ht) (G.rtI g (f:=F) (by simp) HX8.out)).mono ?_
            rintro e w1 ⟨pu,qu,ru,Fu,rfl,hu,hn⟩
            have hnnu:=fun k o hk=>Nat.le_trans g.chg.size (hn.new k o hk)
            obtain⟨su,Au,nu,cu,Bu,du,ku,rfl,rfl,rfl⟩:=hu.shape
            obtain⟨g1,rfl⟩:=G.new_ex _ hn
            clear hn
            (try clear g)
            revert g1
            intro g
            refine hK.out _ _ (by(simp[go_sem, *];done)) (fun hHeld=>?_)
            clear hK K
            (try simp only[Act.put,yk,yl,yn,yo,yi,yj])
            refine wpAnyH_ready (rs:=[0,21]) (by kernel_rfl) (by simp) ?_
            refine AllReadyH.cons rfl (fun K hK=>?_) (AllReadyH.cons rfl (fun K hK=>?_) AllReadyH.nil)
            ·(try simp only[Act.put,yk,yl,yn,yo,yi,yj])
             go_simp
             refine hK.out _ _ (by(simp[go_sem, *];done)) (fun hHeld=>?_)
             clear hK K
             (try simp only[Act.put,yk,yl,yn,yo,yi,yj])
             refine wpAnyH_ready (rs:=[21]) (by kernel_rfl) (by simp) ?_
             refine AllReadyH.cons rfl (fun K hK=>?_) AllReadyH.nil
             ·(try simp only[Act.put,yk,yl,yn,yo,yi,yj])
              go_simp
              go_at_call 107
              (try(refine cmark _ ?_;(try dsimp only[yi,yj]);(try clear g);intro g))
              refine(CMI.out _ HBJ.out.2.2.2.2 _ _ _ _ (G.rtI g (by simp) hu)).mono ?_
              rintro e w1 ⟨pv,qv,rv,Fv,rfl,hv,hn⟩
              have hnnv:=fun k o hk=>Nat.le_trans g.chg.size (hn.new k o hk)
              obtain⟨sv,Av,nv,cv,Bv,dv,kv,rfl,rfl,rfl⟩:=hv.shape
              obtain⟨g1,rfl⟩:=G.new_ex _ hn
              clear hn
              (try clear g)
              revert g1
              intro g
              refine hK.out _ _ (by(simp[go_sem, *];done)) (fun hHeld=>?_)
              clear hK K
              (try simp only[Act.put,yk,yl,yn,yo,yi,yj])
              refine wpAnyH_ready (rs:=[22]) (by kernel_rfl) (by simp) ?_
              refine AllReadyH.cons rfl (fun K hK=>?_) AllReadyH.nil
              ·(try simp only[Act.put,yk,yl,yn,yo,yi,yj])
               go_simp
               go_at_call 74
               (try(refine cmark _ ?_;(try dsimp only[yi,yj]);(try clear g);intro g))
               refine(CPL.out _ _ HB1.out HB2.out _ _ _ _ _ _ _ (G.rtI g (f:=F) (by simp) HS.out) (G.rtI g (by simp) hv)).mono ?_
               rintro e w1 ⟨px,qx,rx,Fx,rfl,hx,hn⟩
               have hnnx:=fun k o hk=>Nat.le_trans g.chg.size (hn.new k o hk)
               obtain⟨sx,Ax,nx,cx,Bx,dx,kx,rfl,rfl,rfl⟩:=hx.shape
               obtain⟨g1,rfl⟩:=G.new_ex _ hn
               clear hn
               (try clear g)
               revert g1
               intro g
               refine hK.out _ _ (by(simp[go_sem, *];done)) (fun hHeld=>?_)
               clear hK K
               (try simp only[Act.put,yk,yl,yn,yo,yi,yj])
               refine wpAnyH_ready (rs:=[23]) (by kernel_rfl) (by simp) ?_
               refine AllReadyH.cons rfl (fun K hK=>?_) AllReadyH.nil
               ·(try simp only[Act.put,yk,yl,yn,yo,yi,yj])
                go_simp
                refine hK.out _ _ (by(simp[go_sem, *];done)) (fun hHeld=>?_)
                clear hK K
                (try simp only[Act.put,yk,yl,yn,yo,yi,yj])
                refine wpAnyH_done (by kernel_rfl) ?_ _
                (as_aux_lemma=>
                 (try clear hHeld)
                 clear L6
                 ((try simp only[G.drew_eq,G.drewN_eq]);(refine yq _ ?_;(try generalize (G.w _).heap.size=bk);(try dsimp only[yi,yj]);(try clear g);intro g))
                 go_wp2_with (with_reducible refine yq _ ?_;(try generalize (G.w _).heap.size=bk);(try dsimp only[yi,yj]);(try clear g);intro g)
                 rw[parM_next] at hx
                 obtain⟨g2,e2⟩:=g.lessI (I':=[Fx,F,F0]) (by simp)
                 obtain⟨F',g3,e3,hle1,hle2,hnew⟩:=g2.merge
                 rw[e2,e3]
                 refine⟨?_,?measure⟩
                 refine⟨_,_,_,_,_,_,_,_,_,_,_,_,_,_,_,_,_,_,_,_,_,_,_,_,_,_,_,_,_,?rel,rfl⟩
                 case rel=>exact⟨j+1,by go_num,by omega,F',_,_,_,Lib.hid (hx.mono hle2),Lib.hid (HTD.out.mono hle1),Lib.hid (HOW.out.next (fun _ _=>rfl) (fun j hj v s hq=>NumRow.mono hq hle1)),Lib.hid (fun k' o hk'=>(hnew k' o hk').elim (HOV.out k' o) (fun h=> .inr (hnnx k' o h))),Lib.hid (Frag.le_trans HLE.out hle1),g3,rfl⟩
                 case measure=>simp[intOf]<;>omega)
            ·(try simp only[Act.put,yk,yl,yn,yo,yi,yj])
             go_simp
             go_at_call 107
             (try(refine cmark _ ?_;(try dsimp only[yi,yj]);(try clear g);intro g))
             refine(CMI.out _ HBJ.out.2.2.2.2 _ _ _ _ (G.rtI g (by simp) hu)).mono ?_
             rintro e w1 ⟨pv,qv,rv,Fv,rfl,hv,hn⟩
             have hnnv:=fun k o hk=>Nat.le_trans g.chg.size (hn.new k o hk)
             obtain⟨sv,Av,nv,cv,Bv,dv,kv,rfl,rfl,rfl⟩:=hv.shape
             obtain⟨g1,rfl⟩:=G.new_ex _ hn
             clear hn
             (try clear g)
             revert g1
             intro g
             refine hK.out _ _ (by(simp[go_sem, *];done)) (fun hHeld=>?_)
             clear hK K
             (try simp only[Act.put,yk,yl,yn,yo,yi,yj])
             refine wpAnyH_ready (rs:=[0]) (by kernel_rfl) (by simp) ?_
             refine AllReadyH.cons rfl (fun K hK=>?_) AllReadyH.nil
             ·(try simp only[Act.put,yk,yl,yn,yo,yi,yj])
              go_simp
              refine hK.out _ _ (by(simp[go_sem, *];done)) (fun hHeld=>?_)
              clear hK K
              (try simp only[Act.put,yk,yl,yn,yo,yi,yj])
              refine wpAnyH_ready (rs:=[22]) (by kernel_rfl) (by simp) ?_
              refine AllReadyH.cons rfl (fun K hK=>?_) AllReadyH.nil
              ·(try simp only[Act.put,yk,yl,yn,yo,yi,yj])
               go_simp
               go_at_call 74
               (try(refine cmark _ ?_;(try dsimp only[yi,yj]);(try clear g);intro g))
               refine(CPL.out _ _ HB1.out HB2.out _ _ _ _ _ _ _ (G.rtI g (f:=F) (by simp) HS.out) (G.rtI g (by simp) hv)).mono ?_
               rintro e w1 ⟨px,qx,rx,Fx,rfl,hx,hn⟩
               have hnnx:=fun k o hk=>Nat.le_trans g.chg.size (hn.new k o hk)
               obtain⟨sx,Ax,nx,cx,Bx,dx,kx,rfl,rfl,rfl⟩:=hx.shape
               obtain⟨g1,rfl⟩:=G.new_ex _ hn
               clear hn
               (try clear g)
               revert g1
               intro g
               refine hK.out _ _ (by(simp[go_sem, *];done)) (fun hHeld=>?_)
               clear hK K
               (try simp only[Act.put,yk,yl,yn,yo,yi,yj])
               refine wpAnyH_ready (rs:=[23]) (by kernel_rfl) (by simp) ?_
               refine AllReadyH.cons rfl (fun K hK=>?_) AllReadyH.nil
               ·(try simp only[Act.put,yk,yl,yn,yo,yi,yj])
                go_simp
                refine hK.out _ _ (by(simp[go_sem, *];done)) (fun hHeld=>?_)
                clear hK K
                (try simp only[Act.put,yk,yl,yn,yo,yi,yj])
                refine wpAnyH_done (by kernel_rfl) ?_ _
                (as_aux_lemma=>
                 (try clear hHeld)
                 clear L6
                 ((try simp only[G.drew_eq,G.drewN_eq]);(refine yq _ ?_;(try generalize (G.w _).heap.size=bk);(try dsimp only[yi,yj]);(try clear g);intro g))
                 go_wp2_with (with_reducible refine yq _ ?_;(try generalize (G.w _).heap.size=bk);(try dsimp only[yi,yj]);(try clear g);intro g)
                 rw[parM_next] at hx
                 obtain⟨g2,e2⟩:=g.lessI (I':=[Fx,F,F0]) (by simp)
                 obtain⟨F',g3,e3,hle1,hle2,hnew⟩:=g2.merge
                 rw[e2,e3]
                 refine⟨?_,?measure⟩
                 refine⟨_,_,_,_,_,_,_,_,_,_,_,_,_,_,_,_,_,_,_,_,_,_,_,_,_,_,_,_,_,?rel,rfl⟩
                 case rel=>exact⟨j+1,by go_num,by omega,F',_,_,_,Lib.hid (hx.mono hle2),Lib.hid (HTD.out.mono hle1),Lib.hid (HOW.out.next (fun _ _=>rfl) (fun j hj v s hq=>NumRow.mono hq hle1)),Lib.hid (fun k' o hk'=>(hnew k' o hk').elim (HOV.out k' o) (fun h=> .inr (hnnx k' o h))),Lib.hid (Frag.le_trans HLE.out hle1),g3,rfl⟩
                 case measure=>simp[intOf]<;>omega)
         ·obtain rfl:k=j:=by omega
          clear hjk hj'
          by_cases hkl:k<i
          ·have hkk:(k:Int)<(i:Int):=by omega
           rcases HVR.out with⟨_,_,h0,_⟩|⟨db,dcs,rfl,rfl,hdb,hdrow⟩
           ·omega
           obtain⟨rb,c4,rcs,l4,R',hv,hrb,hrrow,hl,hp,hbut⟩:=own_open HOW.out hin n1
           obtain⟨g1,e1'⟩:=g.perm (M':=(sb,43,[.bool s5,.slice P5 n5 d5,.slice Q5 m5 e5])::(ob,38,cs)::(db,43,dcs)::(rb,43,rcs)::R') (((hp.append_left [(db,43,dcs)]).cons _).cons _)
           rw[e1']
           clear e1' g hp
           revert g1
           intro g
           have HC:=Lib.hid (own_set (z':=rawM (lM a i (k+1))) hin hkn hv hrb hrrow hl hbut (fun r c _ _ h=>by unfold rawM;rw[lM_ne a h]))
           obtain⟨p6,q6,r6,hl6,ht6⟩:=hl.2 k hkn
           obtain⟨y0,y1,y2⟩:=hrrow.tri hl6
           obtain⟨p8,q8,r8,hl8,ht8⟩:=HTD.out.2 k hkl
           obtain⟨w0,w1,w2⟩:=hdrow.tri hl8
           obtain⟨s8,P8,n8,d8,Q8,m8,e8,rfl,rfl,rfl⟩:=ht8.shape
           have HX8:Hid (F.Rt (.bool s8) (.slice P8 n8 d8) (.slice Q8 m8 e8) (rawOf (facD a k))):=Lib.hid ht8
           have HK0:Hid (facD a k≠0):=Lib.hid (fun e=>by
            have:=HPO.out k hkl
            rw[e] at this
            exact absurd this (Rat.lt_irrefl))
           have HB1:Hid (Bd 8192 (parM a i k k)):=Lib.hid (by rw[parM_end a hki];exact HFK.out.2.2.1)
           have HB2:Hid (Bd 8192 (facD a k)):=Lib.hid (HFF.out k hkn k (Nat.le_refl k) HD0.out).2.2.1
           have HVAL:Hid (parM a i k k/facD a k=facL a i k):=Lib.hid (by
            rw[parM_end a hki]
            show _=(if k<i then facS a k i/facD a k else _)
            rw[if_pos hkl])
           have hcd:Hid (i≤cd∧cd≤9223372036854775807):=Lib.hid ⟨hdrow.le,hdrow.max⟩
           have HDR:=Lib.hid (And.intro hdb hdrow)
           clear hl6 hl8 ht6 ht8 hbut hl hrrow hdrow hdb HVR HOW
           go_upto_region 17 with(with_reducible refine yq _ ?_;(try generalize (G.w _).heap.size=bk);(try dsimp only[yi,yj]);(try clear g);intro g)
           ((try simp only[G.drew_eq,G.drewN_eq]);(refine yq _ ?_;(try generalize (G.w _).heap.size=bk);(try dsimp only[yi,yj]);(try clear g);intro g))
           refine wp_region_held_drew (S:=(fun w'=>(w'.cell? ⟨sb,0,none⟩=some (.bool s5)∧w'.cell? ⟨sb,1,none⟩=some (.slice P5 n5 d5)∧w'.cell? ⟨sb,2,none⟩=some (.slice Q5 m5 e5))∧w'.cell? ⟨ob,i,none⟩=some (.slice (some ⟨rb,0,none⟩) n c4)∧(w'.cell? ⟨db,k*3,none⟩=some (.bool s8)∧w'.cell? ⟨db,k*3+1,none⟩=some (.slice P8 n8 d8)∧w'.cell? ⟨db,k*3+2,none⟩=some (.slice Q8 m8 e8)))) (by kernel_rfl) (by(simp[go_sem, *];done)) (fun hHeld=>?_)
           refine tk0 [0,1,2,3,4,5,6,7,8,9] ?_
           iterate 10 (refine tkc rfl (by kernel_rfl) (fun _ _ _ h=>h) (by rfl) ‹_› (by intro w hSw;(try dsimp only at hSw);go_simp;(try with_reducible rfl)) ?_;try simp only[Act.put,yk,yl,yn,yo,yi,yj])
           refine tkn ?_
           refine wpAnyH_ready (rs:=[10]) (by kernel_rfl) (by simp) ?_
           refine AllReadyH.cons rfl (fun K hK=>?_) AllReadyH.nil
           ·(try simp only[Act.put,yk,yl,yn,yo,yi,yj])
            go_simp
            go_at_call 108
            (try(refine cmark _ ?_;(try dsimp only[yi,yj]);(try clear g);intro g))
            refine(COV.out _ _ HB1.out HB2.out HK0.out _ _ _ _ _ _ _ (G.rtI g (f:=F) (by simp) HS.out) (G.rtI g (f:=F) (by simp) HX8.out)).mono ?_
            rintro e w1 ⟨py,qy,ry,Fy,rfl,hy,hn⟩
            have hnny:=fun k o hk=>Nat.le_trans g.chg.size (hn.new k o hk)
            obtain⟨sy,Ay,ny,cy,By,dy,ky,rfl,rfl,rfl⟩:=hy.shape
            obtain⟨g1,rfl⟩:=G.new_ex _ hn
            clear hn
            (try clear g)
            revert g1
            intro g
            refine hK.out _ _ (by(simp[go_sem, *];done)) (fun hHeld=>?_)
            clear hK K
            (try simp only[Act.put,yk,yl,yn,yo,yi,yj])
            refine tk0 [11] ?_
            iterate 1 (refine tkc rfl (by kernel_rfl) (fun _ _ _ h=>h) (by rfl) ‹_› (by intro w hSw;(try dsimp only at hSw);go_simp;(try with_reducible rfl)) ?_;try simp only[Act.put,yk,yl,yn,yo,yi,yj])
            refine tkn ?_
            refine wpAnyH_ready (rs:=[12]) (by kernel_rfl) (by simp) ?_
            refine AllReadyH.cons rfl (fun K hK=>?_) AllReadyH.nil
            ·(try simp only[Act.put,yk,yl,yn,yo,yi,yj])
             go_simp
             refine hK.out _ _ (by(simp[go_sem, *];done)) (fun hHeld=>?_)
             clear hK K
             (try simp only[Act.put,yk,yl,yn,yo,yi,yj])
             refine wpAnyH_done (by kernel_rfl) ?_ _
             (as_aux_lemma=>
              (try clear hHeld)
              ((try simp only[G.drew_eq,G.drewN_eq]);(refine yq _ ?_;(try generalize (G.w _).heap.size=bk);(try dsimp only[yi,yj]);(try clear g);intro g))
              go_wp2_with (with_reducible refine yq _ ?_;(try generalize (G.w _).heap.size=bk);(try dsimp only[yi,yj]);(try clear g);intro g)
              rw[HVAL.out] at hy
              obtain⟨F',g3,e3,hle1,hle2,hnew⟩:=g.merge
              obtain⟨g4,e4⟩:=g3.less (List.sublist_cons_self _ _)
              rw[e3,e4]
              go_roundw
              case rel=>exact⟨rfl,k+1,by go_num,i,Lib.hid (.inl ⟨by omega,rfl⟩),HPO,HSR2,cd,_,ld,[(db,43,dcs)],_,F',rfl,Lib.hid (RowV.row HDR.out.2 HDR.out.1),Lib.hid (HTD.out.mono hle1),Lib.hid (HC.out F' _ _ _ hle1 (by unfold rawM;rw[lM_at a (.inr ⟨rfl,Nat.lt_succ_self k⟩)];exact hy.mono hle2)),Lib.hid (fun k' o hk'=>(hnew k' o hk').elim (HOV.out k' o) (fun h=> .inr (hnny k' o h))),Lib.hid (Frag.le_trans HLE.out hle1),g4,rfl⟩
              case measure=>simp[intOf]<;>omega)
          ·obtain rfl:i=k:=by omega
           have hii2:¬ ((i:Int)<(i:Int)):=by omega
           have hx:F.Rt (.bool s5) (.slice P5 n5 d5) (.slice Q5 m5 e5) (rawOf (facD a i)):=by
            have:=HS.out
            rwa[parM_end a (Nat.le_refl i)] at this
           have hsx:=rt_sign hx
           have HHX:=Lib.hid hx
           have CZ1:=Lib.hid (CZ.out (facD a i))
           clear hkl HS HPB HFF HFK HD0
           by_cases hD:0<facD a i
           ·have hsf:s5=false:=by rw[hsx];exact rneg_pos hD
            subst hsf
            have hnz:decide (facD a i=0)=false:=decide_eq_false fun h=>by
             rw[h] at hD
             exact absurd hD (Rat.lt_irrefl)
            rw[hnz] at CZ1
            have HPO2:Hid (∀j,j<i+1→0<facD a j):=Lib.hid (fun j hj=>by
             rcases Nat.lt_succ_iff_lt_or_eq.1 hj with hj|rfl
             ·exact HPO.out j hj
             ·exact hD)
            have hx1:i+1≤maxLen:=by show i+1≤9223372036854775807;omega
            have hx2:(i+1)*56≤140737488355328:=by omega
            have hdv:=HVR.out
            clear hx hsx hD hnz
            (as_aux_lemma=>
             go_wp2_with (with_reducible refine yq _ ?_;(try generalize (G.w _).heap.size=bk);(try dsimp only[yi,yj]);(try clear g);intro g)
             refine(CZ1.out _ _ _ _ (G.rtI g (f:=F) (by simp) HHX.out)).mono ?_
             rintro e w1 ⟨rfl,hb⟩
             obtain⟨g1,rfl⟩:=G.call_ex _ hb
             clear hb
             (try clear g)
             revert g1
             intro g
             go_wp2_with (first|(with_reducible refine yq _ ?_;(try generalize (G.w _).heap.size=bk);(try dsimp only[yi,yj]);(try clear g);intro g)|(at_builtin;refine wpList_append_v rfl _ _ 38 rfl 43 i0 _ 3 56 Tryz.underlying38 hi hz0 hz1 hz2 rfl (by decide) 3 g (Rr:=sc) (R':=R) (by rfl) hdv (by rfl) (by exact List.mem_cons_self ..) 1 (by rfl) rfl (three _ _ _ ⟨rfl,rfl,rfl⟩) (by decide) hx1 hx2 ?_;clear hdv;(try clear g);intro b2 cap2 cs2 g hb2 hrow2;revert g;dsimp only[List.take,List.cons_append,List.nil_append];intro g))
             obtain⟨g4,e4⟩:=G.less g (M':=(ob,38,cs)::([(b2,43,cs2)]++R)) (by simp)
             rw[e4]
             go_roundw
             case rel=>exact⟨rfl,i+1,by go_num,i+1,Lib.hid (.inr ⟨rfl,rfl⟩),HPO2,HSR2,cap2,_,ld++[(.bool false,.slice P5 n5 d5,.slice Q5 m5 e5)],[(b2,43,cs2)],R,F,rfl,Lib.hid (RowV.row (by rw[cells3_append];exact hrow2) hb2),Lib.hid (HTD.out.snoc HHX.out),Lib.hid (HOW.out.next (fun _ _=>rfl) (fun j hj v s hq=>hq.congr fun j' hj'=>by unfold rawM;rw[lM_diag])),HOV,HLE,g4,rfl⟩
             case measure=>simp[intOf]<;>omega)
           ·have HDD:Hid (¬ ((∀i,i<n→∀k,k≤i→x i k=x k i)∧∀k,k<n→0<facD a k)):=Lib.hid (fun h=>hD (h.2 i hin))
            by_cases h0:facD a i=0
            ·have hsf:s5=false:=by
              rw[hsx,h0]
              decide+kernel
             subst hsf
             rw[decide_eq_true h0] at CZ1
             clear hx hsx hD h0
             (as_aux_lemma=>
              go_wp2_with (with_reducible refine yq _ ?_;(try generalize (G.w _).heap.size=bk);(try dsimp only[yi,yj]);(try clear g);intro g)
              refine(CZ1.out _ _ _ _ (G.rtI g (f:=F) (by simp) HHX.out)).mono ?_
              rintro e w1 ⟨rfl,hb⟩
              obtain⟨g1,rfl⟩:=G.call_ex _ hb
              clear hb
              (try clear g)
              revert g1
              intro g
              go_wp2_with (with_reducible refine yq _ ?_;(try generalize (G.w _).heap.size=bk);(try dsimp only[yi,yj]);(try clear g);intro g)
              refine bodyPost_ret (v:=.tuple #[.slice none 0 0,.slice none 0 0,.bool false]) (by simp[results,Tryz.results88,go_sem]) rfl ?_
              exact HNO.out _ HDD.out (G.below _))
            ·have hsf:s5=true:=by rw[hsx];exact not_pos hD h0
             subst hsf
             clear hx hsx hD h0
             (as_aux_lemma=>
              go_wp2_with (with_reducible refine yq _ ?_;(try generalize (G.w _).heap.size=bk);(try dsimp only[yi,yj]);(try clear g);intro g)
              refine bodyPost_ret (v:=.tuple #[.slice none 0 0,.slice none 0 0,.bool false]) (by simp[results,Tryz.results88,go_sem]) rfl ?_
              exact HNO.out _ HDD.out (G.below _))
        )
    ·have hk1:k=i+1∧nd=i+1:=HND.out.elim (fun h=>absurd h.1 hki) id
     obtain⟨rfl,rfl⟩:=hk1
     have hkii:¬ (((i+1:Nat):Int)≤(i:Int)):=by omega
     have HOW2:Hid (OwnOn (List.range n) (fun j=>NumRow w.heap.size 43 F n (rawM (lM a (i+1) 0) j)) R cs):=Lib.hid (HOW.out.next (fun _ _=>rfl) (fun j hj v s hq=>hq.congr fun c hc=>by unfold rawM;rw[lM_row]))
     have HSY2:Hid (∀r,r<i+1→∀c,c≤r→x r c=x c r):=Lib.hid (fun r hr c hc=>by
      by_cases hri:r=i
      ·subst hri;exact HSR.out c (by omega)
      ·exact HSY.out r (by omega) c hc)
     have hwi:IntKind.i64.wrap ((i:Int)+1)=((i+1:Nat):Int):=by rw[IntKind.wrap_i64];omega
     clear HND hki
     (as_aux_lemma=>
      go_wp2_with (with_reducible refine yq _ ?_;(try generalize (G.w _).heap.size=bk);(try dsimp only[yi,yj]);(try clear g);intro g)
      go_roundw
      case rel=>exact⟨rfl,i+1,by go_num,by omega,HPO,HSY2,cd,Ad,ld,sc,R,F,rfl,HVR,HTD,HOW2,HOV,HLE,g,rfl⟩
      case measure=>simp[intOf]<;>omega)
  ·obtain rfl:n=i:=by omega
   (as_aux_lemma=>
    go_wp2_with (with_reducible refine yq _ ?_;(try generalize (G.w _).heap.size=bk);(try dsimp only[yi,yj]);(try clear g);intro g)
    refine bodyPost_ret (v:=.tuple #[.slice (some ⟨ob,0,none⟩) n cc,.slice Ad n cd,.bool true]) (by simp[results,Tryz.results88,go_sem]) rfl ?_
    obtain⟨g1,e1⟩:=g.as (M':=((ob,38,cs)::(sc++R))++[]) (by simp)
    obtain⟨F6,g3,e3,hle,hbl,hov⟩:=layO (F0:=F0) ((ob,38,cs)::(sc++R)) g1
    have hmt:=HOW.out.mt (F':=F6) (ob:=ob) (cap:=cc) (Ts:=38) hle (fun m hm=>hbl m (by simp[hm])) (hbl (ob,38,cs) (List.mem_cons_self ..)) hcc.1 hcc.2 (by omega) (fun _ _=>by omega)
    rcases HVR.out with⟨_,_,h0,_⟩|⟨db,dcs,rfl,rfl,hdb,hdrow⟩
    ·omega
    have hrw:=row_rw hdrow (hbl (db,43,dcs) (by simp)) (HTD.out.mono hle) (by omega)
    exact HYES.out ob cc _ cd F6 _ HSY.out HPO.out (hmt.congr (fun _ _=>rfl) (fun r hr c hc=>by unfold rawM;rw[lM_end a hr])) hrw ⟨G.below _,by rw[e1,e3];exact g3.sub _ (by simp),hov HOV.out⟩)
/-- the form's sum when i rows and k terms of the next one are done -/
def formP (n:Nat)(a:Mx)(x:Nat→Rat)(i k:Nat):Rat:=sumN i (fun r=>sumN n (fun c=>x r*a r c*x c))+sumN k (fun c=>x i*a i c*x c)
theorem formP_zero (n:Nat)(a:Mx)(x:Nat→Rat):formP n a x 0 0=0:=by
 show(0:Rat)+0=0
 grind
theorem formP_next (n:Nat)(a:Mx)(x:Nat→Rat)(i k:Nat):formP n a x i k+x i*a i k*x k=formP n a x i (k+1):=by
 show _+_+_=_+(_+_)
 grind
theorem formP_row (n:Nat)(a:Mx)(x:Nat→Rat)(i:Nat):formP n a x i n=formP n a x (i+1) 0:=by
 show _+_=(_+_)+(0:Rat)
 grind
theorem formP_end (n:Nat)(a:Mx)(x:Nat→Rat):formP n a x n 0=quadM n a x:=by
 show _+(0:Rat)=_
 unfold quadM
 rw[Rat.add_zero]
 refine sumN_congr fun i _=>?_
 rw[←sumN_mul]
 exact sumN_congr fun k _=>Rat.mul_assoc ..
theorem formP_qn {n:Nat}{a:Mx}{x:Nat→Rat}(ha:∀i,i<n→∀k,k<n→Bd 64 (a i k))(hx:∀i,i<n→Bd 64 (x i)):∀i,i≤n→∀k,k≤n→(i<n∨k=0)→Qn ((i*n+k)*385) ((i*n+k)*192) (formP n a x i k):=by
 intro i
 induction i with
 |zero=>
  intro _ k
  induction k with
  |zero=>exact fun _ _=>⟨1,0,by decide,by simp,by simp,by rw[formP_zero];grind⟩
  |succ k ih=>
   intro hk h
   rw[←formP_next]
   have h1:=ih (by omega) (by omega)
   have h2:=((Bd.qn (hx 0 (by omega))).mul (Bd.qn (ha 0 (by omega) k (by omega)))).mul (Bd.qn (hx k (by omega)))
   exact(h1.add h2).mono (by omega) (by omega)
 |succ i ihi=>
  intro hi k
  induction k with
  |zero=>
   intro _ _
   rw[←formP_row,Nat.succ_mul]
   exact ihi (by omega) n (Nat.le_refl n) (.inl (by omega))
  |succ k ih=>
   intro hk h
   rw[←formP_next]
   have h1:=ih (by omega) (by omega)
   have h2:=((Bd.qn (hx (i+1) (by omega))).mul (Bd.qn (ha (i+1) (by omega) k (by omega)))).mul (Bd.qn (hx k (by omega)))
   refine(h1.add h2).mono ?_ ?_<;>(generalize (i+1)*n=t;omega)
end Go.Proofs.YthhbbnfnejjpiaaGreatDoor
