/- Plain facts and contracts of functions of the program, out of walks. Their conditions stand ahead of each. -/
import Derived.Test.YthhbbnfnejjpiaaGreatDoorCa5
import Derived.Test.YthhbbnfnejjpiaaGreatDoorCa29
import Derived.Test.YthhbbnfnejjpiaaGreatDoorCa31
import Derived.Test.YthhbbnfnejjpiaaGreatDoorCa32
import Derived.Test.YthhbbnfnejjpiaaGreatDoorCa38
import Derived.Below
import Derived.BigQuiet
import Derived.Deep.DeepCutAuto
import Derived.Deep.Draws
import Derived.Deep.LoopGhost
import Derived.Deep.QuietTactic
import Derived.Deep.RegionHeld3
import Derived.Deep.RegionLaw
import Derived.Defers
import Derived.Great.BuildSlice
import Derived.Laws.BytesString
import Derived.Laws.Cells
import Derived.Laws.Concat
import Derived.Laws.CopyOwn
import Derived.Laws.CopyRow
import Derived.Laws.NewBlocks
import Derived.Laws.OwnMore
import Derived.Laws.Pointers
import Derived.Laws.Rows
import Derived.Lib.BitFns
import Derived.Lib.Hide
import Derived.Lib.ItoaNum
import Derived.Lib.SliceRun
import Derived.Lib.TrailingZeros
import Derived.LoopIn
import Derived.LoopNIn
import Derived.Maps.AppendAt
import Derived.OrdersHeld
import Derived.OrdersIn
import Derived.OwnWalk
import Derived.OwnWalkIn
import Derived.RangeFuncBound
import Derived.RangeFuncBox
import Derived.RangeFuncCalls
import Derived.RangeFuncLeaves
import Derived.RangeFuncNested
import Derived.RangeFuncWrites
import Derived.RowKit3
import Derived.Shelf.Abstract
import Derived.Shelf.RegionOpen
import Derived.Shelf.Spec.TrailingZeros
import Derived.StillTactics
import Derived.StillTailTactics
import Derived.TacticsInMore
import Derived.Test.YthhbbnfnejjpiaaGreatDoorProg
import Derived.WalkKit
import Derived.WalkLawsBesides
import Derived.WalkMore
import Derived.WalkSpells
set_option linter.unusedVariables false
set_option linter.unusedSimpArgs false
set_option exponentiation.threshold 10000
namespace Go.Proofs.YthhbbnfnejjpiaaGreatDoor
open Go.RowKit GW NL MX
theorem fineAll_of {n mt cols k b:Nat}{x:Mx}(h:∀i,i<n→∀j,j<mt→Bd k (x i j))(hb:k*mt≤b)(hc:cols≤mt)(h9:2*bnd b (n-1)+2≤8192):FineAll n mt cols x:=fine_run (fit_start h hb) rfl hc (rk_lt n (startE x) cols) h9
theorem wide_bd {n k:Nat}{a b:Mx}{m:Nat}(h:∀i,i<n→∀j,j<n→Bd k (a i j))(h':∀i,i<n→∀j,j<m→Bd k (b i j)):∀i,i<n→∀j,j<n+m→Bd k (wideM n a b i j):=fun i hi j hj=>by
 unfold wideM
 split
 ·exact h i hi j ‹_›
 ·exact h' i hi _ (by omega)
theorem one_bd {k:Nat}(hk:1≤k)(i j:Nat):Bd k (oneM i j):=by
 unfold oneM
 split
 ·exact Bd.mono (k:=1) ⟨by decide+kernel,by decide+kernel⟩ hk
 ·exact Bd.mono (k:=1) ⟨by decide+kernel,by decide+kernel⟩ hk
theorem lints5_r (n m:Nat)(v:Nat→Nat→Int)(A:Option Addr)(c:Nat)(w:World)(hA:(heapOf w).Im A c n (fun _=>m) v)(n1:1≤n)(n2:n≤24)(m1:1≤m)(m2:m≤24):
  Calls Tryz.prog 49 #[.slice A n c] w (RMt n (fun _=>m) (rawM (intM v)) w):=by
 refine calls_b fun g=>?_
 have HA:=Lib.hid hA
 have C:=Lib.hid (fun w h=>rInts_r n m v A c w h n1 n2 m1 m2)
 unfold RMtE at C
 unfold RMt
 clear hA n1 n2 m1 m2
 go_enter Tryz.func49,Tryz.ntmps49
 go_wp2_with (with_reducible refine yq _ ?_;(try generalize (G.w _).heap.size=bk);(try dsimp only[yi,yj]);(try clear g);intro g)
 refine(C.out _ (HA.out.mono (g.sub _ (by simp)))).mono ?_
 rintro e w1 ⟨ba,ca,Fa,rfl,ha,hn⟩
 have hnna:=fun k o hk=>Nat.le_trans g.chg.size (hn.new k o hk)
 obtain⟨g1,rfl⟩:=G.new_ex _ hn
 clear hn
 (try clear g)
 revert g1
 intro g
 go_wp2_with (with_reducible refine yq _ ?_;(try generalize (G.w _).heap.size=bk);(try dsimp only[yi,yj]);(try clear g);intro g)
 go_ret
 exact⟨_,_,_,rfl,ha,G.below _,G.sub _ _ (by simp),hnna⟩
/-- two by two, written out -/
theorem mx2 {x y:Mx}(h:∀i:Fin 2,∀j:Fin 2,x i j=y i j):∀i,i<2→∀j,j<2→x i j=y i j:=fun i hi j hj=>h ⟨i,hi⟩ ⟨j,hj⟩
def invL:Mx:=fun i j=>if i=0 then(if j=0 then -2 else 1) else(if j=0 then 3/2 else -1/2)
theorem live_mul:∀i,i<2→∀j,j<2→mulM 2 (intM (m22 1 2 3 4)) (intM (m22 2 1 1 2)) i j=intM (m22 4 5 10 11) i j:=mx2 (by decide+kernel)
theorem live_det:detV 2 (intM (m22 1 2 3 4))= -2:=by decide+kernel
theorem live_rank:rankM 2 2 (intM (m22 1 2 3 4))=2:=by decide+kernel
theorem live_inv:∀i,i<2→∀j,j<2→behindM 2 (intM (m22 1 2 3 4)) oneM i j=invL i j:=mx2 (by decide+kernel)
theorem bd22 {k:Nat}{x:Mx}(h:∀i:Fin 2,∀j:Fin 2,Bd k (x i j)):∀i,i<2→∀j,j<2→Bd k (x i j):=fun i hi j hj=>h ⟨i,hi⟩ ⟨j,hj⟩
theorem bd22a:∀i,i<2→∀j,j<2→Bd 4 (intM (m22 1 2 3 4) i j):=bd22 (by unfold Bd;decide+kernel)
theorem bd22b:∀i,i<2→∀j,j<2→Bd 4 (intM (m22 2 1 1 2) i j):=bd22 (by unfold Bd;decide+kernel)
theorem bd22p:∀i,i<2→∀t,t<2→∀j,j<2→Bd 8192 (intM (m22 1 2 3 4) i t*intM (m22 2 1 1 2) t j):=fun i hi t ht j hj=>((Bd.qn (bd22a i hi t ht)).mul (Bd.qn (bd22b t ht j hj))).bd' (by decide) (by decide)
theorem bd22s:∀i,i<2→∀j,j<2→∀t,t≤2→Bd 8192 (sumN t (fun l=>intM (m22 1 2 3 4) i l*intM (m22 2 1 1 2) l j)):=fun i hi j hj t ht=>(qn_sum (m:=t) (k:=8) (l:=8) (fun l hl=>(Bd.qn (bd22a i hi l (by omega))).mul (Bd.qn (bd22b l (by omega) j hj)))).bd' (by omega) (by omega)
set_option maxRecDepth 20000 in
set_option maxHeartbeats 8000000 in
theorem lives5_x (w:World)(hT:Tab w):Calls Tryz.prog 10 #[] w fun e w'=>e=.returned (.bool true)∧Below w.heap.size w w':=by
 refine calls_b fun g=>?_
 have HT:=Lib.hid hT
 clear hT
 have CI:=Lib.hid (fun v A c w h=>lints5_r 2 2 v A c w h (by decide) (by decide) (by decide) (by decide))
 unfold RMt at CI
 have CM:=Lib.hid (fun A B c cB w hA hB hT=>Mul_r 2 2 2 (intM (m22 1 2 3 4)) (intM (m22 2 1 1 2)) A B c cB w hA hB hT (by decide) (by decide) (by decide) (by decide) (by decide) (by decide) (fun i hi j hj=>(bd22a i hi j hj).mono (by decide)) (fun i hi j hj=>(bd22b i hi j hj).mono (by decide)) bd22p bd22s)
 unfold RMtE at CM
 have CD:=Lib.hid (fun F0 A c w hF hA hT=>Det_r F0 2 (intM (m22 1 2 3 4)) A c w hF hA hT (by decide) (by decide) (fun i hi j hj=>(bd22a i hi j hj).mono (by decide)) (fineAll_of bd22a (b:=8) (by decide) (by decide) (by decide)))
 rw[live_det] at CD
 have CV:=Lib.hid (fun F0 A c w hF hA hT=>Inv_r F0 2 (intM (m22 1 2 3 4)) A c w hF hA hT (by decide) (by decide) (fun i hi j hj=>(bd22a i hi j hj).mono (by decide)) (fineAll_of (wide_bd bd22a (fun i _ j _=>one_bd (by decide) i j)) (b:=16) (by decide) (by decide) (by decide)))
 unfold RBeh at CV
 rw[live_rank] at CV
 have CS:=Lib.hid (fun x A B c d w hA hB=>lis5_x 2 (fun _=>2) x A B c d w hA hB (by decide) (fun _ _=>by decide))
 have CN:=Lib.hid (fun p q r w h=>lnum5_x (-2) 1 (-2) (by decide) (by decide+kernel) (by decide) (by decide) (by decide) (by decide) p q r w h)
 have CO:=Lib.hid (fun(a b:Int) (z:Rat) (hb:b≠0) (e:frac (decide (a<0) !=decide (b<0)) a.natAbs b.natAbs=z) (h1:I64 a) (h2:I64 b) w=>lof5_r a b z hb e h1.1 h1.2 h2.1 h2.2 w)
 unfold RT1 at CO
 go_enter Tryz.func10,Tryz.ntmps10
 go_wp2_with (with_reducible refine yq _ ?_;(try generalize (G.w _).heap.size=bk);(try dsimp only[yi,yj]);(try clear g);intro g)
 refine(CI.out (m22 1 2 3 4) _ _ _ (im22 g 1 2 3 4 (.head _) (.tail _ (.tail _ (.head _))) (.tail _ (.head _)) (by decide) (by decide) (by decide) (by decide))).mono ?_
 rintro e w1 ⟨ba,ca,Fa,rfl,ha,hn⟩
 have hnna:=fun k o hk=>Nat.le_trans g.chg.size (hn.new k o hk)
 obtain⟨g1,rfl⟩:=G.new_ex _ hn
 clear hn
 (try clear g)
 revert g1
 intro g
 go_wp2_with (with_reducible refine yq _ ?_;(try generalize (G.w _).heap.size=bk);(try dsimp only[yi,yj]);(try clear g);intro g)
 refine(CI.out (m22 2 1 1 2) _ _ _ (im22 g 2 1 1 2 (.head _) (.tail _ (.tail _ (.head _))) (.tail _ (.head _)) (by decide) (by decide) (by decide) (by decide))).mono ?_
 rintro e w1 ⟨bb,cb,Fb,rfl,hb,hn⟩
 have hnnb:=fun k o hk=>Nat.le_trans g.chg.size (hn.new k o hk)
 obtain⟨g1,rfl⟩:=G.new_ex _ hn
 clear hn
 (try clear g)
 revert g1
 intro g
 obtain⟨g2,hg2⟩:=G.less g (M':=[]) (List.nil_sublist _)
 rw[hg2]
 clear hg2
 (try clear g)
 revert g2
 intro g
 go_wp2_with (with_reducible refine yq _ ?_;(try generalize (G.w _).heap.size=bk);(try dsimp only[yi,yj]);(try clear g);intro g)
 refine(CM.out _ _ _ _ _ (ha.mono (g.sub _ (by simp))) (hb.mono (g.sub _ (by simp))) (G.tab g HT.out)).mono ?_
 rintro e w1 ⟨bm,cm,Fm,rfl,hm,hn⟩
 have hnnm:=fun k o hk=>Nat.le_trans g.chg.size (hn.new k o hk)
 obtain⟨g1,rfl⟩:=G.new_ex _ hn
 clear hn
 (try clear g)
 revert g1
 intro g
 go_wp2_with (with_reducible refine yq _ ?_;(try generalize (G.w _).heap.size=bk);(try dsimp only[yi,yj]);(try clear g);intro g)
 refine(CD.out Fa _ _ _ (g.sub _ (by simp)) ha (G.tab g HT.out)).mono ?_
 rintro e w1 ⟨pd,qd,rd,Fd,rfl,hd,hn⟩
 obtain⟨sd,Ad,nd,cd,Bd,dd,kd,rfl,rfl,rfl⟩:=hd.shape
 obtain⟨g1,rfl,hod⟩:=G.nor_ex _ (by simp) hn
 clear hn
 (try clear g)
 revert g1
 intro g
 go_wp2_with (with_reducible refine yq _ ?_;(try generalize (G.w _).heap.size=bk);(try dsimp only[yi,yj]);(try clear g);intro g)
 (try(refine cmark _ ?_;(try dsimp only[yi,yj]);(try clear g);intro g))
 refine(CV.out Fa _ _ _ (g.sub _ (by simp)) ha (G.tab g HT.out)).mono ?_
 rintro e w1 (⟨hr,_⟩|⟨_,bi,ki,Fi,rfl,hmi,hno⟩)
 ·exact absurd hr (by decide)
 obtain⟨g1,rfl,hoi⟩:=G.nor_ex _ (by simp) hno
 clear hno g
 revert g1
 intro g
 have hmm:Fm.Mt (some ⟨bm,0,none⟩) cm 2 (fun _=>2) (rawM (intM (m22 4 5 10 11))):=hm.congr (fun _ _=>rfl) (fun i hi j hj=>congrArg rawOf (live_mul i hi j hj))
 have hii:Fi.Mt (some ⟨bi,0,none⟩) ki 2 (fun _=>2) (rawM invL):=hmi.congr (fun _ _=>rfl) (fun i hi j hj=>congrArg rawOf (live_inv i hi j hj))
 clear hm hmi CM CD CV
 (as_aux_lemma=>
  go_wp2_with (with_reducible refine yq _ ?_;(try generalize (G.w _).heap.size=bk);(try dsimp only[yi,yj]);(try clear g);intro g)
  refine(CI.out (m22 4 5 10 11) _ _ _ (im22 g 4 5 10 11 (.head _) (.tail _ (.tail _ (.head _))) (.tail _ (.head _)) (by decide) (by decide) (by decide) (by decide))).mono ?_
  rintro e w1 ⟨bx,cx,Fx,rfl,hx,hn⟩
  have hnnx:=fun k o hk=>Nat.le_trans g.chg.size (hn.new k o hk)
  obtain⟨g1,rfl⟩:=G.new_ex _ hn
  clear hn
  (try clear g)
  revert g1
  intro g
  go_wp2_with (with_reducible refine yq _ ?_;(try generalize (G.w _).heap.size=bk);(try dsimp only[yi,yj]);(try clear g);intro g)
  refine(CS.out _ _ _ _ _ _ (hmm.mono (g.sub _ (by simp))) (hx.mono (g.sub _ (by simp)))).mono ?_
  rintro e w1 ⟨rfl,hb⟩
  obtain⟨g1,rfl⟩:=G.call_ex _ hb
  clear hb
  (try clear g)
  revert g1
  intro g
  go_wp2_with (with_reducible refine yq _ ?_;(try generalize (G.w _).heap.size=bk);(try dsimp only[yi,yj]);(try clear g);intro g)
  refine(CN.out _ _ _ _ (G.rtI g (by simp) hd)).mono ?_
  rintro e w1 ⟨rfl,hb⟩
  obtain⟨g1,rfl⟩:=G.call_ex _ hb
  clear hb
  (try clear g)
  revert g1
  intro g
  go_wp2_with (with_reducible refine yq _ ?_;(try generalize (G.w _).heap.size=bk);(try dsimp only[yi,yj]);(try clear g);intro g)
  (as_aux_lemma=>
   refine(CO.out (-2) 1 (-2) (by decide) (by decide+kernel) (by decide) (by decide) _).mono ?_
   rintro e w1 ⟨po1,qo1,ro1,Fo1,rfl,ho1,hn⟩
   have hnno1:=fun k o hk=>Nat.le_trans g.chg.size (hn.new k o hk)
   obtain⟨so1,Ao1,no1,co1,Bo1,do1,ko1,rfl,rfl,rfl⟩:=ho1.shape
   obtain⟨g1,rfl⟩:=G.new_ex _ hn
   clear hn
   (try clear g)
   revert g1
   intro g
   go_wp2_with (with_reducible refine yq _ ?_;(try generalize (G.w _).heap.size=bk);(try dsimp only[yi,yj]);(try clear g);intro g)
   refine(CO.out 1 1 1 (by decide) (by decide+kernel) (by decide) (by decide) _).mono ?_
   rintro e w1 ⟨po2,qo2,ro2,Fo2,rfl,ho2,hn⟩
   have hnno2:=fun k o hk=>Nat.le_trans g.chg.size (hn.new k o hk)
   obtain⟨so2,Ao2,no2,co2,Bo2,do2,ko2,rfl,rfl,rfl⟩:=ho2.shape
   obtain⟨g1,rfl⟩:=G.new_ex _ hn
   clear hn
   (try clear g)
   revert g1
   intro g
   go_wp2_with (first|(with_reducible refine yq _ ?_;(try generalize (G.w _).heap.size=bk);(try dsimp only[yi,yj]);(try clear g);intro g)|(refine bslice2 (by rfl) _ _ (by rfl) (by rfl) (by rfl) g ?_;(try clear g);intro b2 g))
   refine(CO.out 3 2 (3/2) (by decide) (by decide+kernel) (by decide) (by decide) _).mono ?_
   rintro e w1 ⟨po3,qo3,ro3,Fo3,rfl,ho3,hn⟩
   have hnno3:=fun k o hk=>Nat.le_trans g.chg.size (hn.new k o hk)
   obtain⟨so3,Ao3,no3,co3,Bo3,do3,ko3,rfl,rfl,rfl⟩:=ho3.shape
   obtain⟨g1,rfl⟩:=G.new_ex _ hn
   clear hn
   (try clear g)
   revert g1
   intro g
   go_wp2_with (with_reducible refine yq _ ?_;(try generalize (G.w _).heap.size=bk);(try dsimp only[yi,yj]);(try clear g);intro g)
   refine(CO.out (-1) 2 (-1/2) (by decide) (by decide+kernel) (by decide) (by decide) _).mono ?_
   rintro e w1 ⟨po4,qo4,ro4,Fo4,rfl,ho4,hn⟩
   have hnno4:=fun k o hk=>Nat.le_trans g.chg.size (hn.new k o hk)
   obtain⟨so4,Ao4,no4,co4,Bo4,do4,ko4,rfl,rfl,rfl⟩:=ho4.shape
   obtain⟨g1,rfl⟩:=G.new_ex _ hn
   clear hn
   (try clear g)
   revert g1
   intro g
   go_wp2_with (first|(with_reducible refine yq _ ?_;(try generalize (G.w _).heap.size=bk);(try dsimp only[yi,yj]);(try clear g);intro g)|(refine bslice2 (by rfl) _ _ (by rfl) (by rfl) (by rfl) g ?_;(try clear g);intro b2 g))
   (as_aux_lemma=>
    have hl:(heapOf g.w).Mt _ _ 2 (fun _=>2) (rawM invL):=mtM g (.head _) (by decide) (two_cases ⟨_,_,rfl,rwM g _ (.tail _ (.tail _ (.head _))) (tris2 (x:=rawM invL 0) (G.rtI g (by simp) ho1) (G.rtI g (by simp) ho2)) (by decide)⟩ ⟨_,_,rfl,rwM g _ (.tail _ (.head _)) (tris2 (x:=rawM invL 1) (G.rtI g (by simp) ho3) (G.rtI g (by simp) ho4)) (by decide)⟩)
    refine(CS.out _ _ _ _ _ _ (hii.mono (g.sub _ (by simp))) hl).mono ?_
    rintro e w1 ⟨rfl,hb⟩
    obtain⟨g1,rfl⟩:=G.call_ex _ hb
    clear hb
    (try clear g)
    revert g1
    intro g
    go_wp2_with (with_reducible refine yq _ ?_;(try generalize (G.w _).heap.size=bk);(try dsimp only[yi,yj]);(try clear g);intro g)
    go_ret
    exact⟨rfl,G.below _⟩)))
end Go.Proofs.YthhbbnfnejjpiaaGreatDoor
namespace Go.Proofs.YthhbbnfnejjpiaaGreatDoor
open Go.RowKit GW NL MX
theorem listE_all {x:Nat→Raw}:∀ {n:Nat},listE x n=0→∀j,j<n→numE (x j)=0
 |0,_,j,h=>absurd h (Nat.not_lt_zero j)
 |n+1,h,j,hj=>by
  unfold listE at h
  by_cases h0:listE x n=0
  ·rw[if_pos h0] at h
   by_cases hjn:j=n
   ·subst hjn;exact h
   ·exact listE_all h0 j (by omega)
  ·rw[if_neg h0] at h;exact absurd h h0
theorem rowsE_all {m:Nat→Nat}{x:Nat→Nat→Raw}:∀ {n:Nat},rowsE m x n=0→∀i,i<n→rowE m x i=0
 |0,_,i,h=>absurd h (Nat.not_lt_zero i)
 |n+1,h,i,hi=>by
  unfold rowsE at h
  by_cases h0:rowsE m x n=0
  ·rw[if_pos h0] at h
   by_cases hin:i=n
   ·subst hin;exact h
   ·exact rowsE_all h0 i (by omega)
  ·rw[if_neg h0] at h;exact absurd h h0
/-- The limbs of what lies in memory are below 2^32. -/
theorem mt_ok {f:Frag}{A:Option Addr}{c n:Nat}{m:Nat→Nat}{x:Nat→Nat→Raw}(h:f.Mt A c n m x){i j:Nat}(hi:i<n)(hj:j<m i):Ok (x i j).2.1∧Ok (x i j).2.2:=by
 obtain⟨b,o,_,hrow⟩:=h.rowAt (by omega)
 obtain⟨B,k,_,hrw⟩:=hrow i hi
 obtain⟨b2,o2,_,hnum⟩:=hrw.num (by omega)
 obtain⟨p,q,r,_,_,⟨_,_,_,h1⟩,_,_,_,h2⟩:=hnum j hj
 exact⟨h1.ok,h2.ok⟩
theorem numE_rat {t:Raw}(h:numE t=0)(h1:Ok t.2.1)(h2:Ok t.2.2)(h3:SzT t):∃z:Rat,t=rawOf z∧Bd 64 z:=by
 obtain⟨s,l,m⟩:=t
 obtain⟨z,rfl,rfl,rfl,_⟩:=rchk_val h1 h2 h
 refine⟨z,rfl,?_⟩
 have e:=limbs_len (rn z) 2
 have e2:=limbs_len z.den 2
 exact⟨e.1 h3.1,e2.1 h3.2⟩
/-- A matrix of n rows of k numbers of at most 64 bits. -/
def VM (n:Nat)(m:Nat→Nat)(x:Nat→Nat→Raw)(k:Nat)(X:Mx):Prop:=(∀i,i<n→m i=k)∧∀i,i<n→∀j,j<k→x i j=rawM X i j∧Bd 64 (X i j)
theorem valM {f:Frag}{A:Option Addr}{c n:Nat}{m:Nat→Nat}{x:Nat→Nat→Raw}(hA:f.Mt A c n m x)(h:matE n m x=0)(hs:SzM n m x):∃X:Mx,VM n m x (m 0) X:=by
 have hp:=matE_pos h
 unfold matE at h
 rw[if_pos (show shpE n (m 0)=0 from by unfold shpE;rw[if_neg (by omega)])] at h
 have hr:=rowsE_all h
 have hm:∀i,i<n→m i=m 0∧listE (x i) (m i)=0:=fun i hi=>by
  have:=hr i hi
  unfold rowE at this
  by_cases h0:m i=m 0
  ·rw[if_pos h0] at this;exact⟨h0,this⟩
  ·rw[if_neg h0] at this;exact absurd this (by decide)
 have hz:∀i j,∃z:Rat,i<n→j<m 0→x i j=rawOf z∧Bd 64 z:=fun i j=>by
  by_cases hi:i<n
  ·by_cases hj:j<m 0
   ·have hj':j<m i:=by rw[(hm i hi).1];exact hj
    have ok:=mt_ok hA hi hj'
    obtain⟨z,h1,h2⟩:=numE_rat (listE_all (hm i hi).2 j hj') ok.1 ok.2 ((hs.2 i hi).2 j hj')
    exact⟨z,fun _ _=>⟨h1,h2⟩⟩
   ·exact⟨0,fun _ h=>absurd h hj⟩
  ·exact⟨0,fun h=>absurd h hi⟩
 exact⟨fun i j=>(hz i j).choose,fun i hi=>(hm i hi).1,fun i hi j hj=>(hz i j).choose_spec hi hj⟩
theorem VM.mt {f:Frag}{A:Option Addr}{c n k:Nat}{m:Nat→Nat}{x:Nat→Nat→Raw}{X:Mx}(h:VM n m x k X)(hA:f.Mt A c n m x):f.Mt A c n (fun _=>k) (rawM X):=
 hA.congr h.1 (fun i hi j hj=>(h.2 i hi j (by rw[←h.1 i hi];exact hj)).1)
theorem VM.bd {n k:Nat}{m:Nat→Nat}{x:Nat→Nat→Raw}{X:Mx}(h:VM n m x k X):∀i,i<n→∀j,j<k→Bd 8192 (X i j):=fun i hi j hj=>(h.2 i hi j hj).2.mono (by decide)
/-- what returns a matrix or an error -/
def RMX (E:Int)(N K:Nat)(Z:Mx)(w:World)(e:Ending)(w':World):Prop:=∃A c F,e=.returned (.tuple #[.slice A N c,.int .i64 E])∧Frag.Mt F A c N (fun _=>K) (rawM Z)∧New w w' F
theorem RMX.of {n m:Nat}{z:Mx}{w w':World}{e:Ending}(h:RMtE n (fun _=>m) (rawM z) w e w'):RMX 0 n m z w e w':=by
 obtain⟨b,c,F,h1,h2,h3⟩:=h
 exact⟨_,c,F,h1,h2,h3⟩
theorem New.none {w w':World}(h:Below w.heap.size w w'):New w w' (fun _=>Option.none):=⟨h,fun k o e=>(by cases e),fun k o e=>(by cases e)⟩
theorem RMX.err {E:Int}{w w':World}{e:Ending}(h:RErr E w e w'):RMX E 0 0 zM w e w':=
 ⟨Option.none,0,fun _=>Option.none,h.1,Frag.Mt.nil _ _ _ _,New.none h.2⟩
/-- Two functions of two matrices return the same. -/
def Bth2 (f f':FuncId)(n:Nat)(m:Nat→Nat)(x:Nat→Nat→Raw)(n':Nat)(m':Nat→Nat)(x':Nat→Nat→Raw):Prop:=∃(E:Int) (N K:Nat) (Z:Mx),(N≤1000∧K≤1000)∧
 (∀A c B c' w,(heapOf w).Mt A c n m x→(heapOf w).Mt B c' n' m' x'→Tab w→Calls Tryz.prog f #[.slice A n c,.slice B n' c'] w (RMX E N K Z w))∧
 (∀A c B c' w,(heapOf w).Mt A c n m x→(heapOf w).Mt B c' n' m' x'→Calls Tryz.prog f' #[.slice A n c,.slice B n' c'] w (RMX E N K Z w))
def Bth1 (f f':FuncId)(n:Nat)(m:Nat→Nat)(x:Nat→Nat→Raw):Prop:=∃(E:Int) (N K:Nat) (Z:Mx),(N≤1000∧K≤1000)∧
 (∀A c w,(heapOf w).Mt A c n m x→Tab w→Calls Tryz.prog f #[.slice A n c] w (RMX E N K Z w))∧
 (∀A c w,(heapOf w).Mt A c n m x→Calls Tryz.prog f' #[.slice A n c] w (RMX E N K Z w))
theorem add_both {f f':Frag}{A B:Option Addr}{c c' n n':Nat}{m m':Nat→Nat}{x x':Nat→Nat→Raw}(hA:f.Mt A c n m x)(hB:f'.Mt B c' n' m' x')(hs:SzM n m x)(hs':SzM n' m' x'):Bth2 14 31 n m x n' m' x':=by
 by_cases h0:mat2E n m x n' m' x'=0
 ·have h1:matE n m x=0:=by
   unfold mat2E at h0
   by_cases h:matE n m x=0
   ·exact h
   ·rw[if_neg h] at h0;exact h0
  have h2:matE n' m' x'=0:=by unfold mat2E at h0;rwa[if_pos h1] at h0
  by_cases h3:n≠n'∨m 0≠m' 0
  ·exact⟨10,0,0,zM,by decide,fun A c B c' w a b t=>(Add_t n n' m m' x x' A B c c' w a b t h1 h2 h3).mono fun _ _ h=>RMX.err h,fun A c B c' w a b=>(rAdd_t n n' m m' x x' A B c c' w a b h1 h2 h3).mono fun _ _ h=>RMX.err h⟩
  ·have hn:n=n':=Decidable.not_not.1 fun h=>h3 (.inl h)
   have hm:m 0=m' 0:=Decidable.not_not.1 fun h=>h3 (.inr h)
   have hp:=matE_pos h1
   obtain⟨X,hX⟩:=valM hA h1 hs
   obtain⟨Y,hY⟩:=valM hB h2 hs'
   rw[←hm] at hY
   subst hn
   have bs:∀i,i<n→∀j,j<m 0→Bd 8192 (X i j+Y i j):=fun i hi j hj=>((Bd.qn (hX.2 i hi j hj).2).add (Bd.qn (hY.2 i hi j hj).2)).bd' (by decide) (by decide)
   exact⟨0,n,m 0,addM X Y,by omega,fun A c B c' w a b t=>(Add_r n (m 0) X Y A B c c' w (hX.mt a) (hY.mt b) t hp.1.1 hp.1.2 hp.2.1 hp.2.2 hX.bd hY.bd bs).mono fun _ _ h=>RMX.of h,
    fun A c B c' w a b=>(rAdd_r n (m 0) X Y A B c c' w (hX.mt a) (hY.mt b) hp.1.1 hp.1.2 hp.2.1 hp.2.2 hX.bd hY.bd bs).mono fun _ _ h=>RMX.of h⟩
 ·exact⟨_,0,0,zM,by decide,fun A c B c' w a b t=>(Add_e n n' m m' x x' A B c c' _ w a b t rfl h0).mono fun _ _ h=>RMX.err h,fun A c B c' w a b=>(rAdd_e n n' m m' x x' A B c c' _ w a b rfl h0).mono fun _ _ h=>RMX.err h⟩
theorem mul_both {f f':Frag}{A B:Option Addr}{c c' n n':Nat}{m m':Nat→Nat}{x x':Nat→Nat→Raw}(hA:f.Mt A c n m x)(hB:f'.Mt B c' n' m' x')(hs:SzM n m x)(hs':SzM n' m' x'):Bth2 13 32 n m x n' m' x':=by
 by_cases h0:mat2E n m x n' m' x'=0
 ·have h1:matE n m x=0:=by
   unfold mat2E at h0
   by_cases h:matE n m x=0
   ·exact h
   ·rw[if_neg h] at h0;exact h0
  have h2:matE n' m' x'=0:=by unfold mat2E at h0;rwa[if_pos h1] at h0
  by_cases h3:m 0≠n'
  ·exact⟨10,0,0,zM,by decide,fun A c B c' w a b t=>(Mul_t n n' m m' x x' A B c c' w a b t h1 h2 h3).mono fun _ _ h=>RMX.err h,fun A c B c' w a b=>(rMul_t n n' m m' x x' A B c c' w a b h1 h2 h3).mono fun _ _ h=>RMX.err h⟩
  ·have hn:m 0=n':=Decidable.not_not.1 h3
   have hp:=matE_pos h1
   have hp':=matE_pos h2
   obtain⟨X,hX⟩:=valM hA h1 hs
   obtain⟨Y,hY⟩:=valM hB h2 hs'
   subst hn
   have h4:m 0≤4:=(hs.2 0 (by omega)).1
   have bp:∀i,i<n→∀t,t<m 0→∀k,k<m' 0→Bd 8192 (X i t*Y t k):=fun i hi t ht k hk=>((Bd.qn (hX.2 i hi t ht).2).mul (Bd.qn (hY.2 t ht k hk).2)).bd' (by decide) (by decide)
   have bs:∀i,i<n→∀k,k<m' 0→∀j,j≤m 0→Bd 8192 (sumN j (fun t=>X i t*Y t k)):=fun i hi k hk j hj=>(qn_sum (m:=j) (k:=128) (l:=128) (fun t ht=>(Bd.qn (hX.2 i hi t (by omega)).2).mul (Bd.qn (hY.2 t (by omega) k hk).2))).bd' (by omega) (by omega)
   exact⟨0,n,m' 0,mulM (m 0) X Y,by omega,fun A c B c' w a b t=>(Mul_r n (m 0) (m' 0) X Y A B c c' w (hX.mt a) (hY.mt b) t hp.1.1 hp.1.2 hp.2.1 hp.2.2 hp'.2.1 hp'.2.2 hX.bd hY.bd (fun i hi t ht k hk=>bp i hi t ht k hk) (fun i hi k hk j hj=>bs i hi k hk j hj)).mono fun _ _ h=>RMX.of h,
    fun A c B c' w a b=>(rMul_r n (m 0) (m' 0) X Y A B c c' w (hX.mt a) (hY.mt b) hp.1.1 hp.1.2 hp.2.1 hp.2.2 hp'.2.1 hp'.2.2 hX.bd hY.bd bp bs).mono fun _ _ h=>RMX.of h⟩
 ·exact⟨_,0,0,zM,by decide,fun A c B c' w a b t=>(Mul_e n n' m m' x x' A B c c' _ w a b t rfl h0).mono fun _ _ h=>RMX.err h,fun A c B c' w a b=>(rMul_e n n' m m' x x' A B c c' _ w a b rfl h0).mono fun _ _ h=>RMX.err h⟩
theorem turn_both {f:Frag}{A:Option Addr}{c n:Nat}{m:Nat→Nat}{x:Nat→Nat→Raw}(hA:f.Mt A c n m x)(hs:SzM n m x):Bth1 16 33 n m x:=by
 by_cases h1:matE n m x=0
 ·have hp:=matE_pos h1
  obtain⟨X,hX⟩:=valM hA h1 hs
  exact⟨0,m 0,n,trM X,by omega,fun A c w a t=>(Turn_r n (m 0) X A c w (hX.mt a) t hp.1.1 hp.1.2 hp.2.1 hp.2.2 hX.bd).mono fun _ _ h=>RMX.of h,
   fun A c w a=>(rTurn_r n (m 0) X A c w (hX.mt a) hp.1.1 hp.1.2 hp.2.1 hp.2.2 hX.bd).mono fun _ _ h=>RMX.of h⟩
 ·exact⟨_,0,0,zM,by decide,fun A c w a t=>(Turn_e n m x A c _ w a t rfl h1).mono fun _ _ h=>RMX.err h,fun A c w a=>(rTurn_e n m x A c _ w a rfl h1).mono fun _ _ h=>RMX.err h⟩
theorem one_both (n:Int):∃(E:Int) (N K:Nat) (Z:Mx),(N≤1000∧K≤1000)∧(∀w,Tab w→Calls Tryz.prog 17 #[.int .i64 n] w (RMX E N K Z w))∧(∀w,Calls Tryz.prog 34 #[.int .i64 n] w (RMX E N K Z w)):=by
 by_cases h0:n<1∨24<n
 ·exact⟨2,0,0,zM,by decide,fun w t=>(One_bad n h0 w).mono fun _ _ h=>RMX.err h,fun w=>(rOne_bad n h0 w).mono fun _ _ h=>RMX.err h⟩
 ·obtain⟨k,rfl⟩:∃k:Nat,n=(k:Int):=⟨n.toNat,by omega⟩
  exact⟨0,k,k,oneM,by omega,fun w t=>(One_r k (by omega) (by omega) w t).mono fun _ _ h=>RMX.of h,fun w=>(rOne_r k (by omega) (by omega) w).mono fun _ _ h=>RMX.of h⟩
theorem ints_both (n:Nat)(mm:Nat→Nat)(v:Nat→Nat→Int):∃(E:Int) (N K:Nat) (Z:Mx),(N≤1000∧K≤1000)∧
  (∀A c w,(heapOf w).Im A c n mm v→Tab w→Calls Tryz.prog 35 #[.slice A n c] w (RMX E N K Z w))∧(∀A c w,(heapOf w).Im A c n mm v→Calls Tryz.prog 36 #[.slice A n c] w (RMX E N K Z w)):=by
 by_cases h0:n<1∨24<n∨mm 0<1∨24<mm 0
 ·exact⟨2,0,0,zM,by decide,fun A c w a t=>(Ints_bad n mm v A c w a h0).mono fun _ _ h=>RMX.err h,fun A c w a=>(rInts_bad A c n mm v w a h0).mono fun _ _ h=>RMX.err h⟩
 ·by_cases h1:∀i,i<n→mm i=mm 0
  ·have fin:∀(w:World) (e:Ending) (w':World),RInts n mm v w e w'→RMX 0 n (mm 0) (intM v) w e w':=fun w e w' h=>h.elim (fun h=>RMX.of h.2) (fun⟨⟨i,hi,hne⟩,_⟩=>absurd (h1 i hi) hne)
   exact⟨0,n,mm 0,intM v,by omega,fun A c w a t=>(Ints_any n mm v A c w a t (by omega) (by omega) (by omega) (by omega)).mono fun _ _ h=>fin _ _ _ h,fun A c w a=>(rInts_any n mm v A c w a (by omega) (by omega) (by omega) (by omega)).mono fun _ _ h=>fin _ _ _ h⟩
  ·have fin:∀(w:World) (e:Ending) (w':World),RInts n mm v w e w'→RMX 3 0 0 zM w e w':=fun w e w' h=>h.elim (fun h=>absurd h.1 h1) (fun h=>RMX.err h.2)
   exact⟨3,0,0,zM,by decide,fun A c w a t=>(Ints_any n mm v A c w a t (by omega) (by omega) (by omega) (by omega)).mono fun _ _ h=>fin _ _ _ h,fun A c w a=>(rInts_any n mm v A c w a (by omega) (by omega) (by omega) (by omega)).mono fun _ _ h=>fin _ _ _ h⟩
end Go.Proofs.YthhbbnfnejjpiaaGreatDoor
namespace Go.Proofs.YthhbbnfnejjpiaaGreatDoor
open Go.RowKit GW NL MX
set_option maxRecDepth 100000 in
set_option maxHeartbeats 16000000 in
theorem calls_walk (A B L:Option Addr)(c d k n n' l:Nat)(m m' q:Nat→Nat)(x x':Nat→Nat→Raw)(v:Nat→Nat→Int)(a:Int)(W:World)(hA:(heapOf W).Mt A c n m x)(hB:(heapOf W).Mt B d n' m' x')(hL:(heapOf W).Im L k l q v)(hT:Tab W):
  Calls Tryz.prog 6 #[.slice A n c,.slice B n' d,.slice L l k,.int .i64 a] W fun e w'=>e=.returned (.bool true)∧Below W.heap.size W w':=by
 refine calls_b fun g=>?_
 have HA:=Lib.hid hA
 have HB:=Lib.hid hB
 have HL:=Lib.hid hL
 have HT:=Lib.hid hT
 have CLV:=Lib.hid (fun w h=>lives5_x w h)
 have CLG:=Lib.hid (fun bs w (hc:∀t,t<2→w.cell? ⟨bs,t,none⟩=some (.slice (if t=0 then A else B) (if t=0 then n else n') (if t=0 then c else d))) hM=>large_any (fun t=>if t=0 then n else n') (fun t=>if t=0 then m else m') (fun t=>if t=0 then x else x') (fun t=>if t=0 then A else B) (fun t=>if t=0 then c else d) bs w hc hM)
 clear hA hB hL hT
 go_enter Tryz.func6,Tryz.ntmps6
 go_wp2_with (with_reducible refine yq _ ?_;(try generalize (G.w _).heap.size=bk);(try dsimp only[yi,yj]);(try clear g);intro g)
 refine(CLV.out _ (G.tab g HT.out)).mono ?_
 rintro e w1 ⟨rfl,hb⟩
 obtain⟨g1,rfl⟩:=G.call_ex _ hb
 clear hb
 (try clear g)
 revert g1
 intro g
 go_wp2_with (with_reducible refine yq _ ?_;(try generalize (G.w _).heap.size=bk);(try dsimp only[yi,yj]);(try clear g);intro g)
 (try(refine cmark _ ?_;(try dsimp only[yi,yj]);(try clear g);intro g))
 refine(CLG.out _ _ (two_cases (G.cell0 g 0) (G.cell0 g 1)) (two_cases (HA.out.mono (g.sub _ (by simp))) (HB.out.mono (g.sub _ (by simp))))).mono ?_
 rintro e w1 ⟨Lg,hLg,rfl,hb⟩
 obtain⟨g1,rfl⟩:=G.call_ex _ hb
 clear hb g CLV CLG
 revert g1
 intro g
 cases Lg
 case true=>
  clear hLg
  go_wp2_with (with_reducible refine yq _ ?_;(try generalize (G.w _).heap.size=bk);(try dsimp only[yi,yj]);(try clear g);intro g)
  go_ret
  exact⟨rfl,G.below _⟩
 have hs1:SzM n m x:=hLg rfl 0 (by decide)
 have hs2:SzM n' m' x':=hLg rfl 1 (by decide)
 have HB1:=Lib.hid (add_both HA.out HB.out hs1 hs2)
 have HB2:=Lib.hid (mul_both HA.out HB.out hs1 hs2)
 have HB3:=Lib.hid (turn_both HA.out hs1)
 have HB4:=Lib.hid (one_both a)
 have HB5:=Lib.hid (ints_both l q v)
 clear hLg hs1 hs2
 by_cases hl:30<l
 ·have hli:(30:Int)<(l:Int):=by omega
  go_wp2_with (with_reducible refine yq _ ?_;(try generalize (G.w _).heap.size=bk);(try dsimp only[yi,yj]);(try clear g);intro g)
  go_ret
  exact⟨rfl,G.below _⟩
 have hli:¬ ((30:Int)<(l:Int)):=by omega
 go_wp2_with (with_reducible refine yq _ ?_;(try generalize (G.w _).heap.size=bk);(try dsimp only[yi,yj]);(try clear g);intro g)
 obtain⟨g2,hg2⟩:=G.less g (M':=[]) (List.nil_sublist _)
 rw[hg2]
 clear hg2 g
 revert g2
 intro g
 go_loopw [9] (fun iv wr=>∃i:Nat,iv=.int .i64 (i:Int)∧i≤l∧∃g:G W [] [] [heapOf W],wr=g.w) (fun iv _=>l-(intOf iv).toNat)
 case atStart=>exact⟨0,rfl,by omega,g,rfl⟩
 case round=>
  clear g
  obtain⟨i,rfl,hi',g,rfl⟩:=hrel
  by_cases hil:i<l
  ·have hii:(i:Int)<(l:Int):=by omega
   obtain⟨b,o,rfl,hrow⟩:=HL.out.rowAt (by omega)
   obtain⟨Br,kr,hh,hrw⟩:=hrow i hil
   have EH:∀(M:List Blk) (I:List Frag) (g:G W [] M I) (hF:InF (heapOf W) I),g.w.cell? ⟨b,o+i,none⟩=some (.slice Br (q i) kr):=fun M I g hF=>hh _ _ _ _ g hF
   clear hh hrow hrw
   generalize q i=qi at*
   by_cases hq:30<qi
   ·have hqi:(30:Int)<(qi:Int):=by omega
    go_wp2_with (with_reducible refine yq _ ?_;(try generalize (G.w _).heap.size=bk);(try dsimp only[yi,yj]);(try clear g);intro g)
    go_ret
    exact⟨rfl,G.below _⟩
   have hqi:¬ ((30:Int)<(qi:Int)):=by omega
   go_wp2_with (with_reducible refine yq _ ?_;(try generalize (G.w _).heap.size=bk);(try dsimp only[yi,yj]);(try clear g);intro g)
   go_roundw
   case rel=>exact⟨i+1,by go_num,by omega,g,rfl⟩
   case measure=>simp[intOf]<;>omega
  ·obtain rfl:i=l:=by omega
   clear hli hl hi' hil
   unfold Bth2 at HB1 HB2
   unfold Bth1 at HB3
   unfold RMX at HB1 HB2 HB3 HB4 HB5
   obtain⟨E1,N1,K1,Z1,⟨h11,h12⟩,h13,h14⟩:=HB1.out
   obtain⟨E2,N2,K2,Z2,⟨h21,h22⟩,h23,h24⟩:=HB2.out
   obtain⟨E3,N3,K3,Z3,⟨h31,h32⟩,h33,h34⟩:=HB3.out
   obtain⟨E4,N4,K4,Z4,⟨h41,h42⟩,h43,h44⟩:=HB4.out
   obtain⟨E5,N5,K5,Z5,⟨h51,h52⟩,h53,h54⟩:=HB5.out
   have C1:=Lib.hid h13
   have D1:=Lib.hid h14
   have C2:=Lib.hid h23
   have D2:=Lib.hid h24
   have C3:=Lib.hid h33
   have D3:=Lib.hid h34
   have C4:=Lib.hid h43
   have D4:=Lib.hid h44
   have C5:=Lib.hid h53
   have D5:=Lib.hid h54
   have S1:=Lib.hid (fun A B c d w hA hB=>samemat_x N1 (fun _=>K1) (rawM Z1) A B c d w hA hB h11 (fun _ _=>h12))
   have S2:=Lib.hid (fun A B c d w hA hB=>samemat_x N2 (fun _=>K2) (rawM Z2) A B c d w hA hB h21 (fun _ _=>h22))
   have S3:=Lib.hid (fun A B c d w hA hB=>samemat_x N3 (fun _=>K3) (rawM Z3) A B c d w hA hB h31 (fun _ _=>h32))
   have S4:=Lib.hid (fun A B c d w hA hB=>samemat_x N4 (fun _=>K4) (rawM Z4) A B c d w hA hB h41 (fun _ _=>h42))
   have S5:=Lib.hid (fun A B c d w hA hB=>samemat_x N5 (fun _=>K5) (rawM Z5) A B c d w hA hB h51 (fun _ _=>h52))
   have CK:=Lib.hid (fun w h t=>mCheck_any A c n m x w h t)
   have DK:=Lib.hid (fun w h=>rCheck5_any A c n m x w h)
   generalize matE n m x=E0 at*
   clear HB1 HB2 HB3 HB4 HB5 h11 h12 h13 h14 h21 h22 h23 h24 h31 h32 h33 h34 h41 h42 h43 h44 h51 h52 h53 h54
   (as_aux_lemma=>
    go_wp2_with (with_reducible refine yq _ ?_;(try generalize (G.w _).heap.size=bk);(try dsimp only[yi,yj]);(try clear g);intro g)
    refine(C1.out _ _ _ _ _ (HA.out.mono (g.sub _ (by simp))) (HB.out.mono (g.sub _ (by simp))) (G.tab g HT.out)).mono ?_
    rintro e w1 ⟨A1,c1,F1,rfl,hs1,hn⟩
    have hnn1:=fun k o hk=>Nat.le_trans g.chg.size (hn.new k o hk)
    obtain⟨g1,rfl⟩:=G.new_ex _ hn
    clear hn
    (try clear g)
    revert g1
    intro g
    go_wp2_with (with_reducible refine yq _ ?_;(try generalize (G.w _).heap.size=bk);(try dsimp only[yi,yj]);(try clear g);intro g)
    refine(D1.out _ _ _ _ _ (HA.out.mono (g.sub _ (by simp))) (HB.out.mono (g.sub _ (by simp)))).mono ?_
    rintro e w1 ⟨A2,c2,F2,rfl,hs2,hn⟩
    have hnn2:=fun k o hk=>Nat.le_trans g.chg.size (hn.new k o hk)
    obtain⟨g1,rfl⟩:=G.new_ex _ hn
    clear hn
    (try clear g)
    revert g1
    intro g
    go_wp2_with (with_reducible refine yq _ ?_;(try generalize (G.w _).heap.size=bk);(try dsimp only[yi,yj]);(try clear g);intro g)
    refine(C2.out _ _ _ _ _ (HA.out.mono (g.sub _ (by simp))) (HB.out.mono (g.sub _ (by simp))) (G.tab g HT.out)).mono ?_
    rintro e w1 ⟨A3,c3,F3,rfl,hs3,hn⟩
    have hnn3:=fun k o hk=>Nat.le_trans g.chg.size (hn.new k o hk)
    obtain⟨g1,rfl⟩:=G.new_ex _ hn
    clear hn
    (try clear g)
    revert g1
    intro g
    go_wp2_with (with_reducible refine yq _ ?_;(try generalize (G.w _).heap.size=bk);(try dsimp only[yi,yj]);(try clear g);intro g)
    refine(D2.out _ _ _ _ _ (HA.out.mono (g.sub _ (by simp))) (HB.out.mono (g.sub _ (by simp)))).mono ?_
    rintro e w1 ⟨A4,c4,F4,rfl,hs4,hn⟩
    have hnn4:=fun k o hk=>Nat.le_trans g.chg.size (hn.new k o hk)
    obtain⟨g1,rfl⟩:=G.new_ex _ hn
    clear hn
    (try clear g)
    revert g1
    intro g
    clear C1 D1 C2 D2 HB
    (as_aux_lemma=>
     go_wp2_with (with_reducible refine yq _ ?_;(try generalize (G.w _).heap.size=bk);(try dsimp only[yi,yj]);(try clear g);intro g)
     refine(C3.out _ _ _ (HA.out.mono (g.sub _ (by simp))) (G.tab g HT.out)).mono ?_
     rintro e w1 ⟨A5,c5,F5,rfl,hs5,hn⟩
     have hnn5:=fun k o hk=>Nat.le_trans g.chg.size (hn.new k o hk)
     obtain⟨g1,rfl⟩:=G.new_ex _ hn
     clear hn
     (try clear g)
     revert g1
     intro g
     go_wp2_with (with_reducible refine yq _ ?_;(try generalize (G.w _).heap.size=bk);(try dsimp only[yi,yj]);(try clear g);intro g)
     refine(D3.out _ _ _ (HA.out.mono (g.sub _ (by simp)))).mono ?_
     rintro e w1 ⟨A6,c6,F6,rfl,hs6,hn⟩
     have hnn6:=fun k o hk=>Nat.le_trans g.chg.size (hn.new k o hk)
     obtain⟨g1,rfl⟩:=G.new_ex _ hn
     clear hn
     (try clear g)
     revert g1
     intro g
     go_wp2_with (with_reducible refine yq _ ?_;(try generalize (G.w _).heap.size=bk);(try dsimp only[yi,yj]);(try clear g);intro g)
     refine(C4.out _ (G.tab g HT.out)).mono ?_
     rintro e w1 ⟨A7,c7,F7,rfl,hs7,hn⟩
     have hnn7:=fun k o hk=>Nat.le_trans g.chg.size (hn.new k o hk)
     obtain⟨g1,rfl⟩:=G.new_ex _ hn
     clear hn
     (try clear g)
     revert g1
     intro g
     go_wp2_with (with_reducible refine yq _ ?_;(try generalize (G.w _).heap.size=bk);(try dsimp only[yi,yj]);(try clear g);intro g)
     refine(D4.out _).mono ?_
     rintro e w1 ⟨A8,c8,F8,rfl,hs8,hn⟩
     have hnn8:=fun k o hk=>Nat.le_trans g.chg.size (hn.new k o hk)
     obtain⟨g1,rfl⟩:=G.new_ex _ hn
     clear hn
     (try clear g)
     revert g1
     intro g
     clear C3 D3 C4 D4
     (as_aux_lemma=>
      go_wp2_with (with_reducible refine yq _ ?_;(try generalize (G.w _).heap.size=bk);(try dsimp only[yi,yj]);(try clear g);intro g)
      refine(C5.out _ _ _ (HL.out.mono (g.sub _ (by simp))) (G.tab g HT.out)).mono ?_
      rintro e w1 ⟨A9,c9,F9,rfl,hs9,hn⟩
      have hnn9:=fun k o hk=>Nat.le_trans g.chg.size (hn.new k o hk)
      obtain⟨g1,rfl⟩:=G.new_ex _ hn
      clear hn
      (try clear g)
      revert g1
      intro g
      go_wp2_with (with_reducible refine yq _ ?_;(try generalize (G.w _).heap.size=bk);(try dsimp only[yi,yj]);(try clear g);intro g)
      refine(D5.out _ _ _ (HL.out.mono (g.sub _ (by simp)))).mono ?_
      rintro e w1 ⟨A0,c0,F0,rfl,hs0,hn⟩
      have hnn0:=fun k o hk=>Nat.le_trans g.chg.size (hn.new k o hk)
      obtain⟨g1,rfl⟩:=G.new_ex _ hn
      clear hn
      (try clear g)
      revert g1
      intro g
      clear C5 D5 HL
      go_wp2_with (with_reducible refine yq _ ?_;(try generalize (G.w _).heap.size=bk);(try dsimp only[yi,yj]);(try clear g);intro g)
      refine(CK.out _ (HA.out.mono (g.sub _ (by simp))) (G.tab g HT.out)).mono ?_
      rintro e w1 ⟨rfl,hb⟩
      obtain⟨g1,rfl⟩:=G.call_ex _ hb
      clear hb
      (try clear g)
      revert g1
      intro g
      go_wp2_with (with_reducible refine yq _ ?_;(try generalize (G.w _).heap.size=bk);(try dsimp only[yi,yj]);(try clear g);intro g)
      refine(DK.out _ (HA.out.mono (g.sub _ (by simp)))).mono ?_
      rintro e w1 ⟨rfl,hb⟩
      obtain⟨g1,rfl⟩:=G.call_ex _ hb
      clear hb
      (try clear g)
      revert g1
      intro g
      go_wp2_with (with_reducible refine yq _ ?_;(try generalize (G.w _).heap.size=bk);(try dsimp only[yi,yj]);(try clear g);intro g)
      refine(S1.out _ _ _ _ _ (hs1.mono (g.sub _ (by simp))) (hs2.mono (g.sub _ (by simp)))).mono ?_
      rintro e w1 ⟨rfl,hb⟩
      obtain⟨g1,rfl⟩:=G.call_ex _ hb
      clear hb
      (try clear g)
      revert g1
      intro g
      go_wp2_with (with_reducible refine yq _ ?_;(try generalize (G.w _).heap.size=bk);(try dsimp only[yi,yj]);(try clear g);intro g)
      refine(S2.out _ _ _ _ _ (hs3.mono (g.sub _ (by simp))) (hs4.mono (g.sub _ (by simp)))).mono ?_
      rintro e w1 ⟨rfl,hb⟩
      obtain⟨g1,rfl⟩:=G.call_ex _ hb
      clear hb
      (try clear g)
      revert g1
      intro g
      go_wp2_with (with_reducible refine yq _ ?_;(try generalize (G.w _).heap.size=bk);(try dsimp only[yi,yj]);(try clear g);intro g)
      refine(S3.out _ _ _ _ _ (hs5.mono (g.sub _ (by simp))) (hs6.mono (g.sub _ (by simp)))).mono ?_
      rintro e w1 ⟨rfl,hb⟩
      obtain⟨g1,rfl⟩:=G.call_ex _ hb
      clear hb
      (try clear g)
      revert g1
      intro g
      go_wp2_with (with_reducible refine yq _ ?_;(try generalize (G.w _).heap.size=bk);(try dsimp only[yi,yj]);(try clear g);intro g)
      refine(S4.out _ _ _ _ _ (hs7.mono (g.sub _ (by simp))) (hs8.mono (g.sub _ (by simp)))).mono ?_
      rintro e w1 ⟨rfl,hb⟩
      obtain⟨g1,rfl⟩:=G.call_ex _ hb
      clear hb
      (try clear g)
      revert g1
      intro g
      go_wp2_with (with_reducible refine yq _ ?_;(try generalize (G.w _).heap.size=bk);(try dsimp only[yi,yj]);(try clear g);intro g)
      refine(S5.out _ _ _ _ _ (hs9.mono (g.sub _ (by simp))) (hs0.mono (g.sub _ (by simp)))).mono ?_
      rintro e w1 ⟨rfl,hb⟩
      obtain⟨g1,rfl⟩:=G.call_ex _ hb
      clear hb
      (try clear g)
      revert g1
      intro g
      go_wp2_with (with_reducible refine yq _ ?_;(try generalize (G.w _).heap.size=bk);(try dsimp only[yi,yj]);(try clear g);intro g)
      go_ret
      exact⟨rfl,G.below _⟩)))
end Go.Proofs.YthhbbnfnejjpiaaGreatDoor
