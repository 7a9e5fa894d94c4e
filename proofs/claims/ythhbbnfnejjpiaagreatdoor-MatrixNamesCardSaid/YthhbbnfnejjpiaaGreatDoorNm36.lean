/- Plain facts and contracts of functions of the program, out of walks. Their conditions stand ahead of each. -/
import Derived.Test.YthhbbnfnejjpiaaGreatDoorNm1
import Derived.Test.YthhbbnfnejjpiaaGreatDoorNm2
import Derived.Test.YthhbbnfnejjpiaaGreatDoorNm5
import Derived.Test.YthhbbnfnejjpiaaGreatDoorNm15
import Derived.Test.YthhbbnfnejjpiaaGreatDoorNm17
import Derived.Test.YthhbbnfnejjpiaaGreatDoorNm22
import Derived.Test.YthhbbnfnejjpiaaGreatDoorNm23
import Derived.Test.YthhbbnfnejjpiaaGreatDoorNm24
import Derived.Test.YthhbbnfnejjpiaaGreatDoorNm25
import Derived.Test.YthhbbnfnejjpiaaGreatDoorNm28
import Derived.Test.YthhbbnfnejjpiaaGreatDoorNm29
import Derived.Test.YthhbbnfnejjpiaaGreatDoorNm33
import Derived.Test.YthhbbnfnejjpiaaGreatDoorNm34
import Derived.Test.YthhbbnfnejjpiaaGreatDoorNm35
import Derived.Below
import Derived.BigQuiet
import Derived.Deep.DeepCutAuto
import Derived.Deep.Draws
import Derived.Deep.LoopGhost
import Derived.Deep.QuietTactic
import Derived.Deep.RegionHeld3
import Derived.Deep.RegionLaw
import Derived.Defers
import Derived.Great.BuildSlice
import Derived.Laws.BytesString
import Derived.Laws.Cells
import Derived.Laws.Concat
import Derived.Laws.CopyOwn
import Derived.Laws.CopyRow
import Derived.Laws.NewBlocks
import Derived.Laws.OwnMore
import Derived.Laws.Pointers
import Derived.Laws.Rows
import Derived.Lib.BitFns
import Derived.Lib.Hide
import Derived.Lib.ItoaNum
import Derived.Lib.SliceRun
import Derived.Lib.TrailingZeros
import Derived.LoopIn
import Derived.LoopNIn
import Derived.Maps.AppendAt
import Derived.OrdersHeld
import Derived.OrdersIn
import Derived.OwnWalk
import Derived.OwnWalkIn
import Derived.RangeFuncBound
import Derived.RangeFuncBox
import Derived.RangeFuncCalls
import Derived.RangeFuncLeaves
import Derived.RangeFuncNested
import Derived.RangeFuncWrites
import Derived.RowKit3
import Derived.Shelf.Abstract
import Derived.Shelf.RegionOpen
import Derived.Shelf.Spec.TrailingZeros
import Derived.StillTactics
import Derived.StillTailTactics
import Derived.TacticsInMore
import Derived.Test.YthhbbnfnejjpiaaGreatDoorProg
import Derived.WalkKit
import Derived.WalkLawsBesides
import Derived.WalkMore
import Derived.WalkSpells
set_option linter.unusedVariables false
set_option linter.unusedSimpArgs false
set_option exponentiation.threshold 10000
namespace Go.Proofs.YthhbbnfnejjpiaaGreatDoor
open Go.RowKit GW NL MX
theorem fineAll_of {n mt cols k b:Nat}{x:Mx}(h:∀i,i<n→∀j,j<mt→Bd k (x i j))(hb:k*mt≤b)(hc:cols≤mt)(h9:2*bnd b (n-1)+2≤8192):FineAll n mt cols x:=fine_run (fit_start h hb) rfl hc (rk_lt n (startE x) cols) h9
theorem wide_bd {n k:Nat}{a b:Mx}{m:Nat}(h:∀i,i<n→∀j,j<n→Bd k (a i j))(h':∀i,i<n→∀j,j<m→Bd k (b i j)):∀i,i<n→∀j,j<n+m→Bd k (wideM n a b i j):=fun i hi j hj=>by
 unfold wideM
 split
 ·exact h i hi j ‹_›
 ·exact h' i hi _ (by omega)
theorem one_bd {k:Nat}(hk:1≤k)(i j:Nat):Bd k (oneM i j):=by
 unfold oneM
 split
 ·exact Bd.mono (k:=1) ⟨by decide+kernel,by decide+kernel⟩ hk
 ·exact Bd.mono (k:=1) ⟨by decide+kernel,by decide+kernel⟩ hk
theorem lints5_r (n m:Nat)(v:Nat→Nat→Int)(A:Option Addr)(c:Nat)(w:World)(hA:(heapOf w).Im A c n (fun _=>m) v)(n1:1≤n)(n2:n≤24)(m1:1≤m)(m2:m≤24):
  Calls Tryz.prog 49 #[.slice A n c] w (RMt n (fun _=>m) (rawM (intM v)) w):=by
 refine calls_b fun g=>?_
 have HA:=Lib.hid hA
 have C:=Lib.hid (fun w h=>rInts_r n m v A c w h n1 n2 m1 m2)
 unfold RMtE at C
 unfold RMt
 clear hA n1 n2 m1 m2
 go_enter Tryz.func49,Tryz.ntmps49
 go_wp2_with (with_reducible refine yq _ ?_;(try generalize (G.w _).heap.size=bk);(try dsimp only[yi,yj]);(try clear g);intro g)
 refine(C.out _ (HA.out.mono (g.sub _ (by simp)))).mono ?_
 rintro e w1 ⟨ba,ca,Fa,rfl,ha,hn⟩
 have hnna:=fun k o hk=>Nat.le_trans g.chg.size (hn.new k o hk)
 obtain⟨g1,rfl⟩:=G.new_ex _ hn
 clear hn
 (try clear g)
 revert g1
 intro g
 go_wp2_with (with_reducible refine yq _ ?_;(try generalize (G.w _).heap.size=bk);(try dsimp only[yi,yj]);(try clear g);intro g)
 go_ret
 exact⟨_,_,_,rfl,ha,G.below _,G.sub _ _ (by simp),hnna⟩
/-- two by two, written out -/
theorem mx2 {x y:Mx}(h:∀i:Fin 2,∀j:Fin 2,x i j=y i j):∀i,i<2→∀j,j<2→x i j=y i j:=fun i hi j hj=>h ⟨i,hi⟩ ⟨j,hj⟩
def invL:Mx:=fun i j=>if i=0 then(if j=0 then -2 else 1) else(if j=0 then 3/2 else -1/2)
theorem live_mul:∀i,i<2→∀j,j<2→mulM 2 (intM (m22 1 2 3 4)) (intM (m22 2 1 1 2)) i j=intM (m22 4 5 10 11) i j:=mx2 (by decide+kernel)
theorem live_det:detV 2 (intM (m22 1 2 3 4))= -2:=by decide+kernel
theorem live_rank:rankM 2 2 (intM (m22 1 2 3 4))=2:=by decide+kernel
theorem live_inv:∀i,i<2→∀j,j<2→behindM 2 (intM (m22 1 2 3 4)) oneM i j=invL i j:=mx2 (by decide+kernel)
theorem bd22 {k:Nat}{x:Mx}(h:∀i:Fin 2,∀j:Fin 2,Bd k (x i j)):∀i,i<2→∀j,j<2→Bd k (x i j):=fun i hi j hj=>h ⟨i,hi⟩ ⟨j,hj⟩
theorem bd22a:∀i,i<2→∀j,j<2→Bd 4 (intM (m22 1 2 3 4) i j):=bd22 (by unfold Bd;decide+kernel)
theorem bd22b:∀i,i<2→∀j,j<2→Bd 4 (intM (m22 2 1 1 2) i j):=bd22 (by unfold Bd;decide+kernel)
theorem bd22p:∀i,i<2→∀t,t<2→∀j,j<2→Bd 8192 (intM (m22 1 2 3 4) i t*intM (m22 2 1 1 2) t j):=fun i hi t ht j hj=>((Bd.qn (bd22a i hi t ht)).mul (Bd.qn (bd22b t ht j hj))).bd' (by decide) (by decide)
theorem bd22s:∀i,i<2→∀j,j<2→∀t,t≤2→Bd 8192 (sumN t (fun l=>intM (m22 1 2 3 4) i l*intM (m22 2 1 1 2) l j)):=fun i hi j hj t ht=>(qn_sum (m:=t) (k:=8) (l:=8) (fun l hl=>(Bd.qn (bd22a i hi l (by omega))).mul (Bd.qn (bd22b l (by omega) j hj)))).bd' (by omega) (by omega)
set_option maxRecDepth 20000 in
set_option maxHeartbeats 8000000 in
theorem lives5_x (w:World)(hT:Tab w):Calls Tryz.prog 10 #[] w fun e w'=>e=.returned (.bool true)∧Below w.heap.size w w':=by
 refine calls_b fun g=>?_
 have HT:=Lib.hid hT
 clear hT
 have CI:=Lib.hid (fun v A c w h=>lints5_r 2 2 v A c w h (by decide) (by decide) (by decide) (by decide))
 unfold RMt at CI
 have CM:=Lib.hid (fun A B c cB w hA hB hT=>Mul_r 2 2 2 (intM (m22 1 2 3 4)) (intM (m22 2 1 1 2)) A B c cB w hA hB hT (by decide) (by decide) (by decide) (by decide) (by decide) (by decide) (fun i hi j hj=>(bd22a i hi j hj).mono (by decide)) (fun i hi j hj=>(bd22b i hi j hj).mono (by decide)) bd22p bd22s)
 unfold RMtE at CM
 have CD:=Lib.hid (fun F0 A c w hF hA hT=>Det_r F0 2 (intM (m22 1 2 3 4)) A c w hF hA hT (by decide) (by decide) (fun i hi j hj=>(bd22a i hi j hj).mono (by decide)) (fineAll_of bd22a (b:=8) (by decide) (by decide) (by decide)))
 rw[live_det] at CD
 have CV:=Lib.hid (fun F0 A c w hF hA hT=>Inv_r F0 2 (intM (m22 1 2 3 4)) A c w hF hA hT (by decide) (by decide) (fun i hi j hj=>(bd22a i hi j hj).mono (by decide)) (fineAll_of (wide_bd bd22a (fun i _ j _=>one_bd (by decide) i j)) (b:=16) (by decide) (by decide) (by decide)))
 unfold RBeh at CV
 rw[live_rank] at CV
 have CS:=Lib.hid (fun x A B c d w hA hB=>lis5_x 2 (fun _=>2) x A B c d w hA hB (by decide) (fun _ _=>by decide))
 have CN:=Lib.hid (fun p q r w h=>lnum5_x (-2) 1 (-2) (by decide) (by decide+kernel) (by decide) (by decide) (by decide) (by decide) p q r w h)
 have CO:=Lib.hid (fun(a b:Int) (z:Rat) (hb:b≠0) (e:frac (decide (a<0) !=decide (b<0)) a.natAbs b.natAbs=z) (h1:I64 a) (h2:I64 b) w=>lof5_r a b z hb e h1.1 h1.2 h2.1 h2.2 w)
 unfold RT1 at CO
 go_enter Tryz.func10,Tryz.ntmps10
 go_wp2_with (with_reducible refine yq _ ?_;(try generalize (G.w _).heap.size=bk);(try dsimp only[yi,yj]);(try clear g);intro g)
 refine(CI.out (m22 1 2 3 4) _ _ _ (im22 g 1 2 3 4 (.head _) (.tail _ (.tail _ (.head _))) (.tail _ (.head _)) (by decide) (by decide) (by decide) (by decide))).mono ?_
 rintro e w1 ⟨ba,ca,Fa,rfl,ha,hn⟩
 have hnna:=fun k o hk=>Nat.le_trans g.chg.size (hn.new k o hk)
 obtain⟨g1,rfl⟩:=G.new_ex _ hn
 clear hn
 (try clear g)
 revert g1
 intro g
 go_wp2_with (with_reducible refine yq _ ?_;(try generalize (G.w _).heap.size=bk);(try dsimp only[yi,yj]);(try clear g);intro g)
 refine(CI.out (m22 2 1 1 2) _ _ _ (im22 g 2 1 1 2 (.head _) (.tail _ (.tail _ (.head _))) (.tail _ (.head _)) (by decide) (by decide) (by decide) (by decide))).mono ?_
 rintro e w1 ⟨bb,cb,Fb,rfl,hb,hn⟩
 have hnnb:=fun k o hk=>Nat.le_trans g.chg.size (hn.new k o hk)
 obtain⟨g1,rfl⟩:=G.new_ex _ hn
 clear hn
 (try clear g)
 revert g1
 intro g
 obtain⟨g2,hg2⟩:=G.less g (M':=[]) (List.nil_sublist _)
 rw[hg2]
 clear hg2
 (try clear g)
 revert g2
 intro g
 go_wp2_with (with_reducible refine yq _ ?_;(try generalize (G.w _).heap.size=bk);(try dsimp only[yi,yj]);(try clear g);intro g)
 refine(CM.out _ _ _ _ _ (ha.mono (g.sub _ (by simp))) (hb.mono (g.sub _ (by simp))) (G.tab g HT.out)).mono ?_
 rintro e w1 ⟨bm,cm,Fm,rfl,hm,hn⟩
 have hnnm:=fun k o hk=>Nat.le_trans g.chg.size (hn.new k o hk)
 obtain⟨g1,rfl⟩:=G.new_ex _ hn
 clear hn
 (try clear g)
 revert g1
 intro g
 go_wp2_with (with_reducible refine yq _ ?_;(try generalize (G.w _).heap.size=bk);(try dsimp only[yi,yj]);(try clear g);intro g)
 refine(CD.out Fa _ _ _ (g.sub _ (by simp)) ha (G.tab g HT.out)).mono ?_
 rintro e w1 ⟨pd,qd,rd,Fd,rfl,hd,hn⟩
 obtain⟨sd,Ad,nd,cd,Bd,dd,kd,rfl,rfl,rfl⟩:=hd.shape
 obtain⟨g1,rfl,hod⟩:=G.nor_ex _ (by simp) hn
 clear hn
 (try clear g)
 revert g1
 intro g
 go_wp2_with (with_reducible refine yq _ ?_;(try generalize (G.w _).heap.size=bk);(try dsimp only[yi,yj]);(try clear g);intro g)
 (try(refine cmark _ ?_;(try dsimp only[yi,yj]);(try clear g);intro g))
 refine(CV.out Fa _ _ _ (g.sub _ (by simp)) ha (G.tab g HT.out)).mono ?_
 rintro e w1 (⟨hr,_⟩|⟨_,bi,ki,Fi,rfl,hmi,hno⟩)
 ·exact absurd hr (by decide)
 obtain⟨g1,rfl,hoi⟩:=G.nor_ex _ (by simp) hno
 clear hno g
 revert g1
 intro g
 have hmm:Fm.Mt (some ⟨bm,0,none⟩) cm 2 (fun _=>2) (rawM (intM (m22 4 5 10 11))):=hm.congr (fun _ _=>rfl) (fun i hi j hj=>congrArg rawOf (live_mul i hi j hj))
 have hii:Fi.Mt (some ⟨bi,0,none⟩) ki 2 (fun _=>2) (rawM invL):=hmi.congr (fun _ _=>rfl) (fun i hi j hj=>congrArg rawOf (live_inv i hi j hj))
 clear hm hmi CM CD CV
 (as_aux_lemma=>
  go_wp2_with (with_reducible refine yq _ ?_;(try generalize (G.w _).heap.size=bk);(try dsimp only[yi,yj]);(try clear g);intro g)
  refine(CI.out (m22 4 5 10 11) _ _ _ (im22 g 4 5 10 11 (.head _) (.tail _ (.tail _ (.head _))) (.tail _ (.head _)) (by decide) (by decide) (by decide) (by decide))).mono ?_
  rintro e w1 ⟨bx,cx,Fx,rfl,hx,hn⟩
  have hnnx:=fun k o hk=>Nat.le_trans g.chg.size (hn.new k o hk)
  obtain⟨g1,rfl⟩:=G.new_ex _ hn
  clear hn
  (try clear g)
  revert g1
  intro g
  go_wp2_with (with_reducible refine yq _ ?_;(try generalize (G.w _).heap.size=bk);(try dsimp only[yi,yj]);(try clear g);intro g)
  refine(CS.out _ _ _ _ _ _ (hmm.mono (g.sub _ (by simp))) (hx.mono (g.sub _ (by simp)))).mono ?_
  rintro e w1 ⟨rfl,hb⟩
  obtain⟨g1,rfl⟩:=G.call_ex _ hb
  clear hb
  (try clear g)
  revert g1
  intro g
  go_wp2_with (with_reducible refine yq _ ?_;(try generalize (G.w _).heap.size=bk);(try dsimp only[yi,yj]);(try clear g);intro g)
  refine(CN.out _ _ _ _ (G.rtI g (by simp) hd)).mono ?_
  rintro e w1 ⟨rfl,hb⟩
  obtain⟨g1,rfl⟩:=G.call_ex _ hb
  clear hb
  (try clear g)
  revert g1
  intro g
  go_wp2_with (with_reducible refine yq _ ?_;(try generalize (G.w _).heap.size=bk);(try dsimp only[yi,yj]);(try clear g);intro g)
  (as_aux_lemma=>
   refine(CO.out (-2) 1 (-2) (by decide) (by decide+kernel) (by decide) (by decide) _).mono ?_
   rintro e w1 ⟨po1,qo1,ro1,Fo1,rfl,ho1,hn⟩
   have hnno1:=fun k o hk=>Nat.le_trans g.chg.size (hn.new k o hk)
   obtain⟨so1,Ao1,no1,co1,Bo1,do1,ko1,rfl,rfl,rfl⟩:=ho1.shape
   obtain⟨g1,rfl⟩:=G.new_ex _ hn
   clear hn
   (try clear g)
   revert g1
   intro g
   go_wp2_with (with_reducible refine yq _ ?_;(try generalize (G.w _).heap.size=bk);(try dsimp only[yi,yj]);(try clear g);intro g)
   refine(CO.out 1 1 1 (by decide) (by decide+kernel) (by decide) (by decide) _).mono ?_
   rintro e w1 ⟨po2,qo2,ro2,Fo2,rfl,ho2,hn⟩
   have hnno2:=fun k o hk=>Nat.le_trans g.chg.size (hn.new k o hk)
   obtain⟨so2,Ao2,no2,co2,Bo2,do2,ko2,rfl,rfl,rfl⟩:=ho2.shape
   obtain⟨g1,rfl⟩:=G.new_ex _ hn
   clear hn
   (try clear g)
   revert g1
   intro g
   go_wp2_with (first|(with_reducible refine yq _ ?_;(try generalize (G.w _).heap.size=bk);(try dsimp only[yi,yj]);(try clear g);intro g)|(refine bslice2 (by rfl) _ _ (by rfl) (by rfl) (by rfl) g ?_;(try clear g);intro b2 g))
   refine(CO.out 3 2 (3/2) (by decide) (by decide+kernel) (by decide) (by decide) _).mono ?_
   rintro e w1 ⟨po3,qo3,ro3,Fo3,rfl,ho3,hn⟩
   have hnno3:=fun k o hk=>Nat.le_trans g.chg.size (hn.new k o hk)
   obtain⟨so3,Ao3,no3,co3,Bo3,do3,ko3,rfl,rfl,rfl⟩:=ho3.shape
   obtain⟨g1,rfl⟩:=G.new_ex _ hn
   clear hn
   (try clear g)
   revert g1
   intro g
   go_wp2_with (with_reducible refine yq _ ?_;(try generalize (G.w _).heap.size=bk);(try dsimp only[yi,yj]);(try clear g);intro g)
   refine(CO.out (-1) 2 (-1/2) (by decide) (by decide+kernel) (by decide) (by decide) _).mono ?_
   rintro e w1 ⟨po4,qo4,ro4,Fo4,rfl,ho4,hn⟩
   have hnno4:=fun k o hk=>Nat.le_trans g.chg.size (hn.new k o hk)
   obtain⟨so4,Ao4,no4,co4,Bo4,do4,ko4,rfl,rfl,rfl⟩:=ho4.shape
   obtain⟨g1,rfl⟩:=G.new_ex _ hn
   clear hn
   (try clear g)
   revert g1
   intro g
   go_wp2_with (first|(with_reducible refine yq _ ?_;(try generalize (G.w _).heap.size=bk);(try dsimp only[yi,yj]);(try clear g);intro g)|(refine bslice2 (by rfl) _ _ (by rfl) (by rfl) (by rfl) g ?_;(try clear g);intro b2 g))
   (as_aux_lemma=>
    have hl:(heapOf g.w).Mt _ _ 2 (fun _=>2) (rawM invL):=mtM g (.head _) (by decide) (two_cases ⟨_,_,rfl,rwM g _ (.tail _ (.tail _ (.head _))) (tris2 (x:=rawM invL 0) (G.rtI g (by simp) ho1) (G.rtI g (by simp) ho2)) (by decide)⟩ ⟨_,_,rfl,rwM g _ (.tail _ (.head _)) (tris2 (x:=rawM invL 1) (G.rtI g (by simp) ho3) (G.rtI g (by simp) ho4)) (by decide)⟩)
    refine(CS.out _ _ _ _ _ _ (hii.mono (g.sub _ (by simp))) hl).mono ?_
    rintro e w1 ⟨rfl,hb⟩
    obtain⟨g1,rfl⟩:=G.call_ex _ hb
    clear hb
    (try clear g)
    revert g1
    intro g
    go_wp2_with (with_reducible refine yq _ ?_;(try generalize (G.w _).heap.size=bk);(try dsimp only[yi,yj]);(try clear g);intro g)
    go_ret
    exact⟨rfl,G.below _⟩)))
theorem rawOf_inj {x y:Rat}(h:rawOf x=rawOf y):x=y:=by
 unfold rawOf at h
 injection h with h1 h
 injection h with h2 h3
 have e1:rn x=rn y:=by rw[←val_limbs (rn x),h2,val_limbs]
 have e2:x.den=y.den:=by rw[←val_limbs x.den,h3,val_limbs]
 refine Rat.ext ?_ e2
 unfold rn at e1
 unfold rneg at h1
 by_cases hx:x.num<0
 ·have hy:y.num<0:=by
   rw[decide_eq_true hx] at h1
   exact of_decide_eq_true h1.symm
  omega
 ·have hy:¬ y.num<0:=by
   rw[decide_eq_false hx] at h1
   exact of_decide_eq_false h1.symm
  omega
/-- the lower half of a, and its mirror -/
def lowM (a:Mx):Mx:=fun i k=>if k≤i then a i k else a k i
theorem lowM_sym (a:Mx)(i k:Nat):lowM a i k=lowM a k i:=by
 unfold lowM
 by_cases h:k≤i
 ·rw[if_pos h]
  by_cases h2:i≤k
  ·obtain rfl:i=k:=by omega
   rw[if_pos h2]
  ·rw[if_neg h2]
 ·rw[if_neg h,if_pos (by omega)]
theorem lowM_bd {a:Mx}{n:Nat}(h:∀i,i<n→∀k,k<n→Bd 64 (a i k)):∀i,i<n→∀k,k<n→Bd 64 (lowM a i k):=fun i hi k hk=>by
 unfold lowM
 split
 ·exact h i hi k hk
 ·exact h k hk i hi
theorem low_fine {a:Mx}{n:Nat}(hn:n≤4)(h:∀i,i<n→∀k,k<n→Bd 64 (a i k)):FacFine n (lowM a):=
 fac_fine hn (fun i _ k _=>lowM_sym a i k) (fun i hi=>rowF_init (lowM_bd h i hi) (show 64*n≤256 by omega)) (by decide)
/-- symmetric and positive definite -/
def FacOK (n:Nat)(x:Mx):Prop:=(∀i,i<n→∀k,k≤i→x i k=x k i)∧∀k,k<n→0<facD (lowM x) k
/-- two values and an error -/
def RErrF (E:Int)(w:World)(e:Ending)(w':World):Prop:=e=.returned (.tuple #[.slice none 0 0,.slice none 0 0,.int .i64 E])∧Below w.heap.size w w'
/-- a truth and an error -/
def RErrB (E:Int)(d:Bool)(w:World)(e:Ending)(w':World):Prop:=e=.returned (.tuple #[.bool d,.int .i64 E])∧Below w.heap.size w w'
set_option maxRecDepth 40000 in
set_option maxHeartbeats 16000000 in
theorem factors_n (n:Nat)(a:Mx)(A:Option Addr)(c:Nat)(w:World)(hA:(heapOf w).Mt A c n (fun _=>n) (rawM a))(hT:Tab w)(n1:1≤n)(n2:n≤24)(hns:¬ ∀i,i<n→∀k,k<i→a i k=a k i):
  Calls Tryz.prog 87 #[.slice A n c] w fun e w'=>e=.returned (.tuple #[.slice none 0 0,.slice none 0 0,.bool false,.int .i64 0])∧Below w.heap.size w w':=by
 refine calls_b fun g=>?_
 have HT:=Lib.hid hT
 have HA:=Lib.hid hA
 have CE:=Lib.hid (fun t u p q r p' q' r' w h h'=>mequal_any t u p q r p' q' r' w h h')
 have HNS:=Lib.hid hns
 have CO:=Lib.hid (fun w t=>one_own n (by omega) (by omega) w t)
 unfold ROne at CO
 obtain⟨i0,hi,hz0,hz1,hz2⟩:=info_parts infoRat
 obtain⟨b,o,rfl,hrow⟩:=hA.rowAt n1
 have HR:Hid (∀i,i<n→∃ba oa k,w.cell? ⟨b,o+i,none⟩=some (.slice (some ⟨ba,oa,none⟩) n k)∧∀j,j<n→∃p q r,w.cell? ⟨ba,oa+j*3,none⟩=some p∧w.cell? ⟨ba,oa+j*3+1,none⟩=some q∧w.cell? ⟨ba,oa+j*3+2,none⟩=some r∧RtW w p q r (rawOf (a i j))):=Lib.hid (fun i hi=>by
  obtain⟨B,k,h1,h2⟩:=hrow i hi
  obtain⟨ba,oa,rfl,h3⟩:=h2.num n1
  refine⟨ba,oa,k,h1 _ _ _ _ (G.begin w) (InF.head _ _),fun j hj=>?_⟩
  obtain⟨p,q,r,h4,h5⟩:=h3 j hj
  have h6:=h4 _ _ _ _ (G.begin w) (InF.head _ _)
  exact⟨p,q,r,h6.1,h6.2.1,h6.2.2,h5⟩)
 have hni:(0:Int)≤(n:Int):=by omega
 clear hT hA hns hrow
 go_enter Tryz.func87,Tryz.ntmps87
 go_wp2_with (with_reducible refine yq _ ?_;(try generalize (G.w _).heap.size=bk);(try dsimp only[yi,yj]);(try clear g);intro g)
 (try(refine cmark _ ?_;(try dsimp only[yi,yj]);(try clear g);intro g))
 obtain⟨s2b,rfl⟩:∃s2b,s2b=bk:=⟨_,rfl⟩
 obtain⟨sb,rfl⟩:∃sb,sb=bk:=⟨_,rfl⟩
 obtain⟨lb,rfl⟩:∃lb,lb=bk:=⟨_,rfl⟩
 refine(CO.out _ (G.tab g HT.out)).mono ?_
 rintro e w1 ⟨ob,R,oc,F,g1,rfl,hocl,hown,hnw,rfl⟩
 obtain⟨g2,e2⟩:=G.lift g g1 hnw
 rw[e2]
 have hnwW:F.Nw w:=fun k o hk=>Nat.le_trans g.chg.size (hnw k o hk)
 have hownW:OwnOn (List.range n) (fun j=>NumRow w.heap.size 43 F n (rawM (lM a 0 0) j)) R oc:=hown.next (fun _ _=>rfl) (fun j hj v s hq=>(NumRow.lo hq g.chg.size).congr (fun k hk=>by unfold rawM;rw[lM_start]))
 obtain⟨g3,e3⟩:=g2.perm (M':=(s2b,76,[Value.pointer (some ⟨sb,0,none⟩)])::(sb,78,[Value.int .i64 0])::(lb,29,[Value.slice none 0 0])::(ob,38,oc)::R) List.perm_append_comm
 rw[e3]
 clear e2 e3 hown hnw g1 g2 g CO
 revert g3
 intro g
 go_wp2_with (with_reducible refine yq _ ?_;(try generalize (G.w _).heap.size=bk);(try dsimp only[yi,yj]);(try clear g);intro g)
 go_loopw [3,21] (fun dv iv wr=>dv=.slice none 0 0∧∃i:Nat,iv=.int .i64 (i:Int)∧i≤n∧Hid (∀r,r<i→∀c,c<r→a r c=a c r)∧∃g:G w [] ((s2b,76,[Value.pointer (some ⟨sb,0,none⟩)])::(sb,78,[Value.int .i64 0])::(lb,29,[Value.slice (some ⟨ob,0,none⟩) n n])::(ob,38,oc)::R) [F,heapOf w],wr=g.w) (fun _ iv _=>n-(intOf iv).toNat)
 case atStart=>exact⟨rfl,0,rfl,by omega,Lib.hid (fun r h=>absurd h (Nat.not_lt_zero r)),_,rfl⟩
 case round =>
  clear g
  obtain⟨rfl,i,rfl,hi',HSY,g,rfl⟩:=hrel
  by_cases hin:i<n
  ·have hii:(i:Int)<(n:Int):=by omega
   obtain⟨ba,oa,k0,hro,hnu⟩:=HR.out i hin
   have EH:=fun(M:List Blk) (I:List Frag) (g:G w [] M I)=>G.keepc g hro
   have HNU:=Lib.hid hnu
   clear hro hnu
   go_wp2_with (with_reducible refine yq _ ?_;(try generalize (G.w _).heap.size=bk);(try dsimp only[yi,yj]);(try clear g);intro g)
   go_loopw [3,27] (fun dv kv wr=>dv=.slice none 0 0∧∃k:Nat,kv=.int .i64 (k:Int)∧k≤i∧Hid (∀c,c<k→a i c=a c i)∧∃g:G w [] ((s2b,76,[Value.pointer (some ⟨sb,0,none⟩)])::(sb,78,[Value.int .i64 0])::(lb,29,[Value.slice (some ⟨ob,0,none⟩) n n])::(ob,38,oc)::R) [F,heapOf w],wr=g.w) (fun _ kv _=>i-(intOf kv).toNat)
   case atStart=>exact⟨rfl,0,rfl,by omega,Lib.hid (fun c h=>absurd h (Nat.not_lt_zero c)),g,rfl⟩
   case round=>
    clear g
    obtain⟨rfl,k,rfl,hk',HSR,g,rfl⟩:=hrel
    by_cases hki:k<i
    ·have hkii:(k:Int)<(i:Int):=by omega
     have hkn:(k:Int)<(n:Int):=by omega
     obtain⟨p,q,r,x0,x1,x2,hx⟩:=HNU.out k (by omega)
     obtain⟨bk2,ok2,k2,hro2,hnu2⟩:=HR.out k (by omega)
     obtain⟨p',q',r',y0,y1,y2,hy⟩:=hnu2 i hin
     obtain⟨s1,A1,m1,c1,B1,d1,e1,rfl,rfl,rfl⟩:=hx.shape
     obtain⟨s2,A2,m2,c2,B2,d2,e2,rfl,rfl,rfl⟩:=hy.shape
     have X0:=fun(M:List Blk) (I:List Frag) (g:G w [] M I)=>G.keepc g x0
     have X1:=fun(M:List Blk) (I:List Frag) (g:G w [] M I)=>G.keepc g x1
     have X2:=fun(M:List Blk) (I:List Frag) (g:G w [] M I)=>G.keepc g x2
     have Y0:=fun(M:List Blk) (I:List Frag) (g:G w [] M I)=>G.keepc g y0
     have Y1:=fun(M:List Blk) (I:List Frag) (g:G w [] M I)=>G.keepc g y1
     have Y2:=fun(M:List Blk) (I:List Frag) (g:G w [] M I)=>G.keepc g y2
     have EK:=fun(M:List Blk) (I:List Frag) (g:G w [] M I)=>G.keepc g hro2
     obtain⟨z,hz⟩:∃z,decide (rawOf (a i k)=rawOf (a k i))=z:=⟨_,rfl⟩
     have HSK:Hid (z=true↔a i k=a k i):=Lib.hid (by
      rw[←hz,decide_eq_true_iff]
      exact⟨fun h=>rawOf_inj h,fun h=>congrArg rawOf h⟩)
     have CE1:=Lib.hid (CE.out (rawOf (a i k)) (rawOf (a k i)))
     rw[hz] at CE1
     have HX:=Lib.hid hx
     have HY:=Lib.hid hy
     clear x0 x1 x2 y0 y1 y2 hro2 hnu2 hx hy hz
     go_upto_region 9 with(with_reducible refine yq _ ?_;(try generalize (G.w _).heap.size=bk);(try dsimp only[yi,yj]);(try clear g);intro g)
     ((try simp only[G.drew_eq,G.drewN_eq]);(refine yq _ ?_;(try generalize (G.w _).heap.size=bk);(try dsimp only[yi,yj]);(try clear g);intro g))
     refine wp_region_held_drew (S:=(fun w'=>w'.cell? ⟨ba,oa+k*3,none⟩=some (.bool s1)∧w'.cell? ⟨ba,oa+k*3+1,none⟩=some (.slice A1 m1 c1)∧w'.cell? ⟨ba,oa+k*3+2,none⟩=some (.slice B1 d1 e1)∧w'.cell? ⟨b,o+k,none⟩=some (.slice (some ⟨bk2,ok2,none⟩) n k2)∧w'.cell? ⟨bk2,ok2+i*3,none⟩=some (.bool s2)∧w'.cell? ⟨bk2,ok2+i*3+1,none⟩=some (.slice A2 m2 c2)∧w'.cell? ⟨bk2,ok2+i*3+2,none⟩=some (.slice B2 d2 e2))) (by kernel_rfl) (by(simp[go_sem, *];done)) (fun hHeld=>?_)
     refine tk0 [0,1,2,3,4,5,6,7,8,9,10] ?_
     iterate 11 (refine tkc rfl (by kernel_rfl) (fun _ _ _ h=>h) (by rfl) ‹_› (by intro w hSw;(try dsimp only at hSw);go_simp;(try with_reducible rfl)) ?_;try simp only[Act.put,yk,yl,yn,yo,yi,yj])
     refine tkn ?_
     refine wpAnyH_ready (rs:=[11]) (by kernel_rfl) (by simp) ?_
     refine AllReadyH.cons rfl (fun K hK=>?_) AllReadyH.nil
     ·(try simp only[Act.put,yk,yl,yn,yo,yi,yj])
      go_simp
      go_at_call 120
      (try(refine cmark _ ?_;(try dsimp only[yi,yj]);(try clear g);intro g))
      refine(CE1.out _ _ _ _ _ _ _ (G.rtI g (f:=heapOf w) (by simp) HX.out) (G.rtI g (f:=heapOf w) (by simp) HY.out)).mono ?_
      rintro e w1 ⟨rfl,hb⟩
      obtain⟨g1,rfl⟩:=G.call_ex _ hb
      clear hb
      (try clear g)
      revert g1
      intro g
      refine hK.out _ _ (by(simp[go_sem, *];done)) (fun hHeld=>?_)
      clear hK K
      (try simp only[Act.put,yk,yl,yn,yo,yi,yj])
      refine tk0 [12] ?_
      iterate 1 (refine tkc rfl (by kernel_rfl) (fun _ _ _ h=>h) (by rfl) ‹_› (by intro w hSw;(try dsimp only at hSw);go_simp;(try with_reducible rfl)) ?_;try simp only[Act.put,yk,yl,yn,yo,yi,yj])
      refine tkn ?_
      refine wpAnyH_done (by kernel_rfl) ?_ _
      (as_aux_lemma=>
       (try clear hHeld)
       ((try simp only[G.drew_eq,G.drewN_eq]);(refine yq _ ?_;(try generalize (G.w _).heap.size=bk);(try dsimp only[yi,yj]);(try clear g);intro g))
       cases z
       case false=>
        go_wp2_with (with_reducible refine yq _ ?_;(try generalize (G.w _).heap.size=bk);(try dsimp only[yi,yj]);(try clear g);intro g)
        refine bodyPost_ret (v:=.tuple #[.slice none 0 0,.slice none 0 0,.bool false,.int .i64 0]) (by simp[results,Tryz.results87,go_sem]) rfl ?_
        exact⟨rfl,G.below _⟩
       case true=>
        have HSR2:Hid (∀c,c<k+1→a i c=a c i):=Lib.hid (fun c hc=>by
         by_cases hck:c=k
         ·rw[hck];exact HSK.out.1 rfl
         ·exact HSR.out c (by omega))
        go_wp2_with (with_reducible refine yq _ ?_;(try generalize (G.w _).heap.size=bk);(try dsimp only[yi,yj]);(try clear g);intro g)
        go_roundw
        case rel=>exact⟨rfl,k+1,by go_num,by omega,HSR2,g,rfl⟩
        case measure=>simp[intOf]<;>omega)
    ·obtain rfl:k=i:=by omega
     have HSY2:Hid (∀r,r<k+1→∀c,c<r→a r c=a c r):=Lib.hid (fun r hr c hc=>by
      by_cases hrk:r=k
      ·rw[hrk] at hc ⊢;exact HSR.out c hc
      ·exact HSY.out r (by omega) c hc)
     go_wp2_with (with_reducible refine yq _ ?_;(try generalize (G.w _).heap.size=bk);(try dsimp only[yi,yj]);(try clear g);intro g)
     go_roundw
     case rel=>exact⟨rfl,k+1,by go_num,by omega,HSY2,g,rfl⟩
     case measure=>simp[intOf]<;>omega
  ·obtain rfl:i=n:=by omega
   exact absurd HSY.out HNS.out
def RFacA (n:Nat)(x:Mx)(w:World)(e:Ending)(w':World):Prop:=(FacOK n x∧∃b cl b2 cd F,e=.returned (.tuple #[.slice (some ⟨b,0,none⟩) n cl,.slice (some ⟨b2,0,none⟩) n cd,.bool true,.int .i64 0])∧Frag.Mt F (some ⟨b,0,none⟩) cl n (fun _=>n) (rawM (facL (lowM x)))∧Frag.Rw F (some ⟨b2,0,none⟩) cd n (rawR (facD (lowM x)))∧New w w' F)∨(¬ FacOK n x∧e=.returned (.tuple #[.slice none 0 0,.slice none 0 0,.bool false,.int .i64 0])∧Below w.heap.size w w')
theorem lowM_eq {n:Nat}{x:Mx}(h:∀i,i<n→∀k,k<i→x i k=x k i):∀i,i<n→∀k,k<n→x i k=lowM x i k:=fun i hi k hk=>by
 unfold lowM
 by_cases hki:k≤i
 ·rw[if_pos hki]
 ·rw[if_neg hki]
  exact(h k hk i (by omega)).symm
theorem factors_any (n:Nat)(x:Mx)(A:Option Addr)(c:Nat)(w:World)(hA:(heapOf w).Mt A c n (fun _=>n) (rawM x))(hT:Tab w)(n1:1≤n)(n2:n≤4)(bx:∀i,i<n→∀j,j<n→Bd 64 (x i j)):
  Calls Tryz.prog 87 #[.slice A n c] w (RFacA n x w):=by
 by_cases hs:∀i,i<n→∀k,k<i→x i k=x k i
 ·have hsy:∀i,i<n→∀k,k≤i→x i k=x k i:=fun i hi k hk=>by
   rcases Nat.lt_or_eq_of_le hk with h|rfl
   ·exact hs i hi k h
   ·rfl
  have hA2:=hA.congr (y:=rawM (lowM x)) (fun _ _=>rfl) (fun i hi j hj=>by unfold rawM;rw[lowM_eq hs i hi j hj])
  have h1:=factors_r n (lowM x) A c w hA2 hT n1 (by omega) (fun i hi j hj=>(lowM_bd bx i hi j hj).mono (by decide)) (fun i _ k _=>lowM_sym x i k) (low_fine n2 bx)
  refine h1.mono fun e w' h=>?_
  rcases h with⟨hp,h2⟩|⟨⟨k,hk,hk2⟩,h2⟩
  ·exact .inl ⟨⟨hsy,hp⟩,h2⟩
  ·exact .inr ⟨fun h=>hk2 (h.2 k hk),h2⟩
 ·refine(factors_n n x A c w hA hT n1 (by omega) hs).mono fun e w' h=>?_
  exact .inr ⟨fun h=>hs fun i hi k hk=>h.1 i hi k (by omega),h⟩
set_option maxRecDepth 20000 in
theorem Definite_a (n:Nat)(x:Mx)(A:Option Addr)(c:Nat)(w:World)(hA:(heapOf w).Mt A c n (fun _=>n) (rawM x))(hT:Tab w)(n1:1≤n)(n2:n≤4)(bx:∀i,i<n→∀j,j<n→Bd 64 (x i j)):
  Calls Tryz.prog 39 #[.slice A n c] w fun e w'=>∃d,(d=true↔FacOK n x)∧RErrB 0 d w e w':=by
 refine calls_b fun g=>?_
 have HA:=Lib.hid hA
 have HT:=Lib.hid hT
 have CC:=Lib.hid (fun w h t=>mCheck_any A c n (fun _=>n) (rawM x) w h t)
 rw[matE_ok n1 (by omega) n1 (by omega) (fun i hi j hj=>(bx i hi j hj).mono (by decide))] at CC
 have CQ:=Lib.hid (fun w h=>square_any n n (rawM x) A c w h n1)
 rw[decide_eq_true rfl] at CQ
 have CF:=Lib.hid (fun w h t=>factors_any n x A c w h t n1 n2 bx)
 unfold RFacA at CF
 unfold RErrB
 clear hA hT bx
 go_enter Tryz.func39,Tryz.ntmps39
 go_wp2_with (with_reducible refine yq _ ?_;(try generalize (G.w _).heap.size=bk);(try dsimp only[yi,yj]);(try clear g);intro g)
 refine(CC.out _ (HA.out.mono (g.sub _ (by simp))) (G.tab g HT.out)).mono ?_
 rintro e w1 ⟨rfl,hb⟩
 obtain⟨g1,rfl⟩:=G.call_ex _ hb
 clear hb
 (try clear g)
 revert g1
 intro g
 go_wp2_with (with_reducible refine yq _ ?_;(try generalize (G.w _).heap.size=bk);(try dsimp only[yi,yj]);(try clear g);intro g)
 refine(CQ.out _ (HA.out.mono (g.sub _ (by simp)))).mono ?_
 rintro e w1 ⟨rfl,hb⟩
 obtain⟨g1,rfl⟩:=G.call_ex _ hb
 clear hb
 (try clear g)
 revert g1
 intro g
 go_wp2_with (with_reducible refine yq _ ?_;(try generalize (G.w _).heap.size=bk);(try dsimp only[yi,yj]);(try clear g);intro g)
 refine(CF.out _ (HA.out.mono (g.sub _ (by simp))) (G.tab g HT.out)).mono ?_
 rintro e w1 (⟨hp,b,cl,b2,cd,F,rfl,_,_,hn⟩|⟨hp,rfl,hb⟩)
 ·have HP:=Lib.hid hp
  clear hp
  obtain⟨g1,rfl⟩:=G.call_ex _ hn.below
  clear hn g
  revert g1
  intro g
  go_wp2_with (with_reducible refine yq _ ?_;(try generalize (G.w _).heap.size=bk);(try dsimp only[yi,yj]);(try clear g);intro g)
  refine bodyPost_ret (v:=.tuple #[.bool true,.int .i64 0]) (by simp[results,Tryz.results39,go_sem]) rfl ?_
  exact⟨true,⟨fun _=>HP.out,fun _=>rfl⟩,rfl,G.below _⟩
 ·have HP:=Lib.hid hp
  clear hp
  obtain⟨g1,rfl⟩:=G.call_ex _ hb
  clear hb g
  revert g1
  intro g
  go_wp2_with (with_reducible refine yq _ ?_;(try generalize (G.w _).heap.size=bk);(try dsimp only[yi,yj]);(try clear g);intro g)
  refine bodyPost_ret (v:=.tuple #[.bool false,.int .i64 0]) (by simp[results,Tryz.results39,go_sem]) rfl ?_
  exact⟨false,⟨fun h=>absurd h (by decide),fun h=>absurd h HP.out⟩,rfl,G.below _⟩
def RFctA (n:Nat)(x:Mx)(w:World)(e:Ending)(w':World):Prop:=(FacOK n x∧∃A cl B cd F,e=.returned (.tuple #[.slice A n cl,.slice B n cd,.int .i64 0])∧Frag.Mt F A cl n (fun _=>n) (rawM (facL (lowM x)))∧Frag.Rw F B cd n (rawR (facD (lowM x)))∧New w w' F)∨(¬ FacOK n x∧RErrF 13 w e w')
set_option maxRecDepth 20000 in
theorem Factor_a (n:Nat)(x:Mx)(A:Option Addr)(c:Nat)(w:World)(hA:(heapOf w).Mt A c n (fun _=>n) (rawM x))(hT:Tab w)(n1:1≤n)(n2:n≤4)(bx:∀i,i<n→∀j,j<n→Bd 64 (x i j)):
  Calls Tryz.prog 41 #[.slice A n c] w (RFctA n x w):=by
 refine calls_b fun g=>?_
 unfold RFctA RErrF
 have HA:=Lib.hid hA
 have HT:=Lib.hid hT
 have CC:=Lib.hid (fun w h t=>mCheck_any A c n (fun _=>n) (rawM x) w h t)
 rw[matE_ok n1 (by omega) n1 (by omega) (fun i hi j hj=>(bx i hi j hj).mono (by decide))] at CC
 have CQ:=Lib.hid (fun w h=>square_any n n (rawM x) A c w h n1)
 rw[decide_eq_true rfl] at CQ
 have CF:=Lib.hid (fun w h t=>factors_any n x A c w h t n1 n2 bx)
 unfold RFacA at CF
 clear hA hT bx
 go_enter Tryz.func41,Tryz.ntmps41
 go_wp2_with (with_reducible refine yq _ ?_;(try generalize (G.w _).heap.size=bk);(try dsimp only[yi,yj]);(try clear g);intro g)
 refine(CC.out _ (HA.out.mono (g.sub _ (by simp))) (G.tab g HT.out)).mono ?_
 rintro e w1 ⟨rfl,hb⟩
 obtain⟨g1,rfl⟩:=G.call_ex _ hb
 clear hb
 (try clear g)
 revert g1
 intro g
 go_wp2_with (with_reducible refine yq _ ?_;(try generalize (G.w _).heap.size=bk);(try dsimp only[yi,yj]);(try clear g);intro g)
 refine(CQ.out _ (HA.out.mono (g.sub _ (by simp)))).mono ?_
 rintro e w1 ⟨rfl,hb⟩
 obtain⟨g1,rfl⟩:=G.call_ex _ hb
 clear hb
 (try clear g)
 revert g1
 intro g
 go_wp2_with (with_reducible refine yq _ ?_;(try generalize (G.w _).heap.size=bk);(try dsimp only[yi,yj]);(try clear g);intro g)
 refine(CF.out _ (HA.out.mono (g.sub _ (by simp))) (G.tab g HT.out)).mono ?_
 rintro e w1 (⟨hp,b,cl,b2,cd,F,rfl,hm,hr,hn⟩|⟨hp,rfl,hb⟩)
 ·have HP:=Lib.hid hp
  have HM:=Lib.hid hm
  have HRW:=Lib.hid hr
  have hnn:=fun k o hk=>Nat.le_trans g.chg.size (hn.new k o hk)
  clear hp hm hr
  obtain⟨g1,rfl⟩:=G.new_ex _ hn
  clear hn g
  revert g1
  intro g
  go_wp2_with (with_reducible refine yq _ ?_;(try generalize (G.w _).heap.size=bk);(try dsimp only[yi,yj]);(try clear g);intro g)
  refine bodyPost_ret (v:=.tuple #[.slice (some ⟨b,0,none⟩) n cl,.slice (some ⟨b2,0,none⟩) n cd,.int .i64 0]) (by simp[results,Tryz.results41,go_sem]) rfl ?_
  exact .inl ⟨HP.out,_,cl,_,cd,F,rfl,HM.out,HRW.out,G.below _,G.sub _ _ (by simp),hnn⟩
 ·have HP:=Lib.hid hp
  clear hp
  obtain⟨g1,rfl⟩:=G.call_ex _ hb
  clear hb g
  revert g1
  intro g
  go_wp2_with (with_reducible refine yq _ ?_;(try generalize (G.w _).heap.size=bk);(try dsimp only[yi,yj]);(try clear g);intro g)
  refine bodyPost_ret (v:=.tuple #[.slice none 0 0,.slice none 0 0,.int .i64 13]) (by simp[results,Tryz.results41,go_sem]) rfl ?_
  exact .inr ⟨HP.out,rfl,G.below _⟩
theorem nm_add:∀i,i<2→∀j,j<2→addM (intM (m22 1 2 3 4)) (intM (m22 2 1 1 2)) i j=intM (m22 3 3 4 6) i j:=mx2 (by decide+kernel)
theorem nm_turn:∀i,i<2→∀j,j<2→trM (intM (m22 1 2 3 4)) i j=intM (m22 1 3 2 4) i j:=mx2 (by decide+kernel)
/-- a list of two numbers -/
def v2 (x y:Rat):Nat→Rat:=fun i=>if i=0 then x else y
theorem nm_sol:∀i,i<2→behindM 2 (intM (m22 1 2 3 4)) (colM (v2 5 6)) i 0=v2 (-4) (9/2) i:=fun i hi=>by
 have:i=0∨i=1:=by omega
 rcases this with rfl|rfl<;>decide+kernel
theorem nm_flat:rankM 2 2 (intM (m22 1 2 2 4))=1:=by decide+kernel
theorem nm_no1:¬ FacOK 2 (intM (m22 1 2 3 4)):=fun h=>absurd (h.1 1 (by decide) 0 (by decide)) (by decide+kernel)
theorem nm_no2:¬ FacOK 2 (intM (m22 1 2 2 1)):=fun h=>absurd (h.2 1 (by decide)) (by decide+kernel)
theorem nm_yes:FacOK 2 (intM (m22 2 1 1 2)):=by
 refine⟨fun i hi k hk=>?_,fun k hk=>?_⟩
 ·have h1:i=0∨i=1:=by omega
  have h2:k=0∨k=1:=by omega
  rcases h1 with rfl|rfl<;>rcases h2 with rfl|rfl<;>decide+kernel
 ·have h2:k=0∨k=1:=by omega
  rcases h2 with rfl|rfl<;>decide+kernel
def lowL:Mx:=fun i j=>if i=0 then(if j=0 then 1 else 0) else(if j=0 then 1/2 else 1)
theorem nm_low:∀i,i<2→∀j,j<2→facL (lowM (intM (m22 2 1 1 2))) i j=lowL i j:=mx2 (by decide+kernel)
theorem nm_diag:∀i,i<2→facD (lowM (intM (m22 2 1 1 2))) i=v2 2 (3/2) i:=fun i hi=>by
 have:i=0∨i=1:=by omega
 rcases this with rfl|rfl<;>decide+kernel
theorem nm_quad:quadM 2 (intM (m22 2 1 1 2)) (v2 1 (-1))=2:=by decide+kernel
theorem nm_fix {P:Prop}{d0:Bool}(h0:d0=true↔P){w w':World}{e:Ending}(h:∃d,(d=true↔P)∧RErrB 0 d w e w'):RErrB 0 d0 w e w':=by
 obtain⟨d,h1,h2⟩:=h
 have:d=d0:=Bool.eq_iff_iff.2 (h1.trans h0.symm)
 rwa[←this]
theorem nm_nof {n:Nat}{x:Mx}(h0:¬ FacOK n x){w w':World}{e:Ending}(h:RFctA n x w e w'):RErrF 13 w e w':=by
 rcases h with⟨h,_⟩|⟨_,h⟩
 ·exact absurd h h0
 ·exact h
theorem nm_fac {w w':World}{e:Ending}(h0:FacOK 2 (intM (m22 2 1 1 2)))(h:RFctA 2 (intM (m22 2 1 1 2)) w e w'):∃A cl B cd F,e=.returned (.tuple #[.slice A 2 cl,.slice B 2 cd,.int .i64 0])∧Frag.Mt F A cl 2 (fun _=>2) (rawM lowL)∧Frag.Rw F B cd 2 (rawR (v2 2 (3/2)))∧New w w' F:=by
 rcases h with⟨_,A,cl,B,cd,F,h1,h2,h3,h4⟩|⟨h,_⟩
 ·exact⟨A,cl,B,cd,F,h1,h2.congr (fun _ _=>rfl) (fun i hi j hj=>congrArg rawOf (nm_low i hi j hj)),h3.congr (fun i hi=>congrArg rawOf (nm_diag i hi)),h4⟩
 ·exact absurd h0 h
/-- what is known of a world, as one part -/
theorem G.seal {w0:World}{M:List Blk}{I:List Frag}(g:G w0 [] M I):∃(F:Frag) (g':G w0 [] [] [F]),g.w=g'.w∧(∀f∈I,f.le F)∧F=heapOf g.w:=by
 refine⟨heapOf g.w,⟨g.w,g.chg,by simp,by simp,by simp,?_,?_⟩,rfl,fun f hf=>g.sub f hf,rfl⟩
 ·intro f hf
  rw[List.mem_singleton.1 hf]
  exact fun k o h=>h
 ·intro f hf k o h
  exact⟨.inr (by simp),by simp⟩
/-- one row of three ints -/
def v13:Nat→Nat→Int:=fun _ j=>[1,2,3].getD j 0
theorem im13 {w0:World}{X:List Nat}{M:List Blk}{I:List Frag}(g:G w0 X M I){b b1:Nat}{T T1:TypeId}(h:(b,T,[.slice (some ⟨b1,0,Option.none⟩) 3 3])∈M)(h1:(b1,T1,[.int .i64 1,.int .i64 2,.int .i64 3])∈M):(heapOf g.w).Im (some ⟨b,0,Option.none⟩) 1 1 (fun _=>3) v13:=by
 refine imM g h (by decide) (fun i hi=>?_)
 obtain rfl:i=0:=by omega
 exact⟨_,_,rfl,irM g [1,2,3] (n:=3) h1 rfl (by decide) (by intro u hu;simp at hu;rcases hu with rfl|rfl|rfl<;>decide)⟩
/-- two rows of different lengths -/
def m21:Nat→Nat:=fun i=>if i=0 then 2 else 1
def v21:Nat→Nat→Int:=fun i j=>if i=0 then [1,2].getD j 0 else [3].getD j 0
theorem im21 {w0:World}{X:List Nat}{M:List Blk}{I:List Frag}(g:G w0 X M I){b b1 b2:Nat}{T T1 T2:TypeId}(h:(b,T,[.slice (some ⟨b1,0,Option.none⟩) 2 2,.slice (some ⟨b2,0,Option.none⟩) 1 1])∈M)(h1:(b1,T1,[.int .i64 1,.int .i64 2])∈M)(h2:(b2,T2,[.int .i64 3])∈M):(heapOf g.w).Im (some ⟨b,0,Option.none⟩) 2 2 m21 v21:=by
 refine imM g h (by decide) (two_cases ⟨_,_,rfl,?_⟩ ⟨_,_,rfl,?_⟩)
 ·exact irM g [1,2] (n:=2) h1 rfl (by decide) (by intro u hu;simp at hu;rcases hu with rfl|rfl<;>decide)
 ·exact irM g [3] (n:=1) h2 rfl (by decide) (by intro u hu;simp at hu;rcases hu with rfl;decide)
theorem nm_ints {w w':World}{e:Ending}(h:RInts 2 m21 v21 w e w'):RErr 3 w e w':=by
 rcases h with⟨h,_⟩|⟨_,h⟩
 ·exact absurd (h 1 (by decide)) (by decide)
 ·exact h
theorem bslice1 {ops:Array Oper}{rest:List Oper}{o:Oper}{a:Act}{Q:Exit→Act→World→Prop}{w0:World}{X:List Nat}{M:List Blk}{I:List Frag}(hw:Region.wanted o (yielded ops a.tmps)=true)(i:Operand)(ho:o.op=.buildSlice 38 1 #[(0,i)]){p q r:Value}(hi:a.eval i=.agg #[p,q,r])(g:G w0 X M I)
  (h:∀(b:Nat) (g':G w0 X ((b,43,[p,q,r])::M) I),wpList Tryz.prog ops Q rest (a.put o.dst (.slice (some ⟨b,0,none⟩) 1 1)) g'.w):wpList Tryz.prog ops Q (o::rest) a g.w:=by
 refine wpList_step fun K hK=>?_
 rw[if_pos hw]
 obtain⟨i0,hi0,hz0,hz1,hz2⟩:=info_parts infoRat
 refine wp_buildSlice 38 43 1 _ ho [p,q,r].toArray i0 _ Tryz.underlying38 hi0 hz0 (by rw[hz1];decide) (by rw[hz1];decide) ?_ (hK _ _ (h _ (g.new _ _)))
 rw[hz1]
 have e:(Array.map (fun x:Nat×Operand=>(x.1,a.eval x.2)) #[(0,i)]).toList=[(0,.agg #[p,q,r])]:=by simp[hi]
 show Instr.fill _ _ (Array.map (fun x:Nat×Operand=>(x.1,a.eval x.2)) #[(0,i)]).toList=_
 rw[e]
 kernel_rfl
theorem nm_bd1:∀i,i<2→∀j,j<2→Bd 8192 (intM (m22 1 2 3 4) i j):=fun i hi j hj=>(bd22a i hi j hj).mono (by decide)
theorem nm_bd3:∀i,i<1→∀j,j<3→Bd 8192 (intM v13 i j):=fun i hi j hj=>by
 obtain rfl:i=0:=by omega
 have:j=0∨j=1∨j=2:=by omega
 rcases this with rfl|rfl|rfl<;>exact Bd.mono (k:=4) (by unfold Bd;decide+kernel) (by decide)
theorem nm_sl:slE 2 (fun _=>2) (rawM (intM (m22 1 2 3 4))) 1 (rawR (fun _=>1))=10:=by
 unfold slE
 rw[if_pos (matE_ok (by decide) (by decide) (by decide) (by decide) nm_bd1),if_pos (listE_okR (fun j hj=>Bd.mono (k:=4) (by unfold Bd;decide+kernel) (by decide))),if_neg (by decide)]
theorem nm_rep (k x:Nat):List.replicate k x++[x]=List.replicate (k+1) x:=by
 rw[List.replicate_succ']
theorem nm_u32 (k:Nat):u32s (List.replicate (k+1) 4294967295)=u32s (List.replicate k 4294967295)++[.int .u32 4294967295]:=by
 rw[←nm_rep]
 unfold u32s
 rw[List.map_append]
 rfl
theorem G.noI {w0:World}{X:List Nat}{M:List Blk}{I:List Frag}(g:G w0 X M I):∃g':G w0 X M [],g.w=g'.w:=⟨⟨g.w,g.chg,g.own,g.may,g.dist,by simp,by simp⟩,rfl⟩
theorem G.limM {w0:World}{X:List Nat}{M:List Blk}{I:List Frag}{b:Nat}{T:TypeId}{cs:List Value}(g:G w0 X M I)(hm:(b,T,cs)∈M)(l:List Nat)(n:Nat)(h:cs=u32s l)(hn:l.length=n)(h2:n≤1000)(ok:Ok l):SlW g.w (some ⟨b,0,none⟩) n l:=by
 subst h
 exact(sl_blk (Nat.le_of_eq hn) (by omega) ok).at (blkF_sub (g.own _ hm))
/-- the greatest number in memory -/
theorem great_rt {w0:World}{X:List Nat}{M:List Blk}{I:List Frag}{b bd cap:Nat}{T T2:TypeId}{cs:List Value}(g:G w0 X M I)(h1:(b,T,cs)∈M)(hrow:Row T 1 256 (u32s (List.replicate 256 4294967295)) cap cs)(h2:(bd,T2,[.int .u32 1])∈M):RtW g.w (.bool false) (.slice (some ⟨b,0,none⟩) 256 cap) (.slice (some ⟨bd,0,none⟩) 1 1) tG:=
 ⟨rfl,⟨some ⟨b,0,none⟩,cap,by show _=Value.slice _ (List.replicate 256 4294967295).length cap;rw[List.length_replicate],(sl_row hrow (List.length_replicate ..) (by decide) (fun x hx=>by rw[List.eq_of_mem_replicate hx];decide)).at (blkF_sub (g.own _ h1))⟩,some ⟨bd,0,none⟩,1,rfl,G.limM g h2 [1] 1 rfl rfl (by decide) (fun x hx=>by rw[List.mem_singleton.1 hx];decide)⟩
/-- a matrix of one number, written out -/
theorem one_mt {w0:World}{X:List Nat}{M:List Blk}{I:List Frag}{m r:Nat}{T T2:TypeId}{p q s:Value}{t:Raw}(g:G w0 X M I)(h1:(m,T,[.slice (some ⟨r,0,none⟩) 1 1])∈M)(h2:(r,T2,[p,q,s])∈M)(h:RtW g.w p q s t):(heapOf g.w).Mt (some ⟨m,0,none⟩) 1 1 (fun _=>1) (fun _ _=>t):=
 mtM g h1 (by decide) (fun i hi=>by
  obtain rfl:i=0:=by omega
  exact⟨_,_,rfl,rwM g [(p,q,s)] h2 (tris1 (x:=fun _=>t) h) (by decide)⟩)
theorem great_add {w0:World}{I:List Frag}{mA mB rA rB gb b bd cap:Nat}{cs:List Value}(hT:Tab w0)(g:G w0 [] [(mB,38,[.slice (some ⟨rB,0,none⟩) 1 1]),(rB,43,[.bool false,.slice (some ⟨b,0,none⟩) 256 cap,.slice (some ⟨bd,0,none⟩) 1 1]),(mA,38,[.slice (some ⟨rA,0,none⟩) 1 1]),(rA,43,[.bool false,.slice (some ⟨b,0,none⟩) 256 cap,.slice (some ⟨bd,0,none⟩) 1 1]),(b,73,cs),(gb,43,[.bool false,.slice (some ⟨b,0,none⟩) 256 cap,.slice (some ⟨bd,0,none⟩) 1 1]),(bd,73,[.int .u32 1])] I)(hrow:Row 73 1 256 (u32s (List.replicate 256 4294967295)) cap cs):
  Calls Tryz.prog 14 #[.slice (some ⟨mA,0,none⟩) 1 1,.slice (some ⟨mB,0,none⟩) 1 1] g.w (RErr 5 g.w):=by
 have hrt:=great_rt g (b:=b) (bd:=bd) (T:=73) (T2:=73) (cs:=cs) (.tail _ (.tail _ (.tail _ (.tail _ (.head _))))) hrow (.tail _ (.tail _ (.tail _ (.tail _ (.tail _ (.tail _ (.head _)))))))
 exact Add_over _ _ _ _ _ (one_mt g (.tail _ (.tail _ (.head _))) (.tail _ (.tail _ (.tail _ (.head _)))) hrt) (one_mt g (.head _) (.tail _ (.head _)) hrt) (G.tab g hT)
theorem nm_one {x:Nat}(h:x<4294967296)(h0:x≠0):chk [x]=0:=by
 rw[←lim1 h h0]
 exact chk_limbs (Nat.lt_of_lt_of_le (show x<2^32 by omega) (Nat.pow_le_pow_right (by decide) (by decide)))
theorem nm_c24:matE 1 (fun _=>1) (fun _ _=>((false,[2],[4]):Raw))=3:=by
 have e:rchk false [2] [4]=3:=by
  unfold rchk
  rw[nm_one (by decide) (by decide),nm_one (by decide) (by decide),show val [2]=2 from by decide,show val [4]=4 from by decide]
  decide+kernel
 unfold matE
 rw[if_pos (by decide)]
 show(if(0:Int)=0 then rowE (fun _=>1) (fun _ _=>((false,[2],[4]):Raw)) 0 else 0)=3
 rw[if_pos rfl]
 unfold rowE
 rw[if_pos rfl]
 show(if(0:Int)=0 then numE ((false,[2],[4]):Raw) else 0)=3
 rw[if_pos rfl]
 exact e
theorem nm_c00:matE 1 (fun _=>1) (fun _ _=>((false,[],[]):Raw))=6:=by
 have e:rchk false [] []=6:=by
  unfold rchk
  decide+kernel
 unfold matE
 rw[if_pos (by decide)]
 show(if(0:Int)=0 then rowE (fun _=>1) (fun _ _=>((false,[],[]):Raw)) 0 else 0)=6
 rw[if_pos rfl]
 unfold rowE
 rw[if_pos rfl]
 show(if(0:Int)=0 then numE ((false,[],[]):Raw) else 0)=6
 rw[if_pos rfl]
 exact e
def x21:Nat→Nat→Raw:=fun i j=>if i=0 then rawR (v2 1 2) j else rawR (fun _=>3) j
theorem nm_c21:matE 2 m21 x21=3:=by
 have hl:listE (x21 0) 2=0:=listE_ok fun j hj=>by
  have:j=0∨j=1:=by omega
  rcases this with rfl|rfl
  ·exact numE_ok (z:=1) (Bd.mono (k:=4) (by unfold Bd;decide+kernel) (by decide))
  ·exact numE_ok (z:=2) (Bd.mono (k:=4) (by unfold Bd;decide+kernel) (by decide))
 have h0:rowE m21 x21 0=0:=by
  unfold rowE
  rw[if_pos rfl]
  exact hl
 have h1:rowE m21 x21 1=3:=by
  unfold rowE
  rw[if_neg (by decide)]
 have r1:rowsE m21 x21 1=0:=by
  show(if(0:Int)=0 then rowE m21 x21 0 else 0)=0
  rw[if_pos rfl,h0]
 unfold matE
 rw[if_pos (by decide)]
 show(if rowsE m21 x21 1=0 then rowE m21 x21 1 else rowsE m21 x21 1)=3
 rw[r1,if_pos rfl,h1]
theorem nm_c0 (m:Nat→Nat)(x:Nat→Nat→Raw):matE 0 m x=2:=by
 have h:shpE 0 (m 0)=2:=if_pos (.inl (by decide))
 unfold matE
 rw[h,if_neg (by decide)]
theorem lbad5_x (A:Option Addr)(n c:Nat)(e:Int)(w:World):Calls Tryz.prog 30 #[.slice A n c,.int .i64 e,.int .i64 e] w fun r w'=>r=.returned (.bool (decide (n=0)))∧Below w.heap.size w w':=by
 refine calls_b fun g=>?_
 by_cases h:n=0
 ·subst h
  go_enter Tryz.func30,Tryz.ntmps30
  go_wp2_with (with_reducible refine yq _ ?_;(try generalize (G.w _).heap.size=bk);(try dsimp only[yi,yj]);(try clear g);intro g)
  go_ret
  exact⟨rfl,G.below _⟩
 ·have hni:((n:Int)==0)=false:=by rw[beq_eq_false_iff_ne];omega
  rw[decide_eq_false h]
  go_enter Tryz.func30,Tryz.ntmps30
  go_wp2_with (with_reducible refine yq _ ?_;(try generalize (G.w _).heap.size=bk);(try dsimp only[yi,yj]);(try clear g);intro g)
  go_ret
  exact⟨rfl,G.below _⟩
set_option maxRecDepth 100000 in
set_option maxHeartbeats 16000000 in
theorem names_walk (W:World)(hT:Tab W):
  Calls Tryz.prog 9 #[] W fun e w'=>e=.returned (.bool true)∧Below W.heap.size W w':=by
 refine calls_b fun g=>?_
 have HT:=Lib.hid hT
 have CLV:=Lib.hid (fun w h=>lives5_x w h)
 clear hT
 have CI:=Lib.hid (fun v A c w h=>lints5_r 2 2 v A c w h (by decide) (by decide) (by decide) (by decide))
 unfold RMt at CI
 have ba:∀i,i<2→∀j,j<2→Bd 4 (intM (m22 1 2 3 4) i j):=bd22a
 have bb:∀i,i<2→∀j,j<2→Bd 4 (intM (m22 2 1 1 2) i j):=bd22b
 have bf:∀i,i<2→∀j,j<2→Bd 4 (intM (m22 1 2 2 4) i j):=bd22 (by unfold Bd;decide+kernel)
 have bn:∀i,i<2→∀j,j<2→Bd 4 (intM (m22 1 2 2 1) i j):=bd22 (by unfold Bd;decide+kernel)
 have bv:∀i,i<2→Bd 4 (v2 5 6 i):=fun i hi=>by
  have:i=0∨i=1:=by omega
  rcases this with rfl|rfl<;>(unfold Bd;decide+kernel)
 have bw:∀i,i<2→Bd 4 (v2 1 (-1) i):=fun i hi=>by
  have:i=0∨i=1:=by omega
  rcases this with rfl|rfl<;>(unfold Bd;decide+kernel)
 have CA:=Lib.hid (fun A B c cB w hA hB hT=>Add_r 2 2 (intM (m22 1 2 3 4)) (intM (m22 2 1 1 2)) A B c cB w hA hB hT (by decide) (by decide) (by decide) (by decide) (fun i hi j hj=>(ba i hi j hj).mono (by decide)) (fun i hi j hj=>(bb i hi j hj).mono (by decide)) (fun i hi j hj=>((Bd.qn (ba i hi j hj)).add (Bd.qn (bb i hi j hj))).bd' (by decide) (by decide)))
 unfold RMtE at CA
 have CU:=Lib.hid (fun A c w hA hT=>Turn_r 2 2 (intM (m22 1 2 3 4)) A c w hA hT (by decide) (by decide) (by decide) (by decide) (fun i hi j hj=>(ba i hi j hj).mono (by decide)))
 unfold RMtE at CU
 have CSO:=Lib.hid (fun F0 A B c d w hF hA hB hT=>Solve_r F0 2 (intM (m22 1 2 3 4)) (v2 5 6) A B c d w hF hA hB hT (by decide) (by decide) (fun i hi j hj=>(ba i hi j hj).mono (by decide)) (fun i hi=>(bv i hi).mono (by decide)) (fineAll_of (wide_bd ba (fun i hi j _=>bv i hi)) (b:=12) (by decide) (by decide) (by decide)))
 rw[live_rank] at CSO
 have CR1:=Lib.hid (fun F0 A c w hF hA hT=>Rank_r F0 2 2 (intM (m22 1 2 3 4)) A c w hF hA hT (by decide) (by decide) (by decide) (by decide) (fun i hi j hj=>(ba i hi j hj).mono (by decide)) (fineAll_of ba (b:=8) (by decide) (by decide) (by decide)))
 rw[live_rank] at CR1
 have CR2:=Lib.hid (fun F0 A c w hF hA hT=>Rank_r F0 2 2 (intM (m22 1 2 2 4)) A c w hF hA hT (by decide) (by decide) (by decide) (by decide) (fun i hi j hj=>(bf i hi j hj).mono (by decide)) (fineAll_of bf (b:=8) (by decide) (by decide) (by decide)))
 rw[nm_flat] at CR2
 have CV:=Lib.hid (fun F0 A c w hF hA hT=>Inv_r F0 2 (intM (m22 1 2 2 4)) A c w hF hA hT (by decide) (by decide) (fun i hi j hj=>(bf i hi j hj).mono (by decide)) (fineAll_of (wide_bd bf (fun i _ j _=>one_bd (by decide) i j)) (b:=16) (by decide) (by decide) (by decide)))
 unfold RBeh at CV
 rw[nm_flat] at CV
 have CS:=Lib.hid (fun x A B c d w hA hB=>lis5_x 2 (fun _=>2) x A B c d w hA hB (by decide) (fun _ _=>by decide))
 have CSL:=Lib.hid (fun x A B c d w hA hB=>samelist_x 2 x A B c d w hA hB (by decide))
 have CBA:=Lib.hid (fun A c e w=>lbad5_x A 0 c e w)
 have CN:=Lib.hid (fun p q r w h=>lnum5_x 2 1 2 (by decide) (by decide+kernel) (by decide) (by decide) (by decide) (by decide) p q r w h)
 have CO:=Lib.hid (fun(a b:Int) (z:Rat) (hb:b≠0) (e:frac (decide (a<0) !=decide (b<0)) a.natAbs b.natAbs=z) (h1:I64 a) (h2:I64 b) w=>lof5_r a b z hb e h1.1 h1.2 h2.1 h2.2 w)
 unfold RT1 at CO
 have bS:∀ {a b c d:Int},(∀i,i<2→∀j,j<2→Bd 4 (intM (m22 a b c d) i j))→∀i,i<2→∀j,j<2→Bd 64 (intM (m22 a b c d) i j):=fun h i hi j hj=>(h i hi j hj).mono (by decide)
 have CD1:=Lib.hid (fun A c w hA hT=>(Definite_a 2 (intM (m22 1 2 3 4)) A c w hA hT (by decide) (by decide) (bS ba)).mono fun _ _ h=>nm_fix (d0:=false) ⟨fun h=>absurd h (by decide),fun h=>absurd h nm_no1⟩ h)
 have CD2:=Lib.hid (fun A c w hA hT=>(Definite_a 2 (intM (m22 2 1 1 2)) A c w hA hT (by decide) (by decide) (bS bb)).mono fun _ _ h=>nm_fix (d0:=true) ⟨fun _=>nm_yes,fun _=>rfl⟩ h)
 have CD3:=Lib.hid (fun A c w hA hT=>(Definite_a 2 (intM (m22 1 2 2 1)) A c w hA hT (by decide) (by decide) (bS bn)).mono fun _ _ h=>nm_fix (d0:=false) ⟨fun h=>absurd h (by decide),fun h=>absurd h nm_no2⟩ h)
 unfold RErrB at CD1 CD2 CD3
 have CF1:=Lib.hid (fun A c w hA hT=>(Factor_a 2 (intM (m22 2 1 1 2)) A c w hA hT (by decide) (by decide) (bS bb)).mono fun e w' h=>nm_fac nm_yes h)
 have CF2:=Lib.hid (fun A c w hA hT=>(Factor_a 2 (intM (m22 1 2 3 4)) A c w hA hT (by decide) (by decide) (bS ba)).mono fun e w' h=>nm_nof nm_no1 h)
 unfold RErrF at CF2
 have CQ:=Lib.hid (fun A B c cB w hA hB hT=>Quad_r 2 (intM (m22 2 1 1 2)) (v2 1 (-1)) A B c cB w hA hB hT (by decide) (by decide) (quad_fine64 (by decide) (bS bb) (fun i hi=>(bw i hi).mono (by decide))))
 rw[nm_quad] at CQ
 unfold RT at CQ
 clear ba bb bf bn bv bw bS
 have CI3:=Lib.hid (fun A c w h=>lints5_r 1 3 v13 A c w h (by decide) (by decide) (by decide) (by decide))
 unfold RMt at CI3
 have CMT:=Lib.hid (fun A B c c' w hA hB hT=>Mul_t 2 1 (fun _=>2) (fun _=>3) (rawM (intM (m22 1 2 3 4))) (rawM (intM v13)) A B c c' w hA hB hT (matE_ok (by decide) (by decide) (by decide) (by decide) nm_bd1) (matE_ok (by decide) (by decide) (by decide) (by decide) nm_bd3) (by decide))
 unfold RErr at CMT
 have CSE:=Lib.hid (fun A B c d w hA hB hT=>Solve_e 2 1 (fun _=>2) (rawM (intM (m22 1 2 3 4))) (rawR (fun _=>1)) A B c d 10 w hA hB hT nm_sl (by decide))
 unfold RErr at CSE
 have CO0:=Lib.hid (fun w=>One_bad 0 (.inl (by decide)) w)
 have CO25:=Lib.hid (fun w=>One_bad 25 (.inr (by decide)) w)
 have CO24:=Lib.hid (fun w hT=>One_r 24 (by decide) (by decide) w hT)
 rw[show((24:Nat):Int)=24 from rfl] at CO24
 have CIE:=Lib.hid (fun A c w hA hT=>(Ints_any 2 m21 v21 A c w hA hT (by decide) (by decide) (by decide) (by decide)).mono fun _ _ h=>nm_ints h)
 unfold RErr at CIE
 have CK0:=Lib.hid (fun w hT=>mCheck_any none 0 0 (fun _=>0) (fun _ _=>tG) w (Frag.Mt.nil _ _ _ _) hT)
 rw[nm_c0] at CK0
 have CK1:=Lib.hid (fun A c w h hT=>mCheck_any A c 2 m21 x21 w h hT)
 rw[nm_c21] at CK1
 have CK2:=Lib.hid (fun A c w h hT=>mCheck_any A c 1 (fun _=>1) (fun _ _=>((false,[2],[4]):Raw)) w h hT)
 rw[nm_c24] at CK2
 have CK3:=Lib.hid (fun A c w h hT=>mCheck_any A c 1 (fun _=>1) (fun _ _=>((false,[],[]):Raw)) w h hT)
 rw[nm_c00] at CK3
 go_enter Tryz.func9,Tryz.ntmps9
 go_wp2_with (with_reducible refine yq _ ?_;(try generalize (G.w _).heap.size=bk);(try dsimp only[yi,yj]);(try clear g);intro g)
 refine(CLV.out _ (G.tab g HT.out)).mono ?_
 rintro e w1 ⟨rfl,hb⟩
 obtain⟨g1,rfl⟩:=G.call_ex _ hb
 clear hb
 (try clear g)
 revert g1
 intro g
 clear CLV
 go_wp2_with (with_reducible refine yq _ ?_;(try generalize (G.w _).heap.size=bk);(try dsimp only[yi,yj]);(try clear g);intro g)
 refine(CI.out (m22 1 2 3 4) _ _ _ (im22 g 1 2 3 4 (.head _) (.tail _ (.tail _ (.head _))) (.tail _ (.head _)) (by decide) (by decide) (by decide) (by decide))).mono ?_
 rintro e w1 ⟨ba,ca,Fa,rfl,ha,hn⟩
 have hnna:=fun k o hk=>Nat.le_trans g.chg.size (hn.new k o hk)
 obtain⟨g1,rfl⟩:=G.new_ex _ hn
 clear hn
 (try clear g)
 revert g1
 intro g
 go_wp2_with (with_reducible refine yq _ ?_;(try generalize (G.w _).heap.size=bk);(try dsimp only[yi,yj]);(try clear g);intro g)
 refine(CI.out (m22 2 1 1 2) _ _ _ (im22 g 2 1 1 2 (.head _) (.tail _ (.tail _ (.head _))) (.tail _ (.head _)) (by decide) (by decide) (by decide) (by decide))).mono ?_
 rintro e w1 ⟨bb,cb,Fb,rfl,hb,hn⟩
 have hnnb:=fun k o hk=>Nat.le_trans g.chg.size (hn.new k o hk)
 obtain⟨g1,rfl⟩:=G.new_ex _ hn
 clear hn
 (try clear g)
 revert g1
 intro g
 obtain⟨g2,hg2⟩:=G.less g (M':=[]) (List.nil_sublist _)
 rw[hg2]
 clear hg2
 (try clear g)
 revert g2
 intro g
 go_wp2_with (with_reducible refine yq _ ?_;(try generalize (G.w _).heap.size=bk);(try dsimp only[yi,yj]);(try clear g);intro g)
 refine(CI.out (m22 1 2 2 4) _ _ _ (im22 g 1 2 2 4 (.head _) (.tail _ (.tail _ (.head _))) (.tail _ (.head _)) (by decide) (by decide) (by decide) (by decide))).mono ?_
 rintro e w1 ⟨bf,cf,Ff,rfl,hf,hn⟩
 have hnnf:=fun k o hk=>Nat.le_trans g.chg.size (hn.new k o hk)
 obtain⟨g1,rfl⟩:=G.new_ex _ hn
 clear hn
 (try clear g)
 revert g1
 intro g
 obtain⟨g2,hg2⟩:=G.less g (M':=[]) (List.nil_sublist _)
 rw[hg2]
 clear hg2
 (try clear g)
 revert g2
 intro g
 go_wp2_with (with_reducible refine yq _ ?_;(try generalize (G.w _).heap.size=bk);(try dsimp only[yi,yj]);(try clear g);intro g)
 refine(CA.out _ _ _ _ _ (ha.mono (g.sub _ (by simp))) (hb.mono (g.sub _ (by simp))) (G.tab g HT.out)).mono ?_
 rintro e w1 ⟨bs,cs,Fs,rfl,hs,hn⟩
 have hnns:=fun k o hk=>Nat.le_trans g.chg.size (hn.new k o hk)
 obtain⟨g1,rfl⟩:=G.new_ex _ hn
 clear hn
 (try clear g)
 revert g1
 intro g
 go_wp2_with (with_reducible refine yq _ ?_;(try generalize (G.w _).heap.size=bk);(try dsimp only[yi,yj]);(try clear g);intro g)
 refine(CU.out _ _ _ (ha.mono (g.sub _ (by simp))) (G.tab g HT.out)).mono ?_
 rintro e w1 ⟨bu,cu,Fu,rfl,hu,hn⟩
 have hnnu:=fun k o hk=>Nat.le_trans g.chg.size (hn.new k o hk)
 obtain⟨g1,rfl⟩:=G.new_ex _ hn
 clear hn
 (try clear g)
 revert g1
 intro g
 clear CA CU
 go_wp2_with (with_reducible refine yq _ ?_;(try generalize (G.w _).heap.size=bk);(try dsimp only[yi,yj]);(try clear g);intro g)
 refine(CO.out (5) 1 (5) (by decide) (by decide+kernel) (by decide) (by decide) _).mono ?_
 rintro e w1 ⟨po5,qo5,ro5,Fo5,rfl,ho5,hn⟩
 have hnno5:=fun k o hk=>Nat.le_trans g.chg.size (hn.new k o hk)
 obtain⟨so5,Ao5,no5,co5,Bo5,do5,ko5,rfl,rfl,rfl⟩:=ho5.shape
 obtain⟨g1,rfl⟩:=G.new_ex _ hn
 clear hn
 (try clear g)
 revert g1
 intro g
 go_wp2_with (with_reducible refine yq _ ?_;(try generalize (G.w _).heap.size=bk);(try dsimp only[yi,yj]);(try clear g);intro g)
 refine(CO.out (6) 1 (6) (by decide) (by decide+kernel) (by decide) (by decide) _).mono ?_
 rintro e w1 ⟨po6,qo6,ro6,Fo6,rfl,ho6,hn⟩
 have hnno6:=fun k o hk=>Nat.le_trans g.chg.size (hn.new k o hk)
 obtain⟨so6,Ao6,no6,co6,Bo6,do6,ko6,rfl,rfl,rfl⟩:=ho6.shape
 obtain⟨g1,rfl⟩:=G.new_ex _ hn
 clear hn
 (try clear g)
 revert g1
 intro g
 go_wp2_with (with_reducible refine yq _ ?_;(try generalize (G.w _).heap.size=bk);(try dsimp only[yi,yj]);(try clear g);intro g)
 have hl5:(heapOf g.w).Rw (some ⟨bk,0,none⟩) 2 2 (rawR (v2 5 6)):=rwM g _ (.head _) (tris2 (x:=rawR (v2 5 6)) (G.rtI g (by simp) ho5) (G.rtI g (by simp) ho6)) (by decide)
 obtain⟨F1,g1,e1,hle,hF1⟩:=G.seal g
 have hl:F1.Rw (some ⟨bk,0,none⟩) 2 2 (rawR (v2 5 6)):=by rw[hF1];exact hl5
 replace ha:=ha.mono (hle Fa (by simp))
 replace hb:=hb.mono (hle Fb (by simp))
 replace hf:=hf.mono (hle Ff (by simp))
 replace hs:=hs.mono (hle Fs (by simp))
 replace hu:=hu.mono (hle Fu (by simp))
 rw[e1]
 clear e1 hle hF1 hl5 ho5 ho6 hnno5 hnno6 hnna hnnb hnnf hnns hnnu g
 revert g1
 intro g
 refine(CSO.out F1 _ _ _ _ _ (g.sub _ (by simp)) ha hl (G.tab g HT.out)).mono ?_
 rintro e w1 (⟨hr,_⟩|⟨_,bq,kq,Fq,rfl,hq,hno⟩)
 ·exact absurd hr (by decide)
 obtain⟨g1,rfl,hox⟩:=G.nor_ex g (F:=F1) (by simp) hno
 clear hno hox g hl CSO
 revert g1
 intro g
 replace hq:=hq.congr (fun i hi=>congrArg rawOf (nm_sol i hi))
 replace hs:=hs.congr (fun _ _=>rfl) (fun i hi j hj=>congrArg rawOf (nm_add i hi j hj))
 replace hu:=hu.congr (fun _ _=>rfl) (fun i hi j hj=>congrArg rawOf (nm_turn i hi j hj))
 go_wp2_with (with_reducible refine yq _ ?_;(try generalize (G.w _).heap.size=bk);(try dsimp only[yi,yj]);(try clear g);intro g)
 refine(CR1.out F1 _ _ _ (g.sub _ (by simp)) ha (G.tab g HT.out)).mono ?_
 rintro e w1 ⟨rfl,hb⟩
 obtain⟨g1,rfl⟩:=G.call_ex _ hb
 clear hb
 (try clear g)
 revert g1
 intro g
 go_wp2_with (with_reducible refine yq _ ?_;(try generalize (G.w _).heap.size=bk);(try dsimp only[yi,yj]);(try clear g);intro g)
 refine(CR2.out F1 _ _ _ (g.sub _ (by simp)) hf (G.tab g HT.out)).mono ?_
 rintro e w1 ⟨rfl,hb⟩
 obtain⟨g1,rfl⟩:=G.call_ex _ hb
 clear hb
 (try clear g)
 revert g1
 intro g
 go_wp2_with (with_reducible refine yq _ ?_;(try generalize (G.w _).heap.size=bk);(try dsimp only[yi,yj]);(try clear g);intro g)
 refine(CV.out F1 _ _ _ (g.sub _ (by simp)) hf (G.tab g HT.out)).mono ?_
 rintro e w1 (⟨_,rfl,hbl⟩|⟨hr,_⟩)
 rotate_left
 ·exact absurd hr (by decide)
 obtain⟨g1,rfl⟩:=G.call_ex _ hbl
 clear hbl g CV CR1 CR2 hf
 revert g1
 intro g
 (as_aux_lemma=>
  go_wp2_with (with_reducible refine yq _ ?_;(try generalize (G.w _).heap.size=bk);(try dsimp only[yi,yj]);(try clear g);intro g)
  refine(CI.out (m22 3 3 4 6) _ _ _ (im22 g 3 3 4 6 (.head _) (.tail _ (.tail _ (.head _))) (.tail _ (.head _)) (by decide) (by decide) (by decide) (by decide))).mono ?_
  rintro e w1 ⟨b1,c1,F1,rfl,h1,hn⟩
  have hnn1:=fun k o hk=>Nat.le_trans g.chg.size (hn.new k o hk)
  obtain⟨g1,rfl⟩:=G.new_ex _ hn
  clear hn
  (try clear g)
  revert g1
  intro g
  go_wp2_with (with_reducible refine yq _ ?_;(try generalize (G.w _).heap.size=bk);(try dsimp only[yi,yj]);(try clear g);intro g)
  refine(CS.out _ _ _ _ _ _ (hs.mono (g.sub _ (by simp))) (h1.mono (g.sub _ (by simp)))).mono ?_
  rintro e w1 ⟨rfl,hb⟩
  obtain⟨g1,rfl⟩:=G.call_ex _ hb
  clear hb
  (try clear g)
  revert g1
  intro g
  obtain⟨g2,hg2⟩:=G.less g (M':=[]) (List.nil_sublist _)
  rw[hg2]
  clear hg2
  (try clear g)
  revert g2
  intro g
  go_wp2_with (with_reducible refine yq _ ?_;(try generalize (G.w _).heap.size=bk);(try dsimp only[yi,yj]);(try clear g);intro g)
  refine(CI.out (m22 1 3 2 4) _ _ _ (im22 g 1 3 2 4 (.head _) (.tail _ (.tail _ (.head _))) (.tail _ (.head _)) (by decide) (by decide) (by decide) (by decide))).mono ?_
  rintro e w1 ⟨b2,c2,F2,rfl,h2,hn⟩
  have hnn2:=fun k o hk=>Nat.le_trans g.chg.size (hn.new k o hk)
  obtain⟨g1,rfl⟩:=G.new_ex _ hn
  clear hn
  (try clear g)
  revert g1
  intro g
  go_wp2_with (with_reducible refine yq _ ?_;(try generalize (G.w _).heap.size=bk);(try dsimp only[yi,yj]);(try clear g);intro g)
  refine(CS.out _ _ _ _ _ _ (hu.mono (g.sub _ (by simp))) (h2.mono (g.sub _ (by simp)))).mono ?_
  rintro e w1 ⟨rfl,hb⟩
  obtain⟨g1,rfl⟩:=G.call_ex _ hb
  clear hb
  (try clear g)
  revert g1
  intro g
  obtain⟨g2,hg2⟩:=G.less g (M':=[]) (List.nil_sublist _)
  rw[hg2]
  clear hg2
  (try clear g)
  revert g2
  intro g
  go_wp2_with (with_reducible refine yq _ ?_;(try generalize (G.w _).heap.size=bk);(try dsimp only[yi,yj]);(try clear g);intro g)
  refine(CO.out (-4) 1 (-4) (by decide) (by decide+kernel) (by decide) (by decide) _).mono ?_
  rintro e w1 ⟨po7,qo7,ro7,Fo7,rfl,ho7,hn⟩
  have hnno7:=fun k o hk=>Nat.le_trans g.chg.size (hn.new k o hk)
  obtain⟨so7,Ao7,no7,co7,Bo7,do7,ko7,rfl,rfl,rfl⟩:=ho7.shape
  obtain⟨g1,rfl⟩:=G.new_ex _ hn
  clear hn
  (try clear g)
  revert g1
  intro g
  go_wp2_with (with_reducible refine yq _ ?_;(try generalize (G.w _).heap.size=bk);(try dsimp only[yi,yj]);(try clear g);intro g)
  refine(CO.out (9) 2 (9/2) (by decide) (by decide+kernel) (by decide) (by decide) _).mono ?_
  rintro e w1 ⟨po8,qo8,ro8,Fo8,rfl,ho8,hn⟩
  have hnno8:=fun k o hk=>Nat.le_trans g.chg.size (hn.new k o hk)
  obtain⟨so8,Ao8,no8,co8,Bo8,do8,ko8,rfl,rfl,rfl⟩:=ho8.shape
  obtain⟨g1,rfl⟩:=G.new_ex _ hn
  clear hn
  (try clear g)
  revert g1
  intro g
  go_wp2_with (first|(with_reducible refine yq _ ?_;(try generalize (G.w _).heap.size=bk);(try dsimp only[yi,yj]);(try clear g);intro g)|(refine bslice2 (by rfl) _ _ (by rfl) (by rfl) (by rfl) g ?_;(try clear g);intro b2 g))
  have hl2:(heapOf g.w).Rw (some ⟨b2,0,none⟩) 2 2 (rawR (v2 (-4) (9/2))):=rwM g _ (.head _) (tris2 (x:=rawR (v2 (-4) (9/2))) (G.rtI g (by simp) ho7) (G.rtI g (by simp) ho8)) (by decide)
  refine(CSL.out _ _ _ _ _ _ (G.rwI g (by simp) hq) hl2).mono ?_
  rintro e w1 ⟨rfl,hb⟩
  obtain⟨g1,rfl⟩:=G.call_ex _ hb
  clear hb
  (try clear g)
  revert g1
  intro g
  go_wp2_with (with_reducible refine yq _ ?_;(try generalize (G.w _).heap.size=bk);(try dsimp only[yi,yj]);(try clear g);intro g)
  refine(CBA.out _ _ _ _).mono ?_
  rintro e w1 ⟨rfl,hb⟩
  obtain⟨g1,rfl⟩:=G.call_ex _ hb
  clear hb
  (try clear g)
  revert g1
  intro g
  clear h1 h2 ho7 ho8 hl2 hnn1 hnn2 hnno7 hnno8 hs hu hq CBA
  obtain⟨g2,hg2⟩:=G.less g (M':=[]) (List.nil_sublist _)
  rw[hg2]
  clear hg2
  (try clear g)
  revert g2
  intro g
  (as_aux_lemma=>
   go_wp2_with (with_reducible refine yq _ ?_;(try generalize (G.w _).heap.size=bk);(try dsimp only[yi,yj]);(try clear g);intro g)
   refine(CD1.out _ _ _ (ha.mono (g.sub _ (by simp))) (G.tab g HT.out)).mono ?_
   rintro e w1 ⟨rfl,hb⟩
   obtain⟨g1,rfl⟩:=G.call_ex _ hb
   clear hb
   (try clear g)
   revert g1
   intro g
   go_wp2_with (with_reducible refine yq _ ?_;(try generalize (G.w _).heap.size=bk);(try dsimp only[yi,yj]);(try clear g);intro g)
   refine(CD2.out _ _ _ (hb.mono (g.sub _ (by simp))) (G.tab g HT.out)).mono ?_
   rintro e w1 ⟨rfl,hb⟩
   obtain⟨g1,rfl⟩:=G.call_ex _ hb
   clear hb
   (try clear g)
   revert g1
   intro g
   go_wp2_with (with_reducible refine yq _ ?_;(try generalize (G.w _).heap.size=bk);(try dsimp only[yi,yj]);(try clear g);intro g)
   refine(CI.out (m22 1 2 2 1) _ _ _ (im22 g 1 2 2 1 (.head _) (.tail _ (.tail _ (.head _))) (.tail _ (.head _)) (by decide) (by decide) (by decide) (by decide))).mono ?_
   rintro e w1 ⟨bn,cn,Fn,rfl,hn,hn⟩
   have hnnn:=fun k o hk=>Nat.le_trans g.chg.size (hn.new k o hk)
   obtain⟨g1,rfl⟩:=G.new_ex _ hn
   clear hn
   (try clear g)
   revert g1
   intro g
   obtain⟨g2,hg2⟩:=G.less g (M':=[]) (List.nil_sublist _)
   rw[hg2]
   clear hg2
   (try clear g)
   revert g2
   intro g
   go_wp2_with (with_reducible refine yq _ ?_;(try generalize (G.w _).heap.size=bk);(try dsimp only[yi,yj]);(try clear g);intro g)
   refine(CD3.out _ _ _ (hn.mono (g.sub _ (by simp))) (G.tab g HT.out)).mono ?_
   rintro e w1 ⟨rfl,hb⟩
   obtain⟨g1,rfl⟩:=G.call_ex _ hb
   clear hb
   (try clear g)
   revert g1
   intro g
   clear CD1 CD2 CD3 hn hnnn
   go_wp2_with (with_reducible refine yq _ ?_;(try generalize (G.w _).heap.size=bk);(try dsimp only[yi,yj]);(try clear g);intro g)
   refine(CF1.out _ _ _ (hb.mono (g.sub _ (by simp))) (G.tab g HT.out)).mono ?_
   rintro e w1 ⟨Al,cl,Bl,kl,Fl,rfl,hl,hd,hnw⟩
   obtain⟨g1,rfl⟩:=G.new_ex _ hnw
   clear hnw g CF1
   revert g1
   intro g
   go_wp2_with (with_reducible refine yq _ ?_;(try generalize (G.w _).heap.size=bk);(try dsimp only[yi,yj]);(try clear g);intro g)
   refine(CO.out (1) 1 (1) (by decide) (by decide+kernel) (by decide) (by decide) _).mono ?_
   rintro e w1 ⟨po9,qo9,ro9,Fo9,rfl,ho9,hn⟩
   have hnno9:=fun k o hk=>Nat.le_trans g.chg.size (hn.new k o hk)
   obtain⟨so9,Ao9,no9,co9,Bo9,do9,ko9,rfl,rfl,rfl⟩:=ho9.shape
   obtain⟨g1,rfl⟩:=G.new_ex _ hn
   clear hn
   (try clear g)
   revert g1
   intro g
   go_wp2_with (with_reducible refine yq _ ?_;(try generalize (G.w _).heap.size=bk);(try dsimp only[yi,yj]);(try clear g);intro g)
   refine(CO.out (-1) 1 (-1) (by decide) (by decide+kernel) (by decide) (by decide) _).mono ?_
   rintro e w1 ⟨poA,qoA,roA,FoA,rfl,hoA,hn⟩
   have hnnoA:=fun k o hk=>Nat.le_trans g.chg.size (hn.new k o hk)
   obtain⟨soA,AoA,noA,coA,BoA,doA,koA,rfl,rfl,rfl⟩:=hoA.shape
   obtain⟨g1,rfl⟩:=G.new_ex _ hn
   clear hn
   (try clear g)
   revert g1
   intro g
   go_wp2_with (first|(with_reducible refine yq _ ?_;(try generalize (G.w _).heap.size=bk);(try dsimp only[yi,yj]);(try clear g);intro g)|(refine bslice2 (by rfl) _ _ (by rfl) (by rfl) (by rfl) g ?_;(try clear g);intro b2 g))
   have hl2:(heapOf g.w).Rw (some ⟨b2,0,none⟩) 2 2 (rawR (v2 1 (-1))):=rwM g _ (.head _) (tris2 (x:=rawR (v2 1 (-1))) (G.rtI g (by simp) ho9) (G.rtI g (by simp) hoA)) (by decide)
   refine(CQ.out _ _ _ _ _ (hb.mono (g.sub _ (by simp))) hl2 (G.tab g HT.out)).mono ?_
   rintro e w1 ⟨pq,qq,rq,Fq,rfl,hq,hn⟩
   have hnnq:=fun k o hk=>Nat.le_trans g.chg.size (hn.new k o hk)
   obtain⟨sq,Aq,nq,cq,Bq,dq,kq,rfl,rfl,rfl⟩:=hq.shape
   obtain⟨g1,rfl⟩:=G.new_ex _ hn
   clear hn
   (try clear g)
   revert g1
   intro g
   clear CQ hl2 ho9 hoA hnno9 hnnoA
   (as_aux_lemma=>
    go_wp2_with (with_reducible refine yq _ ?_;(try generalize (G.w _).heap.size=bk);(try dsimp only[yi,yj]);(try clear g);intro g)
    obtain⟨qb,rfl⟩:∃qb,qb=bk:=⟨_,rfl⟩
    (try(refine cmark _ ?_;(try dsimp only[yi,yj]);(try clear g);intro g))
    obtain⟨g2,hg2⟩:=G.less g (M':=[(qb,43,[.bool sq,.slice Aq nq cq,.slice Bq dq kq])]) (by simp)
    rw[hg2]
    clear hg2 g
    revert g2
    intro g
    refine(CO.out (1) 1 (1) (by decide) (by decide+kernel) (by decide) (by decide) _).mono ?_
    rintro e w1 ⟨poC,qoC,roC,FoC,rfl,hoC,hn⟩
    have hnnoC:=fun k o hk=>Nat.le_trans g.chg.size (hn.new k o hk)
    obtain⟨soC,AoC,noC,coC,BoC,doC,koC,rfl,rfl,rfl⟩:=hoC.shape
    obtain⟨g1,rfl⟩:=G.new_ex _ hn
    clear hn
    (try clear g)
    revert g1
    intro g
    go_wp2_with (with_reducible refine yq _ ?_;(try generalize (G.w _).heap.size=bk);(try dsimp only[yi,yj]);(try clear g);intro g)
    refine(CO.out (0) 1 (0) (by decide) (by decide+kernel) (by decide) (by decide) _).mono ?_
    rintro e w1 ⟨poD,qoD,roD,FoD,rfl,hoD,hn⟩
    have hnnoD:=fun k o hk=>Nat.le_trans g.chg.size (hn.new k o hk)
    obtain⟨soD,AoD,noD,coD,BoD,doD,koD,rfl,rfl,rfl⟩:=hoD.shape
    obtain⟨g1,rfl⟩:=G.new_ex _ hn
    clear hn
    (try clear g)
    revert g1
    intro g
    go_wp2_with (first|(with_reducible refine yq _ ?_;(try generalize (G.w _).heap.size=bk);(try dsimp only[yi,yj]);(try clear g);intro g)|(refine bslice2 (by rfl) _ _ (by rfl) (by rfl) (by rfl) g ?_;(try clear g);intro b2 g))
    refine(CO.out (1) 2 (1/2) (by decide) (by decide+kernel) (by decide) (by decide) _).mono ?_
    rintro e w1 ⟨poE,qoE,roE,FoE,rfl,hoE,hn⟩
    have hnnoE:=fun k o hk=>Nat.le_trans g.chg.size (hn.new k o hk)
    obtain⟨soE,AoE,noE,coE,BoE,doE,koE,rfl,rfl,rfl⟩:=hoE.shape
    obtain⟨g1,rfl⟩:=G.new_ex _ hn
    clear hn
    (try clear g)
    revert g1
    intro g
    go_wp2_with (with_reducible refine yq _ ?_;(try generalize (G.w _).heap.size=bk);(try dsimp only[yi,yj]);(try clear g);intro g)
    refine(CO.out (1) 1 (1) (by decide) (by decide+kernel) (by decide) (by decide) _).mono ?_
    rintro e w1 ⟨poF,qoF,roF,FoF,rfl,hoF,hn⟩
    have hnnoF:=fun k o hk=>Nat.le_trans g.chg.size (hn.new k o hk)
    obtain⟨soF,AoF,noF,coF,BoF,doF,koF,rfl,rfl,rfl⟩:=hoF.shape
    obtain⟨g1,rfl⟩:=G.new_ex _ hn
    clear hn
    (try clear g)
    revert g1
    intro g
    go_wp2_with (first|(with_reducible refine yq _ ?_;(try generalize (G.w _).heap.size=bk);(try dsimp only[yi,yj]);(try clear g);intro g)|(refine bslice2 (by rfl) _ _ (by rfl) (by rfl) (by rfl) g ?_;(try clear g);intro b2 g))
    have hl3:(heapOf g.w).Mt _ _ 2 (fun _=>2) (rawM lowL):=mtM g (.head _) (by decide) (two_cases ⟨_,_,rfl,rwM g _ (.tail _ (.tail _ (.head _))) (tris2 (x:=rawM lowL 0) (G.rtI g (by simp) hoC) (G.rtI g (by simp) hoD)) (by decide)⟩ ⟨_,_,rfl,rwM g _ (.tail _ (.head _)) (tris2 (x:=rawM lowL 1) (G.rtI g (by simp) hoE) (G.rtI g (by simp) hoF)) (by decide)⟩)
    refine(CS.out _ _ _ _ _ _ (hl.mono (g.sub _ (by simp))) hl3).mono ?_
    rintro e w1 ⟨rfl,hb⟩
    obtain⟨g1,rfl⟩:=G.call_ex _ hb
    clear hb
    (try clear g)
    revert g1
    intro g
    clear hl3 hl hoC hoD hoE hoF hnnoC hnnoD hnnoE hnnoF
    obtain⟨g2,hg2⟩:=G.less g (M':=[(qb,43,[.bool sq,.slice Aq nq cq,.slice Bq dq kq])]) (by simp)
    rw[hg2]
    clear hg2 g
    revert g2
    intro g
    go_wp2_with (with_reducible refine yq _ ?_;(try generalize (G.w _).heap.size=bk);(try dsimp only[yi,yj]);(try clear g);intro g)
    refine(CO.out (2) 1 (2) (by decide) (by decide+kernel) (by decide) (by decide) _).mono ?_
    rintro e w1 ⟨poG,qoG,roG,FoG,rfl,hoG,hn⟩
    have hnnoG:=fun k o hk=>Nat.le_trans g.chg.size (hn.new k o hk)
    obtain⟨soG,AoG,noG,coG,BoG,doG,koG,rfl,rfl,rfl⟩:=hoG.shape
    obtain⟨g1,rfl⟩:=G.new_ex _ hn
    clear hn
    (try clear g)
    revert g1
    intro g
    go_wp2_with (with_reducible refine yq _ ?_;(try generalize (G.w _).heap.size=bk);(try dsimp only[yi,yj]);(try clear g);intro g)
    refine(CO.out (3) 2 (3/2) (by decide) (by decide+kernel) (by decide) (by decide) _).mono ?_
    rintro e w1 ⟨poH,qoH,roH,FoH,rfl,hoH,hn⟩
    have hnnoH:=fun k o hk=>Nat.le_trans g.chg.size (hn.new k o hk)
    obtain⟨soH,AoH,noH,coH,BoH,doH,koH,rfl,rfl,rfl⟩:=hoH.shape
    obtain⟨g1,rfl⟩:=G.new_ex _ hn
    clear hn
    (try clear g)
    revert g1
    intro g
    go_wp2_with (first|(with_reducible refine yq _ ?_;(try generalize (G.w _).heap.size=bk);(try dsimp only[yi,yj]);(try clear g);intro g)|(refine bslice2 (by rfl) _ _ (by rfl) (by rfl) (by rfl) g ?_;(try clear g);intro b2 g))
    have hl4:(heapOf g.w).Rw (some ⟨b2,0,none⟩) 2 2 (rawR (v2 2 (3/2))):=rwM g _ (.head _) (tris2 (x:=rawR (v2 2 (3/2))) (G.rtI g (by simp) hoG) (G.rtI g (by simp) hoH)) (by decide)
    refine(CSL.out _ _ _ _ _ _ (G.rwI g (by simp) hd) hl4).mono ?_
    rintro e w1 ⟨rfl,hb⟩
    obtain⟨g1,rfl⟩:=G.call_ex _ hb
    clear hb
    (try clear g)
    revert g1
    intro g
    go_wp2_with (with_reducible refine yq _ ?_;(try generalize (G.w _).heap.size=bk);(try dsimp only[yi,yj]);(try clear g);intro g)
    refine(CN.out _ _ _ _ (G.rtI g (by simp) hq)).mono ?_
    rintro e w1 ⟨rfl,hb⟩
    obtain⟨g1,rfl⟩:=G.call_ex _ hb
    clear hb
    (try clear g)
    revert g1
    intro g
    clear hl4 hd hoG hoH hnnoG hnnoH hq hnnq CN CS CSL
    obtain⟨g2,hg2⟩:=G.less g (M':=[]) (List.nil_sublist _)
    rw[hg2]
    clear hg2
    (try clear g)
    revert g2
    intro g
    (as_aux_lemma=>
     go_wp2_with (with_reducible refine yq _ ?_;(try generalize (G.w _).heap.size=bk);(try dsimp only[yi,yj]);(try clear g);intro g)
     refine(CF2.out _ _ _ (ha.mono (g.sub _ (by simp))) (G.tab g HT.out)).mono ?_
     rintro e w1 ⟨rfl,hb⟩
     obtain⟨g1,rfl⟩:=G.call_ex _ hb
     clear hb
     (try clear g)
     revert g1
     intro g
     clear CF2
     go_wp2_with (with_reducible refine yq _ ?_;(try generalize (G.w _).heap.size=bk);(try dsimp only[yi,yj]);(try clear g);intro g)
     refine(CI3.out _ _ _ (im13 g (.head _) (.tail _ (.head _)))).mono ?_
     rintro e w1 ⟨bk,ck,Fk,rfl,hk,hn⟩
     have hnnk:=fun k o hk=>Nat.le_trans g.chg.size (hn.new k o hk)
     obtain⟨g1,rfl⟩:=G.new_ex _ hn
     clear hn
     (try clear g)
     revert g1
     intro g
     obtain⟨g2,hg2⟩:=G.less g (M':=[]) (List.nil_sublist _)
     rw[hg2]
     clear hg2
     (try clear g)
     revert g2
     intro g
     go_wp2_with (with_reducible refine yq _ ?_;(try generalize (G.w _).heap.size=bk);(try dsimp only[yi,yj]);(try clear g);intro g)
     refine(CMT.out _ _ _ _ _ (ha.mono (g.sub _ (by simp))) (hk.mono (g.sub _ (by simp))) (G.tab g HT.out)).mono ?_
     rintro e w1 ⟨rfl,hb⟩
     obtain⟨g1,rfl⟩:=G.call_ex _ hb
     clear hb
     (try clear g)
     revert g1
     intro g
     clear CMT CI3 hk hnnk
     go_wp2_with (with_reducible refine yq _ ?_;(try generalize (G.w _).heap.size=bk);(try dsimp only[yi,yj]);(try clear g);intro g)
     refine(CO.out (1) 1 (1) (by decide) (by decide+kernel) (by decide) (by decide) _).mono ?_
     rintro e w1 ⟨poJ,qoJ,roJ,FoJ,rfl,hoJ,hn⟩
     have hnnoJ:=fun k o hk=>Nat.le_trans g.chg.size (hn.new k o hk)
     obtain⟨soJ,AoJ,noJ,coJ,BoJ,doJ,koJ,rfl,rfl,rfl⟩:=hoJ.shape
     obtain⟨g1,rfl⟩:=G.new_ex _ hn
     clear hn
     (try clear g)
     revert g1
     intro g
     go_wp2_with (first|(with_reducible refine yq _ ?_;(try generalize (G.w _).heap.size=bk);(try dsimp only[yi,yj]);(try clear g);intro g)|(refine bslice1 (by rfl) _ (by rfl) (by rfl) g ?_;(try clear g);intro b1 g))
     have hl5:(heapOf g.w).Rw (some ⟨b1,0,none⟩) 1 1 (rawR (fun _=>1)):=rwM g _ (.head _) (tris1 (x:=rawR (fun _=>1)) (G.rtI g (by simp) hoJ)) (by decide)
     refine(CSE.out _ _ _ _ _ (ha.mono (g.sub _ (by simp))) hl5 (G.tab g HT.out)).mono ?_
     rintro e w1 ⟨rfl,hb⟩
     obtain⟨g1,rfl⟩:=G.call_ex _ hb
     clear hb
     (try clear g)
     revert g1
     intro g
     clear CSE hl5 hoJ hnnoJ ha hb
     obtain⟨g2,hg2⟩:=G.less g (M':=[]) (List.nil_sublist _)
     rw[hg2]
     clear hg2
     (try clear g)
     revert g2
     intro g
     go_wp2_with (with_reducible refine yq _ ?_;(try generalize (G.w _).heap.size=bk);(try dsimp only[yi,yj]);(try clear g);intro g)
     refine(CO0.out _).mono ?_
     rintro e w1 ⟨rfl,hb⟩
     obtain⟨g1,rfl⟩:=G.call_ex _ hb
     clear hb
     (try clear g)
     revert g1
     intro g
     go_wp2_with (with_reducible refine yq _ ?_;(try generalize (G.w _).heap.size=bk);(try dsimp only[yi,yj]);(try clear g);intro g)
     refine(CO24.out _ (G.tab g HT.out)).mono ?_
     rintro e w1 ⟨b24,c24,F24,rfl,_,hnw⟩
     obtain⟨g1,rfl⟩:=G.call_ex _ hnw.below
     clear hnw g CO24 CO0
     revert g1
     intro g
     go_wp2_with (with_reducible refine yq _ ?_;(try generalize (G.w _).heap.size=bk);(try dsimp only[yi,yj]);(try clear g);intro g)
     refine(CO25.out _).mono ?_
     rintro e w1 ⟨rfl,hb⟩
     obtain⟨g1,rfl⟩:=G.call_ex _ hb
     clear hb
     (try clear g)
     revert g1
     intro g
     clear CO25
     go_wp2_with (with_reducible refine yq _ ?_;(try generalize (G.w _).heap.size=bk);(try dsimp only[yi,yj]);(try clear g);intro g)
     refine(CIE.out _ _ _ (im21 g (.head _) (.tail _ (.tail _ (.head _))) (.tail _ (.head _))) (G.tab g HT.out)).mono ?_
     rintro e w1 ⟨rfl,hb⟩
     obtain⟨g1,rfl⟩:=G.call_ex _ hb
     clear hb
     (try clear g)
     revert g1
     intro g
     clear CIE CI
     obtain⟨g2,hg2⟩:=G.less g (M':=[]) (List.nil_sublist _)
     rw[hg2]
     clear hg2
     (try clear g)
     revert g2
     intro g
     (as_aux_lemma=>
      go_wp2_with (with_reducible refine yq _ ?_;(try generalize (G.w _).heap.size=bk);(try dsimp only[yi,yj]);(try clear g);intro g)
      (refine G.any_mark _ ?_;(try dsimp only[List.set_cons_zero,List.set_cons_succ]);(try clear g);intro g)
      rename_i bd K9 ha9
      obtain⟨g2,hg2⟩:=G.noI g
      rw[hg2]
      clear hg2 g
      revert g2
      intro g
      obtain⟨i0,hi,hzz0,hzz1,hzz2⟩:=info_parts infoU32
      have HR0:Hid (u32s (List.replicate 1 4294967295)=[.int .u32 4294967295]):=Lib.hid rfl
      have HRS:Hid (∀k,u32s (List.replicate (k+1) 4294967295)=u32s (List.replicate k 4294967295)++[.int .u32 4294967295]):=Lib.hid nm_u32
      obtain⟨n,hn⟩:∃n:Nat,n=256:=⟨_,rfl⟩
      have H1:∀u∈ [Value.int .u32 4294967295],u.oneCell'=true:=by intro u hu;rw[List.mem_singleton.1 hu];rfl
      have HN:=Lib.hid hn
      have hn':(256:Int)=(n:Int):=by omega
      have hnb:n≤256:=by omega
      clear hn
      go_loopg [45] n (fun gk s59 wr=>∃k:Nat,k+gk=n∧s59=.int .i64 (k:Int)∧((k=0∧∃g:G W [] [(bk,43,[.bool false,.slice none 0 0,.slice (some ⟨bd,0,none⟩) 1 1]),(bd,73,[.int .u32 1])] [],wr=g.w)∨(0<k∧∃b cap cs,Row 73 1 k (u32s (List.replicate k 4294967295)) cap cs∧W.heap.size≤b∧∃g:G W [] [(b,73,cs),(bk,43,[.bool false,.slice (some ⟨b,0,none⟩) k cap,.slice (some ⟨bd,0,none⟩) 1 1]),(bd,73,[.int .u32 1])] [],wr=g.w)))
      case atStart=>exact⟨0,by omega,rfl,.inl ⟨rfl,g,rfl⟩⟩
      case round=>
       clear g
       obtain⟨kq,rfl⟩:∃kq:Nat,kq=gk:=⟨_,rfl⟩
       obtain⟨k,hkg,rfl,hcase⟩:=hrel
       by_cases hk:k<n
       ·have hki:(k:Int)<256:=by omega
        rcases hcase with⟨rfl,g,rfl⟩|⟨hk0,b,cap,cs,hrow,hb,g,rfl⟩
        ·(as_aux_lemma=>
          go_wp2_with (first|(with_reducible refine yq _ ?_;(try generalize (G.w _).heap.size=bk);(try dsimp only[yi,yj]);(try clear g);intro g)|(at_builtin;refine wpList_append_lit0 rfl _ _ 41 rfl 73 i0 _ 1 4 Tryz.underlying41 hi hzz0 hzz1 hzz2 rfl (by decide) g rfl 1 rfl rfl H1 (by decide) (by decide) (by decide) ?_;clear g;intro b cap cs g hb hrow))
          go_roundg (kq-1)
          case measure=>omega
          case rel=>exact⟨1,by omega,by go_num,.inr ⟨by omega,b,cap,cs,by rw[HR0.out];exact hrow,hb,_,rfl⟩⟩)
        ·have hk0i:(0:Int)≤(k:Int):=by omega
         have H2:k+1≤maxLen:=by show k+1≤9223372036854775807;omega
         have H3:(k+1)*4≤140737488355328:=by omega
         (as_aux_lemma=>
          go_wp2_with (first|(with_reducible refine yq _ ?_;(try generalize (G.w _).heap.size=bk);(try dsimp only[yi,yj]);(try clear g);intro g)|(at_builtin;refine wpList_append_lit rfl _ _ 41 rfl 73 i0 _ 1 4 Tryz.underlying41 hi hzz0 hzz1 hzz2 rfl (by decide) g hrow hb rfl 1 rfl rfl H1 (by decide) H2 H3 ?_;clear hb hrow g;intro b cap cs g hb hrow))
          go_roundg (kq-1)
          case measure=>omega
          case rel=>exact⟨k+1,by omega,by go_num,.inr ⟨by omega,b,cap,cs,by rw[HRS.out];exact hrow,hb,_,rfl⟩⟩)
       ·have hki:¬ ((k:Int)<256):=by omega
        have hkn:k=n:=by omega
        subst hkn
        rcases hcase with⟨h0,g,rfl⟩|⟨hk0,b,cap,cs,hrow,hb,g,rfl⟩
        ·exfalso;have:=HN.out;omega
        ·obtain rfl:k=256:=HN.out
         clear hkg hki hk hn' hnb HN H1 HR0 HRS hi hzz0 hzz1 hzz2 hk0
         go_wp2_with (with_reducible refine yq _ ?_;(try generalize (G.w _).heap.size=bk);(try dsimp only[yi,yj]);(try clear g);intro g)
         (as_aux_lemma=>
          have CG:=great_add HT.out g hrow
          unfold RErr at CG
          refine(CG).mono ?_
          rintro e w1 ⟨rfl,hb⟩
          obtain⟨g1,rfl⟩:=G.call_ex _ hb
          clear hb
          (try clear g)
          revert g1
          intro g
          clear CG hrow hb
          obtain⟨g2,hg2⟩:=G.less g (M':=[]) (List.nil_sublist _)
          rw[hg2]
          clear hg2
          (try clear g)
          revert g2
          intro g
          go_wp2_with (with_reducible refine yq _ ?_;(try generalize (G.w _).heap.size=bk);(try dsimp only[yi,yj]);(try clear g);intro g)
          refine(CK0.out _ (G.tab g HT.out)).mono ?_
          rintro e w1 ⟨rfl,hb⟩
          obtain⟨g1,rfl⟩:=G.call_ex _ hb
          clear hb
          (try clear g)
          revert g1
          intro g
          clear CK0
          go_wp2_with (with_reducible refine yq _ ?_;(try generalize (G.w _).heap.size=bk);(try dsimp only[yi,yj]);(try clear g);intro g)
          refine(CO.out (1) 1 (1) (by decide) (by decide+kernel) (by decide) (by decide) _).mono ?_
          rintro e w1 ⟨poK,qoK,roK,FoK,rfl,hoK,hn⟩
          have hnnoK:=fun k o hk=>Nat.le_trans g.chg.size (hn.new k o hk)
          obtain⟨soK,AoK,noK,coK,BoK,doK,koK,rfl,rfl,rfl⟩:=hoK.shape
          obtain⟨g1,rfl⟩:=G.new_ex _ hn
          clear hn
          (try clear g)
          revert g1
          intro g
          go_wp2_with (with_reducible refine yq _ ?_;(try generalize (G.w _).heap.size=bk);(try dsimp only[yi,yj]);(try clear g);intro g)
          refine(CO.out (2) 1 (2) (by decide) (by decide+kernel) (by decide) (by decide) _).mono ?_
          rintro e w1 ⟨poL,qoL,roL,FoL,rfl,hoL,hn⟩
          have hnnoL:=fun k o hk=>Nat.le_trans g.chg.size (hn.new k o hk)
          obtain⟨soL,AoL,noL,coL,BoL,doL,koL,rfl,rfl,rfl⟩:=hoL.shape
          obtain⟨g1,rfl⟩:=G.new_ex _ hn
          clear hn
          (try clear g)
          revert g1
          intro g
          go_wp2_with (first|(with_reducible refine yq _ ?_;(try generalize (G.w _).heap.size=bk);(try dsimp only[yi,yj]);(try clear g);intro g)|(refine bslice2 (by rfl) _ _ (by rfl) (by rfl) (by rfl) g ?_;(try clear g);intro b2 g))
          refine(CO.out (3) 1 (3) (by decide) (by decide+kernel) (by decide) (by decide) _).mono ?_
          rintro e w1 ⟨poM,qoM,roM,FoM,rfl,hoM,hn⟩
          have hnnoM:=fun k o hk=>Nat.le_trans g.chg.size (hn.new k o hk)
          obtain⟨soM,AoM,noM,coM,BoM,doM,koM,rfl,rfl,rfl⟩:=hoM.shape
          obtain⟨g1,rfl⟩:=G.new_ex _ hn
          clear hn
          (try clear g)
          revert g1
          intro g
          go_wp2_with (first|(with_reducible refine yq _ ?_;(try generalize (G.w _).heap.size=bk);(try dsimp only[yi,yj]);(try clear g);intro g)|(refine bslice1 (by rfl) _ (by rfl) (by rfl) g ?_;(try clear g);intro b1 g))
          have hm2:(heapOf g.w).Mt _ _ 2 m21 x21:=mtM g (.head _) (by decide) (two_cases ⟨_,_,rfl,rwM g _ (.tail _ (.tail _ (.head _))) (tris2 (x:=x21 0) (G.rtI g (by simp) hoK) (G.rtI g (by simp) hoL)) (by decide)⟩ ⟨_,_,rfl,rwM g _ (.tail _ (.head _)) (tris1 (x:=x21 1) (G.rtI g (by simp) hoM)) (by decide)⟩)
          refine(CK1.out _ _ _ hm2 (G.tab g HT.out)).mono ?_
          rintro e w1 ⟨rfl,hb⟩
          obtain⟨g1,rfl⟩:=G.call_ex _ hb
          clear hb
          (try clear g)
          revert g1
          intro g
          clear hm2 hoK hoL hoM hnnoK hnnoL hnnoM CK1
          obtain⟨g2,hg2⟩:=G.less g (M':=[]) (List.nil_sublist _)
          rw[hg2]
          clear hg2
          (try clear g)
          revert g2
          intro g
          go_wp2_with (first|(with_reducible refine yq _ ?_;(try generalize (G.w _).heap.size=bk);(try dsimp only[yi,yj]);(try clear g);intro g)|(refine bslice1 (by rfl) _ (by rfl) (by rfl) g ?_;(try clear g);intro b1 g))
          have hm3:(heapOf g.w).Mt _ _ 1 (fun _=>1) (fun _ _=>((false,[2],[4]):Raw)):=one_mt g (.head _) (.tail _ (.head _)) ⟨rfl,⟨_,_,rfl,G.limM g (.tail _ (.tail _ (.tail _ (.head _)))) [2] 1 rfl rfl (by decide) (fun x hx=>by rw[List.mem_singleton.1 hx];decide)⟩,_,_,rfl,G.limM g (.tail _ (.tail _ (.head _))) [4] 1 rfl rfl (by decide) (fun x hx=>by rw[List.mem_singleton.1 hx];decide)⟩
          refine(CK2.out _ _ _ hm3 (G.tab g HT.out)).mono ?_
          rintro e w1 ⟨rfl,hb⟩
          obtain⟨g1,rfl⟩:=G.call_ex _ hb
          clear hb
          (try clear g)
          revert g1
          intro g
          clear hm3 CK2
          obtain⟨g2,hg2⟩:=G.less g (M':=[]) (List.nil_sublist _)
          rw[hg2]
          clear hg2
          (try clear g)
          revert g2
          intro g
          go_wp2_with (first|(with_reducible refine yq _ ?_;(try generalize (G.w _).heap.size=bk);(try dsimp only[yi,yj]);(try clear g);intro g)|(refine bslice1 (by rfl) _ (by rfl) (by rfl) g ?_;(try clear g);intro b1 g))
          have hm4:(heapOf g.w).Mt _ _ 1 (fun _=>1) (fun _ _=>((false,[],[]):Raw)):=one_mt g (.head _) (.tail _ (.head _)) ⟨rfl,⟨none,0,rfl,Frag.Sl.nil _ _⟩,none,0,rfl,Frag.Sl.nil _ _⟩
          refine(CK3.out _ _ _ hm4 (G.tab g HT.out)).mono ?_
          rintro e w1 ⟨rfl,hb⟩
          obtain⟨g1,rfl⟩:=G.call_ex _ hb
          clear hb
          (try clear g)
          revert g1
          intro g
          clear hm4 CK3
          go_wp2_with (with_reducible refine yq _ ?_;(try generalize (G.w _).heap.size=bk);(try dsimp only[yi,yj]);(try clear g);intro g)
          go_ret
          exact⟨rfl,G.below _⟩))))))
end Go.Proofs.YthhbbnfnejjpiaaGreatDoor
