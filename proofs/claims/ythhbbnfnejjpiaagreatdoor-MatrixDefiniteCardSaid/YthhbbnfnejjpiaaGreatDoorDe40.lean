/- Plain facts and contracts of functions of the program, out of walks. Their conditions stand ahead of each. -/
import Derived.Test.YthhbbnfnejjpiaaGreatDoorDe1
import Derived.Test.YthhbbnfnejjpiaaGreatDoorDe5
import Derived.Test.YthhbbnfnejjpiaaGreatDoorDe26
import Derived.Test.YthhbbnfnejjpiaaGreatDoorDe27
import Derived.Test.YthhbbnfnejjpiaaGreatDoorDe30
import Derived.Test.YthhbbnfnejjpiaaGreatDoorDe31
import Derived.Test.YthhbbnfnejjpiaaGreatDoorDe37
import Derived.Test.YthhbbnfnejjpiaaGreatDoorDe38
import Derived.Test.YthhbbnfnejjpiaaGreatDoorDe39
import Derived.Below
import Derived.BigQuiet
import Derived.Deep.DeepCutAuto
import Derived.Deep.Draws
import Derived.Deep.LoopGhost
import Derived.Deep.QuietTactic
import Derived.Deep.RegionHeld3
import Derived.Deep.RegionLaw
import Derived.Defers
import Derived.Great.BuildSlice
import Derived.Laws.BytesString
import Derived.Laws.Cells
import Derived.Laws.Concat
import Derived.Laws.CopyOwn
import Derived.Laws.CopyRow
import Derived.Laws.NewBlocks
import Derived.Laws.OwnMore
import Derived.Laws.Pointers
import Derived.Laws.Rows
import Derived.Lib.BitFns
import Derived.Lib.Hide
import Derived.Lib.ItoaNum
import Derived.Lib.SliceRun
import Derived.Lib.TrailingZeros
import Derived.LoopIn
import Derived.LoopNIn
import Derived.Maps.AppendAt
import Derived.OrdersHeld
import Derived.OrdersIn
import Derived.OwnWalk
import Derived.OwnWalkIn
import Derived.RangeFuncBound
import Derived.RangeFuncBox
import Derived.RangeFuncCalls
import Derived.RangeFuncLeaves
import Derived.RangeFuncNested
import Derived.RangeFuncWrites
import Derived.RowKit3
import Derived.Shelf.Abstract
import Derived.Shelf.RegionOpen
import Derived.Shelf.Spec.TrailingZeros
import Derived.StillTactics
import Derived.StillTailTactics
import Derived.TacticsInMore
import Derived.Test.YthhbbnfnejjpiaaGreatDoorProg
import Derived.WalkKit
import Derived.WalkLawsBesides
import Derived.WalkMore
import Derived.WalkSpells
set_option linter.unusedVariables false
set_option linter.unusedSimpArgs false
set_option exponentiation.threshold 10000
namespace Go.Proofs.YthhbbnfnejjpiaaGreatDoor
open Go.RowKit GW NL MX
theorem fineAll_of {n mt cols k b:Nat}{x:Mx}(h:∀i,i<n→∀j,j<mt→Bd k (x i j))(hb:k*mt≤b)(hc:cols≤mt)(h9:2*bnd b (n-1)+2≤8192):FineAll n mt cols x:=fine_run (fit_start h hb) rfl hc (rk_lt n (startE x) cols) h9
theorem wide_bd {n k:Nat}{a b:Mx}{m:Nat}(h:∀i,i<n→∀j,j<n→Bd k (a i j))(h':∀i,i<n→∀j,j<m→Bd k (b i j)):∀i,i<n→∀j,j<n+m→Bd k (wideM n a b i j):=fun i hi j hj=>by
 unfold wideM
 split
 ·exact h i hi j ‹_›
 ·exact h' i hi _ (by omega)
theorem one_bd {k:Nat}(hk:1≤k)(i j:Nat):Bd k (oneM i j):=by
 unfold oneM
 split
 ·exact Bd.mono (k:=1) ⟨by decide+kernel,by decide+kernel⟩ hk
 ·exact Bd.mono (k:=1) ⟨by decide+kernel,by decide+kernel⟩ hk
theorem lints5_r (n m:Nat)(v:Nat→Nat→Int)(A:Option Addr)(c:Nat)(w:World)(hA:(heapOf w).Im A c n (fun _=>m) v)(n1:1≤n)(n2:n≤24)(m1:1≤m)(m2:m≤24):
  Calls Tryz.prog 49 #[.slice A n c] w (RMt n (fun _=>m) (rawM (intM v)) w):=by
 refine calls_b fun g=>?_
 have HA:=Lib.hid hA
 have C:=Lib.hid (fun w h=>rInts_r n m v A c w h n1 n2 m1 m2)
 unfold RMtE at C
 unfold RMt
 clear hA n1 n2 m1 m2
 go_enter Tryz.func49,Tryz.ntmps49
 go_wp2_with (with_reducible refine yq _ ?_;(try generalize (G.w _).heap.size=bk);(try dsimp only[yi,yj]);(try clear g);intro g)
 refine(C.out _ (HA.out.mono (g.sub _ (by simp)))).mono ?_
 rintro e w1 ⟨ba,ca,Fa,rfl,ha,hn⟩
 have hnna:=fun k o hk=>Nat.le_trans g.chg.size (hn.new k o hk)
 obtain⟨g1,rfl⟩:=G.new_ex _ hn
 clear hn
 (try clear g)
 revert g1
 intro g
 go_wp2_with (with_reducible refine yq _ ?_;(try generalize (G.w _).heap.size=bk);(try dsimp only[yi,yj]);(try clear g);intro g)
 go_ret
 exact⟨_,_,_,rfl,ha,G.below _,G.sub _ _ (by simp),hnna⟩
/-- two by two, written out -/
theorem mx2 {x y:Mx}(h:∀i:Fin 2,∀j:Fin 2,x i j=y i j):∀i,i<2→∀j,j<2→x i j=y i j:=fun i hi j hj=>h ⟨i,hi⟩ ⟨j,hj⟩
def invL:Mx:=fun i j=>if i=0 then(if j=0 then -2 else 1) else(if j=0 then 3/2 else -1/2)
theorem live_mul:∀i,i<2→∀j,j<2→mulM 2 (intM (m22 1 2 3 4)) (intM (m22 2 1 1 2)) i j=intM (m22 4 5 10 11) i j:=mx2 (by decide+kernel)
theorem live_det:detV 2 (intM (m22 1 2 3 4))= -2:=by decide+kernel
theorem live_rank:rankM 2 2 (intM (m22 1 2 3 4))=2:=by decide+kernel
theorem live_inv:∀i,i<2→∀j,j<2→behindM 2 (intM (m22 1 2 3 4)) oneM i j=invL i j:=mx2 (by decide+kernel)
theorem bd22 {k:Nat}{x:Mx}(h:∀i:Fin 2,∀j:Fin 2,Bd k (x i j)):∀i,i<2→∀j,j<2→Bd k (x i j):=fun i hi j hj=>h ⟨i,hi⟩ ⟨j,hj⟩
theorem bd22a:∀i,i<2→∀j,j<2→Bd 4 (intM (m22 1 2 3 4) i j):=bd22 (by unfold Bd;decide+kernel)
theorem bd22b:∀i,i<2→∀j,j<2→Bd 4 (intM (m22 2 1 1 2) i j):=bd22 (by unfold Bd;decide+kernel)
theorem bd22p:∀i,i<2→∀t,t<2→∀j,j<2→Bd 8192 (intM (m22 1 2 3 4) i t*intM (m22 2 1 1 2) t j):=fun i hi t ht j hj=>((Bd.qn (bd22a i hi t ht)).mul (Bd.qn (bd22b t ht j hj))).bd' (by decide) (by decide)
theorem bd22s:∀i,i<2→∀j,j<2→∀t,t≤2→Bd 8192 (sumN t (fun l=>intM (m22 1 2 3 4) i l*intM (m22 2 1 1 2) l j)):=fun i hi j hj t ht=>(qn_sum (m:=t) (k:=8) (l:=8) (fun l hl=>(Bd.qn (bd22a i hi l (by omega))).mul (Bd.qn (bd22b l (by omega) j hj)))).bd' (by omega) (by omega)
set_option maxRecDepth 20000 in
set_option maxHeartbeats 8000000 in
theorem lives5_x (w:World)(hT:Tab w):Calls Tryz.prog 10 #[] w fun e w'=>e=.returned (.bool true)∧Below w.heap.size w w':=by
 refine calls_b fun g=>?_
 have HT:=Lib.hid hT
 clear hT
 have CI:=Lib.hid (fun v A c w h=>lints5_r 2 2 v A c w h (by decide) (by decide) (by decide) (by decide))
 unfold RMt at CI
 have CM:=Lib.hid (fun A B c cB w hA hB hT=>Mul_r 2 2 2 (intM (m22 1 2 3 4)) (intM (m22 2 1 1 2)) A B c cB w hA hB hT (by decide) (by decide) (by decide) (by decide) (by decide) (by decide) (fun i hi j hj=>(bd22a i hi j hj).mono (by decide)) (fun i hi j hj=>(bd22b i hi j hj).mono (by decide)) bd22p bd22s)
 unfold RMtE at CM
 have CD:=Lib.hid (fun F0 A c w hF hA hT=>Det_r F0 2 (intM (m22 1 2 3 4)) A c w hF hA hT (by decide) (by decide) (fun i hi j hj=>(bd22a i hi j hj).mono (by decide)) (fineAll_of bd22a (b:=8) (by decide) (by decide) (by decide)))
 rw[live_det] at CD
 have CV:=Lib.hid (fun F0 A c w hF hA hT=>Inv_r F0 2 (intM (m22 1 2 3 4)) A c w hF hA hT (by decide) (by decide) (fun i hi j hj=>(bd22a i hi j hj).mono (by decide)) (fineAll_of (wide_bd bd22a (fun i _ j _=>one_bd (by decide) i j)) (b:=16) (by decide) (by decide) (by decide)))
 unfold RBeh at CV
 rw[live_rank] at CV
 have CS:=Lib.hid (fun x A B c d w hA hB=>lis5_x 2 (fun _=>2) x A B c d w hA hB (by decide) (fun _ _=>by decide))
 have CN:=Lib.hid (fun p q r w h=>lnum5_x (-2) 1 (-2) (by decide) (by decide+kernel) (by decide) (by decide) (by decide) (by decide) p q r w h)
 have CO:=Lib.hid (fun(a b:Int) (z:Rat) (hb:b≠0) (e:frac (decide (a<0) !=decide (b<0)) a.natAbs b.natAbs=z) (h1:I64 a) (h2:I64 b) w=>lof5_r a b z hb e h1.1 h1.2 h2.1 h2.2 w)
 unfold RT1 at CO
 go_enter Tryz.func10,Tryz.ntmps10
 go_wp2_with (with_reducible refine yq _ ?_;(try generalize (G.w _).heap.size=bk);(try dsimp only[yi,yj]);(try clear g);intro g)
 refine(CI.out (m22 1 2 3 4) _ _ _ (im22 g 1 2 3 4 (.head _) (.tail _ (.tail _ (.head _))) (.tail _ (.head _)) (by decide) (by decide) (by decide) (by decide))).mono ?_
 rintro e w1 ⟨ba,ca,Fa,rfl,ha,hn⟩
 have hnna:=fun k o hk=>Nat.le_trans g.chg.size (hn.new k o hk)
 obtain⟨g1,rfl⟩:=G.new_ex _ hn
 clear hn
 (try clear g)
 revert g1
 intro g
 go_wp2_with (with_reducible refine yq _ ?_;(try generalize (G.w _).heap.size=bk);(try dsimp only[yi,yj]);(try clear g);intro g)
 refine(CI.out (m22 2 1 1 2) _ _ _ (im22 g 2 1 1 2 (.head _) (.tail _ (.tail _ (.head _))) (.tail _ (.head _)) (by decide) (by decide) (by decide) (by decide))).mono ?_
 rintro e w1 ⟨bb,cb,Fb,rfl,hb,hn⟩
 have hnnb:=fun k o hk=>Nat.le_trans g.chg.size (hn.new k o hk)
 obtain⟨g1,rfl⟩:=G.new_ex _ hn
 clear hn
 (try clear g)
 revert g1
 intro g
 obtain⟨g2,hg2⟩:=G.less g (M':=[]) (List.nil_sublist _)
 rw[hg2]
 clear hg2
 (try clear g)
 revert g2
 intro g
 go_wp2_with (with_reducible refine yq _ ?_;(try generalize (G.w _).heap.size=bk);(try dsimp only[yi,yj]);(try clear g);intro g)
 refine(CM.out _ _ _ _ _ (ha.mono (g.sub _ (by simp))) (hb.mono (g.sub _ (by simp))) (G.tab g HT.out)).mono ?_
 rintro e w1 ⟨bm,cm,Fm,rfl,hm,hn⟩
 have hnnm:=fun k o hk=>Nat.le_trans g.chg.size (hn.new k o hk)
 obtain⟨g1,rfl⟩:=G.new_ex _ hn
 clear hn
 (try clear g)
 revert g1
 intro g
 go_wp2_with (with_reducible refine yq _ ?_;(try generalize (G.w _).heap.size=bk);(try dsimp only[yi,yj]);(try clear g);intro g)
 refine(CD.out Fa _ _ _ (g.sub _ (by simp)) ha (G.tab g HT.out)).mono ?_
 rintro e w1 ⟨pd,qd,rd,Fd,rfl,hd,hn⟩
 obtain⟨sd,Ad,nd,cd,Bd,dd,kd,rfl,rfl,rfl⟩:=hd.shape
 obtain⟨g1,rfl,hod⟩:=G.nor_ex _ (by simp) hn
 clear hn
 (try clear g)
 revert g1
 intro g
 go_wp2_with (with_reducible refine yq _ ?_;(try generalize (G.w _).heap.size=bk);(try dsimp only[yi,yj]);(try clear g);intro g)
 (try(refine cmark _ ?_;(try dsimp only[yi,yj]);(try clear g);intro g))
 refine(CV.out Fa _ _ _ (g.sub _ (by simp)) ha (G.tab g HT.out)).mono ?_
 rintro e w1 (⟨hr,_⟩|⟨_,bi,ki,Fi,rfl,hmi,hno⟩)
 ·exact absurd hr (by decide)
 obtain⟨g1,rfl,hoi⟩:=G.nor_ex _ (by simp) hno
 clear hno g
 revert g1
 intro g
 have hmm:Fm.Mt (some ⟨bm,0,none⟩) cm 2 (fun _=>2) (rawM (intM (m22 4 5 10 11))):=hm.congr (fun _ _=>rfl) (fun i hi j hj=>congrArg rawOf (live_mul i hi j hj))
 have hii:Fi.Mt (some ⟨bi,0,none⟩) ki 2 (fun _=>2) (rawM invL):=hmi.congr (fun _ _=>rfl) (fun i hi j hj=>congrArg rawOf (live_inv i hi j hj))
 clear hm hmi CM CD CV
 (as_aux_lemma=>
  go_wp2_with (with_reducible refine yq _ ?_;(try generalize (G.w _).heap.size=bk);(try dsimp only[yi,yj]);(try clear g);intro g)
  refine(CI.out (m22 4 5 10 11) _ _ _ (im22 g 4 5 10 11 (.head _) (.tail _ (.tail _ (.head _))) (.tail _ (.head _)) (by decide) (by decide) (by decide) (by decide))).mono ?_
  rintro e w1 ⟨bx,cx,Fx,rfl,hx,hn⟩
  have hnnx:=fun k o hk=>Nat.le_trans g.chg.size (hn.new k o hk)
  obtain⟨g1,rfl⟩:=G.new_ex _ hn
  clear hn
  (try clear g)
  revert g1
  intro g
  go_wp2_with (with_reducible refine yq _ ?_;(try generalize (G.w _).heap.size=bk);(try dsimp only[yi,yj]);(try clear g);intro g)
  refine(CS.out _ _ _ _ _ _ (hmm.mono (g.sub _ (by simp))) (hx.mono (g.sub _ (by simp)))).mono ?_
  rintro e w1 ⟨rfl,hb⟩
  obtain⟨g1,rfl⟩:=G.call_ex _ hb
  clear hb
  (try clear g)
  revert g1
  intro g
  go_wp2_with (with_reducible refine yq _ ?_;(try generalize (G.w _).heap.size=bk);(try dsimp only[yi,yj]);(try clear g);intro g)
  refine(CN.out _ _ _ _ (G.rtI g (by simp) hd)).mono ?_
  rintro e w1 ⟨rfl,hb⟩
  obtain⟨g1,rfl⟩:=G.call_ex _ hb
  clear hb
  (try clear g)
  revert g1
  intro g
  go_wp2_with (with_reducible refine yq _ ?_;(try generalize (G.w _).heap.size=bk);(try dsimp only[yi,yj]);(try clear g);intro g)
  (as_aux_lemma=>
   refine(CO.out (-2) 1 (-2) (by decide) (by decide+kernel) (by decide) (by decide) _).mono ?_
   rintro e w1 ⟨po1,qo1,ro1,Fo1,rfl,ho1,hn⟩
   have hnno1:=fun k o hk=>Nat.le_trans g.chg.size (hn.new k o hk)
   obtain⟨so1,Ao1,no1,co1,Bo1,do1,ko1,rfl,rfl,rfl⟩:=ho1.shape
   obtain⟨g1,rfl⟩:=G.new_ex _ hn
   clear hn
   (try clear g)
   revert g1
   intro g
   go_wp2_with (with_reducible refine yq _ ?_;(try generalize (G.w _).heap.size=bk);(try dsimp only[yi,yj]);(try clear g);intro g)
   refine(CO.out 1 1 1 (by decide) (by decide+kernel) (by decide) (by decide) _).mono ?_
   rintro e w1 ⟨po2,qo2,ro2,Fo2,rfl,ho2,hn⟩
   have hnno2:=fun k o hk=>Nat.le_trans g.chg.size (hn.new k o hk)
   obtain⟨so2,Ao2,no2,co2,Bo2,do2,ko2,rfl,rfl,rfl⟩:=ho2.shape
   obtain⟨g1,rfl⟩:=G.new_ex _ hn
   clear hn
   (try clear g)
   revert g1
   intro g
   go_wp2_with (first|(with_reducible refine yq _ ?_;(try generalize (G.w _).heap.size=bk);(try dsimp only[yi,yj]);(try clear g);intro g)|(refine bslice2 (by rfl) _ _ (by rfl) (by rfl) (by rfl) g ?_;(try clear g);intro b2 g))
   refine(CO.out 3 2 (3/2) (by decide) (by decide+kernel) (by decide) (by decide) _).mono ?_
   rintro e w1 ⟨po3,qo3,ro3,Fo3,rfl,ho3,hn⟩
   have hnno3:=fun k o hk=>Nat.le_trans g.chg.size (hn.new k o hk)
   obtain⟨so3,Ao3,no3,co3,Bo3,do3,ko3,rfl,rfl,rfl⟩:=ho3.shape
   obtain⟨g1,rfl⟩:=G.new_ex _ hn
   clear hn
   (try clear g)
   revert g1
   intro g
   go_wp2_with (with_reducible refine yq _ ?_;(try generalize (G.w _).heap.size=bk);(try dsimp only[yi,yj]);(try clear g);intro g)
   refine(CO.out (-1) 2 (-1/2) (by decide) (by decide+kernel) (by decide) (by decide) _).mono ?_
   rintro e w1 ⟨po4,qo4,ro4,Fo4,rfl,ho4,hn⟩
   have hnno4:=fun k o hk=>Nat.le_trans g.chg.size (hn.new k o hk)
   obtain⟨so4,Ao4,no4,co4,Bo4,do4,ko4,rfl,rfl,rfl⟩:=ho4.shape
   obtain⟨g1,rfl⟩:=G.new_ex _ hn
   clear hn
   (try clear g)
   revert g1
   intro g
   go_wp2_with (first|(with_reducible refine yq _ ?_;(try generalize (G.w _).heap.size=bk);(try dsimp only[yi,yj]);(try clear g);intro g)|(refine bslice2 (by rfl) _ _ (by rfl) (by rfl) (by rfl) g ?_;(try clear g);intro b2 g))
   (as_aux_lemma=>
    have hl:(heapOf g.w).Mt _ _ 2 (fun _=>2) (rawM invL):=mtM g (.head _) (by decide) (two_cases ⟨_,_,rfl,rwM g _ (.tail _ (.tail _ (.head _))) (tris2 (x:=rawM invL 0) (G.rtI g (by simp) ho1) (G.rtI g (by simp) ho2)) (by decide)⟩ ⟨_,_,rfl,rwM g _ (.tail _ (.head _)) (tris2 (x:=rawM invL 1) (G.rtI g (by simp) ho3) (G.rtI g (by simp) ho4)) (by decide)⟩)
    refine(CS.out _ _ _ _ _ _ (hii.mono (g.sub _ (by simp))) hl).mono ?_
    rintro e w1 ⟨rfl,hb⟩
    obtain⟨g1,rfl⟩:=G.call_ex _ hb
    clear hb
    (try clear g)
    revert g1
    intro g
    go_wp2_with (with_reducible refine yq _ ?_;(try generalize (G.w _).heap.size=bk);(try dsimp only[yi,yj]);(try clear g);intro g)
    go_ret
    exact⟨rfl,G.below _⟩)))
end Go.Proofs.YthhbbnfnejjpiaaGreatDoor
namespace Go.Proofs.YthhbbnfnejjpiaaGreatDoor
open Go.RowKit GW NL MX
theorem is_of_si {F:Frag}{A:Option Addr}{c:Nat}{l:List Int}(h:F.Si A c l):Frag.Is F A l.length:=fun j hj=>by
 obtain⟨b,o,e,cs,T,fr,hb,hc⟩:=h.ints (by omega)
 exact⟨b,o,l.getD j 0,e,fun w0 X M I g hI=>g.cellF hI (o:=o) hb (hc j hj),h.ok j⟩
theorem drawn_f (tb n c rows cols:Nat)(A:Option Addr)(F0:Frag){w0:World}{M:List Blk}{I:List Frag}(hL:Frag.Is F0 A n)(hn:n≤1000000)(hr1:1≤rows)(hr:rows≤100)(hc:cols≤100)(hF:InF F0 I)(kv:Int)(hk:∃k:Nat,kv=(k:Int)∧k≤n)(g:G w0 [] ((tb,27,[.slice A n c,.int .i64 kv])::M) I):
  Calls Tryz.prog 12 #[.pointer (some ⟨tb,0,none⟩),.int .i64 (rows:Int),.int .i64 (cols:Int)] g.w fun e w'=>∃(z:Mx) (kv':Int) (b cc:Nat) (F:Frag) (g':G w0 [] ((tb,27,[.slice A n c,.int .i64 kv'])::M) (F::I)),e=.returned (.slice (some ⟨b,0,none⟩) rows cc)∧(∃k:Nat,kv'=(k:Int)∧k≤n)∧F.Mt (some ⟨b,0,none⟩) cc rows (fun _=>cols) (rawM z)∧F.Nw w0∧QM 4 4 rows cols z∧w'=g'.w:=by
 obtain⟨k0,rfl,hk0⟩:=hk
 refine(drawn_r tb n c k0 rows cols A F0 hL hn hk0 hr hc hF g).mono ?_
 rintro e w' ⟨z,k',cc,Ac,xs,sc,R,F,g',rfl,hk',hv,hown,hnw,hsm,rfl⟩
 obtain⟨g1,e1⟩:=g'.perm (M':=sc++(R++((tb,27,[.slice A n c,.int .i64 (k':Int)])::M))) (by
  have:=(List.perm_middle (a:=(tb,27,[Value.slice A n c,.int .i64 (k':Int)])) (l₁:=sc++R) (l₂:=M)).symm
  simpa [List.append_assoc] using this)
 obtain⟨F',b,g2,rfl,e2,hm,hle,hnw2⟩:=g1.freezeV hv hown (by omega) (by omega) (fun _ _=>by omega)
 exact⟨z,k',b,cc,F',g2,rfl,⟨k',rfl,hk'⟩,hm,hnw2 hnw,QM.small hsm,e1.trans e2⟩
end Go.Proofs.YthhbbnfnejjpiaaGreatDoor
namespace Go.Proofs.YthhbbnfnejjpiaaGreatDoor
open Go.RowKit GW NL MX
theorem fine_small {n m:Nat}{a:Mx}(hn:n≤4)(hm:m≤8)(h:∀i,i<n→∀j,j<m→Bd 5 (a i j)){c:Nat}(hc:c≤m):FineAll n m c a:=by
 refine fineAll_of h (b:=40) (by omega) hc ?_
 have:=bnd_mono 40 (r:=n-1) (r':=3) (by omega)
 have h3:bnd 40 3=327:=rfl
 omega
theorem fine_prod {n:Nat}{a:Mx}(hn:n≤4)(h:∀i,i<n→∀j,j<n→Bd 69 (a i j)):FineAll n n n a:=by
 refine fineAll_of h (b:=276) (by omega) (Nat.le_refl n) ?_
 have:=bnd_mono 276 (r:=n-1) (r':=3) (by omega)
 have h3:bnd 276 3=2215:=rfl
 omega
end Go.Proofs.YthhbbnfnejjpiaaGreatDoor
namespace Go.Proofs.YthhbbnfnejjpiaaGreatDoor
open Go.RowKit GW NL MX
theorem quad_fine {n:Nat}{a:Mx}{x:Nat→Rat}(hn1:1≤n)(hn:n≤4)(ha:QM 68 32 n n a)(hx:∀k,k<n→Qn 4 4 (x k)):QuadFine n a x:=by
 have hp:∀i,i<n→∀k,k<n→Qn 72 36 (a i k*x k):=fun i hi k hk=>(ha i hi k hk).mul (hx k hk)
 have hs:∀i,i<n→∀t,t≤n→Qn 436 144 (sumN t (fun k=>a i k*x k)):=fun i hi t ht=>(qn_sum (m:=t) (fun k hk=>hp i hi k (by omega))).mono (by omega) (by omega)
 have hq:∀i,i<n→Qn 440 148 (x i*sumN n (fun k=>a i k*x k)):=fun i hi=>((hx i hi).mul (hs i hi n (Nat.le_refl n))).mono (by omega) (by omega)
 exact⟨fun i hi k hk=>(ha i hi k hk).bd' (by decide) (by decide),fun k hk=>(hx k hk).bd' (by decide) (by decide),fun i hi k hk=>(hp i hi k hk).bd' (by decide) (by decide),fun i hi t ht=>(hs i hi t ht).bd' (by decide) (by decide),fun i hi=>(hq i hi).bd' (by decide) (by decide),fun t ht=>(qn_sum (m:=t) (fun i hi=>hq i (by omega))).bd' (by omega) (by omega)⟩
theorem gram_row {n m:Nat}{a:Mx}(hn:n≤4)(h:QM 68 32 n n (gramM m a)):∀i,i<n→RowF 276 n (gramM m a i):=fun i hi=>rowF_init (k:=69) (fun j hj=>(h i hi j hj).bd' (by decide) (by decide)) (by omega)
set_option maxRecDepth 40000 in
set_option maxHeartbeats 32000000 in
theorem definite_walk (A:Option Addr)(c:Nat)(l:List Int)(a1 a2:Int)(W:World)(hA:SiW W A c l)(hT:Tab W)(w1:I64 a1)(w2:I64 a2):
  Calls Tryz.prog 8 #[.slice A l.length c,.int .i64 a1,.int .i64 a2] W fun e w'=>e=.returned (.bool true)∧Below W.heap.size W w':=by
 refine calls_b fun g=>?_
 have HT:=Lib.hid hT
 have HL:=Lib.hid (is_of_si hA)
 have CLV:=Lib.hid (fun w h=>lives5_x w h)
 clear hT hA
 generalize l.length=n0 at*
 by_cases hn:60<n0
 ·have hni:((60:Int)<(n0:Int)):=by omega
  go_enter Tryz.func8,Tryz.ntmps8
  go_wp2_with (with_reducible refine yq _ ?_;(try generalize (G.w _).heap.size=bk);(try dsimp only[yi,yj]);(try clear g);intro g)
  refine(CLV.out _ (G.tab g HT.out)).mono ?_
  rintro e w1 ⟨rfl,hb⟩
  obtain⟨g1,rfl⟩:=G.call_ex _ hb
  clear hb
  (try clear g)
  revert g1
  intro g
  go_wp2_with (with_reducible refine yq _ ?_;(try generalize (G.w _).heap.size=bk);(try dsimp only[yi,yj]);(try clear g);intro g)
  go_ret
  exact⟨rfl,G.below _⟩
 have hni:¬ ((60:Int)<(n0:Int)):=by omega
 have CP1:=Lib.hid (fun w=>pick_m 4 a1 (by decide) (by decide) w1.1 w1.2 w)
 have CP2:=Lib.hid (fun w=>pick_m 4 a2 (by decide) (by decide) w2.1 w2.2 w)
 clear w1 w2
 obtain⟨i0,hi,hz0,hz1,hz2⟩:=info_parts infoRat
 obtain⟨j0,hj0,hy0,hy1,hy2⟩:=info_parts infoRats5
 go_enter Tryz.func8,Tryz.ntmps8
 go_wp2_with (with_reducible refine yq _ ?_;(try generalize (G.w _).heap.size=bk);(try dsimp only[yi,yj]);(try clear g);intro g)
 refine(CLV.out _ (G.tab g HT.out)).mono ?_
 rintro e w1 ⟨rfl,hb⟩
 obtain⟨g1,rfl⟩:=G.call_ex _ hb
 clear hb
 (try clear g)
 revert g1
 intro g
 go_wp2_with (with_reducible refine yq _ ?_;(try generalize (G.w _).heap.size=bk);(try dsimp only[yi,yj]);(try clear g);intro g)
 refine(CP1.out _).mono ?_
 rintro e w1 ⟨u1,hu1,rfl,hb⟩
 obtain⟨g1,rfl⟩:=G.call_ex _ hb
 clear hb g
 revert g1
 intro g
 obtain⟨n,hn'⟩:∃n,n=u1+1:=⟨_,rfl⟩
 have hw1:IntKind.i64.wrap (1+(u1:Int))=(n:Int):=by rw[IntKind.wrap_i64];omega
 have n1:1≤n:=by omega
 have n2:n≤4:=by omega
 clear hn' hu1
 go_wp2_with (with_reducible refine yq _ ?_;(try generalize (G.w _).heap.size=bk);(try dsimp only[yi,yj]);(try clear g);intro g)
 refine(CP2.out _).mono ?_
 rintro e w1 ⟨u2,hu2,rfl,hb⟩
 obtain⟨g1,rfl⟩:=G.call_ex _ hb
 clear hb g
 revert g1
 intro g
 obtain⟨m,hm'⟩:∃m,m=u2+1:=⟨_,rfl⟩
 have hw2:IntKind.i64.wrap (1+(u2:Int))=(m:Int):=by rw[IntKind.wrap_i64];omega
 have m1:1≤m:=by omega
 have m2:m≤4:=by omega
 clear hm' hu2
 go_wp2_with (with_reducible refine yq _ ?_;(try generalize (G.w _).heap.size=bk);(try dsimp only[yi,yj]);(try clear g);intro g)
 clear hw1 hw2 CP1 CP2 CLV
 refine(drawn_f _ n0 _ n m A (heapOf W) HL.out (by omega) (by omega) (by omega) (by omega) (by unfold InF;simp) _ ⟨0,rfl,Nat.zero_le _⟩ g).mono ?_
 rintro e w1 ⟨za,kva,ba,ca,Fa,g1,rfl,hka,ha,hnna,hqa,rfl⟩
 clear g
 revert g1
 intro g
 go_wp2_with (with_reducible refine yq _ ?_;(try generalize (G.w _).heap.size=bk);(try dsimp only[yi,yj]);(try clear g);intro g)
 refine(drawn_f _ n0 _ 1 n A (heapOf W) HL.out (by omega) (by omega) (by omega) (by omega) (by unfold InF;simp) _ hka g).mono ?_
 rintro e w1 ⟨zc,kvc,bc,cc,Fc,g1,rfl,hkc,hc,hnnc,hqc,rfl⟩
 clear g
 revert g1
 intro g
 clear hka hkc HL
 obtain⟨g2,hg2⟩:=G.less g (M':=[]) (List.nil_sublist _)
 rw[hg2]
 clear hg2
 (try clear g)
 revert g2
 intro g
 have hqg:QM 68 32 n n (gramM m za):=(hqa.mul hqa.tr).mono (by omega) (by omega)
 have hsym:∀i,i<n→∀k,k<n→gramM m za i k=gramM m za k i:=fun i _ k _=>gram_comm m za i k
 have hgr:=gram_row n2 hqg
 have hff:=fac_fine n2 hsym hgr (by decide)
 have hxc:∀k,k<n→Qn 4 4 (zc 0 k):=fun k hk=>hqc 0 (by decide) k hk
 have hz5:∀i',i'<n→∀j,j<m→Bd 5 (za i' j):=hqa.bd (by decide) (by decide)
 obtain⟨bcc,oc,ebc,hrowc⟩:=hc.rowAt (by decide)
 cases ebc
 obtain⟨Bc,kc,hcc,hcr⟩:=hrowc 0 (by decide)
 have EC2:∀(M:List Blk) (F1 F2:Frag) (I:List Frag) (g:G W [] M (F1::F2::Fc::I)),g.w.cell? ⟨bc,0,none⟩=some (.slice Bc n kc):=fun M F1 F2 I g=>hcc _ _ _ _ g (by unfold InF;simp)
 have EC3:∀(M:List Blk) (F1 F2 F3:Frag) (I:List Frag) (g:G W [] M (F1::F2::F3::Fc::I)),g.w.cell? ⟨bc,0,none⟩=some (.slice Bc n kc):=fun M F1 F2 F3 I g=>hcc _ _ _ _ g (by unfold InF;simp)
 clear hrowc
 (as_aux_lemma=>
  go_wp2_with (with_reducible refine yq _ ?_;(try generalize (G.w _).heap.size=bk);(try dsimp only[yi,yj]);(try clear g);intro g)
  refine(Turn_q n m za hqa (by omega) (by omega) (by omega) (by omega) (by omega) _ _ _ (ha.mono (g.sub _ (by simp))) (G.tab g HT.out)).mono ?_
  rintro e w1 ⟨bta,cta,Fta,rfl,hta,hn⟩
  have hnnta:=fun k o hk=>Nat.le_trans g.chg.size (hn.new k o hk)
  obtain⟨g1,rfl⟩:=G.new_ex _ hn
  clear hn
  (try clear g)
  revert g1
  intro g
  go_wp2_with (with_reducible refine yq _ ?_;(try generalize (G.w _).heap.size=bk);(try dsimp only[yi,yj]);(try clear g);intro g)
  refine(Mul_q n m n za (trM za) hqa hqa.tr (by omega) (by omega) (by omega) (by omega) (by omega) (by omega) (by omega) _ _ _ _ _ (ha.mono (g.sub _ (by simp))) (hta.mono (g.sub _ (by simp))) (G.tab g HT.out)).mono ?_
  rintro e w1 ⟨bg,cg,Fg,rfl,hg,hn⟩
  have hnng:=fun k o hk=>Nat.le_trans g.chg.size (hn.new k o hk)
  obtain⟨g1,rfl⟩:=G.new_ex _ hn
  clear hn
  (try clear g)
  revert g1
  intro g
  have hg2:Fg.Mt (some ⟨bg,0,none⟩) cg n (fun _=>n) (rawM (gramM m za)):=hg
  obtain⟨rk,hrk⟩:∃rk,rankM n m za=rk:=⟨_,rfl⟩
  have CR:=Lib.hid (fun A c w hF hA hT=>Rank_r Fa n m za A c w hF hA hT n1 (by omega) m1 (by omega) (hqa.bd (by decide) (by decide)) (fine_small n2 (by omega) hz5 (Nat.le_refl m)))
  rw[hrk] at CR
  clear hg hta
  go_wp2_with (with_reducible refine yq _ ?_;(try generalize (G.w _).heap.size=bk);(try dsimp only[yi,yj]);(try clear g);intro g)
  refine(CR.out _ _ _ (g.sub _ (by simp)) ha (G.tab g HT.out)).mono ?_
  rintro e w1 ⟨rfl,hb⟩
  obtain⟨g1,rfl⟩:=G.call_ex _ hb
  clear hb
  (try clear g)
  revert g1
  intro g
  go_wp2_with (with_reducible refine yq _ ?_;(try generalize (G.w _).heap.size=bk);(try dsimp only[yi,yj]);(try clear g);intro g)
  have hpd:(∀k,k<n→0<facD (gramM m za) k)↔rk=n:=by rw[←hrk];exact⟨rank_of_pd n2,pd_of_rank⟩
  have hrkn:rk≤n:=by rw[←hrk];exact rank_le n m za
  have CD:=Lib.hid (fun A c w hA hT=>Definite_r n (gramM m za) A c w hA hT n1 (by omega) (hqg.bd (by decide) (by decide)) hsym hff)
  have CFA:=Lib.hid (fun A c w hA hT=>Factor_r n (gramM m za) A c w hA hT n1 (by omega) (hqg.bd (by decide) (by decide)) hsym hff)
  unfold RFct at CFA
  have CQ:=Lib.hid (fun A B c cB w hA hB hT=>Quad_r n (gramM m za) (zc 0) A B c cB w hA hB hT n1 (by omega) (quad_fine n1 n2 hqg hxc))
  unfold RT at CQ
  clear CR hff
  refine(CD.out _ _ _ (hg2.mono (g.sub _ (by simp))) (G.tab g HT.out)).mono ?_
  rintro e w1 ⟨dd,hdd,rfl,hbl⟩
  obtain⟨g1,rfl⟩:=G.call_ex _ hbl
  clear hbl g CD
  revert g1
  intro g
  rw[hpd] at hdd
  go_wp2_with (with_reducible refine yq _ ?_;(try generalize (G.w _).heap.size=bk);(try dsimp only[yi,yj]);(try clear g);intro g)
  by_cases hr:rk=n
  ·obtain rfl:dd=true:=hdd.2 hr
   clear hdd
   refine(CFA.out _ _ _ (hg2.mono (g.sub _ (by simp))) (G.tab g HT.out)).mono ?_
   rintro e w1 (⟨hpos,bl,cl,bd,cd,Fl,rfl,hml,hrd,hno⟩|⟨⟨k,hk,hk2⟩,_⟩)
   rotate_left
   ·exact absurd (hpd.2 hr k hk) hk2
   have HPOS:=Lib.hid hpos
   have hnnl:=fun k o hk=>Nat.le_trans g.chg.size (hno.new k o hk)
   obtain⟨g1,rfl⟩:=G.new_ex _ hno
   clear hno g CFA hpos hpd
   revert g1
   intro g
   have hri:(rk:Int)=(n:Int):=by omega
   go_wp2_with (with_reducible refine yq _ ?_;(try generalize (G.w _).heap.size=bk);(try dsimp only[yi,yj]);(try clear g);intro g)
   refine(CQ.out _ _ _ _ _ (hg2.mono (g.sub _ (by simp))) (hcr.mono (g.sub _ (by simp))) (G.tab g HT.out)).mono ?_
   rintro e w1 ⟨pq,qq,rq,Fq,rfl,hq,hn⟩
   have hnnq:=fun k o hk=>Nat.le_trans g.chg.size (hn.new k o hk)
   obtain⟨sq,Aq,nq,cq,Bq,dq,kq,rfl,rfl,rfl⟩:=hq.shape
   obtain⟨g1,rfl⟩:=G.new_ex _ hn
   clear hn
   (try clear g)
   revert g1
   intro g
   have hsq:sq=false:=by
    rw[rt_sign hq]
    unfold rneg
    have:=Rat.num_nonneg.2 (quad_nonneg n m za (zc 0))
    exact decide_eq_false (by omega)
   have hlq:=rt_len0 hq
   rw[quad_zero (hrk.trans hr)] at hlq
   have HLQ:=Lib.hid hlq
   subst hsq
   obtain⟨rfl⟩:rk=n:=hr
   have hsz:=fac_sz n2 hsym hgr (Nat.le_refl _) (fun j hj e=>by
    have:=HPOS.out j hj
    rw[e] at this
    exact absurd this (Rat.lt_irrefl))
   have HSZ:=Lib.hid hsz
   clear CQ hlq hri hsz
   (as_aux_lemma=>
    go_upto_region 19 with(with_reducible refine yq _ ?_;(try generalize (G.w _).heap.size=bk);(try dsimp only[yi,yj]);(try clear g);intro g)
    obtain⟨qb,rfl⟩:∃qb,qb=bk:=⟨_,rfl⟩
    ((try simp only[G.drew_eq,G.drewN_eq]);(refine yq _ ?_;(try generalize (G.w _).heap.size=bk);(try dsimp only[yi,yj]);(try clear g);intro g))
    obtain⟨g1,e1⟩:=g.lessI (I':=[Fc,Fl,Fg]) (by simp)
    rw[e1]
    clear e1 g EC2 EC3
    revert g1
    intro g
    obtain⟨b3,o3,rfl,hnum⟩:=hcr.num n1
    have HNUM:=Lib.hid hnum
    have HL:=Lib.hid hml
    have HD:=Lib.hid hrd
    have HG:=Lib.hid hg2
    go_wp2_with (with_reducible refine yq _ ?_;(try generalize (G.w _).heap.size=bk);(try dsimp only[yi,yj]);(try clear g);intro g)
    clear hnum hml hrd hg2 hq ha hc hqc hz5 hqa hrkn hxc hcr
    go_loopw [23,24] (fun zv kv wr=>∃(k:Nat) (zb:Bool),kv=.int .i64 (k:Int)∧k≤n∧zv=.bool zb∧Hid (zb=true↔∀i,i<k→zc 0 i=0)∧∃g:G W [] [(qb,43,[.bool false,.slice Aq nq cq,.slice Bq dq kq])] [Fc,Fl,Fg],wr=g.w) (fun _ kv _=>n-(intOf kv).toNat)
    case atStart=>exact⟨0,true,rfl,by omega,rfl,Lib.hid ⟨fun _ i hi=>absurd hi (Nat.not_lt_zero _),fun _=>rfl⟩,g,rfl⟩
    case round =>
     clear g
     obtain⟨k,zb,rfl,hk,rfl,HZ,g,rfl⟩:=hrel
     by_cases hkn:k<n
     ·have hki:(k:Int)<(n:Int):=by omega
      obtain⟨p,q,r,h3,hrt⟩:=HNUM.out k hkn
      obtain⟨s3,P3,m3,d3,Q3,m4,d4,rfl,rfl,rfl⟩:=hrt.shape
      have EJ:∀(M:List Blk) (I:List Frag) (g:G W [] M (Fc::I)),g.w.cell? ⟨bc,0,none⟩=some (.slice (some ⟨b3,o3,none⟩) n kc):=fun M I g=>hcc _ _ _ _ g (InF.head _ _)
      have E1:∀(M:List Blk) (I:List Frag) (g:G W [] M (Fc::I)),g.w.cell? ⟨b3,o3+k*3+1,none⟩=some (.slice P3 m3 d3):=fun M I g=>(h3 _ _ _ _ g (InF.head _ _)).2.1
      have hlk:=rt_len0 hrt
      have HLK:=Lib.hid hlk
      clear h3 hrt hlk
      cases zb
      ·go_wp2_with (with_reducible refine yq _ ?_;(try generalize (G.w _).heap.size=bk);(try dsimp only[yi,yj]);(try clear g);intro g)
       go_roundw
       case rel=>
        refine⟨k+1,false,by go_num,by omega,rfl,Lib.hid ⟨fun h=>absurd h (by decide),fun h=>?_⟩,g,rfl⟩
        exact absurd (HZ.out.2 (fun i hi=>h i (by omega))) (by decide)
       case measure=>simp[intOf]<;>omega
      ·by_cases hm3:m3=0
       ·subst hm3
        go_wp2_with (with_reducible refine yq _ ?_;(try generalize (G.w _).heap.size=bk);(try dsimp only[yi,yj]);(try clear g);intro g)
        go_roundw
        case rel=>
         refine⟨k+1,true,by go_num,by omega,rfl,Lib.hid ⟨fun _ i hi=>?_,fun _=>rfl⟩,g,rfl⟩
         rcases Nat.lt_succ_iff_lt_or_eq.1 hi with hi|rfl
         ·exact HZ.out.1 rfl i hi
         ·exact HLK.out.1 rfl
        case measure=>simp[intOf]<;>omega
       ·have hmb:((m3:Int)==0)=false:=by rw[beq_eq_false_iff_ne];omega
        have HM3:=Lib.hid hm3
        clear hm3
        go_wp2_with (with_reducible refine yq _ ?_;(try generalize (G.w _).heap.size=bk);(try dsimp only[yi,yj]);(try clear g);intro g)
        go_roundw
        case rel=>
         refine⟨k+1,false,by go_num,by omega,rfl,Lib.hid ⟨fun h=>absurd h (by decide),fun h=>?_⟩,g,rfl⟩
         exact absurd (HLK.out.2 (h k (Nat.lt_succ_self k))) HM3.out
        case measure=>simp[intOf]<;>omega
     ·obtain⟨rfl⟩:k=n:=by omega
      have hcmp:((nq:Int)==0)=zb:=by
       cases zb
       ·rw[beq_eq_false_iff_ne]
        intro h
        exact absurd (HZ.out.2 (HLQ.out.1 (by omega))) (by decide)
       ·rw[beq_iff_eq]
        have:=HLQ.out.2 (HZ.out.1 rfl)
        omega
      have CK:=rCheck5_any (some ⟨bl,0,none⟩) cl n (fun _=>n) (rawM (facL (gramM m za)))
      rw[matE_ok n1 (by omega) n1 (by omega) HSZ.out.l] at CK
      have CKH:=Lib.hid CK
      have COF:=Lib.hid (fun w=>lof5_r 1 1 1 (by decide) (by decide+kernel) (by decide) (by decide) (by decide) (by decide) w)
      unfold RT1 at COF
      clear CK HLQ HZ HNUM
      go_wp2_with (with_reducible refine yq _ ?_;(try generalize (G.w _).heap.size=bk);(try dsimp only[yi,yj]);(try clear g);intro g)
      refine(CKH.out _ (HL.out.mono (g.sub _ (by simp)))).mono ?_
      rintro e w1 ⟨rfl,hb⟩
      obtain⟨g1,rfl⟩:=G.call_ex _ hb
      clear hb
      (try clear g)
      revert g1
      intro g
      clear CKH hcmp
      go_wp2_with (with_reducible refine yq _ ?_;(try generalize (G.w _).heap.size=bk);(try dsimp only[yi,yj]);(try clear g);intro g)
      refine(COF.out _).mono ?_
      rintro e w1 ⟨pdt,qdt,rdt,Fdt,rfl,hdt,hn⟩
      have hnndt:=fun k o hk=>Nat.le_trans g.chg.size (hn.new k o hk)
      obtain⟨sdt,Adt,ndt,cdt,Bdt,ddt,kdt,rfl,rfl,rfl⟩:=hdt.shape
      obtain⟨g1,rfl⟩:=G.new_ex _ hn
      clear hn
      (try clear g)
      revert g1
      intro g
      clear COF
      go_upto_region 27 with(with_reducible refine yq _ ?_;(try generalize (G.w _).heap.size=bk);(try dsimp only[yi,yj]);(try clear g);intro g)
      obtain⟨tb,rfl⟩:∃tb,tb=bk:=⟨_,rfl⟩
      ((try simp only[G.drew_eq,G.drewN_eq]);(refine yq _ ?_;(try generalize (G.w _).heap.size=bk);(try dsimp only[yi,yj]);(try clear g);intro g))
      obtain⟨g1,e1⟩:=g.lessI (I':=[Fdt,Fl,Fg]) (by simp)
      obtain⟨g2,e2⟩:=g1.less (M':=(tb,43,[.bool sdt,.slice Adt ndt cdt,.slice Bdt ddt kdt])::([]++[])) (by simp)
      rw[e1,e2]
      clear e1 e2 g1 g
      revert g2
      intro g
      (as_aux_lemma=>
       go_wp2_with (with_reducible refine yq _ ?_;(try generalize (G.w _).heap.size=bk);(try dsimp only[yi,yj]);(try clear g);intro g)
       obtain⟨fD,hfD⟩:∃fD,facD (gramM m za)=fD:=⟨_,rfl⟩
       obtain⟨Fm,g1,e1,hm1,hm2,hmn⟩:=g.merge
       obtain⟨g2,e2⟩:=(g1.see Fl (fun k o hk=>g1.sub Fm (by simp) k o (hm1 k o hk)) (fun k o hk=>g1.keep Fm (by simp) k o (hm1 k o hk))).lessI (I':=[Fm,Fl,Fg]) (by simp)
       have hFm:Fm.Nw W:=fun k' o hk'=>(hmn k' o hk').elim (hnnl k' o) (hnndt k' o)
       have hdt2:=hdt.mono hm2
       rw[show g.w=g2.w from e1.trans e2]
       clear e1 e2 g1 g hdt hnndt hm2 hmn
       revert g2
       intro g
       go_loopw [25,27] (fun dv iv wr=>∃i:Nat,iv=.int .i64 (i:Int)∧i≤n∧∃(cc:Nat) (Ac:Option Addr) (xs:List Value) (sc R:List Blk) (F:Frag) (s:Bool) (P:Option Addr) (x y:Nat) (Q:Option Addr) (u v:Nat),dv=.slice Ac i cc∧Hid (RowV W.heap.size 38 1 i xs Ac cc sc)∧Hid (OwnOn (List.range i) (fun j=>NumRow W.heap.size 43 F n (rawM (diagM fD) j)) R xs)∧Hid (F.Rt (.bool s) (.slice P x y) (.slice Q u v) (rawOf (prodN i fD)))∧Hid (F.Nw W)∧Hid (Fl.le F)∧∃g:G W [] ((tb,43,[.bool s,.slice P x y,.slice Q u v])::(sc++R)) [F,Fl,Fg],wr=g.w) (fun _ iv _=>n-(intOf iv).toNat)
       case atStart=>exact⟨0,rfl,by omega,0,none,[],[],[],Fm,_,_,_,_,_,_,_,rfl,Lib.hid (RowV.nil _ _ _),Lib.hid (OwnOn.nil _ _),Lib.hid hdt2,Lib.hid hFm,Lib.hid hm1,g,rfl⟩
       case round=>
        clear g hdt2 hFm hm1
        obtain⟨i,rfl,hi',cc,Ac,xs,sc,R,F,s,P,x,y,Q,u,v,rfl,HV,HO,HDET,HNW,HFL,g,rfl⟩:=hrel
        by_cases hin:i<n
        ·have hii:(i:Int)<(n:Int):=by omega
         have hi0:(0:Int)≤(i:Int):=by omega
         obtain⟨bd',od,ebd,hdn⟩:=HD.out.num n1
         cases ebd
         obtain⟨p,q,r,h3,hrt⟩:=hdn i hin
         obtain⟨s3,P3,m3,d3,Q3,m4,d4,rfl,rfl,rfl⟩:=hrt.shape
         have D0:∀(M:List Blk) (F1:Frag) (I:List Frag) (g:G W [] M (F1::Fl::I)),g.w.cell? ⟨bd,i*3,none⟩=some (.bool s3):=fun M F1 I g=>by
          have:=(h3 _ _ _ _ g (InF.tail (InF.head _ _))).1
          rwa[Nat.zero_add] at this
         have D1:∀(M:List Blk) (F1:Frag) (I:List Frag) (g:G W [] M (F1::Fl::I)),g.w.cell? ⟨bd,i*3+1,none⟩=some (.slice P3 m3 d3):=fun M F1 I g=>by
          have:=(h3 _ _ _ _ g (InF.tail (InF.head _ _))).2.1
          rwa[Nat.zero_add] at this
         have D2:∀(M:List Blk) (F1:Frag) (I:List Frag) (g:G W [] M (F1::Fl::I)),g.w.cell? ⟨bd,i*3+2,none⟩=some (.slice Q3 m4 d4):=fun M F1 I g=>by
          have:=(h3 _ _ _ _ g (InF.tail (InF.head _ _))).2.2
          rwa[Nat.zero_add] at this
         have DA0:∀(M:List Blk) (F1 F2:Frag) (I:List Frag) (g:G W [] M (F1::F2::Fl::I)),g.w.cell? ⟨bd,i*3,none⟩=some (.bool s3):=fun M F1 F2 I g=>by
          have:=(h3 _ _ _ _ g (InF.tail (InF.tail (InF.head _ _)))).1
          rwa[Nat.zero_add] at this
         have DA1:∀(M:List Blk) (F1 F2:Frag) (I:List Frag) (g:G W [] M (F1::F2::Fl::I)),g.w.cell? ⟨bd,i*3+1,none⟩=some (.slice P3 m3 d3):=fun M F1 F2 I g=>by
          have:=(h3 _ _ _ _ g (InF.tail (InF.tail (InF.head _ _)))).2.1
          rwa[Nat.zero_add] at this
         have DA2:∀(M:List Blk) (F1 F2:Frag) (I:List Frag) (g:G W [] M (F1::F2::Fl::I)),g.w.cell? ⟨bd,i*3+2,none⟩=some (.slice Q3 m4 d4):=fun M F1 F2 I g=>by
          have:=(h3 _ _ _ _ g (InF.tail (InF.tail (InF.head _ _)))).2.2
          rwa[Nat.zero_add] at this
         obtain⟨bl',ol,ebl,hlow⟩:=HL.out.rowAt n1
         cases ebl
         obtain⟨Bl,kl,hl1,hlr⟩:=hlow i hin
         obtain⟨b6,o6,rfl,hln⟩:=hlr.num n1
         have L0:∀(M:List Blk) (F1:Frag) (I:List Frag) (g:G W [] M (F1::Fl::I)),g.w.cell? ⟨bl,i,none⟩=some (.slice (some ⟨b6,o6,none⟩) n kl):=fun M F1 I g=>by
          have:=hl1 _ _ _ _ g (InF.tail (InF.head _ _))
          rwa[Nat.zero_add] at this
         have hpi:=HPOS.out i hin
         have hs3:s3=false:=by rw[rt_sign hrt];exact rneg_pos hpi
         subst hs3
         have hm3:((m3:Int)==0)=false:=by
          rw[beq_eq_false_iff_ne]
          intro h
          have h0:facD (gramM m za) i=0:=(rt_len0 hrt).1 (by omega)
          rw[h0] at hpi
          exact absurd hpi (Rat.lt_irrefl)
         have CKD:Hid (∀w,RtW w (.bool false) (.slice P3 m3 d3) (.slice Q3 m4 d4) (rawOf (facD (gramM m za) i))→Calls Tryz.prog 46 #[.agg #[.bool false,.slice P3 m3 d3,.slice Q3 m4 d4]] w fun e w'=>e=.returned (.int .i64 0)∧Below w.heap.size w w'):=Lib.hid (fun w h=>by
          have:=rqCheck_r _ _ _ _ w h
          rwa[show rchk (rawOf (facD (gramM m za) i)).1 (rawOf (facD (gramM m za) i)).2.1 (rawOf (facD (gramM m za) i)).2.2=0 from numE_ok (HSZ.out.d i hin)] at this)
         have HRT:=Lib.hid hrt
         have HLN:=Lib.hid hln
         have CUN:=Lib.hid (fun w=>Unit_own n n1 (by omega) w)
         unfold RBlk at CUN
         clear h3 hrt hdn hlow hl1 hlr hln hpi
         go_wp2_with (with_reducible refine yq _ ?_;(try generalize (G.w _).heap.size=bk);(try dsimp only[yi,yj]);(try clear g);intro g)
         refine(CKD.out _ (G.rtI g (by simp) HRT.out)).mono ?_
         rintro e w1 ⟨rfl,hb⟩
         obtain⟨g1,rfl⟩:=G.call_ex _ hb
         clear hb
         (try clear g)
         revert g1
         intro g
         clear CKD
         go_wp2_with (with_reducible refine yq _ ?_;(try generalize (G.w _).heap.size=bk);(try dsimp only[yi,yj]);(try clear g);intro g)
         refine(CUN.out _).mono ?_
         rintro e w1 ⟨ub,uc,ucs,UR,Fu,g1,rfl,hucc,huown,hunw,rfl⟩
         obtain⟨g2,e2⟩:=G.lift g g1 hunw
         rw[e2]
         have hunwW:Fu.Nw W:=fun k o hk=>Nat.le_trans g.chg.size (hunw k o hk)
         obtain⟨vv,su,UR',hvv,⟨A4,c4,l4,rfl,hvr4,hl4⟩,hp,hbut2⟩:=huown.openAt hin
         rcases hvr4 with⟨_,_,h0,_⟩|⟨rb,rcs,rfl,rfl,hrb,hrrow⟩
         ·omega
         have hrbW:W.heap.size≤rb:=Nat.le_trans g.chg.size hrb
         have HL4:=Lib.hid hl4
         have HRR:=Lib.hid hrrow
         have HFD:Hid (Fl.Rt (.bool false) (.slice P3 m3 d3) (.slice Q3 m4 d4) (rawOf (fD i))):=Lib.hid (by rw[←hfD];exact HRT.out)
         have CTM:=Lib.hid (fun p q r p' q' r' w h1 h2=>rqTimes_r (prodN i fD) (fD i) (by rw[←hfD];exact HSZ.out.pr i (by omega)) (by rw[←hfD];exact HSZ.out.d i hin) p q r p' q' r' w h1 h2)
         unfold RT1 at CTM
         obtain⟨g3,e3⟩:=g2.perm (M':=(ub,38,ucs)::(([(rb,43,rcs)]++UR')++((tb,43,[.bool s,.slice P x y,.slice Q u v])::(sc++R)))) ((hp.append_right _).cons _)
         obtain⟨g4,e4⟩:=g3.less (M':=(ub,38,ucs)::(rb,43,rcs)::(tb,43,[.bool s,.slice P x y,.slice Q u v])::(sc++R)) (((List.sublist_append_right UR' _).cons_cons _).cons_cons _)
         obtain⟨F2,g5,e5,hle1,hle2,hnew⟩:=g4.merge
         rw[e3,e4,e5]
         have HLE1:=Lib.hid hle1
         have HLE2:=Lib.hid hle2
         have HNW2:Hid (F2.Nw W):=Lib.hid (fun k' o hk'=>(hnew k' o hk').elim (HNW.out k' o) (hunwW k' o))
         clear hbut2 e2 e3 e4 e5 g1 g2 g3 g4 g huown hunw hunwW hp hl4 hrrow hrb hnew hle1 hle2 hucc CUN
         revert g5
         intro g
         go_upto_region 33 with(with_reducible refine yq _ ?_;(try generalize (G.w _).heap.size=bk);(try dsimp only[yi,yj]);(try clear g);intro g)
         obtain⟨g1,e1⟩:=g.less (List.sublist_cons_self _ _)
         rw[e1]
         clear e1 g hvv
         revert g1
         intro g
         (as_aux_lemma=>
          go_wp2_with (with_reducible refine yq _ ?_;(try generalize (G.w _).heap.size=bk);(try dsimp only[yi,yj]);(try clear g);intro g)
          go_loopw [29] (fun kv wr=>∃k:Nat,kv=.int .i64 (k:Int)∧k≤n∧∃g:G W [] ((rb,43,rcs)::(tb,43,[.bool s,.slice P x y,.slice Q u v])::(sc++R)) [F2,Fl,Fg],wr=g.w) (fun kv _=>n-(intOf kv).toNat)
          case atStart=>exact⟨0,rfl,by omega,g,rfl⟩
          case round=>
           clear g
           obtain⟨k,rfl,hk,g,rfl⟩:=hrel
           by_cases hkn:k<n
           ·have hki:(k:Int)<(n:Int):=by omega
            by_cases hik:i≤k
            ·have hiki:(i:Int)≤(k:Int):=by omega
             obtain⟨p,q,r,h3,hrt⟩:=HLN.out k hkn
             unfold rawM at hrt
             rw[facL_diag _ hik] at hrt
             obtain⟨s5,P5,m5,d5,Q5,m6,d6,rfl,rfl,rfl⟩:=hrt.shape
             obtain⟨p,q,r,hlk,hrt2⟩:=HL4.out.2 k hkn
             obtain⟨s7,P7,m7,d7,Q7,m8,d8,rfl,rfl,rfl⟩:=hrt2.shape
             obtain⟨z0,z1,z2⟩:=HRR.out.tri hlk
             have L1:∀(M:List Blk) (F1:Frag) (I:List Frag) (g:G W [] M (F1::Fl::I)),g.w.cell? ⟨b6,o6+k*3,none⟩=some (.bool s5):=fun M F1 I g=>(h3 _ _ _ _ g (InF.tail (InF.head _ _))).1
             have L2:∀(M:List Blk) (F1:Frag) (I:List Frag) (g:G W [] M (F1::Fl::I)),g.w.cell? ⟨b6,o6+k*3+1,none⟩=some (.slice P5 m5 d5):=fun M F1 I g=>(h3 _ _ _ _ g (InF.tail (InF.head _ _))).2.1
             have L3:∀(M:List Blk) (F1:Frag) (I:List Frag) (g:G W [] M (F1::Fl::I)),g.w.cell? ⟨b6,o6+k*3+2,none⟩=some (.slice Q5 m6 d6):=fun M F1 I g=>(h3 _ _ _ _ g (InF.tail (InF.head _ _))).2.2
             have HX:=Lib.hid hrt
             have HY:=Lib.hid (hrt2.mono HLE2.out)
             clear h3 hrt hrt2 hlk
             go_upto_region 36 with(with_reducible refine yq _ ?_;(try generalize (G.w _).heap.size=bk);(try dsimp only[yi,yj]);(try clear g);intro g)
             ((try simp only[G.drew_eq,G.drewN_eq]);(refine yq _ ?_;(try generalize (G.w _).heap.size=bk);(try dsimp only[yi,yj]);(try clear g);intro g))
             refine wp_region_held_drew (S:=(fun w'=>w'.cell? ⟨bl,i,none⟩=some (.slice (some ⟨b6,o6,none⟩) n kl)∧w'.cell? ⟨b6,o6+k*3,none⟩=some (.bool s5)∧w'.cell? ⟨b6,o6+k*3+1,none⟩=some (.slice P5 m5 d5)∧w'.cell? ⟨b6,o6+k*3+2,none⟩=some (.slice Q5 m6 d6)∧w'.cell? ⟨rb,k*3,none⟩=some (.bool s7)∧w'.cell? ⟨rb,k*3+1,none⟩=some (.slice P7 m7 d7)∧w'.cell? ⟨rb,k*3+2,none⟩=some (.slice Q7 m8 d8))) (by kernel_rfl) (by(simp[go_sem, *];done)) (fun hHeld=>?_)
             refine tk0 [0,1,2,3,4,5,6,7,8,9,10,11,12,13,14] ?_
             repeat (refine tkc rfl (by kernel_rfl) (fun _ _ _ h=>h) (by rfl) ‹_› (by intro w hSw;(try dsimp only at hSw);go_simp;(try with_reducible rfl)) ?_;try simp only[Act.put,yk,yl,yn,yo,yi,yj])
             refine tkn ?_
             refine wpAnyH_ready (rs:=[15]) (by kernel_rfl) (by simp) ?_
             refine AllReadyH.cons rfl (fun K hK=>?_) AllReadyH.nil
             ·(try simp only[Act.put,yk,yl,yn,yo,yi,yj])
              go_simp
              go_at_call 27
              (try(refine cmark _ ?_;(try dsimp only[yi,yj]);(try clear g);intro g))
              refine(rsame5_x (rawOf (oneM i k)) _ _ _ _ _ _ _ (G.rtI g (f:=Fl) (by simp) HX.out) (G.rtI g (f:=F2) (by simp) HY.out)).mono ?_
              rintro e w1 ⟨rfl,hb⟩
              obtain⟨g1,rfl⟩:=G.call_ex _ hb
              clear hb
              (try clear g)
              revert g1
              intro g
              refine hK.out _ _ (by(simp[go_sem, *];done)) (fun hHeld=>?_)
              clear hK K
              (try simp only[Act.put,yk,yl,yn,yo,yi,yj])
              refine tk0 [16,17] ?_
              repeat (refine tkc rfl (by kernel_rfl) (fun _ _ _ h=>h) (by rfl) ‹_› (by intro w hSw;(try dsimp only at hSw);go_simp;(try with_reducible rfl)) ?_;try simp only[Act.put,yk,yl,yn,yo,yi,yj])
              refine tkn ?_
              refine wpAnyH_done (by kernel_rfl) ?_ _
              (as_aux_lemma=>
               (try clear hHeld)
               ((try simp only[G.drew_eq,G.drewN_eq]);(refine yq _ ?_;(try generalize (G.w _).heap.size=bk);(try dsimp only[yi,yj]);(try clear g);intro g))
               go_wp2_with (with_reducible refine yq _ ?_;(try generalize (G.w _).heap.size=bk);(try dsimp only[yi,yj]);(try clear g);intro g)
               go_roundw
               case rel=>exact⟨k+1,by go_num,by omega,g,rfl⟩
               case measure=>simp[intOf]<;>omega)
            ·have hnd:decide ((i:Int)≤(k:Int))=false:=decide_eq_false (by omega)
             have hiki:¬ ((i:Int)≤(k:Int)):=by omega
             go_upto_region 36 with(with_reducible refine yq _ ?_;(try generalize (G.w _).heap.size=bk);(try dsimp only[yi,yj]);(try clear g);intro g)
             ((try simp only[G.drew_eq,G.drewN_eq]);(refine yq _ ?_;(try generalize (G.w _).heap.size=bk);(try dsimp only[yi,yj]);(try clear g);intro g))
             refine wp_region_held_drew (S:=(fun w'=>True)) (by kernel_rfl) (by trivial) (fun hHeld=>?_)
             refine tk0 [0,1,2,3,4,5,6,7,8,9,10,11,12,13,14,15,16,17] ?_
             repeat (first|(refine tkc rfl (by kernel_rfl) (fun _ _ _ h=>h) (by rfl) ‹_› (by intro w hSw;(try dsimp only at hSw);go_simp;(try with_reducible rfl)) ?_;try simp only[Act.put,yk,yl,yn,yo,yi,yj])|(refine tks rfl (by kernel_rfl) (fun _ _ _ h=>h) (by rfl) ‹_› ?_;try simp only[Act.put,yk,yl,yn,yo,yi,yj]))
             refine tkn ?_
             refine wpAnyH_done (by kernel_rfl) ?_ _
             (as_aux_lemma=>
              (try clear hHeld)
              ((try simp only[G.drew_eq,G.drewN_eq]);(refine yq _ ?_;(try generalize (G.w _).heap.size=bk);(try dsimp only[yi,yj]);(try clear g);intro g))
              go_wp2_with (with_reducible refine yq _ ?_;(try generalize (G.w _).heap.size=bk);(try dsimp only[yi,yj]);(try clear g);intro g)
              go_roundw
              case rel=>exact⟨k+1,by go_num,by omega,g,rfl⟩
              case measure=>simp[intOf]<;>omega)
           ·obtain⟨rfl⟩:k=n:=by omega
            have hx1:i+1≤maxLen:=by show i+1≤9223372036854775807;omega
            have hx2:(i+1)*24≤140737488355328:=by omega
            obtain⟨p,q,r,hlk,_⟩:=HL4.out.2 i hin
            obtain⟨z0,z1,z2⟩:=HRR.out.tri hlk
            have hvc:=HV.out
            clear hlk
            go_upto_region 40 with(first|(with_reducible refine yq _ ?_;(try generalize (G.w _).heap.size=bk);(try dsimp only[yi,yj]);(try clear g);intro g)|(at_builtin;refine wpList_append_v rfl _ _ 29 rfl 38 j0 _ 1 24 Tryz.underlying29 hj0 hy0 hy1 hy2 rfl (by decide) 3 g (Rr:=sc) (R':=R) (by rfl) hvc (by rfl) (by exact List.mem_cons_self ..) 1 (by rfl) rfl (one_cell5 _ rfl) (by decide) hx1 hx2 ?_;clear hvc;(try clear g);intro b2 cap2 cs2 g hb2 hrow2;revert g;dsimp only[List.take,List.cons_append,List.nil_append];intro g))
            ((try simp only[G.drew_eq,G.drewN_eq]);(refine yq _ ?_;(try generalize (G.w _).heap.size=bk);(try dsimp only[yi,yj]);(try clear g);intro g))
            have hxl:xs.length=i:=by
             have:=hrow2.xl
             simp at this
             omega
            have HXL:=Lib.hid hxl
            clear hxl z0 z1 z2
            refine wp_region_held_drew (S:=(fun w'=>w'.cell? ⟨bd,i*3,none⟩=some (.bool false)∧w'.cell? ⟨bd,i*3+1,none⟩=some (.slice P3 m3 d3)∧w'.cell? ⟨bd,i*3+2,none⟩=some (.slice Q3 m4 d4))) (by kernel_rfl) (by(simp[go_sem, *];done)) (fun hHeld=>?_)
            refine tk0 [1,2,3,4] ?_
            repeat (refine tkc rfl (by kernel_rfl) (fun _ _ _ h=>h) (by rfl) ‹_› (by intro w hSw;(try dsimp only at hSw);go_simp;(try with_reducible rfl)) ?_;try simp only[Act.put,yk,yl,yn,yo,yi,yj])
            refine tkn ?_
            refine wpAnyH_ready (rs:=[0]) (by kernel_rfl) (by simp) ?_
            refine AllReadyH.cons rfl (fun K hK=>?_) AllReadyH.nil
            ·(try simp only[Act.put,yk,yl,yn,yo,yi,yj])
             go_simp
             refine hK.out _ _ (by(simp[go_sem, *];done)) (fun hHeld=>?_)
             clear hK K
             (try simp only[Act.put,yk,yl,yn,yo,yi,yj])
             refine wpAnyH_ready (rs:=[5]) (by kernel_rfl) (by simp) ?_
             refine AllReadyH.cons rfl (fun K hK=>?_) AllReadyH.nil
             ·(try simp only[Act.put,yk,yl,yn,yo,yi,yj])
              go_simp
              go_at_call 48
              (try(refine cmark _ ?_;(try dsimp only[yi,yj]);(try clear g);intro g))
              refine(CTM.out _ _ _ _ _ _ _ (G.rtI g (f:=F2) (by simp) (HDET.out.mono HLE1.out)) (G.rtI g (f:=Fl) (by simp) HFD.out)).mono ?_
              rintro e w1 ⟨pt,qt,rt,Ft,rfl,ht,hn⟩
              have hnnt:=fun k o hk=>Nat.le_trans g.chg.size (hn.new k o hk)
              obtain⟨st,At,nt,ct,Bt,dt,kt,rfl,rfl,rfl⟩:=ht.shape
              obtain⟨g1,rfl⟩:=G.new_ex _ hn
              clear hn
              (try clear g)
              revert g1
              intro g
              refine hK.out _ _ (by(simp[go_sem, *];done)) (fun hHeld=>?_)
              clear hK K
              (try simp only[Act.put,yk,yl,yn,yo,yi,yj])
              refine wpAnyH_ready (rs:=[6]) (by kernel_rfl) (by simp) ?_
              refine AllReadyH.cons rfl (fun K hK=>?_) AllReadyH.nil
              ·(try simp only[Act.put,yk,yl,yn,yo,yi,yj])
               go_simp
               refine hK.out _ _ (by(simp[go_sem, *];done)) (fun hHeld=>?_)
               clear hK K
               (try simp only[Act.put,yk,yl,yn,yo,yi,yj])
               refine wpAnyH_done (by kernel_rfl) ?_ _
               (as_aux_lemma=>
                (try clear hHeld)
                ((try simp only[G.drew_eq,G.drewN_eq]);(refine yq _ ?_;(try generalize (G.w _).heap.size=bk);(try dsimp only[yi,yj]);(try clear g);intro g))
                go_wp2_with (with_reducible refine yq _ ?_;(try generalize (G.w _).heap.size=bk);(try dsimp only[yi,yj]);(try clear g);intro g)
                obtain⟨F',g3,e3,hle,hle2,hnew⟩:=g.merge
                obtain⟨g4,e4⟩:=g3.less (List.sublist_cons_self _ _)
                obtain⟨g5,e5⟩:=g4.perm ((List.Perm.swap _ _ _).trans ((List.Perm.swap _ _ _).cons _))
                rw[e3,e4,e5]
                go_roundw
                case rel=>
                 have hfl:Fl.le F':=Frag.le_trans HFL.out (Frag.le_trans HLE1.out hle)
                 refine⟨i+1,by go_num,by omega,cap2,_,_,[(b2,_,cs2)],(rb,43,((rcs.set (i*3) (.bool false)).set (i*3+1) (.slice P3 m3 d3)).set (i*3+2) (.slice Q3 m4 d4))::R,F',_,_,_,_,_,_,_,rfl,Lib.hid (RowV.row hrow2 hb2),Lib.hid (HO.out.more (v:=.slice (some ⟨rb,0,none⟩) n c4) (s:=[(rb,43,((rcs.set (i*3) (.bool false)).set (i*3+1) (.slice P3 m3 d3)).set (i*3+2) (.slice Q3 m4 d4))]) (by rw[←HXL.out];simp) ?_ (fun j hj=>List.getElem?_append_left (by have:=HXL.out;omega)) (fun j' hj v s hq=>NumRow.mono hq (Frag.le_trans HLE1.out hle))),Lib.hid (ht.mono hle2),Lib.hid (fun k' o hk'=>(hnew k' o hk').elim (HNW2.out k' o) (hnnt k' o)),Lib.hid hfl,g5,rfl⟩
                 refine NumRow.of (l:=l4.set i (.bool false,.slice P3 m3 d3,.slice Q3 m4 d4)) (RowV.row (HRR.out.setTri hin HL4.out.1 _ _ _) hrbW) (Frag.Tris.set (HL4.out.mono (Frag.le_trans HLE2.out hle)) hin ?_ (fun j hj hji=>?_))
                 ·unfold rawM diagM
                  rw[if_pos rfl]
                  exact HFD.out.mono hfl
                 ·unfold rawM diagM oneM
                  rw[if_neg (Ne.symm hji),if_neg (Ne.symm hji)]
                case measure=>simp[intOf]<;>omega))
        ·obtain⟨rfl⟩:i=n:=by omega
         subst hfD
         have hd0:∀j,j<n→facD (gramM m za) j≠0:=fun j hj e=>by
          have:=HPOS.out j hj
          rw[e] at this
          exact absurd this (Rat.lt_irrefl)
         obtain⟨g1,e1⟩:=g.perm (M':=sc++(R++[(tb,43,[.bool s,.slice P x y,.slice Q u v])])) (by have:=(List.perm_append_singleton (tb,43,[Value.bool s,.slice P x y,.slice Q u v]) (sc++R)).symm;simpa [List.append_assoc] using this)
         obtain⟨F5,bdg,g2,rfl,e2,hdm,hle5,_⟩:=g1.freezeV HV.out HO.out (by omega) (by omega) (fun _ _=>by omega)
         rw[e1,e2]
         have hdet5:=HDET.out.mono hle5
         clear e1 e2 g1 g HV HO HDET HFL hle5
         revert g2
         intro g
         have hdb:∀i,i<n→∀k,k<n→Bd 8192 (diagM (facD (gramM m za)) i k):=fun i hi k hk=>by
          unfold diagM
          split
          ·exact HSZ.out.d i hi
          ·exact bd_zero
         have hpb:∀i,i<n→∀t,t<n→∀j,j<n→Bd 8192 (facL (gramM m za) i t*diagM (facD (gramM m za)) t j):=fun i hi t ht j hj=>by
          unfold diagM
          split
          ·exact HSZ.out.ld i hi t ht
          ·rw[Rat.mul_zero]
           exact bd_zero
         have hsb:∀i,i<n→∀j,j<n→∀t,t≤n→Bd 8192 (sumN t (fun l=>facL (gramM m za) i l*diagM (facD (gramM m za)) l j)):=fun i hi j hj t ht=>by
          rw[sumN_one j _ (fun l hl hlj=>by unfold diagM;rw[if_neg hlj,Rat.mul_zero])]
          split
          ·exact hpb i hi j hj j hj
          ·exact bd_zero
         have hb3:∀i,i<n→∀t,t<n→∀k,k<n→Bd 8192 (mulM n (facL (gramM m za)) (diagM (facD (gramM m za))) i t*trM (facL (gramM m za)) t k):=fun i hi t ht k hk=>by
          rw[mul_diag _ _ _ ht]
          exact HSZ.out.ldl i hi k hk t ht
         have hb4:∀i,i<n→∀k,k<n→∀t,t≤n→Bd 8192 (sumN t (fun l=>mulM n (facL (gramM m za)) (diagM (facD (gramM m za))) i l*trM (facL (gramM m za)) l k)):=fun i hi k hk t ht=>by
          rw[sumN_congr (g:=fun l=>facL (gramM m za) i l*facD (gramM m za) l*facL (gramM m za) k l) (fun l hl=>by rw[mul_diag _ _ _ (Nat.lt_of_lt_of_le hl ht)];rfl)]
          exact HSZ.out.lds i hi k hk t ht
         (as_aux_lemma=>
          go_wp2_with (with_reducible refine yq _ ?_;(try generalize (G.w _).heap.size=bk);(try dsimp only[yi,yj]);(try clear g);intro g)
          refine(Turn_r n n (facL (gramM m za)) _ _ _ (HL.out.mono (g.sub _ (by simp))) (G.tab g HT.out) n1 (by omega) n1 (by omega) HSZ.out.l).mono ?_
          rintro e w1 ⟨bfl,cfl,Ffl,rfl,hfl,hn⟩
          have hnnfl:=fun k o hk=>Nat.le_trans g.chg.size (hn.new k o hk)
          obtain⟨g1,rfl⟩:=G.new_ex _ hn
          clear hn
          (try clear g)
          revert g1
          intro g
          go_wp2_with (with_reducible refine yq _ ?_;(try generalize (G.w _).heap.size=bk);(try dsimp only[yi,yj]);(try clear g);intro g)
          refine(Mul_r n n n (facL (gramM m za)) (diagM (facD (gramM m za))) _ _ _ _ _ (HL.out.mono (g.sub _ (by simp))) (hdm.mono (g.sub _ (by simp))) (G.tab g HT.out) n1 (by omega) n1 (by omega) n1 (by omega) HSZ.out.l hdb hpb hsb).mono ?_
          rintro e w1 ⟨bx1,cx1,Fx1,rfl,hx1,hn⟩
          have hnnx1:=fun k o hk=>Nat.le_trans g.chg.size (hn.new k o hk)
          obtain⟨g1,rfl⟩:=G.new_ex _ hn
          clear hn
          (try clear g)
          revert g1
          intro g
          go_wp2_with (with_reducible refine yq _ ?_;(try generalize (G.w _).heap.size=bk);(try dsimp only[yi,yj]);(try clear g);intro g)
          refine(Mul_r n n n (mulM n (facL (gramM m za)) (diagM (facD (gramM m za)))) (trM (facL (gramM m za))) _ _ _ _ _ (hx1.mono (g.sub _ (by simp))) (hfl.mono (g.sub _ (by simp))) (G.tab g HT.out) n1 (by omega) n1 (by omega) n1 (by omega) (fun i hi j hj=>hsb i hi j hj n (Nat.le_refl n)) (fun i hi j hj=>HSZ.out.l j hj i hi) hb3 hb4).mono ?_
          rintro e w1 ⟨by1,cy1,Fy1,rfl,hy1,hn⟩
          have hnny1:=fun k o hk=>Nat.le_trans g.chg.size (hn.new k o hk)
          obtain⟨g1,rfl⟩:=G.new_ex _ hn
          clear hn
          (try clear g)
          revert g1
          intro g
          have hy2:=hy1.congr (y:=rawM (gramM m za)) (fun _ _=>rfl) (fun i hi j hj=>congrArg rawOf (fac_mul hsym hd0 hi hj))
          go_wp2_with (with_reducible refine yq _ ?_;(try generalize (G.w _).heap.size=bk);(try dsimp only[yi,yj]);(try clear g);intro g)
          refine(Det_r Fg n (gramM m za) _ _ _ (g.sub _ (by simp)) HG.out (G.tab g HT.out) n1 (by omega) (hqg.bd (by decide) (by decide)) (fine_prod n2 (hqg.bd (by decide) (by decide)))).mono ?_
          rintro e w1 ⟨pz,qz,rz,Fz,rfl,hz,hn⟩
          obtain⟨sz,Az,nz,cz,Bz,dz,kz,rfl,rfl,rfl⟩:=hz.shape
          obtain⟨g1,rfl,hoz⟩:=G.nor_ex _ (by simp) hn
          clear hn
          (try clear g)
          revert g1
          intro g
          rw[(detV_eq n2 (gramM m za)).trans (fac_det n2 hsym hd0)] at hz
          (as_aux_lemma=>
           go_wp2_with (with_reducible refine yq _ ?_;(try generalize (G.w _).heap.size=bk);(try dsimp only[yi,yj]);(try clear g);intro g)
           (try(refine cmark _ ?_;(try dsimp only[yi,yj]);(try clear g);intro g))
           refine(samemat_x n (fun _=>n) _ _ _ _ _ _ (hy2.mono (g.sub _ (by simp))) (HG.out.mono (g.sub _ (by simp))) (by omega) (fun _ _=>by omega)).mono ?_
           rintro e w1 ⟨rfl,hb⟩
           obtain⟨g1,rfl⟩:=G.call_ex _ hb
           clear hb
           (try clear g)
           revert g1
           intro g
           go_wp2_with (with_reducible refine yq _ ?_;(try generalize (G.w _).heap.size=bk);(try dsimp only[yi,yj]);(try clear g);intro g)
           refine(rsame5_x (rawOf (prodN n (facD (gramM m za)))) _ _ _ _ _ _ _ (G.rtI g (by simp) hz) (G.rtI g (by simp) hdet5)).mono ?_
           rintro e w1 ⟨rfl,hb⟩
           obtain⟨g1,rfl⟩:=G.call_ex _ hb
           clear hb
           (try clear g)
           revert g1
           intro g
           go_wp2_with (with_reducible refine yq _ ?_;(try generalize (G.w _).heap.size=bk);(try dsimp only[yi,yj]);(try clear g);intro g)
           go_ret
           exact⟨rfl,G.below _⟩))))
  ·obtain rfl:dd=false:=by
    cases dd
    ·rfl
    ·exact absurd (hdd.1 rfl) hr
   clear hdd
   refine(CFA.out _ _ _ (hg2.mono (g.sub _ (by simp))) (G.tab g HT.out)).mono ?_
   rintro e w1 (⟨hpos,_⟩|⟨_,rfl,hbl⟩)
   ·exact absurd (hpd.1 hpos) hr
   obtain⟨g1,rfl⟩:=G.call_ex _ hbl
   clear hbl g CFA hpd
   revert g1
   intro g
   have hri:((rk:Int)==(n:Int))=false:=by rw[beq_eq_false_iff_ne];omega
   clear hr
   go_wp2_with (with_reducible refine yq _ ?_;(try generalize (G.w _).heap.size=bk);(try dsimp only[yi,yj]);(try clear g);intro g)
   refine(CQ.out _ _ _ _ _ (hg2.mono (g.sub _ (by simp))) (hcr.mono (g.sub _ (by simp))) (G.tab g HT.out)).mono ?_
   rintro e w1 ⟨pq,qq,rq,Fq,rfl,hq,hn⟩
   have hnnq:=fun k o hk=>Nat.le_trans g.chg.size (hn.new k o hk)
   obtain⟨sq,Aq,nq,cq,Bq,dq,kq,rfl,rfl,rfl⟩:=hq.shape
   obtain⟨g1,rfl⟩:=G.new_ex _ hn
   clear hn
   (try clear g)
   revert g1
   intro g
   have hsq:sq=false:=by
    rw[rt_sign hq]
    unfold rneg
    have:=Rat.num_nonneg.2 (quad_nonneg n m za (zc 0))
    exact decide_eq_false (by omega)
   subst hsq
   clear CQ
   go_wp2_with (with_reducible refine yq _ ?_;(try generalize (G.w _).heap.size=bk);(try dsimp only[yi,yj]);(try clear g);intro g)
   go_ret
   exact⟨rfl,G.below _⟩)
end Go.Proofs.YthhbbnfnejjpiaaGreatDoor
