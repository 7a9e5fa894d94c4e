/- Plain facts and contracts of functions of the program, out of walks. Their conditions stand ahead of each. -/
import Derived.Test.YthhbbnfnejjpiaaGreatDoorNm34
import Derived.Below
import Derived.BigQuiet
import Derived.Deep.DeepCutAuto
import Derived.Deep.Draws
import Derived.Deep.LoopGhost
import Derived.Deep.QuietTactic
import Derived.Deep.RegionHeld3
import Derived.Deep.RegionLaw
import Derived.Defers
import Derived.Laws.BytesString
import Derived.Laws.Cells
import Derived.Laws.Concat
import Derived.Laws.CopyOwn
import Derived.Laws.CopyRow
import Derived.Laws.NewBlocks
import Derived.Laws.OwnMore
import Derived.Laws.Pointers
import Derived.Laws.Rows
import Derived.Lib.BitFns
import Derived.Lib.Hide
import Derived.Lib.ItoaNum
import Derived.Lib.SliceRun
import Derived.Lib.TrailingZeros
import Derived.LoopIn
import Derived.LoopNIn
import Derived.Maps.AppendAt
import Derived.OrdersHeld
import Derived.OrdersIn
import Derived.OwnWalk
import Derived.OwnWalkIn
import Derived.RangeFuncBound
import Derived.RangeFuncBox
import Derived.RangeFuncCalls
import Derived.RangeFuncLeaves
import Derived.RangeFuncNested
import Derived.RangeFuncWrites
import Derived.RowKit3
import Derived.Shelf.Abstract
import Derived.Shelf.RegionOpen
import Derived.Shelf.Spec.TrailingZeros
import Derived.StillTactics
import Derived.StillTailTactics
import Derived.TacticsInMore
import Derived.Test.YthhbbnfnejjpiaaGreatDoorProg
import Derived.WalkKit
import Derived.WalkLawsBesides
import Derived.WalkMore
import Derived.WalkSpells
set_option linter.unusedVariables false
set_option linter.unusedSimpArgs false
set_option exponentiation.threshold 10000
namespace Go.Proofs.YthhbbnfnejjpiaaGreatDoor
open Go.RowKit GW NL MX
theorem listE_okR {n:Nat}{v:Nat→Rat}(h:∀j,j<n→Bd 8192 (v j)):listE (rawR v) n=0:=listE_ok fun j hj=>numE_ok (h j hj)
set_option maxRecDepth 20000 in
set_option maxHeartbeats 8000000 in
theorem Quad_r (n:Nat)(a:Mx)(x:Nat→Rat)(A B:Option Addr)(c cB:Nat)(w:World)(hA:(heapOf w).Mt A c n (fun _=>n) (rawM a))(hB:RwW w B cB n (rawR x))(hT:Tab w)(n1:1≤n)(n2:n≤24)(hf:QuadFine n a x):
  Calls Tryz.prog 43 #[.slice A n c,.slice B n cB] w (RT (rawOf (quadM n a x)) 0 w):=by
 refine calls_b fun g=>?_
 unfold RT
 have HA:=Lib.hid hA
 have HB:=Lib.hid hB
 have HT:=Lib.hid hT
 have HF:=Lib.hid hf
 have CC:=Lib.hid (fun w h t=>mCheck_any A c n (fun _=>n) (rawM a) w h t)
 rw[matE_ok n1 n2 n1 n2 hf.fa] at CC
 have CL:=Lib.hid (fun w h t=>list_any B cB n (rawR x) w h t)
 rw[listE_okR hf.fx] at CL
 have CQ:=Lib.hid (fun w h=>square_any n n (rawM a) A c w h n1)
 rw[decide_eq_true rfl] at CQ
 have CR:=Lib.hid (fun sb w=>ring_any sb w)
 obtain⟨b,o,rfl,hrow⟩:=hA.rowAt n1
 have HR:Hid (∀i,i<n→∃ba oa k,w.cell? ⟨b,o+i,none⟩=some (.slice (some ⟨ba,oa,none⟩) n k)∧∀j,j<n→∃p q r,w.cell? ⟨ba,oa+j*3,none⟩=some p∧w.cell? ⟨ba,oa+j*3+1,none⟩=some q∧w.cell? ⟨ba,oa+j*3+2,none⟩=some r∧RtW w p q r (rawOf (a i j))):=Lib.hid (fun i hi=>by
  obtain⟨B,k,h1,h2⟩:=hrow i hi
  obtain⟨ba,oa,rfl,h3⟩:=h2.num n1
  refine⟨ba,oa,k,h1 _ _ _ _ (G.begin w) (InF.head _ _),fun j hj=>?_⟩
  obtain⟨p,q,r,h4,h5⟩:=h3 j hj
  have h6:=h4 _ _ _ _ (G.begin w) (InF.head _ _)
  exact⟨p,q,r,h6.1,h6.2.1,h6.2.2,h5⟩)
 have CF:Hid (∀(ab xb s2b sb:Nat) (M:List Blk) (I:List Frag) (g:G w [] M I),(ab,29,[Value.slice (some ⟨b,o,none⟩) n c])∈M→(xb,38,[Value.slice B n cB])∈M→(s2b,76,[Value.pointer (some ⟨sb,0,none⟩)])∈M→(sb,78,[Value.int .i64 0])∈M→Calls Tryz.prog 55 #[.slice B n cB,.agg #[.func (.func 59) #[.pointer (some ⟨sb,0,none⟩)] #[],.func (.func 99) #[.pointer (some ⟨sb,0,none⟩)] #[]],.func (.func 89) #[] #[.pointer (some ⟨xb,0,none⟩),.pointer (some ⟨s2b,0,none⟩),.pointer (some ⟨ab,0,none⟩)]] g.w (RT1 (rawOf (quadM n a x)) g.w)):=Lib.hid (fun ab xb s2b sb M I g m1 m2 m3 m4=>by
  refine fold_qo n (rawR x) x (fun i=>sumN n (fun k=>a i k*x k)) B cB _ _ _ sb g.w (hB.mono (heap_sub g.below)) (G.sumM g m4) (G.tab g hT) (fun i hi p q r w' hbl hv=>?_) hf.fx (fun i hi=>hf.fs i hi n (Nat.le_refl n)) hf.fq hf.fo
  refine quad1_r g.w i n c cB ab xb s2b sb b o B a x p q r w' (cell_of (g.own _ m1) rfl) (cell_of (g.own _ m2) rfl) (cell_of (g.own _ m3) rfl) (fun i hi=>?_) (hB.mono (heap_sub g.below)) (G.sumM g m4) (G.tab g hT) hf hi hv hbl
  obtain⟨ba,oa,k,e1,e2⟩:=HR.out i hi
  refine⟨ba,oa,k,Below.keepc g.below e1,fun j hj=>?_⟩
  obtain⟨p,q,r,y0,y1,y2,hy⟩:=e2 j hj
  exact⟨p,q,r,Below.keepc g.below y0,Below.keepc g.below y1,Below.keepc g.below y2,rt_below hy g.below⟩)
 unfold RT1 at CF
 generalize quadM n a x=S at*
 clear hA hB hT hf hrow HR
 go_enter Tryz.func43,Tryz.ntmps43
 go_wp2_with (with_reducible refine yq _ ?_;(try generalize (G.w _).heap.size=bk);(try dsimp only[yi,yj]);(try clear g);intro g)
 (try(refine cmark _ ?_;(try dsimp only[yi,yj]);(try clear g);intro g))
 refine(CC.out _ (HA.out.mono (g.sub _ (by simp))) (G.tab g HT.out)).mono ?_
 rintro e w1 ⟨rfl,hb⟩
 obtain⟨g1,rfl⟩:=G.call_ex _ hb
 clear hb
 (try clear g)
 revert g1
 intro g
 go_wp2_with (with_reducible refine yq _ ?_;(try generalize (G.w _).heap.size=bk);(try dsimp only[yi,yj]);(try clear g);intro g)
 refine(CL.out _ (HB.out.mono (g.sub _ (by simp))) (G.tab g HT.out)).mono ?_
 rintro e w1 ⟨rfl,hb⟩
 obtain⟨g1,rfl⟩:=G.call_ex _ hb
 clear hb
 (try clear g)
 revert g1
 intro g
 go_wp2_with (with_reducible refine yq _ ?_;(try generalize (G.w _).heap.size=bk);(try dsimp only[yi,yj]);(try clear g);intro g)
 refine(CQ.out _ (HA.out.mono (g.sub _ (by simp)))).mono ?_
 rintro e w1 ⟨rfl,hb⟩
 obtain⟨g1,rfl⟩:=G.call_ex _ hb
 clear hb
 (try clear g)
 revert g1
 intro g
 go_upto_region 10 with(with_reducible refine yq _ ?_;(try generalize (G.w _).heap.size=bk);(try dsimp only[yi,yj]);(try clear g);intro g)
 ((try simp only[G.drew_eq,G.drewN_eq]);(refine yq _ ?_;(try generalize (G.w _).heap.size=bk);(try dsimp only[yi,yj]);(try clear g);intro g))
 clear CC CL CQ
 refine wp_region_held_drew (S:=(G.heldN g [true,false,false,true])) (by kernel_rfl) (by(simp[G.heldN,HeldN,go_sem];done)) (fun hHeld=>?_)
 refine tk0 [0,1,3] ?_
 repeat (refine tkc rfl (by kernel_rfl) (fun _ _ _ h=>h) (by rfl) ‹_› (by intro w hSw;(try dsimp only at hSw);go_simp;(try with_reducible rfl)) ?_;try simp only[Act.put,yk,yl,yn,yo,yi,yj])
 refine tkn ?_
 refine wpAnyH_ready (rs:=[2,5]) (by kernel_rfl) (by simp) ?_
 refine AllReadyH.cons rfl (fun K hK=>?_) (AllReadyH.cons rfl (fun K hK=>?_) AllReadyH.nil)
 ·(try simp only[Act.put,yk,yl,yn,yo,yi,yj])
  go_simp
  go_at_call 56
  (try(refine cmark _ ?_;(try dsimp only[yi,yj]);(try clear g);intro g))
  refine(CR.out _ _).mono ?_
  rintro e w1 ⟨rfl,hb⟩
  obtain⟨g1,rfl⟩:=G.call_ex _ hb
  clear hb
  (try clear g)
  revert g1
  intro g
  refine hK.out _ _ (by(simp[G.heldN,HeldN,go_sem];done)) (fun hHeld=>?_)
  clear hK K
  (try simp only[Act.put,yk,yl,yn,yo,yi,yj])
  refine wpAnyH_ready (rs:=[4,5]) (by kernel_rfl) (by simp) ?_
  refine AllReadyH.cons rfl (fun K hK=>?_) (AllReadyH.cons rfl (fun K hK=>?_) AllReadyH.nil)
  ·(try simp only[Act.put,yk,yl,yn,yo,yi,yj])
   go_simp
   go_at_call 55
   (try(refine cmark _ ?_;(try dsimp only[yi,yj]);(try clear g);intro g))
   refine(CF.out _ _ _ _ _ _ g (by simp) (by simp) (by simp) (by simp)).mono ?_
   rintro e w1 ⟨pf,qf,rf,Ff,rfl,hf,hn⟩
   have hnnf:=fun k o hk=>Nat.le_trans g.chg.size (hn.new k o hk)
   obtain⟨sf,Af,nf,cf,Bf,df,kf,rfl,rfl,rfl⟩:=hf.shape
   obtain⟨g1,rfl⟩:=G.new_ex _ hn
   clear hn
   (try clear g)
   revert g1
   intro g
   refine hK.out _ _ (by(simp[G.heldN,HeldN,go_sem];done)) (fun hHeld=>?_)
   clear hK K
   (try simp only[Act.put,yk,yl,yn,yo,yi,yj])
   refine wpAnyH_ready (rs:=[5]) (by kernel_rfl) (by simp) ?_
   refine AllReadyH.cons rfl (fun K hK=>?_) AllReadyH.nil
   ·(try simp only[Act.put,yk,yl,yn,yo,yi,yj])
    go_simp
    refine hK.out _ _ (by(simp[G.heldN,HeldN,go_sem];done)) (fun hHeld=>?_)
    clear hK K
    (try simp only[Act.put,yk,yl,yn,yo,yi,yj])
    refine wpAnyH_ready (rs:=[6]) (by kernel_rfl) (by simp) ?_
    refine AllReadyH.cons rfl (fun K hK=>?_) AllReadyH.nil
    ·(try simp only[Act.put,yk,yl,yn,yo,yi,yj])
     go_simp
     refine hK.out _ _ (by(simp[G.heldN,HeldN,go_sem];done)) (fun hHeld=>?_)
     clear hK K
     (try simp only[Act.put,yk,yl,yn,yo,yi,yj])
     refine wpAnyH_done (by kernel_rfl) ?_ _
     (as_aux_lemma=>
      (try clear hHeld)
      clear CF CR
      ((try simp only[G.drew_eq,G.drewN_eq]);(refine yq _ ?_;(try generalize (G.w _).heap.size=bk);(try dsimp only[yi,yj]);(try clear g);intro g))
      go_wp2_with (with_reducible refine yq _ ?_;(try generalize (G.w _).heap.size=bk);(try dsimp only[yi,yj]);(try clear g);intro g)
      refine bodyPost_ret (v:=.tuple #[.agg #[.bool sf,.slice Af nf cf,.slice Bf df kf],.int .i64 0]) (by simp[results,Tryz.results43,go_sem]) rfl ?_
      exact⟨_,_,_,_,rfl,hf,G.below _,G.sub _ _ (by simp),hnnf⟩)
  ·(try simp only[Act.put,yk,yl,yn,yo,yi,yj])
   go_simp
   refine hK.out _ _ (by(simp[G.heldN,HeldN,go_sem];done)) (fun hHeld=>?_)
   clear hK K
   (try simp only[Act.put,yk,yl,yn,yo,yi,yj])
   refine wpAnyH_ready (rs:=[4]) (by kernel_rfl) (by simp) ?_
   refine AllReadyH.cons rfl (fun K hK=>?_) AllReadyH.nil
   ·(try simp only[Act.put,yk,yl,yn,yo,yi,yj])
    go_simp
    go_at_call 55
    (try(refine cmark _ ?_;(try dsimp only[yi,yj]);(try clear g);intro g))
    refine(CF.out _ _ _ _ _ _ g (by simp) (by simp) (by simp) (by simp)).mono ?_
    rintro e w1 ⟨pf,qf,rf,Ff,rfl,hf,hn⟩
    have hnnf:=fun k o hk=>Nat.le_trans g.chg.size (hn.new k o hk)
    obtain⟨sf,Af,nf,cf,Bf,df,kf,rfl,rfl,rfl⟩:=hf.shape
    obtain⟨g1,rfl⟩:=G.new_ex _ hn
    clear hn
    (try clear g)
    revert g1
    intro g
    refine hK.out _ _ (by(simp[G.heldN,HeldN,go_sem];done)) (fun hHeld=>?_)
    clear hK K
    (try simp only[Act.put,yk,yl,yn,yo,yi,yj])
    refine wpAnyH_ready (rs:=[6]) (by kernel_rfl) (by simp) ?_
    refine AllReadyH.cons rfl (fun K hK=>?_) AllReadyH.nil
    ·(try simp only[Act.put,yk,yl,yn,yo,yi,yj])
     go_simp
     refine hK.out _ _ (by(simp[G.heldN,HeldN,go_sem];done)) (fun hHeld=>?_)
     clear hK K
     (try simp only[Act.put,yk,yl,yn,yo,yi,yj])
     refine wpAnyH_done (by kernel_rfl) ?_ _
     (as_aux_lemma=>
      (try clear hHeld)
      clear CF CR
      ((try simp only[G.drew_eq,G.drewN_eq]);(refine yq _ ?_;(try generalize (G.w _).heap.size=bk);(try dsimp only[yi,yj]);(try clear g);intro g))
      go_wp2_with (with_reducible refine yq _ ?_;(try generalize (G.w _).heap.size=bk);(try dsimp only[yi,yj]);(try clear g);intro g)
      refine bodyPost_ret (v:=.tuple #[.agg #[.bool sf,.slice Af nf cf,.slice Bf df kf],.int .i64 0]) (by simp[results,Tryz.results43,go_sem]) rfl ?_
      exact⟨_,_,_,_,rfl,hf,G.below _,G.sub _ _ (by simp),hnnf⟩)
 ·(try simp only[Act.put,yk,yl,yn,yo,yi,yj])
  go_simp
  refine hK.out _ _ (by(simp[G.heldN,HeldN,go_sem];done)) (fun hHeld=>?_)
  clear hK K
  (try simp only[Act.put,yk,yl,yn,yo,yi,yj])
  refine wpAnyH_ready (rs:=[2]) (by kernel_rfl) (by simp) ?_
  refine AllReadyH.cons rfl (fun K hK=>?_) AllReadyH.nil
  ·(try simp only[Act.put,yk,yl,yn,yo,yi,yj])
   go_simp
   go_at_call 56
   (try(refine cmark _ ?_;(try dsimp only[yi,yj]);(try clear g);intro g))
   refine(CR.out _ _).mono ?_
   rintro e w1 ⟨rfl,hb⟩
   obtain⟨g1,rfl⟩:=G.call_ex _ hb
   clear hb
   (try clear g)
   revert g1
   intro g
   refine hK.out _ _ (by(simp[G.heldN,HeldN,go_sem];done)) (fun hHeld=>?_)
   clear hK K
   (try simp only[Act.put,yk,yl,yn,yo,yi,yj])
   refine wpAnyH_ready (rs:=[4]) (by kernel_rfl) (by simp) ?_
   refine AllReadyH.cons rfl (fun K hK=>?_) AllReadyH.nil
   ·(try simp only[Act.put,yk,yl,yn,yo,yi,yj])
    go_simp
    go_at_call 55
    (try(refine cmark _ ?_;(try dsimp only[yi,yj]);(try clear g);intro g))
    refine(CF.out _ _ _ _ _ _ g (by simp) (by simp) (by simp) (by simp)).mono ?_
    rintro e w1 ⟨pf,qf,rf,Ff,rfl,hf,hn⟩
    have hnnf:=fun k o hk=>Nat.le_trans g.chg.size (hn.new k o hk)
    obtain⟨sf,Af,nf,cf,Bf,df,kf,rfl,rfl,rfl⟩:=hf.shape
    obtain⟨g1,rfl⟩:=G.new_ex _ hn
    clear hn
    (try clear g)
    revert g1
    intro g
    refine hK.out _ _ (by(simp[G.heldN,HeldN,go_sem];done)) (fun hHeld=>?_)
    clear hK K
    (try simp only[Act.put,yk,yl,yn,yo,yi,yj])
    refine wpAnyH_ready (rs:=[6]) (by kernel_rfl) (by simp) ?_
    refine AllReadyH.cons rfl (fun K hK=>?_) AllReadyH.nil
    ·(try simp only[Act.put,yk,yl,yn,yo,yi,yj])
     go_simp
     refine hK.out _ _ (by(simp[G.heldN,HeldN,go_sem];done)) (fun hHeld=>?_)
     clear hK K
     (try simp only[Act.put,yk,yl,yn,yo,yi,yj])
     refine wpAnyH_done (by kernel_rfl) ?_ _
     (as_aux_lemma=>
      (try clear hHeld)
      clear CF CR
      ((try simp only[G.drew_eq,G.drewN_eq]);(refine yq _ ?_;(try generalize (G.w _).heap.size=bk);(try dsimp only[yi,yj]);(try clear g);intro g))
      go_wp2_with (with_reducible refine yq _ ?_;(try generalize (G.w _).heap.size=bk);(try dsimp only[yi,yj]);(try clear g);intro g)
      refine bodyPost_ret (v:=.tuple #[.agg #[.bool sf,.slice Af nf cf,.slice Bf df kf],.int .i64 0]) (by simp[results,Tryz.results43,go_sem]) rfl ?_
      exact⟨_,_,_,_,rfl,hf,G.below _,G.sub _ _ (by simp),hnnf⟩)
theorem quad_fine64 {n:Nat}{a:Mx}{x:Nat→Rat}(hn:n≤4)(ha:∀i,i<n→∀k,k<n→Bd 64 (a i k))(hx:∀k,k<n→Bd 64 (x k)):QuadFine n a x:=by
 have hp:∀i,i<n→∀k,k<n→Qn 128 128 (a i k*x k):=fun i hi k hk=>(Bd.qn (ha i hi k hk)).mul (Bd.qn (hx k hk))
 have hs:∀i,i<n→∀t,t≤n→Qn 1028 512 (sumN t (fun k=>a i k*x k)):=fun i hi t ht=>(qn_sum (m:=t) (fun k hk=>hp i hi k (by omega))).mono (by omega) (by omega)
 have hq:∀i,i<n→Qn 1092 576 (x i*sumN n (fun k=>a i k*x k)):=fun i hi=>((Bd.qn (hx i hi)).mul (hs i hi n (Nat.le_refl n))).mono (by omega) (by omega)
 exact⟨fun i hi k hk=>(ha i hi k hk).mono (by decide),fun k hk=>(hx k hk).mono (by decide),fun i hi k hk=>(hp i hi k hk).bd' (by decide) (by decide),fun i hi t ht=>(hs i hi t ht).bd' (by decide) (by decide),fun i hi=>(hq i hi).bd' (by decide) (by decide),fun t ht=>(qn_sum (m:=t) (fun i hi=>hq i (by omega))).bd' (by omega) (by omega)⟩
end Go.Proofs.YthhbbnfnejjpiaaGreatDoor
