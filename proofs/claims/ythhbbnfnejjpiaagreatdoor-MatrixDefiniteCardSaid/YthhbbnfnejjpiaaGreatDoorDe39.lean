/- Plain facts and contracts of functions of the program, out of walks. Their conditions stand ahead of each. -/
import Derived.Test.YthhbbnfnejjpiaaGreatDoorDe5
import Derived.Test.YthhbbnfnejjpiaaGreatDoorDe29
import Derived.Test.YthhbbnfnejjpiaaGreatDoorDe37
import Derived.Below
import Derived.BigQuiet
import Derived.Deep.DeepCutAuto
import Derived.Deep.Draws
import Derived.Deep.LoopGhost
import Derived.Deep.QuietTactic
import Derived.Deep.RegionHeld3
import Derived.Deep.RegionLaw
import Derived.Defers
import Derived.Laws.BytesString
import Derived.Laws.Cells
import Derived.Laws.Concat
import Derived.Laws.CopyOwn
import Derived.Laws.CopyRow
import Derived.Laws.NewBlocks
import Derived.Laws.OwnMore
import Derived.Laws.Pointers
import Derived.Laws.Rows
import Derived.Lib.BitFns
import Derived.Lib.Hide
import Derived.Lib.ItoaNum
import Derived.Lib.SliceRun
import Derived.Lib.TrailingZeros
import Derived.LoopIn
import Derived.LoopNIn
import Derived.Maps.AppendAt
import Derived.OrdersHeld
import Derived.OrdersIn
import Derived.OwnWalk
import Derived.OwnWalkIn
import Derived.RangeFuncBound
import Derived.RangeFuncBox
import Derived.RangeFuncCalls
import Derived.RangeFuncLeaves
import Derived.RangeFuncNested
import Derived.RangeFuncWrites
import Derived.RowKit3
import Derived.Shelf.Abstract
import Derived.Shelf.RegionOpen
import Derived.Shelf.Spec.TrailingZeros
import Derived.StillTactics
import Derived.StillTailTactics
import Derived.TacticsInMore
import Derived.Test.YthhbbnfnejjpiaaGreatDoorProg
import Derived.WalkKit
import Derived.WalkLawsBesides
import Derived.WalkMore
import Derived.WalkSpells
set_option linter.unusedVariables false
set_option linter.unusedSimpArgs false
set_option exponentiation.threshold 10000
namespace Go.Proofs.YthhbbnfnejjpiaaGreatDoor
open Go.RowKit GW NL MX
theorem below2 {a b c:World}(h:Below a.heap.size a b)(k:Below b.heap.size b c):Below a.heap.size a c:=((Chg.of_below h).trans (Chg.of_below k)).below
theorem heap_sub {w0 w:World}(b:Below w0.heap.size w0 w):(heapOf w0).sub w:=fun k o hk=>by
 have h1:k<w0.heap.size:=Frag.lt (f:=heapOf w0) (w:=w0) (fun _ _ h=>h) hk
 rw[b.block k h1]
 exact hk
set_option maxRecDepth 20000 in
set_option maxHeartbeats 4000000 in
theorem quad11_r (w0:World)(i k n c ab ib b o ba oa cr:Nat)(s1:Bool)(A1 B1:Option Addr)(n1 c1 d1 k1:Nat)(t u:Raw)(p q r:Value)(w:World)
  (h1:w.cell? ⟨ab,0,none⟩=some (.slice (some ⟨b,o,none⟩) n c)) (h2:w.cell? ⟨ib,0,none⟩=some (.int .i64 (i:Int))) (h3:w.cell? ⟨b,o+i,none⟩=some (.slice (some ⟨ba,oa,none⟩) n cr))
  (h7:w.cell? ⟨ba,oa+k*3,none⟩=some (.bool s1)) (h8:w.cell? ⟨ba,oa+k*3+1,none⟩=some (.slice A1 n1 c1)) (h9:w.cell? ⟨ba,oa+k*3+2,none⟩=some (.slice B1 d1 k1))
  (hx:RtW w0 (.bool s1) (.slice A1 n1 c1) (.slice B1 d1 k1) t) (hi:i<n) (hk:k<n) (hv:RtW w0 p q r u) (hb:Below w0.heap.size w0 w):
  Calls Tryz.prog 90 #[.int .i64 (k:Int),.agg #[p,q,r],.pointer (some ⟨ab,0,none⟩),.pointer (some ⟨ib,0,none⟩)] w (RT2 t u (heapOf w0) w):=by
 refine calls_b fun g=>?_
 have hii:(i:Int)<(n:Int):=by omega
 have hki:(k:Int)<(n:Int):=by omega
 obtain⟨s3,A3,n3,c3,B3,d3,k3,rfl,rfl,rfl⟩:=hv.shape
 unfold RT2
 have HX:=Lib.hid hx
 have HV:=Lib.hid hv
 have HB:=Lib.hid hb
 have E1:=fun(M:List Blk) (I:List Frag) (g:G w [] M I)=>G.keepc g h1
 have E2:=fun(M:List Blk) (I:List Frag) (g:G w [] M I)=>G.keepc g h2
 have E3:=fun(M:List Blk) (I:List Frag) (g:G w [] M I)=>G.keepc g h3
 have E7:=fun(M:List Blk) (I:List Frag) (g:G w [] M I)=>G.keepc g h7
 have E8:=fun(M:List Blk) (I:List Frag) (g:G w [] M I)=>G.keepc g h8
 have E9:=fun(M:List Blk) (I:List Frag) (g:G w [] M I)=>G.keepc g h9
 clear hx hv hb hi hk h1 h2 h3 h7 h8 h9
 go_enter Tryz.func90,Tryz.ntmps90
 go_upto_region 1 with(with_reducible refine yq _ ?_;(try generalize (G.w _).heap.size=bk);(try dsimp only[yi,yj]);(try clear g);intro g)
 ((try simp only[G.drew_eq,G.drewN_eq]);(refine yq _ ?_;(try generalize (G.w _).heap.size=bk);(try dsimp only[yi,yj]);(try clear g);intro g))
 refine wp_region_held_drew (S:=(fun w'=>(G.heldN g [false,false,true]) w'∧w'.cell? ⟨ab,0,none⟩=some (.slice (some ⟨b,o,none⟩) n c)∧w'.cell? ⟨ib,0,none⟩=some (.int .i64 (i:Int))∧w'.cell? ⟨b,o+i,none⟩=some (.slice (some ⟨ba,oa,none⟩) n cr)∧w'.cell? ⟨ba,oa+k*3,none⟩=some (.bool s1)∧w'.cell? ⟨ba,oa+k*3+1,none⟩=some (.slice A1 n1 c1)∧w'.cell? ⟨ba,oa+k*3+2,none⟩=some (.slice B1 d1 k1))) (by kernel_rfl) (by(simp[G.heldN,HeldN,go_sem, *];done)) (fun hHeld=>?_)
 refine tk0 [0,1,2,3,4,5,6,7] ?_
 repeat (refine tkc rfl (by kernel_rfl) (fun _ _ _ h=>h) (by rfl) ‹_› (by intro w hSw;(try dsimp only at hSw);go_simp;(try with_reducible rfl)) ?_;try simp only[Act.put,yk,yl,yn,yo,yi,yj])
 refine tkn ?_
 refine wpAnyH_ready (rs:=[8]) (by kernel_rfl) (by simp) ?_
 refine AllReadyH.cons rfl (fun K hK=>?_) AllReadyH.nil
 ·(try simp only[Act.put,yk,yl,yn,yo,yi,yj])
  go_simp
  refine hK.out _ _ (by(simp[G.heldN,HeldN,go_sem, *];done)) (fun hHeld=>?_)
  clear hK K
  (try simp only[Act.put,yk,yl,yn,yo,yi,yj])
  refine wpAnyH_ready (rs:=[9]) (by kernel_rfl) (by simp) ?_
  refine AllReadyH.cons rfl (fun K hK=>?_) AllReadyH.nil
  ·(try simp only[Act.put,yk,yl,yn,yo,yi,yj])
   go_simp
   refine hK.out _ _ (by(simp[G.heldN,HeldN,go_sem, *];done)) (fun hHeld=>?_)
   clear hK K
   (try simp only[Act.put,yk,yl,yn,yo,yi,yj])
   refine wpAnyH_done (by kernel_rfl) ?_ _
   (as_aux_lemma=>
    (try clear hHeld)
    clear E1 E2 E3 E7 E8 E9
    ((try simp only[G.drew_eq,G.drewN_eq]);(refine yq _ ?_;(try generalize (G.w _).heap.size=bk);(try dsimp only[yi,yj]);(try clear g);intro g))
    go_wp2_with (with_reducible refine yq _ ?_;(try generalize (G.w _).heap.size=bk);(try dsimp only[yi,yj]);(try clear g);intro g)
    refine bodyPost_ret (v:=.tuple #[.agg #[.bool s1,.slice A1 n1 c1,.slice B1 d1 k1],.agg #[.bool s3,.slice A3 n3 c3,.slice B3 d3 k3]]) (by simp[results,Tryz.results90,go_sem]) rfl ?_
    exact⟨_,_,_,_,_,_,heapOf w0,rfl,HX.out,HV.out,G.below _,fun k o hk=>heap_sub (w0:=w0) (below2 HB.out (G.below g)) k o hk,fun k o hk=> .inl hk⟩)
/-- the sizes that a quadratic form needs -/
structure QuadFine (n:Nat)(a:Mx)(x:Nat→Rat):Prop where
 fa:∀i,i<n→∀k,k<n→Bd 8192 (a i k)
 fx:∀k,k<n→Bd 8192 (x k)
 fp:∀i,i<n→∀k,k<n→Bd 8192 (a i k*x k)
 fs:∀i,i<n→∀t,t≤n→Bd 8192 (sumN t (fun k=>a i k*x k))
 fq:∀i,i<n→Bd 8192 (x i*sumN n (fun k=>a i k*x k))
 fo:∀t,t≤n→Bd 8192 (sumN t (fun i=>x i*sumN n (fun k=>a i k*x k)))
set_option maxRecDepth 20000 in
set_option maxHeartbeats 8000000 in
theorem quad1_r (w0:World)(i n c cx ab xb s2b sb b o:Nat)(Ax:Option Addr)(a:Mx)(x:Nat→Rat)(p q r:Value)(w:World)
  (h1:w0.cell? ⟨ab,0,none⟩=some (.slice (some ⟨b,o,none⟩) n c)) (h2:w0.cell? ⟨xb,0,none⟩=some (.slice Ax n cx)) (h3:w0.cell? ⟨s2b,0,none⟩=some (.pointer (some ⟨sb,0,none⟩)))
  (hA:∀i,i<n→∃ba oa k,w0.cell? ⟨b,o+i,none⟩=some (.slice (some ⟨ba,oa,none⟩) n k)∧∀j,j<n→∃p q r,w0.cell? ⟨ba,oa+j*3,none⟩=some p∧w0.cell? ⟨ba,oa+j*3+1,none⟩=some q∧w0.cell? ⟨ba,oa+j*3+2,none⟩=some r∧RtW w0 p q r (rawOf (a i j)))
  (hX:RwW w0 Ax cx n (rawR x)) (hs:SumW w0 sb) (hT:Tab w0) (hf:QuadFine n a x) (hi:i<n) (hv:RtW w0 p q r (rawOf (x i))) (hb:Below w0.heap.size w0 w):
  Calls Tryz.prog 89 #[.int .i64 (i:Int),.agg #[p,q,r],.pointer (some ⟨xb,0,none⟩),.pointer (some ⟨s2b,0,none⟩),.pointer (some ⟨ab,0,none⟩)] w (RT2 (rawOf (x i)) (rawOf (sumN n (fun k=>a i k*x k))) (heapOf w0) w):=by
 refine calls_b fun g=>?_
 obtain⟨s3,A3,n3,c3,B3,d3,k3,rfl,rfl,rfl⟩:=hv.shape
 have HV:=Lib.hid hv
 have HB:=Lib.hid hb
 have CR:=Lib.hid (fun w=>ring_any sb w)
 have CF:Hid (∀(ib:Nat) (M:List Blk) (I:List Frag) (g:G w [] M I),(ib,3,[Value.int .i64 (i:Int)])∈M→Calls Tryz.prog 55 #[.slice Ax n cx,.agg #[.func (.func 59) #[.pointer (some ⟨sb,0,none⟩)] #[],.func (.func 99) #[.pointer (some ⟨sb,0,none⟩)] #[]],.func (.func 90) #[] #[.pointer (some ⟨ab,0,none⟩),.pointer (some ⟨ib,0,none⟩)]] g.w (RT1 (rawOf (sumN n (fun k=>a i k*x k))) g.w)):=Lib.hid (fun ib M I g m1=>by
  have hbg:Below w0.heap.size w0 g.w:=below2 hb g.below
  refine fold_q n (rawR x) (a i) x Ax cx _ _ sb g.w (hX.mono (heap_sub hbg)) (hs.below hbg) (tab_below hT hbg) (fun j hj p q r w' hbl hv=>?_) (hf.fa i hi) hf.fx (hf.fp i hi) (hf.fs i hi)
  obtain⟨ba,oa,k,e1,e2⟩:=hA i hi
  obtain⟨p1,q1,r1,y0,y1,y2,hy⟩:=e2 j hj
  obtain⟨s4,A4,n4,c4,B4,d4,k4,rfl,rfl,rfl⟩:=hy.shape
  have hbl2:Below w0.heap.size w0 w':=below2 hbg hbl
  exact quad11_r g.w i j n c ab ib b o ba oa k s4 A4 B4 n4 c4 d4 k4 _ _ p q r w' (Below.keepc hbl2 h1) (Below.keepc hbl (cell_of (g.own _ m1) rfl)) (Below.keepc hbl2 e1) (Below.keepc hbl2 y0) (Below.keepc hbl2 y1) (Below.keepc hbl2 y2) (rt_below hy hbg) hi hj hv hbl)
 have E1:=fun(M:List Blk) (I:List Frag) (g:G w [] M I)=>G.keepc g (Below.keepc hb h2)
 have E2:=fun(M:List Blk) (I:List Frag) (g:G w [] M I)=>G.keepc g (Below.keepc hb h3)
 unfold RT1 at CF
 unfold RT2
 generalize sumN n (fun k=>a i k*x k)=S at*
 clear hA hX hs hT hf hi hv hb h1 h2 h3
 go_enter Tryz.func89,Tryz.ntmps89
 go_upto_region 1 with(with_reducible refine yq _ ?_;(try generalize (G.w _).heap.size=bk);(try dsimp only[yi,yj]);(try clear g);intro g)
 ((try simp only[G.drew_eq,G.drewN_eq]);(refine yq _ ?_;(try generalize (G.w _).heap.size=bk);(try dsimp only[yi,yj]);(try clear g);intro g))
 refine wp_region_held_drew (S:=(fun w'=>(G.heldN g [false,false,true,false]) w'∧w'.cell? ⟨xb,0,none⟩=some (.slice Ax n cx)∧w'.cell? ⟨s2b,0,none⟩=some (.pointer (some ⟨sb,0,none⟩)))) (by kernel_rfl) (by(simp[G.heldN,HeldN,go_sem, *];done)) (fun hHeld=>?_)
 refine tk0 [0,1,2,4] ?_
 repeat (refine tkc rfl (by kernel_rfl) (fun _ _ _ h=>h) (by rfl) ‹_› (by intro w hSw;(try dsimp only at hSw);go_simp;(try with_reducible rfl)) ?_;try simp only[Act.put,yk,yl,yn,yo,yi,yj])
 refine tkn ?_
 refine wpAnyH_ready (rs:=[3]) (by kernel_rfl) (by simp) ?_
 refine AllReadyH.cons rfl (fun K hK=>?_) AllReadyH.nil
 ·(try simp only[Act.put,yk,yl,yn,yo,yi,yj])
  go_simp
  go_at_call 56
  (try(refine cmark _ ?_;(try dsimp only[yi,yj]);(try clear g);intro g))
  refine(CR.out _).mono ?_
  rintro e w1 ⟨rfl,hb⟩
  obtain⟨g1,rfl⟩:=G.call_ex _ hb
  clear hb
  (try clear g)
  revert g1
  intro g
  refine hK.out _ _ (by(simp[G.heldN,HeldN,go_sem, *];done)) (fun hHeld=>?_)
  clear hK K
  (try simp only[Act.put,yk,yl,yn,yo,yi,yj])
  refine wpAnyH_ready (rs:=[5]) (by kernel_rfl) (by simp) ?_
  refine AllReadyH.cons rfl (fun K hK=>?_) AllReadyH.nil
  ·(try simp only[Act.put,yk,yl,yn,yo,yi,yj])
   go_simp
   go_at_call 55
   (try(refine cmark _ ?_;(try dsimp only[yi,yj]);(try clear g);intro g))
   refine(CF.out _ _ _ g (by simp)).mono ?_
   rintro e w1 ⟨pf,qf,rf,Ff,rfl,hf,hn⟩
   have hnnf:=fun k o hk=>Nat.le_trans g.chg.size (hn.new k o hk)
   obtain⟨sf,Af,nf,cf,Bf,df,kf,rfl,rfl,rfl⟩:=hf.shape
   obtain⟨g1,rfl⟩:=G.new_ex _ hn
   clear hn
   (try clear g)
   revert g1
   intro g
   refine hK.out _ _ (by(simp[G.heldN,HeldN,go_sem, *];done)) (fun hHeld=>?_)
   clear hK K
   (try simp only[Act.put,yk,yl,yn,yo,yi,yj])
   refine wpAnyH_ready (rs:=[6]) (by kernel_rfl) (by simp) ?_
   refine AllReadyH.cons rfl (fun K hK=>?_) AllReadyH.nil
   ·(try simp only[Act.put,yk,yl,yn,yo,yi,yj])
    go_simp
    refine hK.out _ _ (by(simp[G.heldN,HeldN,go_sem, *];done)) (fun hHeld=>?_)
    clear hK K
    (try simp only[Act.put,yk,yl,yn,yo,yi,yj])
    refine wpAnyH_ready (rs:=[7]) (by kernel_rfl) (by simp) ?_
    refine AllReadyH.cons rfl (fun K hK=>?_) AllReadyH.nil
    ·(try simp only[Act.put,yk,yl,yn,yo,yi,yj])
     go_simp
     refine hK.out _ _ (by(simp[G.heldN,HeldN,go_sem, *];done)) (fun hHeld=>?_)
     clear hK K
     (try simp only[Act.put,yk,yl,yn,yo,yi,yj])
     refine wpAnyH_done (by kernel_rfl) ?_ _
     (as_aux_lemma=>
      (try clear hHeld)
      clear E1 E2 CF CR
      ((try simp only[G.drew_eq,G.drewN_eq]);(refine yq _ ?_;(try generalize (G.w _).heap.size=bk);(try dsimp only[yi,yj]);(try clear g);intro g))
      go_wp2_with (with_reducible refine yq _ ?_;(try generalize (G.w _).heap.size=bk);(try dsimp only[yi,yj]);(try clear g);intro g)
      refine bodyPost_ret (v:=.tuple #[.agg #[.bool s3,.slice A3 n3 c3,.slice B3 d3 k3],.agg #[.bool sf,.slice Af nf cf,.slice Bf df kf]]) (by simp[results,Tryz.results89,go_sem]) rfl ?_
      have h0:(heapOf w0).sub g.w:=heap_sub (below2 HB.out (G.below g))
      exact⟨_,_,_,_,_,_,Ff.or (heapOf w0),rfl,HV.out.mono (Frag.le_orr (g.sub _ (by simp)) h0),hf.mono (Frag.le_orl _ _),G.below _,Frag.or_sub (g.sub _ (by simp)) h0,fun k o hk=>(Frag.or_some hk).elim (fun h=> .inr (hnnf k o h)) .inl⟩)
end Go.Proofs.YthhbbnfnejjpiaaGreatDoor
namespace Go.Proofs.YthhbbnfnejjpiaaGreatDoor
open Go.RowKit GW NL MX
theorem listE_okR {n:Nat}{v:Nat→Rat}(h:∀j,j<n→Bd 8192 (v j)):listE (rawR v) n=0:=listE_ok fun j hj=>numE_ok (h j hj)
set_option maxRecDepth 20000 in
set_option maxHeartbeats 8000000 in
theorem Quad_r (n:Nat)(a:Mx)(x:Nat→Rat)(A B:Option Addr)(c cB:Nat)(w:World)(hA:(heapOf w).Mt A c n (fun _=>n) (rawM a))(hB:RwW w B cB n (rawR x))(hT:Tab w)(n1:1≤n)(n2:n≤24)(hf:QuadFine n a x):
  Calls Tryz.prog 43 #[.slice A n c,.slice B n cB] w (RT (rawOf (quadM n a x)) 0 w):=by
 refine calls_b fun g=>?_
 unfold RT
 have HA:=Lib.hid hA
 have HB:=Lib.hid hB
 have HT:=Lib.hid hT
 have HF:=Lib.hid hf
 have CC:=Lib.hid (fun w h t=>mCheck_any A c n (fun _=>n) (rawM a) w h t)
 rw[matE_ok n1 n2 n1 n2 hf.fa] at CC
 have CL:=Lib.hid (fun w h t=>list_any B cB n (rawR x) w h t)
 rw[listE_okR hf.fx] at CL
 have CQ:=Lib.hid (fun w h=>square_any n n (rawM a) A c w h n1)
 rw[decide_eq_true rfl] at CQ
 have CR:=Lib.hid (fun sb w=>ring_any sb w)
 obtain⟨b,o,rfl,hrow⟩:=hA.rowAt n1
 have HR:Hid (∀i,i<n→∃ba oa k,w.cell? ⟨b,o+i,none⟩=some (.slice (some ⟨ba,oa,none⟩) n k)∧∀j,j<n→∃p q r,w.cell? ⟨ba,oa+j*3,none⟩=some p∧w.cell? ⟨ba,oa+j*3+1,none⟩=some q∧w.cell? ⟨ba,oa+j*3+2,none⟩=some r∧RtW w p q r (rawOf (a i j))):=Lib.hid (fun i hi=>by
  obtain⟨B,k,h1,h2⟩:=hrow i hi
  obtain⟨ba,oa,rfl,h3⟩:=h2.num n1
  refine⟨ba,oa,k,h1 _ _ _ _ (G.begin w) (InF.head _ _),fun j hj=>?_⟩
  obtain⟨p,q,r,h4,h5⟩:=h3 j hj
  have h6:=h4 _ _ _ _ (G.begin w) (InF.head _ _)
  exact⟨p,q,r,h6.1,h6.2.1,h6.2.2,h5⟩)
 have CF:Hid (∀(ab xb s2b sb:Nat) (M:List Blk) (I:List Frag) (g:G w [] M I),(ab,29,[Value.slice (some ⟨b,o,none⟩) n c])∈M→(xb,38,[Value.slice B n cB])∈M→(s2b,76,[Value.pointer (some ⟨sb,0,none⟩)])∈M→(sb,78,[Value.int .i64 0])∈M→Calls Tryz.prog 55 #[.slice B n cB,.agg #[.func (.func 59) #[.pointer (some ⟨sb,0,none⟩)] #[],.func (.func 99) #[.pointer (some ⟨sb,0,none⟩)] #[]],.func (.func 89) #[] #[.pointer (some ⟨xb,0,none⟩),.pointer (some ⟨s2b,0,none⟩),.pointer (some ⟨ab,0,none⟩)]] g.w (RT1 (rawOf (quadM n a x)) g.w)):=Lib.hid (fun ab xb s2b sb M I g m1 m2 m3 m4=>by
  refine fold_qo n (rawR x) x (fun i=>sumN n (fun k=>a i k*x k)) B cB _ _ _ sb g.w (hB.mono (heap_sub g.below)) (G.sumM g m4) (G.tab g hT) (fun i hi p q r w' hbl hv=>?_) hf.fx (fun i hi=>hf.fs i hi n (Nat.le_refl n)) hf.fq hf.fo
  refine quad1_r g.w i n c cB ab xb s2b sb b o B a x p q r w' (cell_of (g.own _ m1) rfl) (cell_of (g.own _ m2) rfl) (cell_of (g.own _ m3) rfl) (fun i hi=>?_) (hB.mono (heap_sub g.below)) (G.sumM g m4) (G.tab g hT) hf hi hv hbl
  obtain⟨ba,oa,k,e1,e2⟩:=HR.out i hi
  refine⟨ba,oa,k,Below.keepc g.below e1,fun j hj=>?_⟩
  obtain⟨p,q,r,y0,y1,y2,hy⟩:=e2 j hj
  exact⟨p,q,r,Below.keepc g.below y0,Below.keepc g.below y1,Below.keepc g.below y2,rt_below hy g.below⟩)
 unfold RT1 at CF
 generalize quadM n a x=S at*
 clear hA hB hT hf hrow HR
 go_enter Tryz.func43,Tryz.ntmps43
 go_wp2_with (with_reducible refine yq _ ?_;(try generalize (G.w _).heap.size=bk);(try dsimp only[yi,yj]);(try clear g);intro g)
 (try(refine cmark _ ?_;(try dsimp only[yi,yj]);(try clear g);intro g))
 refine(CC.out _ (HA.out.mono (g.sub _ (by simp))) (G.tab g HT.out)).mono ?_
 rintro e w1 ⟨rfl,hb⟩
 obtain⟨g1,rfl⟩:=G.call_ex _ hb
 clear hb
 (try clear g)
 revert g1
 intro g
 go_wp2_with (with_reducible refine yq _ ?_;(try generalize (G.w _).heap.size=bk);(try dsimp only[yi,yj]);(try clear g);intro g)
 refine(CL.out _ (HB.out.mono (g.sub _ (by simp))) (G.tab g HT.out)).mono ?_
 rintro e w1 ⟨rfl,hb⟩
 obtain⟨g1,rfl⟩:=G.call_ex _ hb
 clear hb
 (try clear g)
 revert g1
 intro g
 go_wp2_with (with_reducible refine yq _ ?_;(try generalize (G.w _).heap.size=bk);(try dsimp only[yi,yj]);(try clear g);intro g)
 refine(CQ.out _ (HA.out.mono (g.sub _ (by simp)))).mono ?_
 rintro e w1 ⟨rfl,hb⟩
 obtain⟨g1,rfl⟩:=G.call_ex _ hb
 clear hb
 (try clear g)
 revert g1
 intro g
 go_upto_region 10 with(with_reducible refine yq _ ?_;(try generalize (G.w _).heap.size=bk);(try dsimp only[yi,yj]);(try clear g);intro g)
 ((try simp only[G.drew_eq,G.drewN_eq]);(refine yq _ ?_;(try generalize (G.w _).heap.size=bk);(try dsimp only[yi,yj]);(try clear g);intro g))
 clear CC CL CQ
 refine wp_region_held_drew (S:=(G.heldN g [true,false,false,true])) (by kernel_rfl) (by(simp[G.heldN,HeldN,go_sem];done)) (fun hHeld=>?_)
 refine tk0 [0,1,3] ?_
 repeat (refine tkc rfl (by kernel_rfl) (fun _ _ _ h=>h) (by rfl) ‹_› (by intro w hSw;(try dsimp only at hSw);go_simp;(try with_reducible rfl)) ?_;try simp only[Act.put,yk,yl,yn,yo,yi,yj])
 refine tkn ?_
 refine wpAnyH_ready (rs:=[2,5]) (by kernel_rfl) (by simp) ?_
 refine AllReadyH.cons rfl (fun K hK=>?_) (AllReadyH.cons rfl (fun K hK=>?_) AllReadyH.nil)
 ·(try simp only[Act.put,yk,yl,yn,yo,yi,yj])
  go_simp
  go_at_call 56
  (try(refine cmark _ ?_;(try dsimp only[yi,yj]);(try clear g);intro g))
  refine(CR.out _ _).mono ?_
  rintro e w1 ⟨rfl,hb⟩
  obtain⟨g1,rfl⟩:=G.call_ex _ hb
  clear hb
  (try clear g)
  revert g1
  intro g
  refine hK.out _ _ (by(simp[G.heldN,HeldN,go_sem];done)) (fun hHeld=>?_)
  clear hK K
  (try simp only[Act.put,yk,yl,yn,yo,yi,yj])
  refine wpAnyH_ready (rs:=[4,5]) (by kernel_rfl) (by simp) ?_
  refine AllReadyH.cons rfl (fun K hK=>?_) (AllReadyH.cons rfl (fun K hK=>?_) AllReadyH.nil)
  ·(try simp only[Act.put,yk,yl,yn,yo,yi,yj])
   go_simp
   go_at_call 55
   (try(refine cmark _ ?_;(try dsimp only[yi,yj]);(try clear g);intro g))
   refine(CF.out _ _ _ _ _ _ g (by simp) (by simp) (by simp) (by simp)).mono ?_
   rintro e w1 ⟨pf,qf,rf,Ff,rfl,hf,hn⟩
   have hnnf:=fun k o hk=>Nat.le_trans g.chg.size (hn.new k o hk)
   obtain⟨sf,Af,nf,cf,Bf,df,kf,rfl,rfl,rfl⟩:=hf.shape
   obtain⟨g1,rfl⟩:=G.new_ex _ hn
   clear hn
   (try clear g)
   revert g1
   intro g
   refine hK.out _ _ (by(simp[G.heldN,HeldN,go_sem];done)) (fun hHeld=>?_)
   clear hK K
   (try simp only[Act.put,yk,yl,yn,yo,yi,yj])
   refine wpAnyH_ready (rs:=[5]) (by kernel_rfl) (by simp) ?_
   refine AllReadyH.cons rfl (fun K hK=>?_) AllReadyH.nil
   ·(try simp only[Act.put,yk,yl,yn,yo,yi,yj])
    go_simp
    refine hK.out _ _ (by(simp[G.heldN,HeldN,go_sem];done)) (fun hHeld=>?_)
    clear hK K
    (try simp only[Act.put,yk,yl,yn,yo,yi,yj])
    refine wpAnyH_ready (rs:=[6]) (by kernel_rfl) (by simp) ?_
    refine AllReadyH.cons rfl (fun K hK=>?_) AllReadyH.nil
    ·(try simp only[Act.put,yk,yl,yn,yo,yi,yj])
     go_simp
     refine hK.out _ _ (by(simp[G.heldN,HeldN,go_sem];done)) (fun hHeld=>?_)
     clear hK K
     (try simp only[Act.put,yk,yl,yn,yo,yi,yj])
     refine wpAnyH_done (by kernel_rfl) ?_ _
     (as_aux_lemma=>
      (try clear hHeld)
      clear CF CR
      ((try simp only[G.drew_eq,G.drewN_eq]);(refine yq _ ?_;(try generalize (G.w _).heap.size=bk);(try dsimp only[yi,yj]);(try clear g);intro g))
      go_wp2_with (with_reducible refine yq _ ?_;(try generalize (G.w _).heap.size=bk);(try dsimp only[yi,yj]);(try clear g);intro g)
      refine bodyPost_ret (v:=.tuple #[.agg #[.bool sf,.slice Af nf cf,.slice Bf df kf],.int .i64 0]) (by simp[results,Tryz.results43,go_sem]) rfl ?_
      exact⟨_,_,_,_,rfl,hf,G.below _,G.sub _ _ (by simp),hnnf⟩)
  ·(try simp only[Act.put,yk,yl,yn,yo,yi,yj])
   go_simp
   refine hK.out _ _ (by(simp[G.heldN,HeldN,go_sem];done)) (fun hHeld=>?_)
   clear hK K
   (try simp only[Act.put,yk,yl,yn,yo,yi,yj])
   refine wpAnyH_ready (rs:=[4]) (by kernel_rfl) (by simp) ?_
   refine AllReadyH.cons rfl (fun K hK=>?_) AllReadyH.nil
   ·(try simp only[Act.put,yk,yl,yn,yo,yi,yj])
    go_simp
    go_at_call 55
    (try(refine cmark _ ?_;(try dsimp only[yi,yj]);(try clear g);intro g))
    refine(CF.out _ _ _ _ _ _ g (by simp) (by simp) (by simp) (by simp)).mono ?_
    rintro e w1 ⟨pf,qf,rf,Ff,rfl,hf,hn⟩
    have hnnf:=fun k o hk=>Nat.le_trans g.chg.size (hn.new k o hk)
    obtain⟨sf,Af,nf,cf,Bf,df,kf,rfl,rfl,rfl⟩:=hf.shape
    obtain⟨g1,rfl⟩:=G.new_ex _ hn
    clear hn
    (try clear g)
    revert g1
    intro g
    refine hK.out _ _ (by(simp[G.heldN,HeldN,go_sem];done)) (fun hHeld=>?_)
    clear hK K
    (try simp only[Act.put,yk,yl,yn,yo,yi,yj])
    refine wpAnyH_ready (rs:=[6]) (by kernel_rfl) (by simp) ?_
    refine AllReadyH.cons rfl (fun K hK=>?_) AllReadyH.nil
    ·(try simp only[Act.put,yk,yl,yn,yo,yi,yj])
     go_simp
     refine hK.out _ _ (by(simp[G.heldN,HeldN,go_sem];done)) (fun hHeld=>?_)
     clear hK K
     (try simp only[Act.put,yk,yl,yn,yo,yi,yj])
     refine wpAnyH_done (by kernel_rfl) ?_ _
     (as_aux_lemma=>
      (try clear hHeld)
      clear CF CR
      ((try simp only[G.drew_eq,G.drewN_eq]);(refine yq _ ?_;(try generalize (G.w _).heap.size=bk);(try dsimp only[yi,yj]);(try clear g);intro g))
      go_wp2_with (with_reducible refine yq _ ?_;(try generalize (G.w _).heap.size=bk);(try dsimp only[yi,yj]);(try clear g);intro g)
      refine bodyPost_ret (v:=.tuple #[.agg #[.bool sf,.slice Af nf cf,.slice Bf df kf],.int .i64 0]) (by simp[results,Tryz.results43,go_sem]) rfl ?_
      exact⟨_,_,_,_,rfl,hf,G.below _,G.sub _ _ (by simp),hnnf⟩)
 ·(try simp only[Act.put,yk,yl,yn,yo,yi,yj])
  go_simp
  refine hK.out _ _ (by(simp[G.heldN,HeldN,go_sem];done)) (fun hHeld=>?_)
  clear hK K
  (try simp only[Act.put,yk,yl,yn,yo,yi,yj])
  refine wpAnyH_ready (rs:=[2]) (by kernel_rfl) (by simp) ?_
  refine AllReadyH.cons rfl (fun K hK=>?_) AllReadyH.nil
  ·(try simp only[Act.put,yk,yl,yn,yo,yi,yj])
   go_simp
   go_at_call 56
   (try(refine cmark _ ?_;(try dsimp only[yi,yj]);(try clear g);intro g))
   refine(CR.out _ _).mono ?_
   rintro e w1 ⟨rfl,hb⟩
   obtain⟨g1,rfl⟩:=G.call_ex _ hb
   clear hb
   (try clear g)
   revert g1
   intro g
   refine hK.out _ _ (by(simp[G.heldN,HeldN,go_sem];done)) (fun hHeld=>?_)
   clear hK K
   (try simp only[Act.put,yk,yl,yn,yo,yi,yj])
   refine wpAnyH_ready (rs:=[4]) (by kernel_rfl) (by simp) ?_
   refine AllReadyH.cons rfl (fun K hK=>?_) AllReadyH.nil
   ·(try simp only[Act.put,yk,yl,yn,yo,yi,yj])
    go_simp
    go_at_call 55
    (try(refine cmark _ ?_;(try dsimp only[yi,yj]);(try clear g);intro g))
    refine(CF.out _ _ _ _ _ _ g (by simp) (by simp) (by simp) (by simp)).mono ?_
    rintro e w1 ⟨pf,qf,rf,Ff,rfl,hf,hn⟩
    have hnnf:=fun k o hk=>Nat.le_trans g.chg.size (hn.new k o hk)
    obtain⟨sf,Af,nf,cf,Bf,df,kf,rfl,rfl,rfl⟩:=hf.shape
    obtain⟨g1,rfl⟩:=G.new_ex _ hn
    clear hn
    (try clear g)
    revert g1
    intro g
    refine hK.out _ _ (by(simp[G.heldN,HeldN,go_sem];done)) (fun hHeld=>?_)
    clear hK K
    (try simp only[Act.put,yk,yl,yn,yo,yi,yj])
    refine wpAnyH_ready (rs:=[6]) (by kernel_rfl) (by simp) ?_
    refine AllReadyH.cons rfl (fun K hK=>?_) AllReadyH.nil
    ·(try simp only[Act.put,yk,yl,yn,yo,yi,yj])
     go_simp
     refine hK.out _ _ (by(simp[G.heldN,HeldN,go_sem];done)) (fun hHeld=>?_)
     clear hK K
     (try simp only[Act.put,yk,yl,yn,yo,yi,yj])
     refine wpAnyH_done (by kernel_rfl) ?_ _
     (as_aux_lemma=>
      (try clear hHeld)
      clear CF CR
      ((try simp only[G.drew_eq,G.drewN_eq]);(refine yq _ ?_;(try generalize (G.w _).heap.size=bk);(try dsimp only[yi,yj]);(try clear g);intro g))
      go_wp2_with (with_reducible refine yq _ ?_;(try generalize (G.w _).heap.size=bk);(try dsimp only[yi,yj]);(try clear g);intro g)
      refine bodyPost_ret (v:=.tuple #[.agg #[.bool sf,.slice Af nf cf,.slice Bf df kf],.int .i64 0]) (by simp[results,Tryz.results43,go_sem]) rfl ?_
      exact⟨_,_,_,_,rfl,hf,G.below _,G.sub _ _ (by simp),hnnf⟩)
end Go.Proofs.YthhbbnfnejjpiaaGreatDoor
