/- Plain facts and contracts of functions of the program, out of walks. Their conditions stand ahead of each. -/
import Derived.Test.YthhbbnfnejjpiaaGreatDoorNm2
import Derived.Test.YthhbbnfnejjpiaaGreatDoorNm15
import Derived.Test.YthhbbnfnejjpiaaGreatDoorNm24
import Derived.Test.YthhbbnfnejjpiaaGreatDoorNm26
import Derived.Below
import Derived.BigQuiet
import Derived.Deep.DeepCutAuto
import Derived.Deep.Draws
import Derived.Deep.LoopGhost
import Derived.Deep.QuietTactic
import Derived.Deep.RegionHeld3
import Derived.Deep.RegionLaw
import Derived.Defers
import Derived.Laws.BytesString
import Derived.Laws.Cells
import Derived.Laws.Concat
import Derived.Laws.CopyOwn
import Derived.Laws.CopyRow
import Derived.Laws.NewBlocks
import Derived.Laws.OwnMore
import Derived.Laws.Pointers
import Derived.Laws.Rows
import Derived.Lib.BitFns
import Derived.Lib.Hide
import Derived.Lib.ItoaNum
import Derived.Lib.TrailingZeros
import Derived.LoopIn
import Derived.LoopNIn
import Derived.Maps.AppendAt
import Derived.OrdersHeld
import Derived.OrdersIn
import Derived.OwnWalk
import Derived.OwnWalkIn
import Derived.RangeFuncBound
import Derived.RangeFuncBox
import Derived.RangeFuncCalls
import Derived.RangeFuncLeaves
import Derived.RangeFuncNested
import Derived.RowKit3
import Derived.Shelf.Abstract
import Derived.Shelf.RegionOpen
import Derived.Shelf.Spec.TrailingZeros
import Derived.StillTactics
import Derived.StillTailTactics
import Derived.TacticsInMore
import Derived.Test.YthhbbnfnejjpiaaGreatDoorProg
import Derived.WalkKit
import Derived.WalkLawsBesides
import Derived.WalkMore
import Derived.WalkSpells
set_option linter.unusedVariables false
set_option linter.unusedSimpArgs false
set_option exponentiation.threshold 10000
namespace Go.Proofs.YthhbbnfnejjpiaaGreatDoor
open Go.RowKit GW NL MX
theorem G.keepc {w0:World}{M:List Blk}{I:List Frag}(g:G w0 [] M I){a:Addr}{v:Value}(h:w0.cell? a=some v):g.w.cell? a=some v:=(g.below.cell (World.block_lt_of_cell? w0 _ h)).trans h
theorem fac1_end {w0 w w':World}{t u:Raw}{p q r p' q' r':Value}{H:Frag}(hv:RtW w0 p' q' r' u)(hb:Below w0.heap.size w0 w)(h:H.Rt p q r t)(b:Below w.heap.size w w')(hs:H.sub w')(hn:∀k o,H k=some o→w.heap.size≤k):∃p1 q1 r1 p2 q2 r2 H,Ending.returned (Value.tuple #[.agg #[p,q,r],.agg #[p',q',r']])=.returned (.tuple #[.agg #[p1,q1,r1],.agg #[p2,q2,r2]])∧Frag.Rt H p1 q1 r1 t∧Frag.Rt H p2 q2 r2 u∧NewOr (heapOf w0) w w' H:=by
 have h0:(heapOf w0).sub w':=fun k o hk=>by
  have h1:k<w0.heap.size:=Frag.lt (f:=heapOf w0) (w:=w0) (fun _ _ h=>h) hk
  rw[b.block k (Nat.lt_of_lt_of_le h1 hb.size),hb.block k h1]
  exact hk
 refine⟨_,_,_,_,_,_,H.or (heapOf w0),rfl,h.mono (Frag.le_orl _ _),hv.mono (Frag.le_orr hs h0),b,Frag.or_sub hs h0,fun k o hk=>?_⟩
 rcases Frag.or_some hk with hk|hk
 ·exact .inr (hn k o hk)
 ·exact .inl hk
set_option maxRecDepth 20000 in
set_option maxHeartbeats 4000000 in
theorem fac1_r (w0:World)(j i k n cl ci ck sb2 sb lb ib kb L ri rk:Nat)(s1 s2:Bool)(A1 B1 A2 B2:Option Addr)(n1 c1 d1 k1 n2 c2 d2 k2:Nat)(x y z:Rat)(t:Raw)(p q r:Value)(w:World)
  (h1:w.cell? ⟨sb2,0,none⟩=some (.pointer (some ⟨sb,0,none⟩))) (h2:w.cell? ⟨lb,0,none⟩=some (.slice (some ⟨L,0,none⟩) n cl)) (h3:w.cell? ⟨ib,0,none⟩=some (.int .i64 (i:Int))) (h4:w.cell? ⟨kb,0,none⟩=some (.int .i64 (k:Int)))
  (h5:w.cell? ⟨L,i,none⟩=some (.slice (some ⟨ri,0,none⟩) n ci)) (h6:w.cell? ⟨L,k,none⟩=some (.slice (some ⟨rk,0,none⟩) n ck))
  (h7:w.cell? ⟨ri,j*3,none⟩=some (.bool s1)) (h8:w.cell? ⟨ri,j*3+1,none⟩=some (.slice A1 n1 c1)) (h9:w.cell? ⟨ri,j*3+2,none⟩=some (.slice B1 d1 k1))
  (h10:w.cell? ⟨rk,j*3,none⟩=some (.bool s2)) (h11:w.cell? ⟨rk,j*3+1,none⟩=some (.slice A2 n2 c2)) (h12:w.cell? ⟨rk,j*3+2,none⟩=some (.slice B2 d2 k2))
  (hx:RtW w (.bool s1) (.slice A1 n1 c1) (.slice B1 d1 k1) (rawOf x)) (hy:RtW w (.bool s2) (.slice A2 n2 c2) (.slice B2 d2 k2) (rawOf y)) (hs:SumW w sb) (hT:Tab w)
  (bx:Bd 8192 x) (by':Bd 8192 y) (bz:Bd 8192 z) (e:x*y=z) (hj:j<n) (hi:i<n) (hk:k<n) (hv:RtW w0 p q r t) (hb:Below w0.heap.size w0 w):
  Calls Tryz.prog 122 #[.int .i64 (j:Int),.agg #[p,q,r],.pointer (some ⟨sb2,0,none⟩),.pointer (some ⟨lb,0,none⟩),.pointer (some ⟨ib,0,none⟩),.pointer (some ⟨kb,0,none⟩)] w (RT2 (rawOf z) t (heapOf w0) w):=by
 refine calls_b fun g=>?_
 have hji:(j:Int)<(n:Int):=by omega
 have hii:(i:Int)<(n:Int):=by omega
 have hki:(k:Int)<(n:Int):=by omega
 obtain⟨s3,A3,n3,c3,B3,d3,k3,rfl,rfl,rfl⟩:=hv.shape
 have CT:=Lib.hid (fun w a b s t=>stimes_r x y z bx by' bz e (.bool s1) (.slice A1 n1 c1) (.slice B1 d1 k1) (.bool s2) (.slice A2 n2 c2) (.slice B2 d2 k2) sb w a b s t)
 unfold RT1 at CT
 unfold RT2
 have HX:=Lib.hid hx
 have HY:=Lib.hid hy
 have HS:=Lib.hid hs
 have HT:=Lib.hid hT
 have HV:=Lib.hid hv
 have HB:=Lib.hid hb
 have E1:=fun(M:List Blk) (I:List Frag) (g:G w [] M I)=>G.keepc g h1
 have E2:=fun(M:List Blk) (I:List Frag) (g:G w [] M I)=>G.keepc g h2
 have E3:=fun(M:List Blk) (I:List Frag) (g:G w [] M I)=>G.keepc g h3
 have E4:=fun(M:List Blk) (I:List Frag) (g:G w [] M I)=>G.keepc g h4
 have E5:=fun(M:List Blk) (I:List Frag) (g:G w [] M I)=>G.keepc g h5
 have E6:=fun(M:List Blk) (I:List Frag) (g:G w [] M I)=>G.keepc g h6
 have E7:=fun(M:List Blk) (I:List Frag) (g:G w [] M I)=>G.keepc g h7
 have E8:=fun(M:List Blk) (I:List Frag) (g:G w [] M I)=>G.keepc g h8
 have E9:=fun(M:List Blk) (I:List Frag) (g:G w [] M I)=>G.keepc g h9
 have E10:=fun(M:List Blk) (I:List Frag) (g:G w [] M I)=>G.keepc g h10
 have E11:=fun(M:List Blk) (I:List Frag) (g:G w [] M I)=>G.keepc g h11
 have E12:=fun(M:List Blk) (I:List Frag) (g:G w [] M I)=>G.keepc g h12
 clear hx hy hs hT bx by' bz e hj hi hk hv hb h1 h2 h3 h4 h5 h6 h7 h8 h9 h10 h11 h12
 go_enter Tryz.func122,Tryz.ntmps122
 go_upto_region 1 with(with_reducible refine yq _ ?_;(try generalize (G.w _).heap.size=bk);(try dsimp only[yi,yj]);(try clear g);intro g)
 ((try simp only[G.drew_eq,G.drewN_eq]);(refine yq _ ?_;(try generalize (G.w _).heap.size=bk);(try dsimp only[yi,yj]);(try clear g);intro g))
 refine wp_region_held_drew (S:=(fun w'=>(G.heldN g [false,false,true]) w'∧w'.cell? ⟨sb2,0,none⟩=some (.pointer (some ⟨sb,0,none⟩))∧w'.cell? ⟨lb,0,none⟩=some (.slice (some ⟨L,0,none⟩) n cl)∧w'.cell? ⟨ib,0,none⟩=some (.int .i64 (i:Int))∧w'.cell? ⟨kb,0,none⟩=some (.int .i64 (k:Int))∧w'.cell? ⟨L,i,none⟩=some (.slice (some ⟨ri,0,none⟩) n ci)∧w'.cell? ⟨L,k,none⟩=some (.slice (some ⟨rk,0,none⟩) n ck)∧w'.cell? ⟨ri,j*3,none⟩=some (.bool s1)∧w'.cell? ⟨ri,j*3+1,none⟩=some (.slice A1 n1 c1)∧w'.cell? ⟨ri,j*3+2,none⟩=some (.slice B1 d1 k1)∧w'.cell? ⟨rk,j*3,none⟩=some (.bool s2)∧w'.cell? ⟨rk,j*3+1,none⟩=some (.slice A2 n2 c2)∧w'.cell? ⟨rk,j*3+2,none⟩=some (.slice B2 d2 k2))) (by kernel_rfl) (by(simp[G.heldN,HeldN,go_sem, *];done)) (fun hHeld=>?_)
 refine tk0 [0,1,2,3,4,5,6,7,8,9,10,11,12,13,14,16] ?_
 repeat (refine tkc rfl (by kernel_rfl) (fun _ _ _ h=>h) (by rfl) ‹_› (by intro w hSw;(try dsimp only at hSw);go_simp;(try with_reducible rfl)) ?_;try simp only[Act.put,yk,yl,yn,yo,yi,yj])
 refine tkn ?_
 refine wpAnyH_ready (rs:=[15]) (by kernel_rfl) (by simp) ?_
 refine AllReadyH.cons rfl (fun K hK=>?_) AllReadyH.nil
 ·(try simp only[Act.put,yk,yl,yn,yo,yi,yj])
  go_simp
  go_at_call 99
  (try(refine cmark _ ?_;(try dsimp only[yi,yj]);(try clear g);intro g))
  refine(CT.out _ (HX.out.mono (g.sub _ (by simp))) (HY.out.mono (g.sub _ (by simp))) (G.sum g HS.out) (G.tab g HT.out)).mono ?_
  rintro e w1 ⟨pa,qa,ra,Fa,rfl,ha,hn⟩
  have hnna:=fun k o hk=>Nat.le_trans g.chg.size (hn.new k o hk)
  obtain⟨sa,Aa,na,ca,Ba,da,ka,rfl,rfl,rfl⟩:=ha.shape
  obtain⟨g1,rfl⟩:=G.new_ex _ hn
  clear hn
  (try clear g)
  revert g1
  intro g
  refine hK.out _ _ (by(simp[G.heldN,HeldN,go_sem, *];done)) (fun hHeld=>?_)
  clear hK K
  (try simp only[Act.put,yk,yl,yn,yo,yi,yj])
  refine wpAnyH_ready (rs:=[17]) (by kernel_rfl) (by simp) ?_
  refine AllReadyH.cons rfl (fun K hK=>?_) AllReadyH.nil
  ·(try simp only[Act.put,yk,yl,yn,yo,yi,yj])
   go_simp
   refine hK.out _ _ (by(simp[G.heldN,HeldN,go_sem, *];done)) (fun hHeld=>?_)
   clear hK K
   (try simp only[Act.put,yk,yl,yn,yo,yi,yj])
   refine wpAnyH_ready (rs:=[18]) (by kernel_rfl) (by simp) ?_
   refine AllReadyH.cons rfl (fun K hK=>?_) AllReadyH.nil
   ·(try simp only[Act.put,yk,yl,yn,yo,yi,yj])
    go_simp
    refine hK.out _ _ (by(simp[G.heldN,HeldN,go_sem, *];done)) (fun hHeld=>?_)
    clear hK K
    (try simp only[Act.put,yk,yl,yn,yo,yi,yj])
    refine wpAnyH_done (by kernel_rfl) ?_ _
    (as_aux_lemma=>
     (try clear hHeld)
     clear E1 E2 E3 E4 E5 E6 E7 E8 E9 E10 E11 E12
     ((try simp only[G.drew_eq,G.drewN_eq]);(refine yq _ ?_;(try generalize (G.w _).heap.size=bk);(try dsimp only[yi,yj]);(try clear g);intro g))
     go_wp2_with (with_reducible refine yq _ ?_;(try generalize (G.w _).heap.size=bk);(try dsimp only[yi,yj]);(try clear g);intro g)
     refine bodyPost_ret (v:=.tuple #[.agg #[.bool sa,.slice Aa na ca,.slice Ba da ka],.agg #[.bool s3,.slice A3 n3 c3,.slice B3 d3 k3]]) (by simp[results,Tryz.results122,go_sem]) rfl ?_
     exact fac1_end HV.out HB.out ha (G.below _) (G.sub _ _ (by simp)) hnna)
set_option maxRecDepth 20000 in
set_option maxHeartbeats 8000000 in
theorem fold_fac (n:Nat)(y:Nat→Raw)(a b:Nat→Rat)(A:Option Addr)(c:Nat)(c0 c1 c2 c3:Value)(sb:Nat)(w:World)(hx:RwW w A c n y)(hs:SumW w sb)(hT:Tab w)
  (hcl:∀j,j<n→∀(p q r:Value) (w':World),Below w.heap.size w w'→RtW w p q r (y j)→Calls Tryz.prog 122 #[.int .i64 (j:Int),.agg #[p,q,r],c0,c1,c2,c3] w' (RT2 (rawOf (a j)) (rawOf (b j)) (heapOf w) w'))
  (hba:∀j,j<n→Bd 8192 (a j)) (hbb:∀j,j<n→Bd 8192 (b j)) (hbp:∀j,j<n→Bd 8192 (a j*b j)) (hbs:∀k,k≤n→Bd 8192 (sumN k (fun j=>a j*b j))):
  Calls Tryz.prog 55 #[.slice A n c,.agg #[.func (.func 59) #[.pointer (some ⟨sb,0,none⟩)] #[],.func (.func 99) #[.pointer (some ⟨sb,0,none⟩)] #[]],.func (.func 122) #[] #[c0,c1,c2,c3]] w (RT1 (rawOf (sumN n (fun j=>a j*b j))) w):=by
 refine calls_b fun g=>?_
 have HX:=Lib.hid hx
 have HS:=Lib.hid hs
 have HT:=Lib.hid hT
 have HCL:=Lib.hid hcl
 have C0:=Lib.hid (fun w t=>whole_r 0 0 bd_zero rfl (by decide) (by decide) w t)
 have CTI:=Lib.hid (fun j (hj:j<n) p q r p' q' r' w a' b' s t=>stimes_r (a j) (b j) (a j*b j) (hba j hj) (hbb j hj) (hbp j hj) rfl p q r p' q' r' sb w a' b' s t)
 have CPL:=Lib.hid (fun k (hk:k<n) p q r p' q' r' w a' b' s t=>splus_r (sumN k (fun j=>a j*b j)) (a k*b k) (sumN (k+1) (fun j=>a j*b j)) (hbs k (by omega)) (hbp k hk) (hbs (k+1) (by omega)) rfl p q r p' q' r' sb w a' b' s t)
 have HN:=hx.len
 unfold RT1 at C0 CTI CPL ⊢
 obtain⟨f,hf⟩:∃f:Nat→Rat,(fun j=>a j*b j)=f:=⟨_,rfl⟩
 rw[hf] at CPL ⊢
 clear hx hs hT hba hbb hbp hbs hf hcl
 go_enter Tryz.func55,Tryz.ntmps55
 go_wp2_with (with_reducible refine yq _ ?_;(try generalize (G.w _).heap.size=bk);(try dsimp only[yi,yj]);(try clear g);intro g)
 refine(C0.out _ (G.tab g HT.out)).mono ?_
 rintro e w1 ⟨pa,qa,ra,Fa,rfl,ha,hn⟩
 have hnna:=fun k o hk=>Nat.le_trans g.chg.size (hn.new k o hk)
 obtain⟨sa,Aa,na,ca,Ba,da,ka,rfl,rfl,rfl⟩:=ha.shape
 obtain⟨g1,rfl⟩:=G.new_ex _ hn
 clear hn
 (try clear g)
 revert g1
 intro g
 go_wp2_with (with_reducible refine yq _ ?_;(try generalize (G.w _).heap.size=bk);(try dsimp only[yi,yj]);(try clear g);intro g)
 clear C0
 ((try simp only[G.drew_eq,G.drewN_eq]);(refine yq _ ?_;(try generalize (G.w _).heap.size=bk);(try dsimp only[yi,yj]);(try clear g);intro g))
 rename_i b4 b6 b7 K8 h8
 go_loopw [15] (fun i wr=>∃k:Nat,i=.int .i64 (k:Int)∧k≤n∧∃(F:Frag) (s:Bool) (P:Option Addr) (a b:Nat) (Q:Option Addr) (d e:Nat),Hid (F.Rt (.bool s) (.slice P a b) (.slice Q d e) (rawOf (sumN k f)))∧F.Nw w∧∃g:G w [] [(b7,43,[.bool s,.slice P a b,.slice Q d e]),(b6,43,[Value.bool false,Value.slice none 0 0,Value.slice none 0 0]),(b4,82,[Value.func (Fn.func 59) #[Value.pointer (some {block:=sb,off:=0})] #[],Value.func (Fn.func 99) #[Value.pointer (some {block:=sb,off:=0})] #[]])] [F,heapOf w],wr=g.w) (fun i _=>n-(intOf i).toNat)
 case atStart=>exact⟨0,rfl,by omega,Fa,_,_,_,_,_,_,_,Lib.hid ha,hnna,g,rfl⟩
 case round=>
  clear g ha hnna
  obtain⟨k,rfl,hk,F,s,P,a,b,Q,d,e,HF,hnw,g,rfl⟩:=hrel
  by_cases hkn:k<n
  ·have hki:(k:Int)<(n:Int):=by omega
   obtain⟨bx,ox,rfl,hnx⟩:=HX.out.num (by omega)
   obtain⟨p1,q1,r1,h1,hr1⟩:=hnx k hkn
   obtain⟨s1,P1,n1,d1,Q1,m1,e1,rfl,rfl,rfl⟩:=hr1.shape
   have E0:∀(M:List Blk) (F:Frag) (g:G w [] M [F,heapOf w]),g.w.cell? ⟨bx,ox+k*3,none⟩=some (.bool s1):=fun M F g=>(h1 _ _ _ _ g (InF.tail (InF.head _ _))).1
   have E1:∀(M:List Blk) (F:Frag) (g:G w [] M [F,heapOf w]),g.w.cell? ⟨bx,ox+k*3+1,none⟩=some (.slice P1 n1 d1):=fun M F g=>(h1 _ _ _ _ g (InF.tail (InF.head _ _))).2.1
   have E2:∀(M:List Blk) (F:Frag) (g:G w [] M [F,heapOf w]),g.w.cell? ⟨bx,ox+k*3+2,none⟩=some (.slice Q1 m1 e1):=fun M F g=>(h1 _ _ _ _ g (InF.tail (InF.head _ _))).2.2
   have HR1:=Lib.hid hr1
   have CM1:=Lib.hid (fun p q r w' hb h=>HCL.out k hkn p q r w' hb h)
   unfold RT2 at CM1
   clear h1 hr1 hnx
   go_upto_region 5 with(with_reducible refine yq _ ?_;(try generalize (G.w _).heap.size=bk);(try dsimp only[yi,yj]);(try clear g);intro g)
   ((try simp only[G.drew_eq,G.drewN_eq]);(refine yq _ ?_;(try generalize (G.w _).heap.size=bk);(try dsimp only[yi,yj]);(try clear g);intro g))
   clear E0 E1 E2
   go_wp2_with (with_reducible refine yq _ ?_;(try generalize (G.w _).heap.size=bk);(try dsimp only[yi,yj]);(try clear g);intro g)
   (try(refine cmark _ ?_;(try dsimp only[yi,yj]);(try clear g);intro g))
   refine(CM1.out _ _ _ _ (G.below g) HR1.out).mono ?_
   rintro e w1 ⟨p2,q2,r2,p3,q3,r3,H2,rfl,hr2,hr3,hno⟩
   obtain⟨s2,P2,n2,d2,Q2,m2,e2,rfl,rfl,rfl⟩:=hr2.shape
   obtain⟨s3,P3,n3,d3,Q3,m3,e3,rfl,rfl,rfl⟩:=hr3.shape
   obtain⟨g1,rfl,hov⟩:=G.nor_ex _ (by simp) hno
   clear hno hov CM1
   (try clear g)
   revert g1
   intro g
   go_upto_region 6 with(with_reducible refine yq _ ?_;(try generalize (G.w _).heap.size=bk);(try dsimp only[yi,yj]);(try clear g);intro g)
   ((try simp only[G.drew_eq,G.drewN_eq]);(refine yq _ ?_;(try generalize (G.w _).heap.size=bk);(try dsimp only[yi,yj]);(try clear g);intro g))
   refine wp_region_held_drew (S:=G.heldN g [true,true,false,false,false,true]) (by kernel_rfl) (by simp[G.heldN,HeldN,go_sem]) (fun hHeld=>?_)
   refine tk0 [0,1,3,4,5,6] ?_
   repeat (refine tkc rfl (by kernel_rfl) (fun _ _ _ h=>h) (by rfl) ‹_› (by intro w hSw;(try dsimp only at hSw);go_simp;(try with_reducible rfl)) ?_;try simp only[Act.put,yk,yl,yn,yo,yi,yj])
   refine tkn ?_
   refine wpAnyH_ready (rs:=[2,7]) (by kernel_rfl) (by simp) ?_
   refine AllReadyH.cons rfl (fun K hK=>?_) (AllReadyH.cons rfl (fun K hK=>?_) AllReadyH.nil)
   ·(try simp only[Act.put,yk,yl,yn,yo,yi,yj])
    go_simp
    refine hK.out _ _ (by simp[G.heldN,HeldN,go_sem]) (fun hHeld=>?_)
    clear hK K
    (try simp only[Act.put,yk,yl,yn,yo,yi,yj])
    refine wpAnyH_ready (rs:=[7]) (by kernel_rfl) (by simp) ?_
    refine AllReadyH.cons rfl (fun K hK=>?_) AllReadyH.nil
    ·(try simp only[Act.put,yk,yl,yn,yo,yi,yj])
     go_simp
     go_at_call 99
     (try(refine cmark _ ?_;(try dsimp only[yi,yj]);(try clear g);intro g))
     refine(CTI.out k hkn _ _ _ _ _ _ _ (G.rtI g (by simp) hr2) (G.rtI g (by simp) hr3) (G.sum g HS.out) (G.tab g HT.out)).mono ?_
     rintro e w1 ⟨pa,qa,ra,Fa,rfl,ha,hn⟩
     have hnna:=fun k o hk=>Nat.le_trans g.chg.size (hn.new k o hk)
     obtain⟨sa,Aa,na,ca,Ba,da,ka,rfl,rfl,rfl⟩:=ha.shape
     obtain⟨g1,rfl⟩:=G.new_ex _ hn
     clear hn
     (try clear g)
     revert g1
     intro g
     clear CTI
     refine hK.out _ _ (by simp[G.heldN,HeldN,go_sem]) (fun hHeld=>?_)
     clear hK K
     (try simp only[Act.put,yk,yl,yn,yo,yi,yj])
     refine wpAnyH_ready (rs:=[8]) (by kernel_rfl) (by simp) ?_
     refine AllReadyH.cons rfl (fun K hK=>?_) AllReadyH.nil
     ·(try simp only[Act.put,yk,yl,yn,yo,yi,yj])
      go_simp
      go_at_call 59
      (try(refine cmark _ ?_;(try dsimp only[yi,yj]);(try clear g);intro g))
      refine(CPL.out k hkn _ _ _ _ _ _ _ (G.rtI g (by simp) HF.out) (G.rtI g (by simp) ha) (G.sum g HS.out) (G.tab g HT.out)).mono ?_
      rintro e w1 ⟨pz,qz,rz,Fz,rfl,hz,hn⟩
      have hnnz:=fun k o hk=>Nat.le_trans g.chg.size (hn.new k o hk)
      obtain⟨sz,Az,nz,cz,Bz,dz,kz,rfl,rfl,rfl⟩:=hz.shape
      obtain⟨g1,rfl⟩:=G.new_ex _ hn
      clear hn
      (try clear g)
      revert g1
      intro g
      clear CPL
      refine hK.out _ _ (by simp[G.heldN,HeldN,go_sem]) (fun hHeld=>?_)
      clear hK K
      (try simp only[Act.put,yk,yl,yn,yo,yi,yj])
      refine wpAnyH_ready (rs:=[9]) (by kernel_rfl) (by simp) ?_
      refine AllReadyH.cons rfl (fun K hK=>?_) AllReadyH.nil
      ·(try simp only[Act.put,yk,yl,yn,yo,yi,yj])
       go_simp
       refine hK.out _ _ (by simp[G.heldN,HeldN,go_sem]) (fun hHeld=>?_)
       clear hK K
       (try simp only[Act.put,yk,yl,yn,yo,yi,yj])
       refine wpAnyH_done (by kernel_rfl) ?_ _
       (as_aux_lemma=>
        (try clear hHeld)
        ((try simp only[G.drew_eq,G.drewN_eq]);(refine yq _ ?_;(try generalize (G.w _).heap.size=bk);(try dsimp only[yi,yj]);(try clear g);intro g))
        go_wp2_with (with_reducible refine yq _ ?_;(try generalize (G.w _).heap.size=bk);(try dsimp only[yi,yj]);(try clear g);intro g)
        obtain⟨g2,hg2⟩:∃g2:G w [] [(b7,43,[.bool sz,.slice Az nz cz,.slice Bz dz kz]),(b6,43,[Value.bool false,Value.slice none 0 0,Value.slice none 0 0]),(b4,82,[Value.func (Fn.func 59) #[Value.pointer (some {block:=sb,off:=0})] #[],Value.func (Fn.func 99) #[Value.pointer (some {block:=sb,off:=0})] #[]])] [Fz,Fa,H2,F,heapOf w],g.w=g2.w:=g.forget 3
        obtain⟨g3,e3⟩:=g2.lessI (I':=[Fz,heapOf w]) (by simp)
        rw[hg2,e3]
        go_roundw
        case rel=>exact⟨k+1,by go_num,by omega,Fz,_,_,_,_,_,_,_,Lib.hid hz,hnnz,g3,rfl⟩
        case measure=>simp[intOf];omega)
   ·(try simp only[Act.put,yk,yl,yn,yo,yi,yj])
    go_simp
    go_at_call 99
    (try(refine cmark _ ?_;(try dsimp only[yi,yj]);(try clear g);intro g))
    refine(CTI.out k hkn _ _ _ _ _ _ _ (G.rtI g (by simp) hr2) (G.rtI g (by simp) hr3) (G.sum g HS.out) (G.tab g HT.out)).mono ?_
    rintro e w1 ⟨pa,qa,ra,Fa,rfl,ha,hn⟩
    have hnna:=fun k o hk=>Nat.le_trans g.chg.size (hn.new k o hk)
    obtain⟨sa,Aa,na,ca,Ba,da,ka,rfl,rfl,rfl⟩:=ha.shape
    obtain⟨g1,rfl⟩:=G.new_ex _ hn
    clear hn
    (try clear g)
    revert g1
    intro g
    clear CTI
    refine hK.out _ _ (by simp[G.heldN,HeldN,go_sem]) (fun hHeld=>?_)
    clear hK K
    (try simp only[Act.put,yk,yl,yn,yo,yi,yj])
    refine wpAnyH_ready (rs:=[2]) (by kernel_rfl) (by simp) ?_
    refine AllReadyH.cons rfl (fun K hK=>?_) AllReadyH.nil
    ·(try simp only[Act.put,yk,yl,yn,yo,yi,yj])
     go_simp
     refine hK.out _ _ (by simp[G.heldN,HeldN,go_sem]) (fun hHeld=>?_)
     clear hK K
     (try simp only[Act.put,yk,yl,yn,yo,yi,yj])
     refine wpAnyH_ready (rs:=[8]) (by kernel_rfl) (by simp) ?_
     refine AllReadyH.cons rfl (fun K hK=>?_) AllReadyH.nil
     ·(try simp only[Act.put,yk,yl,yn,yo,yi,yj])
      go_simp
      go_at_call 59
      (try(refine cmark _ ?_;(try dsimp only[yi,yj]);(try clear g);intro g))
      refine(CPL.out k hkn _ _ _ _ _ _ _ (G.rtI g (by simp) HF.out) (G.rtI g (by simp) ha) (G.sum g HS.out) (G.tab g HT.out)).mono ?_
      rintro e w1 ⟨pz,qz,rz,Fz,rfl,hz,hn⟩
      have hnnz:=fun k o hk=>Nat.le_trans g.chg.size (hn.new k o hk)
      obtain⟨sz,Az,nz,cz,Bz,dz,kz,rfl,rfl,rfl⟩:=hz.shape
      obtain⟨g1,rfl⟩:=G.new_ex _ hn
      clear hn
      (try clear g)
      revert g1
      intro g
      clear CPL
      refine hK.out _ _ (by simp[G.heldN,HeldN,go_sem]) (fun hHeld=>?_)
      clear hK K
      (try simp only[Act.put,yk,yl,yn,yo,yi,yj])
      refine wpAnyH_ready (rs:=[9]) (by kernel_rfl) (by simp) ?_
      refine AllReadyH.cons rfl (fun K hK=>?_) AllReadyH.nil
      ·(try simp only[Act.put,yk,yl,yn,yo,yi,yj])
       go_simp
       refine hK.out _ _ (by simp[G.heldN,HeldN,go_sem]) (fun hHeld=>?_)
       clear hK K
       (try simp only[Act.put,yk,yl,yn,yo,yi,yj])
       refine wpAnyH_done (by kernel_rfl) ?_ _
       (as_aux_lemma=>
        (try clear hHeld)
        ((try simp only[G.drew_eq,G.drewN_eq]);(refine yq _ ?_;(try generalize (G.w _).heap.size=bk);(try dsimp only[yi,yj]);(try clear g);intro g))
        go_wp2_with (with_reducible refine yq _ ?_;(try generalize (G.w _).heap.size=bk);(try dsimp only[yi,yj]);(try clear g);intro g)
        obtain⟨g2,hg2⟩:∃g2:G w [] [(b7,43,[.bool sz,.slice Az nz cz,.slice Bz dz kz]),(b6,43,[Value.bool false,Value.slice none 0 0,Value.slice none 0 0]),(b4,82,[Value.func (Fn.func 59) #[Value.pointer (some {block:=sb,off:=0})] #[],Value.func (Fn.func 99) #[Value.pointer (some {block:=sb,off:=0})] #[]])] [Fz,Fa,H2,F,heapOf w],g.w=g2.w:=g.forget 3
        obtain⟨g3,e3⟩:=g2.lessI (I':=[Fz,heapOf w]) (by simp)
        rw[hg2,e3]
        go_roundw
        case rel=>exact⟨k+1,by go_num,by omega,Fz,_,_,_,_,_,_,_,Lib.hid hz,hnnz,g3,rfl⟩
        case measure=>simp[intOf];omega)
  ·obtain rfl:k=n:=by omega
   go_wp2_with (with_reducible refine yq _ ?_;(try generalize (G.w _).heap.size=bk);(try dsimp only[yi,yj]);(try clear g);intro g)
   refine bodyPost_ret (v:=.agg #[.bool s,.slice P a b,.slice Q d e]) (by simp[results,Tryz.results55,go_sem]) rfl ?_
   exact⟨_,_,_,_,rfl,HF.out,G.below _,G.sub _ _ (by simp),hnw⟩
theorem cell_of {w:World}{b o:Nat}{cs:List Value}{T:TypeId}{fr:Nat×Nat}{v:Value}(h:w.heap[b]?=some (.cells cs.toArray T fr))(hv:cs[o]?=some v):w.cell? ⟨b,o,none⟩=some v:=by
 simp only[World.cell?,h]
 simpa using hv
theorem Below.keepc {w w':World}{a:Addr}{v:Value}(b:Below w.heap.size w w')(h:w.cell? a=some v):w'.cell? a=some v:=(b.cell (World.block_lt_of_cell? w _ h)).trans h
theorem rt_below {w w':World}{p q r:Value}{t:Raw}(h:RtW w p q r t)(b:Below w.heap.size w w'):RtW w' p q r t:=h.mono fun k o hk=>by
 have h1:k<w.heap.size:=Frag.lt (f:=heapOf w) (w:=w) (fun _ _ h=>h) hk
 show w'.heap[k]?=some o
 rw[b.block k h1]
 exact hk
theorem tab_below {w w':World}(h:Tab w)(b:Below w.heap.size w w'):Tab w':=fun j hj=>Below.keepc b (h j hj)
set_option maxRecDepth 20000 in
set_option maxHeartbeats 4000000 in
theorem fold_rows (k n i kk L sb2 sb lb ib kb ri rk cl ci ck cd:Nat)(Ad:Option Addr)(x u d:Nat→Rat)(oc csi csk:List Value)(li lk:List Tri)(T1 T2 T3 T4 T5 T6:TypeId)(w:World)
  (hs2:w.heap[sb2]?=some (.cells [Value.pointer (some ⟨sb,0,none⟩)].toArray T1 (0,0))) (hlb:w.heap[lb]?=some (.cells [Value.slice (some ⟨L,0,none⟩) n cl].toArray T2 (0,0))) (hib:w.heap[ib]?=some (.cells [Value.int .i64 (i:Int)].toArray T3 (0,0))) (hkb:w.heap[kb]?=some (.cells [Value.int .i64 (kk:Int)].toArray T4 (0,0)))
  (hL:w.heap[L]?=some (.cells oc.toArray T5 (0,0))) (ho1:oc[i]?=some (.slice (some ⟨ri,0,none⟩) n ci)) (ho2:oc[kk]?=some (.slice (some ⟨rk,0,none⟩) n ck))
  (hri:w.heap[ri]?=some (.cells csi.toArray T6 (0,0))) (hrk:w.heap[rk]?=some (.cells csk.toArray T6 (0,0))) (hr1:Row T6 3 n (cells3 li) ci csi) (hr2:Row T6 3 n (cells3 lk) ck csk)
  (hl1:∀j,j<k→∃p q r,li[j]?=some (p,q,r)∧RtW w p q r (rawOf (x j))) (hl2:∀j,j<k→∃p q r,lk[j]?=some (p,q,r)∧RtW w p q r (rawOf (u j))) (hd:RwW w Ad cd k (rawR d)) (hs:SumW w sb) (hT:Tab w)
  (hk:k≤n) (hi:i<n) (hkk:kk<n) (hb:∀j,j<k→Bd 8192 (x j)∧Bd 8192 (u j)∧Bd 8192 (x j*u j)∧Bd 8192 (d j)∧Bd 8192 (x j*u j*d j)) (hbs:∀t,t≤k→Bd 8192 (sumN t (fun j=>x j*u j*d j))):
  Calls Tryz.prog 55 #[.slice Ad k cd,.agg #[.func (.func 59) #[.pointer (some ⟨sb,0,none⟩)] #[],.func (.func 99) #[.pointer (some ⟨sb,0,none⟩)] #[]],.func (.func 122) #[] #[.pointer (some ⟨sb2,0,none⟩),.pointer (some ⟨lb,0,none⟩),.pointer (some ⟨ib,0,none⟩),.pointer (some ⟨kb,0,none⟩)]] w (RT1 (rawOf (sumN k (fun j=>x j*u j*d j))) w):=by
 refine fold_fac k (rawR d) (fun j=>x j*u j) d Ad cd _ _ _ _ sb w hd hs hT (fun j hj p q r w' hbl hv=>?_) (fun j hj=>(hb j hj).2.2.1) (fun j hj=>(hb j hj).2.2.2.1) (fun j hj=>(hb j hj).2.2.2.2) hbs
 obtain⟨p1,q1,r1,e1,t1⟩:=hl1 j hj
 obtain⟨p2,q2,r2,e2,t2⟩:=hl2 j hj
 obtain⟨s1,A1,n1,c1,B1,d1,k1,rfl,rfl,rfl⟩:=t1.shape
 obtain⟨s2,A2,n2,c2,B2,d2,k2,rfl,rfl,rfl⟩:=t2.shape
 obtain⟨a1,a2,a3⟩:=hr1.tri e1
 obtain⟨b1,b2,b3⟩:=hr2.tri e2
 exact fac1_r w j i kk n cl ci ck sb2 sb lb ib kb L ri rk s1 s2 A1 B1 A2 B2 n1 c1 d1 k1 n2 c2 d2 k2 (x j) (u j) (x j*u j) (rawOf (d j)) p q r w'
  (Below.keepc hbl (cell_of hs2 rfl)) (Below.keepc hbl (cell_of hlb rfl)) (Below.keepc hbl (cell_of hib rfl)) (Below.keepc hbl (cell_of hkb rfl)) (Below.keepc hbl (cell_of hL ho1)) (Below.keepc hbl (cell_of hL ho2))
  (Below.keepc hbl (cell_of hri a1)) (Below.keepc hbl (cell_of hri a2)) (Below.keepc hbl (cell_of hri a3)) (Below.keepc hbl (cell_of hrk b1)) (Below.keepc hbl (cell_of hrk b2)) (Below.keepc hbl (cell_of hrk b3))
  (rt_below t1 hbl) (rt_below t2 hbl) (hs.below hbl) (tab_below hT hbl) (hb j hj).1 (hb j hj).2.1 (hb j hj).2.2.1 rfl (by omega) hi hkk hv hbl
theorem getD_ext {l m:List Nat}(h:l.length=m.length)(e:∀j,j<l.length→l.getD j 0=m.getD j 0):l=m:=by
 apply List.ext_getElem h
 intro j h1 h2
 have:=e j h1
 rwa[List.getD_eq_getElem?_getD,List.getD_eq_getElem?_getD,List.getElem?_eq_getElem h1,List.getElem?_eq_getElem h2] at this
set_option maxRecDepth 20000 in
theorem seq_any (A1 A2:Option Addr)(c1 c2:Nat)(l1 l2:List Nat)(w:World)(h1:SlW w A1 c1 l1)(h2:SlW w A2 c2 l2):
  Calls Tryz.prog 147 #[.slice A1 l1.length c1,.slice A2 l2.length c2] w fun e w'=>e=.returned (.bool (decide (l1=l2)))∧Below w.heap.size w w':=by
 refine calls_b fun g=>?_
 have hmx:=h1.len
 by_cases hlen:l1.length=l2.length
 ·obtain⟨n,hn⟩:∃n,l1.length=n:=⟨_,rfl⟩
  have hn2:l2.length=n:=by omega
  obtain⟨r,hr⟩:∃r,decide (l1=l2)=r:=⟨_,rfl⟩
  have HN:=Lib.hid (And.intro hn (And.intro hn2 hr))
  rw[hn,hn2,hr]
  rw[hn] at hmx
  have H1:=Lib.hid h1
  have H2:=Lib.hid h2
  clear hn hn2 hr hlen h1 h2
  go_enter Tryz.func147,Tryz.ntmps147
  go_wp2_with (with_reducible refine yq _ ?_;(try generalize (G.w _).heap.size=bk);(try dsimp only[yi,yj]);(try clear g);intro g)
  go_loopw [13] (fun i wr=>∃k:Nat,k≤n∧i=.int .i64 (k:Int)∧Hid (∀j,j<k→l1.getD j 0=l2.getD j 0)∧∃g:G w [] [] [heapOf w],wr=g.w) (fun i _=>n-(intOf i).toNat)
  case atStart=>exact⟨0,by omega,rfl,Lib.hid (fun j hj=>absurd hj (Nat.not_lt_zero _)),g,rfl⟩
  case round =>
   clear g
   obtain⟨k,hk,rfl,HE,g,rfl⟩:=hrel
   by_cases hlt:k<n
   ·have k1:(k:Int)<(n:Int):=by omega
    obtain⟨b1,o1,rfl,hc1⟩:=limW_cell H1.out.lim (by rw[HN.out.1];omega)
    obtain⟨b2,o2,rfl,hc2⟩:=limW_cell H2.out.lim (by rw[HN.out.2.1];omega)
    have e1:=fun(M:List Blk) (I:List Frag) (g:G w [] M I)=>G.keepc g (hc1 k (by rw[HN.out.1];omega))
    have e2:=fun(M:List Blk) (I:List Frag) (g:G w [] M I)=>G.keepc g (hc2 k (by rw[HN.out.2.1];omega))
    clear hc1 hc2
    obtain⟨x,hx⟩:∃x:Int,((l1.getD k 0:Nat):Int)=x:=⟨_,rfl⟩
    obtain⟨y,hy⟩:∃y:Int,((l2.getD k 0:Nat):Int)=y:=⟨_,rfl⟩
    rw[hx] at e1
    rw[hy] at e2
    have HX:=Lib.hid hx
    have HY:=Lib.hid hy
    clear hx hy
    by_cases hxy:x=y
    ·have hb:(x==y)=true:=by rw[beq_iff_eq];exact hxy
     have HXY:=Lib.hid hxy
     clear hxy
     go_upto_region 6 with(with_reducible refine yq _ ?_;(try generalize (G.w _).heap.size=bk);(try dsimp only[yi,yj]);(try clear g);intro g)
     ((try simp only[G.drew_eq,G.drewN_eq]);(refine yq _ ?_;(try generalize (G.w _).heap.size=bk);(try dsimp only[yi,yj]);(try clear g);intro g))
     go_region_law (go_simp)
     all_goals (as_aux_lemma=>
      ((try simp only[G.drew_eq,G.drewN_eq]);(refine yq _ ?_;(try generalize (G.w _).heap.size=bk);(try dsimp only[yi,yj]);(try clear g);intro g))
      go_wp2_with (with_reducible refine yq _ ?_;(try generalize (G.w _).heap.size=bk);(try dsimp only[yi,yj]);(try clear g);intro g)
      go_roundw
      case rel=>
       refine⟨k+1,by omega,by go_num,Lib.hid (fun j hj=>?_),g,rfl⟩
       rcases Nat.lt_succ_iff_lt_or_eq.1 hj with hj|rfl
       ·exact HE.out j hj
       ·have:=HXY.out
        rw[←HX.out,←HY.out] at this
        omega
      case measure=>simp[intOf];omega)
    ·have hb:(x==y)=false:=by rw[beq_eq_false_iff_ne];exact hxy
     have hrf:r=false:=by
      rw[←HN.out.2.2]
      exact decide_eq_false fun e=>hxy (by rw[←HX.out,←HY.out,e])
     subst hrf
     clear hxy
     go_upto_region 6 with(with_reducible refine yq _ ?_;(try generalize (G.w _).heap.size=bk);(try dsimp only[yi,yj]);(try clear g);intro g)
     ((try simp only[G.drew_eq,G.drewN_eq]);(refine yq _ ?_;(try generalize (G.w _).heap.size=bk);(try dsimp only[yi,yj]);(try clear g);intro g))
     go_region_law (go_simp)
     all_goals (as_aux_lemma=>
      ((try simp only[G.drew_eq,G.drewN_eq]);(refine yq _ ?_;(try generalize (G.w _).heap.size=bk);(try dsimp only[yi,yj]);(try clear g);intro g))
      go_wp2_with (with_reducible refine yq _ ?_;(try generalize (G.w _).heap.size=bk);(try dsimp only[yi,yj]);(try clear g);intro g)
      go_ret
      exact⟨rfl,G.below _⟩)
   ·obtain rfl:k=n:=by omega
    have hrf:r=true:=by
     rw[←HN.out.2.2]
     exact decide_eq_true (getD_ext (by rw[HN.out.1,HN.out.2.1]) (fun j hj=>HE.out j (by have:=HN.out.1;omega)))
    subst hrf
    go_wp2_with (with_reducible refine yq _ ?_;(try generalize (G.w _).heap.size=bk);(try dsimp only[yi,yj]);(try clear g);intro g)
    go_ret
    exact⟨rfl,G.below _⟩
 ·have hd:decide (l1=l2)=false:=decide_eq_false fun e=>hlen (by rw[e])
  rw[hd]
  have hb:((l1.length:Int)==(l2.length:Int))=false:=by rw[beq_eq_false_iff_ne];omega
  generalize l1.length=n1 at*
  generalize l2.length=n2 at*
  clear hlen hd h1 h2
  go_enter Tryz.func147,Tryz.ntmps147
  go_wp2_with (with_reducible refine yq _ ?_;(try generalize (G.w _).heap.size=bk);(try dsimp only[yi,yj]);(try clear g);intro g)
  go_ret
  exact⟨rfl,G.below _⟩
set_option maxRecDepth 20000 in
theorem mequal_any (t u:Raw)(p q r p' q' r':Value)(w:World)(h:RtW w p q r t)(h':RtW w p' q' r' u):
  Calls Tryz.prog 120 #[.agg #[p,q,r],.agg #[p',q',r']] w fun e w'=>e=.returned (.bool (decide (t=u)))∧Below w.heap.size w w':=by
 refine calls_b fun g=>?_
 obtain⟨s,l,m⟩:=t
 obtain⟨s',l',m'⟩:=u
 obtain⟨rfl,⟨A1,c1,rfl,h1⟩,B1,k1,rfl,j1⟩:=h
 obtain⟨rfl,⟨A2,c2,rfl,h2⟩,B2,k2,rfl,j2⟩:=h'
 dsimp only at h1 h2 j1 j2 ⊢
 have C1:=Lib.hid (fun w h1 h2=>seq_any A1 A2 c1 c2 l l' w h1 h2)
 have C2:=Lib.hid (fun w h1 h2=>seq_any B1 B2 k1 k2 m m' w h1 h2)
 have H1:=Lib.hid h1
 have H2:=Lib.hid h2
 have J1:=Lib.hid j1
 have J2:=Lib.hid j2
 clear h1 h2 j1 j2
 have hd:decide ((s,l,m)=(s',l',m'))=(decide (s=s')&&(decide (l=l')&&decide (m=m'))):=by
  rw[←Bool.decide_and,←Bool.decide_and]
  exact decide_eq_decide.2 (by simp)
 rw[hd]
 clear hd
 have hss:decide (s=s')=(s==s'):=by cases s<;>cases s'<;>rfl
 rw[hss]
 generalize decide (l=l')=e1 at*
 generalize decide (m=m')=e2 at*
 clear hss
 generalize l.length=n1 at*
 generalize m.length=d1 at*
 generalize l'.length=n2 at*
 generalize m'.length=d2 at*
 go_enter Tryz.func120,Tryz.ntmps120
 cases s<;>cases s'
 all_goals
  go_wp2_with (with_reducible refine yq _ ?_;(try generalize (G.w _).heap.size=bk);(try dsimp only[yi,yj]);(try clear g);intro g)
 all_goals first
  |(go_ret;exact⟨rfl,G.below _⟩)
  |skip
 all_goals
  refine(C1.out _ (G.sl g (by simp) H1.out) (G.sl g (by simp) H2.out)).mono ?_
  rintro e w1 ⟨rfl,hb⟩
  obtain⟨g1,rfl⟩:=G.call_ex _ hb
  clear hb
  (try clear g)
  revert g1
  intro g
 all_goals cases e1
 all_goals
  go_wp2_with (with_reducible refine yq _ ?_;(try generalize (G.w _).heap.size=bk);(try dsimp only[yi,yj]);(try clear g);intro g)
 all_goals first
  |(go_ret;exact⟨rfl,G.below _⟩)
  |skip
 all_goals
  refine(C2.out _ (G.sl g (by simp) J1.out) (G.sl g (by simp) J2.out)).mono ?_
  rintro e w1 ⟨rfl,hb⟩
  obtain⟨g1,rfl⟩:=G.call_ex _ hb
  clear hb
  (try clear g)
  revert g1
  intro g
  go_wp2_with (with_reducible refine yq _ ?_;(try generalize (G.w _).heap.size=bk);(try dsimp only[yi,yj]);(try clear g);intro g)
  go_ret
  exact⟨by simp,G.below _⟩
set_option maxRecDepth 20000 in
set_option maxHeartbeats 8000000 in
theorem fold_q (n:Nat)(y:Nat→Raw)(a b:Nat→Rat)(A:Option Addr)(c:Nat)(c0 c1:Value)(sb:Nat)(w:World)(hx:RwW w A c n y)(hs:SumW w sb)(hT:Tab w)
  (hcl:∀j,j<n→∀(p q r:Value) (w':World),Below w.heap.size w w'→RtW w p q r (y j)→Calls Tryz.prog 90 #[.int .i64 (j:Int),.agg #[p,q,r],c0,c1] w' (RT2 (rawOf (a j)) (rawOf (b j)) (heapOf w) w'))
  (hba:∀j,j<n→Bd 8192 (a j)) (hbb:∀j,j<n→Bd 8192 (b j)) (hbp:∀j,j<n→Bd 8192 (a j*b j)) (hbs:∀k,k≤n→Bd 8192 (sumN k (fun j=>a j*b j))):
  Calls Tryz.prog 55 #[.slice A n c,.agg #[.func (.func 59) #[.pointer (some ⟨sb,0,none⟩)] #[],.func (.func 99) #[.pointer (some ⟨sb,0,none⟩)] #[]],.func (.func 90) #[] #[c0,c1]] w (RT1 (rawOf (sumN n (fun j=>a j*b j))) w):=by
 refine calls_b fun g=>?_
 have HX:=Lib.hid hx
 have HS:=Lib.hid hs
 have HT:=Lib.hid hT
 have HCL:=Lib.hid hcl
 have C0:=Lib.hid (fun w t=>whole_r 0 0 bd_zero rfl (by decide) (by decide) w t)
 have CTI:=Lib.hid (fun j (hj:j<n) p q r p' q' r' w a' b' s t=>stimes_r (a j) (b j) (a j*b j) (hba j hj) (hbb j hj) (hbp j hj) rfl p q r p' q' r' sb w a' b' s t)
 have CPL:=Lib.hid (fun k (hk:k<n) p q r p' q' r' w a' b' s t=>splus_r (sumN k (fun j=>a j*b j)) (a k*b k) (sumN (k+1) (fun j=>a j*b j)) (hbs k (by omega)) (hbp k hk) (hbs (k+1) (by omega)) rfl p q r p' q' r' sb w a' b' s t)
 have HN:=hx.len
 unfold RT1 at C0 CTI CPL ⊢
 obtain⟨f,hf⟩:∃f:Nat→Rat,(fun j=>a j*b j)=f:=⟨_,rfl⟩
 rw[hf] at CPL ⊢
 clear hx hs hT hba hbb hbp hbs hf hcl
 go_enter Tryz.func55,Tryz.ntmps55
 go_wp2_with (with_reducible refine yq _ ?_;(try generalize (G.w _).heap.size=bk);(try dsimp only[yi,yj]);(try clear g);intro g)
 refine(C0.out _ (G.tab g HT.out)).mono ?_
 rintro e w1 ⟨pa,qa,ra,Fa,rfl,ha,hn⟩
 have hnna:=fun k o hk=>Nat.le_trans g.chg.size (hn.new k o hk)
 obtain⟨sa,Aa,na,ca,Ba,da,ka,rfl,rfl,rfl⟩:=ha.shape
 obtain⟨g1,rfl⟩:=G.new_ex _ hn
 clear hn
 (try clear g)
 revert g1
 intro g
 go_wp2_with (with_reducible refine yq _ ?_;(try generalize (G.w _).heap.size=bk);(try dsimp only[yi,yj]);(try clear g);intro g)
 clear C0
 ((try simp only[G.drew_eq,G.drewN_eq]);(refine yq _ ?_;(try generalize (G.w _).heap.size=bk);(try dsimp only[yi,yj]);(try clear g);intro g))
 rename_i b4 b6 b7 K8 h8
 go_loopw [15] (fun i wr=>∃k:Nat,i=.int .i64 (k:Int)∧k≤n∧∃(F:Frag) (s:Bool) (P:Option Addr) (a b:Nat) (Q:Option Addr) (d e:Nat),Hid (F.Rt (.bool s) (.slice P a b) (.slice Q d e) (rawOf (sumN k f)))∧F.Nw w∧∃g:G w [] [(b7,43,[.bool s,.slice P a b,.slice Q d e]),(b6,43,[Value.bool false,Value.slice none 0 0,Value.slice none 0 0]),(b4,82,[Value.func (Fn.func 59) #[Value.pointer (some {block:=sb,off:=0})] #[],Value.func (Fn.func 99) #[Value.pointer (some {block:=sb,off:=0})] #[]])] [F,heapOf w],wr=g.w) (fun i _=>n-(intOf i).toNat)
 case atStart=>exact⟨0,rfl,by omega,Fa,_,_,_,_,_,_,_,Lib.hid ha,hnna,g,rfl⟩
 case round=>
  clear g ha hnna
  obtain⟨k,rfl,hk,F,s,P,a,b,Q,d,e,HF,hnw,g,rfl⟩:=hrel
  by_cases hkn:k<n
  ·have hki:(k:Int)<(n:Int):=by omega
   obtain⟨bx,ox,rfl,hnx⟩:=HX.out.num (by omega)
   obtain⟨p1,q1,r1,h1,hr1⟩:=hnx k hkn
   obtain⟨s1,P1,n1,d1,Q1,m1,e1,rfl,rfl,rfl⟩:=hr1.shape
   have E0:∀(M:List Blk) (F:Frag) (g:G w [] M [F,heapOf w]),g.w.cell? ⟨bx,ox+k*3,none⟩=some (.bool s1):=fun M F g=>(h1 _ _ _ _ g (InF.tail (InF.head _ _))).1
   have E1:∀(M:List Blk) (F:Frag) (g:G w [] M [F,heapOf w]),g.w.cell? ⟨bx,ox+k*3+1,none⟩=some (.slice P1 n1 d1):=fun M F g=>(h1 _ _ _ _ g (InF.tail (InF.head _ _))).2.1
   have E2:∀(M:List Blk) (F:Frag) (g:G w [] M [F,heapOf w]),g.w.cell? ⟨bx,ox+k*3+2,none⟩=some (.slice Q1 m1 e1):=fun M F g=>(h1 _ _ _ _ g (InF.tail (InF.head _ _))).2.2
   have HR1:=Lib.hid hr1
   have CM1:=Lib.hid (fun p q r w' hb h=>HCL.out k hkn p q r w' hb h)
   unfold RT2 at CM1
   clear h1 hr1 hnx
   go_upto_region 5 with(with_reducible refine yq _ ?_;(try generalize (G.w _).heap.size=bk);(try dsimp only[yi,yj]);(try clear g);intro g)
   ((try simp only[G.drew_eq,G.drewN_eq]);(refine yq _ ?_;(try generalize (G.w _).heap.size=bk);(try dsimp only[yi,yj]);(try clear g);intro g))
   clear E0 E1 E2
   go_wp2_with (with_reducible refine yq _ ?_;(try generalize (G.w _).heap.size=bk);(try dsimp only[yi,yj]);(try clear g);intro g)
   (try(refine cmark _ ?_;(try dsimp only[yi,yj]);(try clear g);intro g))
   refine(CM1.out _ _ _ _ (G.below g) HR1.out).mono ?_
   rintro e w1 ⟨p2,q2,r2,p3,q3,r3,H2,rfl,hr2,hr3,hno⟩
   obtain⟨s2,P2,n2,d2,Q2,m2,e2,rfl,rfl,rfl⟩:=hr2.shape
   obtain⟨s3,P3,n3,d3,Q3,m3,e3,rfl,rfl,rfl⟩:=hr3.shape
   obtain⟨g1,rfl,hov⟩:=G.nor_ex _ (by simp) hno
   clear hno hov CM1
   (try clear g)
   revert g1
   intro g
   go_upto_region 6 with(with_reducible refine yq _ ?_;(try generalize (G.w _).heap.size=bk);(try dsimp only[yi,yj]);(try clear g);intro g)
   ((try simp only[G.drew_eq,G.drewN_eq]);(refine yq _ ?_;(try generalize (G.w _).heap.size=bk);(try dsimp only[yi,yj]);(try clear g);intro g))
   refine wp_region_held_drew (S:=G.heldN g [true,true,false,false,false,true]) (by kernel_rfl) (by simp[G.heldN,HeldN,go_sem]) (fun hHeld=>?_)
   refine tk0 [0,1,3,4,5,6] ?_
   repeat (refine tkc rfl (by kernel_rfl) (fun _ _ _ h=>h) (by rfl) ‹_› (by intro w hSw;(try dsimp only at hSw);go_simp;(try with_reducible rfl)) ?_;try simp only[Act.put,yk,yl,yn,yo,yi,yj])
   refine tkn ?_
   refine wpAnyH_ready (rs:=[2,7]) (by kernel_rfl) (by simp) ?_
   refine AllReadyH.cons rfl (fun K hK=>?_) (AllReadyH.cons rfl (fun K hK=>?_) AllReadyH.nil)
   ·(try simp only[Act.put,yk,yl,yn,yo,yi,yj])
    go_simp
    refine hK.out _ _ (by simp[G.heldN,HeldN,go_sem]) (fun hHeld=>?_)
    clear hK K
    (try simp only[Act.put,yk,yl,yn,yo,yi,yj])
    refine wpAnyH_ready (rs:=[7]) (by kernel_rfl) (by simp) ?_
    refine AllReadyH.cons rfl (fun K hK=>?_) AllReadyH.nil
    ·(try simp only[Act.put,yk,yl,yn,yo,yi,yj])
     go_simp
     go_at_call 99
     (try(refine cmark _ ?_;(try dsimp only[yi,yj]);(try clear g);intro g))
     refine(CTI.out k hkn _ _ _ _ _ _ _ (G.rtI g (by simp) hr2) (G.rtI g (by simp) hr3) (G.sum g HS.out) (G.tab g HT.out)).mono ?_
     rintro e w1 ⟨pa,qa,ra,Fa,rfl,ha,hn⟩
     have hnna:=fun k o hk=>Nat.le_trans g.chg.size (hn.new k o hk)
     obtain⟨sa,Aa,na,ca,Ba,da,ka,rfl,rfl,rfl⟩:=ha.shape
     obtain⟨g1,rfl⟩:=G.new_ex _ hn
     clear hn
     (try clear g)
     revert g1
     intro g
     clear CTI
     refine hK.out _ _ (by simp[G.heldN,HeldN,go_sem]) (fun hHeld=>?_)
     clear hK K
     (try simp only[Act.put,yk,yl,yn,yo,yi,yj])
     refine wpAnyH_ready (rs:=[8]) (by kernel_rfl) (by simp) ?_
     refine AllReadyH.cons rfl (fun K hK=>?_) AllReadyH.nil
     ·(try simp only[Act.put,yk,yl,yn,yo,yi,yj])
      go_simp
      go_at_call 59
      (try(refine cmark _ ?_;(try dsimp only[yi,yj]);(try clear g);intro g))
      refine(CPL.out k hkn _ _ _ _ _ _ _ (G.rtI g (by simp) HF.out) (G.rtI g (by simp) ha) (G.sum g HS.out) (G.tab g HT.out)).mono ?_
      rintro e w1 ⟨pz,qz,rz,Fz,rfl,hz,hn⟩
      have hnnz:=fun k o hk=>Nat.le_trans g.chg.size (hn.new k o hk)
      obtain⟨sz,Az,nz,cz,Bz,dz,kz,rfl,rfl,rfl⟩:=hz.shape
      obtain⟨g1,rfl⟩:=G.new_ex _ hn
      clear hn
      (try clear g)
      revert g1
      intro g
      clear CPL
      refine hK.out _ _ (by simp[G.heldN,HeldN,go_sem]) (fun hHeld=>?_)
      clear hK K
      (try simp only[Act.put,yk,yl,yn,yo,yi,yj])
      refine wpAnyH_ready (rs:=[9]) (by kernel_rfl) (by simp) ?_
      refine AllReadyH.cons rfl (fun K hK=>?_) AllReadyH.nil
      ·(try simp only[Act.put,yk,yl,yn,yo,yi,yj])
       go_simp
       refine hK.out _ _ (by simp[G.heldN,HeldN,go_sem]) (fun hHeld=>?_)
       clear hK K
       (try simp only[Act.put,yk,yl,yn,yo,yi,yj])
       refine wpAnyH_done (by kernel_rfl) ?_ _
       (as_aux_lemma=>
        (try clear hHeld)
        ((try simp only[G.drew_eq,G.drewN_eq]);(refine yq _ ?_;(try generalize (G.w _).heap.size=bk);(try dsimp only[yi,yj]);(try clear g);intro g))
        go_wp2_with (with_reducible refine yq _ ?_;(try generalize (G.w _).heap.size=bk);(try dsimp only[yi,yj]);(try clear g);intro g)
        obtain⟨g2,hg2⟩:∃g2:G w [] [(b7,43,[.bool sz,.slice Az nz cz,.slice Bz dz kz]),(b6,43,[Value.bool false,Value.slice none 0 0,Value.slice none 0 0]),(b4,82,[Value.func (Fn.func 59) #[Value.pointer (some {block:=sb,off:=0})] #[],Value.func (Fn.func 99) #[Value.pointer (some {block:=sb,off:=0})] #[]])] [Fz,Fa,H2,F,heapOf w],g.w=g2.w:=g.forget 3
        obtain⟨g3,e3⟩:=g2.lessI (I':=[Fz,heapOf w]) (by simp)
        rw[hg2,e3]
        go_roundw
        case rel=>exact⟨k+1,by go_num,by omega,Fz,_,_,_,_,_,_,_,Lib.hid hz,hnnz,g3,rfl⟩
        case measure=>simp[intOf];omega)
   ·(try simp only[Act.put,yk,yl,yn,yo,yi,yj])
    go_simp
    go_at_call 99
    (try(refine cmark _ ?_;(try dsimp only[yi,yj]);(try clear g);intro g))
    refine(CTI.out k hkn _ _ _ _ _ _ _ (G.rtI g (by simp) hr2) (G.rtI g (by simp) hr3) (G.sum g HS.out) (G.tab g HT.out)).mono ?_
    rintro e w1 ⟨pa,qa,ra,Fa,rfl,ha,hn⟩
    have hnna:=fun k o hk=>Nat.le_trans g.chg.size (hn.new k o hk)
    obtain⟨sa,Aa,na,ca,Ba,da,ka,rfl,rfl,rfl⟩:=ha.shape
    obtain⟨g1,rfl⟩:=G.new_ex _ hn
    clear hn
    (try clear g)
    revert g1
    intro g
    clear CTI
    refine hK.out _ _ (by simp[G.heldN,HeldN,go_sem]) (fun hHeld=>?_)
    clear hK K
    (try simp only[Act.put,yk,yl,yn,yo,yi,yj])
    refine wpAnyH_ready (rs:=[2]) (by kernel_rfl) (by simp) ?_
    refine AllReadyH.cons rfl (fun K hK=>?_) AllReadyH.nil
    ·(try simp only[Act.put,yk,yl,yn,yo,yi,yj])
     go_simp
     refine hK.out _ _ (by simp[G.heldN,HeldN,go_sem]) (fun hHeld=>?_)
     clear hK K
     (try simp only[Act.put,yk,yl,yn,yo,yi,yj])
     refine wpAnyH_ready (rs:=[8]) (by kernel_rfl) (by simp) ?_
     refine AllReadyH.cons rfl (fun K hK=>?_) AllReadyH.nil
     ·(try simp only[Act.put,yk,yl,yn,yo,yi,yj])
      go_simp
      go_at_call 59
      (try(refine cmark _ ?_;(try dsimp only[yi,yj]);(try clear g);intro g))
      refine(CPL.out k hkn _ _ _ _ _ _ _ (G.rtI g (by simp) HF.out) (G.rtI g (by simp) ha) (G.sum g HS.out) (G.tab g HT.out)).mono ?_
      rintro e w1 ⟨pz,qz,rz,Fz,rfl,hz,hn⟩
      have hnnz:=fun k o hk=>Nat.le_trans g.chg.size (hn.new k o hk)
      obtain⟨sz,Az,nz,cz,Bz,dz,kz,rfl,rfl,rfl⟩:=hz.shape
      obtain⟨g1,rfl⟩:=G.new_ex _ hn
      clear hn
      (try clear g)
      revert g1
      intro g
      clear CPL
      refine hK.out _ _ (by simp[G.heldN,HeldN,go_sem]) (fun hHeld=>?_)
      clear hK K
      (try simp only[Act.put,yk,yl,yn,yo,yi,yj])
      refine wpAnyH_ready (rs:=[9]) (by kernel_rfl) (by simp) ?_
      refine AllReadyH.cons rfl (fun K hK=>?_) AllReadyH.nil
      ·(try simp only[Act.put,yk,yl,yn,yo,yi,yj])
       go_simp
       refine hK.out _ _ (by simp[G.heldN,HeldN,go_sem]) (fun hHeld=>?_)
       clear hK K
       (try simp only[Act.put,yk,yl,yn,yo,yi,yj])
       refine wpAnyH_done (by kernel_rfl) ?_ _
       (as_aux_lemma=>
        (try clear hHeld)
        ((try simp only[G.drew_eq,G.drewN_eq]);(refine yq _ ?_;(try generalize (G.w _).heap.size=bk);(try dsimp only[yi,yj]);(try clear g);intro g))
        go_wp2_with (with_reducible refine yq _ ?_;(try generalize (G.w _).heap.size=bk);(try dsimp only[yi,yj]);(try clear g);intro g)
        obtain⟨g2,hg2⟩:∃g2:G w [] [(b7,43,[.bool sz,.slice Az nz cz,.slice Bz dz kz]),(b6,43,[Value.bool false,Value.slice none 0 0,Value.slice none 0 0]),(b4,82,[Value.func (Fn.func 59) #[Value.pointer (some {block:=sb,off:=0})] #[],Value.func (Fn.func 99) #[Value.pointer (some {block:=sb,off:=0})] #[]])] [Fz,Fa,H2,F,heapOf w],g.w=g2.w:=g.forget 3
        obtain⟨g3,e3⟩:=g2.lessI (I':=[Fz,heapOf w]) (by simp)
        rw[hg2,e3]
        go_roundw
        case rel=>exact⟨k+1,by go_num,by omega,Fz,_,_,_,_,_,_,_,Lib.hid hz,hnnz,g3,rfl⟩
        case measure=>simp[intOf];omega)
  ·obtain rfl:k=n:=by omega
   go_wp2_with (with_reducible refine yq _ ?_;(try generalize (G.w _).heap.size=bk);(try dsimp only[yi,yj]);(try clear g);intro g)
   refine bodyPost_ret (v:=.agg #[.bool s,.slice P a b,.slice Q d e]) (by simp[results,Tryz.results55,go_sem]) rfl ?_
   exact⟨_,_,_,_,rfl,HF.out,G.below _,G.sub _ _ (by simp),hnw⟩
set_option maxRecDepth 20000 in
set_option maxHeartbeats 8000000 in
theorem fold_qo (n:Nat)(y:Nat→Raw)(a b:Nat→Rat)(A:Option Addr)(c:Nat)(c0 c1 c2:Value)(sb:Nat)(w:World)(hx:RwW w A c n y)(hs:SumW w sb)(hT:Tab w)
  (hcl:∀j,j<n→∀(p q r:Value) (w':World),Below w.heap.size w w'→RtW w p q r (y j)→Calls Tryz.prog 89 #[.int .i64 (j:Int),.agg #[p,q,r],c0,c1,c2] w' (RT2 (rawOf (a j)) (rawOf (b j)) (heapOf w) w'))
  (hba:∀j,j<n→Bd 8192 (a j)) (hbb:∀j,j<n→Bd 8192 (b j)) (hbp:∀j,j<n→Bd 8192 (a j*b j)) (hbs:∀k,k≤n→Bd 8192 (sumN k (fun j=>a j*b j))):
  Calls Tryz.prog 55 #[.slice A n c,.agg #[.func (.func 59) #[.pointer (some ⟨sb,0,none⟩)] #[],.func (.func 99) #[.pointer (some ⟨sb,0,none⟩)] #[]],.func (.func 89) #[] #[c0,c1,c2]] w (RT1 (rawOf (sumN n (fun j=>a j*b j))) w):=by
 refine calls_b fun g=>?_
 have HX:=Lib.hid hx
 have HS:=Lib.hid hs
 have HT:=Lib.hid hT
 have HCL:=Lib.hid hcl
 have C0:=Lib.hid (fun w t=>whole_r 0 0 bd_zero rfl (by decide) (by decide) w t)
 have CTI:=Lib.hid (fun j (hj:j<n) p q r p' q' r' w a' b' s t=>stimes_r (a j) (b j) (a j*b j) (hba j hj) (hbb j hj) (hbp j hj) rfl p q r p' q' r' sb w a' b' s t)
 have CPL:=Lib.hid (fun k (hk:k<n) p q r p' q' r' w a' b' s t=>splus_r (sumN k (fun j=>a j*b j)) (a k*b k) (sumN (k+1) (fun j=>a j*b j)) (hbs k (by omega)) (hbp k hk) (hbs (k+1) (by omega)) rfl p q r p' q' r' sb w a' b' s t)
 have HN:=hx.len
 unfold RT1 at C0 CTI CPL ⊢
 obtain⟨f,hf⟩:∃f:Nat→Rat,(fun j=>a j*b j)=f:=⟨_,rfl⟩
 rw[hf] at CPL ⊢
 clear hx hs hT hba hbb hbp hbs hf hcl
 go_enter Tryz.func55,Tryz.ntmps55
 go_wp2_with (with_reducible refine yq _ ?_;(try generalize (G.w _).heap.size=bk);(try dsimp only[yi,yj]);(try clear g);intro g)
 refine(C0.out _ (G.tab g HT.out)).mono ?_
 rintro e w1 ⟨pa,qa,ra,Fa,rfl,ha,hn⟩
 have hnna:=fun k o hk=>Nat.le_trans g.chg.size (hn.new k o hk)
 obtain⟨sa,Aa,na,ca,Ba,da,ka,rfl,rfl,rfl⟩:=ha.shape
 obtain⟨g1,rfl⟩:=G.new_ex _ hn
 clear hn
 (try clear g)
 revert g1
 intro g
 go_wp2_with (with_reducible refine yq _ ?_;(try generalize (G.w _).heap.size=bk);(try dsimp only[yi,yj]);(try clear g);intro g)
 clear C0
 ((try simp only[G.drew_eq,G.drewN_eq]);(refine yq _ ?_;(try generalize (G.w _).heap.size=bk);(try dsimp only[yi,yj]);(try clear g);intro g))
 rename_i b4 b6 b7 K8 h8
 go_loopw [15] (fun i wr=>∃k:Nat,i=.int .i64 (k:Int)∧k≤n∧∃(F:Frag) (s:Bool) (P:Option Addr) (a b:Nat) (Q:Option Addr) (d e:Nat),Hid (F.Rt (.bool s) (.slice P a b) (.slice Q d e) (rawOf (sumN k f)))∧F.Nw w∧∃g:G w [] [(b7,43,[.bool s,.slice P a b,.slice Q d e]),(b6,43,[Value.bool false,Value.slice none 0 0,Value.slice none 0 0]),(b4,82,[Value.func (Fn.func 59) #[Value.pointer (some {block:=sb,off:=0})] #[],Value.func (Fn.func 99) #[Value.pointer (some {block:=sb,off:=0})] #[]])] [F,heapOf w],wr=g.w) (fun i _=>n-(intOf i).toNat)
 case atStart=>exact⟨0,rfl,by omega,Fa,_,_,_,_,_,_,_,Lib.hid ha,hnna,g,rfl⟩
 case round=>
  clear g ha hnna
  obtain⟨k,rfl,hk,F,s,P,a,b,Q,d,e,HF,hnw,g,rfl⟩:=hrel
  by_cases hkn:k<n
  ·have hki:(k:Int)<(n:Int):=by omega
   obtain⟨bx,ox,rfl,hnx⟩:=HX.out.num (by omega)
   obtain⟨p1,q1,r1,h1,hr1⟩:=hnx k hkn
   obtain⟨s1,P1,n1,d1,Q1,m1,e1,rfl,rfl,rfl⟩:=hr1.shape
   have E0:∀(M:List Blk) (F:Frag) (g:G w [] M [F,heapOf w]),g.w.cell? ⟨bx,ox+k*3,none⟩=some (.bool s1):=fun M F g=>(h1 _ _ _ _ g (InF.tail (InF.head _ _))).1
   have E1:∀(M:List Blk) (F:Frag) (g:G w [] M [F,heapOf w]),g.w.cell? ⟨bx,ox+k*3+1,none⟩=some (.slice P1 n1 d1):=fun M F g=>(h1 _ _ _ _ g (InF.tail (InF.head _ _))).2.1
   have E2:∀(M:List Blk) (F:Frag) (g:G w [] M [F,heapOf w]),g.w.cell? ⟨bx,ox+k*3+2,none⟩=some (.slice Q1 m1 e1):=fun M F g=>(h1 _ _ _ _ g (InF.tail (InF.head _ _))).2.2
   have HR1:=Lib.hid hr1
   have CM1:=Lib.hid (fun p q r w' hb h=>HCL.out k hkn p q r w' hb h)
   unfold RT2 at CM1
   clear h1 hr1 hnx
   go_upto_region 5 with(with_reducible refine yq _ ?_;(try generalize (G.w _).heap.size=bk);(try dsimp only[yi,yj]);(try clear g);intro g)
   ((try simp only[G.drew_eq,G.drewN_eq]);(refine yq _ ?_;(try generalize (G.w _).heap.size=bk);(try dsimp only[yi,yj]);(try clear g);intro g))
   clear E0 E1 E2
   go_wp2_with (with_reducible refine yq _ ?_;(try generalize (G.w _).heap.size=bk);(try dsimp only[yi,yj]);(try clear g);intro g)
   (try(refine cmark _ ?_;(try dsimp only[yi,yj]);(try clear g);intro g))
   refine(CM1.out _ _ _ _ (G.below g) HR1.out).mono ?_
   rintro e w1 ⟨p2,q2,r2,p3,q3,r3,H2,rfl,hr2,hr3,hno⟩
   obtain⟨s2,P2,n2,d2,Q2,m2,e2,rfl,rfl,rfl⟩:=hr2.shape
   obtain⟨s3,P3,n3,d3,Q3,m3,e3,rfl,rfl,rfl⟩:=hr3.shape
   obtain⟨g1,rfl,hov⟩:=G.nor_ex _ (by simp) hno
   clear hno hov CM1
   (try clear g)
   revert g1
   intro g
   go_upto_region 6 with(with_reducible refine yq _ ?_;(try generalize (G.w _).heap.size=bk);(try dsimp only[yi,yj]);(try clear g);intro g)
   ((try simp only[G.drew_eq,G.drewN_eq]);(refine yq _ ?_;(try generalize (G.w _).heap.size=bk);(try dsimp only[yi,yj]);(try clear g);intro g))
   refine wp_region_held_drew (S:=G.heldN g [true,true,false,false,false,true]) (by kernel_rfl) (by simp[G.heldN,HeldN,go_sem]) (fun hHeld=>?_)
   refine tk0 [0,1,3,4,5,6] ?_
   repeat (refine tkc rfl (by kernel_rfl) (fun _ _ _ h=>h) (by rfl) ‹_› (by intro w hSw;(try dsimp only at hSw);go_simp;(try with_reducible rfl)) ?_;try simp only[Act.put,yk,yl,yn,yo,yi,yj])
   refine tkn ?_
   refine wpAnyH_ready (rs:=[2,7]) (by kernel_rfl) (by simp) ?_
   refine AllReadyH.cons rfl (fun K hK=>?_) (AllReadyH.cons rfl (fun K hK=>?_) AllReadyH.nil)
   ·(try simp only[Act.put,yk,yl,yn,yo,yi,yj])
    go_simp
    refine hK.out _ _ (by simp[G.heldN,HeldN,go_sem]) (fun hHeld=>?_)
    clear hK K
    (try simp only[Act.put,yk,yl,yn,yo,yi,yj])
    refine wpAnyH_ready (rs:=[7]) (by kernel_rfl) (by simp) ?_
    refine AllReadyH.cons rfl (fun K hK=>?_) AllReadyH.nil
    ·(try simp only[Act.put,yk,yl,yn,yo,yi,yj])
     go_simp
     go_at_call 99
     (try(refine cmark _ ?_;(try dsimp only[yi,yj]);(try clear g);intro g))
     refine(CTI.out k hkn _ _ _ _ _ _ _ (G.rtI g (by simp) hr2) (G.rtI g (by simp) hr3) (G.sum g HS.out) (G.tab g HT.out)).mono ?_
     rintro e w1 ⟨pa,qa,ra,Fa,rfl,ha,hn⟩
     have hnna:=fun k o hk=>Nat.le_trans g.chg.size (hn.new k o hk)
     obtain⟨sa,Aa,na,ca,Ba,da,ka,rfl,rfl,rfl⟩:=ha.shape
     obtain⟨g1,rfl⟩:=G.new_ex _ hn
     clear hn
     (try clear g)
     revert g1
     intro g
     clear CTI
     refine hK.out _ _ (by simp[G.heldN,HeldN,go_sem]) (fun hHeld=>?_)
     clear hK K
     (try simp only[Act.put,yk,yl,yn,yo,yi,yj])
     refine wpAnyH_ready (rs:=[8]) (by kernel_rfl) (by simp) ?_
     refine AllReadyH.cons rfl (fun K hK=>?_) AllReadyH.nil
     ·(try simp only[Act.put,yk,yl,yn,yo,yi,yj])
      go_simp
      go_at_call 59
      (try(refine cmark _ ?_;(try dsimp only[yi,yj]);(try clear g);intro g))
      refine(CPL.out k hkn _ _ _ _ _ _ _ (G.rtI g (by simp) HF.out) (G.rtI g (by simp) ha) (G.sum g HS.out) (G.tab g HT.out)).mono ?_
      rintro e w1 ⟨pz,qz,rz,Fz,rfl,hz,hn⟩
      have hnnz:=fun k o hk=>Nat.le_trans g.chg.size (hn.new k o hk)
      obtain⟨sz,Az,nz,cz,Bz,dz,kz,rfl,rfl,rfl⟩:=hz.shape
      obtain⟨g1,rfl⟩:=G.new_ex _ hn
      clear hn
      (try clear g)
      revert g1
      intro g
      clear CPL
      refine hK.out _ _ (by simp[G.heldN,HeldN,go_sem]) (fun hHeld=>?_)
      clear hK K
      (try simp only[Act.put,yk,yl,yn,yo,yi,yj])
      refine wpAnyH_ready (rs:=[9]) (by kernel_rfl) (by simp) ?_
      refine AllReadyH.cons rfl (fun K hK=>?_) AllReadyH.nil
      ·(try simp only[Act.put,yk,yl,yn,yo,yi,yj])
       go_simp
       refine hK.out _ _ (by simp[G.heldN,HeldN,go_sem]) (fun hHeld=>?_)
       clear hK K
       (try simp only[Act.put,yk,yl,yn,yo,yi,yj])
       refine wpAnyH_done (by kernel_rfl) ?_ _
       (as_aux_lemma=>
        (try clear hHeld)
        ((try simp only[G.drew_eq,G.drewN_eq]);(refine yq _ ?_;(try generalize (G.w _).heap.size=bk);(try dsimp only[yi,yj]);(try clear g);intro g))
        go_wp2_with (with_reducible refine yq _ ?_;(try generalize (G.w _).heap.size=bk);(try dsimp only[yi,yj]);(try clear g);intro g)
        obtain⟨g2,hg2⟩:∃g2:G w [] [(b7,43,[.bool sz,.slice Az nz cz,.slice Bz dz kz]),(b6,43,[Value.bool false,Value.slice none 0 0,Value.slice none 0 0]),(b4,82,[Value.func (Fn.func 59) #[Value.pointer (some {block:=sb,off:=0})] #[],Value.func (Fn.func 99) #[Value.pointer (some {block:=sb,off:=0})] #[]])] [Fz,Fa,H2,F,heapOf w],g.w=g2.w:=g.forget 3
        obtain⟨g3,e3⟩:=g2.lessI (I':=[Fz,heapOf w]) (by simp)
        rw[hg2,e3]
        go_roundw
        case rel=>exact⟨k+1,by go_num,by omega,Fz,_,_,_,_,_,_,_,Lib.hid hz,hnnz,g3,rfl⟩
        case measure=>simp[intOf];omega)
   ·(try simp only[Act.put,yk,yl,yn,yo,yi,yj])
    go_simp
    go_at_call 99
    (try(refine cmark _ ?_;(try dsimp only[yi,yj]);(try clear g);intro g))
    refine(CTI.out k hkn _ _ _ _ _ _ _ (G.rtI g (by simp) hr2) (G.rtI g (by simp) hr3) (G.sum g HS.out) (G.tab g HT.out)).mono ?_
    rintro e w1 ⟨pa,qa,ra,Fa,rfl,ha,hn⟩
    have hnna:=fun k o hk=>Nat.le_trans g.chg.size (hn.new k o hk)
    obtain⟨sa,Aa,na,ca,Ba,da,ka,rfl,rfl,rfl⟩:=ha.shape
    obtain⟨g1,rfl⟩:=G.new_ex _ hn
    clear hn
    (try clear g)
    revert g1
    intro g
    clear CTI
    refine hK.out _ _ (by simp[G.heldN,HeldN,go_sem]) (fun hHeld=>?_)
    clear hK K
    (try simp only[Act.put,yk,yl,yn,yo,yi,yj])
    refine wpAnyH_ready (rs:=[2]) (by kernel_rfl) (by simp) ?_
    refine AllReadyH.cons rfl (fun K hK=>?_) AllReadyH.nil
    ·(try simp only[Act.put,yk,yl,yn,yo,yi,yj])
     go_simp
     refine hK.out _ _ (by simp[G.heldN,HeldN,go_sem]) (fun hHeld=>?_)
     clear hK K
     (try simp only[Act.put,yk,yl,yn,yo,yi,yj])
     refine wpAnyH_ready (rs:=[8]) (by kernel_rfl) (by simp) ?_
     refine AllReadyH.cons rfl (fun K hK=>?_) AllReadyH.nil
     ·(try simp only[Act.put,yk,yl,yn,yo,yi,yj])
      go_simp
      go_at_call 59
      (try(refine cmark _ ?_;(try dsimp only[yi,yj]);(try clear g);intro g))
      refine(CPL.out k hkn _ _ _ _ _ _ _ (G.rtI g (by simp) HF.out) (G.rtI g (by simp) ha) (G.sum g HS.out) (G.tab g HT.out)).mono ?_
      rintro e w1 ⟨pz,qz,rz,Fz,rfl,hz,hn⟩
      have hnnz:=fun k o hk=>Nat.le_trans g.chg.size (hn.new k o hk)
      obtain⟨sz,Az,nz,cz,Bz,dz,kz,rfl,rfl,rfl⟩:=hz.shape
      obtain⟨g1,rfl⟩:=G.new_ex _ hn
      clear hn
      (try clear g)
      revert g1
      intro g
      clear CPL
      refine hK.out _ _ (by simp[G.heldN,HeldN,go_sem]) (fun hHeld=>?_)
      clear hK K
      (try simp only[Act.put,yk,yl,yn,yo,yi,yj])
      refine wpAnyH_ready (rs:=[9]) (by kernel_rfl) (by simp) ?_
      refine AllReadyH.cons rfl (fun K hK=>?_) AllReadyH.nil
      ·(try simp only[Act.put,yk,yl,yn,yo,yi,yj])
       go_simp
       refine hK.out _ _ (by simp[G.heldN,HeldN,go_sem]) (fun hHeld=>?_)
       clear hK K
       (try simp only[Act.put,yk,yl,yn,yo,yi,yj])
       refine wpAnyH_done (by kernel_rfl) ?_ _
       (as_aux_lemma=>
        (try clear hHeld)
        ((try simp only[G.drew_eq,G.drewN_eq]);(refine yq _ ?_;(try generalize (G.w _).heap.size=bk);(try dsimp only[yi,yj]);(try clear g);intro g))
        go_wp2_with (with_reducible refine yq _ ?_;(try generalize (G.w _).heap.size=bk);(try dsimp only[yi,yj]);(try clear g);intro g)
        obtain⟨g2,hg2⟩:∃g2:G w [] [(b7,43,[.bool sz,.slice Az nz cz,.slice Bz dz kz]),(b6,43,[Value.bool false,Value.slice none 0 0,Value.slice none 0 0]),(b4,82,[Value.func (Fn.func 59) #[Value.pointer (some {block:=sb,off:=0})] #[],Value.func (Fn.func 99) #[Value.pointer (some {block:=sb,off:=0})] #[]])] [Fz,Fa,H2,F,heapOf w],g.w=g2.w:=g.forget 3
        obtain⟨g3,e3⟩:=g2.lessI (I':=[Fz,heapOf w]) (by simp)
        rw[hg2,e3]
        go_roundw
        case rel=>exact⟨k+1,by go_num,by omega,Fz,_,_,_,_,_,_,_,Lib.hid hz,hnnz,g3,rfl⟩
        case measure=>simp[intOf];omega)
  ·obtain rfl:k=n:=by omega
   go_wp2_with (with_reducible refine yq _ ?_;(try generalize (G.w _).heap.size=bk);(try dsimp only[yi,yj]);(try clear g);intro g)
   refine bodyPost_ret (v:=.agg #[.bool s,.slice P a b,.slice Q d e]) (by simp[results,Tryz.results55,go_sem]) rfl ?_
   exact⟨_,_,_,_,rfl,HF.out,G.below _,G.sub _ _ (by simp),hnw⟩
end Go.Proofs.YthhbbnfnejjpiaaGreatDoor
