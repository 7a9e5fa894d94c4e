/- Plain facts and contracts of functions of the program, out of walks. Their conditions stand ahead of each. -/
import Derived.Test.YthhbbnfnejjpiaaGreatDoorCa2
import Derived.Test.YthhbbnfnejjpiaaGreatDoorCa5
import Derived.Test.YthhbbnfnejjpiaaGreatDoorCa30
import Derived.Below
import Derived.BigQuiet
import Derived.Deep.DeepCutAuto
import Derived.Deep.Draws
import Derived.Deep.LoopGhost
import Derived.Deep.QuietTactic
import Derived.Deep.RegionHeld3
import Derived.Deep.RegionLaw
import Derived.Defers
import Derived.Laws.BytesString
import Derived.Laws.Cells
import Derived.Laws.Concat
import Derived.Laws.CopyOwn
import Derived.Laws.CopyRow
import Derived.Laws.NewBlocks
import Derived.Laws.OwnMore
import Derived.Laws.Pointers
import Derived.Laws.Rows
import Derived.Lib.BitFns
import Derived.Lib.Hide
import Derived.Lib.ItoaNum
import Derived.Lib.SliceRun
import Derived.Lib.TrailingZeros
import Derived.LoopIn
import Derived.LoopNIn
import Derived.Maps.AppendAt
import Derived.OrdersHeld
import Derived.OrdersIn
import Derived.OwnWalk
import Derived.OwnWalkIn
import Derived.RangeFuncBound
import Derived.RangeFuncBox
import Derived.RangeFuncCalls
import Derived.RangeFuncLeaves
import Derived.RangeFuncNested
import Derived.RowKit3
import Derived.Shelf.Abstract
import Derived.Shelf.RegionOpen
import Derived.Shelf.Spec.TrailingZeros
import Derived.StillTactics
import Derived.StillTailTactics
import Derived.TacticsInMore
import Derived.Test.YthhbbnfnejjpiaaGreatDoorProg
import Derived.WalkKit
import Derived.WalkLawsBesides
import Derived.WalkMore
import Derived.WalkSpells
set_option linter.unusedVariables false
set_option linter.unusedSimpArgs false
set_option exponentiation.threshold 10000
namespace Go.Proofs.YthhbbnfnejjpiaaGreatDoor
open Go.RowKit GW NL MX
/-- the sum with i rows and k entries of the next one done -/
def adM (x y:Mx)(i k:Nat):Mx:=fun r c=>if r<i∨(r=i∧c<k) then x r c+y r c else 0
theorem adM_ne {x y:Mx}{i k r c:Nat}(h:¬ (r=i∧c=k)):adM x y i k r c=adM x y i (k+1) r c:=by
 unfold adM
 by_cases h1:r<i∨(r=i∧c<k)
 ·rw[if_pos h1,if_pos (by omega)]
 ·rw[if_neg h1,if_neg (by omega)]
theorem adM_at (x y:Mx)(i k:Nat):adM x y i (k+1) i k=x i k+y i k:=by unfold adM;rw[if_pos (by omega)]
theorem adM_row {x y:Mx}{i m r c:Nat}(h:c<m):adM x y i m r c=adM x y (i+1) 0 r c:=by
 unfold adM
 by_cases h1:r<i∨(r=i∧c<m)
 ·rw[if_pos h1,if_pos (by omega)]
 ·rw[if_neg h1,if_neg (by omega)]
set_option maxRecDepth 20000 in
set_option maxHeartbeats 8000000 in
theorem rAdd_r (n m:Nat)(x y:Mx)(A B:Option Addr)(c cB:Nat)(w:World)(hA:(heapOf w).Mt A c n (fun _=>m) (rawM x))(hB:(heapOf w).Mt B cB n (fun _=>m) (rawM y))(n1:1≤n)(n2:n≤24)(m1:1≤m)(m2:m≤24)
  (bx:∀i,i<n→∀j,j<m→Bd 8192 (x i j)) (by':∀i,i<n→∀j,j<m→Bd 8192 (y i j)) (bs:∀i,i<n→∀j,j<m→Bd 8192 (x i j+y i j)):
  Calls Tryz.prog 31 #[.slice A n c,.slice B n cB] w (RMtE n (fun _=>m) (rawM (addM x y)) w):=by
 refine calls_b fun g=>?_
 unfold RMtE
 have HA:=Lib.hid hA
 have HB:=Lib.hid hB
 have CC:=Lib.hid (fun w h h'=>rboth_any n n (fun _=>m) (fun _=>m) (rawM x) (rawM y) A B c cB w h h')
 unfold mat2E at CC
 rw[matE_ok n1 n2 m1 m2 bx,matE_ok n1 n2 m1 m2 by',if_pos rfl] at CC
 have CBK:=Lib.hid (fun w=>blank_own n m n1 n2 m2 w)
 unfold RBlk at CBK
 have CP:=Lib.hid (fun i (hi:i<n) k (hk:k<m) p q r p' q' r' w a b=>rqPlus_r (x i k) (y i k) (bx i hi k hk) (by' i hi k hk) p q r p' q' r' w a b)
 unfold RT1 at CP
 have CF:=Lib.hid (fun A c w h=>rfits_r n (fun _=>m) (addM x y) A c w h (by omega) (fun _ _=>by omega) (fun i hi j hj=>bs i hi j hj))
 obtain⟨b,o,rfl,hrow⟩:=hA.rowAt n1
 have HR:=Lib.hid hrow
 obtain⟨b2,o2,rfl,hrow2⟩:=hB.rowAt n1
 have HR2:=Lib.hid hrow2
 obtain⟨B0,k0,hh0,hrw0⟩:=hrow 0 (by omega)
 have E0:∀(M:List Blk) (I:List Frag) (g:G w [] M I) (hF:InF (heapOf w) I),g.w.cell? ⟨b,o,none⟩=some (.slice B0 m k0):=fun M I g hF=>hh0 _ _ _ _ g hF
 obtain⟨B1,k1,hh1,hrw1⟩:=hrow2 0 (by omega)
 have E1:∀(M:List Blk) (I:List Frag) (g:G w [] M I) (hF:InF (heapOf w) I),g.w.cell? ⟨b2,o2,none⟩=some (.slice B1 m k1):=fun M I g hF=>hh1 _ _ _ _ g hF
 have t1:0<n:=by omega
 have t2:(0:Int)<(n:Int):=by omega
 have hm0:(0:Int)≤(m:Int):=by omega
 have hn0:(0:Int)≤(n:Int):=by omega
 clear hA hB hrow hrow2 hh0 hrw0 hh1 hrw1 bx by' bs
 go_enter Tryz.func31,Tryz.ntmps31
 go_wp2_with (with_reducible refine yq _ ?_;(try generalize (G.w _).heap.size=bk);(try dsimp only[yi,yj]);(try clear g);intro g)
 refine(CC.out _ (HA.out.mono (g.sub _ (by simp))) (HB.out.mono (g.sub _ (by simp)))).mono ?_
 rintro e w1 ⟨rfl,hb⟩
 obtain⟨g1,rfl⟩:=G.call_ex _ hb
 clear hb
 (try clear g)
 revert g1
 intro g
 go_wp2_with (with_reducible refine yq _ ?_;(try generalize (G.w _).heap.size=bk);(try dsimp only[yi,yj]);(try clear g);intro g)
 ((try simp only[G.drew_eq,G.drewN_eq]);(refine yq _ ?_;(try generalize (G.w _).heap.size=bk);(try dsimp only[yi,yj]);(try clear g);intro g))
 clear CC
 refine wp_region_held_drew (S:=(fun w'=>w'.cell? ⟨b,o,none⟩=some (.slice B0 m k0)∧w'.cell? ⟨b2,o2,none⟩=some (.slice B1 m k1))) (by kernel_rfl) (by(constructor<;>go_simp)) (fun hHeld=>?_)
 refine tk0 [0,1,2,3,4,5,6,7,8,9,10,11,12,13,14,15] ?_
 iterate 16 (refine tkc rfl (by kernel_rfl) (fun _ _ _ h=>h) (by rfl) ‹_› (by intro w hSw;(try dsimp only at hSw);go_simp;(try with_reducible rfl)) ?_;try simp only[Act.put,yk,yl,yn,yo,yi,yj])
 refine tkn ?_
 refine wpAnyH_done (by kernel_rfl) ?_ _
 skip
 (try clear hHeld)
 clear E1
 ((try simp only[G.drew_eq,G.drewN_eq]);(refine yq _ ?_;(try generalize (G.w _).heap.size=bk);(try dsimp only[yi,yj]);(try clear g);intro g))
 go_wp2_with (with_reducible refine yq _ ?_;(try generalize (G.w _).heap.size=bk);(try dsimp only[yi,yj]);(try clear g);intro g)
 (try(refine cmark _ ?_;(try dsimp only[yi,yj]);(try clear g);intro g))
 refine(CBK.out _).mono ?_
 rintro e w1 ⟨ob,cc,cs,R,F,g1,rfl,hcc,hown,hnw,rfl⟩
 obtain⟨g2,e2⟩:=G.lift g g1 hnw
 rw[e2]
 have hnwW:F.Nw w:=fun k o hk=>Nat.le_trans g.chg.size (hnw k o hk)
 have hownW:OwnOn (List.range n) (fun j=>NumRow w.heap.size 43 F m (rawM (adM x y 0 0) j)) R cs:=hown.next (fun _ _=>rfl) (fun j hj v s hq=>(NumRow.lo hq g.chg.size).congr (fun k hk=>by unfold rawM adM zM;rw[if_neg (by omega)]))
 obtain⟨g3,e3⟩:=g2.as (M':=(ob,38,cs)::R) (by simp)
 rw[e3]
 clear e2 e3 hown hnw g1 g2 g CBK
 revert g3
 intro g
 go_wp2_with (with_reducible refine yq _ ?_;(try generalize (G.w _).heap.size=bk);(try dsimp only[yi,yj]);(try clear g);intro g)
 go_loopw [8] (fun iv wr=>∃i:Nat,iv=.int .i64 (i:Int)∧i≤n∧∃(F:Frag) (R:List Blk),OwnOn (List.range n) (fun j=>NumRow w.heap.size 43 F m (rawM (adM x y i 0) j)) R cs∧F.Nw w∧∃g:G w [] ((ob,38,cs)::R) [F,heapOf w],wr=g.w) (fun iv _=>n-(intOf iv).toNat)
 case atStart=>exact⟨0,rfl,by omega,F,R,hownW,hnwW,g,rfl⟩
 case round=>
  clear g hownW hnwW
  obtain⟨i,rfl,hi',F,R,hown,hnw,g,rfl⟩:=hrel
  by_cases hin:i<n
  ·have hii:(i:Int)<(n:Int):=by omega
   obtain⟨Br,kr,hh,hrw⟩:=HR.out i hin
   obtain⟨ba,oa,rfl,hna⟩:=hrw.num m1
   have EH:∀(M:List Blk) (I:List Frag) (g:G w [] M I) (hF:InF (heapOf w) I),g.w.cell? ⟨b,o+i,none⟩=some (.slice (some ⟨ba,oa,none⟩) m kr):=fun M I g hF=>hh _ _ _ _ g hF
   obtain⟨Bs,ks,hh2,hrw2⟩:=HR2.out i hin
   obtain⟨by2,oy,rfl,hny⟩:=hrw2.num m1
   have EH2:∀(M:List Blk) (I:List Frag) (g:G w [] M I) (hF:InF (heapOf w) I),g.w.cell? ⟨b2,o2+i,none⟩=some (.slice (some ⟨by2,oy,none⟩) m ks):=fun M I g hF=>hh2 _ _ _ _ g hF
   have HNA:=Lib.hid hna
   have HNY:=Lib.hid hny
   have HEH:=Lib.hid EH
   have HEH2:=Lib.hid EH2
   clear hh hrw hna hh2 hrw2 hny EH EH2
   go_wp2_with (with_reducible refine yq _ ?_;(try generalize (G.w _).heap.size=bk);(try dsimp only[yi,yj]);(try clear g);intro g)
   go_loopw [9] (fun kv wr=>∃k:Nat,kv=.int .i64 (k:Int)∧k≤m∧∃(F:Frag) (R:List Blk),OwnOn (List.range n) (fun j=>NumRow w.heap.size 43 F m (rawM (adM x y i k) j)) R cs∧F.Nw w∧∃g:G w [] ((ob,38,cs)::R) [F,heapOf w],wr=g.w) (fun kv _=>m-(intOf kv).toNat)
   case atStart=>exact⟨0,rfl,by omega,F,R,hown,hnw,g,rfl⟩
   case round=>
    clear g hown hnw F R
    obtain⟨k,rfl,hk',F,R,hown,hnw,g,rfl⟩:=hrel
    by_cases hkm:k<m
    ·have hki:(k:Int)<(m:Int):=by omega
     obtain⟨rb,c4,rcs,l,R',hv,hrb,hrrow,hl,hp,hbut⟩:=own_open hown hin m1
     obtain⟨g1,e1⟩:=g.perm (hp.cons _)
     rw[e1]
     clear e1 g hp hown
     revert g1
     intro g
     obtain⟨p3,q3,r3,h3,hrt⟩:=HNA.out k hkm
     obtain⟨sx,Px,nx,dx,Qx,mx,ex,rfl,rfl,rfl⟩:=hrt.shape
     have X0:∀(M:List Blk) (I:List Frag) (g:G w [] M I) (hF:InF (heapOf w) I),g.w.cell? ⟨ba,oa+k*3,none⟩=some (.bool sx):=fun M I g hF=>(h3 _ _ _ _ g hF).1
     have X1:∀(M:List Blk) (I:List Frag) (g:G w [] M I) (hF:InF (heapOf w) I),g.w.cell? ⟨ba,oa+k*3+1,none⟩=some (.slice Px nx dx):=fun M I g hF=>(h3 _ _ _ _ g hF).2.1
     have X2:∀(M:List Blk) (I:List Frag) (g:G w [] M I) (hF:InF (heapOf w) I),g.w.cell? ⟨ba,oa+k*3+2,none⟩=some (.slice Qx mx ex):=fun M I g hF=>(h3 _ _ _ _ g hF).2.2
     obtain⟨p4,q4,r4,h4,hrt2⟩:=HNY.out k hkm
     obtain⟨sy,Py,ny,dy,Qy,my,ey,rfl,rfl,rfl⟩:=hrt2.shape
     have Y0:∀(M:List Blk) (I:List Frag) (g:G w [] M I) (hF:InF (heapOf w) I),g.w.cell? ⟨by2,oy+k*3,none⟩=some (.bool sy):=fun M I g hF=>(h4 _ _ _ _ g hF).1
     have Y1:∀(M:List Blk) (I:List Frag) (g:G w [] M I) (hF:InF (heapOf w) I),g.w.cell? ⟨by2,oy+k*3+1,none⟩=some (.slice Py ny dy):=fun M I g hF=>(h4 _ _ _ _ g hF).2.1
     have Y2:∀(M:List Blk) (I:List Frag) (g:G w [] M I) (hF:InF (heapOf w) I),g.w.cell? ⟨by2,oy+k*3+2,none⟩=some (.slice Qy my ey):=fun M I g hF=>(h4 _ _ _ _ g hF).2.2
     have EH:=HEH.out
     have EH2:=HEH2.out
     have HX:=Lib.hid hrt
     have HY:=Lib.hid hrt2
     have HC:=Lib.hid (own_set (z':=rawM (adM x y i (k+1))) hin hkm hv hrb hrrow hl hbut (fun r c _ _ h=>by unfold rawM;rw[adM_ne h]))
     obtain⟨p6,q6,r6,hl6,ht6⟩:=hl.2 k hkm
     obtain⟨z0,z1,z2⟩:=hrrow.tri hl6
     have HNW:=Lib.hid hnw
     clear h3 h4 hrt hrt2 hl hl6 ht6 hrrow hbut hnw
     go_upto_region 13 with(with_reducible refine yq _ ?_;(try generalize (G.w _).heap.size=bk);(try dsimp only[yi,yj]);(try clear g);intro g)
     ((try simp only[G.drew_eq,G.drewN_eq]);(refine yq _ ?_;(try generalize (G.w _).heap.size=bk);(try dsimp only[yi,yj]);(try clear g);intro g))
     refine wp_region_held_drew (S:=(fun w'=>w'.cell? ⟨ob,i,none⟩=some (.slice (some ⟨rb,0,none⟩) m c4)∧w'.cell? ⟨b,o+i,none⟩=some (.slice (some ⟨ba,oa,none⟩) m kr)∧(w'.cell? ⟨ba,oa+k*3,none⟩=some (.bool sx)∧w'.cell? ⟨ba,oa+k*3+1,none⟩=some (.slice Px nx dx)∧w'.cell? ⟨ba,oa+k*3+2,none⟩=some (.slice Qx mx ex))∧w'.cell? ⟨b2,o2+i,none⟩=some (.slice (some ⟨by2,oy,none⟩) m ks)∧w'.cell? ⟨by2,oy+k*3,none⟩=some (.bool sy)∧w'.cell? ⟨by2,oy+k*3+1,none⟩=some (.slice Py ny dy)∧w'.cell? ⟨by2,oy+k*3+2,none⟩=some (.slice Qy my ey))) (by kernel_rfl) (by(simp[go_sem,InF.t2,InF.t3, *];done)) (fun hHeld=>?_)
     refine tk0 [0,1,2,3,4,5,6,7,8,9,10,11,12,13,14,15,16,17,18] ?_
     iterate 19 (refine tkc rfl (by kernel_rfl) (fun _ _ _ h=>h) (by rfl) ‹_› (by intro w hSw;(try dsimp only at hSw);go_simp;(try with_reducible rfl)) ?_;try simp only[Act.put,yk,yl,yn,yo,yi,yj])
     refine tkn ?_
     refine wpAnyH_ready (rs:=[19]) (by kernel_rfl) (by simp) ?_
     refine AllReadyH.cons rfl (fun K hK=>?_) AllReadyH.nil
     ·(try simp only[Act.put,yk,yl,yn,yo,yi,yj])
      go_simp
      go_at_call 74
      (try(refine cmark _ ?_;(try dsimp only[yi,yj]);(try clear g);intro g))
      refine(CP.out i hin k hkm _ _ _ _ _ _ _ (G.rtI g (by simp) HX.out) (G.rtI g (by simp) HY.out)).mono ?_
      rintro e w1 ⟨pu,qu,ru,Fu,rfl,hu,hn⟩
      have hnnu:=fun k o hk=>Nat.le_trans g.chg.size (hn.new k o hk)
      obtain⟨su,Au,nu,cu,Bu,du,ku,rfl,rfl,rfl⟩:=hu.shape
      obtain⟨g1,rfl⟩:=G.new_ex _ hn
      clear hn
      (try clear g)
      revert g1
      intro g
      refine hK.out _ _ (by(simp[go_sem,InF.t2,InF.t3, *];done)) (fun hHeld=>?_)
      clear hK K
      (try simp only[Act.put,yk,yl,yn,yo,yi,yj])
      refine tk0 [20] ?_
      iterate 1 (refine tkc rfl (by kernel_rfl) (fun _ _ _ h=>h) (by rfl) ‹_› (by intro w hSw;(try dsimp only at hSw);go_simp;(try with_reducible rfl)) ?_;try simp only[Act.put,yk,yl,yn,yo,yi,yj])
      refine tkn ?_
      refine wpAnyH_ready (rs:=[21]) (by kernel_rfl) (by simp) ?_
      refine AllReadyH.cons rfl (fun K hK=>?_) AllReadyH.nil
      ·(try simp only[Act.put,yk,yl,yn,yo,yi,yj])
       go_simp
       refine hK.out _ _ (by(simp[go_sem,InF.t2,InF.t3, *];done)) (fun hHeld=>?_)
       clear hK K
       (try simp only[Act.put,yk,yl,yn,yo,yi,yj])
       refine wpAnyH_done (by kernel_rfl) ?_ _
       (as_aux_lemma=>
        (try clear hHeld)
        ((try simp only[G.drew_eq,G.drewN_eq]);(refine yq _ ?_;(try generalize (G.w _).heap.size=bk);(try dsimp only[yi,yj]);(try clear g);intro g))
        go_wp2_with (with_reducible refine yq _ ?_;(try generalize (G.w _).heap.size=bk);(try dsimp only[yi,yj]);(try clear g);intro g)
        obtain⟨F',g3,e3,hle1,hle2,hnew⟩:=g.merge
        rw[e3]
        go_roundw
        case rel=>
         exact⟨k+1,by go_num,by omega,F',_,HC.out _ _ _ _ hle1 (by unfold rawM;rw[adM_at];exact hu.mono hle2),fun k' o hk'=>(hnew k' o hk').elim (HNW.out k' o) (hnnu k' o),g3,rfl⟩
        case measure=>simp[intOf]<;>omega)
    ·obtain rfl:k=m:=by omega
     go_wp2_with (with_reducible refine yq _ ?_;(try generalize (G.w _).heap.size=bk);(try dsimp only[yi,yj]);(try clear g);intro g)
     go_roundw
     case rel=>exact⟨i+1,by go_num,by omega,F,R,hown.next (fun _ _=>rfl) (fun j hj v s hq=>hq.congr fun c hc=>by unfold rawM;rw[adM_row hc]),hnw,g,rfl⟩
     case measure=>simp[intOf]<;>omega
  ·obtain rfl:i=n:=by omega
   obtain⟨g1,e1⟩:=g.as (M':=(ob,38,cs)::(R++[])) (by simp)
   obtain⟨F',g',e',hmt,_,hnw'⟩:=frzC g1 hown hnw hcc.1 hcc.2 (by omega) (fun i _=>by omega)
   have HMT:=Lib.hid (hmt.congr (fun i hi=>rfl) (fun r hr c hc=>by unfold rawM adM addM;rw[if_pos (.inl hr)]):F'.Mt _ _ _ _ (rawM (addM x y)))
   have HNW:=Lib.hid hnw'
   rw[e1,e']
   clear e1 e' g g1 hown hnw hmt hnw'
   revert g'
   intro g
   go_wp2_with (with_reducible refine yq _ ?_;(try generalize (G.w _).heap.size=bk);(try dsimp only[yi,yj]);(try clear g);intro g)
   refine(CF.out _ _ _ (HMT.out.mono (g.sub _ (by simp)))).mono ?_
   rintro e w1 ⟨rfl,hb⟩
   obtain⟨g1,rfl⟩:=G.call_ex _ hb
   clear hb
   (try clear g)
   revert g1
   intro g
   go_wp2_with (with_reducible refine yq _ ?_;(try generalize (G.w _).heap.size=bk);(try dsimp only[yi,yj]);(try clear g);intro g)
   go_ret2
   exact⟨ob,cc,F',rfl,HMT.out,G.below _,G.sub _ _ (by simp),HNW.out⟩
set_option maxRecDepth 20000 in
theorem rMul_r (n p m:Nat)(x y:Mx)(A B:Option Addr)(c cB:Nat)(w:World)(hA:(heapOf w).Mt A c n (fun _=>p) (rawM x))(hB:(heapOf w).Mt B cB p (fun _=>m) (rawM y))(n1:1≤n)(n2:n≤24)(p1:1≤p)(p2:p≤24)(m1:1≤m)(m2:m≤24)
  (bx:∀i,i<n→∀j,j<p→Bd 8192 (x i j)) (by':∀i,i<p→∀j,j<m→Bd 8192 (y i j)) (bp:∀i,i<n→∀t,t<p→∀k,k<m→Bd 8192 (x i t*y t k)) (bs:∀i,i<n→∀k,k<m→∀j,j≤p→Bd 8192 (sumN j (fun t=>x i t*y t k))):
  Calls Tryz.prog 32 #[.slice A n c,.slice B p cB] w (RMtE n (fun _=>m) (rawM (mulM p x y)) w):=by
 refine calls_b fun g=>?_
 unfold RMtE
 have HA:=Lib.hid hA
 have HB:=Lib.hid hB
 have CC:=Lib.hid (fun w h h'=>rboth_any n p (fun _=>p) (fun _=>m) (rawM x) (rawM y) A B c cB w h h')
 unfold mat2E at CC
 rw[matE_ok n1 n2 p1 p2 bx,matE_ok p1 p2 m1 m2 by',if_pos rfl] at CC
 have CPR:=Lib.hid (fun w h h'=>rProduct_r n p m x y A B c cB w h h' n1 n2 p1 p2 m1 m2 bx by' bp bs)
 unfold RMt at CPR
 have CF:=Lib.hid (fun A c w h=>rfits_r n (fun _=>m) (mulM p x y) A c w h (by omega) (fun _ _=>by omega) (fun i hi j hj=>bs i hi j hj p (Nat.le_refl _)))
 obtain⟨b,o,rfl,hrow⟩:=hA.rowAt n1
 obtain⟨B0,k0,hh0,hrw0⟩:=hrow 0 (by omega)
 have E0:∀(M:List Blk) (I:List Frag) (g:G w [] M I) (hF:InF (heapOf w) I),g.w.cell? ⟨b,o,none⟩=some (.slice B0 p k0):=fun M I g hF=>hh0 _ _ _ _ g hF
 have t1:0<n:=by omega
 have t2:(0:Int)<(n:Int):=by omega
 clear hA hB hrow hh0 hrw0 bx by' bs bp
 go_enter Tryz.func32,Tryz.ntmps32
 go_wp2_with (with_reducible refine yq _ ?_;(try generalize (G.w _).heap.size=bk);(try dsimp only[yi,yj]);(try clear g);intro g)
 refine(CC.out _ (HA.out.mono (g.sub _ (by simp))) (HB.out.mono (g.sub _ (by simp)))).mono ?_
 rintro e w1 ⟨rfl,hb⟩
 obtain⟨g1,rfl⟩:=G.call_ex _ hb
 clear hb
 (try clear g)
 revert g1
 intro g
 go_wp2_with (with_reducible refine yq _ ?_;(try generalize (G.w _).heap.size=bk);(try dsimp only[yi,yj]);(try clear g);intro g)
 refine(CPR.out _ (HA.out.mono (g.sub _ (by simp))) (HB.out.mono (g.sub _ (by simp)))).mono ?_
 rintro e w1 ⟨bt,ct,Ft,rfl,ht,hn⟩
 have hnnt:=fun k o hk=>Nat.le_trans g.chg.size (hn.new k o hk)
 obtain⟨g1,rfl⟩:=G.new_ex _ hn
 clear hn
 (try clear g)
 revert g1
 intro g
 go_wp2_with (with_reducible refine yq _ ?_;(try generalize (G.w _).heap.size=bk);(try dsimp only[yi,yj]);(try clear g);intro g)
 refine(CF.out _ _ _ (ht.mono (g.sub _ (by simp)))).mono ?_
 rintro e w1 ⟨rfl,hb⟩
 obtain⟨g1,rfl⟩:=G.call_ex _ hb
 clear hb
 (try clear g)
 revert g1
 intro g
 go_wp2_with (with_reducible refine yq _ ?_;(try generalize (G.w _).heap.size=bk);(try dsimp only[yi,yj]);(try clear g);intro g)
 go_ret2
 exact⟨bt,ct,Ft,rfl,ht,G.below _,G.sub _ _ (by simp),hnnt⟩
end Go.Proofs.YthhbbnfnejjpiaaGreatDoor
namespace Go.Proofs.YthhbbnfnejjpiaaGreatDoor
open Go.RowKit GW NL MX
/-- what Ints returns for rows of which the first has from 1 to 24 ints -/
def RInts (n:Nat)(mm:Nat→Nat)(v:Nat→Nat→Int)(w:World)(e:Ending)(w':World):Prop:=((∀i,i<n→mm i=mm 0)∧RMtE n (fun _=>mm 0) (rawM (intM v)) w e w')∨((∃i,i<n∧mm i≠mm 0)∧RErr 3 w e w')
theorem bd_i64 {a:Int}(h1: -9223372036854775808≤a)(h2:a<9223372036854775808):Bd 64 (a:Rat):=by
 unfold Bd rn
 rw[Rat.num_intCast,Rat.den_intCast]
 exact⟨by show a.natAbs<18446744073709551616;omega,by decide⟩
set_option maxRecDepth 20000 in
set_option maxHeartbeats 4000000 in
theorem rInts_any (n:Nat)(mm:Nat→Nat)(v:Nat→Nat→Int)(A:Option Addr)(c:Nat)(w:World)(hA:(heapOf w).Im A c n mm v)(n1:1≤n)(n2:n≤24)(m1:1≤mm 0)(m2:mm 0≤24):
  Calls Tryz.prog 36 #[.slice A n c] w (RInts n mm v w):=by
 refine calls_b fun g=>?_
 unfold RInts RErr RMtE
 obtain⟨m,hm⟩:∃m,mm 0=m:=⟨_,rfl⟩
 have HM:=Lib.hid hm
 rw[hm] at m1 m2 ⊢
 have CW:=Lib.hid (fun a h1 h2 w=>rWhole_r a h1 h2 w)
 unfold RT1 at CW
 obtain⟨i0,hi,hz0,hz1,hz2⟩:=info_parts infoRat
 obtain⟨j0,hj0,hy0,hy1,hy2⟩:=info_parts infoRats5
 obtain⟨b,o,rfl,hrow⟩:=hA.rowAt n1
 have HR:=Lib.hid hrow
 obtain⟨B0,k0,hh0,hrw0⟩:=hrow 0 (by omega)
 have E0:∀(M:List Blk) (I:List Frag) (g:G w [] M I) (hF:InF (heapOf w) I),g.w.cell? ⟨b,o,none⟩=some (.slice B0 m k0):=fun M I g hF=>by rw[←hm];exact hh0 _ _ _ _ g hF
 have t1:0<n:=by omega
 have t2:(0:Int)<(n:Int):=by omega
 have hn1i:¬ ((n:Int)<1):=by omega
 have hn2i:¬ ((24:Int)<(n:Int)):=by omega
 have hm1i:¬ ((m:Int)<1):=by omega
 have hm2i:¬ ((24:Int)<(m:Int)):=by omega
 have d1:decide ((n:Int)<1)=false:=decide_eq_false hn1i
 have d2:decide ((24:Int)<(n:Int))=false:=decide_eq_false hn2i
 have d3:decide ((m:Int)<1)=false:=decide_eq_false hm1i
 have d4:decide ((24:Int)<(m:Int))=false:=decide_eq_false hm2i
 clear hA hrow hh0 hrw0 hm
 go_enter Tryz.func36,Tryz.ntmps36
 go_wp2_with (with_reducible refine yq _ ?_;(try generalize (G.w _).heap.size=bk);(try dsimp only[yi,yj]);(try clear g);intro g)
 go_loopw [4,5] (fun mv i wr=>∃i':Nat,i=.int .i64 (i':Int)∧i'≤n∧Hid (∀i,i<i'→mm i=m)∧∃(cc:Nat) (Ac:Option Addr) (xs:List Value) (sc R:List Blk) (F:Frag),mv=.slice Ac i' cc∧RowV w.heap.size 38 1 i' xs Ac cc sc∧OwnOn (List.range i') (fun i=>NumRow w.heap.size 43 F m (rawM (intM v) i)) R xs∧F.Nw w∧∃g:G w [] (sc++R) [F,heapOf w],wr=g.w) (fun _ i _=>n-(intOf i).toNat)
 case atStart=>
  obtain⟨g2,e2⟩:=g.none_ex
  exact⟨0,rfl,by omega,Lib.hid (fun i h=>absurd h (Nat.not_lt_zero i)),0,none,[],[],[],fun _=>none,rfl,RowV.nil _ _ _,OwnOn.nil _ _,Frag.Nw.none w,g2,e2⟩
 case round=>
  clear g
  obtain⟨i,rfl,hi',HEQ,cc,Ac,xs,sc,R,F,rfl,hvr,hown,hnw,g,rfl⟩:=hrel
  by_cases hin:i<n
  ·have hii:(i:Int)<(n:Int):=by omega
   obtain⟨Br,kr,hh,hrw⟩:=HR.out i hin
   by_cases hmi:mm i≠m
   ·have EH:∀(M:List Blk) (I:List Frag) (g:G w [] M I) (hF:InF (heapOf w) I),g.w.cell? ⟨b,o+i,none⟩=some (.slice Br (mm i) kr):=fun M I g hF=>hh _ _ _ _ g hF
    have HNE:=Lib.hid (show∃i,i<n∧mm i≠m from⟨i,hin,hmi⟩)
    generalize mm i=mi at*
    have hnb:((mi:Int) !=(m:Int))=true:=by simp;omega
    have hnb2:((mi:Int)==(m:Int))=false:=by simp;omega
    clear hown hvr hnw hh hrw hmi
    go_upto_region 7 with(with_reducible refine yq _ ?_;(try generalize (G.w _).heap.size=bk);(try dsimp only[yi,yj]);(try clear g);intro g)
    ((try simp only[G.drew_eq,G.drewN_eq]);(refine yq _ ?_;(try generalize (G.w _).heap.size=bk);(try dsimp only[yi,yj]);(try clear g);intro g))
    go_region_law (go_simp)
    all_goals (as_aux_lemma=>
     ((try simp only[G.drew_eq,G.drewN_eq]);(refine yq _ ?_;(try generalize (G.w _).heap.size=bk);(try dsimp only[yi,yj]);(try clear g);intro g))
     go_wp2_with (with_reducible refine yq _ ?_;(try generalize (G.w _).heap.size=bk);(try dsimp only[yi,yj]);(try clear g);intro g)
     go_ret2
     exact Or.inr ⟨HNE.out,rfl,G.below _⟩)
   have hmi:mm i=m:=Decidable.not_not.1 hmi
   rw[hmi] at hh hrw
   have HMI:=Lib.hid hmi
   clear hmi
   obtain⟨ba,oa,rfl,hna⟩:=hrw.at m1
   have EH:∀(M:List Blk) (I:List Frag) (g:G w [] M I) (hF:InF (heapOf w) I),g.w.cell? ⟨b,o+i,none⟩=some (.slice (some ⟨ba,oa,none⟩) m kr):=fun M I g hF=>hh _ _ _ _ g hF
   have HNA:=Lib.hid hna
   have HOK:=Lib.hid hrw.ok
   have HO:=Lib.hid hown
   have HV:=Lib.hid hvr
   have HNW:=Lib.hid hnw
   clear hown hvr hnw hh hna hrw
   go_upto_region 7 with(with_reducible refine yq _ ?_;(try generalize (G.w _).heap.size=bk);(try dsimp only[yi,yj]);(try clear g);intro g)
   ((try simp only[G.drew_eq,G.drewN_eq]);(refine yq _ ?_;(try generalize (G.w _).heap.size=bk);(try dsimp only[yi,yj]);(try clear g);intro g))
   go_region_law (go_simp)
   all_goals (as_aux_lemma=>
    ((try simp only[G.drew_eq,G.drewN_eq]);(refine yq _ ?_;(try generalize (G.w _).heap.size=bk);(try dsimp only[yi,yj]);(try clear g);intro g))
    go_wp2_with (with_reducible refine yq _ ?_;(try generalize (G.w _).heap.size=bk);(try dsimp only[yi,yj]);(try clear g);intro g)
    go_loopw [6,7] (fun rv jj wr=>∃j:Nat,jj=.int .i64 (j:Int)∧j≤m∧∃(cr:Nat) (Ar:Option Addr) (s:List Blk) (F':Frag) (l:List Tri),rv=.slice Ar j cr∧RowV w.heap.size 43 3 j (cells3 l) Ar cr s∧F'.Tris l j (rawM (intM v) i)∧F.le F'∧F'.Nw w∧∃g:G w [] (s++(sc++R)) [F',heapOf w],wr=g.w) (fun _ i _=>m-(intOf i).toNat)
    case atStart=>exact⟨0,rfl,by omega,0,none,[],F,[],rfl,RowV.nil _ _ _,Frag.Tris.nil _ _,Frag.le_refl F,HNW.out,g,rfl⟩
    case round=>
     clear g
     obtain⟨j,rfl,hj,cr,Ar,s,F',l,rfl,hvr,hl,hle,hnw',g,rfl⟩:=hrel
     by_cases hjk:j<m
     ·have hji:(j:Int)<(m:Int):=by omega
      have EV:∀(M:List Blk) (I:List Frag) (g:G w [] M I) (hF:InF (heapOf w) I),g.w.cell? ⟨ba,oa+j,none⟩=some (.int .i64 (v i j)):=fun M I g hF=>HNA.out j hjk _ _ _ _ g hF
      have HL:=Lib.hid hl
      have HLE:=Lib.hid hle
      have HNW':=Lib.hid hnw'
      have hw1:j+1≤maxLen:=by show j+1≤9223372036854775807;omega
      have hw2:(j+1)*56≤140737488355328:=by omega
      clear hl hle hnw'
      go_wp2_with (with_reducible refine yq _ ?_;(try generalize (G.w _).heap.size=bk);(try dsimp only[yi,yj]);(try clear g);intro g)
      refine(CW.out _ (HOK.out j hjk).1 (HOK.out j hjk).2 _).mono ?_
      rintro e w1 ⟨pa,qa,ra,Fa,rfl,ha,hn⟩
      have hnna:=fun k o hk=>Nat.le_trans g.chg.size (hn.new k o hk)
      obtain⟨sa,Aa,na,ca,Ba,da,ka,rfl,rfl,rfl⟩:=ha.shape
      obtain⟨g1,rfl⟩:=G.new_ex _ hn
      clear hn
      (try clear g)
      revert g1
      intro g
      go_wp2_with (first|(with_reducible refine yq _ ?_;(try generalize (G.w _).heap.size=bk);(try dsimp only[yi,yj]);(try clear g);intro g)|(at_builtin;refine wpList_append_v rfl _ _ 38 rfl 43 i0 _ 3 56 Tryz.underlying38 hi hz0 hz1 hz2 rfl (by decide) 1 g (Rr:=s) (R':=sc++R) (by rfl) hvr (by rfl) (by exact List.mem_cons_self ..) 1 (by rfl) rfl (three _ _ _ ⟨rfl,rfl,rfl⟩) (by decide) hw1 hw2 ?_;clear hvr;(try clear g);intro b2 cap2 cs2 g hb2 hrow2;revert g;dsimp only[List.take,List.cons_append,List.nil_append];intro g))
      obtain⟨g5,e5⟩:=g.less (List.sublist_cons_self _ _)
      obtain⟨F2,g6,e6,hle1,hle2,hnew⟩:=g5.merge
      rw[e5,e6]
      go_roundw
      case rel=>
       refine⟨j+1,by go_num,by omega,cap2,_,[(b2,_,cs2)],F2,l++[(.bool sa,.slice Aa na ca,.slice Ba da ka)],rfl,RowV.row (by rw[cells3_append];exact hrow2) hb2,?_,Frag.le_trans HLE.out hle1,fun k' o hk'=>(hnew k' o hk').elim (HNW'.out k' o) (hnna k' o),g6,rfl⟩
       exact(HL.out.mono hle1).snoc (ha.mono hle2)
      case measure=>simp[intOf];omega
     ·obtain rfl:j=m:=by omega
      have hN:=NumRow.of hvr hl
      have HN:=Lib.hid hN
      have HLE:=Lib.hid hle
      have HNW':=Lib.hid hnw'
      have hw1:i+1≤maxLen:=by show i+1≤9223372036854775807;omega
      have hw2:(i+1)*24≤140737488355328:=by omega
      have hvc:=HV.out
      obtain⟨g2,e2⟩:=g.perm (M':=sc++(s++R)) (by rw[←List.append_assoc,←List.append_assoc];exact List.Perm.append_right _ List.perm_append_comm)
      rw[e2]
      clear e2 g hN hle hnw' hl hvr
      revert g2
      intro g
      go_wp2_with (first|(with_reducible refine yq _ ?_;(try generalize (G.w _).heap.size=bk);(try dsimp only[yi,yj]);(try clear g);intro g)|(at_builtin;refine wpList_append_v rfl _ _ 29 rfl 38 j0 _ 1 24 Tryz.underlying29 hj0 hy0 hy1 hy2 rfl (by decide) 1 g (Rr:=sc) (R':=s++R) (by rfl) hvc (by rfl) (by exact List.mem_cons_self ..) 1 (by rfl) rfl (one_cell5 _ rfl) (by decide) hw1 hw2 ?_;clear hvc;(try clear g);intro b2 cap2 cs2 g hb2 hrow2;revert g;dsimp only[List.take,List.cons_append,List.nil_append];intro g))
      obtain⟨g5,e5⟩:=g.less (List.sublist_cons_self _ _)
      rw[e5]
      have hxl:xs.length=i:=by
       have:=hrow2.xl
       simp at this
       omega
      go_roundw
      case rel=>
       exact⟨i+1,by go_num,by omega,Lib.hid (fun i' h=>if h2:i'=i then h2▸HMI.out else HEQ.out i' (by omega)),cap2,_,_,[(b2,_,cs2)],s++R,F',rfl,RowV.row hrow2 hb2,HO.out.more (by rw[←hxl];simp) HN.out (fun j hj=>List.getElem?_append_left (by omega)) (fun j' hj v s h=>h.mono HLE.out),HNW'.out,g5,rfl⟩
      case measure=>simp[intOf];omega)
  ·obtain rfl:i=n:=by omega
   go_wp2_with (with_reducible refine yq _ ?_;(try generalize (G.w _).heap.size=bk);(try dsimp only[yi,yj]);(try clear g);intro g)
   go_ret2
   obtain⟨g1,e1⟩:=g.as (M':=sc++(R++[])) (by simp)
   obtain⟨F5,b',g2,rfl,e2,hm,_,hn5⟩:=g1.freezeV hvr hown (by omega) (by omega) (fun _ _=>by omega)
   exact Or.inl ⟨HEQ.out,b',cc,F5,rfl,hm,by rw[e1,e2];exact g2.newF (hn5 hnw)⟩
set_option maxRecDepth 20000 in
theorem shapedI_any (A:Option Addr)(c n:Nat)(m:Nat→Nat)(x:Nat→Nat→Int)(w:World)(h:(heapOf w).Im A c n m x):
  Calls Tryz.prog 84 #[.slice A n c] w fun e w'=>e=.returned (.int .i64 (shpE n (m 0)))∧Below w.heap.size w w':=by
 refine calls_b fun g=>?_
 unfold shpE
 by_cases h1:n<1
 ·rw[if_pos (.inl h1)]
  have hi:(n:Int)<1:=by omega
  clear h h1
  go_enter Tryz.func84,Tryz.ntmps84
  go_wp2_with (with_reducible refine yq _ ?_;(try generalize (G.w _).heap.size=bk);(try dsimp only[yi,yj]);(try clear g);intro g)
  go_ret
  exact⟨rfl,G.below _⟩
 ·have hi:¬ ((n:Int)<1):=by omega
  by_cases h2:24<n
  ·rw[if_pos (.inr (.inl h2))]
   have hi2:(24:Int)<(n:Int):=by omega
   clear h h1 h2
   go_enter Tryz.func84,Tryz.ntmps84
   go_wp2_with (with_reducible refine yq _ ?_;(try generalize (G.w _).heap.size=bk);(try dsimp only[yi,yj]);(try clear g);intro g)
   go_ret
   exact⟨rfl,G.below _⟩
  ·have hi2:¬ ((24:Int)<(n:Int)):=by omega
   obtain⟨b,o,rfl,hrow⟩:=h.rowAt (by omega)
   obtain⟨B0,k0,hh0,hrw0⟩:=hrow 0 (by omega)
   have E0:∀(M:List Blk) (g:G w [] M [heapOf w]),g.w.cell? ⟨b,o,none⟩=some (.slice B0 (m 0) k0):=fun M g=>hh0 _ _ _ _ g (InF.head _ _)
   have hni:(0:Int)<(n:Int):=by omega
   generalize m 0=m0 at*
   clear h hrow hh0 hrw0
   by_cases h3:m0<1
   ·rw[if_pos (.inr (.inr (.inl h3)))]
    have hi3:(m0:Int)<1:=by omega
    clear h1 h2 h3
    go_enter Tryz.func84,Tryz.ntmps84
    go_wp2_with (with_reducible refine yq _ ?_;(try generalize (G.w _).heap.size=bk);(try dsimp only[yi,yj]);(try clear g);intro g)
    go_ret
    exact⟨rfl,G.below _⟩
   ·have hi3:¬ ((m0:Int)<1):=by omega
    by_cases h4:24<m0
    ·rw[if_pos (.inr (.inr (.inr h4)))]
     have hi4:(24:Int)<(m0:Int):=by omega
     clear h1 h2 h3 h4
     go_enter Tryz.func84,Tryz.ntmps84
     go_wp2_with (with_reducible refine yq _ ?_;(try generalize (G.w _).heap.size=bk);(try dsimp only[yi,yj]);(try clear g);intro g)
     go_ret
     exact⟨rfl,G.below _⟩
    ·rw[if_neg (by omega)]
     have hi4:¬ ((24:Int)<(m0:Int)):=by omega
     clear h1 h2 h3 h4
     go_enter Tryz.func84,Tryz.ntmps84
     go_wp2_with (with_reducible refine yq _ ?_;(try generalize (G.w _).heap.size=bk);(try dsimp only[yi,yj]);(try clear g);intro g)
     go_ret
     exact⟨rfl,G.below _⟩
set_option maxRecDepth 20000 in
theorem Ints_bad (n:Nat)(mm:Nat→Nat)(v:Nat→Nat→Int)(A:Option Addr)(c:Nat)(w:World)(hA:(heapOf w).Im A c n mm v)(h0:n<1∨24<n∨mm 0<1∨24<mm 0):
  Calls Tryz.prog 35 #[.slice A n c] w (RErr 2 w):=by
 refine calls_b fun g=>?_
 unfold RErr
 have HA:=Lib.hid hA
 have CS:=Lib.hid (fun w h=>shapedI_any A c n mm v w h)
 rw[show shpE n (mm 0)=2 from by unfold shpE;rw[if_pos h0]] at CS
 clear hA h0
 go_enter Tryz.func35,Tryz.ntmps35
 go_wp2_with (with_reducible refine yq _ ?_;(try generalize (G.w _).heap.size=bk);(try dsimp only[yi,yj]);(try clear g);intro g)
 refine(CS.out _ (HA.out.mono (g.sub _ (by simp)))).mono ?_
 rintro e w1 ⟨rfl,hb⟩
 obtain⟨g1,rfl⟩:=G.call_ex _ hb
 clear hb
 (try clear g)
 revert g1
 intro g
 go_wp2_with (with_reducible refine yq _ ?_;(try generalize (G.w _).heap.size=bk);(try dsimp only[yi,yj]);(try clear g);intro g)
 go_ret2
 exact⟨rfl,G.below _⟩
set_option maxRecDepth 20000 in
theorem rInts_bad (A:Option Addr)(c n:Nat)(m:Nat→Nat)(x:Nat→Nat→Int)(w:World)(h:(heapOf w).Im A c n m x)(h0:n<1∨24<n∨m 0<1∨24<m 0):
  Calls Tryz.prog 36 #[.slice A n c] w (RErr 2 w):=by
 refine calls_b fun g=>?_
 unfold RErr
 by_cases h1:n<1
 ·have hi:(n:Int)<1:=by omega
  clear h h1 h0
  go_enter Tryz.func36,Tryz.ntmps36
  go_wp2_with (with_reducible refine yq _ ?_;(try generalize (G.w _).heap.size=bk);(try dsimp only[yi,yj]);(try clear g);intro g)
  go_ret2
  exact⟨rfl,G.below _⟩
 ·have hi:¬ ((n:Int)<1):=by omega
  by_cases h2:24<n
  ·have hi2:(24:Int)<(n:Int):=by omega
   clear h h1 h2 h0
   go_enter Tryz.func36,Tryz.ntmps36
   go_wp2_with (with_reducible refine yq _ ?_;(try generalize (G.w _).heap.size=bk);(try dsimp only[yi,yj]);(try clear g);intro g)
   go_ret2
   exact⟨rfl,G.below _⟩
  ·have hi2:¬ ((24:Int)<(n:Int)):=by omega
   obtain⟨b,o,rfl,hrow⟩:=h.rowAt (by omega)
   obtain⟨B0,k0,hh0,hrw0⟩:=hrow 0 (by omega)
   have E0:∀(M:List Blk) (g:G w [] M [heapOf w]),g.w.cell? ⟨b,o,none⟩=some (.slice B0 (m 0) k0):=fun M g=>hh0 _ _ _ _ g (InF.head _ _)
   have hni:(0:Int)<(n:Int):=by omega
   generalize m 0=m0 at*
   clear h hrow hh0 hrw0
   by_cases h3:m0<1
   ·have hi3:(m0:Int)<1:=by omega
    clear h1 h2 h3 h0
    go_enter Tryz.func36,Tryz.ntmps36
    go_wp2_with (with_reducible refine yq _ ?_;(try generalize (G.w _).heap.size=bk);(try dsimp only[yi,yj]);(try clear g);intro g)
    go_ret2
    exact⟨rfl,G.below _⟩
   ·have hi3:¬ ((m0:Int)<1):=by omega
    by_cases h4:24<m0
    ·have hi4:(24:Int)<(m0:Int):=by omega
     clear h1 h2 h3 h4 h0
     go_enter Tryz.func36,Tryz.ntmps36
     go_wp2_with (with_reducible refine yq _ ?_;(try generalize (G.w _).heap.size=bk);(try dsimp only[yi,yj]);(try clear g);intro g)
     go_ret2
     exact⟨rfl,G.below _⟩
    ·omega
set_option maxRecDepth 20000 in
set_option maxHeartbeats 4000000 in
theorem Ints_any (n:Nat)(mm:Nat→Nat)(v:Nat→Nat→Int)(A:Option Addr)(c:Nat)(w:World)(hA:(heapOf w).Im A c n mm v)(hT:Tab w)(n1:1≤n)(n2:n≤24)(m1:1≤mm 0)(m2:mm 0≤24):
  Calls Tryz.prog 35 #[.slice A n c] w (RInts n mm v w):=by
 refine calls_b fun g=>?_
 unfold RInts RErr RMtE
 have HA:=Lib.hid hA
 have HT:=Lib.hid hT
 have CS:=Lib.hid (fun w h=>shapedI_any A c n mm v w h)
 rw[show shpE n (mm 0)=0 from by unfold shpE;rw[if_neg (by omega)]] at CS
 obtain⟨m,hm⟩:∃m,mm 0=m:=⟨_,rfl⟩
 have HM:=Lib.hid hm
 rw[hm] at m1 m2 ⊢
 have CW:=Lib.hid (fun(a:Int) (h:I64 a) w t=>whole_r a (a:Rat) ((bd_i64 h.1 h.2).mono (by decide)) rfl h.1 h.2 w t)
 unfold RT1 at CW
 have hmk:=make_rows n (by omega)
 obtain⟨i0,hi,hz0,hz1,hz2⟩:=info_parts infoRat
 obtain⟨b,o,rfl,hrow⟩:=hA.rowAt n1
 have HR:=Lib.hid hrow
 obtain⟨B0,k0,hh0,hrw0⟩:=hrow 0 (by omega)
 have E0:∀(M:List Blk) (I:List Frag) (g:G w [] M I) (hF:InF (heapOf w) I),g.w.cell? ⟨b,o,none⟩=some (.slice B0 m k0):=fun M I g hF=>by rw[←hm];exact hh0 _ _ _ _ g hF
 have hn0i:(0:Int)<(n:Int):=by omega
 have hn0:0<n:=by omega
 have hni:(0:Int)≤(n:Int):=by omega
 have hm0i:(0:Int)≤(m:Int):=by omega
 obtain⟨z,hz⟩:∃z,intM v=z:=⟨_,rfl⟩
 have HZ:Hid (∀i j,z i j=(v i j:Rat)):=Lib.hid (fun i j=>by rw[←hz];rfl)
 rw[hz]
 clear hA hT hrow hh0 hrw0 hm hz
 go_enter Tryz.func35,Tryz.ntmps35
 go_wp2_with (with_reducible refine yq _ ?_;(try generalize (G.w _).heap.size=bk);(try dsimp only[yi,yj]);(try clear g);intro g)
 refine(CS.out _ (HA.out.mono (g.sub _ (by simp)))).mono ?_
 rintro e w1 ⟨rfl,hb⟩
 obtain⟨g1,rfl⟩:=G.call_ex _ hb
 clear hb
 (try clear g)
 revert g1
 intro g
 go_wp2_with (with_reducible refine yq _ ?_;(try generalize (G.w _).heap.size=bk);(try dsimp only[yi,yj]);(try clear g);intro g)
 obtain⟨ob,rfl⟩:∃ob,ob=bk:=⟨_,rfl⟩
 have OS:=own_start n (fun j=>NumRow w.heap.size 43 (fun _=>none) (lenA m 0 0 j) (rawM z j)) (fun j _=>by rw[lenA_start];exact NumRow.nil _ _ _ _)
 go_loopw [20] (fun iv wr=>∃i:Nat,iv=.int .i64 (i:Int)∧i≤n∧Hid (∀i',i'<i→mm i'=m)∧∃(F:Frag) (R:List Blk) (oc:List Value),OwnOn (List.range n) (fun j=>NumRow w.heap.size 43 F (lenA m i 0 j) (rawM z j)) R oc∧Hid (oc.length=n)∧F.Nw w∧∃g:G w [] ((ob,38,oc)::R) [F,heapOf w],wr=g.w) (fun iv _=>n-(intOf iv).toNat)
 case atStart=>
  obtain⟨g2,e2⟩:=g.none_ex
  exact⟨0,rfl,by omega,Lib.hid (fun i h=>absurd h (Nat.not_lt_zero i)),fun _=>none,[],_,OS,Lib.hid (by simp),Frag.Nw.none w,g2,e2⟩
 case round=>
  clear g OS
  obtain⟨i,rfl,hi9,HEQ,F,R,oc,hown,hocl,hnw,g,rfl⟩:=hrel
  by_cases hin:i<n
  ·have hii:(i:Int)<(n:Int):=by omega
   obtain⟨Br,kr,hh,hrw⟩:=HR.out i hin
   by_cases hmi:mm i≠m
   ·have EH:∀(M:List Blk) (I:List Frag) (g:G w [] M I) (hF:InF (heapOf w) I),g.w.cell? ⟨b,o+i,none⟩=some (.slice Br (mm i) kr):=fun M I g hF=>hh _ _ _ _ g hF
    have HNE:=Lib.hid (show∃i,i<n∧mm i≠m from⟨i,hin,hmi⟩)
    generalize mm i=mi at*
    have hnb:((mi:Int) !=(m:Int))=true:=by simp;omega
    have hnb2:((mi:Int)==(m:Int))=false:=by simp;omega
    clear hown hocl hnw hh hrw hmi
    go_wp2_with (with_reducible refine yq _ ?_;(try generalize (G.w _).heap.size=bk);(try dsimp only[yi,yj]);(try clear g);intro g)
    go_ret2
    exact Or.inr ⟨HNE.out,rfl,G.below _⟩
   have hmi:mm i=m:=Decidable.not_not.1 hmi
   rw[hmi] at hh hrw
   have HMI:=Lib.hid hmi
   clear hmi
   obtain⟨ba,oa,rfl,hna⟩:=hrw.at m1
   have EH:∀(M:List Blk) (I:List Frag) (g:G w [] M I) (hF:InF (heapOf w) I),g.w.cell? ⟨b,o+i,none⟩=some (.slice (some ⟨ba,oa,none⟩) m kr):=fun M I g hF=>hh _ _ _ _ g hF
   have HNA:=Lib.hid hna
   have HOK:=Lib.hid hrw.ok
   clear hh hna hrw
   go_wp2_with (with_reducible refine yq _ ?_;(try generalize (G.w _).heap.size=bk);(try dsimp only[yi,yj]);(try clear g);intro g)
   go_loopw [34] (fun jv wr=>∃j:Nat,jv=.int .i64 (j:Int)∧j≤m∧∃(F:Frag) (R:List Blk) (oc:List Value),OwnOn (List.range n) (fun j'=>NumRow w.heap.size 43 F (lenA m i j j') (rawM z j')) R oc∧Hid (oc.length=n)∧F.Nw w∧∃g:G w [] ((ob,38,oc)::R) [F,heapOf w],wr=g.w) (fun jv _=>m-(intOf jv).toNat)
   case atStart=>exact⟨0,rfl,by omega,F,R,oc,hown,hocl,hnw,g,rfl⟩
   case round =>
    clear g hown hocl hnw F R oc
    obtain⟨j,rfl,hj,F,R,oc,hown,hocl,hnw,g,rfl⟩:=hrel
    by_cases hjm:j<m
    ·have hji:(j:Int)<(m:Int):=by omega
     obtain⟨v1,s,R',hv,⟨A1,c1,l,rfl,hvr,hl⟩,hp,hbut⟩:=hown.openAt hin
     rw[lenA_at] at hvr hl hv
     obtain⟨g1,e1⟩:=g.perm (M':=(ob,38,oc)::(s++R')) (hp.cons _)
     rw[e1]
     clear e1 g hown hp
     revert g1
     intro g
     have EV:∀(M:List Blk) (I:List Frag) (g:G w [] M I) (hF:InF (heapOf w) I),g.w.cell? ⟨ba,oa+j,none⟩=some (.int .i64 (v i j)):=fun M I g hF=>HNA.out j hjm _ _ _ _ g hF
     have HI:=Lib.hid (HOK.out j hjm)
     have HZ1:=Lib.hid (HZ.out i j)
     have HL:=Lib.hid hl
     have HB:=Lib.hid hbut
     have hw1:j+1≤maxLen:=by show j+1≤9223372036854775807;omega
     have hw2:(j+1)*56≤140737488355328:=by omega
     have CW1:=Lib.hid (CW.out (v i j) HI.out)
     clear hl hbut
     generalize v i j=x at*
     go_upto_region 13 with(with_reducible refine yq _ ?_;(try generalize (G.w _).heap.size=bk);(try dsimp only[yi,yj]);(try clear g);intro g)
     clear EV
     ((try simp only[G.drew_eq,G.drewN_eq]);(refine yq _ ?_;(try generalize (G.w _).heap.size=bk);(try dsimp only[yi,yj]);(try clear g);intro g))
     go_region_law (first
      |(refine step_append_v rfl _ _ 38 rfl 43 i0 _ 3 56 Tryz.underlying38 hi hz0 hz1 hz2 rfl (by decide) 2 _ (Rr:=s) (R':=R') (by rfl) hvr (by rfl) (by exact List.mem_cons_self ..) 1 (by rfl) rfl (three _ _ _ ⟨rfl,rfl,rfl⟩) (by decide) hw1 hw2 ?_;clear hvr;(try clear g);intro b2 cap cs g hb2 hrow2;revert g;dsimp only[List.take,List.cons_append,List.nil_append];intro g)
      |(go_simp;go_at_call 64;(with_reducible refine(CW1.out _ ?_).mono ?_);(· exact G.tab _ HT.out);rintro e w1 ⟨pa,qa,ra,Fa,rfl,ha,hn⟩;have hnna:=fun k o hk=>Nat.le_trans (G.chg _).size (hn.new k o hk);obtain⟨sa,Aa,na,ca,Ba,da,ka,rfl,rfl,rfl⟩:=ha.shape;obtain⟨g1,rfl⟩:=G.new_ex _ hn;clear hn;(try clear g);revert g1;intro g))
     all_goals (as_aux_lemma=>
      ((try simp only[G.drew_eq,G.drewN_eq]);(refine yq _ ?_;(try generalize (G.w _).heap.size=bk);(try dsimp only[yi,yj]);(try clear g);intro g))
      go_wp2_with (with_reducible refine yq _ ?_;(try generalize (G.w _).heap.size=bk);(try dsimp only[yi,yj]);(try clear g);intro g)
      obtain⟨g2,hg2⟩:∃g2:G w [] ((ob,38,oc.set i (.slice (some ⟨b2,0,none⟩) (j+1) cap))::(b2,43,cs)::R') [Fa,F,heapOf w],g.w=g2.w:=g.forget 1
      rw[hg2]
      obtain⟨F',g3,e3,hle,hle2,hnew⟩:=g2.merge
      rw[e3]
      go_roundw
      case rel=>
       refine⟨j+1,by go_num,by omega,F',(b2,43,cs)::R',_,HB.out.closeAt (s:=[(b2,43,cs)]) hin (List.getElem?_set_self (by have:=hocl.out;omega)) ?_ (fun j' h _=>List.getElem?_set_ne (Ne.symm h)) (fun j' h _ v s hq=>?_),Lib.hid (by simp[hocl.out]),fun k' o hk'=>(hnew k' o hk').elim (hnw k' o) (hnna k' o),g3,rfl⟩
       ·rw[lenA_at]
        exact NumRow.snoc HL.out hle hrow2 hb2 (by unfold rawM;rw[HZ1.out];exact ha.mono hle2)
       ·rw[lenA_ne m h (k':=j)]
        exact hq.mono hle
      case measure=>simp[intOf];omega)
    ·obtain rfl:j=m:=by omega
     go_wp2_with (with_reducible refine yq _ ?_;(try generalize (G.w _).heap.size=bk);(try dsimp only[yi,yj]);(try clear g);intro g)
     go_roundw
     case rel=>exact⟨i+1,by go_num,by omega,Lib.hid (fun i' h=>if h2:i'=i then h2▸HMI.out else HEQ.out i' (by omega)),F,R,oc,hown.next (fun _ _=>rfl) (fun j hj v s hq=>by rw[←lenA_full];exact hq),hocl,hnw,g,rfl⟩
     case measure=>simp[intOf];omega
  ·obtain rfl:i=n:=by omega
   go_wp2_with (with_reducible refine yq _ ?_;(try generalize (G.w _).heap.size=bk);(try dsimp only[yi,yj]);(try clear g);intro g)
   go_ret2
   obtain⟨g1,e1⟩:=g.as (M':=(ob,38,oc)::(R++[])) (by simp)
   obtain⟨F',g',e',hmt,_,hnw'⟩:=g1.freeze hown hnw (by omega) (fun i _=>by unfold lenA;split<;>(try split)<;>omega)
   exact Or.inl ⟨HEQ.out,ob,i,F',rfl,hmt.congr (fun i hi=>lenA_end hi) (fun _ _ _ _=>rfl),by rw[e1,e'];exact g'.newF hnw'⟩
end Go.Proofs.YthhbbnfnejjpiaaGreatDoor
namespace Go.Proofs.YthhbbnfnejjpiaaGreatDoor
open Go.RowKit GW NL MX
def SzT (t:Raw):Prop:=t.2.1.length≤2∧t.2.2.length≤2
def SzR (m:Nat)(x:Nat→Raw):Prop:=m≤4∧∀j,j<m→SzT (x j)
/-- at most 4 rows of at most 4 numbers whose parts have at most 2 limbs -/
def SzM (n:Nat)(m:Nat→Nat)(x:Nat→Nat→Raw):Prop:=n≤4∧∀i,i<n→SzR (m i) (x i)
/-- whether something is large; if not, then P -/
def RLg (P:Prop)(w:World)(e:Ending)(w':World):Prop:=∃L:Bool,(L=false→P)∧e=.returned (.bool L)∧Below w.heap.size w w'
theorem RLg.yes {P:Prop}{w w':World}(h:Below w.heap.size w w'):RLg P w (.returned (.bool true)) w':=⟨true,(fun h=>by cases h),rfl,h⟩
theorem RLg.no {P:Prop}{w w':World}(k:P)(h:Below w.heap.size w w'):RLg P w (.returned (.bool false)) w':=⟨false,fun _=>k,rfl,h⟩
set_option maxRecDepth 20000 in
set_option maxHeartbeats 4000000 in
theorem large_any (N:Nat→Nat)(mm:Nat→Nat→Nat)(x:Nat→Nat→Nat→Raw)(A:Nat→Option Addr)(c:Nat→Nat)(bs:Nat)(w:World)(hc:∀t,t<2→w.cell? ⟨bs,t,none⟩=some (.slice (A t) (N t) (c t)))(hM:∀t,t<2→(heapOf w).Mt (A t) (c t) (N t) (mm t) (x t)):
  Calls Tryz.prog 18 #[.slice (some ⟨bs,0,none⟩) 2 2] w (RLg (∀t,t<2→SzM (N t) (mm t) (x t)) w):=by
 refine calls_b fun g=>?_
 have HC:=Lib.hid hc
 have HM:=Lib.hid hM
 clear hc hM
 go_enter Tryz.func18,Tryz.ntmps18
 go_wp2_with (with_reducible refine yq _ ?_;(try generalize (G.w _).heap.size=bk);(try dsimp only[yi,yj]);(try clear g);intro g)
 go_loopw [3] (fun tv wr=>∃t:Nat,tv=.int .i64 (t:Int)∧t≤2∧Hid (∀s,s<t→SzM (N s) (mm s) (x s))∧∃g:G w [] [] [heapOf w],wr=g.w) (fun tv _=>2-(intOf tv).toNat)
 case atStart=>exact⟨0,rfl,by omega,Lib.hid (fun s h=>absurd h (Nat.not_lt_zero s)),g,rfl⟩
 case round=>
  clear g
  obtain⟨t,rfl,ht',HS,g,rfl⟩:=hrel
  by_cases ht:t<2
  ·have hti:(t:Int)<2:=by omega
   have ET:∀(M:List Blk) (g:G w [] M [heapOf w]),g.w.cell? ⟨bs,t,none⟩=some (.slice (A t) (N t) (c t)):=fun M g=>G.old g (List.mem_cons_self ..) (HC.out t ht)
   obtain⟨n,hn⟩:∃n,N t=n:=⟨_,rfl⟩
   obtain⟨m,hm⟩:∃m,mm t=m:=⟨_,rfl⟩
   obtain⟨y,hy⟩:∃y,x t=y:=⟨_,rfl⟩
   obtain⟨B,hB⟩:∃B,A t=B:=⟨_,rfl⟩
   obtain⟨d,hd⟩:∃d,c t=d:=⟨_,rfl⟩
   have HT1:=Lib.hid (HM.out t ht)
   have HE:Hid (SzM n m y→∀s,s<t+1→SzM (N s) (mm s) (x s)):=Lib.hid (fun h s hs=>by
    by_cases hst:s=t
    ·subst hst
     rw[hn,hm,hy]
     exact h
    ·exact HS.out s (by omega))
   rw[hn,hB,hd] at ET
   rw[hn,hm,hy,hB,hd] at HT1
   clear hn hm hy hB hd HS
   by_cases hn4:4<n
   ·have hn4i:(4:Int)<(n:Int):=by omega
    go_wp2_with (with_reducible refine yq _ ?_;(try generalize (G.w _).heap.size=bk);(try dsimp only[yi,yj]);(try clear g);intro g)
    go_ret
    exact RLg.yes (G.below _)
   have hn4i:¬ ((4:Int)<(n:Int)):=by omega
   go_wp2_with (with_reducible refine yq _ ?_;(try generalize (G.w _).heap.size=bk);(try dsimp only[yi,yj]);(try clear g);intro g)
   go_loopw [4] (fun iv wr=>∃i:Nat,iv=.int .i64 (i:Int)∧i≤n∧Hid (∀s,s<i→SzR (m s) (y s))∧∃g:G w [] [] [heapOf w],wr=g.w) (fun iv _=>n-(intOf iv).toNat)
   case atStart=>exact⟨0,rfl,by omega,Lib.hid (fun s h=>absurd h (Nat.not_lt_zero s)),g,rfl⟩
   case round =>
    clear g
    obtain⟨i,rfl,hi',HS,g,rfl⟩:=hrel
    by_cases hin:i<n
    ·have hii:(i:Int)<(n:Int):=by omega
     obtain⟨b,o,rfl,hrow⟩:=HT1.out.rowAt (by omega)
     obtain⟨Br,kr,hh,hrw⟩:=hrow i hin
     have EH:∀(M:List Blk) (I:List Frag) (g:G w [] M I) (hF:InF (heapOf w) I),g.w.cell? ⟨b,o+i,none⟩=some (.slice Br (m i) kr):=fun M I g hF=>hh _ _ _ _ g hF
     have HRW:=Lib.hid hrw
     obtain⟨q,hq⟩:∃q,m i=q:=⟨_,rfl⟩
     obtain⟨v,hv⟩:∃v,y i=v:=⟨_,rfl⟩
     have HE2:Hid (SzR q v→∀s,s<i+1→SzR (m s) (y s)):=Lib.hid (fun h s hs=>by
      by_cases hst:s=i
      ·subst hst
       rw[hq,hv]
       exact h
      ·exact HS.out s (by omega))
     rw[hq] at EH
     rw[hq,hv] at HRW
     clear hh hrow hrw hq hv HS
     by_cases hq4:4<q
     ·have hq4i:(4:Int)<(q:Int):=by omega
      go_wp2_with (with_reducible refine yq _ ?_;(try generalize (G.w _).heap.size=bk);(try dsimp only[yi,yj]);(try clear g);intro g)
      go_ret
      exact RLg.yes (G.below _)
     have hq4i:¬ ((4:Int)<(q:Int)):=by omega
     go_wp2_with (with_reducible refine yq _ ?_;(try generalize (G.w _).heap.size=bk);(try dsimp only[yi,yj]);(try clear g);intro g)
     go_loopw [5] (fun jv wr=>∃j:Nat,jv=.int .i64 (j:Int)∧j≤q∧Hid (∀s,s<j→SzT (v s))∧∃g:G w [] [] [heapOf w],wr=g.w) (fun jv _=>q-(intOf jv).toNat)
     case atStart=>exact⟨0,rfl,by omega,Lib.hid (fun s h=>absurd h (Nat.not_lt_zero s)),g,rfl⟩
     case round=>
      clear g
      obtain⟨j,rfl,hj',HS,g,rfl⟩:=hrel
      by_cases hjq:j<q
      ·have hji:(j:Int)<(q:Int):=by omega
       obtain⟨ba,oa,rfl,hna⟩:=HRW.out.num (by omega)
       obtain⟨p1,p2,p3,h3,hrt⟩:=hna j hjq
       have HE3:Hid (SzT (v j)→∀s,s<j+1→SzT (v s)):=Lib.hid (fun h s hs=>by
        by_cases hst:s=j
        ·subst hst
         exact h
        ·exact HS.out s (by omega))
       unfold SzT at HE3
       obtain⟨rfl,⟨P,dx,rfl,hs1⟩,Q,ex,rfl,hs2⟩:=hrt
       generalize (v j).2.1.length=nx at*
       generalize (v j).2.2.length=mx at*
       have X1:∀(M:List Blk) (I:List Frag) (g:G w [] M I) (hF:InF (heapOf w) I),g.w.cell? ⟨ba,oa+j*3+1,none⟩=some (.slice P nx dx):=fun M I g hF=>(h3 _ _ _ _ g hF).2.1
       have X2:∀(M:List Blk) (I:List Frag) (g:G w [] M I) (hF:InF (heapOf w) I),g.w.cell? ⟨ba,oa+j*3+2,none⟩=some (.slice Q mx ex):=fun M I g hF=>(h3 _ _ _ _ g hF).2.2
       clear h3 hna hs1 hs2 HS
       by_cases hx:2<nx
       ·have hxi:(2:Int)<(nx:Int):=by omega
        go_wp2_with (with_reducible refine yq _ ?_;(try generalize (G.w _).heap.size=bk);(try dsimp only[yi,yj]);(try clear g);intro g)
        go_ret
        exact RLg.yes (G.below _)
       have hxi:¬ ((2:Int)<(nx:Int)):=by omega
       by_cases hz:2<mx
       ·have hzi:(2:Int)<(mx:Int):=by omega
        go_wp2_with (with_reducible refine yq _ ?_;(try generalize (G.w _).heap.size=bk);(try dsimp only[yi,yj]);(try clear g);intro g)
        go_ret
        exact RLg.yes (G.below _)
       have hzi:¬ ((2:Int)<(mx:Int)):=by omega
       go_wp2_with (with_reducible refine yq _ ?_;(try generalize (G.w _).heap.size=bk);(try dsimp only[yi,yj]);(try clear g);intro g)
       go_roundw
       case rel=>exact⟨j+1,by go_num,by omega,Lib.hid (HE3.out ⟨by omega,by omega⟩),g,rfl⟩
       case measure=>simp[intOf]<;>omega
      ·obtain rfl:j=q:=by omega
       go_wp2_with (with_reducible refine yq _ ?_;(try generalize (G.w _).heap.size=bk);(try dsimp only[yi,yj]);(try clear g);intro g)
       go_roundw
       case rel=>exact⟨i+1,by go_num,by omega,Lib.hid (HE2.out ⟨by omega,HS.out⟩),g,rfl⟩
       case measure=>simp[intOf]<;>omega
    ·obtain rfl:i=n:=by omega
     go_wp2_with (with_reducible refine yq _ ?_;(try generalize (G.w _).heap.size=bk);(try dsimp only[yi,yj]);(try clear g);intro g)
     go_roundw
     case rel=>exact⟨t+1,by go_num,by omega,Lib.hid (HE.out ⟨by omega,HS.out⟩),g,rfl⟩
     case measure=>simp[intOf]<;>omega
  ·obtain rfl:t=2:=by omega
   go_wp2_with (with_reducible refine yq _ ?_;(try generalize (G.w _).heap.size=bk);(try dsimp only[yi,yj]);(try clear g);intro g)
   go_ret
   exact RLg.no HS.out (G.below _)
end Go.Proofs.YthhbbnfnejjpiaaGreatDoor
namespace Go.Proofs.YthhbbnfnejjpiaaGreatDoor
open Go.RowKit GW NL MX
set_option maxRecDepth 20000 in
theorem plain_null (m c:Nat)(F:Frag)(r:Nat→Rat)(u:Value)(s:List Blk)(cb:Nat)(h:RowP m F r u s)(hc:c<m)(w:World)(hs:Lies s w)(hcb:w.cell? ⟨cb,0,none⟩=some (.int .i64 (c:Int))):
  Calls Tryz.prog 133 #[.iface 129 u,.pointer (some ⟨cb,0,none⟩)] w fun e w'=>e=.returned (.bool (decide (r c≠0)))∧Below w.heap.size w w':=by
 refine calls_b fun g=>?_
 have CA:=Lib.hid (fun w h'=>plain_atW m c F r u s h hc w h')
 have HS:=Lib.hid hs
 have Ec:=fun(M:List Blk) (g:G w [] M [heapOf w])=>G.old g (List.mem_cons_self ..) hcb
 clear hs hcb h
 have hm:=plain_mat
 obtain⟨z,hz⟩:∃z,decide (r c≠0)=z:=⟨_,rfl⟩
 have HZ:=Lib.hid hz
 rw[hz]
 clear hz
 go_enter Tryz.func133,Tryz.ntmps133
 go_wp2_with (with_reducible refine yq _ ?_;(try generalize (G.w _).heap.size=bk);(try dsimp only[yi,yj]);(try clear g);intro g)
 refine(CA.out _ (HS.out.old g (by simp))).mono ?_
 rintro e w1 ⟨p,q,r',rfl,hrt,hb⟩
 obtain⟨g1,rfl⟩:=G.call_ex _ hb
 clear hb g
 revert g1
 intro g
 obtain⟨s1,A1,n1,c1,B1,d1,k1,rfl,rfl,rfl,hn⟩:=rt_null hrt
 have hd:(!decide (n1=0))=z:=by rw[←HZ.out,hn];simp
 clear hrt hn HZ
 go_wp2_with (with_reducible refine yq _ ?_;(try generalize (G.w _).heap.size=bk);(try dsimp only[yi,yj]);(try clear g);intro g)
 refine(null_any s1 A1 B1 n1 c1 d1 k1 _).mono ?_
 rintro e w1 ⟨rfl,hb⟩
 obtain⟨g1,rfl⟩:=G.call_ex _ hb
 clear hb
 (try clear g)
 revert g1
 intro g
 go_wp2_with (with_reducible refine yq _ ?_;(try generalize (G.w _).heap.size=bk);(try dsimp only[yi,yj]);(try clear g);intro g)
 go_ret
 exact⟨rfl,G.below _⟩
set_option maxRecDepth 20000 in
set_option maxHeartbeats 2000000 in
theorem plain_index (m n c a cp:Nat)(F:Frag)(x:Mx)(rb cb:Nat)(hc:c<m)(ha:a≤n)(hn:n≤1000)(w:World)(hr:RowsW w rb n 129 (fun r u s=>RowP m F r u s) x)(hcb:w.cell? ⟨cb,0,none⟩=some (.int .i64 (c:Int))):
  Calls Tryz.prog 132 #[.slice (some ⟨rb,a,none⟩) (n-a) cp,.func (.func 133) #[] #[.pointer (some ⟨cb,0,none⟩)]] w fun e w'=>e=.returned (.int .i64 (idxV x n c a))∧Below w.heap.size w w':=by
 refine calls_b fun g=>?_
 obtain⟨d,rfl⟩:∃d,n=a+d:=⟨n-a,by omega⟩
 rw[Nat.add_sub_cancel_left]
 have HR:=Lib.hid hr
 have HC:=Lib.hid hcb
 have CN:=Lib.hid (fun r u s h w hs hcb=>plain_null m c F r u s cb h hc w hs hcb)
 obtain⟨z,hz⟩:∃z,idxV x (a+d) c a=z:=⟨_,rfl⟩
 have HZ:=Lib.hid hz
 rw[hz]
 clear hz hr hcb
 go_enter Tryz.func132,Tryz.ntmps132
 go_wp2_with (with_reducible refine yq _ ?_;(try generalize (G.w _).heap.size=bk);(try dsimp only[yi,yj]);(try clear g);intro g)
 go_loopw [8] (fun i wr=>∃k:Nat,i=.int .i64 (k:Int)∧k≤d∧(∀j,a≤j→j<a+k→x j c=0)∧∃g:G w [] [] [heapOf w],wr=g.w) (fun i _=>d-(intOf i).toNat)
 case atStart=>exact⟨0,rfl,by omega,fun j h1 h2=>by omega,g,rfl⟩
 case round=>
  clear g
  obtain⟨k,rfl,hk,hall,g,rfl⟩:=hrel
  have HA:=Lib.hid hall
  clear hall
  by_cases hkd:k<d
  ·have hki:(k:Int)<(d:Int):=by omega
   obtain⟨u,s,h1,h2,h3⟩:=HR.out (a+k) (by omega)
   have EH:∀(M:List Blk) (g:G w [] M [heapOf w]),g.w.cell? ⟨rb,a+k,none⟩=some (.iface 129 u):=fun M g=>G.old g (List.mem_cons_self ..) h1
   have HQ:=Lib.hid h2
   have HL:=Lib.hid h3
   clear h1 h2 h3
   go_wp2_with (with_reducible refine yq _ ?_;(try generalize (G.w _).heap.size=bk);(try dsimp only[yi,yj]);(try clear g);intro g)
   refine(CN.out _ _ _ HQ.out _ (HL.out.old g (by simp)) (G.old g (by simp) HC.out)).mono ?_
   rintro e w1 ⟨rfl,hb⟩
   obtain⟨g1,rfl⟩:=G.call_ex _ hb
   clear hb
   (try clear g)
   revert g1
   intro g
   by_cases hx:x (a+k) c=0
   ·have hdx:decide (x (a+k) c≠0)=false:=by simp[hx]
    rw[hdx]
    go_wp2_with (with_reducible refine yq _ ?_;(try generalize (G.w _).heap.size=bk);(try dsimp only[yi,yj]);(try clear g);intro g)
    go_roundw
    case rel=>
     exact⟨k+1,by go_num,by omega,fun j h1 h2=>if h:j=a+k then h▸hx else HA.out j h1 (by omega),g,rfl⟩
    case measure=>simp[intOf];omega
   ·have hdx:decide (x (a+k) c≠0)=true:=by simp[hx]
    rw[hdx]
    go_wp2_with (with_reducible refine yq _ ?_;(try generalize (G.w _).heap.size=bk);(try dsimp only[yi,yj]);(try clear g);intro g)
    go_ret
    have e:findP x (a+d) c a=some (a+k):=findP_some_of (by omega) (by omega) hx (fun q h1 h2=>HA.out q h1 h2)
    have:z=(k:Int):=by
     have:=HZ.out
     unfold idxV at this
     rw[e] at this
     rw[←this]
     simp only[]
     omega
    exact⟨by rw[this];rfl,G.below _⟩
  ·obtain rfl:k=d:=by omega
   go_wp2_with (with_reducible refine yq _ ?_;(try generalize (G.w _).heap.size=bk);(try dsimp only[yi,yj]);(try clear g);intro g)
   go_ret
   have e:findP x (a+k) c a=none:=findP_none_of (fun q h1 h2=>HA.out q h1 h2)
   have:z= -1:=by
    have:=HZ.out
    unfold idxV at this
    rw[e] at this
    exact this.symm
   exact⟨by rw[this];rfl,G.below _⟩
end Go.Proofs.YthhbbnfnejjpiaaGreatDoor
namespace Go.Proofs.YthhbbnfnejjpiaaGreatDoor
open Go.RowKit GW NL MX
set_option maxRecDepth 20000 in
theorem wide_null (m m2 c:Nat)(F:Frag)(r:Nat→Rat)(u:Value)(s:List Blk)(cb:Nat)(h:RowW m m2 F r u s)(hc:c<m)(w:World)(hs:Lies s w)(hcb:w.cell? ⟨cb,0,none⟩=some (.int .i64 (c:Int))):
  Calls Tryz.prog 133 #[.iface 132 u,.pointer (some ⟨cb,0,none⟩)] w fun e w'=>e=.returned (.bool (decide (r c≠0)))∧Below w.heap.size w w':=by
 refine calls_b fun g=>?_
 have CA:=Lib.hid (fun w h'=>wide_atW m m2 c F r u s h hc w h')
 have HS:=Lib.hid hs
 have Ec:=fun(M:List Blk) (g:G w [] M [heapOf w])=>G.old g (List.mem_cons_self ..) hcb
 clear hs hcb h
 have hm:=wide_mat
 obtain⟨z,hz⟩:∃z,decide (r c≠0)=z:=⟨_,rfl⟩
 have HZ:=Lib.hid hz
 rw[hz]
 clear hz
 go_enter Tryz.func133,Tryz.ntmps133
 go_wp2_with (with_reducible refine yq _ ?_;(try generalize (G.w _).heap.size=bk);(try dsimp only[yi,yj]);(try clear g);intro g)
 refine(CA.out _ (HS.out.old g (by simp))).mono ?_
 rintro e w1 ⟨p,q,r',rfl,hrt,hb⟩
 obtain⟨g1,rfl⟩:=G.call_ex _ hb
 clear hb g
 revert g1
 intro g
 obtain⟨s1,A1,n1,c1,B1,d1,k1,rfl,rfl,rfl,hn⟩:=rt_null hrt
 have hd:(!decide (n1=0))=z:=by rw[←HZ.out,hn];simp
 clear hrt hn HZ
 go_wp2_with (with_reducible refine yq _ ?_;(try generalize (G.w _).heap.size=bk);(try dsimp only[yi,yj]);(try clear g);intro g)
 refine(null_any s1 A1 B1 n1 c1 d1 k1 _).mono ?_
 rintro e w1 ⟨rfl,hb⟩
 obtain⟨g1,rfl⟩:=G.call_ex _ hb
 clear hb
 (try clear g)
 revert g1
 intro g
 go_wp2_with (with_reducible refine yq _ ?_;(try generalize (G.w _).heap.size=bk);(try dsimp only[yi,yj]);(try clear g);intro g)
 go_ret
 exact⟨rfl,G.below _⟩
set_option maxRecDepth 20000 in
set_option maxHeartbeats 2000000 in
theorem wide_index (m m2 n c a cp:Nat)(F:Frag)(x:Mx)(rb cb:Nat)(hc:c<m)(ha:a≤n)(hn:n≤1000)(w:World)(hr:RowsW w rb n 132 (fun r u s=>RowW m m2 F r u s) x)(hcb:w.cell? ⟨cb,0,none⟩=some (.int .i64 (c:Int))):
  Calls Tryz.prog 132 #[.slice (some ⟨rb,a,none⟩) (n-a) cp,.func (.func 133) #[] #[.pointer (some ⟨cb,0,none⟩)]] w fun e w'=>e=.returned (.int .i64 (idxV x n c a))∧Below w.heap.size w w':=by
 refine calls_b fun g=>?_
 obtain⟨d,rfl⟩:∃d,n=a+d:=⟨n-a,by omega⟩
 rw[Nat.add_sub_cancel_left]
 have HR:=Lib.hid hr
 have HC:=Lib.hid hcb
 have CN:=Lib.hid (fun r u s h w hs hcb=>wide_null m m2 c F r u s cb h hc w hs hcb)
 obtain⟨z,hz⟩:∃z,idxV x (a+d) c a=z:=⟨_,rfl⟩
 have HZ:=Lib.hid hz
 rw[hz]
 clear hz hr hcb
 go_enter Tryz.func132,Tryz.ntmps132
 go_wp2_with (with_reducible refine yq _ ?_;(try generalize (G.w _).heap.size=bk);(try dsimp only[yi,yj]);(try clear g);intro g)
 go_loopw [8] (fun i wr=>∃k:Nat,i=.int .i64 (k:Int)∧k≤d∧(∀j,a≤j→j<a+k→x j c=0)∧∃g:G w [] [] [heapOf w],wr=g.w) (fun i _=>d-(intOf i).toNat)
 case atStart=>exact⟨0,rfl,by omega,fun j h1 h2=>by omega,g,rfl⟩
 case round=>
  clear g
  obtain⟨k,rfl,hk,hall,g,rfl⟩:=hrel
  have HA:=Lib.hid hall
  clear hall
  by_cases hkd:k<d
  ·have hki:(k:Int)<(d:Int):=by omega
   obtain⟨u,s,h1,h2,h3⟩:=HR.out (a+k) (by omega)
   have EH:∀(M:List Blk) (g:G w [] M [heapOf w]),g.w.cell? ⟨rb,a+k,none⟩=some (.iface 132 u):=fun M g=>G.old g (List.mem_cons_self ..) h1
   have HQ:=Lib.hid h2
   have HL:=Lib.hid h3
   clear h1 h2 h3
   go_wp2_with (with_reducible refine yq _ ?_;(try generalize (G.w _).heap.size=bk);(try dsimp only[yi,yj]);(try clear g);intro g)
   refine(CN.out _ _ _ HQ.out _ (HL.out.old g (by simp)) (G.old g (by simp) HC.out)).mono ?_
   rintro e w1 ⟨rfl,hb⟩
   obtain⟨g1,rfl⟩:=G.call_ex _ hb
   clear hb
   (try clear g)
   revert g1
   intro g
   by_cases hx:x (a+k) c=0
   ·have hdx:decide (x (a+k) c≠0)=false:=by simp[hx]
    rw[hdx]
    go_wp2_with (with_reducible refine yq _ ?_;(try generalize (G.w _).heap.size=bk);(try dsimp only[yi,yj]);(try clear g);intro g)
    go_roundw
    case rel=>
     exact⟨k+1,by go_num,by omega,fun j h1 h2=>if h:j=a+k then h▸hx else HA.out j h1 (by omega),g,rfl⟩
    case measure=>simp[intOf];omega
   ·have hdx:decide (x (a+k) c≠0)=true:=by simp[hx]
    rw[hdx]
    go_wp2_with (with_reducible refine yq _ ?_;(try generalize (G.w _).heap.size=bk);(try dsimp only[yi,yj]);(try clear g);intro g)
    go_ret
    have e:findP x (a+d) c a=some (a+k):=findP_some_of (by omega) (by omega) hx (fun q h1 h2=>HA.out q h1 h2)
    have:z=(k:Int):=by
     have:=HZ.out
     unfold idxV at this
     rw[e] at this
     rw[←this]
     simp only[]
     omega
    exact⟨by rw[this];rfl,G.below _⟩
  ·obtain rfl:k=d:=by omega
   go_wp2_with (with_reducible refine yq _ ?_;(try generalize (G.w _).heap.size=bk);(try dsimp only[yi,yj]);(try clear g);intro g)
   go_ret
   have e:findP x (a+k) c a=none:=findP_none_of (fun q h1 h2=>HA.out q h1 h2)
   have:z= -1:=by
    have:=HZ.out
    unfold idxV at this
    rw[e] at this
    exact this.symm
   exact⟨by rw[this];rfl,G.below _⟩
end Go.Proofs.YthhbbnfnejjpiaaGreatDoor
