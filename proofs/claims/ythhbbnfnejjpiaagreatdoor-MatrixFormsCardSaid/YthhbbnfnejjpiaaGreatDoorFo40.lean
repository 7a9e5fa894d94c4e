/- Plain facts and contracts of functions of the program, out of walks. Their conditions stand ahead of each. -/
import Derived.Test.YthhbbnfnejjpiaaGreatDoorFo28
import Derived.Test.YthhbbnfnejjpiaaGreatDoorFo36
import Derived.Test.YthhbbnfnejjpiaaGreatDoorFo37
import Derived.Test.YthhbbnfnejjpiaaGreatDoorFo38
import Derived.Test.YthhbbnfnejjpiaaGreatDoorFo39
import Derived.Below
import Derived.BigQuiet
import Derived.Deep.DeepCutAuto
import Derived.Deep.Draws
import Derived.Deep.LoopGhost
import Derived.Deep.QuietTactic
import Derived.Deep.RegionHeld3
import Derived.Deep.RegionLaw
import Derived.Defers
import Derived.Great.BuildSlice
import Derived.Laws.BytesString
import Derived.Laws.Cells
import Derived.Laws.Concat
import Derived.Laws.CopyOwn
import Derived.Laws.CopyRow
import Derived.Laws.NewBlocks
import Derived.Laws.OwnMore
import Derived.Laws.Pointers
import Derived.Laws.Rows
import Derived.Lib.BitFns
import Derived.Lib.Hide
import Derived.Lib.ItoaNum
import Derived.Lib.SliceRun
import Derived.Lib.TrailingZeros
import Derived.LoopIn
import Derived.LoopNIn
import Derived.Maps.AppendAt
import Derived.OrdersHeld
import Derived.OrdersIn
import Derived.OwnWalk
import Derived.OwnWalkIn
import Derived.RangeFuncBound
import Derived.RangeFuncBox
import Derived.RangeFuncCalls
import Derived.RangeFuncLeaves
import Derived.RangeFuncNested
import Derived.RangeFuncWrites
import Derived.RowKit3
import Derived.Shelf.Abstract
import Derived.Shelf.RegionOpen
import Derived.Shelf.Spec.TrailingZeros
import Derived.StillTactics
import Derived.StillTailTactics
import Derived.TacticsInMore
import Derived.Test.YthhbbnfnejjpiaaGreatDoorProg
import Derived.WalkKit
import Derived.WalkLawsBesides
import Derived.WalkMore
import Derived.WalkSpells
set_option linter.unusedVariables false
set_option linter.unusedSimpArgs false
set_option exponentiation.threshold 10000
namespace Go.Proofs.YthhbbnfnejjpiaaGreatDoor
open Go.RowKit GW NL MX
set_option maxRecDepth 100000 in
set_option maxHeartbeats 16000000 in
theorem rForm_r (F0:Frag)(n:Nat)(a:Mx)(x:Nat→Rat)(A B:Option Addr)(c0 cB:Nat)(w:World)(hF:F0.sub w)(hA:F0.Mt A c0 n (fun _=>n) (rawM a))(hB:F0.Rw B cB n (rawR x))(n1:1≤n)(n2:n≤4)(ba:∀i,i<n→∀k,k<n→Bd 64 (a i k))(bx:∀i,i<n→Bd 64 (x i)):
  Calls Tryz.prog 91 #[.slice A n c0,.slice B n cB] w (RT1 (rawOf (quadM n a x)) w):=by
 refine calls_f hF fun g=>?_
 have hmul:∀i,i<n→∀k,k<n→Qn 128 128 (x i*a i k):=fun i hi k hk=>(Bd.qn (bx i hi)).mul (Bd.qn (ba i hi k hk))
 have hprd:∀i,i<n→∀k,k<n→Qn 192 192 (x i*a i k*x k):=fun i hi k hk=>(hmul i hi k hk).mul (Bd.qn (bx k hk))
 have hsum:∀i,i<n→∀k,k<n→Bd 8192 (formP n a x i k):=fun i hi k hk=>by
  have h1:i*n≤3*n:=Nat.mul_le_mul_right n (by omega)
  exact(formP_qn ba bx i (by omega) k (by omega) (.inl hi)).bd' (by omega) (by omega)
 have CZ:=Lib.hid (fun w=>rzero_r w)
 have CT1:=Lib.hid (fun i (hi:i<n) k (hk:k<n) p q r p' q' r' w u v=>rqTimes_r (x i) (a i k) ((Bd.qn (bx i hi)).bd' (by decide) (by decide)) ((Bd.qn (ba i hi k hk)).bd' (by decide) (by decide)) p q r p' q' r' w u v)
 have CT2:=Lib.hid (fun i (hi:i<n) k (hk:k<n) p q r p' q' r' w u v=>rqTimes_r (x i*a i k) (x k) ((hmul i hi k hk).bd' (by decide) (by decide)) ((Bd.qn (bx k hk)).bd' (by decide) (by decide)) p q r p' q' r' w u v)
 have CPL:=Lib.hid (fun i (hi:i<n) k (hk:k<n) p q r p' q' r' w u v=>rqPlus_r (formP n a x i k) (x i*a i k*x k) (hsum i hi k hk) ((hprd i hi k hk).bd' (by decide) (by decide)) p q r p' q' r' w u v)
 unfold RT1 at CZ CT1 CT2 CPL
 have HZ0:Hid (formP n a x 0 0=0):=Lib.hid (formP_zero n a x)
 have HEND:Hid (formP n a x n 0=quadM n a x):=Lib.hid (formP_end n a x)
 obtain⟨b,o,rfl,hrow⟩:=hA.rowAt n1
 have HR:=Lib.hid hrow
 obtain⟨bb,ob,rfl,hnb⟩:=hB.num n1
 have HNB:=Lib.hid hnb
 have t1:0<n:=by omega
 have t2:(0:Int)<(n:Int):=by omega
 clear hA hB hrow hnb hF ba bx hmul hprd hsum
 go_enter Tryz.func91,Tryz.ntmps91
 go_wp2_with (with_reducible refine yq _ ?_;(try generalize (G.w _).heap.size=bk);(try dsimp only[yi,yj]);(try clear g);intro g)
 obtain⟨rb,rfl⟩:∃rb,rb=bk:=⟨_,rfl⟩
 (try(refine cmark _ ?_;(try dsimp only[yi,yj]);(try clear g);intro g))
 refine(CZ.out _).mono ?_
 rintro e w1 ⟨pz,qz,rz,Fz,rfl,hz,hn⟩
 have hnnz:=fun k o hk=>Nat.le_trans g.chg.size (hn.new k o hk)
 obtain⟨sz,Az,nz,cz,Bz,dz,kz,rfl,rfl,rfl⟩:=hz.shape
 obtain⟨g1,rfl⟩:=G.new_ex _ hn
 clear hn
 (try clear g)
 revert g1
 intro g
 go_wp2_with (with_reducible refine yq _ ?_;(try generalize (G.w _).heap.size=bk);(try dsimp only[yi,yj]);(try clear g);intro g)
 obtain⟨sb,rfl⟩:∃sb,sb=bk:=⟨_,rfl⟩
 have HS0:Hid (Fz.Rt (.bool sz) (.slice Az nz cz) (.slice Bz dz kz) (rawOf (formP n a x 0 0))):=Lib.hid (by rw[HZ0.out];exact hz)
 have HNW0:Hid (Fz.Nw w):=Lib.hid hnnz
 clear hz hnnz HZ0 CZ
 go_loopw [6] (fun iv wr=>∃i:Nat,iv=.int .i64 (i:Int)∧i≤n∧∃(F:Frag) (p q r:Value),Hid (F.Rt p q r (rawOf (formP n a x i 0)))∧Hid (F.Nw w)∧∃g:G w [] [(sb,43,[p,q,r]),(rb,43,[.bool false,.slice none 0 0,.slice none 0 0])] [F,F0],wr=g.w) (fun iv _=>n-(intOf iv).toNat)
 case atStart=>exact⟨0,rfl,by omega,Fz,_,_,_,HS0,HNW0,_,rfl⟩
 case round=>
  clear g HS0 HNW0
  obtain⟨i,rfl,hi',F,p,q,r,HS,HNW,g,rfl⟩:=hrel
  by_cases hin:i<n
  ·have hii:(i:Int)<(n:Int):=by omega
   obtain⟨Bi,ki,hhi,hrwi⟩:=HR.out i hin
   obtain⟨bi,oi,rfl,hni⟩:=hrwi.num n1
   have EHI:∀(M:List Blk) (I:List Frag) (g:G w [] M I) (hF:InF F0 I),g.w.cell? ⟨b,o+i,none⟩=some (.slice (some ⟨bi,oi,none⟩) n ki):=fun M I g hF=>hhi _ _ _ _ g hF
   have HNI:=Lib.hid hni
   clear hhi hrwi hni
   go_wp2_with (with_reducible refine yq _ ?_;(try generalize (G.w _).heap.size=bk);(try dsimp only[yi,yj]);(try clear g);intro g)
   go_loopw [7] (fun kv wr=>∃k:Nat,kv=.int .i64 (k:Int)∧k≤n∧∃(F:Frag) (p q r:Value),Hid (F.Rt p q r (rawOf (formP n a x i k)))∧Hid (F.Nw w)∧∃g:G w [] [(sb,43,[p,q,r]),(rb,43,[.bool false,.slice none 0 0,.slice none 0 0])] [F,F0],wr=g.w) (fun kv _=>n-(intOf kv).toNat)
   case atStart=>exact⟨0,rfl,by omega,F,p,q,r,HS,HNW,g,rfl⟩
   case round=>
    clear g HS HNW
    obtain⟨k,rfl,hk',F,p,q,r,HS,HNW,g,rfl⟩:=hrel
    by_cases hkn:k<n
    ·have hki:(k:Int)<(n:Int):=by omega
     obtain⟨s5,P5,n5,d5,Q5,m5,e5,rfl,rfl,rfl⟩:=HS.out.shape
     obtain⟨p,q,r,h3,hrt⟩:=HNI.out k hkn
     obtain⟨sx,Px,nx,dx,Qx,mx,ex,rfl,rfl,rfl⟩:=hrt.shape
     have X0:∀(M:List Blk) (I:List Frag) (g:G w [] M I) (hF:InF F0 I),g.w.cell? ⟨bi,oi+k*3,none⟩=some (.bool sx):=fun M I g hF=>(h3 _ _ _ _ g hF).1
     have X1:∀(M:List Blk) (I:List Frag) (g:G w [] M I) (hF:InF F0 I),g.w.cell? ⟨bi,oi+k*3+1,none⟩=some (.slice Px nx dx):=fun M I g hF=>(h3 _ _ _ _ g hF).2.1
     have X2:∀(M:List Blk) (I:List Frag) (g:G w [] M I) (hF:InF F0 I),g.w.cell? ⟨bi,oi+k*3+2,none⟩=some (.slice Qx mx ex):=fun M I g hF=>(h3 _ _ _ _ g hF).2.2
     obtain⟨p,q,r,h4,hrt2⟩:=HNB.out i hin
     obtain⟨sy,Py,ny,dy,Qy,my,ey,rfl,rfl,rfl⟩:=hrt2.shape
     have Y0:∀(M:List Blk) (I:List Frag) (g:G w [] M I) (hF:InF F0 I),g.w.cell? ⟨bb,ob+i*3,none⟩=some (.bool sy):=fun M I g hF=>(h4 _ _ _ _ g hF).1
     have Y1:∀(M:List Blk) (I:List Frag) (g:G w [] M I) (hF:InF F0 I),g.w.cell? ⟨bb,ob+i*3+1,none⟩=some (.slice Py ny dy):=fun M I g hF=>(h4 _ _ _ _ g hF).2.1
     have Y2:∀(M:List Blk) (I:List Frag) (g:G w [] M I) (hF:InF F0 I),g.w.cell? ⟨bb,ob+i*3+2,none⟩=some (.slice Qy my ey):=fun M I g hF=>(h4 _ _ _ _ g hF).2.2
     obtain⟨p,q,r,h6,hrt3⟩:=HNB.out k hkn
     obtain⟨sz,Pz,nz,dz,Qz,mz,ez,rfl,rfl,rfl⟩:=hrt3.shape
     have Z0:∀(M:List Blk) (I:List Frag) (g:G w [] M I) (hF:InF F0 I),g.w.cell? ⟨bb,ob+k*3,none⟩=some (.bool sz):=fun M I g hF=>(h6 _ _ _ _ g hF).1
     have Z1:∀(M:List Blk) (I:List Frag) (g:G w [] M I) (hF:InF F0 I),g.w.cell? ⟨bb,ob+k*3+1,none⟩=some (.slice Pz nz dz):=fun M I g hF=>(h6 _ _ _ _ g hF).2.1
     have Z2:∀(M:List Blk) (I:List Frag) (g:G w [] M I) (hF:InF F0 I),g.w.cell? ⟨bb,ob+k*3+2,none⟩=some (.slice Qz mz ez):=fun M I g hF=>(h6 _ _ _ _ g hF).2.2
     have HX:=Lib.hid hrt
     have HY:=Lib.hid hrt2
     have HZ:=Lib.hid hrt3
     clear h3 h4 h6 hrt hrt2 hrt3
     go_upto_region 8 with(with_reducible refine yq _ ?_;(try generalize (G.w _).heap.size=bk);(try dsimp only[yi,yj]);(try clear g);intro g)
     ((try simp only[G.drew_eq,G.drewN_eq]);(refine yq _ ?_;(try generalize (G.w _).heap.size=bk);(try dsimp only[yi,yj]);(try clear g);intro g))
     refine wp_region_held_drew (S:=(fun w'=>(w'.cell? ⟨bb,ob+i*3,none⟩=some (.bool sy)∧w'.cell? ⟨bb,ob+i*3+1,none⟩=some (.slice Py ny dy)∧w'.cell? ⟨bb,ob+i*3+2,none⟩=some (.slice Qy my ey))∧w'.cell? ⟨b,o+i,none⟩=some (.slice (some ⟨bi,oi,none⟩) n ki)∧(w'.cell? ⟨bi,oi+k*3,none⟩=some (.bool sx)∧w'.cell? ⟨bi,oi+k*3+1,none⟩=some (.slice Px nx dx)∧w'.cell? ⟨bi,oi+k*3+2,none⟩=some (.slice Qx mx ex))∧w'.cell? ⟨bb,ob+k*3,none⟩=some (.bool sz)∧w'.cell? ⟨bb,ob+k*3+1,none⟩=some (.slice Pz nz dz)∧w'.cell? ⟨bb,ob+k*3+2,none⟩=some (.slice Qz mz ez))) (by kernel_rfl) (by(simp[go_sem,InF.t2,InF.t3,InF.t4, *];done)) (fun hHeld=>?_)
     refine tk0 [1,2,3,4,5,6,7,8,9,10,11,13,14,15,16] ?_
     iterate 15 (refine tkc rfl (by kernel_rfl) (fun _ _ _ h=>h) (by rfl) ‹_› (by intro w hSw;(try dsimp only at hSw);go_simp;(try with_reducible rfl)) ?_;try simp only[Act.put,yk,yl,yn,yo,yi,yj])
     refine tkn ?_
     refine wpAnyH_ready (rs:=[0,12]) (by kernel_rfl) (by simp) ?_
     refine AllReadyH.cons rfl (fun K hK=>?_) (AllReadyH.cons rfl (fun K hK=>?_) AllReadyH.nil)
     ·(try simp only[Act.put,yk,yl,yn,yo,yi,yj])
      go_simp
      refine hK.out _ _ (by(simp[go_sem,InF.t2,InF.t3,InF.t4, *];done)) (fun hHeld=>?_)
      clear hK K
      (try simp only[Act.put,yk,yl,yn,yo,yi,yj])
      refine wpAnyH_ready (rs:=[12]) (by kernel_rfl) (by simp) ?_
      refine AllReadyH.cons rfl (fun K hK=>?_) AllReadyH.nil
      ·(try simp only[Act.put,yk,yl,yn,yo,yi,yj])
       go_simp
       go_at_call 48
       (try(refine cmark _ ?_;(try dsimp only[yi,yj]);(try clear g);intro g))
       refine(CT1.out i hin k hkn _ _ _ _ _ _ _ (G.rtI g (f:=F0) (by simp) HY.out) (G.rtI g (f:=F0) (by simp) HX.out)).mono ?_
       rintro e w1 ⟨pt,qt,rt,Ft,rfl,ht,hn⟩
       have hnnt:=fun k o hk=>Nat.le_trans g.chg.size (hn.new k o hk)
       obtain⟨st,At,nt,ct,Bt,dt,kt,rfl,rfl,rfl⟩:=ht.shape
       obtain⟨g1,rfl⟩:=G.new_ex _ hn
       clear hn
       (try clear g)
       revert g1
       intro g
       refine hK.out _ _ (by(simp[go_sem,InF.t2,InF.t3,InF.t4, *];done)) (fun hHeld=>?_)
       clear hK K
       (try simp only[Act.put,yk,yl,yn,yo,yi,yj])
       refine wpAnyH_ready (rs:=[17]) (by kernel_rfl) (by simp) ?_
       refine AllReadyH.cons rfl (fun K hK=>?_) AllReadyH.nil
       ·(try simp only[Act.put,yk,yl,yn,yo,yi,yj])
        go_simp
        go_at_call 48
        (try(refine cmark _ ?_;(try dsimp only[yi,yj]);(try clear g);intro g))
        refine(CT2.out i hin k hkn _ _ _ _ _ _ _ (G.rtI g (by simp) ht) (G.rtI g (f:=F0) (by simp) HZ.out)).mono ?_
        rintro e w1 ⟨pu,qu,ru,Fu,rfl,hu,hn⟩
        have hnnu:=fun k o hk=>Nat.le_trans g.chg.size (hn.new k o hk)
        obtain⟨su,Au,nu,cu,Bu,du,ku,rfl,rfl,rfl⟩:=hu.shape
        obtain⟨g1,rfl⟩:=G.new_ex _ hn
        clear hn
        (try clear g)
        revert g1
        intro g
        refine hK.out _ _ (by(simp[go_sem,InF.t2,InF.t3,InF.t4, *];done)) (fun hHeld=>?_)
        clear hK K
        (try simp only[Act.put,yk,yl,yn,yo,yi,yj])
        refine wpAnyH_ready (rs:=[18]) (by kernel_rfl) (by simp) ?_
        refine AllReadyH.cons rfl (fun K hK=>?_) AllReadyH.nil
        ·(try simp only[Act.put,yk,yl,yn,yo,yi,yj])
         go_simp
         go_at_call 74
         (try(refine cmark _ ?_;(try dsimp only[yi,yj]);(try clear g);intro g))
         refine(CPL.out i hin k hkn _ _ _ _ _ _ _ (G.rtI g (f:=F) (by simp) HS.out) (G.rtI g (by simp) hu)).mono ?_
         rintro e w1 ⟨pv,qv,rv,Fv,rfl,hv,hn⟩
         have hnnv:=fun k o hk=>Nat.le_trans g.chg.size (hn.new k o hk)
         obtain⟨sv,Av,nv,cv,Bv,dv,kv,rfl,rfl,rfl⟩:=hv.shape
         obtain⟨g1,rfl⟩:=G.new_ex _ hn
         clear hn
         (try clear g)
         revert g1
         intro g
         refine hK.out _ _ (by(simp[go_sem,InF.t2,InF.t3,InF.t4, *];done)) (fun hHeld=>?_)
         clear hK K
         (try simp only[Act.put,yk,yl,yn,yo,yi,yj])
         refine wpAnyH_ready (rs:=[19]) (by kernel_rfl) (by simp) ?_
         refine AllReadyH.cons rfl (fun K hK=>?_) AllReadyH.nil
         ·(try simp only[Act.put,yk,yl,yn,yo,yi,yj])
          go_simp
          refine hK.out _ _ (by(simp[go_sem,InF.t2,InF.t3,InF.t4, *];done)) (fun hHeld=>?_)
          clear hK K
          (try simp only[Act.put,yk,yl,yn,yo,yi,yj])
          refine wpAnyH_done (by kernel_rfl) ?_ _
          (as_aux_lemma=>
           (try clear hHeld)
           ((try simp only[G.drew_eq,G.drewN_eq]);(refine yq _ ?_;(try generalize (G.w _).heap.size=bk);(try dsimp only[yi,yj]);(try clear g);intro g))
           go_wp2_with (with_reducible refine yq _ ?_;(try generalize (G.w _).heap.size=bk);(try dsimp only[yi,yj]);(try clear g);intro g)
           rw[formP_next] at hv
           obtain⟨g2,e2⟩:=g.lessI (I':=[Fv,F0]) (by simp)
           rw[e2]
           go_roundw
           case rel=>exact⟨k+1,by go_num,by omega,Fv,_,_,_,Lib.hid hv,Lib.hid hnnv,g2,rfl⟩
           case measure=>simp[intOf]<;>omega)
     ·(try simp only[Act.put,yk,yl,yn,yo,yi,yj])
      go_simp
      go_at_call 48
      (try(refine cmark _ ?_;(try dsimp only[yi,yj]);(try clear g);intro g))
      refine(CT1.out i hin k hkn _ _ _ _ _ _ _ (G.rtI g (f:=F0) (by simp) HY.out) (G.rtI g (f:=F0) (by simp) HX.out)).mono ?_
      rintro e w1 ⟨pt,qt,rt,Ft,rfl,ht,hn⟩
      have hnnt:=fun k o hk=>Nat.le_trans g.chg.size (hn.new k o hk)
      obtain⟨st,At,nt,ct,Bt,dt,kt,rfl,rfl,rfl⟩:=ht.shape
      obtain⟨g1,rfl⟩:=G.new_ex _ hn
      clear hn
      (try clear g)
      revert g1
      intro g
      refine hK.out _ _ (by(simp[go_sem,InF.t2,InF.t3,InF.t4, *];done)) (fun hHeld=>?_)
      clear hK K
      (try simp only[Act.put,yk,yl,yn,yo,yi,yj])
      refine wpAnyH_ready (rs:=[0,17]) (by kernel_rfl) (by simp) ?_
      refine AllReadyH.cons rfl (fun K hK=>?_) (AllReadyH.cons rfl (fun K hK=>?_) AllReadyH.nil)
      ·(try simp only[Act.put,yk,yl,yn,yo,yi,yj])
       go_simp
       refine hK.out _ _ (by(simp[go_sem,InF.t2,InF.t3,InF.t4, *];done)) (fun hHeld=>?_)
       clear hK K
       (try simp only[Act.put,yk,yl,yn,yo,yi,yj])
       refine wpAnyH_ready (rs:=[17]) (by kernel_rfl) (by simp) ?_
       refine AllReadyH.cons rfl (fun K hK=>?_) AllReadyH.nil
       ·(try simp only[Act.put,yk,yl,yn,yo,yi,yj])
        go_simp
        go_at_call 48
        (try(refine cmark _ ?_;(try dsimp only[yi,yj]);(try clear g);intro g))
        refine(CT2.out i hin k hkn _ _ _ _ _ _ _ (G.rtI g (by simp) ht) (G.rtI g (f:=F0) (by simp) HZ.out)).mono ?_
        rintro e w1 ⟨pu,qu,ru,Fu,rfl,hu,hn⟩
        have hnnu:=fun k o hk=>Nat.le_trans g.chg.size (hn.new k o hk)
        obtain⟨su,Au,nu,cu,Bu,du,ku,rfl,rfl,rfl⟩:=hu.shape
        obtain⟨g1,rfl⟩:=G.new_ex _ hn
        clear hn
        (try clear g)
        revert g1
        intro g
        refine hK.out _ _ (by(simp[go_sem,InF.t2,InF.t3,InF.t4, *];done)) (fun hHeld=>?_)
        clear hK K
        (try simp only[Act.put,yk,yl,yn,yo,yi,yj])
        refine wpAnyH_ready (rs:=[18]) (by kernel_rfl) (by simp) ?_
        refine AllReadyH.cons rfl (fun K hK=>?_) AllReadyH.nil
        ·(try simp only[Act.put,yk,yl,yn,yo,yi,yj])
         go_simp
         go_at_call 74
         (try(refine cmark _ ?_;(try dsimp only[yi,yj]);(try clear g);intro g))
         refine(CPL.out i hin k hkn _ _ _ _ _ _ _ (G.rtI g (f:=F) (by simp) HS.out) (G.rtI g (by simp) hu)).mono ?_
         rintro e w1 ⟨pv,qv,rv,Fv,rfl,hv,hn⟩
         have hnnv:=fun k o hk=>Nat.le_trans g.chg.size (hn.new k o hk)
         obtain⟨sv,Av,nv,cv,Bv,dv,kv,rfl,rfl,rfl⟩:=hv.shape
         obtain⟨g1,rfl⟩:=G.new_ex _ hn
         clear hn
         (try clear g)
         revert g1
         intro g
         refine hK.out _ _ (by(simp[go_sem,InF.t2,InF.t3,InF.t4, *];done)) (fun hHeld=>?_)
         clear hK K
         (try simp only[Act.put,yk,yl,yn,yo,yi,yj])
         refine wpAnyH_ready (rs:=[19]) (by kernel_rfl) (by simp) ?_
         refine AllReadyH.cons rfl (fun K hK=>?_) AllReadyH.nil
         ·(try simp only[Act.put,yk,yl,yn,yo,yi,yj])
          go_simp
          refine hK.out _ _ (by(simp[go_sem,InF.t2,InF.t3,InF.t4, *];done)) (fun hHeld=>?_)
          clear hK K
          (try simp only[Act.put,yk,yl,yn,yo,yi,yj])
          refine wpAnyH_done (by kernel_rfl) ?_ _
          (as_aux_lemma=>
           (try clear hHeld)
           ((try simp only[G.drew_eq,G.drewN_eq]);(refine yq _ ?_;(try generalize (G.w _).heap.size=bk);(try dsimp only[yi,yj]);(try clear g);intro g))
           go_wp2_with (with_reducible refine yq _ ?_;(try generalize (G.w _).heap.size=bk);(try dsimp only[yi,yj]);(try clear g);intro g)
           rw[formP_next] at hv
           obtain⟨g2,e2⟩:=g.lessI (I':=[Fv,F0]) (by simp)
           rw[e2]
           go_roundw
           case rel=>exact⟨k+1,by go_num,by omega,Fv,_,_,_,Lib.hid hv,Lib.hid hnnv,g2,rfl⟩
           case measure=>simp[intOf]<;>omega)
      ·(try simp only[Act.put,yk,yl,yn,yo,yi,yj])
       go_simp
       go_at_call 48
       (try(refine cmark _ ?_;(try dsimp only[yi,yj]);(try clear g);intro g))
       refine(CT2.out i hin k hkn _ _ _ _ _ _ _ (G.rtI g (by simp) ht) (G.rtI g (f:=F0) (by simp) HZ.out)).mono ?_
       rintro e w1 ⟨pu,qu,ru,Fu,rfl,hu,hn⟩
       have hnnu:=fun k o hk=>Nat.le_trans g.chg.size (hn.new k o hk)
       obtain⟨su,Au,nu,cu,Bu,du,ku,rfl,rfl,rfl⟩:=hu.shape
       obtain⟨g1,rfl⟩:=G.new_ex _ hn
       clear hn
       (try clear g)
       revert g1
       intro g
       refine hK.out _ _ (by(simp[go_sem,InF.t2,InF.t3,InF.t4, *];done)) (fun hHeld=>?_)
       clear hK K
       (try simp only[Act.put,yk,yl,yn,yo,yi,yj])
       refine wpAnyH_ready (rs:=[0]) (by kernel_rfl) (by simp) ?_
       refine AllReadyH.cons rfl (fun K hK=>?_) AllReadyH.nil
       ·(try simp only[Act.put,yk,yl,yn,yo,yi,yj])
        go_simp
        refine hK.out _ _ (by(simp[go_sem,InF.t2,InF.t3,InF.t4, *];done)) (fun hHeld=>?_)
        clear hK K
        (try simp only[Act.put,yk,yl,yn,yo,yi,yj])
        refine wpAnyH_ready (rs:=[18]) (by kernel_rfl) (by simp) ?_
        refine AllReadyH.cons rfl (fun K hK=>?_) AllReadyH.nil
        ·(try simp only[Act.put,yk,yl,yn,yo,yi,yj])
         go_simp
         go_at_call 74
         (try(refine cmark _ ?_;(try dsimp only[yi,yj]);(try clear g);intro g))
         refine(CPL.out i hin k hkn _ _ _ _ _ _ _ (G.rtI g (f:=F) (by simp) HS.out) (G.rtI g (by simp) hu)).mono ?_
         rintro e w1 ⟨pv,qv,rv,Fv,rfl,hv,hn⟩
         have hnnv:=fun k o hk=>Nat.le_trans g.chg.size (hn.new k o hk)
         obtain⟨sv,Av,nv,cv,Bv,dv,kv,rfl,rfl,rfl⟩:=hv.shape
         obtain⟨g1,rfl⟩:=G.new_ex _ hn
         clear hn
         (try clear g)
         revert g1
         intro g
         refine hK.out _ _ (by(simp[go_sem,InF.t2,InF.t3,InF.t4, *];done)) (fun hHeld=>?_)
         clear hK K
         (try simp only[Act.put,yk,yl,yn,yo,yi,yj])
         refine wpAnyH_ready (rs:=[19]) (by kernel_rfl) (by simp) ?_
         refine AllReadyH.cons rfl (fun K hK=>?_) AllReadyH.nil
         ·(try simp only[Act.put,yk,yl,yn,yo,yi,yj])
          go_simp
          refine hK.out _ _ (by(simp[go_sem,InF.t2,InF.t3,InF.t4, *];done)) (fun hHeld=>?_)
          clear hK K
          (try simp only[Act.put,yk,yl,yn,yo,yi,yj])
          refine wpAnyH_done (by kernel_rfl) ?_ _
          (as_aux_lemma=>
           (try clear hHeld)
           ((try simp only[G.drew_eq,G.drewN_eq]);(refine yq _ ?_;(try generalize (G.w _).heap.size=bk);(try dsimp only[yi,yj]);(try clear g);intro g))
           go_wp2_with (with_reducible refine yq _ ?_;(try generalize (G.w _).heap.size=bk);(try dsimp only[yi,yj]);(try clear g);intro g)
           rw[formP_next] at hv
           obtain⟨g2,e2⟩:=g.lessI (I':=[Fv,F0]) (by simp)
           rw[e2]
           go_roundw
           case rel=>exact⟨k+1,by go_num,by omega,Fv,_,_,_,Lib.hid hv,Lib.hid hnnv,g2,rfl⟩
           case measure=>simp[intOf]<;>omega)
    ·obtain rfl:n=k:=by omega
     go_wp2_with (with_reducible refine yq _ ?_;(try generalize (G.w _).heap.size=bk);(try dsimp only[yi,yj]);(try clear g);intro g)
     go_roundw
     case rel=>exact⟨i+1,by go_num,by omega,F,p,q,r,Lib.hid (by rw[←formP_row];exact HS.out),HNW,g,rfl⟩
     case measure=>simp[intOf]<;>omega
  ·obtain rfl:n=i:=by omega
   obtain⟨s5,P5,n5,d5,Q5,m5,e5,rfl,rfl,rfl⟩:=HS.out.shape
   go_wp2_with (with_reducible refine yq _ ?_;(try generalize (G.w _).heap.size=bk);(try dsimp only[yi,yj]);(try clear g);intro g)
   refine bodyPost_ret (v:=.agg #[.bool s5,.slice P5 n5 d5,.slice Q5 m5 e5]) (by simp[results,Tryz.results91,go_sem]) rfl ?_
   exact⟨_,_,_,F,rfl,by rw[←HEND.out];exact HS.out,G.newF _ HNW.out⟩
/-- symmetric and positive definite -/
def FacOK (n:Nat)(x:Mx):Prop:=(∀i,i<n→∀k,k≤i→x i k=x k i)∧∀k,k<n→0<facD (lowM x) k
theorem addr_add (b o j:Nat):(⟨b,o,none⟩:Addr).add j=⟨b,o+j,none⟩:=by
 unfold Addr.add
 split
 ·next h0=>subst h0;rfl
 ·rfl
theorem Mt.heads {f:Frag}{A:Option Addr}{c n:Nat}{m:Nat→Nat}{x:Nat→Nat→Raw}(h:f.Mt A c n m x)(h0:0<n):∃(b o:Nat) (hs:List Value),A=some ⟨b,o,none⟩∧hs.length=n∧(∀u∈hs,u.oneCell'=true)∧(∀(w0:World) (X:List Nat) (M:List Blk) (I:List Frag) (g:G w0 X M I),InF f I→∀j u,hs[j]?=some u→g.w.cell? ((⟨b,o,none⟩:Addr).add j)=some u)∧∀i,i<n→∃B k,hs[i]?=some (.slice B (m i) k)∧f.Rw B k (m i) (x i):=by
 obtain⟨b,o,rfl,hr⟩:=h.rowAt h0
 have hn':∀i:Nat,∃t:Option Addr×Nat,i<n→f.C1 b (o+i) (.slice t.1 (m i) t.2)∧f.Rw t.1 t.2 (m i) (x i):=fun i=>by
  by_cases hi:i<n
  ·obtain⟨B,k,h1,h2⟩:=hr i hi
   exact⟨(B,k),fun _=>⟨h1,h2⟩⟩
  ·exact⟨(none,0),fun h=>absurd h hi⟩
 have hc:∃t:Nat→Option Addr×Nat,∀i,i<n→f.C1 b (o+i) (.slice (t i).1 (m i) (t i).2)∧f.Rw (t i).1 (t i).2 (m i) (x i):=⟨fun j=>(hn' j).choose,fun j hj=>(hn' j).choose_spec hj⟩
 obtain⟨t,ht⟩:=hc
 refine⟨b,o,(List.range n).map (fun i=>Value.slice (t i).1 (m i) (t i).2),rfl,by simp,?_,?_,fun i hi=>⟨_,_,by simp[hi],(ht i hi).2⟩⟩
 ·intro u hu
  obtain⟨i,_,rfl⟩:=List.mem_map.1 hu
  rfl
 ·intro w0 X M I g hI j u hu
  have hj:j<n:=by
   have:=(List.getElem?_eq_some_iff.1 hu).1
   simpa using this
  have hu2:Value.slice (t j).1 (m j) (t j).2=u:=by simpa [hj] using hu
  subst hu2
  rw[addr_add]
  exact(ht j hj).1 _ _ _ _ g hI
/-- two values and an error -/
def RErrF (E:Int)(w:World)(e:Ending)(w':World):Prop:=e=.returned (.tuple #[.slice none 0 0,.slice none 0 0,.int .i64 E])∧Below w.heap.size w w'
/-- a truth and an error -/
def RErrB (E:Int)(d:Bool)(w:World)(e:Ending)(w':World):Prop:=e=.returned (.tuple #[.bool d,.int .i64 E])∧Below w.heap.size w w'
/-- the factors and an error -/
def RFO (F0:Frag)(E:Int)(N:Nat)(Z:Mx)(z:Nat→Rat)(w:World)(e:Ending)(w':World):Prop:=∃A c B k H,e=.returned (.tuple #[.slice A N c,.slice B N k,.int .i64 E])∧Frag.Mt H A c N (fun _=>N) (rawM Z)∧Frag.Rw H B k N (rawR z)∧NewOr F0 w w' H
theorem RFO.err {F0:Frag}{E:Int}{w w':World}{e:Ending}(h:RErrF E w e w'):RFO F0 E 0 (fun _ _=>0) (fun _=>0) w e w':=⟨Option.none,0,Option.none,0,fun _=>Option.none,h.1,Frag.Mt.nil _ _ _ _,Frag.Rw.nil _ _ _,NewOr.none h.2⟩
set_option maxRecDepth 20000 in
theorem rDefinite_e (n:Nat)(m:Nat→Nat)(x:Nat→Nat→Raw)(A:Option Addr)(c:Nat)(E:Int)(w:World)(hA:(heapOf w).Mt A c n m x)(hE:sqE n m x=E)(h0:E≠0):
  Calls Tryz.prog 40 #[.slice A n c] w (RErrB E false w):=by
 refine calls_b fun g=>?_
 unfold RErrB
 have HA:=Lib.hid hA
 have CC:=Lib.hid (fun w h=>rsquare_any n m x A c w h)
 rw[hE] at CC
 have heb:(E==0)=false:=by simpa using h0
 have hen:(E !=0)=true:=by simpa using h0
 clear hA hE
 go_enter Tryz.func40,Tryz.ntmps40
 go_wp2_with (with_reducible refine yq _ ?_;(try generalize (G.w _).heap.size=bk);(try dsimp only[yi,yj]);(try clear g);intro g)
 refine(CC.out _ (HA.out.mono (g.sub _ (by simp)))).mono ?_
 rintro e w1 ⟨rfl,hb⟩
 obtain⟨g1,rfl⟩:=G.call_ex _ hb
 clear hb
 (try clear g)
 revert g1
 intro g
 go_wp2_with (with_reducible refine yq _ ?_;(try generalize (G.w _).heap.size=bk);(try dsimp only[yi,yj]);(try clear g);intro g)
 refine bodyPost_ret (v:=.tuple #[.bool false,.int .i64 E]) (by simp[results,Tryz.results40,go_sem]) rfl ?_
 exact⟨rfl,G.below _⟩
set_option maxRecDepth 20000 in
theorem rFactor_e (n:Nat)(m:Nat→Nat)(x:Nat→Nat→Raw)(A:Option Addr)(c:Nat)(E:Int)(w:World)(hA:(heapOf w).Mt A c n m x)(hE:sqE n m x=E)(h0:E≠0):
  Calls Tryz.prog 42 #[.slice A n c] w (RErrF E w):=by
 refine calls_b fun g=>?_
 unfold RErrF
 have HA:=Lib.hid hA
 have CC:=Lib.hid (fun w h=>rsquare_any n m x A c w h)
 rw[hE] at CC
 have heb:(E==0)=false:=by simpa using h0
 have hen:(E !=0)=true:=by simpa using h0
 clear hA hE
 go_enter Tryz.func42,Tryz.ntmps42
 go_wp2_with (with_reducible refine yq _ ?_;(try generalize (G.w _).heap.size=bk);(try dsimp only[yi,yj]);(try clear g);intro g)
 refine(CC.out _ (HA.out.mono (g.sub _ (by simp)))).mono ?_
 rintro e w1 ⟨rfl,hb⟩
 obtain⟨g1,rfl⟩:=G.call_ex _ hb
 clear hb
 (try clear g)
 revert g1
 intro g
 go_wp2_with (with_reducible refine yq _ ?_;(try generalize (G.w _).heap.size=bk);(try dsimp only[yi,yj]);(try clear g);intro g)
 refine bodyPost_ret (v:=.tuple #[.slice none 0 0,.slice none 0 0,.int .i64 E]) (by simp[results,Tryz.results42,go_sem]) rfl ?_
 exact⟨rfl,G.below _⟩
set_option maxRecDepth 20000 in
theorem rDefinite_r (F0:Frag)(n:Nat)(x:Mx)(A:Option Addr)(c:Nat)(w:World)(hF:F0.sub w)(hA:F0.Mt A c n (fun _=>n) (rawM x))(n1:1≤n)(n2:n≤4)(bx:∀i,i<n→∀j,j<n→Bd 64 (x i j)):
  Calls Tryz.prog 40 #[.slice A n c] w fun e w'=>∃d,(d=true↔FacOK n x)∧RErrB 0 d w e w':=by
 refine calls_f hF fun g=>?_
 have HA:=Lib.hid hA
 have CC:=Lib.hid (fun w h=>rsquare_any n (fun _=>n) (rawM x) A c w h)
 unfold sqE at CC
 rw[matE_ok n1 (by omega) n1 (by omega) (fun i hi j hj=>(bx i hi j hj).mono (by decide)),if_pos rfl,if_pos rfl] at CC
 have CR:=Lib.hid (fun w hF=>rFactors_r F0 n x A c w hF hA n1 n2 bx)
 unfold RFc at CR
 unfold RErrB
 clear hA bx hF
 go_enter Tryz.func40,Tryz.ntmps40
 go_wp2_with (with_reducible refine yq _ ?_;(try generalize (G.w _).heap.size=bk);(try dsimp only[yi,yj]);(try clear g);intro g)
 refine(CC.out _ (HA.out.mono (g.sub _ (by simp)))).mono ?_
 rintro e w1 ⟨rfl,hb⟩
 obtain⟨g1,rfl⟩:=G.call_ex _ hb
 clear hb
 (try clear g)
 revert g1
 intro g
 go_wp2_with (with_reducible refine yq _ ?_;(try generalize (G.w _).heap.size=bk);(try dsimp only[yi,yj]);(try clear g);intro g)
 refine(CR.out _ (g.sub _ (by simp))).mono ?_
 rintro e w1 (⟨hs,hp,b,cl,B,cd,H,rfl,hm,hr,hno⟩|⟨hp,rfl,hb⟩)
 ·have HP:Hid (FacOK n x):=Lib.hid ⟨hs,hp⟩
  obtain⟨g1,rfl,hoh⟩:=G.nor_ex g (F:=F0) (by simp) hno
  clear hm hr hno hoh g hs hp CR CC
  revert g1
  intro g
  go_wp2_with (with_reducible refine yq _ ?_;(try generalize (G.w _).heap.size=bk);(try dsimp only[yi,yj]);(try clear g);intro g)
  refine bodyPost_ret (v:=.tuple #[.bool true,.int .i64 0]) (by simp[results,Tryz.results40,go_sem]) rfl ?_
  exact⟨true,⟨fun _=>HP.out,fun _=>rfl⟩,rfl,G.below _⟩
 ·have HP:Hid (¬ FacOK n x):=Lib.hid hp
  obtain⟨g1,rfl⟩:=G.call_ex _ hb
  clear hb g hp CR CC
  revert g1
  intro g
  go_wp2_with (with_reducible refine yq _ ?_;(try generalize (G.w _).heap.size=bk);(try dsimp only[yi,yj]);(try clear g);intro g)
  refine bodyPost_ret (v:=.tuple #[.bool false,.int .i64 0]) (by simp[results,Tryz.results40,go_sem]) rfl ?_
  exact⟨false,⟨fun h=>absurd h (by decide),fun h=>absurd h HP.out⟩,rfl,G.below _⟩
def RFctR (F0:Frag)(n:Nat)(x:Mx)(w:World)(e:Ending)(w':World):Prop:=(FacOK n x∧RFO F0 0 n (facL (lowM x)) (facD (lowM x)) w e w')∨(¬ FacOK n x∧RErrF 13 w e w')
theorem fac_low_bd {n:Nat}{x:Mx}(n2:n≤4)(bx:∀i,i<n→∀j,j<n→Bd 64 (x i j))(hp:∀k,k<n→0<facD (lowM x) k):FacSz n (lowM x):=
 fac_sz n2 (fun i _ k _=>lowM_sym x i k) (fun i hi=>rowF_init (lowM_bd bx i hi) (show 64*n≤256 by omega)) (by decide) (fun j hj e=>by
  have:=hp j hj
  rw[e] at this
  exact absurd this (Rat.lt_irrefl))
set_option maxRecDepth 100000 in
set_option maxHeartbeats 16000000 in
theorem rFactor_r (F0:Frag)(n:Nat)(x:Mx)(A:Option Addr)(c:Nat)(w:World)(hF:F0.sub w)(hA:F0.Mt A c n (fun _=>n) (rawM x))(n1:1≤n)(n2:n≤4)(bx:∀i,i<n→∀j,j<n→Bd 64 (x i j)):
  Calls Tryz.prog 42 #[.slice A n c] w (RFctR F0 n x w):=by
 refine calls_f hF fun g=>?_
 have HA:=Lib.hid hA
 have CC:=Lib.hid (fun w h=>rsquare_any n (fun _=>n) (rawM x) A c w h)
 unfold sqE at CC
 rw[matE_ok n1 (by omega) n1 (by omega) (fun i hi j hj=>(bx i hi j hj).mono (by decide)),if_pos rfl,if_pos rfl] at CC
 have CR:=Lib.hid (fun w hF=>rFactors_r F0 n x A c w hF hA n1 n2 bx)
 unfold RFc at CR
 have HBX:=Lib.hid bx
 obtain⟨j0,hj0,hy0,hy1,hy2⟩:=info_parts infoRats5
 clear hA bx hF
 go_enter Tryz.func42,Tryz.ntmps42
 go_wp2_with (with_reducible refine yq _ ?_;(try generalize (G.w _).heap.size=bk);(try dsimp only[yi,yj]);(try clear g);intro g)
 refine(CC.out _ (HA.out.mono (g.sub _ (by simp)))).mono ?_
 rintro e w1 ⟨rfl,hb⟩
 obtain⟨g1,rfl⟩:=G.call_ex _ hb
 clear hb
 (try clear g)
 revert g1
 intro g
 go_wp2_with (with_reducible refine yq _ ?_;(try generalize (G.w _).heap.size=bk);(try dsimp only[yi,yj]);(try clear g);intro g)
 refine(CR.out _ (g.sub _ (by simp))).mono ?_
 rintro e w1 (⟨hs,hp,bb,cl,B,cd,H,rfl,hm,hr,hno⟩|⟨hp,rfl,hb⟩)
 ·have HP:Hid (FacOK n x):=Lib.hid ⟨hs,hp⟩
  have hsz:=fac_low_bd n2 HBX.out hp
  obtain⟨L,hL⟩:∃L,facL (lowM x)=L:=⟨_,rfl⟩
  obtain⟨D,hD⟩:∃D,facD (lowM x)=D:=⟨_,rfl⟩
  have hsl:=hsz.l
  have hsd:=hsz.d
  rw[hL] at hsl hm
  rw[hD] at hsd hr
  have CFI:=Lib.hid (fun b c w hA=>rfits_r (n+1) (fun _=>n) (fun i=>if i<n then L i else D) (some ⟨b,0,none⟩) c w hA (by omega) (fun _ _=>by omega) (fun i hi j hj=>by
   by_cases h:i<n
   ·rw[if_pos h];exact hsl i h j hj
   ·rw[if_neg h];exact hsd j hj))
  have HFIN:Hid (∀w',H.Mt (some ⟨bb,0,none⟩) cl n (fun _=>n) (rawM L)→H.Rw B cd n (rawR D)→NewOr F0 w w' H→RFctR F0 n x w (.returned (.tuple #[.slice (some ⟨bb,0,none⟩) n cl,.slice B n cd,.int .i64 0])) w'):=Lib.hid (fun w' h1 h2 h3=> .inl ⟨HP.out,_,cl,B,cd,H,rfl,by rw[hL];exact h1,by rw[hD];exact h2,h3⟩)
  obtain⟨b,o,hs',hbo,hlen,hone,hnew,hrows⟩:=Mt.heads hm n1
  obtain⟨rfl,rfl⟩:bb=b∧o=0:=by
   injection hbo with h
   injection h with h1 h2 h3
   exact⟨h1,h2.symm⟩
  have HROW:Hid (∀i,i<n+1→∃B' k,(hs'++[.slice B n cd])[i]?=some (.slice B' n k)∧H.Rw B' k n (rawM (fun i=>if i<n then L i else D) i)):=Lib.hid (fun i hi=>by
   by_cases h:i<n
   ·obtain⟨B',k,h1,h2⟩:=hrows i h
    refine⟨B',k,?_,?_⟩
    ·rw[List.getElem?_append_left (by omega)];exact h1
    ·refine h2.congr fun j hj=>?_
     unfold rawM
     dsimp only
     rw[if_pos h]
   ·obtain rfl:i=n:=by omega
    refine⟨B,cd,?_,?_⟩
    ·rw[List.getElem?_append_right (by omega),hlen];simp
    ·refine hr.congr fun j hj=>?_
     unfold rawM rawR
     dsimp only
     rw[if_neg (by omega)])
  obtain⟨g1,rfl,hoh⟩:=G.nor_ex g (F:=F0) (by simp) hno
  have HLEN:hs'.length=n*1:=by omega
  have HNEW:Hid (∀(M':List Blk) (g':G w [] M' [H,F0]) j u,hs'[j]?=some u→g'.w.cell? ((⟨bb,0,none⟩:Addr).add j)=some u):=Lib.hid (fun M' g'=>hnew _ _ _ _ g' (InF.head _ _))
  have HONE:=Lib.hid hone
  have HM:=Lib.hid hm
  have HRW:=Lib.hid hr
  have HOH:=Lib.hid hoh
  have hw1:n≤maxLen:=by show n≤9223372036854775807;omega
  have hw2:n*24≤140737488355328:=by omega
  have hw3:n+1≤maxLen:=by show n+1≤9223372036854775807;omega
  have hw4:(n+1)*24≤140737488355328:=by omega
  clear hm hr hno hoh g hs hp hsz hsl hsd hL hD hbo hone hnew hrows CR CC HA HP HBX
  revert g1
  intro g
  go_wp2_with (first|(with_reducible refine yq _ ?_;(try generalize (G.w _).heap.size=bk);(try dsimp only[yi,yj]);(try clear g);intro g)|(at_builtin;refine wpList_append_e rfl _ _ 29 rfl 38 j0 _ 1 24 Tryz.underlying29 hj0 hy0 hy1 hy2 rfl (by decide) g (by exact g.fresh (List.mem_cons_self ..)) rfl ⟨bb,0,none⟩ n cl hs' rfl HLEN (HNEW.out _ g) HONE.out n1 hw1 hw2 ?_;intro b5 cap5 cs5 g hb5 hr5)|(at_builtin;refine wpList_append_v rfl _ _ 29 rfl 38 j0 _ 1 24 Tryz.underlying29 hj0 hy0 hy1 hy2 rfl (by decide) 1 g (Rr:=[(b5,38,cs5)]) (R':=[]) (by rfl) (RowV.row hr5 hb5) (by rfl) (by exact List.mem_cons_self ..) 1 (by rfl) rfl (one_cell5 _ rfl) (by decide) hw3 hw4 ?_;(try clear g);intro b6 cap6 cs6 g hb6 hr6;revert g;dsimp only[List.take,List.cons_append,List.nil_append];intro g))
  (try(refine cmark _ ?_;(try dsimp only[yi,yj]);(try clear g);intro g))
  refine(CFI.out _ _ _ (blk_mt (g.own _ (List.mem_cons_of_mem _ (List.mem_cons_self ..))) (by have:=hr6.le;omega) hr6.max (by omega) (fun i hi=>(HROW.out i hi).elim fun B' h=>h.elim fun k h=>⟨B',k,hr6.get1 h.1,h.2.mono (g.sub _ (by simp))⟩))).mono ?_
  rintro e w1 ⟨rfl,hb⟩
  obtain⟨g1,rfl⟩:=G.call_ex _ hb
  clear hb
  (try clear g)
  revert g1
  intro g
  go_wp2_with (with_reducible refine yq _ ?_;(try generalize (G.w _).heap.size=bk);(try dsimp only[yi,yj]);(try clear g);intro g)
  refine bodyPost_ret (v:=.tuple #[.slice (some ⟨bb,0,none⟩) n cl,.slice B n cd,.int .i64 0]) (by simp[results,Tryz.results42,go_sem]) rfl ?_
  exact HFIN.out _ HM.out HRW.out ⟨G.below _,G.sub _ _ (by simp),HOH.out⟩
 ·have HP:Hid (¬ FacOK n x):=Lib.hid hp
  obtain⟨g1,rfl⟩:=G.call_ex _ hb
  clear hb g hp CR CC
  revert g1
  intro g
  unfold RFctR RErrF
  go_wp2_with (with_reducible refine yq _ ?_;(try generalize (G.w _).heap.size=bk);(try dsimp only[yi,yj]);(try clear g);intro g)
  refine bodyPost_ret (v:=.tuple #[.slice none 0 0,.slice none 0 0,.int .i64 13]) (by simp[results,Tryz.results42,go_sem]) rfl ?_
  exact .inr ⟨HP.out,rfl,G.below _⟩
set_option maxRecDepth 20000 in
set_option maxHeartbeats 4000000 in
theorem rQuad_r (F0:Frag)(n:Nat)(x:Mx)(v:Nat→Rat)(A B:Option Addr)(c d:Nat)(w:World)(hF:F0.sub w)(hA:F0.Mt A c n (fun _=>n) (rawM x))(hB:F0.Rw B d n (rawR v))(n1:1≤n)(n2:n≤4)(bx:∀i,i<n→∀j,j<n→Bd 64 (x i j))(bv:∀i,i<n→Bd 64 (v i)):
  Calls Tryz.prog 44 #[.slice A n c,.slice B n d] w (RTO F0 0 (rawOf (quadM n x v)) w):=by
 refine calls_f hF fun g=>?_
 unfold RTO
 have HA:=Lib.hid hA
 have HB:=Lib.hid hB
 have CC:=Lib.hid (fun w h=>rCheck5_any A c n (fun _=>n) (rawM x) w h)
 rw[matE_ok n1 (by omega) n1 (by omega) (fun i hi j hj=>(bx i hi j hj).mono (by decide))] at CC
 have CL:=Lib.hid (fun w h=>rList_any B d n (rawR v) w h)
 rw[listE_val (fun j hj=>(bv j hj).mono (by decide)) n1 (by omega)] at CL
 have CF:=Lib.hid (fun w hF=>rForm_r F0 n x v A B c d w hF hA hB n1 n2 bx bv)
 unfold RT1 at CF
 have hbd:Bd 8192 (quadM n x v):=by
  rw[←formP_end]
  have h1:n*n≤4*n:=Nat.mul_le_mul_right n n2
  exact(formP_qn bx bv n (Nat.le_refl n) 0 (by omega) (.inr rfl)).bd' (by omega) (by omega)
 have CFT:=Lib.hid (fun p q r w h=>rqFits_r (quadM n x v) hbd p q r w h)
 obtain⟨b,o,rfl,hrow⟩:=hA.rowAt n1
 obtain⟨B0,k0,hh0,hrw0⟩:=hrow 0 (by omega)
 have E0:∀(M:List Blk) (I:List Frag) (g:G w [] M I) (hF:InF F0 I),g.w.cell? ⟨b,o,none⟩=some (.slice B0 n k0):=fun M I g hF=>hh0 _ _ _ _ g hF
 have t1:0<n:=by omega
 have t2:(0:Int)<(n:Int):=by omega
 have hnn:((n:Int)==(n:Int))=true:=by simp
 generalize quadM n x v=S at*
 clear hA hB hrow hh0 hrw0 bx bv hF hbd
 go_enter Tryz.func44,Tryz.ntmps44
 go_wp2_with (with_reducible refine yq _ ?_;(try generalize (G.w _).heap.size=bk);(try dsimp only[yi,yj]);(try clear g);intro g)
 (try(refine cmark _ ?_;(try dsimp only[yi,yj]);(try clear g);intro g))
 refine(CC.out _ (HA.out.mono (g.sub _ (by simp)))).mono ?_
 rintro e w1 ⟨rfl,hb⟩
 obtain⟨g1,rfl⟩:=G.call_ex _ hb
 clear hb
 (try clear g)
 revert g1
 intro g
 go_wp2_with (with_reducible refine yq _ ?_;(try generalize (G.w _).heap.size=bk);(try dsimp only[yi,yj]);(try clear g);intro g)
 (try(refine cmark _ ?_;(try dsimp only[yi,yj]);(try clear g);intro g))
 refine(CL.out _ (HB.out.mono (g.sub _ (by simp)))).mono ?_
 rintro e w1 ⟨rfl,hb⟩
 obtain⟨g1,rfl⟩:=G.call_ex _ hb
 clear hb
 (try clear g)
 revert g1
 intro g
 go_wp2_with (with_reducible refine yq _ ?_;(try generalize (G.w _).heap.size=bk);(try dsimp only[yi,yj]);(try clear g);intro g)
 (try(refine cmark _ ?_;(try dsimp only[yi,yj]);(try clear g);intro g))
 refine(CF.out _ (g.sub _ (by simp))).mono ?_
 rintro e w1 ⟨pf,qf,rf,Ff,rfl,hf,hn⟩
 have hnnf:=fun k o hk=>Nat.le_trans g.chg.size (hn.new k o hk)
 obtain⟨sf,Af,nf,cf,Bf,df,kf,rfl,rfl,rfl⟩:=hf.shape
 obtain⟨g1,rfl⟩:=G.new_ex _ hn
 clear hn
 (try clear g)
 revert g1
 intro g
 go_wp2_with (with_reducible refine yq _ ?_;(try generalize (G.w _).heap.size=bk);(try dsimp only[yi,yj]);(try clear g);intro g)
 (try(refine cmark _ ?_;(try dsimp only[yi,yj]);(try clear g);intro g))
 refine(CFT.out _ _ _ _ (G.rtI g (f:=Ff) (by simp) hf)).mono ?_
 rintro e w1 ⟨rfl,hb⟩
 obtain⟨g1,rfl⟩:=G.call_ex _ hb
 clear hb
 (try clear g)
 revert g1
 intro g
 go_wp2_with (with_reducible refine yq _ ?_;(try generalize (G.w _).heap.size=bk);(try dsimp only[yi,yj]);(try clear g);intro g)
 refine bodyPost_ret (v:=.tuple #[.agg #[.bool sf,.slice Af nf cf,.slice Bf df kf],.int .i64 0]) (by simp[results,Tryz.results44,go_sem]) rfl ?_
 exact⟨_,_,_,Ff,rfl,hf,G.below _,G.sub _ _ (by simp),fun k o hk=> .inr (hnnf k o hk)⟩
set_option maxRecDepth 40000 in
set_option maxHeartbeats 16000000 in
theorem factors_n (n:Nat)(a:Mx)(A:Option Addr)(c:Nat)(w:World)(hA:(heapOf w).Mt A c n (fun _=>n) (rawM a))(hT:Tab w)(n1:1≤n)(n2:n≤24)(hns:¬ ∀i,i<n→∀k,k<i→a i k=a k i):
  Calls Tryz.prog 87 #[.slice A n c] w fun e w'=>e=.returned (.tuple #[.slice none 0 0,.slice none 0 0,.bool false,.int .i64 0])∧Below w.heap.size w w':=by
 refine calls_b fun g=>?_
 have HT:=Lib.hid hT
 have HA:=Lib.hid hA
 have CE:=Lib.hid (fun t u p q r p' q' r' w h h'=>mequal_any t u p q r p' q' r' w h h')
 have HNS:=Lib.hid hns
 have CO:=Lib.hid (fun w t=>one_own n (by omega) (by omega) w t)
 unfold ROne at CO
 obtain⟨i0,hi,hz0,hz1,hz2⟩:=info_parts infoRat
 obtain⟨b,o,rfl,hrow⟩:=hA.rowAt n1
 have HR:Hid (∀i,i<n→∃ba oa k,w.cell? ⟨b,o+i,none⟩=some (.slice (some ⟨ba,oa,none⟩) n k)∧∀j,j<n→∃p q r,w.cell? ⟨ba,oa+j*3,none⟩=some p∧w.cell? ⟨ba,oa+j*3+1,none⟩=some q∧w.cell? ⟨ba,oa+j*3+2,none⟩=some r∧RtW w p q r (rawOf (a i j))):=Lib.hid (fun i hi=>by
  obtain⟨B,k,h1,h2⟩:=hrow i hi
  obtain⟨ba,oa,rfl,h3⟩:=h2.num n1
  refine⟨ba,oa,k,h1 _ _ _ _ (G.begin w) (InF.head _ _),fun j hj=>?_⟩
  obtain⟨p,q,r,h4,h5⟩:=h3 j hj
  have h6:=h4 _ _ _ _ (G.begin w) (InF.head _ _)
  exact⟨p,q,r,h6.1,h6.2.1,h6.2.2,h5⟩)
 have hni:(0:Int)≤(n:Int):=by omega
 clear hT hA hns hrow
 go_enter Tryz.func87,Tryz.ntmps87
 go_wp2_with (with_reducible refine yq _ ?_;(try generalize (G.w _).heap.size=bk);(try dsimp only[yi,yj]);(try clear g);intro g)
 (try(refine cmark _ ?_;(try dsimp only[yi,yj]);(try clear g);intro g))
 obtain⟨s2b,rfl⟩:∃s2b,s2b=bk:=⟨_,rfl⟩
 obtain⟨sb,rfl⟩:∃sb,sb=bk:=⟨_,rfl⟩
 obtain⟨lb,rfl⟩:∃lb,lb=bk:=⟨_,rfl⟩
 refine(CO.out _ (G.tab g HT.out)).mono ?_
 rintro e w1 ⟨ob,R,oc,F,g1,rfl,hocl,hown,hnw,rfl⟩
 obtain⟨g2,e2⟩:=G.lift g g1 hnw
 rw[e2]
 have hnwW:F.Nw w:=fun k o hk=>Nat.le_trans g.chg.size (hnw k o hk)
 have hownW:OwnOn (List.range n) (fun j=>NumRow w.heap.size 43 F n (rawM (lM a 0 0) j)) R oc:=hown.next (fun _ _=>rfl) (fun j hj v s hq=>(NumRow.lo hq g.chg.size).congr (fun k hk=>by unfold rawM;rw[lM_start]))
 obtain⟨g3,e3⟩:=g2.perm (M':=(s2b,76,[Value.pointer (some ⟨sb,0,none⟩)])::(sb,78,[Value.int .i64 0])::(lb,29,[Value.slice none 0 0])::(ob,38,oc)::R) List.perm_append_comm
 rw[e3]
 clear e2 e3 hown hnw g1 g2 g CO
 revert g3
 intro g
 go_wp2_with (with_reducible refine yq _ ?_;(try generalize (G.w _).heap.size=bk);(try dsimp only[yi,yj]);(try clear g);intro g)
 go_loopw [3,21] (fun dv iv wr=>dv=.slice none 0 0∧∃i:Nat,iv=.int .i64 (i:Int)∧i≤n∧Hid (∀r,r<i→∀c,c<r→a r c=a c r)∧∃g:G w [] ((s2b,76,[Value.pointer (some ⟨sb,0,none⟩)])::(sb,78,[Value.int .i64 0])::(lb,29,[Value.slice (some ⟨ob,0,none⟩) n n])::(ob,38,oc)::R) [F,heapOf w],wr=g.w) (fun _ iv _=>n-(intOf iv).toNat)
 case atStart=>exact⟨rfl,0,rfl,by omega,Lib.hid (fun r h=>absurd h (Nat.not_lt_zero r)),_,rfl⟩
 case round =>
  clear g
  obtain⟨rfl,i,rfl,hi',HSY,g,rfl⟩:=hrel
  by_cases hin:i<n
  ·have hii:(i:Int)<(n:Int):=by omega
   obtain⟨ba,oa,k0,hro,hnu⟩:=HR.out i hin
   have EH:=fun(M:List Blk) (I:List Frag) (g:G w [] M I)=>G.keepc g hro
   have HNU:=Lib.hid hnu
   clear hro hnu
   go_wp2_with (with_reducible refine yq _ ?_;(try generalize (G.w _).heap.size=bk);(try dsimp only[yi,yj]);(try clear g);intro g)
   go_loopw [3,27] (fun dv kv wr=>dv=.slice none 0 0∧∃k:Nat,kv=.int .i64 (k:Int)∧k≤i∧Hid (∀c,c<k→a i c=a c i)∧∃g:G w [] ((s2b,76,[Value.pointer (some ⟨sb,0,none⟩)])::(sb,78,[Value.int .i64 0])::(lb,29,[Value.slice (some ⟨ob,0,none⟩) n n])::(ob,38,oc)::R) [F,heapOf w],wr=g.w) (fun _ kv _=>i-(intOf kv).toNat)
   case atStart=>exact⟨rfl,0,rfl,by omega,Lib.hid (fun c h=>absurd h (Nat.not_lt_zero c)),g,rfl⟩
   case round=>
    clear g
    obtain⟨rfl,k,rfl,hk',HSR,g,rfl⟩:=hrel
    by_cases hki:k<i
    ·have hkii:(k:Int)<(i:Int):=by omega
     have hkn:(k:Int)<(n:Int):=by omega
     obtain⟨p,q,r,x0,x1,x2,hx⟩:=HNU.out k (by omega)
     obtain⟨bk2,ok2,k2,hro2,hnu2⟩:=HR.out k (by omega)
     obtain⟨p',q',r',y0,y1,y2,hy⟩:=hnu2 i hin
     obtain⟨s1,A1,m1,c1,B1,d1,e1,rfl,rfl,rfl⟩:=hx.shape
     obtain⟨s2,A2,m2,c2,B2,d2,e2,rfl,rfl,rfl⟩:=hy.shape
     have X0:=fun(M:List Blk) (I:List Frag) (g:G w [] M I)=>G.keepc g x0
     have X1:=fun(M:List Blk) (I:List Frag) (g:G w [] M I)=>G.keepc g x1
     have X2:=fun(M:List Blk) (I:List Frag) (g:G w [] M I)=>G.keepc g x2
     have Y0:=fun(M:List Blk) (I:List Frag) (g:G w [] M I)=>G.keepc g y0
     have Y1:=fun(M:List Blk) (I:List Frag) (g:G w [] M I)=>G.keepc g y1
     have Y2:=fun(M:List Blk) (I:List Frag) (g:G w [] M I)=>G.keepc g y2
     have EK:=fun(M:List Blk) (I:List Frag) (g:G w [] M I)=>G.keepc g hro2
     obtain⟨z,hz⟩:∃z,decide (rawOf (a i k)=rawOf (a k i))=z:=⟨_,rfl⟩
     have HSK:Hid (z=true↔a i k=a k i):=Lib.hid (by
      rw[←hz,decide_eq_true_iff]
      exact⟨fun h=>rawOf_inj h,fun h=>congrArg rawOf h⟩)
     have CE1:=Lib.hid (CE.out (rawOf (a i k)) (rawOf (a k i)))
     rw[hz] at CE1
     have HX:=Lib.hid hx
     have HY:=Lib.hid hy
     clear x0 x1 x2 y0 y1 y2 hro2 hnu2 hx hy hz
     go_upto_region 9 with(with_reducible refine yq _ ?_;(try generalize (G.w _).heap.size=bk);(try dsimp only[yi,yj]);(try clear g);intro g)
     ((try simp only[G.drew_eq,G.drewN_eq]);(refine yq _ ?_;(try generalize (G.w _).heap.size=bk);(try dsimp only[yi,yj]);(try clear g);intro g))
     refine wp_region_held_drew (S:=(fun w'=>w'.cell? ⟨ba,oa+k*3,none⟩=some (.bool s1)∧w'.cell? ⟨ba,oa+k*3+1,none⟩=some (.slice A1 m1 c1)∧w'.cell? ⟨ba,oa+k*3+2,none⟩=some (.slice B1 d1 e1)∧w'.cell? ⟨b,o+k,none⟩=some (.slice (some ⟨bk2,ok2,none⟩) n k2)∧w'.cell? ⟨bk2,ok2+i*3,none⟩=some (.bool s2)∧w'.cell? ⟨bk2,ok2+i*3+1,none⟩=some (.slice A2 m2 c2)∧w'.cell? ⟨bk2,ok2+i*3+2,none⟩=some (.slice B2 d2 e2))) (by kernel_rfl) (by(simp[go_sem, *];done)) (fun hHeld=>?_)
     refine tk0 [0,1,2,3,4,5,6,7,8,9,10] ?_
     iterate 11 (refine tkc rfl (by kernel_rfl) (fun _ _ _ h=>h) (by rfl) ‹_› (by intro w hSw;(try dsimp only at hSw);go_simp;(try with_reducible rfl)) ?_;try simp only[Act.put,yk,yl,yn,yo,yi,yj])
     refine tkn ?_
     refine wpAnyH_ready (rs:=[11]) (by kernel_rfl) (by simp) ?_
     refine AllReadyH.cons rfl (fun K hK=>?_) AllReadyH.nil
     ·(try simp only[Act.put,yk,yl,yn,yo,yi,yj])
      go_simp
      go_at_call 120
      (try(refine cmark _ ?_;(try dsimp only[yi,yj]);(try clear g);intro g))
      refine(CE1.out _ _ _ _ _ _ _ (G.rtI g (f:=heapOf w) (by simp) HX.out) (G.rtI g (f:=heapOf w) (by simp) HY.out)).mono ?_
      rintro e w1 ⟨rfl,hb⟩
      obtain⟨g1,rfl⟩:=G.call_ex _ hb
      clear hb
      (try clear g)
      revert g1
      intro g
      refine hK.out _ _ (by(simp[go_sem, *];done)) (fun hHeld=>?_)
      clear hK K
      (try simp only[Act.put,yk,yl,yn,yo,yi,yj])
      refine tk0 [12] ?_
      iterate 1 (refine tkc rfl (by kernel_rfl) (fun _ _ _ h=>h) (by rfl) ‹_› (by intro w hSw;(try dsimp only at hSw);go_simp;(try with_reducible rfl)) ?_;try simp only[Act.put,yk,yl,yn,yo,yi,yj])
      refine tkn ?_
      refine wpAnyH_done (by kernel_rfl) ?_ _
      (as_aux_lemma=>
       (try clear hHeld)
       ((try simp only[G.drew_eq,G.drewN_eq]);(refine yq _ ?_;(try generalize (G.w _).heap.size=bk);(try dsimp only[yi,yj]);(try clear g);intro g))
       cases z
       case false=>
        go_wp2_with (with_reducible refine yq _ ?_;(try generalize (G.w _).heap.size=bk);(try dsimp only[yi,yj]);(try clear g);intro g)
        refine bodyPost_ret (v:=.tuple #[.slice none 0 0,.slice none 0 0,.bool false,.int .i64 0]) (by simp[results,Tryz.results87,go_sem]) rfl ?_
        exact⟨rfl,G.below _⟩
       case true=>
        have HSR2:Hid (∀c,c<k+1→a i c=a c i):=Lib.hid (fun c hc=>by
         by_cases hck:c=k
         ·rw[hck];exact HSK.out.1 rfl
         ·exact HSR.out c (by omega))
        go_wp2_with (with_reducible refine yq _ ?_;(try generalize (G.w _).heap.size=bk);(try dsimp only[yi,yj]);(try clear g);intro g)
        go_roundw
        case rel=>exact⟨rfl,k+1,by go_num,by omega,HSR2,g,rfl⟩
        case measure=>simp[intOf]<;>omega)
    ·obtain rfl:k=i:=by omega
     have HSY2:Hid (∀r,r<k+1→∀c,c<r→a r c=a c r):=Lib.hid (fun r hr c hc=>by
      by_cases hrk:r=k
      ·rw[hrk] at hc ⊢;exact HSR.out c hc
      ·exact HSY.out r (by omega) c hc)
     go_wp2_with (with_reducible refine yq _ ?_;(try generalize (G.w _).heap.size=bk);(try dsimp only[yi,yj]);(try clear g);intro g)
     go_roundw
     case rel=>exact⟨rfl,k+1,by go_num,by omega,HSY2,g,rfl⟩
     case measure=>simp[intOf]<;>omega
  ·obtain rfl:i=n:=by omega
   exact absurd HSY.out HNS.out
def RFacA (n:Nat)(x:Mx)(w:World)(e:Ending)(w':World):Prop:=(FacOK n x∧∃b cl b2 cd F,e=.returned (.tuple #[.slice (some ⟨b,0,none⟩) n cl,.slice (some ⟨b2,0,none⟩) n cd,.bool true,.int .i64 0])∧Frag.Mt F (some ⟨b,0,none⟩) cl n (fun _=>n) (rawM (facL (lowM x)))∧Frag.Rw F (some ⟨b2,0,none⟩) cd n (rawR (facD (lowM x)))∧New w w' F)∨(¬ FacOK n x∧e=.returned (.tuple #[.slice none 0 0,.slice none 0 0,.bool false,.int .i64 0])∧Below w.heap.size w w')
theorem lowM_eq {n:Nat}{x:Mx}(h:∀i,i<n→∀k,k<i→x i k=x k i):∀i,i<n→∀k,k<n→x i k=lowM x i k:=fun i hi k hk=>by
 unfold lowM
 by_cases hki:k≤i
 ·rw[if_pos hki]
 ·rw[if_neg hki]
  exact(h k hk i (by omega)).symm
theorem factors_any (n:Nat)(x:Mx)(A:Option Addr)(c:Nat)(w:World)(hA:(heapOf w).Mt A c n (fun _=>n) (rawM x))(hT:Tab w)(n1:1≤n)(n2:n≤4)(bx:∀i,i<n→∀j,j<n→Bd 64 (x i j)):
  Calls Tryz.prog 87 #[.slice A n c] w (RFacA n x w):=by
 by_cases hs:∀i,i<n→∀k,k<i→x i k=x k i
 ·have hsy:∀i,i<n→∀k,k≤i→x i k=x k i:=fun i hi k hk=>by
   rcases Nat.lt_or_eq_of_le hk with h|rfl
   ·exact hs i hi k h
   ·rfl
  have hA2:=hA.congr (y:=rawM (lowM x)) (fun _ _=>rfl) (fun i hi j hj=>by unfold rawM;rw[lowM_eq hs i hi j hj])
  have h1:=factors_r n (lowM x) A c w hA2 hT n1 (by omega) (fun i hi j hj=>(lowM_bd bx i hi j hj).mono (by decide)) (fun i _ k _=>lowM_sym x i k) (low_fine n2 bx)
  refine h1.mono fun e w' h=>?_
  rcases h with⟨hp,h2⟩|⟨⟨k,hk,hk2⟩,h2⟩
  ·exact .inl ⟨⟨hsy,hp⟩,h2⟩
  ·exact .inr ⟨fun h=>hk2 (h.2 k hk),h2⟩
 ·refine(factors_n n x A c w hA hT n1 (by omega) hs).mono fun e w' h=>?_
  exact .inr ⟨fun h=>hs fun i hi k hk=>h.1 i hi k (by omega),h⟩
set_option maxRecDepth 20000 in
theorem Definite_a (n:Nat)(x:Mx)(A:Option Addr)(c:Nat)(w:World)(hA:(heapOf w).Mt A c n (fun _=>n) (rawM x))(hT:Tab w)(n1:1≤n)(n2:n≤4)(bx:∀i,i<n→∀j,j<n→Bd 64 (x i j)):
  Calls Tryz.prog 39 #[.slice A n c] w fun e w'=>∃d,(d=true↔FacOK n x)∧RErrB 0 d w e w':=by
 refine calls_b fun g=>?_
 have HA:=Lib.hid hA
 have HT:=Lib.hid hT
 have CC:=Lib.hid (fun w h t=>mCheck_any A c n (fun _=>n) (rawM x) w h t)
 rw[matE_ok n1 (by omega) n1 (by omega) (fun i hi j hj=>(bx i hi j hj).mono (by decide))] at CC
 have CQ:=Lib.hid (fun w h=>square_any n n (rawM x) A c w h n1)
 rw[decide_eq_true rfl] at CQ
 have CF:=Lib.hid (fun w h t=>factors_any n x A c w h t n1 n2 bx)
 unfold RFacA at CF
 unfold RErrB
 clear hA hT bx
 go_enter Tryz.func39,Tryz.ntmps39
 go_wp2_with (with_reducible refine yq _ ?_;(try generalize (G.w _).heap.size=bk);(try dsimp only[yi,yj]);(try clear g);intro g)
 refine(CC.out _ (HA.out.mono (g.sub _ (by simp))) (G.tab g HT.out)).mono ?_
 rintro e w1 ⟨rfl,hb⟩
 obtain⟨g1,rfl⟩:=G.call_ex _ hb
 clear hb
 (try clear g)
 revert g1
 intro g
 go_wp2_with (with_reducible refine yq _ ?_;(try generalize (G.w _).heap.size=bk);(try dsimp only[yi,yj]);(try clear g);intro g)
 refine(CQ.out _ (HA.out.mono (g.sub _ (by simp)))).mono ?_
 rintro e w1 ⟨rfl,hb⟩
 obtain⟨g1,rfl⟩:=G.call_ex _ hb
 clear hb
 (try clear g)
 revert g1
 intro g
 go_wp2_with (with_reducible refine yq _ ?_;(try generalize (G.w _).heap.size=bk);(try dsimp only[yi,yj]);(try clear g);intro g)
 refine(CF.out _ (HA.out.mono (g.sub _ (by simp))) (G.tab g HT.out)).mono ?_
 rintro e w1 (⟨hp,b,cl,b2,cd,F,rfl,_,_,hn⟩|⟨hp,rfl,hb⟩)
 ·have HP:=Lib.hid hp
  clear hp
  obtain⟨g1,rfl⟩:=G.call_ex _ hn.below
  clear hn g
  revert g1
  intro g
  go_wp2_with (with_reducible refine yq _ ?_;(try generalize (G.w _).heap.size=bk);(try dsimp only[yi,yj]);(try clear g);intro g)
  refine bodyPost_ret (v:=.tuple #[.bool true,.int .i64 0]) (by simp[results,Tryz.results39,go_sem]) rfl ?_
  exact⟨true,⟨fun _=>HP.out,fun _=>rfl⟩,rfl,G.below _⟩
 ·have HP:=Lib.hid hp
  clear hp
  obtain⟨g1,rfl⟩:=G.call_ex _ hb
  clear hb g
  revert g1
  intro g
  go_wp2_with (with_reducible refine yq _ ?_;(try generalize (G.w _).heap.size=bk);(try dsimp only[yi,yj]);(try clear g);intro g)
  refine bodyPost_ret (v:=.tuple #[.bool false,.int .i64 0]) (by simp[results,Tryz.results39,go_sem]) rfl ?_
  exact⟨false,⟨fun h=>absurd h (by decide),fun h=>absurd h HP.out⟩,rfl,G.below _⟩
def RFctA (n:Nat)(x:Mx)(w:World)(e:Ending)(w':World):Prop:=(FacOK n x∧∃A cl B cd F,e=.returned (.tuple #[.slice A n cl,.slice B n cd,.int .i64 0])∧Frag.Mt F A cl n (fun _=>n) (rawM (facL (lowM x)))∧Frag.Rw F B cd n (rawR (facD (lowM x)))∧New w w' F)∨(¬ FacOK n x∧RErrF 13 w e w')
set_option maxRecDepth 20000 in
theorem Factor_a (n:Nat)(x:Mx)(A:Option Addr)(c:Nat)(w:World)(hA:(heapOf w).Mt A c n (fun _=>n) (rawM x))(hT:Tab w)(n1:1≤n)(n2:n≤4)(bx:∀i,i<n→∀j,j<n→Bd 64 (x i j)):
  Calls Tryz.prog 41 #[.slice A n c] w (RFctA n x w):=by
 refine calls_b fun g=>?_
 unfold RFctA RErrF
 have HA:=Lib.hid hA
 have HT:=Lib.hid hT
 have CC:=Lib.hid (fun w h t=>mCheck_any A c n (fun _=>n) (rawM x) w h t)
 rw[matE_ok n1 (by omega) n1 (by omega) (fun i hi j hj=>(bx i hi j hj).mono (by decide))] at CC
 have CQ:=Lib.hid (fun w h=>square_any n n (rawM x) A c w h n1)
 rw[decide_eq_true rfl] at CQ
 have CF:=Lib.hid (fun w h t=>factors_any n x A c w h t n1 n2 bx)
 unfold RFacA at CF
 clear hA hT bx
 go_enter Tryz.func41,Tryz.ntmps41
 go_wp2_with (with_reducible refine yq _ ?_;(try generalize (G.w _).heap.size=bk);(try dsimp only[yi,yj]);(try clear g);intro g)
 refine(CC.out _ (HA.out.mono (g.sub _ (by simp))) (G.tab g HT.out)).mono ?_
 rintro e w1 ⟨rfl,hb⟩
 obtain⟨g1,rfl⟩:=G.call_ex _ hb
 clear hb
 (try clear g)
 revert g1
 intro g
 go_wp2_with (with_reducible refine yq _ ?_;(try generalize (G.w _).heap.size=bk);(try dsimp only[yi,yj]);(try clear g);intro g)
 refine(CQ.out _ (HA.out.mono (g.sub _ (by simp)))).mono ?_
 rintro e w1 ⟨rfl,hb⟩
 obtain⟨g1,rfl⟩:=G.call_ex _ hb
 clear hb
 (try clear g)
 revert g1
 intro g
 go_wp2_with (with_reducible refine yq _ ?_;(try generalize (G.w _).heap.size=bk);(try dsimp only[yi,yj]);(try clear g);intro g)
 refine(CF.out _ (HA.out.mono (g.sub _ (by simp))) (G.tab g HT.out)).mono ?_
 rintro e w1 (⟨hp,b,cl,b2,cd,F,rfl,hm,hr,hn⟩|⟨hp,rfl,hb⟩)
 ·have HP:=Lib.hid hp
  have HM:=Lib.hid hm
  have HRW:=Lib.hid hr
  have hnn:=fun k o hk=>Nat.le_trans g.chg.size (hn.new k o hk)
  clear hp hm hr
  obtain⟨g1,rfl⟩:=G.new_ex _ hn
  clear hn g
  revert g1
  intro g
  go_wp2_with (with_reducible refine yq _ ?_;(try generalize (G.w _).heap.size=bk);(try dsimp only[yi,yj]);(try clear g);intro g)
  refine bodyPost_ret (v:=.tuple #[.slice (some ⟨b,0,none⟩) n cl,.slice (some ⟨b2,0,none⟩) n cd,.int .i64 0]) (by simp[results,Tryz.results41,go_sem]) rfl ?_
  exact .inl ⟨HP.out,_,cl,_,cd,F,rfl,HM.out,HRW.out,G.below _,G.sub _ _ (by simp),hnn⟩
 ·have HP:=Lib.hid hp
  clear hp
  obtain⟨g1,rfl⟩:=G.call_ex _ hb
  clear hb g
  revert g1
  intro g
  go_wp2_with (with_reducible refine yq _ ?_;(try generalize (G.w _).heap.size=bk);(try dsimp only[yi,yj]);(try clear g);intro g)
  refine bodyPost_ret (v:=.tuple #[.slice none 0 0,.slice none 0 0,.int .i64 13]) (by simp[results,Tryz.results41,go_sem]) rfl ?_
  exact .inr ⟨HP.out,rfl,G.below _⟩
set_option maxRecDepth 20000 in
theorem Definite_e (n:Nat)(m:Nat→Nat)(x:Nat→Nat→Raw)(A:Option Addr)(c:Nat)(E:Int)(w:World)(hA:(heapOf w).Mt A c n m x)(hT:Tab w)(hE:sqE n m x=E)(h0:E≠0):
  Calls Tryz.prog 39 #[.slice A n c] w (RErrB E false w):=by
 refine calls_b fun g=>?_
 unfold RErrB
 have HA:=Lib.hid hA
 have HT:=Lib.hid hT
 have CC:=Lib.hid (fun w h t=>mCheck_any A c n m x w h t)
 unfold sqE at hE
 by_cases h1:matE n m x=0
 ·rw[if_pos h1] at hE
  have hp:=matE_pos h1
  have hm:=matE_m h1
  have hnm:n≠m 0:=fun h=>h0 (by rw[←hE,if_pos h])
  rw[if_neg hnm] at hE
  subst hE
  rw[h1] at CC
  have CQ:=Lib.hid (fun w h=>square_any n (m 0) x A c w h (by omega))
  rw[decide_eq_false hnm] at CQ
  have HA2:=Lib.hid (hA.congr hm (fun _ _ _ _=>rfl))
  clear hA hT h0 h1 hp hm hnm
  go_enter Tryz.func39,Tryz.ntmps39
  go_wp2_with (with_reducible refine yq _ ?_;(try generalize (G.w _).heap.size=bk);(try dsimp only[yi,yj]);(try clear g);intro g)
  refine(CC.out _ (HA.out.mono (g.sub _ (by simp))) (G.tab g HT.out)).mono ?_
  rintro e w1 ⟨rfl,hb⟩
  obtain⟨g1,rfl⟩:=G.call_ex _ hb
  clear hb
  (try clear g)
  revert g1
  intro g
  go_wp2_with (with_reducible refine yq _ ?_;(try generalize (G.w _).heap.size=bk);(try dsimp only[yi,yj]);(try clear g);intro g)
  refine(CQ.out _ (HA2.out.mono (g.sub _ (by simp)))).mono ?_
  rintro e w1 ⟨rfl,hb⟩
  obtain⟨g1,rfl⟩:=G.call_ex _ hb
  clear hb
  (try clear g)
  revert g1
  intro g
  go_wp2_with (with_reducible refine yq _ ?_;(try generalize (G.w _).heap.size=bk);(try dsimp only[yi,yj]);(try clear g);intro g)
  refine bodyPost_ret (v:=.tuple #[.bool false,.int .i64 10]) (by simp[results,Tryz.results39,go_sem]) rfl ?_
  exact⟨rfl,G.below _⟩
 ·rw[if_neg h1] at hE
  rw[hE] at CC
  have heb:(E==0)=false:=by simpa using h0
  have hen:(E !=0)=true:=by simpa using h0
  clear hA hT hE h1
  go_enter Tryz.func39,Tryz.ntmps39
  go_wp2_with (with_reducible refine yq _ ?_;(try generalize (G.w _).heap.size=bk);(try dsimp only[yi,yj]);(try clear g);intro g)
  refine(CC.out _ (HA.out.mono (g.sub _ (by simp))) (G.tab g HT.out)).mono ?_
  rintro e w1 ⟨rfl,hb⟩
  obtain⟨g1,rfl⟩:=G.call_ex _ hb
  clear hb
  (try clear g)
  revert g1
  intro g
  go_wp2_with (with_reducible refine yq _ ?_;(try generalize (G.w _).heap.size=bk);(try dsimp only[yi,yj]);(try clear g);intro g)
  refine bodyPost_ret (v:=.tuple #[.bool false,.int .i64 E]) (by simp[results,Tryz.results39,go_sem]) rfl ?_
  exact⟨rfl,G.below _⟩
set_option maxRecDepth 20000 in
theorem Factor_e (n:Nat)(m:Nat→Nat)(x:Nat→Nat→Raw)(A:Option Addr)(c:Nat)(E:Int)(w:World)(hA:(heapOf w).Mt A c n m x)(hT:Tab w)(hE:sqE n m x=E)(h0:E≠0):
  Calls Tryz.prog 41 #[.slice A n c] w (RErrF E w):=by
 refine calls_b fun g=>?_
 unfold RErrF
 have HA:=Lib.hid hA
 have HT:=Lib.hid hT
 have CC:=Lib.hid (fun w h t=>mCheck_any A c n m x w h t)
 unfold sqE at hE
 by_cases h1:matE n m x=0
 ·rw[if_pos h1] at hE
  have hp:=matE_pos h1
  have hm:=matE_m h1
  have hnm:n≠m 0:=fun h=>h0 (by rw[←hE,if_pos h])
  rw[if_neg hnm] at hE
  subst hE
  rw[h1] at CC
  have CQ:=Lib.hid (fun w h=>square_any n (m 0) x A c w h (by omega))
  rw[decide_eq_false hnm] at CQ
  have HA2:=Lib.hid (hA.congr hm (fun _ _ _ _=>rfl))
  clear hA hT h0 h1 hp hm hnm
  go_enter Tryz.func41,Tryz.ntmps41
  go_wp2_with (with_reducible refine yq _ ?_;(try generalize (G.w _).heap.size=bk);(try dsimp only[yi,yj]);(try clear g);intro g)
  refine(CC.out _ (HA.out.mono (g.sub _ (by simp))) (G.tab g HT.out)).mono ?_
  rintro e w1 ⟨rfl,hb⟩
  obtain⟨g1,rfl⟩:=G.call_ex _ hb
  clear hb
  (try clear g)
  revert g1
  intro g
  go_wp2_with (with_reducible refine yq _ ?_;(try generalize (G.w _).heap.size=bk);(try dsimp only[yi,yj]);(try clear g);intro g)
  refine(CQ.out _ (HA2.out.mono (g.sub _ (by simp)))).mono ?_
  rintro e w1 ⟨rfl,hb⟩
  obtain⟨g1,rfl⟩:=G.call_ex _ hb
  clear hb
  (try clear g)
  revert g1
  intro g
  go_wp2_with (with_reducible refine yq _ ?_;(try generalize (G.w _).heap.size=bk);(try dsimp only[yi,yj]);(try clear g);intro g)
  refine bodyPost_ret (v:=.tuple #[.slice none 0 0,.slice none 0 0,.int .i64 10]) (by simp[results,Tryz.results41,go_sem]) rfl ?_
  exact⟨rfl,G.below _⟩
 ·rw[if_neg h1] at hE
  rw[hE] at CC
  have heb:(E==0)=false:=by simpa using h0
  have hen:(E !=0)=true:=by simpa using h0
  clear hA hT hE h1
  go_enter Tryz.func41,Tryz.ntmps41
  go_wp2_with (with_reducible refine yq _ ?_;(try generalize (G.w _).heap.size=bk);(try dsimp only[yi,yj]);(try clear g);intro g)
  refine(CC.out _ (HA.out.mono (g.sub _ (by simp))) (G.tab g HT.out)).mono ?_
  rintro e w1 ⟨rfl,hb⟩
  obtain⟨g1,rfl⟩:=G.call_ex _ hb
  clear hb
  (try clear g)
  revert g1
  intro g
  go_wp2_with (with_reducible refine yq _ ?_;(try generalize (G.w _).heap.size=bk);(try dsimp only[yi,yj]);(try clear g);intro g)
  refine bodyPost_ret (v:=.tuple #[.slice none 0 0,.slice none 0 0,.int .i64 E]) (by simp[results,Tryz.results41,go_sem]) rfl ?_
  exact⟨rfl,G.below _⟩
theorem RErrB.fix {P:Prop}{d0:Bool}(h0:d0=true↔P){w w':World}{e:Ending}(h:∃d,(d=true↔P)∧RErrB 0 d w e w'):RErrB 0 d0 w e w':=by
 obtain⟨d,h1,h2⟩:=h
 have:d=d0:=Bool.eq_iff_iff.2 (h1.trans h0.symm)
 rwa[←this]
section
variable {F0:Frag}{A:Option Addr}{c n:Nat}{m:Nat→Nat}{x:Nat→Nat→Raw}
theorem def_both (hA:F0.Mt A c n m x)(hs:SzM n m x):∃(E:Int) (d:Bool),(∀w,F0.sub w→Tab w→Calls Tryz.prog 39 #[.slice A n c] w (RErrB E d w))∧(∀w,F0.sub w→Calls Tryz.prog 40 #[.slice A n c] w (RErrB E d w)):=by
 by_cases h0:sqE n m x=0
 ·obtain⟨h1,h2⟩:=sqE_zero h0
  have hp:=matE_pos h1
  obtain⟨X,hX⟩:=valM hA h1 hs
  rw[←h2] at hX
  have hb:=fun i hi j hj=>(hX.2 i hi j hj).2
  obtain⟨d0,hd0⟩:∃d0:Bool,d0=true↔FacOK n X:=by
   by_cases h:FacOK n X
   ·exact⟨true,fun _=>h,fun _=>rfl⟩
   ·exact⟨false,fun h=>absurd h (by decide),fun h'=>absurd h' h⟩
  exact⟨0,d0,fun w hF t=>(Definite_a n X A c w ((hX.mt hA).mono hF) t hp.1.1 hs.1 hb).mono fun _ _ h=>RErrB.fix hd0 h,fun w hF=>(rDefinite_r F0 n X A c w hF (hX.mt hA) hp.1.1 hs.1 hb).mono fun _ _ h=>RErrB.fix hd0 h⟩
 ·exact⟨_,false,fun w hF t=>Definite_e n m x A c _ w (hA.mono hF) t rfl h0,fun w hF=>rDefinite_e n m x A c _ w (hA.mono hF) rfl h0⟩
theorem fac_both (hA:F0.Mt A c n m x)(hs:SzM n m x):∃(E:Int) (N:Nat) (Z:Mx) (z:Nat→Rat),N≤1000∧(∀w,F0.sub w→Tab w→Calls Tryz.prog 41 #[.slice A n c] w (RFO F0 E N Z z w))∧(∀w,F0.sub w→Calls Tryz.prog 42 #[.slice A n c] w (RFO F0 E N Z z w)):=by
 by_cases h0:sqE n m x=0
 ·obtain⟨h1,h2⟩:=sqE_zero h0
  have hp:=matE_pos h1
  obtain⟨X,hX⟩:=valM hA h1 hs
  rw[←h2] at hX
  have hb:=fun i hi j hj=>(hX.2 i hi j hj).2
  have c1:=fun w hF t=>Factor_a n X A c w ((hX.mt hA).mono hF) t hp.1.1 hs.1 hb
  have c2:=fun w hF=>rFactor_r F0 n X A c w hF (hX.mt hA) hp.1.1 hs.1 hb
  by_cases hf:FacOK n X
  ·refine⟨0,n,facL (lowM X),facD (lowM X),by have:=hs.1;omega,fun w hF t=>(c1 w hF t).mono fun _ _ h=>?_,fun w hF=>(c2 w hF).mono fun _ _ h=>?_⟩
   ·rcases h with⟨_,A1,cl,B1,cd,F,h3,h4,h5,h6⟩|⟨h3,_⟩
    ·exact⟨A1,cl,B1,cd,F,h3,h4,h5,h6.or F0⟩
    ·exact absurd hf h3
   ·rcases h with⟨_,h3⟩|⟨h3,_⟩
    ·exact h3
    ·exact absurd hf h3
  ·refine⟨13,0,(fun _ _=>0),(fun _=>0),by decide,fun w hF t=>(c1 w hF t).mono fun _ _ h=>?_,fun w hF=>(c2 w hF).mono fun _ _ h=>?_⟩
   ·rcases h with⟨h3,_⟩|⟨_,h3⟩
    ·exact absurd h3 hf
    ·exact RFO.err h3
   ·rcases h with⟨h3,_⟩|⟨_,h3⟩
    ·exact absurd h3 hf
    ·exact RFO.err h3
 ·exact⟨_,0,(fun _ _=>0),(fun _=>0),by decide,fun w hF t=>(Factor_e n m x A c _ w (hA.mono hF) t rfl h0).mono fun _ _ h=>RFO.err h,fun w hF=>(rFactor_e n m x A c _ w (hA.mono hF) rfl h0).mono fun _ _ h=>RFO.err h⟩
theorem quad_both {B:Option Addr}{d k:Nat}{y:Nat→Raw}(hA:F0.Mt A c n m x)(hB:F0.Rw B d k y)(hs:SzM n m x)(hs':SzR k y):∃(E:Int) (t:Raw),(∀w,F0.sub w→Tab w→Calls Tryz.prog 43 #[.slice A n c,.slice B k d] w (RTO F0 E t w))∧(∀w,F0.sub w→Calls Tryz.prog 44 #[.slice A n c,.slice B k d] w (RTO F0 E t w)):=by
 by_cases h0:slE n m x k y=0
 ·have h9:matE n m x=0∧listE y k=0∧n=m 0∧k=n:=by
   unfold slE at h0
   by_cases h1:matE n m x=0
   ·rw[if_pos h1] at h0
    by_cases h2:listE y k=0
    ·rw[if_pos h2] at h0
     by_cases h3:n=m 0∧k=n
     ·exact⟨h1,h2,h3⟩
     ·rw[if_neg h3] at h0;exact absurd h0 (by decide)
    ·rw[if_neg h2] at h0;exact absurd h0 h2
   ·rw[if_neg h1] at h0;exact absurd h0 h1
  obtain⟨h1,h3,h2,rfl⟩:=h9
  have hp:=matE_pos h1
  obtain⟨X,hX⟩:=valM hA h1 hs
  rw[←h2] at hX
  obtain⟨v,hv⟩:=valR hB h3 hs'
  have hb:=fun i hi j hj=>(hX.2 i hi j hj).2
  have hvb:=fun i hi=>(hv i hi).2
  have hB':=hB.congr (fun j hj=>(hv j hj).1)
  refine⟨0,rawOf (quadM k X v),fun w hF t=>(Quad_r k X v A B c d w ((hX.mt hA).mono hF) (hB'.mono hF) t hp.1.1 hp.1.2 (quad_fine64 hs.1 hb hvb)).mono fun _ _ h=>?_,fun w hF=>(rQuad_r F0 k X v A B c d w hF (hX.mt hA) hB' hp.1.1 hs.1 hb hvb).mono fun _ _ h=>h⟩
  obtain⟨p,q,r,H,h3,h4,h5⟩:=h
  exact⟨p,q,r,H,h3,h4,h5.or F0⟩
 ·exact⟨_,rawZ,fun w hF t=>(Quad_e n k m x y A B c d _ w (hA.mono hF) (hB.mono hF) t rfl h0).mono fun _ _ h=>RTO.err h,fun w hF=>(rQuad_e n k m x y A B c d _ w (hA.mono hF) (hB.mono hF) rfl h0).mono fun _ _ h=>RTO.err h⟩
end
set_option maxRecDepth 100000 in
set_option maxHeartbeats 16000000 in
theorem forms_walk (A B:Option Addr)(c d n k:Nat)(m:Nat→Nat)(x:Nat→Nat→Raw)(y:Nat→Raw)(W:World)(hA:(heapOf W).Mt A c n m x)(hB:(heapOf W).Rw B d k y)(hT:Tab W):
  Calls Tryz.prog 7 #[.slice A n c,.slice B k d] W fun e w'=>e=.returned (.bool true)∧Below W.heap.size W w':=by
 refine calls_b fun g=>?_
 have HA:=Lib.hid hA
 have HB:=Lib.hid hB
 have HT:=Lib.hid hT
 have CLV:=Lib.hid (fun w h=>lives5_x w h)
 have CLG:=Lib.hid (fun bs b1 w (hc:∀t,t<2→w.cell? ⟨bs,t,none⟩=some (.slice (if t=0 then A else some ⟨b1,0,none⟩) (if t=0 then n else 1) (if t=0 then c else 1))) hM=>large_any (fun t=>if t=0 then n else 1) (fun t=>if t=0 then m else fun _=>k) (fun t=>if t=0 then x else fun _=>y) (fun t=>if t=0 then A else some ⟨b1,0,none⟩) (fun t=>if t=0 then c else 1) bs w hc hM)
 clear hA hB hT
 go_enter Tryz.func7,Tryz.ntmps7
 go_wp2_with (with_reducible refine yq _ ?_;(try generalize (G.w _).heap.size=bk);(try dsimp only[yi,yj]);(try clear g);intro g)
 refine(CLV.out _ (G.tab g HT.out)).mono ?_
 rintro e w1 ⟨rfl,hb⟩
 obtain⟨g1,rfl⟩:=G.call_ex _ hb
 clear hb
 (try clear g)
 revert g1
 intro g
 go_wp2_with (with_reducible refine yq _ ?_;(try generalize (G.w _).heap.size=bk);(try dsimp only[yi,yj]);(try clear g);intro g)
 (try(refine cmark _ ?_;(try dsimp only[yi,yj]);(try clear g);intro g))
 refine(CLG.out _ _ _ (two_cases (G.cell0 g 0) (G.cell0 g 1)) (two_cases (HA.out.mono (g.sub _ (by simp))) (mtM g (n:=1) (m:=fun _=>k) (x:=fun _=>y) (.tail _ (.head _)) (by decide) (fun i hi=>by
  obtain rfl:i=0:=by omega
  exact⟨B,d,rfl,HB.out.mono (g.sub _ (by simp))⟩)))).mono ?_
 rintro e w1 ⟨Lg,hLg,rfl,hb⟩
 obtain⟨g1,rfl⟩:=G.call_ex _ hb
 clear hb g CLV CLG
 revert g1
 intro g
 cases Lg
 case true=>
  clear hLg
  go_wp2_with (with_reducible refine yq _ ?_;(try generalize (G.w _).heap.size=bk);(try dsimp only[yi,yj]);(try clear g);intro g)
  go_ret
  exact⟨rfl,G.below _⟩
 have hs1:SzM n m x:=hLg rfl 0 (by decide)
 have hs3:SzM 1 (fun _=>k) (fun _=>y):=hLg rfl 1 (by decide)
 have hs2:SzR k y:=hs3.2 0 (by decide)
 clear hs3
 obtain⟨E1,D1,h13,h14⟩:=def_both HA.out hs1
 obtain⟨E2,N2,Z2,z2,h21,h23,h24⟩:=fac_both HA.out hs1
 obtain⟨E3,T3,h33,h34⟩:=quad_both HA.out HB.out hs1 hs2
 have C1:=Lib.hid h13
 have R1:=Lib.hid h14
 have C2:=Lib.hid h23
 have R2:=Lib.hid h24
 have C3:=Lib.hid h33
 have R3:=Lib.hid h34
 unfold RErrB at C1 R1
 unfold RFO at C2 R2
 unfold RTO at C3 R3
 have S1:=Lib.hid (fun p q r p' q' r' w h h'=>rsame5_x T3 p q r p' q' r' w h h')
 have S2:=Lib.hid (fun A B c d w hA hB=>samemat_x N2 (fun _=>N2) (rawM Z2) A B c d w hA hB h21 (fun _ _=>h21))
 have S3:=Lib.hid (fun A B c d w hA hB=>samelist_x N2 (rawR z2) A B c d w hA hB h21)
 clear hLg hs1 hs2 h13 h14 h21 h23 h24 h33 h34
 obtain⟨g2,hg2⟩:=G.less g (M':=[]) (List.nil_sublist _)
 rw[hg2]
 clear hg2 g
 revert g2
 intro g
 (as_aux_lemma=>
  go_wp2_with (with_reducible refine yq _ ?_;(try generalize (G.w _).heap.size=bk);(try dsimp only[yi,yj]);(try clear g);intro g)
  refine(C1.out _ (g.sub _ (by simp)) (G.tab g HT.out)).mono ?_
  rintro e w1 ⟨rfl,hb⟩
  obtain⟨g1,rfl⟩:=G.call_ex _ hb
  clear hb
  (try clear g)
  revert g1
  intro g
  go_wp2_with (with_reducible refine yq _ ?_;(try generalize (G.w _).heap.size=bk);(try dsimp only[yi,yj]);(try clear g);intro g)
  refine(R1.out _ (g.sub _ (by simp))).mono ?_
  rintro e w1 ⟨rfl,hb⟩
  obtain⟨g1,rfl⟩:=G.call_ex _ hb
  clear hb
  (try clear g)
  revert g1
  intro g
  clear C1 R1
  go_wp2_with (with_reducible refine yq _ ?_;(try generalize (G.w _).heap.size=bk);(try dsimp only[yi,yj]);(try clear g);intro g)
  refine(C2.out _ (g.sub _ (by simp)) (G.tab g HT.out)).mono ?_
  rintro e w1 ⟨A1,c1,B1,k1,F1,rfl,hm1,hr1,hn⟩
  obtain⟨g1,rfl,ho1⟩:=G.nor_ex _ (by simp) hn
  clear hn ho1
  (try clear g)
  revert g1
  intro g
  go_wp2_with (with_reducible refine yq _ ?_;(try generalize (G.w _).heap.size=bk);(try dsimp only[yi,yj]);(try clear g);intro g)
  refine(R2.out _ (g.sub _ (by simp))).mono ?_
  rintro e w1 ⟨A2,c2,B2,k2,F2,rfl,hm2,hr2,hn⟩
  obtain⟨g1,rfl,ho2⟩:=G.nor_ex _ (by simp) hn
  clear hn ho2
  (try clear g)
  revert g1
  intro g
  clear C2 R2
  (as_aux_lemma=>
   go_wp2_with (with_reducible refine yq _ ?_;(try generalize (G.w _).heap.size=bk);(try dsimp only[yi,yj]);(try clear g);intro g)
   (try(refine cmark _ ?_;(try dsimp only[yi,yj]);(try clear g);intro g))
   refine(C3.out _ (g.sub _ (by simp)) (G.tab g HT.out)).mono ?_
   rintro e w1 ⟨pa,qa,ra,Fa,rfl,ha,hn⟩
   obtain⟨sa,Aa,na,ca,Ba,da,ka,rfl,rfl,rfl⟩:=ha.shape
   obtain⟨g1,rfl,hoa⟩:=G.nor_ex _ (by simp) hn
   clear hn
   (try clear g)
   revert g1
   intro g
   go_wp2_with (with_reducible refine yq _ ?_;(try generalize (G.w _).heap.size=bk);(try dsimp only[yi,yj]);(try clear g);intro g)
   (try(refine cmark _ ?_;(try dsimp only[yi,yj]);(try clear g);intro g))
   refine(R3.out _ (g.sub _ (by simp))).mono ?_
   rintro e w1 ⟨pb,qb,rb,Fb,rfl,hb,hn⟩
   obtain⟨sb,Ab,nb,cb,Bb,db,kb,rfl,rfl,rfl⟩:=hb.shape
   obtain⟨g1,rfl,hob⟩:=G.nor_ex _ (by simp) hn
   clear hn
   (try clear g)
   revert g1
   intro g
   clear C3 R3
   (as_aux_lemma=>
    go_wp2_with (with_reducible refine yq _ ?_;(try generalize (G.w _).heap.size=bk);(try dsimp only[yi,yj]);(try clear g);intro g)
    (try(refine cmark _ ?_;(try dsimp only[yi,yj]);(try clear g);intro g))
    refine(S2.out _ _ _ _ _ (hm1.mono (g.sub _ (by simp))) (hm2.mono (g.sub _ (by simp)))).mono ?_
    rintro e w1 ⟨rfl,hb⟩
    obtain⟨g1,rfl⟩:=G.call_ex _ hb
    clear hb
    (try clear g)
    revert g1
    intro g
    go_wp2_with (with_reducible refine yq _ ?_;(try generalize (G.w _).heap.size=bk);(try dsimp only[yi,yj]);(try clear g);intro g)
    (try(refine cmark _ ?_;(try dsimp only[yi,yj]);(try clear g);intro g))
    refine(S3.out _ _ _ _ _ (G.rwI g (by simp) hr1) (G.rwI g (by simp) hr2)).mono ?_
    rintro e w1 ⟨rfl,hb⟩
    obtain⟨g1,rfl⟩:=G.call_ex _ hb
    clear hb
    (try clear g)
    revert g1
    intro g
    go_wp2_with (with_reducible refine yq _ ?_;(try generalize (G.w _).heap.size=bk);(try dsimp only[yi,yj]);(try clear g);intro g)
    (try(refine cmark _ ?_;(try dsimp only[yi,yj]);(try clear g);intro g))
    refine(S1.out _ _ _ _ _ _ _ (G.rtI g (by simp) ha) (G.rtI g (by simp) hb)).mono ?_
    rintro e w1 ⟨rfl,hb⟩
    obtain⟨g1,rfl⟩:=G.call_ex _ hb
    clear hb
    (try clear g)
    revert g1
    intro g
    go_wp2_with (with_reducible refine yq _ ?_;(try generalize (G.w _).heap.size=bk);(try dsimp only[yi,yj]);(try clear g);intro g)
    go_ret
    exact⟨rfl,G.below _⟩)))
end Go.Proofs.YthhbbnfnejjpiaaGreatDoor
