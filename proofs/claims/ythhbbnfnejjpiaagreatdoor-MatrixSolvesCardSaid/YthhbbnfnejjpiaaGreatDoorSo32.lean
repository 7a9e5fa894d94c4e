/- Plain facts and contracts of functions of the program, out of walks. Their conditions stand ahead of each. -/
import Derived.Test.YthhbbnfnejjpiaaGreatDoorSo2
import Derived.Test.YthhbbnfnejjpiaaGreatDoorSo26
import Derived.Test.YthhbbnfnejjpiaaGreatDoorSo28
import Derived.Test.YthhbbnfnejjpiaaGreatDoorSo29
import Derived.Test.YthhbbnfnejjpiaaGreatDoorSo31
import Derived.Below
import Derived.BigQuiet
import Derived.Deep.DeepCutAuto
import Derived.Deep.Draws
import Derived.Deep.LoopGhost
import Derived.Deep.QuietTactic
import Derived.Deep.RegionHeld3
import Derived.Deep.RegionLaw
import Derived.Defers
import Derived.Laws.BytesString
import Derived.Laws.Cells
import Derived.Laws.Concat
import Derived.Laws.CopyOwn
import Derived.Laws.CopyRow
import Derived.Laws.NewBlocks
import Derived.Laws.OwnMore
import Derived.Laws.Pointers
import Derived.Laws.Rows
import Derived.Lib.BitFns
import Derived.Lib.Hide
import Derived.Lib.ItoaNum
import Derived.Lib.SliceRun
import Derived.Lib.TrailingZeros
import Derived.LoopIn
import Derived.LoopNIn
import Derived.Maps.AppendAt
import Derived.OrdersHeld
import Derived.OrdersIn
import Derived.OwnWalk
import Derived.OwnWalkIn
import Derived.RangeFuncBound
import Derived.RangeFuncBox
import Derived.RangeFuncCalls
import Derived.RangeFuncLeaves
import Derived.RangeFuncNested
import Derived.RangeFuncWrites
import Derived.RowKit3
import Derived.Shelf.Abstract
import Derived.Shelf.RegionOpen
import Derived.Shelf.Spec.TrailingZeros
import Derived.StillTactics
import Derived.StillTailTactics
import Derived.TacticsInMore
import Derived.Test.YthhbbnfnejjpiaaGreatDoorProg
import Derived.WalkKit
import Derived.WalkLawsBesides
import Derived.WalkMore
import Derived.WalkSpells
set_option linter.unusedVariables false
set_option linter.unusedSimpArgs false
set_option exponentiation.threshold 10000
namespace Go.Proofs.YthhbbnfnejjpiaaGreatDoor
open Go.RowKit GW NL MX
attribute [local go_sem] Oper.semAt_some
set_option maxRecDepth 100000 in
set_option maxHeartbeats 8000000 in
theorem wide_iter (m m2 n sb eb rb capr kb xb cb e2 cols:Nat)(F0:Frag){w0:World}{M:List Blk}{I:List Frag}{B:Nat}(s0:El)(hn:n≤1000)(hcm:cols≤m)(hm:m≤1000)(hcap:n≤capr)(hcap2:capr≤9223372036854775807)(hr0:s0.rk=0)(h0:0<n)
  (hfine:∀c,c<cols→∀p,findP (runE n s0 c).x n c (runE n s0 c).rk=some p→Fine n (m+m2) (swapE (runE n s0 c) p) c∧Bd 8192 (runE n s0 c).det) (hT:Tab w0) (hS:InF (sumF sb) I) (hB:w0.heap.size≤B)
  (l D:Nat) (oL oD:Obj) (nn:Nat) (W1:World) (hoL:oL.isCells=false) (hoD:oD.isCells=false) (hl:W1.heap[l]?=some oL) (hD:W1.heap[D]?=some oD)
  (hW:ElW 132 (fun F y x u=>RowW m m2 F y x u) w0 n sb eb rb capr kb xb cb e2 cols F0 M I B s0 W1)
  (hY:∀(s:El×Nat) (W:World),(Ready n m (m+m2) s.1 s.2∧ElW 132 (fun F y x u=>RowW m m2 F y x u) w0 n sb eb rb capr kb xb cb e2 cols F0 M I B s.1 W)→W.heap[l]?=some oL→W.heap[D]?=some oD→YieldAt Fence.wide (nn-1) Tryz.prog l #[.int .i64 (s.2:Int),.int .i64 (s.1.rk:Int)] W fun e W'=>e=.returned (.bool true)∧ElW 132 (fun F y x u=>RowW m m2 F y x u) w0 n sb eb rb capr kb xb cb e2 cols F0 M I B (roundE s.1 s.2) W'∧W'.heap[l]?=some oL∧W'.heap[D]?=some oD):
  CallsIn Fence.wide nn Tryz.prog 131 #[.func (.yield l) #[] #[],.pointer (some ⟨cb,0,none⟩),.pointer (some ⟨xb,0,none⟩)] W1 fun e W'=>(∃v,e=.returned v)∧ElW 132 (fun F y x u=>RowW m m2 F y x u) w0 n sb eb rb capr kb xb cb e2 cols F0 M I B (runE n s0 cols) W'∧W'.heap[l]?=some oL∧W'.heap[D]?=some oD:=by
 refine callsIn_wide.2 ?_
 have hE:=hW.up hoL hoD hl hD
 have HY:=Lib.hid hY
 have HF:=Lib.hid hfine
 have HT:=Lib.hid hT
 have HS:=Lib.hid hS
 have HB:=Lib.hid (⟨hB,hcm,hm,hn,hcap,hcap2⟩:_∧_∧_∧_∧_∧_)
 obtain⟨rs,R,F,p,q,r,k1,k2,k3,k4,g,rfl⟩:=hE
 obtain⟨s1,A1,n1,c1,B1,d1,e1,rfl,rfl,rfl⟩:=k1.shape
 have HE:Hid (ElW 132 (fun F y x u=>RowW m m2 F y x u) w0 n sb eb rb capr kb xb cb e2 cols F0 M (blkF l oL::blkF D oD::I) B s0 g.w):=Lib.hid ⟨rs,R,F,_,_,_,k1,k2,k3,k4,g,rfl⟩
 clear hY hfine hT hS hB hcm hm hW k1 k2 k3 k4 hl hD
 go_enter Tryz.func131,Tryz.ntmps131
 go_wp2_with (with_reducible refine yq _ ?_;(try generalize (G.w _).heap.size=bk);(try dsimp only[yi,yj]);(try clear g);intro g)
 go_loopw [4,8] (fun a i wr=>∃c:Nat,i=.int .i64 (c:Int)∧c≤cols∧(runE n s0 c).rk<n∧a=.int .i64 ((runE n s0 c).rk:Int)∧ElW 132 (fun F y x u=>RowW m m2 F y x u) w0 n sb eb rb capr kb xb cb e2 cols F0 M (blkF l oL::blkF D oD::I) B (runE n s0 c) wr) (fun _ i _=>cols-(intOf i).toNat)
 case atStart=>exact⟨0,rfl,by omega,by show s0.rk<n;omega,by show Value.int .i64 0=.int .i64 (s0.rk:Int);rw[hr0];rfl,HE.out⟩
 case round =>
  clear g HE rs R F s1 A1 n1 c1 B1 d1 e1
  obtain⟨c,rfl,hc,hrk,rfl,hE⟩:=hrel
  by_cases hcc:c<cols
  ·have hci:(c:Int)<(cols:Int):=by omega
   have hcols:cols≤1000:=by have:=HB.out;omega
   obtain⟨s,hs⟩:∃s,runE n s0 c=s:=⟨_,rfl⟩
   have hFi:=HF.out c hcc
   rw[hs] at hE hrk hFi
   rw[hs]
   have HSS:=Lib.hid hs
   have HFI:=Lib.hid hFi
   clear hs hFi
   obtain⟨rs,R,F,p,q,r,k1,k2,k3,k4,g,rfl⟩:=hE
   obtain⟨s1,A1,n1,c1,B1,d1,e1,rfl,rfl,rfl⟩:=k1.shape
   have K1:=Lib.hid k1
   have K2:=Lib.hid k2
   have K34:=Lib.hid (And.intro k3 k4)
   clear k1 k2 k3 k4
   have hrki:(s.rk:Int)≤(n:Int):=by omega
   go_wp2_with (with_reducible refine yq _ ?_;(try generalize (G.w _).heap.size=bk);(try dsimp only[yi,yj]);(try clear g);intro g)
   (try(refine cmark _ ?_;(try dsimp only[yi,yj]);(try clear g);intro g))
   refine(wide_index m m2 n c s.rk (capr-s.rk) F s.x rb bk (by have:=HB.out;omega) (by omega) hn _ (G.rowsW g K2.out (by simp) (fun x hx=>by simp[hx])) (G.cell0 g 0)).mono ?_
   rintro e w1 ⟨rfl,hb⟩
   obtain⟨g1,rfl⟩:=G.call_ex _ hb
   clear hb
   (try clear g)
   revert g1
   intro g
   cases hfp:findP s.x n c s.rk with
   |none=>
    have hiv:idxV s.x n c s.rk= -1:=by unfold idxV;rw[hfp]
    rw[hiv]
    clear hiv
    go_wp2_with (with_reducible refine yq _ ?_;(try generalize (G.w _).heap.size=bk);(try dsimp only[yi,yj]);(try clear g);intro g)
    obtain⟨g2,hg2⟩:=g.forget 1
    rw[hg2]
    have hE:ElW 132 (fun F y x u=>RowW m m2 F y x u) w0 n sb eb rb capr kb xb cb e2 cols F0 M (blkF l oL::blkF D oD::I) B (runE n s0 (c+1)) g2.w:=by
     have e:runE n s0 (c+1)=s:=by
      show stepE n c (runE n s0 c)=s
      rw[HSS.out]
      exact stepE_none hfp
     rw[e]
     exact⟨rs,R,F,_,_,_,K1.out,K2.out,K34.out.1,K34.out.2,g2,rfl⟩
    have e:(runE n s0 (c+1)).rk=s.rk:=by
     show(stepE n c (runE n s0 c)).rk=s.rk
     rw[HSS.out,stepE_none hfp]
    go_roundw
    case rel=>exact⟨c+1,by go_num,by omega,by rw[e];omega,by rw[e],hE⟩
    case measure=>simp[intOf];omega
   |some pp=>
    obtain⟨hp1,hp2,hp3,hp4⟩:=findP_some hfp
    obtain⟨d,hpd⟩:∃d,pp=s.rk+d:=⟨pp-s.rk,by omega⟩
    have hiv:idxV s.x n c s.rk=(d:Int):=by unfold idxV;rw[hfp];show(pp:Int)-(s.rk:Int)=d;omega
    rw[hiv]
    clear hiv
    have HFP:=Lib.hid hfp
    have HP:=Lib.hid (And.intro hp3 hp4)
    clear hfp hp3 hp4 hp1
    by_cases hd:d=0
    ·have hsw:swapE s pp=s:=by
      obtain rfl:pp=s.rk:=by omega
      unfold swapE
      rw[if_pos rfl,swapR_self]
     subst hd
     clear hpd
     have hE:Hid (ElW 132 (fun F y x u=>RowW m m2 F y x u) w0 n sb eb rb capr kb xb cb e2 cols F0 M (blkF l oL::blkF D oD::I) B (swapE s pp) g.w):=by
      obtain⟨g2,hg2⟩:=g.forget 1
      rw[hsw,hg2]
      exact Lib.hid ⟨rs,R,F,_,_,_,K1.out,K2.out,K34.out.1,K34.out.2,g2,rfl⟩
     clear hsw
     go_upto_region 9 with(with_reducible refine yq _ ?_;(try generalize (G.w _).heap.size=bk);(try dsimp only[yi,yj]);(try clear g);intro g)
     have HRD:Hid (Ready n m (m+m2) (swapE s pp) c):=Lib.hid ⟨hrk,by have:=HB.out;omega,by show swapR s.x s.rk pp s.rk c≠0;unfold swapR;rw[if_pos rfl];exact HP.out.1,(HFI.out pp HFP.out).1⟩
     have HST:Hid (runE n s0 (c+1)=roundE (swapE s pp) c):=Lib.hid (by show stepE n c (runE n s0 c)=_;rw[HSS.out];exact stepE_some HFP.out)
     obtain⟨hE1,hl1,hD1⟩:=hE.out.down
     obtain⟨fn,tmps,assign,body,hy,hR⟩:=HY.out (swapE s pp,c) g.w ⟨HRD.out,hE1⟩ hl1 hD1
     have hy2:(Instr.yield l #[.int .i64 (c:Int),.int .i64 (s.rk:Int)]).run Tryz.prog g.w=.ok (.round l fn tmps assign body) g.w:=hy
     clear hy hE1 hl1 hD1
     refine(wpIn_wide (n:=nn)).1 ?_
     gi_wp2
     refine⟨fun h=>(by simp[Fence.wide] at h),hR.mono ?_⟩
     rintro e W3 ⟨rfl,hE3,hl3,hD3⟩
     have hE4:=hE3.up hoL hoD hl3 hD3
     clear hE3 hl3 hD3 hR hy2
     clear hE g
     rw[←HST.out] at hE4
     have HE4:=Lib.hid hE4
     obtain⟨rs3,R3,F3,p3,q3,r3,k1,k2,k3,k4,g,rfl⟩:=hE4
     obtain⟨s3,A3,n3,c3,B3,d3,e3,rfl,rfl,rfl⟩:=k1.shape
     clear k1 k2 k3 k4
     have hrk1:(runE n s0 (c+1)).rk=s.rk+1:=by rw[HST.out];rfl
     dsimp only
     gi_wp2
     by_cases hfull:s.rk+1=n
     ·have hfi:((s.rk:Int)+1)=(n:Int):=by omega
      have HFL:=Lib.hid hfull
      clear hfull
      go_wp2_with (with_reducible refine yq _ ?_;(try generalize (G.w _).heap.size=bk);(try dsimp only[yi,yj]);(try clear g);intro g)
      refine bodyPost_ret (results_none rfl _ _ _) rfl ?_
      have e:runE n s0 cols=runE n s0 (c+1):=by
       have:=run_full (n:=n) (s:=s0) (c:=c+1) (by have:=HFL.out;omega) (cols-(c+1))
       rwa[show c+1+(cols-(c+1))=cols by omega] at this
      rw[e]
      exact⟨⟨_,rfl⟩,HE4.out.down⟩
     ·have hfi:¬ (((s.rk:Int)+1)=(n:Int)):=by omega
      go_wp2_with (with_reducible refine yq _ ?_;(try generalize (G.w _).heap.size=bk);(try dsimp only[yi,yj]);(try clear g);intro g)
      go_roundw
      case rel=>exact⟨c+1,by go_num,by omega,by omega,by rw[hrk1];go_num,HE4.out⟩
      case measure=>simp[intOf];omega
    ·have hd1:(0:Int)<(d:Int):=by omega
     go_upto_region 7 with(with_reducible refine yq _ ?_;(try generalize (G.w _).heap.size=bk);(try dsimp only[yi,yj]);(try clear g);intro g)
     ((try simp only[G.drew_eq,G.drewN_eq]);(refine yq _ ?_;(try generalize (G.w _).heap.size=bk);(try dsimp only[yi,yj]);(try clear g);intro g))
     obtain⟨va,hva⟩:∃u,rs[s.rk]?=some (.iface 132 u):=by
      obtain⟨Rs,h1,h2⟩:=K2.out
      obtain⟨v,h3,u,rfl,_⟩:=h2 s.rk (List.mem_range.2 hrk)
      exact⟨u,h3⟩
     obtain⟨vb,hvb⟩:∃u,rs[pp]?=some (.iface 132 u):=by
      obtain⟨Rs,h1,h2⟩:=K2.out
      obtain⟨v,h3,u,rfl,_⟩:=h2 pp (List.mem_range.2 hp2)
      exact⟨u,h3⟩
     have hne:s.rk≠pp:=by omega
     have hwr:IntKind.i64.wrap ((s.rk:Int)+(d:Int))=(pp:Int):=by rw[IntKind.wrap_i64];omega
     have hsum:(s.rk:Int)+(d:Int)=(pp:Int):=by omega
     have hp2j:(pp:Int)<(n:Int):=by omega
     have hrkj:(s.rk:Int)<(n:Int):=by omega
     have HPD:=Lib.hid hpd
     have hwr2:IntKind.i64.wrap (pp:Int)=(pp:Int):=by rw[IntKind.wrap_i64];omega
     clear hpd hwr
     refine wp_region_held_drew (S:=G.heldN g [false,true,false,false,true]) (by kernel_rfl) (by simp[G.heldN,HeldN,go_sem]) (fun hHeld=>?_)
     refine tk0 [0,1,2,3,4,5,6,7,8,9,10,11,12,13,14,15,16,17,18,19,21,22,23,24,25,26] ?_
     repeat (refine tkc rfl (by kernel_rfl) (fun _ _ _ h=>h) (by rfl) ‹_› (by intro w hSw;(try dsimp only at hSw);go_simp;(try with_reducible rfl)) ?_;try simp only[Act.put,yk,yl,yn,yo,yi,yj])
     refine tkn ?_
     refine wpAnyH_ready (rs:=[20,27]) (by kernel_rfl) (by simp) ?_
     refine AllReadyH.cons rfl (fun K hK=>?_) (AllReadyH.cons rfl (fun K hK=>?_) AllReadyH.nil)
     ·(try simp only[Act.put,yk,yl,yn,yo,yi,yj])
      go_simp
      refine hK.out _ _ (by simp[G.heldN,HeldN,go_sem]) (fun hHeld=>?_)
      clear hK K
      (try simp only[Act.put,yk,yl,yn,yo,yi,yj])
      refine wpAnyH_ready (rs:=[27]) (by kernel_rfl) (by simp) ?_
      refine AllReadyH.cons rfl (fun K hK=>?_) AllReadyH.nil
      ·(try simp only[Act.put,yk,yl,yn,yo,yi,yj])
       go_simp
       refine hK.out _ _ (by simp[G.heldN,HeldN,go_sem]) (fun hHeld=>?_)
       clear hK K
       (try simp only[Act.put,yk,yl,yn,yo,yi,yj])
       refine tk0 [28] ?_
       repeat (refine tkc rfl (by kernel_rfl) (fun _ _ _ h=>h) (by rfl) ‹_› (by intro w hSw;(try dsimp only at hSw);go_simp;(try with_reducible rfl)) ?_;try simp only[Act.put,yk,yl,yn,yo,yi,yj])
       refine tkn ?_
       refine wpAnyH_ready (rs:=[29]) (by kernel_rfl) (by simp) ?_
       refine AllReadyH.cons rfl (fun K hK=>?_) AllReadyH.nil
       ·(try simp only[Act.put,yk,yl,yn,yo,yi,yj])
        go_simp
        refine hK.out _ _ (by simp[G.heldN,HeldN,go_sem]) (fun hHeld=>?_)
        clear hK K
        (try simp only[Act.put,yk,yl,yn,yo,yi,yj])
        refine tk0 [30] ?_
        repeat (refine tkc rfl (by kernel_rfl) (fun _ _ _ h=>h) (by rfl) ‹_› (by intro w hSw;(try dsimp only at hSw);go_simp;(try with_reducible rfl)) ?_;try simp only[Act.put,yk,yl,yn,yo,yi,yj])
        refine tkn ?_
        refine wpAnyH_ready (rs:=[31]) (by kernel_rfl) (by simp) ?_
        refine AllReadyH.cons rfl (fun K hK=>?_) AllReadyH.nil
        ·(try simp only[Act.put,yk,yl,yn,yo,yi,yj])
         go_simp
         refine hK.out _ _ (by simp[G.heldN,HeldN,go_sem]) (fun hHeld=>?_)
         clear hK K
         (try simp only[Act.put,yk,yl,yn,yo,yi,yj])
         refine wpAnyH_done (by kernel_rfl) ?_ _
         (as_aux_lemma=>
          (try clear hHeld)
          ((try simp only[G.drew_eq,G.drewN_eq]);(refine yq _ ?_;(try generalize (G.w _).heap.size=bk);(try dsimp only[yi,yj]);(try clear g);intro g))
          have K2':=Lib.hid (K2.out.swap (P:=fun(y:Nat→Rat) v u=>∃x,v=.iface 132 x∧(fun F y x u=>RowW m m2 F y x u) F y x u) hrk hp2 hne hva hvb)
          obtain⟨rs2,hrs2⟩:∃rs2,(rs.set s.rk (.iface 132 vb)).set pp (.iface 132 va)=rs2:=⟨_,rfl⟩
          rw[hrs2] at K2'
          revert g
          rw[hrs2]
          intro g
          clear hrs2 hva hvb
          have CN:=Lib.hid (fun p q r w h1 t=>qNeg_r s.det (-s.det) (HFI.out pp HFP.out).2 rfl p q r w h1 t)
          unfold RT at CN
          go_upto_region 8 with(with_reducible refine yq _ ?_;(try generalize (G.w _).heap.size=bk);(try dsimp only[yi,yj]);(try clear g);intro g)
          ((try simp only[G.drew_eq,G.drewN_eq]);(refine yq _ ?_;(try generalize (G.w _).heap.size=bk);(try dsimp only[yi,yj]);(try clear g);intro g))
          refine wp_region_held_drew (S:=G.heldN g [false,false,false,false,true]) (by kernel_rfl) (by simp[G.heldN,HeldN,go_sem]) (fun hHeld=>?_)
          refine tk0 [0,1,2,3,5,6,7] ?_
          repeat (refine tkc rfl (by kernel_rfl) (fun _ _ _ h=>h) (by rfl) ‹_› (by intro w hSw;(try dsimp only at hSw);go_simp;(try with_reducible rfl)) ?_;try simp only[Act.put,yk,yl,yn,yo,yi,yj])
          refine tkn ?_
          refine wpAnyH_ready (rs:=[4,8]) (by kernel_rfl) (by simp) ?_
          refine AllReadyH.cons rfl (fun K hK=>?_) (AllReadyH.cons rfl (fun K hK=>?_) AllReadyH.nil)
          ·(try simp only[Act.put,yk,yl,yn,yo,yi,yj])
           go_simp
           refine hK.out _ _ (by simp[G.heldN,HeldN,go_sem]) (fun hHeld=>?_)
           clear hK K
           (try simp only[Act.put,yk,yl,yn,yo,yi,yj])
           refine wpAnyH_ready (rs:=[8]) (by kernel_rfl) (by simp) ?_
           refine AllReadyH.cons rfl (fun K hK=>?_) AllReadyH.nil
           ·(try simp only[Act.put,yk,yl,yn,yo,yi,yj])
            go_simp
            refine hK.out _ _ (by simp[G.heldN,HeldN,go_sem]) (fun hHeld=>?_)
            clear hK K
            (try simp only[Act.put,yk,yl,yn,yo,yi,yj])
            refine wpAnyH_ready (rs:=[9]) (by kernel_rfl) (by simp) ?_
            refine AllReadyH.cons rfl (fun K hK=>?_) AllReadyH.nil
            ·(try simp only[Act.put,yk,yl,yn,yo,yi,yj])
             go_simp
             go_at_call 134
             (try(refine cmark _ ?_;(try dsimp only[yi,yj]);(try clear g);intro g))
             refine(CN.out _ _ _ _ (G.rtI g (by simp) K1.out) (G.tab g HT.out)).mono ?_
             rintro e w1 ⟨pa,qa,ra,Fa,rfl,ha,hn⟩
             have hnna:=fun k o hk=>Nat.le_trans g.chg.size (hn.new k o hk)
             obtain⟨sa,Aa,na,ca,Ba,da,ka,rfl,rfl,rfl⟩:=ha.shape
             obtain⟨g1,rfl⟩:=G.new_ex _ hn
             clear hn
             (try clear g)
             revert g1
             intro g
             refine hK.out _ _ (by simp[G.heldN,HeldN,go_sem]) (fun hHeld=>?_)
             clear hK K
             (try simp only[Act.put,yk,yl,yn,yo,yi,yj])
             refine tk0 [10,11] ?_
             repeat (refine tkc rfl (by kernel_rfl) (fun _ _ _ h=>h) (by rfl) ‹_› (by intro w hSw;(try dsimp only at hSw);go_simp;(try with_reducible rfl)) ?_;try simp only[Act.put,yk,yl,yn,yo,yi,yj])
             refine tkn ?_
             refine wpAnyH_ready (rs:=[12]) (by kernel_rfl) (by simp) ?_
             refine AllReadyH.cons rfl (fun K hK=>?_) AllReadyH.nil
             ·(try simp only[Act.put,yk,yl,yn,yo,yi,yj])
              go_simp
              go_at_call 100
              (try(refine cmark _ ?_;(try dsimp only[yi,yj]);(try clear g);intro g))
              refine(stake_any _ _ _ _ _ _ _ _ _ (G.sumI g (by exact InF.tail (InF.tail (InF.tail (InF.tail HS.out)))))).mono ?_
              rintro e w1 ⟨rfl,hb⟩
              obtain⟨g1,rfl⟩:=G.call_ex _ hb
              clear hb
              (try clear g)
              revert g1
              intro g
              refine hK.out _ _ (by simp[G.heldN,HeldN,go_sem]) (fun hHeld=>?_)
              clear hK K
              (try simp only[Act.put,yk,yl,yn,yo,yi,yj])
              refine tk0 [13,14] ?_
              repeat (refine tkc rfl (by kernel_rfl) (fun _ _ _ h=>h) (by rfl) ‹_› (by intro w hSw;(try dsimp only at hSw);go_simp;(try with_reducible rfl)) ?_;try simp only[Act.put,yk,yl,yn,yo,yi,yj])
              refine tkn ?_
              refine wpAnyH_ready (rs:=[15]) (by kernel_rfl) (by simp) ?_
              refine AllReadyH.cons rfl (fun K hK=>?_) AllReadyH.nil
              ·(try simp only[Act.put,yk,yl,yn,yo,yi,yj])
               go_simp
               refine hK.out _ _ (by simp[G.heldN,HeldN,go_sem]) (fun hHeld=>?_)
               clear hK K
               (try simp only[Act.put,yk,yl,yn,yo,yi,yj])
               refine wpAnyH_done (by kernel_rfl) ?_ _
               (as_aux_lemma=>
                (try clear hHeld)
                ((try simp only[G.drew_eq,G.drewN_eq]);(refine yq _ ?_;(try generalize (G.w _).heap.size=bk);(try dsimp only[yi,yj]);(try clear g);intro g))
                have hE:Hid (ElW 132 (fun F y x u=>RowW m m2 F y x u) w0 n sb eb rb capr kb xb cb e2 cols F0 M (blkF l oL::blkF D oD::I) B (swapE s pp) g.w):=by
                 obtain⟨F',g2,e2,hle,hle2,hnew⟩:=g.merge
                 obtain⟨g3,e3⟩:=g2.forget 1
                 rw[e2,e3]
                 have hdet:(swapE s pp).det= -s.det:=if_neg (Ne.symm hne)
                 refine Lib.hid (ElW.make (s:=swapE s pp) (F:=F') (fun F y x u h=>RowW.only m m2 F y x u h) (by rw[hdet];exact ha.mono hle2) (K2'.out.next (fun _ _=>rfl) (fun j hj v u hq=>by obtain⟨x,e,hx⟩:=hq;exact⟨x,e,RowW.mono hx hle⟩)) (fun k o hk=>(hnew k o hk).elim (K34.out.1 k o) (fun h=> .inr (hnna k o h))) g3)
                clear ha hnna K2'
                go_upto_region 9 with(with_reducible refine yq _ ?_;(try generalize (G.w _).heap.size=bk);(try dsimp only[yi,yj]);(try clear g);intro g)
                clear hsum hp2j hwr2 HPD hd hd1 hrkj CN
                have HRD:Hid (Ready n m (m+m2) (swapE s pp) c):=Lib.hid ⟨hrk,by have:=HB.out;omega,by show swapR s.x s.rk pp s.rk c≠0;unfold swapR;rw[if_pos rfl];exact HP.out.1,(HFI.out pp HFP.out).1⟩
                have HST:Hid (runE n s0 (c+1)=roundE (swapE s pp) c):=Lib.hid (by show stepE n c (runE n s0 c)=_;rw[HSS.out];exact stepE_some HFP.out)
                obtain⟨hE1,hl1,hD1⟩:=hE.out.down
                obtain⟨fn,tmps,assign,body,hy,hR⟩:=HY.out (swapE s pp,c) g.w ⟨HRD.out,hE1⟩ hl1 hD1
                have hy2:(Instr.yield l #[.int .i64 (c:Int),.int .i64 (s.rk:Int)]).run Tryz.prog g.w=.ok (.round l fn tmps assign body) g.w:=hy
                clear hy hE1 hl1 hD1
                refine(wpIn_wide (n:=nn)).1 ?_
                gi_wp2
                refine⟨fun h=>(by simp[Fence.wide] at h),hR.mono ?_⟩
                rintro e W3 ⟨rfl,hE3,hl3,hD3⟩
                have hE4:=hE3.up hoL hoD hl3 hD3
                clear hE3 hl3 hD3 hR hy2
                clear hE g
                rw[←HST.out] at hE4
                have HE4:=Lib.hid hE4
                obtain⟨rs3,R3,F3,p3,q3,r3,k1,k2,k3,k4,g,rfl⟩:=hE4
                obtain⟨s3,A3,n3,c3,B3,d3,e3,rfl,rfl,rfl⟩:=k1.shape
                clear k1 k2 k3 k4
                have hrk1:(runE n s0 (c+1)).rk=s.rk+1:=by rw[HST.out];rfl
                dsimp only
                gi_wp2
                by_cases hfull:s.rk+1=n
                ·have hfi:((s.rk:Int)+1)=(n:Int):=by omega
                 have HFL:=Lib.hid hfull
                 clear hfull
                 go_wp2_with (with_reducible refine yq _ ?_;(try generalize (G.w _).heap.size=bk);(try dsimp only[yi,yj]);(try clear g);intro g)
                 refine bodyPost_ret (results_none rfl _ _ _) rfl ?_
                 have e:runE n s0 cols=runE n s0 (c+1):=by
                  have:=run_full (n:=n) (s:=s0) (c:=c+1) (by have:=HFL.out;omega) (cols-(c+1))
                  rwa[show c+1+(cols-(c+1))=cols by omega] at this
                 rw[e]
                 exact⟨⟨_,rfl⟩,HE4.out.down⟩
                ·have hfi:¬ (((s.rk:Int)+1)=(n:Int)):=by omega
                 go_wp2_with (with_reducible refine yq _ ?_;(try generalize (G.w _).heap.size=bk);(try dsimp only[yi,yj]);(try clear g);intro g)
                 go_roundw
                 case rel=>exact⟨c+1,by go_num,by omega,by omega,by rw[hrk1];go_num,HE4.out⟩
                 case measure=>simp[intOf];omega
                )
          ·(try simp only[Act.put,yk,yl,yn,yo,yi,yj])
           go_simp
           refine hK.out _ _ (by simp[G.heldN,HeldN,go_sem]) (fun hHeld=>?_)
           clear hK K
           (try simp only[Act.put,yk,yl,yn,yo,yi,yj])
           refine wpAnyH_ready (rs:=[4,9]) (by kernel_rfl) (by simp) ?_
           refine AllReadyH.cons rfl (fun K hK=>?_) (AllReadyH.cons rfl (fun K hK=>?_) AllReadyH.nil)
           ·(try simp only[Act.put,yk,yl,yn,yo,yi,yj])
            go_simp
            refine hK.out _ _ (by simp[G.heldN,HeldN,go_sem]) (fun hHeld=>?_)
            clear hK K
            (try simp only[Act.put,yk,yl,yn,yo,yi,yj])
            refine wpAnyH_ready (rs:=[9]) (by kernel_rfl) (by simp) ?_
            refine AllReadyH.cons rfl (fun K hK=>?_) AllReadyH.nil
            ·(try simp only[Act.put,yk,yl,yn,yo,yi,yj])
             go_simp
             go_at_call 134
             (try(refine cmark _ ?_;(try dsimp only[yi,yj]);(try clear g);intro g))
             refine(CN.out _ _ _ _ (G.rtI g (by simp) K1.out) (G.tab g HT.out)).mono ?_
             rintro e w1 ⟨pa,qa,ra,Fa,rfl,ha,hn⟩
             have hnna:=fun k o hk=>Nat.le_trans g.chg.size (hn.new k o hk)
             obtain⟨sa,Aa,na,ca,Ba,da,ka,rfl,rfl,rfl⟩:=ha.shape
             obtain⟨g1,rfl⟩:=G.new_ex _ hn
             clear hn
             (try clear g)
             revert g1
             intro g
             refine hK.out _ _ (by simp[G.heldN,HeldN,go_sem]) (fun hHeld=>?_)
             clear hK K
             (try simp only[Act.put,yk,yl,yn,yo,yi,yj])
             refine tk0 [10,11] ?_
             repeat (refine tkc rfl (by kernel_rfl) (fun _ _ _ h=>h) (by rfl) ‹_› (by intro w hSw;(try dsimp only at hSw);go_simp;(try with_reducible rfl)) ?_;try simp only[Act.put,yk,yl,yn,yo,yi,yj])
             refine tkn ?_
             refine wpAnyH_ready (rs:=[12]) (by kernel_rfl) (by simp) ?_
             refine AllReadyH.cons rfl (fun K hK=>?_) AllReadyH.nil
             ·(try simp only[Act.put,yk,yl,yn,yo,yi,yj])
              go_simp
              go_at_call 100
              (try(refine cmark _ ?_;(try dsimp only[yi,yj]);(try clear g);intro g))
              refine(stake_any _ _ _ _ _ _ _ _ _ (G.sumI g (by exact InF.tail (InF.tail (InF.tail (InF.tail HS.out)))))).mono ?_
              rintro e w1 ⟨rfl,hb⟩
              obtain⟨g1,rfl⟩:=G.call_ex _ hb
              clear hb
              (try clear g)
              revert g1
              intro g
              refine hK.out _ _ (by simp[G.heldN,HeldN,go_sem]) (fun hHeld=>?_)
              clear hK K
              (try simp only[Act.put,yk,yl,yn,yo,yi,yj])
              refine tk0 [13,14] ?_
              repeat (refine tkc rfl (by kernel_rfl) (fun _ _ _ h=>h) (by rfl) ‹_› (by intro w hSw;(try dsimp only at hSw);go_simp;(try with_reducible rfl)) ?_;try simp only[Act.put,yk,yl,yn,yo,yi,yj])
              refine tkn ?_
              refine wpAnyH_ready (rs:=[15]) (by kernel_rfl) (by simp) ?_
              refine AllReadyH.cons rfl (fun K hK=>?_) AllReadyH.nil
              ·(try simp only[Act.put,yk,yl,yn,yo,yi,yj])
               go_simp
               refine hK.out _ _ (by simp[G.heldN,HeldN,go_sem]) (fun hHeld=>?_)
               clear hK K
               (try simp only[Act.put,yk,yl,yn,yo,yi,yj])
               refine wpAnyH_done (by kernel_rfl) ?_ _
               (as_aux_lemma=>
                (try clear hHeld)
                ((try simp only[G.drew_eq,G.drewN_eq]);(refine yq _ ?_;(try generalize (G.w _).heap.size=bk);(try dsimp only[yi,yj]);(try clear g);intro g))
                have hE:Hid (ElW 132 (fun F y x u=>RowW m m2 F y x u) w0 n sb eb rb capr kb xb cb e2 cols F0 M (blkF l oL::blkF D oD::I) B (swapE s pp) g.w):=by
                 obtain⟨F',g2,e2,hle,hle2,hnew⟩:=g.merge
                 obtain⟨g3,e3⟩:=g2.forget 1
                 rw[e2,e3]
                 have hdet:(swapE s pp).det= -s.det:=if_neg (Ne.symm hne)
                 refine Lib.hid (ElW.make (s:=swapE s pp) (F:=F') (fun F y x u h=>RowW.only m m2 F y x u h) (by rw[hdet];exact ha.mono hle2) (K2'.out.next (fun _ _=>rfl) (fun j hj v u hq=>by obtain⟨x,e,hx⟩:=hq;exact⟨x,e,RowW.mono hx hle⟩)) (fun k o hk=>(hnew k o hk).elim (K34.out.1 k o) (fun h=> .inr (hnna k o h))) g3)
                clear ha hnna K2'
                go_upto_region 9 with(with_reducible refine yq _ ?_;(try generalize (G.w _).heap.size=bk);(try dsimp only[yi,yj]);(try clear g);intro g)
                clear hsum hp2j hwr2 HPD hd hd1 hrkj CN
                have HRD:Hid (Ready n m (m+m2) (swapE s pp) c):=Lib.hid ⟨hrk,by have:=HB.out;omega,by show swapR s.x s.rk pp s.rk c≠0;unfold swapR;rw[if_pos rfl];exact HP.out.1,(HFI.out pp HFP.out).1⟩
                have HST:Hid (runE n s0 (c+1)=roundE (swapE s pp) c):=Lib.hid (by show stepE n c (runE n s0 c)=_;rw[HSS.out];exact stepE_some HFP.out)
                obtain⟨hE1,hl1,hD1⟩:=hE.out.down
                obtain⟨fn,tmps,assign,body,hy,hR⟩:=HY.out (swapE s pp,c) g.w ⟨HRD.out,hE1⟩ hl1 hD1
                have hy2:(Instr.yield l #[.int .i64 (c:Int),.int .i64 (s.rk:Int)]).run Tryz.prog g.w=.ok (.round l fn tmps assign body) g.w:=hy
                clear hy hE1 hl1 hD1
                refine(wpIn_wide (n:=nn)).1 ?_
                gi_wp2
                refine⟨fun h=>(by simp[Fence.wide] at h),hR.mono ?_⟩
                rintro e W3 ⟨rfl,hE3,hl3,hD3⟩
                have hE4:=hE3.up hoL hoD hl3 hD3
                clear hE3 hl3 hD3 hR hy2
                clear hE g
                rw[←HST.out] at hE4
                have HE4:=Lib.hid hE4
                obtain⟨rs3,R3,F3,p3,q3,r3,k1,k2,k3,k4,g,rfl⟩:=hE4
                obtain⟨s3,A3,n3,c3,B3,d3,e3,rfl,rfl,rfl⟩:=k1.shape
                clear k1 k2 k3 k4
                have hrk1:(runE n s0 (c+1)).rk=s.rk+1:=by rw[HST.out];rfl
                dsimp only
                gi_wp2
                by_cases hfull:s.rk+1=n
                ·have hfi:((s.rk:Int)+1)=(n:Int):=by omega
                 have HFL:=Lib.hid hfull
                 clear hfull
                 go_wp2_with (with_reducible refine yq _ ?_;(try generalize (G.w _).heap.size=bk);(try dsimp only[yi,yj]);(try clear g);intro g)
                 refine bodyPost_ret (results_none rfl _ _ _) rfl ?_
                 have e:runE n s0 cols=runE n s0 (c+1):=by
                  have:=run_full (n:=n) (s:=s0) (c:=c+1) (by have:=HFL.out;omega) (cols-(c+1))
                  rwa[show c+1+(cols-(c+1))=cols by omega] at this
                 rw[e]
                 exact⟨⟨_,rfl⟩,HE4.out.down⟩
                ·have hfi:¬ (((s.rk:Int)+1)=(n:Int)):=by omega
                 go_wp2_with (with_reducible refine yq _ ?_;(try generalize (G.w _).heap.size=bk);(try dsimp only[yi,yj]);(try clear g);intro g)
                 go_roundw
                 case rel=>exact⟨c+1,by go_num,by omega,by omega,by rw[hrk1];go_num,HE4.out⟩
                 case measure=>simp[intOf];omega
                )
           ·(try simp only[Act.put,yk,yl,yn,yo,yi,yj])
            go_simp
            go_at_call 134
            (try(refine cmark _ ?_;(try dsimp only[yi,yj]);(try clear g);intro g))
            refine(CN.out _ _ _ _ (G.rtI g (by simp) K1.out) (G.tab g HT.out)).mono ?_
            rintro e w1 ⟨pa,qa,ra,Fa,rfl,ha,hn⟩
            have hnna:=fun k o hk=>Nat.le_trans g.chg.size (hn.new k o hk)
            obtain⟨sa,Aa,na,ca,Ba,da,ka,rfl,rfl,rfl⟩:=ha.shape
            obtain⟨g1,rfl⟩:=G.new_ex _ hn
            clear hn
            (try clear g)
            revert g1
            intro g
            refine hK.out _ _ (by simp[G.heldN,HeldN,go_sem]) (fun hHeld=>?_)
            clear hK K
            (try simp only[Act.put,yk,yl,yn,yo,yi,yj])
            refine tk0 [10,11] ?_
            repeat (refine tkc rfl (by kernel_rfl) (fun _ _ _ h=>h) (by rfl) ‹_› (by intro w hSw;(try dsimp only at hSw);go_simp;(try with_reducible rfl)) ?_;try simp only[Act.put,yk,yl,yn,yo,yi,yj])
            refine tkn ?_
            refine wpAnyH_ready (rs:=[4]) (by kernel_rfl) (by simp) ?_
            refine AllReadyH.cons rfl (fun K hK=>?_) AllReadyH.nil
            ·(try simp only[Act.put,yk,yl,yn,yo,yi,yj])
             go_simp
             refine hK.out _ _ (by simp[G.heldN,HeldN,go_sem]) (fun hHeld=>?_)
             clear hK K
             (try simp only[Act.put,yk,yl,yn,yo,yi,yj])
             refine wpAnyH_ready (rs:=[12]) (by kernel_rfl) (by simp) ?_
             refine AllReadyH.cons rfl (fun K hK=>?_) AllReadyH.nil
             ·(try simp only[Act.put,yk,yl,yn,yo,yi,yj])
              go_simp
              go_at_call 100
              (try(refine cmark _ ?_;(try dsimp only[yi,yj]);(try clear g);intro g))
              refine(stake_any _ _ _ _ _ _ _ _ _ (G.sumI g (by exact InF.tail (InF.tail (InF.tail (InF.tail HS.out)))))).mono ?_
              rintro e w1 ⟨rfl,hb⟩
              obtain⟨g1,rfl⟩:=G.call_ex _ hb
              clear hb
              (try clear g)
              revert g1
              intro g
              refine hK.out _ _ (by simp[G.heldN,HeldN,go_sem]) (fun hHeld=>?_)
              clear hK K
              (try simp only[Act.put,yk,yl,yn,yo,yi,yj])
              refine tk0 [13,14] ?_
              repeat (refine tkc rfl (by kernel_rfl) (fun _ _ _ h=>h) (by rfl) ‹_› (by intro w hSw;(try dsimp only at hSw);go_simp;(try with_reducible rfl)) ?_;try simp only[Act.put,yk,yl,yn,yo,yi,yj])
              refine tkn ?_
              refine wpAnyH_ready (rs:=[15]) (by kernel_rfl) (by simp) ?_
              refine AllReadyH.cons rfl (fun K hK=>?_) AllReadyH.nil
              ·(try simp only[Act.put,yk,yl,yn,yo,yi,yj])
               go_simp
               refine hK.out _ _ (by simp[G.heldN,HeldN,go_sem]) (fun hHeld=>?_)
               clear hK K
               (try simp only[Act.put,yk,yl,yn,yo,yi,yj])
               refine wpAnyH_done (by kernel_rfl) ?_ _
               (as_aux_lemma=>
                (try clear hHeld)
                ((try simp only[G.drew_eq,G.drewN_eq]);(refine yq _ ?_;(try generalize (G.w _).heap.size=bk);(try dsimp only[yi,yj]);(try clear g);intro g))
                have hE:Hid (ElW 132 (fun F y x u=>RowW m m2 F y x u) w0 n sb eb rb capr kb xb cb e2 cols F0 M (blkF l oL::blkF D oD::I) B (swapE s pp) g.w):=by
                 obtain⟨F',g2,e2,hle,hle2,hnew⟩:=g.merge
                 obtain⟨g3,e3⟩:=g2.forget 1
                 rw[e2,e3]
                 have hdet:(swapE s pp).det= -s.det:=if_neg (Ne.symm hne)
                 refine Lib.hid (ElW.make (s:=swapE s pp) (F:=F') (fun F y x u h=>RowW.only m m2 F y x u h) (by rw[hdet];exact ha.mono hle2) (K2'.out.next (fun _ _=>rfl) (fun j hj v u hq=>by obtain⟨x,e,hx⟩:=hq;exact⟨x,e,RowW.mono hx hle⟩)) (fun k o hk=>(hnew k o hk).elim (K34.out.1 k o) (fun h=> .inr (hnna k o h))) g3)
                clear ha hnna K2'
                go_upto_region 9 with(with_reducible refine yq _ ?_;(try generalize (G.w _).heap.size=bk);(try dsimp only[yi,yj]);(try clear g);intro g)
                clear hsum hp2j hwr2 HPD hd hd1 hrkj CN
                have HRD:Hid (Ready n m (m+m2) (swapE s pp) c):=Lib.hid ⟨hrk,by have:=HB.out;omega,by show swapR s.x s.rk pp s.rk c≠0;unfold swapR;rw[if_pos rfl];exact HP.out.1,(HFI.out pp HFP.out).1⟩
                have HST:Hid (runE n s0 (c+1)=roundE (swapE s pp) c):=Lib.hid (by show stepE n c (runE n s0 c)=_;rw[HSS.out];exact stepE_some HFP.out)
                obtain⟨hE1,hl1,hD1⟩:=hE.out.down
                obtain⟨fn,tmps,assign,body,hy,hR⟩:=HY.out (swapE s pp,c) g.w ⟨HRD.out,hE1⟩ hl1 hD1
                have hy2:(Instr.yield l #[.int .i64 (c:Int),.int .i64 (s.rk:Int)]).run Tryz.prog g.w=.ok (.round l fn tmps assign body) g.w:=hy
                clear hy hE1 hl1 hD1
                refine(wpIn_wide (n:=nn)).1 ?_
                gi_wp2
                refine⟨fun h=>(by simp[Fence.wide] at h),hR.mono ?_⟩
                rintro e W3 ⟨rfl,hE3,hl3,hD3⟩
                have hE4:=hE3.up hoL hoD hl3 hD3
                clear hE3 hl3 hD3 hR hy2
                clear hE g
                rw[←HST.out] at hE4
                have HE4:=Lib.hid hE4
                obtain⟨rs3,R3,F3,p3,q3,r3,k1,k2,k3,k4,g,rfl⟩:=hE4
                obtain⟨s3,A3,n3,c3,B3,d3,e3,rfl,rfl,rfl⟩:=k1.shape
                clear k1 k2 k3 k4
                have hrk1:(runE n s0 (c+1)).rk=s.rk+1:=by rw[HST.out];rfl
                dsimp only
                gi_wp2
                by_cases hfull:s.rk+1=n
                ·have hfi:((s.rk:Int)+1)=(n:Int):=by omega
                 have HFL:=Lib.hid hfull
                 clear hfull
                 go_wp2_with (with_reducible refine yq _ ?_;(try generalize (G.w _).heap.size=bk);(try dsimp only[yi,yj]);(try clear g);intro g)
                 refine bodyPost_ret (results_none rfl _ _ _) rfl ?_
                 have e:runE n s0 cols=runE n s0 (c+1):=by
                  have:=run_full (n:=n) (s:=s0) (c:=c+1) (by have:=HFL.out;omega) (cols-(c+1))
                  rwa[show c+1+(cols-(c+1))=cols by omega] at this
                 rw[e]
                 exact⟨⟨_,rfl⟩,HE4.out.down⟩
                ·have hfi:¬ (((s.rk:Int)+1)=(n:Int)):=by omega
                 go_wp2_with (with_reducible refine yq _ ?_;(try generalize (G.w _).heap.size=bk);(try dsimp only[yi,yj]);(try clear g);intro g)
                 go_roundw
                 case rel=>exact⟨c+1,by go_num,by omega,by omega,by rw[hrk1];go_num,HE4.out⟩
                 case measure=>simp[intOf];omega
                ))
     ·(try simp only[Act.put,yk,yl,yn,yo,yi,yj])
      go_simp
      refine hK.out _ _ (by simp[G.heldN,HeldN,go_sem]) (fun hHeld=>?_)
      clear hK K
      (try simp only[Act.put,yk,yl,yn,yo,yi,yj])
      refine wpAnyH_ready (rs:=[20]) (by kernel_rfl) (by simp) ?_
      refine AllReadyH.cons rfl (fun K hK=>?_) AllReadyH.nil
      ·(try simp only[Act.put,yk,yl,yn,yo,yi,yj])
       go_simp
       refine hK.out _ _ (by simp[G.heldN,HeldN,go_sem]) (fun hHeld=>?_)
       clear hK K
       (try simp only[Act.put,yk,yl,yn,yo,yi,yj])
       refine tk0 [28] ?_
       repeat (refine tkc rfl (by kernel_rfl) (fun _ _ _ h=>h) (by rfl) ‹_› (by intro w hSw;(try dsimp only at hSw);go_simp;(try with_reducible rfl)) ?_;try simp only[Act.put,yk,yl,yn,yo,yi,yj])
       refine tkn ?_
       refine wpAnyH_ready (rs:=[29]) (by kernel_rfl) (by simp) ?_
       refine AllReadyH.cons rfl (fun K hK=>?_) AllReadyH.nil
       ·(try simp only[Act.put,yk,yl,yn,yo,yi,yj])
        go_simp
        refine hK.out _ _ (by simp[G.heldN,HeldN,go_sem]) (fun hHeld=>?_)
        clear hK K
        (try simp only[Act.put,yk,yl,yn,yo,yi,yj])
        refine tk0 [30] ?_
        repeat (refine tkc rfl (by kernel_rfl) (fun _ _ _ h=>h) (by rfl) ‹_› (by intro w hSw;(try dsimp only at hSw);go_simp;(try with_reducible rfl)) ?_;try simp only[Act.put,yk,yl,yn,yo,yi,yj])
        refine tkn ?_
        refine wpAnyH_ready (rs:=[31]) (by kernel_rfl) (by simp) ?_
        refine AllReadyH.cons rfl (fun K hK=>?_) AllReadyH.nil
        ·(try simp only[Act.put,yk,yl,yn,yo,yi,yj])
         go_simp
         refine hK.out _ _ (by simp[G.heldN,HeldN,go_sem]) (fun hHeld=>?_)
         clear hK K
         (try simp only[Act.put,yk,yl,yn,yo,yi,yj])
         refine wpAnyH_done (by kernel_rfl) ?_ _
         (as_aux_lemma=>
          (try clear hHeld)
          ((try simp only[G.drew_eq,G.drewN_eq]);(refine yq _ ?_;(try generalize (G.w _).heap.size=bk);(try dsimp only[yi,yj]);(try clear g);intro g))
          have K2':=Lib.hid (K2.out.swap (P:=fun(y:Nat→Rat) v u=>∃x,v=.iface 132 x∧(fun F y x u=>RowW m m2 F y x u) F y x u) hrk hp2 hne hva hvb)
          obtain⟨rs2,hrs2⟩:∃rs2,(rs.set s.rk (.iface 132 vb)).set pp (.iface 132 va)=rs2:=⟨_,rfl⟩
          rw[hrs2] at K2'
          revert g
          rw[hrs2]
          intro g
          clear hrs2 hva hvb
          have CN:=Lib.hid (fun p q r w h1 t=>qNeg_r s.det (-s.det) (HFI.out pp HFP.out).2 rfl p q r w h1 t)
          unfold RT at CN
          go_upto_region 8 with(with_reducible refine yq _ ?_;(try generalize (G.w _).heap.size=bk);(try dsimp only[yi,yj]);(try clear g);intro g)
          ((try simp only[G.drew_eq,G.drewN_eq]);(refine yq _ ?_;(try generalize (G.w _).heap.size=bk);(try dsimp only[yi,yj]);(try clear g);intro g))
          refine wp_region_held_drew (S:=G.heldN g [false,false,false,false,true]) (by kernel_rfl) (by simp[G.heldN,HeldN,go_sem]) (fun hHeld=>?_)
          refine tk0 [0,1,2,3,5,6,7] ?_
          repeat (refine tkc rfl (by kernel_rfl) (fun _ _ _ h=>h) (by rfl) ‹_› (by intro w hSw;(try dsimp only at hSw);go_simp;(try with_reducible rfl)) ?_;try simp only[Act.put,yk,yl,yn,yo,yi,yj])
          refine tkn ?_
          refine wpAnyH_ready (rs:=[4,8]) (by kernel_rfl) (by simp) ?_
          refine AllReadyH.cons rfl (fun K hK=>?_) (AllReadyH.cons rfl (fun K hK=>?_) AllReadyH.nil)
          ·(try simp only[Act.put,yk,yl,yn,yo,yi,yj])
           go_simp
           refine hK.out _ _ (by simp[G.heldN,HeldN,go_sem]) (fun hHeld=>?_)
           clear hK K
           (try simp only[Act.put,yk,yl,yn,yo,yi,yj])
           refine wpAnyH_ready (rs:=[8]) (by kernel_rfl) (by simp) ?_
           refine AllReadyH.cons rfl (fun K hK=>?_) AllReadyH.nil
           ·(try simp only[Act.put,yk,yl,yn,yo,yi,yj])
            go_simp
            refine hK.out _ _ (by simp[G.heldN,HeldN,go_sem]) (fun hHeld=>?_)
            clear hK K
            (try simp only[Act.put,yk,yl,yn,yo,yi,yj])
            refine wpAnyH_ready (rs:=[9]) (by kernel_rfl) (by simp) ?_
            refine AllReadyH.cons rfl (fun K hK=>?_) AllReadyH.nil
            ·(try simp only[Act.put,yk,yl,yn,yo,yi,yj])
             go_simp
             go_at_call 134
             (try(refine cmark _ ?_;(try dsimp only[yi,yj]);(try clear g);intro g))
             refine(CN.out _ _ _ _ (G.rtI g (by simp) K1.out) (G.tab g HT.out)).mono ?_
             rintro e w1 ⟨pa,qa,ra,Fa,rfl,ha,hn⟩
             have hnna:=fun k o hk=>Nat.le_trans g.chg.size (hn.new k o hk)
             obtain⟨sa,Aa,na,ca,Ba,da,ka,rfl,rfl,rfl⟩:=ha.shape
             obtain⟨g1,rfl⟩:=G.new_ex _ hn
             clear hn
             (try clear g)
             revert g1
             intro g
             refine hK.out _ _ (by simp[G.heldN,HeldN,go_sem]) (fun hHeld=>?_)
             clear hK K
             (try simp only[Act.put,yk,yl,yn,yo,yi,yj])
             refine tk0 [10,11] ?_
             repeat (refine tkc rfl (by kernel_rfl) (fun _ _ _ h=>h) (by rfl) ‹_› (by intro w hSw;(try dsimp only at hSw);go_simp;(try with_reducible rfl)) ?_;try simp only[Act.put,yk,yl,yn,yo,yi,yj])
             refine tkn ?_
             refine wpAnyH_ready (rs:=[12]) (by kernel_rfl) (by simp) ?_
             refine AllReadyH.cons rfl (fun K hK=>?_) AllReadyH.nil
             ·(try simp only[Act.put,yk,yl,yn,yo,yi,yj])
              go_simp
              go_at_call 100
              (try(refine cmark _ ?_;(try dsimp only[yi,yj]);(try clear g);intro g))
              refine(stake_any _ _ _ _ _ _ _ _ _ (G.sumI g (by exact InF.tail (InF.tail (InF.tail (InF.tail HS.out)))))).mono ?_
              rintro e w1 ⟨rfl,hb⟩
              obtain⟨g1,rfl⟩:=G.call_ex _ hb
              clear hb
              (try clear g)
              revert g1
              intro g
              refine hK.out _ _ (by simp[G.heldN,HeldN,go_sem]) (fun hHeld=>?_)
              clear hK K
              (try simp only[Act.put,yk,yl,yn,yo,yi,yj])
              refine tk0 [13,14] ?_
              repeat (refine tkc rfl (by kernel_rfl) (fun _ _ _ h=>h) (by rfl) ‹_› (by intro w hSw;(try dsimp only at hSw);go_simp;(try with_reducible rfl)) ?_;try simp only[Act.put,yk,yl,yn,yo,yi,yj])
              refine tkn ?_
              refine wpAnyH_ready (rs:=[15]) (by kernel_rfl) (by simp) ?_
              refine AllReadyH.cons rfl (fun K hK=>?_) AllReadyH.nil
              ·(try simp only[Act.put,yk,yl,yn,yo,yi,yj])
               go_simp
               refine hK.out _ _ (by simp[G.heldN,HeldN,go_sem]) (fun hHeld=>?_)
               clear hK K
               (try simp only[Act.put,yk,yl,yn,yo,yi,yj])
               refine wpAnyH_done (by kernel_rfl) ?_ _
               (as_aux_lemma=>
                (try clear hHeld)
                ((try simp only[G.drew_eq,G.drewN_eq]);(refine yq _ ?_;(try generalize (G.w _).heap.size=bk);(try dsimp only[yi,yj]);(try clear g);intro g))
                have hE:Hid (ElW 132 (fun F y x u=>RowW m m2 F y x u) w0 n sb eb rb capr kb xb cb e2 cols F0 M (blkF l oL::blkF D oD::I) B (swapE s pp) g.w):=by
                 obtain⟨F',g2,e2,hle,hle2,hnew⟩:=g.merge
                 obtain⟨g3,e3⟩:=g2.forget 1
                 rw[e2,e3]
                 have hdet:(swapE s pp).det= -s.det:=if_neg (Ne.symm hne)
                 refine Lib.hid (ElW.make (s:=swapE s pp) (F:=F') (fun F y x u h=>RowW.only m m2 F y x u h) (by rw[hdet];exact ha.mono hle2) (K2'.out.next (fun _ _=>rfl) (fun j hj v u hq=>by obtain⟨x,e,hx⟩:=hq;exact⟨x,e,RowW.mono hx hle⟩)) (fun k o hk=>(hnew k o hk).elim (K34.out.1 k o) (fun h=> .inr (hnna k o h))) g3)
                clear ha hnna K2'
                go_upto_region 9 with(with_reducible refine yq _ ?_;(try generalize (G.w _).heap.size=bk);(try dsimp only[yi,yj]);(try clear g);intro g)
                clear hsum hp2j hwr2 HPD hd hd1 hrkj CN
                have HRD:Hid (Ready n m (m+m2) (swapE s pp) c):=Lib.hid ⟨hrk,by have:=HB.out;omega,by show swapR s.x s.rk pp s.rk c≠0;unfold swapR;rw[if_pos rfl];exact HP.out.1,(HFI.out pp HFP.out).1⟩
                have HST:Hid (runE n s0 (c+1)=roundE (swapE s pp) c):=Lib.hid (by show stepE n c (runE n s0 c)=_;rw[HSS.out];exact stepE_some HFP.out)
                obtain⟨hE1,hl1,hD1⟩:=hE.out.down
                obtain⟨fn,tmps,assign,body,hy,hR⟩:=HY.out (swapE s pp,c) g.w ⟨HRD.out,hE1⟩ hl1 hD1
                have hy2:(Instr.yield l #[.int .i64 (c:Int),.int .i64 (s.rk:Int)]).run Tryz.prog g.w=.ok (.round l fn tmps assign body) g.w:=hy
                clear hy hE1 hl1 hD1
                refine(wpIn_wide (n:=nn)).1 ?_
                gi_wp2
                refine⟨fun h=>(by simp[Fence.wide] at h),hR.mono ?_⟩
                rintro e W3 ⟨rfl,hE3,hl3,hD3⟩
                have hE4:=hE3.up hoL hoD hl3 hD3
                clear hE3 hl3 hD3 hR hy2
                clear hE g
                rw[←HST.out] at hE4
                have HE4:=Lib.hid hE4
                obtain⟨rs3,R3,F3,p3,q3,r3,k1,k2,k3,k4,g,rfl⟩:=hE4
                obtain⟨s3,A3,n3,c3,B3,d3,e3,rfl,rfl,rfl⟩:=k1.shape
                clear k1 k2 k3 k4
                have hrk1:(runE n s0 (c+1)).rk=s.rk+1:=by rw[HST.out];rfl
                dsimp only
                gi_wp2
                by_cases hfull:s.rk+1=n
                ·have hfi:((s.rk:Int)+1)=(n:Int):=by omega
                 have HFL:=Lib.hid hfull
                 clear hfull
                 go_wp2_with (with_reducible refine yq _ ?_;(try generalize (G.w _).heap.size=bk);(try dsimp only[yi,yj]);(try clear g);intro g)
                 refine bodyPost_ret (results_none rfl _ _ _) rfl ?_
                 have e:runE n s0 cols=runE n s0 (c+1):=by
                  have:=run_full (n:=n) (s:=s0) (c:=c+1) (by have:=HFL.out;omega) (cols-(c+1))
                  rwa[show c+1+(cols-(c+1))=cols by omega] at this
                 rw[e]
                 exact⟨⟨_,rfl⟩,HE4.out.down⟩
                ·have hfi:¬ (((s.rk:Int)+1)=(n:Int)):=by omega
                 go_wp2_with (with_reducible refine yq _ ?_;(try generalize (G.w _).heap.size=bk);(try dsimp only[yi,yj]);(try clear g);intro g)
                 go_roundw
                 case rel=>exact⟨c+1,by go_num,by omega,by omega,by rw[hrk1];go_num,HE4.out⟩
                 case measure=>simp[intOf];omega
                )
          ·(try simp only[Act.put,yk,yl,yn,yo,yi,yj])
           go_simp
           refine hK.out _ _ (by simp[G.heldN,HeldN,go_sem]) (fun hHeld=>?_)
           clear hK K
           (try simp only[Act.put,yk,yl,yn,yo,yi,yj])
           refine wpAnyH_ready (rs:=[4,9]) (by kernel_rfl) (by simp) ?_
           refine AllReadyH.cons rfl (fun K hK=>?_) (AllReadyH.cons rfl (fun K hK=>?_) AllReadyH.nil)
           ·(try simp only[Act.put,yk,yl,yn,yo,yi,yj])
            go_simp
            refine hK.out _ _ (by simp[G.heldN,HeldN,go_sem]) (fun hHeld=>?_)
            clear hK K
            (try simp only[Act.put,yk,yl,yn,yo,yi,yj])
            refine wpAnyH_ready (rs:=[9]) (by kernel_rfl) (by simp) ?_
            refine AllReadyH.cons rfl (fun K hK=>?_) AllReadyH.nil
            ·(try simp only[Act.put,yk,yl,yn,yo,yi,yj])
             go_simp
             go_at_call 134
             (try(refine cmark _ ?_;(try dsimp only[yi,yj]);(try clear g);intro g))
             refine(CN.out _ _ _ _ (G.rtI g (by simp) K1.out) (G.tab g HT.out)).mono ?_
             rintro e w1 ⟨pa,qa,ra,Fa,rfl,ha,hn⟩
             have hnna:=fun k o hk=>Nat.le_trans g.chg.size (hn.new k o hk)
             obtain⟨sa,Aa,na,ca,Ba,da,ka,rfl,rfl,rfl⟩:=ha.shape
             obtain⟨g1,rfl⟩:=G.new_ex _ hn
             clear hn
             (try clear g)
             revert g1
             intro g
             refine hK.out _ _ (by simp[G.heldN,HeldN,go_sem]) (fun hHeld=>?_)
             clear hK K
             (try simp only[Act.put,yk,yl,yn,yo,yi,yj])
             refine tk0 [10,11] ?_
             repeat (refine tkc rfl (by kernel_rfl) (fun _ _ _ h=>h) (by rfl) ‹_› (by intro w hSw;(try dsimp only at hSw);go_simp;(try with_reducible rfl)) ?_;try simp only[Act.put,yk,yl,yn,yo,yi,yj])
             refine tkn ?_
             refine wpAnyH_ready (rs:=[12]) (by kernel_rfl) (by simp) ?_
             refine AllReadyH.cons rfl (fun K hK=>?_) AllReadyH.nil
             ·(try simp only[Act.put,yk,yl,yn,yo,yi,yj])
              go_simp
              go_at_call 100
              (try(refine cmark _ ?_;(try dsimp only[yi,yj]);(try clear g);intro g))
              refine(stake_any _ _ _ _ _ _ _ _ _ (G.sumI g (by exact InF.tail (InF.tail (InF.tail (InF.tail HS.out)))))).mono ?_
              rintro e w1 ⟨rfl,hb⟩
              obtain⟨g1,rfl⟩:=G.call_ex _ hb
              clear hb
              (try clear g)
              revert g1
              intro g
              refine hK.out _ _ (by simp[G.heldN,HeldN,go_sem]) (fun hHeld=>?_)
              clear hK K
              (try simp only[Act.put,yk,yl,yn,yo,yi,yj])
              refine tk0 [13,14] ?_
              repeat (refine tkc rfl (by kernel_rfl) (fun _ _ _ h=>h) (by rfl) ‹_› (by intro w hSw;(try dsimp only at hSw);go_simp;(try with_reducible rfl)) ?_;try simp only[Act.put,yk,yl,yn,yo,yi,yj])
              refine tkn ?_
              refine wpAnyH_ready (rs:=[15]) (by kernel_rfl) (by simp) ?_
              refine AllReadyH.cons rfl (fun K hK=>?_) AllReadyH.nil
              ·(try simp only[Act.put,yk,yl,yn,yo,yi,yj])
               go_simp
               refine hK.out _ _ (by simp[G.heldN,HeldN,go_sem]) (fun hHeld=>?_)
               clear hK K
               (try simp only[Act.put,yk,yl,yn,yo,yi,yj])
               refine wpAnyH_done (by kernel_rfl) ?_ _
               (as_aux_lemma=>
                (try clear hHeld)
                ((try simp only[G.drew_eq,G.drewN_eq]);(refine yq _ ?_;(try generalize (G.w _).heap.size=bk);(try dsimp only[yi,yj]);(try clear g);intro g))
                have hE:Hid (ElW 132 (fun F y x u=>RowW m m2 F y x u) w0 n sb eb rb capr kb xb cb e2 cols F0 M (blkF l oL::blkF D oD::I) B (swapE s pp) g.w):=by
                 obtain⟨F',g2,e2,hle,hle2,hnew⟩:=g.merge
                 obtain⟨g3,e3⟩:=g2.forget 1
                 rw[e2,e3]
                 have hdet:(swapE s pp).det= -s.det:=if_neg (Ne.symm hne)
                 refine Lib.hid (ElW.make (s:=swapE s pp) (F:=F') (fun F y x u h=>RowW.only m m2 F y x u h) (by rw[hdet];exact ha.mono hle2) (K2'.out.next (fun _ _=>rfl) (fun j hj v u hq=>by obtain⟨x,e,hx⟩:=hq;exact⟨x,e,RowW.mono hx hle⟩)) (fun k o hk=>(hnew k o hk).elim (K34.out.1 k o) (fun h=> .inr (hnna k o h))) g3)
                clear ha hnna K2'
                go_upto_region 9 with(with_reducible refine yq _ ?_;(try generalize (G.w _).heap.size=bk);(try dsimp only[yi,yj]);(try clear g);intro g)
                clear hsum hp2j hwr2 HPD hd hd1 hrkj CN
                have HRD:Hid (Ready n m (m+m2) (swapE s pp) c):=Lib.hid ⟨hrk,by have:=HB.out;omega,by show swapR s.x s.rk pp s.rk c≠0;unfold swapR;rw[if_pos rfl];exact HP.out.1,(HFI.out pp HFP.out).1⟩
                have HST:Hid (runE n s0 (c+1)=roundE (swapE s pp) c):=Lib.hid (by show stepE n c (runE n s0 c)=_;rw[HSS.out];exact stepE_some HFP.out)
                obtain⟨hE1,hl1,hD1⟩:=hE.out.down
                obtain⟨fn,tmps,assign,body,hy,hR⟩:=HY.out (swapE s pp,c) g.w ⟨HRD.out,hE1⟩ hl1 hD1
                have hy2:(Instr.yield l #[.int .i64 (c:Int),.int .i64 (s.rk:Int)]).run Tryz.prog g.w=.ok (.round l fn tmps assign body) g.w:=hy
                clear hy hE1 hl1 hD1
                refine(wpIn_wide (n:=nn)).1 ?_
                gi_wp2
                refine⟨fun h=>(by simp[Fence.wide] at h),hR.mono ?_⟩
                rintro e W3 ⟨rfl,hE3,hl3,hD3⟩
                have hE4:=hE3.up hoL hoD hl3 hD3
                clear hE3 hl3 hD3 hR hy2
                clear hE g
                rw[←HST.out] at hE4
                have HE4:=Lib.hid hE4
                obtain⟨rs3,R3,F3,p3,q3,r3,k1,k2,k3,k4,g,rfl⟩:=hE4
                obtain⟨s3,A3,n3,c3,B3,d3,e3,rfl,rfl,rfl⟩:=k1.shape
                clear k1 k2 k3 k4
                have hrk1:(runE n s0 (c+1)).rk=s.rk+1:=by rw[HST.out];rfl
                dsimp only
                gi_wp2
                by_cases hfull:s.rk+1=n
                ·have hfi:((s.rk:Int)+1)=(n:Int):=by omega
                 have HFL:=Lib.hid hfull
                 clear hfull
                 go_wp2_with (with_reducible refine yq _ ?_;(try generalize (G.w _).heap.size=bk);(try dsimp only[yi,yj]);(try clear g);intro g)
                 refine bodyPost_ret (results_none rfl _ _ _) rfl ?_
                 have e:runE n s0 cols=runE n s0 (c+1):=by
                  have:=run_full (n:=n) (s:=s0) (c:=c+1) (by have:=HFL.out;omega) (cols-(c+1))
                  rwa[show c+1+(cols-(c+1))=cols by omega] at this
                 rw[e]
                 exact⟨⟨_,rfl⟩,HE4.out.down⟩
                ·have hfi:¬ (((s.rk:Int)+1)=(n:Int)):=by omega
                 go_wp2_with (with_reducible refine yq _ ?_;(try generalize (G.w _).heap.size=bk);(try dsimp only[yi,yj]);(try clear g);intro g)
                 go_roundw
                 case rel=>exact⟨c+1,by go_num,by omega,by omega,by rw[hrk1];go_num,HE4.out⟩
                 case measure=>simp[intOf];omega
                )
           ·(try simp only[Act.put,yk,yl,yn,yo,yi,yj])
            go_simp
            go_at_call 134
            (try(refine cmark _ ?_;(try dsimp only[yi,yj]);(try clear g);intro g))
            refine(CN.out _ _ _ _ (G.rtI g (by simp) K1.out) (G.tab g HT.out)).mono ?_
            rintro e w1 ⟨pa,qa,ra,Fa,rfl,ha,hn⟩
            have hnna:=fun k o hk=>Nat.le_trans g.chg.size (hn.new k o hk)
            obtain⟨sa,Aa,na,ca,Ba,da,ka,rfl,rfl,rfl⟩:=ha.shape
            obtain⟨g1,rfl⟩:=G.new_ex _ hn
            clear hn
            (try clear g)
            revert g1
            intro g
            refine hK.out _ _ (by simp[G.heldN,HeldN,go_sem]) (fun hHeld=>?_)
            clear hK K
            (try simp only[Act.put,yk,yl,yn,yo,yi,yj])
            refine tk0 [10,11] ?_
            repeat (refine tkc rfl (by kernel_rfl) (fun _ _ _ h=>h) (by rfl) ‹_› (by intro w hSw;(try dsimp only at hSw);go_simp;(try with_reducible rfl)) ?_;try simp only[Act.put,yk,yl,yn,yo,yi,yj])
            refine tkn ?_
            refine wpAnyH_ready (rs:=[4]) (by kernel_rfl) (by simp) ?_
            refine AllReadyH.cons rfl (fun K hK=>?_) AllReadyH.nil
            ·(try simp only[Act.put,yk,yl,yn,yo,yi,yj])
             go_simp
             refine hK.out _ _ (by simp[G.heldN,HeldN,go_sem]) (fun hHeld=>?_)
             clear hK K
             (try simp only[Act.put,yk,yl,yn,yo,yi,yj])
             refine wpAnyH_ready (rs:=[12]) (by kernel_rfl) (by simp) ?_
             refine AllReadyH.cons rfl (fun K hK=>?_) AllReadyH.nil
             ·(try simp only[Act.put,yk,yl,yn,yo,yi,yj])
              go_simp
              go_at_call 100
              (try(refine cmark _ ?_;(try dsimp only[yi,yj]);(try clear g);intro g))
              refine(stake_any _ _ _ _ _ _ _ _ _ (G.sumI g (by exact InF.tail (InF.tail (InF.tail (InF.tail HS.out)))))).mono ?_
              rintro e w1 ⟨rfl,hb⟩
              obtain⟨g1,rfl⟩:=G.call_ex _ hb
              clear hb
              (try clear g)
              revert g1
              intro g
              refine hK.out _ _ (by simp[G.heldN,HeldN,go_sem]) (fun hHeld=>?_)
              clear hK K
              (try simp only[Act.put,yk,yl,yn,yo,yi,yj])
              refine tk0 [13,14] ?_
              repeat (refine tkc rfl (by kernel_rfl) (fun _ _ _ h=>h) (by rfl) ‹_› (by intro w hSw;(try dsimp only at hSw);go_simp;(try with_reducible rfl)) ?_;try simp only[Act.put,yk,yl,yn,yo,yi,yj])
              refine tkn ?_
              refine wpAnyH_ready (rs:=[15]) (by kernel_rfl) (by simp) ?_
              refine AllReadyH.cons rfl (fun K hK=>?_) AllReadyH.nil
              ·(try simp only[Act.put,yk,yl,yn,yo,yi,yj])
               go_simp
               refine hK.out _ _ (by simp[G.heldN,HeldN,go_sem]) (fun hHeld=>?_)
               clear hK K
               (try simp only[Act.put,yk,yl,yn,yo,yi,yj])
               refine wpAnyH_done (by kernel_rfl) ?_ _
               (as_aux_lemma=>
                (try clear hHeld)
                ((try simp only[G.drew_eq,G.drewN_eq]);(refine yq _ ?_;(try generalize (G.w _).heap.size=bk);(try dsimp only[yi,yj]);(try clear g);intro g))
                have hE:Hid (ElW 132 (fun F y x u=>RowW m m2 F y x u) w0 n sb eb rb capr kb xb cb e2 cols F0 M (blkF l oL::blkF D oD::I) B (swapE s pp) g.w):=by
                 obtain⟨F',g2,e2,hle,hle2,hnew⟩:=g.merge
                 obtain⟨g3,e3⟩:=g2.forget 1
                 rw[e2,e3]
                 have hdet:(swapE s pp).det= -s.det:=if_neg (Ne.symm hne)
                 refine Lib.hid (ElW.make (s:=swapE s pp) (F:=F') (fun F y x u h=>RowW.only m m2 F y x u h) (by rw[hdet];exact ha.mono hle2) (K2'.out.next (fun _ _=>rfl) (fun j hj v u hq=>by obtain⟨x,e,hx⟩:=hq;exact⟨x,e,RowW.mono hx hle⟩)) (fun k o hk=>(hnew k o hk).elim (K34.out.1 k o) (fun h=> .inr (hnna k o h))) g3)
                clear ha hnna K2'
                go_upto_region 9 with(with_reducible refine yq _ ?_;(try generalize (G.w _).heap.size=bk);(try dsimp only[yi,yj]);(try clear g);intro g)
                clear hsum hp2j hwr2 HPD hd hd1 hrkj CN
                have HRD:Hid (Ready n m (m+m2) (swapE s pp) c):=Lib.hid ⟨hrk,by have:=HB.out;omega,by show swapR s.x s.rk pp s.rk c≠0;unfold swapR;rw[if_pos rfl];exact HP.out.1,(HFI.out pp HFP.out).1⟩
                have HST:Hid (runE n s0 (c+1)=roundE (swapE s pp) c):=Lib.hid (by show stepE n c (runE n s0 c)=_;rw[HSS.out];exact stepE_some HFP.out)
                obtain⟨hE1,hl1,hD1⟩:=hE.out.down
                obtain⟨fn,tmps,assign,body,hy,hR⟩:=HY.out (swapE s pp,c) g.w ⟨HRD.out,hE1⟩ hl1 hD1
                have hy2:(Instr.yield l #[.int .i64 (c:Int),.int .i64 (s.rk:Int)]).run Tryz.prog g.w=.ok (.round l fn tmps assign body) g.w:=hy
                clear hy hE1 hl1 hD1
                refine(wpIn_wide (n:=nn)).1 ?_
                gi_wp2
                refine⟨fun h=>(by simp[Fence.wide] at h),hR.mono ?_⟩
                rintro e W3 ⟨rfl,hE3,hl3,hD3⟩
                have hE4:=hE3.up hoL hoD hl3 hD3
                clear hE3 hl3 hD3 hR hy2
                clear hE g
                rw[←HST.out] at hE4
                have HE4:=Lib.hid hE4
                obtain⟨rs3,R3,F3,p3,q3,r3,k1,k2,k3,k4,g,rfl⟩:=hE4
                obtain⟨s3,A3,n3,c3,B3,d3,e3,rfl,rfl,rfl⟩:=k1.shape
                clear k1 k2 k3 k4
                have hrk1:(runE n s0 (c+1)).rk=s.rk+1:=by rw[HST.out];rfl
                dsimp only
                gi_wp2
                by_cases hfull:s.rk+1=n
                ·have hfi:((s.rk:Int)+1)=(n:Int):=by omega
                 have HFL:=Lib.hid hfull
                 clear hfull
                 go_wp2_with (with_reducible refine yq _ ?_;(try generalize (G.w _).heap.size=bk);(try dsimp only[yi,yj]);(try clear g);intro g)
                 refine bodyPost_ret (results_none rfl _ _ _) rfl ?_
                 have e:runE n s0 cols=runE n s0 (c+1):=by
                  have:=run_full (n:=n) (s:=s0) (c:=c+1) (by have:=HFL.out;omega) (cols-(c+1))
                  rwa[show c+1+(cols-(c+1))=cols by omega] at this
                 rw[e]
                 exact⟨⟨_,rfl⟩,HE4.out.down⟩
                ·have hfi:¬ (((s.rk:Int)+1)=(n:Int)):=by omega
                 go_wp2_with (with_reducible refine yq _ ?_;(try generalize (G.w _).heap.size=bk);(try dsimp only[yi,yj]);(try clear g);intro g)
                 go_roundw
                 case rel=>exact⟨c+1,by go_num,by omega,by omega,by rw[hrk1];go_num,HE4.out⟩
                 case measure=>simp[intOf];omega
                ))
  ·obtain rfl:c=cols:=by omega
   go_wp2_with (with_reducible refine yq _ ?_;(try generalize (G.w _).heap.size=bk);(try dsimp only[yi,yj]);(try clear g);intro g)
   refine bodyPost_end (results_none rfl _ _ _) rfl ?_
   exact⟨⟨_,rfl⟩,hE.down⟩
end Go.Proofs.YthhbbnfnejjpiaaGreatDoor
namespace Go.Proofs.YthhbbnfnejjpiaaGreatDoor
open Go.RowKit GW NL MX
theorem plain_ntake (u:Value)(w:World):(nilAhead 294 129 u "skyfix/matrix.take").run Tryz.prog w=.ok (some false) w:=by kernel_rfl
theorem wide_ntake (u:Value)(w:World):(nilAhead 294 132 u "skyfix/matrix.take").run Tryz.prog w=.ok (some false) w:=by kernel_rfl
theorem G.alloc1 {w0:World}{X:List Nat}{M:List Blk}{I:List Frag}(g:G w0 X M I)(T:TypeId)(cs:List Value):∃g':G w0 X ((g.w.heap.size,T,cs)::M) I,g.w.alloc (.cells cs.toArray T)=g'.w:=by
 exact G.own_ex g ((Below.refl _ _).alloc (Nat.le_refl _) _) (Nat.le_refl _) (World.alloc_heap_new g.w _)
theorem permRun {α:Type}(a b c d e f h:α)(L R:List α):(a::b::c::d::e::f::h::(R++L)).Perm (f::h::c::b::a::e::(R++d::L)):=by
 refine(List.perm_middle (l₁:=[a,b,c,d,e])).trans (List.Perm.cons _ ?_)
 refine(List.perm_middle (l₁:=[a,b,c,d,e])).trans (List.Perm.cons _ ?_)
 refine(List.perm_middle (l₁:=[a,b])).trans (List.Perm.cons _ ?_)
 refine(List.perm_middle (l₁:=[a])).trans (List.Perm.cons _ (List.Perm.cons _ ?_))
 exact(List.Perm.swap e d (R++L)).trans (List.Perm.cons e (List.perm_middle (l₁:=R) (a:=d) (l₂:=L)).symm)
theorem G.seeN2 {w0:World}{M:List Blk}{I:List Frag}{F:Frag}(g:G w0 [] M (F::I)):∃N:Frag,∃g':G w0 [] M (F::N::I),g.w=g'.w∧∀(k:Nat) (o:Obj),g.w.heap[k]?=some o→o.isCells=false→N k=some o:=by
 obtain⟨g1,e1⟩:=G.seeN g
 obtain⟨g2,e2⟩:=g1.lessI (I':=F::nonF g.w::I) (by intro f hf;simp only[List.mem_cons] at hf ⊢;rcases hf with h|h|h;exact .inr (.inl h);exact .inl h;exact .inr (.inr h))
 exact⟨nonF g.w,g2,e1.trans e2,fun k o h1 h2=>nonF_at h1 h2⟩
/-- the rows in front of row i are done -/
def takeU (x:Mx)(t c i:Nat):Mx:=fun j k=>if j≠t∧j<i then x j k-x j c*x t k else x j k
theorem takeU_zero (x:Mx)(t c j:Nat):takeU x t c 0 j=x j:=by
 funext k
 unfold takeU
 rw[if_neg (by omega)]
theorem takeU_at (x:Mx)(t c i:Nat):takeU x t c i i=x i:=by
 funext k
 unfold takeU
 rw[if_neg (by omega)]
theorem takeU_t (x:Mx)(t c i:Nat):takeU x t c i t=x t:=by
 funext k
 unfold takeU
 rw[if_neg (by omega)]
theorem takeU_ne (x:Mx)(t c:Nat){i j:Nat}(h:j≠i):takeU x t c (i+1) j=takeU x t c i j:=by
 funext k
 unfold takeU
 have:(j≠t∧j<i+1)↔(j≠t∧j<i):=by omega
 simp only[this]
theorem takeU_self (x:Mx)(t c j:Nat):takeU x t c (t+1) j=takeU x t c t j:=by
 by_cases h:j=t
 ·subst h;rw[takeU_at,takeU_t]
 ·exact takeU_ne x t c h
theorem takeU_null (x:Mx){t c i:Nat}(h:x i c=0)(j:Nat):takeU x t c (i+1) j=takeU x t c i j:=by
 by_cases e:j=i
 ·subst e
  rw[takeU_at]
  funext k
  unfold takeU
  split
  ·rw[h];grind
  ·rfl
 ·exact takeU_ne x t c e
theorem takeU_row (x:Mx){t c i:Nat}(h:i≠t):takeU x t c (i+1) i=fun k=>x i k-x i c*x t k:=by
 funext k
 unfold takeU
 rw[if_pos ⟨h,by omega⟩]
theorem takeU_end (x:Mx)(t c:Nat){n j:Nat}(h:j<n):takeU x t c n j=takeR x t c j:=by
 funext k
 unfold takeU takeR
 by_cases e:j=t
 ·rw[if_neg (by omega),if_pos e]
 ·rw[if_pos ⟨e,h⟩,if_neg e]
theorem divR_t (x:Mx)(t:Nat)(v:Rat):divR x t v t=fun k=>x t k/v:=by
 funext k
 unfold divR
 rw[if_pos rfl]
theorem divR_ne (x:Mx){t j:Nat}(v:Rat)(h:j≠t):divR x t v j=x j:=by
 funext k
 unfold divR
 rw[if_neg h]
theorem permDone {α:Type}(a b c d e f h:α)(L R:List α):(a::b::c::d::e::f::(R++h::L)).Perm (h::c::a::b::d::e::f::(R++L)):=by
 refine(List.perm_middle (l₁:=a::b::c::d::e::f::R) (a:=h) (l₂:=L)).trans (List.Perm.cons h ?_)
 exact List.perm_middle (l₁:=[a,b]) (a:=c) (l₂:=d::e::f::(R++L))
end Go.Proofs.YthhbbnfnejjpiaaGreatDoor
namespace Go.Proofs.YthhbbnfnejjpiaaGreatDoor
open Go.RowKit GW NL MX
set_option maxRecDepth 20000 in
theorem risZero_any (s:Bool)(A B:Option Addr)(n c d k:Nat)(w:World):
  Calls Tryz.prog 106 #[.agg #[.bool s,.slice A n c,.slice B d k]] w fun e w'=>e=.returned (.bool (decide (n=0)))∧Below w.heap.size w w':=by
 refine calls_g fun g=>?_
 by_cases h:n=0
 ·have hb:((n:Int)==0)=true:=by simp[h]
  have hd:decide (n=0)=true:=decide_eq_true h
  rw[hd]
  clear h hd
  go_enter Tryz.func106,Tryz.ntmps106
  go_wp2_with (with_reducible refine yq _ ?_;(try generalize (G.w _).heap.size=bk);(try dsimp only[yi,yj]);(try clear g);intro g)
  go_ret
  exact⟨rfl,G.below _⟩
 ·have hb:((n:Int)==0)=false:=by simpa using h
  have hd:decide (n=0)=false:=decide_eq_false h
  rw[hd]
  clear h hd
  go_enter Tryz.func106,Tryz.ntmps106
  go_wp2_with (with_reducible refine yq _ ?_;(try generalize (G.w _).heap.size=bk);(try dsimp only[yi,yj]);(try clear g);intro g)
  go_ret
  exact⟨rfl,G.below _⟩
theorem risZero_r (x:Rat)(p q r:Value)(w:World)(h:RtW w p q r (rawOf x)):
  Calls Tryz.prog 106 #[.agg #[p,q,r]] w fun e w'=>e=.returned (.bool (decide (x=0)))∧Below w.heap.size w w':=by
 obtain⟨s,A,n,c,B,d,k,rfl,rfl,rfl,hn⟩:=rt_null h
 rw[←hn]
 exact risZero_any s A B n c d k w
/-- A further row, where it lies. -/
theorem own_see {S:List Nat}{m lo:Nat}{T:TypeId}{F:Frag}{z:Nat→Nat→Raw}{R:List Blk}{cs:List Value}{i:Nat}(h:OwnOn S (fun j=>NumRow lo T F m (z j)) R cs)(hi:i∈S)(m1:1≤m):
  ∃rb cap rcs l R',cs[i]?=some (.slice (some ⟨rb,0,none⟩) m cap)∧lo≤rb∧Row T 3 m (cells3 l) cap rcs∧F.Tris l m (z i)∧R.Perm ((rb,T,rcs)::R')∧OwnOn S (fun j=>NumRow lo T F m (z j)) ((rb,T,rcs)::R') cs:=by
 obtain⟨v,s,R',hv,⟨A4,c4,l4,rfl,hvr4,hl4⟩,hp,hbut⟩:=(h.perm (List.perm_cons_erase hi)).open1
 rcases hvr4 with⟨_,_,h0,_⟩|⟨rb,rcs,rfl,rfl,hrb,hrrow⟩
 ·omega
 exact⟨rb,c4,rcs,l4,R',hv,hrb,hrrow,hl4,hp,h.permR hp⟩
theorem layO {w0:World}{M:List Blk}{I:List Frag}{F0:Frag}:∀(R:List Blk) {F:Frag} (g:G w0 [] (R++M) (F::I)),∃F':Frag,∃g':G w0 [] M (F'::I),g.w=g'.w∧F.le F'∧(∀m∈R,F' m.1=some (.cells m.2.2.toArray m.2.1 (0,0)))∧(F.over F0 w0→F'.over F0 w0)
 |[],F,g=>⟨F,g,rfl,Frag.le_refl F,by simp,id⟩
 | (b, T, cs) :: R, F, g => by
  have hb:=g.own _ (List.mem_cons_self ..)
  simp only at hb
  have hd:=g.dist
  rw[List.cons_append,List.map_cons,List.nodup_cons] at hd
  have hfr:=g.fresh (List.mem_cons_self ..)
  obtain⟨g1,e1⟩:=g.less (M':=R++M) (List.sublist_cons_self _ _)
  have hB:=blkF_sub hb
  rw[e1] at hB
  let g2:G w0 [] (R++M) (blkF b (.cells cs.toArray T (0,0))::F::I):=g1.see _ hB (fun k o e=>by
   refine⟨.inr (by simp),fun hm=>?_⟩
   unfold blkF at e
   split at e
   ·next h=>subst h;exact hd.1 hm
   ·cases e)
  obtain⟨F1,g3,e3,h1,h2,h3⟩:=g2.merge
  obtain⟨F',g',e',k1,k2,k3⟩:=layO R g3
  refine⟨F',g',(e1.trans e3).trans e',Frag.le_trans h1 k1,fun m hm=>?_,fun hn=>k3 fun k o hk=>?_⟩
  ·rcases List.mem_cons.1 hm with rfl|hm
   ·exact k1 _ _ (h2 _ _ (by unfold blkF;rw[if_pos rfl]))
   ·exact k2 m hm
  ·rcases h3 k o hk with hk|hk
   ·exact hn k o hk
   ·unfold blkF at hk
    split at hk
    ·next h=>subst h;exact .inr hfr
    ·cases hk
theorem frzO {w0:World}{n cc:Nat}{m:Nat→Nat}{x:Nat→Nat→Raw}{T Ts:TypeId}{F F0:Frag}{R M:List Blk}{I:List Frag}{oc:List Value}{ob:Nat}(g:G w0 [] ((ob,Ts,oc)::(R++M)) (F::I))(h:OwnOn (List.range n) (fun i=>NumRow w0.heap.size T F (m i) (x i)) R oc)(hn:F.over F0 w0)(h1:n≤cc)(h2:cc≤9223372036854775807)(h3:n≤140737488355328)(h4:∀i,i<n→m i≤140737488355328):
  ∃F':Frag,∃g':G w0 [] M (F'::I),g.w=g'.w∧F'.Mt (some ⟨ob,0,Option.none⟩) cc n m x∧F.le F'∧F'.over F0 w0:=by
 obtain⟨g1,e1⟩:=g.as (M':=((ob,Ts,oc)::R)++M) rfl
 obtain⟨F',g',e',hle,hb,hnw⟩:=layO ((ob,Ts,oc)::R) g1
 refine⟨F',g',e1.trans e',h.mt hle (fun m hm=>hb m (List.mem_cons_of_mem _ hm)) (hb _ (List.mem_cons_self ..)) h1 h2 h3 h4,hle,hnw hn⟩
/-- x with i rows and k entries of the next one copied -/
def cpM (x:Mx)(i k:Nat):Mx:=fun r c=>if r<i∨(r=i∧c<k) then x r c else 0
theorem cpM_ne {x:Mx}{i k r c:Nat}(h:¬ (r=i∧c=k)):cpM x i k r c=cpM x i (k+1) r c:=by
 unfold cpM
 by_cases h1:r<i∨(r=i∧c<k)
 ·rw[if_pos h1,if_pos (by omega)]
 ·rw[if_neg h1,if_neg (by omega)]
theorem cpM_at (x:Mx)(i k:Nat):cpM x i (k+1) i k=x i k:=by unfold cpM;rw[if_pos (by omega)]
theorem cpM_row {x:Mx}{i m r c:Nat}(h:c<m):cpM x i m r c=cpM x (i+1) 0 r c:=by
 unfold cpM
 by_cases h1:r<i∨(r=i∧c<m)
 ·rw[if_pos h1,if_pos (by omega)]
 ·rw[if_neg h1,if_neg (by omega)]
/-- row t of x divided by v in its first k entries -/
def dvM (x:Mx)(t:Nat)(v:Rat)(k:Nat):Mx:=fun r c=>if r=t∧c<k then x r c/v else x r c
theorem dvM_zero (x:Mx)(t:Nat)(v:Rat):dvM x t v 0=x:=by
 funext r c
 unfold dvM
 rw[if_neg (by omega)]
theorem dvM_ne {x:Mx}{t k r c:Nat}{v:Rat}(h:¬ (r=t∧c=k)):dvM x t v k r c=dvM x t v (k+1) r c:=by
 unfold dvM
 by_cases h1:r=t∧c<k
 ·rw[if_pos h1,if_pos (by omega)]
 ·rw[if_neg h1,if_neg (by omega)]
theorem dvM_at (x:Mx)(t:Nat)(v:Rat)(k:Nat):dvM x t v (k+1) t k=x t k/v:=by unfold dvM;rw[if_pos (by omega)]
theorem dvM_was (x:Mx)(t:Nat)(v:Rat)(k:Nat):dvM x t v k t k=x t k:=by unfold dvM;rw[if_neg (by omega)]
theorem dvM_end {x:Mx}{t:Nat}{v:Rat}{m r c:Nat}(h:c<m):dvM x t v m r c=divR x t v r c:=by
 unfold dvM divR
 by_cases h1:r=t
 ·rw[if_pos ⟨h1,h⟩,if_pos h1]
 ·rw[if_neg (fun h=>h1 h.1),if_neg h1]
/-- rows before i taken, and of row i the first k entries -/
def tkM (x:Mx)(t c i k:Nat):Mx:=fun r j=>if r=i∧j<k then x r j-x r c*x t j else takeU x t c i r j
theorem tkM_zero (x:Mx)(t c i:Nat):tkM x t c i 0=takeU x t c i:=by
 funext r j
 unfold tkM
 rw[if_neg (by omega)]
theorem tkM_ne {x:Mx}{t c i k r j:Nat}(h:¬ (r=i∧j=k)):tkM x t c i k r j=tkM x t c i (k+1) r j:=by
 unfold tkM
 by_cases h1:r=i∧j<k
 ·rw[if_pos h1,if_pos (by omega)]
 ·rw[if_neg h1,if_neg (by omega)]
theorem tkM_at (x:Mx)(t c i k:Nat):tkM x t c i (k+1) i k=x i k-x i c*x t k:=by unfold tkM;rw[if_pos (by omega)]
theorem tkM_was (x:Mx)(t c i k:Nat):tkM x t c i k i k=x i k:=by
 unfold tkM
 rw[if_neg (by omega),takeU_at]
theorem tkM_t {x:Mx}{t c i k j:Nat}(h:i≠t):tkM x t c i k t j=x t j:=by
 unfold tkM
 rw[if_neg (fun e=>h e.1.symm),takeU_t]
theorem tkM_end {x:Mx}{t c i m r j:Nat}(h:i≠t)(hj:j<m):tkM x t c i m r j=takeU x t c (i+1) r j:=by
 unfold tkM
 by_cases h1:r=i
 ·subst h1
  rw[if_pos ⟨rfl,hj⟩,takeU_row x h]
 ·rw[if_neg (fun e=>h1 e.1),takeU_ne x t c h1]
end Go.Proofs.YthhbbnfnejjpiaaGreatDoor
