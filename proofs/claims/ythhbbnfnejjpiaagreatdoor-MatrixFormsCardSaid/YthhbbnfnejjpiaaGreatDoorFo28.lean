/- Plain facts and contracts of functions of the program, out of walks. Their conditions stand ahead of each. -/
import Derived.Test.YthhbbnfnejjpiaaGreatDoorFo2
import Derived.Test.YthhbbnfnejjpiaaGreatDoorFo5
import Derived.Test.YthhbbnfnejjpiaaGreatDoorFo15
import Derived.Test.YthhbbnfnejjpiaaGreatDoorFo25
import Derived.Test.YthhbbnfnejjpiaaGreatDoorFo26
import Derived.Test.YthhbbnfnejjpiaaGreatDoorFo27
import Derived.Below
import Derived.BigQuiet
import Derived.Deep.DeepCutAuto
import Derived.Deep.Draws
import Derived.Deep.LoopGhost
import Derived.Deep.QuietTactic
import Derived.Deep.RegionHeld3
import Derived.Deep.RegionLaw
import Derived.Defers
import Derived.Laws.BytesString
import Derived.Laws.Cells
import Derived.Laws.Concat
import Derived.Laws.CopyOwn
import Derived.Laws.CopyRow
import Derived.Laws.NewBlocks
import Derived.Laws.OwnMore
import Derived.Laws.Pointers
import Derived.Laws.Rows
import Derived.Lib.BitFns
import Derived.Lib.Hide
import Derived.Lib.ItoaNum
import Derived.Lib.TrailingZeros
import Derived.LoopIn
import Derived.LoopNIn
import Derived.Maps.AppendAt
import Derived.OrdersHeld
import Derived.OrdersIn
import Derived.OwnWalk
import Derived.OwnWalkIn
import Derived.RangeFuncBound
import Derived.RangeFuncBox
import Derived.RangeFuncCalls
import Derived.RangeFuncLeaves
import Derived.RangeFuncNested
import Derived.RowKit3
import Derived.Shelf.Abstract
import Derived.Shelf.RegionOpen
import Derived.Shelf.Spec.TrailingZeros
import Derived.StillTactics
import Derived.StillTailTactics
import Derived.TacticsInMore
import Derived.Test.YthhbbnfnejjpiaaGreatDoorProg
import Derived.WalkKit
import Derived.WalkLawsBesides
import Derived.WalkMore
import Derived.WalkSpells
set_option linter.unusedVariables false
set_option linter.unusedSimpArgs false
set_option exponentiation.threshold 10000
namespace Go.Proofs.YthhbbnfnejjpiaaGreatDoor
open Go.RowKit GW NL
/-- the part that is the block of a computation without an error -/
def sumF (sb:Nat):Frag:=blkF sb (.cells [Value.int .i64 0].toArray 78 (0,0))
theorem G.sumI {w0:World}{X:List Nat}{M:List Blk}{I:List Frag}(g:G w0 X M I){sb:Nat}(h:InF (sumF sb) I):SumW g.w sb:=g.sub _ h sb _ (by unfold sumF blkF;rw[if_pos rfl])
set_option maxRecDepth 20000 in
theorem plain_at (b k m cap:Nat)(s:Bool)(A B:Option Addr)(n c d e:Nat)(hk:k<m)(w:World)(h0:w.cell? ⟨b,k*3,none⟩=some (.bool s))(h1:w.cell? ⟨b,k*3+1,none⟩=some (.slice A n c))(h2:w.cell? ⟨b,k*3+2,none⟩=some (.slice B d e)):
  Calls Tryz.prog 193 #[.slice (some ⟨b,0,none⟩) m cap,.int .i64 (k:Int)] w fun e' w'=>e'=.returned (.agg #[.bool s,.slice A n c,.slice B d e])∧Below w.heap.size w w':=by
 refine calls_b fun g=>?_
 have E0:=fun(M:List Blk) (g:G w [] M [heapOf w])=>G.old g (List.mem_cons_self ..) h0
 have E1:=fun(M:List Blk) (g:G w [] M [heapOf w])=>G.old g (List.mem_cons_self ..) h1
 have E2:=fun(M:List Blk) (g:G w [] M [heapOf w])=>G.old g (List.mem_cons_self ..) h2
 have hki:(k:Int)<(m:Int):=by omega
 clear h0 h1 h2
 go_enter Tryz.func193,Tryz.ntmps193
 go_wp2_with (with_reducible refine yq _ ?_;(try generalize (G.w _).heap.size=bk);(try dsimp only[yi,yj]);(try clear g);intro g)
 refine bodyPost_ret (v:=.agg #[.bool s,.slice A n c,.slice B d e]) (by simp[results,Tryz.results193,go_sem]) rfl ?_
 exact⟨rfl,G.below _⟩
set_option maxRecDepth 20000 in
set_option maxHeartbeats 4000000 in
theorem plain_divide {w0:World}{M:List Blk}{I:List Frag}{F F0:Frag}(b m cap:Nat)(l:List Tri)(cs:List Value)(v:Nat→Rat)(y:Rat)(pb qb rb:Value)(sb:Nat)(hr:Row 43 3 m (cells3 l) cap cs)(hl:F.Tris l m (fun j=>rawOf (v j)))(hy:F.Rt pb qb rb (rawOf y))(hy0:rn y≠0)(hby:Bd 8192 y)(hbd:∀j,j<m→Bd 8192 (v j)∧Bd 8192 (v j/y))(hm:m≤1000)
  (g:G w0 [] ((b,43,cs)::M) (F::I)) (hS:InF (sumF sb) I) (hnw:F.over F0 w0) (hT:Tab w0):
  Calls Tryz.prog 194 #[.slice (some ⟨b,0,none⟩) m cap,.pointer (some ⟨sb,0,none⟩),.agg #[pb,qb,rb]] g.w fun e w'=>e=.returned (.tuple #[])∧∃(l':List Tri) (cs':List Value) (F':Frag) (g':G w0 [] ((b,43,cs')::M) (F'::I)),w'=g'.w∧Row 43 3 m (cells3 l') cap cs'∧F'.Tris l' m (fun j=>rawOf (v j/y))∧F.le F'∧F'.over F0 w0:=by
 obtain⟨s1,A1,n1,c1,B1,d1,k1,rfl,rfl,rfl⟩:=hy.shape
 have CO:=Lib.hid (fun j hj p q r p' q' r' w h1 h2 hs ht=>sover_r (v j) y (v j/y) (hbd j hj).1 hby (hbd j hj).2 hy0 rfl p q r p' q' r' sb w h1 h2 hs ht)
 have HT:=Lib.hid hT
 have HS:=Lib.hid hS
 have HY:=Lib.hid hy
 have HL:Hid (F.Tris l m (fun j=>if j<0 then rawOf (v j/y) else rawOf (v j))):=Lib.hid (by simpa using hl)
 have HLE:=Lib.hid (Frag.le_refl F)
 clear hbd hby hy0 hT hS hl
 go_enter Tryz.func194,Tryz.ntmps194
 go_wp2_with (with_reducible refine yq _ ?_;(try generalize (G.w _).heap.size=bk);(try dsimp only[yi,yj]);(try clear g);intro g)
 obtain⟨bb,rfl⟩:∃bb,bb=bk:=⟨_,rfl⟩
 go_loopw [10] (fun i wr=>∃k:Nat,i=.int .i64 (k:Int)∧k≤m∧∃(l':List Tri) (cs':List Value) (F':Frag),Row 43 3 m (cells3 l') cap cs'∧Hid (F'.Tris l' m (fun j=>if j<k then rawOf (v j/y) else rawOf (v j)))∧Hid (F.le F')∧F'.over F0 w0∧∃g:G w0 [] ((bb,43,[.bool s1,.slice A1 n1 c1,.slice B1 d1 k1])::(b,43,cs')::M) (F'::I),wr=g.w) (fun i _=>m-(intOf i).toNat)
 case atStart=>exact⟨0,rfl,by omega,l,cs,F,hr,HL,HLE,hnw,g,rfl⟩
 case round=>
  clear g hr HL HLE hnw
  obtain⟨k,rfl,hk,l',cs',F',hr,HL,HLE,hnw,g,rfl⟩:=hrel
  by_cases hkm:k<m
  ·have hki:(k:Int)<(m:Int):=by omega
   obtain⟨p,q,r,hlk,hrt⟩:=HL.out.2 k hkm
   simp only[Nat.lt_irrefl,if_false] at hrt
   obtain⟨s2,A2,n2,c2,B2,d2,k2,rfl,rfl,rfl⟩:=hrt.shape
   obtain⟨e0,e1,e2⟩:=hr.tri hlk
   have HRT:=Lib.hid hrt
   have HRW:=Lib.hid hr
   clear hlk hrt hr
   go_wp2_with (with_reducible refine yq _ ?_;(try generalize (G.w _).heap.size=bk);(try dsimp only[yi,yj]);(try clear g);intro g)
   (try(refine cmark _ ?_;(try dsimp only[yi,yj]);(try clear g);intro g))
   refine(CO.out k hkm _ _ _ _ _ _ _ (G.rtI g (by simp) HRT.out) (G.rtI g (by simp) (HY.out.mono HLE.out)) (G.sumI g (by exact InF.tail HS.out)) (G.tab g HT.out)).mono ?_
   rintro e w1 ⟨pa,qa,ra,Fa,rfl,ha,hn⟩
   have hnna:=fun k o hk=>Nat.le_trans g.chg.size (hn.new k o hk)
   obtain⟨sa,Aa,na,ca,Ba,da,ka,rfl,rfl,rfl⟩:=ha.shape
   obtain⟨g1,rfl⟩:=G.new_ex _ hn
   clear hn
   (try clear g)
   revert g1
   intro g
   go_wp2_with (with_reducible refine yq _ ?_;(try generalize (G.w _).heap.size=bk);(try dsimp only[yi,yj]);(try clear g);intro g)
   obtain⟨g2,hg2⟩:∃g2:G w0 [] ((bb,43,[.bool s1,.slice A1 n1 c1,.slice B1 d1 k1])::(b,43,((cs'.set (k*3) (.bool sa)).set (k*3+1) (.slice Aa na ca)).set (k*3+2) (.slice Ba da ka))::M) (Fa::F'::I),g.w=g2.w:=G.forget g 1
   rw[hg2]
   obtain⟨F2,g3,e3,hle,hle2,hnew⟩:=g2.merge
   rw[e3]
   go_roundw
   case rel=>
    refine⟨k+1,by go_num,by omega,_,_,F2,HRW.out.setTri hkm HL.out.1 _ _ _,Lib.hid ((HL.out.mono hle).set (y:=fun j=>if j<k+1 then rawOf (v j/y) else rawOf (v j)) hkm ?_ (fun i hi hne=>?_)),Lib.hid (Frag.le_trans HLE.out hle),fun k' o hk'=>(hnew k' o hk').elim (hnw k' o) (fun h=> .inr (hnna k' o h)),g3,rfl⟩
    ·rw[if_pos (Nat.lt_succ_self k)]
     exact ha.mono hle2
    ·have e:(i<k+1)↔(i<k):=by omega
     simp only[e]
   case measure=>simp[intOf];omega
  ·obtain rfl:k=m:=by omega
   go_wp2_with (with_reducible refine yq _ ?_;(try generalize (G.w _).heap.size=bk);(try dsimp only[yi,yj]);(try clear g);intro g)
   refine bodyPost_end (results_none rfl _ _ _) rfl ?_
   obtain⟨g2,hg2⟩:∃g2:G w0 [] ((b,43,cs')::M) (F'::I),g.w=g2.w:=G.forget g 1
   exact⟨rfl,l',cs',F',g2,hg2,hr,HL.out.congr (fun j hj=>if_pos hj),HLE.out,hnw⟩
theorem assert_plain (A:Option Addr)(n c:Nat)(w:World):(Instr.typeAssert (.iface 129 (.slice A n c)) 137 129 true).run Tryz.prog w=.ok (.tuple #[.slice A n c,.bool true]) w:=by kernel_rfl
set_option maxRecDepth 20000 in
set_option maxHeartbeats 8000000 in
theorem plain_take {w0:World}{M:List Blk}{I:List Frag}{F F0:Frag}(b b2 m cap cap2:Nat)(l l2:List Tri)(cs cs2:List Value)(v u:Nat→Rat)(f:Rat)(pb qb rb:Value)(sb:Nat)(hr:Row 43 3 m (cells3 l) cap cs)(hl:F.Tris l m (fun j=>rawOf (v j)))(hr2:Row 43 3 m (cells3 l2) cap2 cs2)(hl2:F.Tris l2 m (fun j=>rawOf (u j)))(hf:F.Rt pb qb rb (rawOf f))(hbf:Bd 8192 f)(hbd:∀j,j<m→Bd 8192 (v j)∧Bd 8192 (u j)∧Bd 8192 (f*u j)∧Bd 8192 (v j-f*u j))(hm:m≤1000)
  (g:G w0 [] ((b,43,cs)::(b2,43,cs2)::M) (F::I)) (hS:InF (sumF sb) I) (hnw:F.over F0 w0) (hT:Tab w0):
  Calls Tryz.prog 195 #[.slice (some ⟨b,0,none⟩) m cap,.pointer (some ⟨sb,0,none⟩),.iface 129 (.slice (some ⟨b2,0,none⟩) m cap2),.agg #[pb,qb,rb]] g.w fun e w'=>e=.returned (.tuple #[])∧∃(l':List Tri) (cs':List Value) (F':Frag) (g':G w0 [] ((b,43,cs')::(b2,43,cs2)::M) (F'::I)),w'=g'.w∧Row 43 3 m (cells3 l') cap cs'∧F'.Tris l' m (fun j=>rawOf (v j-f*u j))∧F.le F'∧F'.over F0 w0:=by
 obtain⟨s1,A1,n1,c1,B1,d1,k1,rfl,rfl,rfl⟩:=hf.shape
 have CT:=Lib.hid (fun j (hj:j<m) p q r p' q' r' w h1 h2 hs ht=>stimes_r f (u j) (f*u j) hbf (hbd j hj).2.1 (hbd j hj).2.2.1 rfl p q r p' q' r' sb w h1 h2 hs ht)
 have CL:=Lib.hid (fun j (hj:j<m) p q r p' q' r' w h1 h2 hs ht=>sless_r (v j) (f*u j) (v j-f*u j) (hbd j hj).1 (hbd j hj).2.2.1 (hbd j hj).2.2.2 rfl p q r p' q' r' sb w h1 h2 hs ht)
 have HT:=Lib.hid hT
 have HS:=Lib.hid hS
 have HFT:=Lib.hid hf
 have HL2:=Lib.hid hl2
 have HR2:=Lib.hid hr2
 have HL:Hid (F.Tris l m (fun j=>if j<0 then rawOf (v j-f*u j) else rawOf (v j))):=Lib.hid (by simpa using hl)
 have HLE:=Lib.hid (Frag.le_refl F)
 unfold RT1 at CT CL
 clear hbd hf hbf hT hS hl hl2 hr2
 have TA:=assert_plain (some ⟨b2,0,none⟩) m cap2
 go_enter Tryz.func195,Tryz.ntmps195
 go_wp2_with (with_reducible refine yq _ ?_;(try generalize (G.w _).heap.size=bk);(try dsimp only[yi,yj]);(try clear g);intro g)
 clear TA
 obtain⟨bb,rfl⟩:∃bb,bb=bk:=⟨_,rfl⟩
 go_loopw [21] (fun i wr=>∃k:Nat,i=.int .i64 (k:Int)∧k≤m∧∃(l':List Tri) (cs':List Value) (F':Frag),Row 43 3 m (cells3 l') cap cs'∧Hid (F'.Tris l' m (fun j=>if j<k then rawOf (v j-f*u j) else rawOf (v j)))∧Hid (F.le F')∧F'.over F0 w0∧∃g:G w0 [] ((bb,43,[.bool s1,.slice A1 n1 c1,.slice B1 d1 k1])::(b,43,cs')::(b2,43,cs2)::M) (F'::I),wr=g.w) (fun i _=>m-(intOf i).toNat)
 case atStart=>exact⟨0,rfl,by omega,l,cs,F,hr,HL,HLE,hnw,g,rfl⟩
 case round=>
  clear g hr HL HLE hnw
  obtain⟨k,rfl,hk,l',cs',F',hr,HL,HLE,hnw,g,rfl⟩:=hrel
  by_cases hkm:k<m
  ·have hki:(k:Int)<(m:Int):=by omega
   obtain⟨p,q,r,hlk,hrt⟩:=HL.out.2 k hkm
   simp only[Nat.lt_irrefl,if_false] at hrt
   obtain⟨s2,A2,n2,c2,B2,d2,k2,rfl,rfl,rfl⟩:=hrt.shape
   obtain⟨e0,e1,e2⟩:=hr.tri hlk
   obtain⟨p,q,r,hlk2,hrt2⟩:=HL2.out.2 k hkm
   obtain⟨s3,A3,n3,c3,B3,d3,k3,rfl,rfl,rfl⟩:=hrt2.shape
   obtain⟨f0,f1,f2⟩:=HR2.out.tri hlk2
   have HRT:=Lib.hid hrt
   have HRT2:=Lib.hid hrt2
   have HRW:=Lib.hid hr
   clear hlk hrt hr hlk2 hrt2
   go_upto_region 6 with(with_reducible refine yq _ ?_;(try generalize (G.w _).heap.size=bk);(try dsimp only[yi,yj]);(try clear g);intro g)
   ((try simp only[G.drew_eq,G.drewN_eq]);(refine yq _ ?_;(try generalize (G.w _).heap.size=bk);(try dsimp only[yi,yj]);(try clear g);intro g))
   refine wp_region_held_drew (S:=G.heldN g [true,true,false,false]) (by kernel_rfl) (by simp[G.heldN,HeldN,go_sem]) (fun hHeld=>?_)
   refine tk0 [0,1,2,3,4,5,7,8,9] ?_
   repeat (refine tkc rfl (by kernel_rfl) (fun _ _ _ h=>h) (by rfl) ‹_› (by intro w hSw;(try dsimp only at hSw);go_simp;(try with_reducible rfl)) ?_;try simp only[Act.put,yk,yl,yn,yo,yi,yj])
   refine tkn ?_
   refine wpAnyH_ready (rs:=[6,10]) (by kernel_rfl) (by simp) ?_
   refine AllReadyH.cons rfl (fun K hK=>?_) (AllReadyH.cons rfl (fun K hK=>?_) AllReadyH.nil)
   ·(try simp only[Act.put,yk,yl,yn,yo,yi,yj])
    go_simp
    refine hK.out _ _ (by simp[G.heldN,HeldN,go_sem]) (fun hHeld=>?_)
    clear hK K
    (try simp only[Act.put,yk,yl,yn,yo,yi,yj])
    refine wpAnyH_ready (rs:=[10]) (by kernel_rfl) (by simp) ?_
    refine AllReadyH.cons rfl (fun K hK=>?_) AllReadyH.nil
    ·(try simp only[Act.put,yk,yl,yn,yo,yi,yj])
     go_simp
     go_at_call 99
     (try(refine cmark _ ?_;(try dsimp only[yi,yj]);(try clear g);intro g))
     refine(CT.out k hkm _ _ _ _ _ _ _ (G.rtI g (by simp) (HFT.out.mono HLE.out)) (G.rtI g (by simp) (HRT2.out.mono HLE.out)) (G.sumI g (by exact InF.tail HS.out)) (G.tab g HT.out)).mono ?_
     rintro e w1 ⟨pa,qa,ra,Fa,rfl,ha,hn⟩
     have hnna:=fun k o hk=>Nat.le_trans g.chg.size (hn.new k o hk)
     obtain⟨sa,Aa,na,ca,Ba,da,ka,rfl,rfl,rfl⟩:=ha.shape
     obtain⟨g1,rfl⟩:=G.new_ex _ hn
     clear hn
     (try clear g)
     revert g1
     intro g
     clear CT
     refine hK.out _ _ (by simp[G.heldN,HeldN,go_sem]) (fun hHeld=>?_)
     clear hK K
     (try simp only[Act.put,yk,yl,yn,yo,yi,yj])
     refine wpAnyH_ready (rs:=[11]) (by kernel_rfl) (by simp) ?_
     refine AllReadyH.cons rfl (fun K hK=>?_) AllReadyH.nil
     ·(try simp only[Act.put,yk,yl,yn,yo,yi,yj])
      go_simp
      go_at_call 121
      (try(refine cmark _ ?_;(try dsimp only[yi,yj]);(try clear g);intro g))
      refine(CL.out k hkm _ _ _ _ _ _ _ (G.rtI g (by simp) HRT.out) (G.rtI g (by simp) ha) (G.sumI g (by exact InF.tail (InF.tail HS.out))) (G.tab g HT.out)).mono ?_
      rintro e w1 ⟨pz,qz,rz,Fz,rfl,hz,hn⟩
      have hnnz:=fun k o hk=>Nat.le_trans g.chg.size (hn.new k o hk)
      obtain⟨sz,Az,nz,cz,Bz,dz,kz,rfl,rfl,rfl⟩:=hz.shape
      obtain⟨g1,rfl⟩:=G.new_ex _ hn
      clear hn
      (try clear g)
      revert g1
      intro g
      clear CL
      refine hK.out _ _ (by simp[G.heldN,HeldN,go_sem]) (fun hHeld=>?_)
      clear hK K
      (try simp only[Act.put,yk,yl,yn,yo,yi,yj])
      refine tk0 [12] ?_
      repeat (refine tkc rfl (by kernel_rfl) (fun _ _ _ h=>h) (by rfl) ‹_› (by intro w hSw;(try dsimp only at hSw);go_simp;(try with_reducible rfl)) ?_;try simp only[Act.put,yk,yl,yn,yo,yi,yj])
      refine tkn ?_
      refine wpAnyH_ready (rs:=[13]) (by kernel_rfl) (by simp) ?_
      refine AllReadyH.cons rfl (fun K hK=>?_) AllReadyH.nil
      ·(try simp only[Act.put,yk,yl,yn,yo,yi,yj])
       go_simp
       refine hK.out _ _ (by simp[G.heldN,HeldN,go_sem]) (fun hHeld=>?_)
       clear hK K
       (try simp only[Act.put,yk,yl,yn,yo,yi,yj])
       refine wpAnyH_done (by kernel_rfl) ?_ _
       (as_aux_lemma=>
        (try clear hHeld)
        ((try simp only[G.drew_eq,G.drewN_eq]);(refine yq _ ?_;(try generalize (G.w _).heap.size=bk);(try dsimp only[yi,yj]);(try clear g);intro g))
        go_wp2_with (with_reducible refine yq _ ?_;(try generalize (G.w _).heap.size=bk);(try dsimp only[yi,yj]);(try clear g);intro g)
        obtain⟨g2,hg2⟩:∃g2:G w0 [] ((bb,43,[.bool s1,.slice A1 n1 c1,.slice B1 d1 k1])::(b,43,((cs'.set (k*3) (.bool sz)).set (k*3+1) (.slice Az nz cz)).set (k*3+2) (.slice Bz dz kz))::(b2,43,cs2)::M) (Fz::Fa::F'::I),g.w=g2.w:=G.forget g 1
        obtain⟨g4,e4⟩:=G.lessI g2 (I':=Fz::F'::I) (by intro f hf;simp only[List.mem_cons] at hf ⊢;rcases hf with h|h|h<;>simp[h])
        rw[hg2,e4]
        obtain⟨F2,g3,e3,hle,hle2,hnew⟩:=g4.merge
        rw[e3]
        go_roundw
        case rel=>
         refine⟨k+1,by go_num,by omega,_,_,F2,HRW.out.setTri hkm HL.out.1 _ _ _,Lib.hid ((HL.out.mono hle).set (y:=fun j=>if j<k+1 then rawOf (v j-f*u j) else rawOf (v j)) hkm ?_ (fun i hi hne=>?_)),Lib.hid (Frag.le_trans HLE.out hle),fun k' o hk'=>(hnew k' o hk').elim (hnw k' o) (fun h=> .inr (hnnz k' o h)),g3,rfl⟩
         ·rw[if_pos (Nat.lt_succ_self k)]
          exact hz.mono hle2
         ·have e:(i<k+1)↔(i<k):=by omega
          simp only[e]
        case measure=>simp[intOf];omega)
   ·(try simp only[Act.put,yk,yl,yn,yo,yi,yj])
    go_simp
    go_at_call 99
    (try(refine cmark _ ?_;(try dsimp only[yi,yj]);(try clear g);intro g))
    refine(CT.out k hkm _ _ _ _ _ _ _ (G.rtI g (by simp) (HFT.out.mono HLE.out)) (G.rtI g (by simp) (HRT2.out.mono HLE.out)) (G.sumI g (by exact InF.tail HS.out)) (G.tab g HT.out)).mono ?_
    rintro e w1 ⟨pa,qa,ra,Fa,rfl,ha,hn⟩
    have hnna:=fun k o hk=>Nat.le_trans g.chg.size (hn.new k o hk)
    obtain⟨sa,Aa,na,ca,Ba,da,ka,rfl,rfl,rfl⟩:=ha.shape
    obtain⟨g1,rfl⟩:=G.new_ex _ hn
    clear hn
    (try clear g)
    revert g1
    intro g
    clear CT
    refine hK.out _ _ (by simp[G.heldN,HeldN,go_sem]) (fun hHeld=>?_)
    clear hK K
    (try simp only[Act.put,yk,yl,yn,yo,yi,yj])
    refine wpAnyH_ready (rs:=[6]) (by kernel_rfl) (by simp) ?_
    refine AllReadyH.cons rfl (fun K hK=>?_) AllReadyH.nil
    ·(try simp only[Act.put,yk,yl,yn,yo,yi,yj])
     go_simp
     refine hK.out _ _ (by simp[G.heldN,HeldN,go_sem]) (fun hHeld=>?_)
     clear hK K
     (try simp only[Act.put,yk,yl,yn,yo,yi,yj])
     refine wpAnyH_ready (rs:=[11]) (by kernel_rfl) (by simp) ?_
     refine AllReadyH.cons rfl (fun K hK=>?_) AllReadyH.nil
     ·(try simp only[Act.put,yk,yl,yn,yo,yi,yj])
      go_simp
      go_at_call 121
      (try(refine cmark _ ?_;(try dsimp only[yi,yj]);(try clear g);intro g))
      refine(CL.out k hkm _ _ _ _ _ _ _ (G.rtI g (by simp) HRT.out) (G.rtI g (by simp) ha) (G.sumI g (by exact InF.tail (InF.tail HS.out))) (G.tab g HT.out)).mono ?_
      rintro e w1 ⟨pz,qz,rz,Fz,rfl,hz,hn⟩
      have hnnz:=fun k o hk=>Nat.le_trans g.chg.size (hn.new k o hk)
      obtain⟨sz,Az,nz,cz,Bz,dz,kz,rfl,rfl,rfl⟩:=hz.shape
      obtain⟨g1,rfl⟩:=G.new_ex _ hn
      clear hn
      (try clear g)
      revert g1
      intro g
      clear CL
      refine hK.out _ _ (by simp[G.heldN,HeldN,go_sem]) (fun hHeld=>?_)
      clear hK K
      (try simp only[Act.put,yk,yl,yn,yo,yi,yj])
      refine tk0 [12] ?_
      repeat (refine tkc rfl (by kernel_rfl) (fun _ _ _ h=>h) (by rfl) ‹_› (by intro w hSw;(try dsimp only at hSw);go_simp;(try with_reducible rfl)) ?_;try simp only[Act.put,yk,yl,yn,yo,yi,yj])
      refine tkn ?_
      refine wpAnyH_ready (rs:=[13]) (by kernel_rfl) (by simp) ?_
      refine AllReadyH.cons rfl (fun K hK=>?_) AllReadyH.nil
      ·(try simp only[Act.put,yk,yl,yn,yo,yi,yj])
       go_simp
       refine hK.out _ _ (by simp[G.heldN,HeldN,go_sem]) (fun hHeld=>?_)
       clear hK K
       (try simp only[Act.put,yk,yl,yn,yo,yi,yj])
       refine wpAnyH_done (by kernel_rfl) ?_ _
       (as_aux_lemma=>
        (try clear hHeld)
        ((try simp only[G.drew_eq,G.drewN_eq]);(refine yq _ ?_;(try generalize (G.w _).heap.size=bk);(try dsimp only[yi,yj]);(try clear g);intro g))
        go_wp2_with (with_reducible refine yq _ ?_;(try generalize (G.w _).heap.size=bk);(try dsimp only[yi,yj]);(try clear g);intro g)
        obtain⟨g2,hg2⟩:∃g2:G w0 [] ((bb,43,[.bool s1,.slice A1 n1 c1,.slice B1 d1 k1])::(b,43,((cs'.set (k*3) (.bool sz)).set (k*3+1) (.slice Az nz cz)).set (k*3+2) (.slice Bz dz kz))::(b2,43,cs2)::M) (Fz::Fa::F'::I),g.w=g2.w:=G.forget g 1
        obtain⟨g4,e4⟩:=G.lessI g2 (I':=Fz::F'::I) (by intro f hf;simp only[List.mem_cons] at hf ⊢;rcases hf with h|h|h<;>simp[h])
        rw[hg2,e4]
        obtain⟨F2,g3,e3,hle,hle2,hnew⟩:=g4.merge
        rw[e3]
        go_roundw
        case rel=>
         refine⟨k+1,by go_num,by omega,_,_,F2,HRW.out.setTri hkm HL.out.1 _ _ _,Lib.hid ((HL.out.mono hle).set (y:=fun j=>if j<k+1 then rawOf (v j-f*u j) else rawOf (v j)) hkm ?_ (fun i hi hne=>?_)),Lib.hid (Frag.le_trans HLE.out hle),fun k' o hk'=>(hnew k' o hk').elim (hnw k' o) (fun h=> .inr (hnnz k' o h)),g3,rfl⟩
         ·rw[if_pos (Nat.lt_succ_self k)]
          exact hz.mono hle2
         ·have e:(i<k+1)↔(i<k):=by omega
          simp only[e]
        case measure=>simp[intOf];omega)
  ·obtain rfl:k=m:=by omega
   go_wp2_with (with_reducible refine yq _ ?_;(try generalize (G.w _).heap.size=bk);(try dsimp only[yi,yj]);(try clear g);intro g)
   refine bodyPost_end (results_none rfl _ _ _) rfl ?_
   obtain⟨g2,hg2⟩:∃g2:G w0 [] ((b,43,cs')::(b2,43,cs2)::M) (F'::I),g.w=g2.w:=G.forget g 1
   exact⟨rfl,l',cs',F',g2,hg2,hr,HL.out.congr (fun j hj=>if_pos hj),HLE.out,hnw⟩
open Go.RowKit GW NL MX
/-- a row of m numbers, with its block -/
def NRow (m:Nat)(F:Frag)(r:Nat→Rat)(A:Option Addr)(cap:Nat)(s:List Blk):Prop:=∃b l cs,A=some ⟨b,0,none⟩∧s=[(b,43,cs)]∧Row 43 3 m (cells3 l) cap cs∧F.Tris l m (fun j=>rawOf (r j))
theorem NRow.mono {m:Nat}{F F':Frag}{r:Nat→Rat}{A:Option Addr}{cap:Nat}{s:List Blk}(h:NRow m F r A cap s)(hF:F.le F'):NRow m F' r A cap s:=by
 obtain⟨b,l,cs,h1,h2,h3,h4⟩:=h
 exact⟨b,l,cs,h1,h2,h3,h4.mono hF⟩
theorem NRow.congr {m:Nat}{F:Frag}{r r':Nat→Rat}{A:Option Addr}{cap:Nat}{s:List Blk}(h:NRow m F r A cap s)(e:∀j,j<m→r j=r' j):NRow m F r' A cap s:=by
 obtain⟨b,l,cs,h1,h2,h3,h4⟩:=h
 exact⟨b,l,cs,h1,h2,h3,h4.congr fun j hj=>by rw[e j hj]⟩
/-- a plain row as a value -/
def RowP (m:Nat)(F:Frag)(r:Nat→Rat)(u:Value)(s:List Blk):Prop:=∃A cap,u=.slice A m cap∧NRow m F r A cap s
/-- a wide row as a value: m entries, m2 behind them -/
def RowW (m m2:Nat)(F:Frag)(r:Nat→Rat)(u:Value)(s:List Blk):Prop:=∃A cap B cap' s1 s2,u=.agg #[.slice A m cap,.slice B m2 cap']∧s=s1++s2∧NRow m F r A cap s1∧NRow m2 F (fun j=>r (m+j)) B cap' s2
theorem RowP.mono {m:Nat}{F F':Frag}{r:Nat→Rat}{u:Value}{s:List Blk}(h:RowP m F r u s)(hF:F.le F'):RowP m F' r u s:=by
 obtain⟨A,cap,h1,h2⟩:=h
 exact⟨A,cap,h1,h2.mono hF⟩
theorem RowW.mono {m m2:Nat}{F F':Frag}{r:Nat→Rat}{u:Value}{s:List Blk}(h:RowW m m2 F r u s)(hF:F.le F'):RowW m m2 F' r u s:=by
 obtain⟨A,cap,B,cap',s1,s2,h1,h2,h3,h4⟩:=h
 exact⟨A,cap,B,cap',s1,s2,h1,h2,h3.mono hF,h4.mono hF⟩
section
variable {w0:World}{M:List Blk}{I:List Frag}{F F0:Frag}
theorem take_drop_to {n₀:Nat}{s R':List Blk}(g:G w0 [] M I)(hM:M.drop n₀=s++R'):∃g1:G w0 [] (s++(M.take n₀++R')) I,g.w=g1.w:=by
 refine g.perm ?_
 have e:M=M.take n₀++(s++R'):=by rw[←hM,List.take_append_drop]
 conv=>lhs;rw[e]
 exact List.perm_append_comm_assoc _ _ _
theorem take_drop_back {n₀:Nat}{s R':List Blk}(g:G w0 [] (s++(M.take n₀++R')) I):∃g1:G w0 [] (M.take n₀++(s++R')) I,g.w=g1.w:=g.perm (List.perm_append_comm_assoc _ _ _)
theorem n_div (n₀ m cap:Nat)(r:Nat→Rat)(y:Rat)(A:Option Addr)(s R':List Blk)(pb qb rb:Value)(sb:Nat)(h:NRow m F r A cap s)(hy:F.Rt pb qb rb (rawOf y))(hy0:rn y≠0)(hby:Bd 8192 y)(hbd:∀j,j<m→Bd 8192 (r j)∧Bd 8192 (r j/y))(hm:m≤1000)
  (g:G w0 [] M (F::I)) (hM:M.drop n₀=s++R') (hS:InF (sumF sb) I) (hnw:F.over F0 w0) (hT:Tab w0):
  Calls Tryz.prog 194 #[.slice A m cap,.pointer (some ⟨sb,0,none⟩),.agg #[pb,qb,rb]] g.w fun e w'=>e=.returned (.tuple #[])∧∃(s':List Blk) (F':Frag) (g':G w0 [] (M.take n₀++(s'++R')) (F'::I)),w'=g'.w∧NRow m F' (fun j=>r j/y) A cap s'∧F.le F'∧F'.over F0 w0:=by
 obtain⟨b,l,cs,rfl,rfl,hr,hl⟩:=h
 obtain⟨g1,e1⟩:=take_drop_to g hM
 rw[e1]
 refine(plain_divide b m cap l cs r y pb qb rb sb hr hl hy hy0 hby hbd hm g1 hS hnw hT).mono ?_
 rintro e w' ⟨rfl,l',cs',F',g',rfl,h1,h2,h3,h4⟩
 obtain⟨g2,e2⟩:=take_drop_back (M:=M) (n₀:=n₀) (s:=[(b,43,cs')]) (R':=R') g'
 exact⟨rfl,_,F',g2,e2,⟨b,l',cs',rfl,rfl,h1,h2⟩,h3,h4⟩
theorem n_take (n₀ m cap cap2:Nat)(r u:Nat→Rat)(f:Rat)(A B:Option Addr)(s t R':List Blk)(pb qb rb:Value)(sb:Nat)(h:NRow m F r A cap s)(h2:NRow m F u B cap2 t)(hf:F.Rt pb qb rb (rawOf f))(hbf:Bd 8192 f)(hbd:∀j,j<m→Bd 8192 (r j)∧Bd 8192 (u j)∧Bd 8192 (f*u j)∧Bd 8192 (r j-f*u j))(hm:m≤1000)
  (g:G w0 [] M (F::I)) (hM:M.drop n₀=s++(t++R')) (hS:InF (sumF sb) I) (hnw:F.over F0 w0) (hT:Tab w0):
  Calls Tryz.prog 195 #[.slice A m cap,.pointer (some ⟨sb,0,none⟩),.iface 129 (.slice B m cap2),.agg #[pb,qb,rb]] g.w fun e w'=>e=.returned (.tuple #[])∧∃(s':List Blk) (F':Frag) (g':G w0 [] (M.take n₀++(s'++(t++R'))) (F'::I)),w'=g'.w∧NRow m F' (fun j=>r j-f*u j) A cap s'∧F.le F'∧F'.over F0 w0:=by
 obtain⟨b,l,cs,rfl,rfl,hr,hl⟩:=h
 obtain⟨b2,l2,cs2,rfl,rfl,hr2,hl2⟩:=h2
 obtain⟨g1,e1⟩:=take_drop_to (s:=[(b,43,cs),(b2,43,cs2)]) (R':=R') g hM
 rw[e1]
 refine(plain_take b b2 m cap cap2 l l2 cs cs2 r u f pb qb rb sb hr hl hr2 hl2 hf hbf hbd hm g1 hS hnw hT).mono ?_
 rintro e w' ⟨rfl,l',cs',F',g',rfl,h1,h2,h3,h4⟩
 obtain⟨g2,e2⟩:=take_drop_back (M:=M) (n₀:=n₀) (s:=[(b,43,cs'),(b2,43,cs2)]) (R':=R') g'
 exact⟨rfl,[(b,43,cs')],F',g2,e2,⟨b,l',cs',rfl,rfl,h1,h2⟩,h3,h4⟩
set_option maxRecDepth 20000 in
theorem wide_at (b k m cap m2 cap2:Nat)(A2:Option Addr)(s:Bool)(A B:Option Addr)(n c d e:Nat)(hk:k<m)(w:World)(h0:w.cell? ⟨b,k*3,none⟩=some (.bool s))(h1:w.cell? ⟨b,k*3+1,none⟩=some (.slice A n c))(h2:w.cell? ⟨b,k*3+2,none⟩=some (.slice B d e)):
  Calls Tryz.prog 196 #[.agg #[.slice (some ⟨b,0,none⟩) m cap,.slice A2 m2 cap2],.int .i64 (k:Int)] w fun e' w'=>e'=.returned (.agg #[.bool s,.slice A n c,.slice B d e])∧Below w.heap.size w w':=by
 refine calls_b fun g=>?_
 have E0:=fun(M:List Blk) (g:G w [] M [heapOf w])=>G.old g (List.mem_cons_self ..) h0
 have E1:=fun(M:List Blk) (g:G w [] M [heapOf w])=>G.old g (List.mem_cons_self ..) h1
 have E2:=fun(M:List Blk) (g:G w [] M [heapOf w])=>G.old g (List.mem_cons_self ..) h2
 have hki:(k:Int)<(m:Int):=by omega
 clear h0 h1 h2
 go_enter Tryz.func196,Tryz.ntmps196
 go_wp2_with (with_reducible refine yq _ ?_;(try generalize (G.w _).heap.size=bk);(try dsimp only[yi,yj]);(try clear g);intro g)
 refine bodyPost_ret (v:=.agg #[.bool s,.slice A n c,.slice B d e]) (by simp[results,Tryz.results196,go_sem]) rfl ?_
 exact⟨rfl,G.below _⟩
theorem p_div (n₀ m:Nat)(r:Nat→Rat)(y:Rat)(u:Value)(s R':List Blk)(pb qb rb:Value)(sb:Nat)(h:RowP m F r u s)(hy:F.Rt pb qb rb (rawOf y))(hy0:rn y≠0)(hby:Bd 8192 y)(hbd:∀j,j<m→Bd 8192 (r j)∧Bd 8192 (r j/y))(hm:m≤1000)
  (g:G w0 [] M (F::I)) (hM:M.drop n₀=s++R') (hS:InF (sumF sb) I) (hnw:F.over F0 w0) (hT:Tab w0):
  Calls Tryz.prog 194 #[u,.pointer (some ⟨sb,0,none⟩),.agg #[pb,qb,rb]] g.w fun e w'=>e=.returned (.tuple #[])∧∃(s':List Blk) (F':Frag) (g':G w0 [] (M.take n₀++(s'++R')) (F'::I)),w'=g'.w∧RowP m F' (fun j=>r j/y) u s'∧F.le F'∧F'.over F0 w0:=by
 obtain⟨A,cap,rfl,h⟩:=h
 refine(n_div n₀ m cap r y A s R' pb qb rb sb h hy hy0 hby hbd hm g hM hS hnw hT).mono ?_
 rintro e w' ⟨rfl,s',F',g',rfl,h1,h2,h3⟩
 exact⟨rfl,s',F',g',rfl,⟨A,cap,rfl,h1⟩,h2,h3⟩
theorem p_take (n₀ m:Nat)(r r2:Nat→Rat)(f:Rat)(u u2:Value)(s t R':List Blk)(pb qb rb:Value)(sb:Nat)(h:RowP m F r u s)(h2:RowP m F r2 u2 t)(hf:F.Rt pb qb rb (rawOf f))(hbf:Bd 8192 f)(hbd:∀j,j<m→Bd 8192 (r j)∧Bd 8192 (r2 j)∧Bd 8192 (f*r2 j)∧Bd 8192 (r j-f*r2 j))(hm:m≤1000)
  (g:G w0 [] M (F::I)) (hM:M.drop n₀=s++(t++R')) (hS:InF (sumF sb) I) (hnw:F.over F0 w0) (hT:Tab w0):
  Calls Tryz.prog 195 #[u,.pointer (some ⟨sb,0,none⟩),.iface 129 u2,.agg #[pb,qb,rb]] g.w fun e w'=>e=.returned (.tuple #[])∧∃(s':List Blk) (F':Frag) (g':G w0 [] (M.take n₀++(s'++(t++R'))) (F'::I)),w'=g'.w∧RowP m F' (fun j=>r j-f*r2 j) u s'∧F.le F'∧F'.over F0 w0:=by
 obtain⟨A,cap,rfl,h⟩:=h
 obtain⟨B,cap2,rfl,h2⟩:=h2
 refine(n_take n₀ m cap cap2 r r2 f A B s t R' pb qb rb sb h h2 hf hbf hbd hm g hM hS hnw hT).mono ?_
 rintro e w' ⟨rfl,s',F',g',rfl,h1,h2,h3⟩
 exact⟨rfl,s',F',g',rfl,⟨A,cap,rfl,h1⟩,h2,h3⟩
end
section
variable {w0:World}{M:List Blk}{I:List Frag}{F F0:Frag}
set_option maxRecDepth 20000 in
set_option maxHeartbeats 4000000 in
theorem wide_divide (m m2 cap cap2:Nat)(r r2:Nat→Rat)(y:Rat)(A B:Option Addr)(s1 s2:List Blk)(pb qb rb:Value)(sb:Nat)(h1:NRow m F r A cap s1)(h2:NRow m2 F r2 B cap2 s2)(hy:F.Rt pb qb rb (rawOf y))(hy0:rn y≠0)(hby:Bd 8192 y)(hbd:∀j,j<m→Bd 8192 (r j)∧Bd 8192 (r j/y))(hbd2:∀j,j<m2→Bd 8192 (r2 j)∧Bd 8192 (r2 j/y))(hm:m≤1000)(hm2:m2≤1000)
  (g:G w0 [] (s1++(s2++M)) (F::I)) (hS:InF (sumF sb) I) (hnw:F.over F0 w0) (hT:Tab w0):
  Calls Tryz.prog 197 #[.agg #[.slice A m cap,.slice B m2 cap2],.pointer (some ⟨sb,0,none⟩),.agg #[pb,qb,rb]] g.w fun e w'=>e=.returned (.tuple #[])∧∃(s1' s2':List Blk) (F':Frag) (g':G w0 [] (s1'++(s2'++M)) (F'::I)),w'=g'.w∧NRow m F' (fun j=>r j/y) A cap s1'∧NRow m2 F' (fun j=>r2 j/y) B cap2 s2'∧F.le F'∧F'.over F0 w0:=by
 obtain⟨sy,A1,n1,c1,B1,d1,k1,rfl,rfl,rfl⟩:=hy.shape
 have H1:=Lib.hid h1
 have H2:=Lib.hid h2
 have HY:=Lib.hid hy
 have HS:=Lib.hid hS
 have HN:=Lib.hid hnw
 have HT:=Lib.hid hT
 clear h1 h2 hy hS hnw hT
 have HB1:=Lib.hid hbd
 have HB2:=Lib.hid hbd2
 clear hbd hbd2
 go_enter Tryz.func197,Tryz.ntmps197
 go_wp2_with (with_reducible refine yq _ ?_;(try generalize (G.w _).heap.size=bk);(try dsimp only[yi,yj]);(try clear g);intro g)
 (try(refine cmark _ ?_;(try dsimp only[yi,yj]);(try clear g);intro g))
 refine(n_div 2 m cap r y A s1 (s2++M) _ _ _ sb H1.out HY.out hy0 hby HB1.out hm g rfl HS.out HN.out HT.out).mono ?_
 rintro e w1 ⟨rfl,s1',F1,g1,rfl,k1',k2,k3⟩
 have K1:=Lib.hid k1'
 have K2:=Lib.hid k2
 have K3:=Lib.hid k3
 clear k1' k2 k3
 revert g1
 dsimp only[List.take,List.cons_append,List.nil_append]
 clear g
 intro g
 obtain⟨g1,e1⟩:=g.perm (((List.perm_append_comm_assoc s1' s2 M).cons _).cons _)
 rw[e1]
 clear e1 g
 revert g1
 intro g
 go_wp2_with (with_reducible refine yq _ ?_;(try generalize (G.w _).heap.size=bk);(try dsimp only[yi,yj]);(try clear g);intro g)
 (try(refine cmark _ ?_;(try dsimp only[yi,yj]);(try clear g);intro g))
 refine(n_div 2 m2 cap2 r2 y B s2 (s1'++M) _ _ _ sb (H2.out.mono K2.out) (HY.out.mono K2.out) hy0 hby HB2.out hm2 g rfl HS.out K3.out HT.out).mono ?_
 rintro e w1 ⟨rfl,s2',F2,g1,rfl,k1',k2,k3⟩
 have L1:=Lib.hid k1'
 have L2:=Lib.hid k2
 have L3:=Lib.hid k3
 clear k1' k2 k3
 revert g1
 dsimp only[List.take,List.cons_append,List.nil_append]
 clear g
 intro g
 go_wp2_with (with_reducible refine yq _ ?_;(try generalize (G.w _).heap.size=bk);(try dsimp only[yi,yj]);(try clear g);intro g)
 refine bodyPost_end (results_none rfl _ _ _) rfl ?_
 obtain⟨g2,hg2⟩:∃g2:G w0 [] (s2'++(s1'++M)) (F2::I),g.w=g2.w:=G.forget g 2
 obtain⟨g3,e3⟩:=g2.perm (List.perm_append_comm_assoc s2' s1' M)
 exact⟨rfl,s1',s2',F2,g3,hg2.trans e3,K1.out.mono L2.out,L1.out,Frag.le_trans K2.out L2.out,L3.out⟩
theorem assert_wide (A B:Option Addr)(n c n' c':Nat)(w:World):(Instr.typeAssert (.iface 132 (.agg #[.slice A n c,.slice B n' c'])) 137 132 true).run Tryz.prog w=.ok (.tuple #[.agg #[.slice A n c,.slice B n' c'],.bool true]) w:=by kernel_rfl
theorem perm4 {α:Type}(a b c d e:List α):(a++(b++(c++(d++e)))).Perm (a++(c++(b++(d++e)))):=(List.perm_append_comm_assoc b c _).append_left a
theorem perm5 {α:Type}(a b c d e:List α):(a++(c++(b++(d++e)))).Perm (b++(d++(a++(c++e)))):=by
 have h1:(a++(c++(b++(d++e)))).Perm (a++(b++(c++(d++e)))):=(List.perm_append_comm_assoc c b _).append_left a
 have h2:(a++(b++(c++(d++e)))).Perm (b++(a++(c++(d++e)))):=List.perm_append_comm_assoc a b _
 have h3:(b++(a++(c++(d++e)))).Perm (b++(a++(d++(c++e)))):=((List.perm_append_comm_assoc c d e).append_left a).append_left b
 have h4:(b++(a++(d++(c++e)))).Perm (b++(d++(a++(c++e)))):=(List.perm_append_comm_assoc a d _).append_left b
 exact((h1.trans h2).trans h3).trans h4
set_option maxRecDepth 20000 in
set_option maxHeartbeats 4000000 in
theorem wide_take (m m2 cap cap2 capo capo2:Nat)(r r2 u u2:Nat→Rat)(f:Rat)(A B C D:Option Addr)(s1 s2 t1 t2:List Blk)(pb qb rb:Value)(sb:Nat)(h1:NRow m F r A cap s1)(h2:NRow m2 F r2 B cap2 s2)(i1:NRow m F u C capo t1)(i2:NRow m2 F u2 D capo2 t2)(hf:F.Rt pb qb rb (rawOf f))(hbf:Bd 8192 f)(hbd:∀j,j<m→Bd 8192 (r j)∧Bd 8192 (u j)∧Bd 8192 (f*u j)∧Bd 8192 (r j-f*u j))(hbd2:∀j,j<m2→Bd 8192 (r2 j)∧Bd 8192 (u2 j)∧Bd 8192 (f*u2 j)∧Bd 8192 (r2 j-f*u2 j))(hm:m≤1000)(hm2:m2≤1000)
  (g:G w0 [] (s1++(s2++(t1++(t2++M)))) (F::I)) (hS:InF (sumF sb) I) (hnw:F.over F0 w0) (hT:Tab w0):
  Calls Tryz.prog 198 #[.agg #[.slice A m cap,.slice B m2 cap2],.pointer (some ⟨sb,0,none⟩),.iface 132 (.agg #[.slice C m capo,.slice D m2 capo2]),.agg #[pb,qb,rb]] g.w fun e w'=>e=.returned (.tuple #[])∧∃(s1' s2':List Blk) (F':Frag) (g':G w0 [] (s1'++(s2'++(t1++(t2++M)))) (F'::I)),w'=g'.w∧NRow m F' (fun j=>r j-f*u j) A cap s1'∧NRow m2 F' (fun j=>r2 j-f*u2 j) B cap2 s2'∧F.le F'∧F'.over F0 w0:=by
 obtain⟨sy,A1,n1,c1,B1,d1,k1,rfl,rfl,rfl⟩:=hf.shape
 have H1:=Lib.hid h1
 have H2:=Lib.hid h2
 have H3:=Lib.hid i1
 have H4:=Lib.hid i2
 have HY:=Lib.hid hf
 have HS:=Lib.hid hS
 have HN:=Lib.hid hnw
 have HT:=Lib.hid hT
 clear h1 h2 i1 i2 hf hS hnw hT
 have HB1:=Lib.hid hbd
 have HB2:=Lib.hid hbd2
 clear hbd hbd2
 obtain⟨g1,e1⟩:=g.perm (perm4 s1 s2 t1 t2 M)
 rw[e1]
 clear e1 g
 revert g1
 intro g
 have TA:=assert_wide C D m capo m2 capo2
 go_enter Tryz.func198,Tryz.ntmps198
 go_wp2_with (with_reducible refine yq _ ?_;(try generalize (G.w _).heap.size=bk);(try dsimp only[yi,yj]);(try clear g);intro g)
 (try(refine cmark _ ?_;(try dsimp only[yi,yj]);(try clear g);intro g))
 clear TA
 refine(n_take 3 m cap capo r u f A C s1 t1 (s2++(t2++M)) _ _ _ sb H1.out H3.out HY.out hbf HB1.out hm g rfl HS.out HN.out HT.out).mono ?_
 rintro e w1 ⟨rfl,s1',F1,g1,rfl,k1',k2,k3⟩
 have K1:=Lib.hid k1'
 have K2:=Lib.hid k2
 have K3:=Lib.hid k3
 clear k1' k2 k3
 revert g1
 dsimp only[List.take,List.cons_append,List.nil_append]
 clear g
 intro g
 obtain⟨g1,e1⟩:=g.perm ((((perm5 s1' s2 t1 t2 M).cons _).cons _).cons _)
 rw[e1]
 clear e1 g
 revert g1
 intro g
 go_wp2_with (with_reducible refine yq _ ?_;(try generalize (G.w _).heap.size=bk);(try dsimp only[yi,yj]);(try clear g);intro g)
 (try(refine cmark _ ?_;(try dsimp only[yi,yj]);(try clear g);intro g))
 refine(n_take 3 m2 cap2 capo2 r2 u2 f B D s2 t2 (s1'++(t1++M)) _ _ _ sb (H2.out.mono K2.out) (H4.out.mono K2.out) (HY.out.mono K2.out) hbf HB2.out hm2 g rfl HS.out K3.out HT.out).mono ?_
 rintro e w1 ⟨rfl,s2',F2,g1,rfl,k1',k2,k3⟩
 have L1:=Lib.hid k1'
 have L2:=Lib.hid k2
 have L3:=Lib.hid k3
 clear k1' k2 k3
 revert g1
 dsimp only[List.take,List.cons_append,List.nil_append]
 clear g
 intro g
 go_wp2_with (with_reducible refine yq _ ?_;(try generalize (G.w _).heap.size=bk);(try dsimp only[yi,yj]);(try clear g);intro g)
 refine bodyPost_end (results_none rfl _ _ _) rfl ?_
 obtain⟨g2,hg2⟩:∃g2:G w0 [] (s2'++(t2++(s1'++(t1++M)))) (F2::I),g.w=g2.w:=G.forget g 3
 obtain⟨g3,e3⟩:=g2.perm ((perm5 s1' s2' t1 t2 M).symm.trans (perm4 s1' s2' t1 t2 M).symm)
 exact⟨rfl,s1',s2',F2,g3,hg2.trans e3,K1.out.mono L2.out,L1.out,Frag.le_trans K2.out L2.out,L3.out⟩
end
theorem rn_rt {x:Rat}{w:World}{e:Ending}{w':World}(h:RNf x w e w'):RT1 (rawOf x) w e w':=by
 obtain⟨A,c,F,B,k,H,he,hs,ht,n1,n2⟩:=h
 exact⟨_,_,_,F.or H,he,⟨rfl,⟨A,c,rfl,hs.mono (Frag.le_orl F H)⟩,B,k,rfl,ht.mono (Frag.le_orr n1.sub n2.sub)⟩,n1.both n2⟩
theorem bd_len {x:Rat}(h:Bd 8192 x):(limbs (rn x)).length≤1000000∧(limbs x.den).length≤1000000:=
 ⟨Nat.le_trans (limbs_256.1 h.1) (by decide),Nat.le_trans (limbs_256.1 h.2) (by decide)⟩
theorem rqTimes_r (x y:Rat)(hx:Bd 8192 x)(hy:Bd 8192 y)(p q r p' q' r':Value)(w:World)(h1:RtW w p q r (rawOf x))(h2:RtW w p' q' r' (rawOf y)):
  Calls Tryz.prog 48 #[.agg #[p,q,r],.agg #[p',q',r']] w (RT1 (rawOf (x*y)) w):=by
 obtain⟨rfl,⟨A,c,rfl,hs⟩,B,k,rfl,ht⟩:=h1
 obtain⟨rfl,⟨A2,c2,rfl,hs2⟩,B2,k2,rfl,ht2⟩:=h2
 exact(rTimes_x x y A B A2 B2 c k c2 k2 w hs ht hs2 ht2 (bd_len hx).1 (bd_len hx).2 (bd_len hy).1 (bd_len hy).2).mono fun _ _ h=>rn_rt h
theorem rqCheck_r (t:Raw)(p q r:Value)(w:World)(h:RtW w p q r t):
  Calls Tryz.prog 46 #[.agg #[p,q,r]] w fun e w'=>e=.returned (.int .i64 (rchk t.1 t.2.1 t.2.2))∧Below w.heap.size w w':=by
 obtain⟨s,l,m⟩:=t
 obtain⟨rfl,⟨A,c,rfl,h1⟩,B,k,rfl,h2⟩:=h
 exact rrcheck s A B c k l m w h1 h2
set_option maxRecDepth 20000 in
theorem rList_any (A:Option Addr)(c n:Nat)(x:Nat→Raw)(w:World)(h:RwW w A c n x):
  Calls Tryz.prog 73 #[.slice A n c] w fun e w'=>e=.returned (.int .i64 (listE x n))∧Below w.heap.size w w':=by
 refine calls_b fun g=>?_
 have HH:=Lib.hid h
 have hn:=h.len
 clear h
 go_enter Tryz.func73,Tryz.ntmps73
 go_wp2_with (with_reducible refine yq _ ?_;(try generalize (G.w _).heap.size=bk);(try dsimp only[yi,yj]);(try clear g);intro g)
 go_loopw [3] (fun i wr=>∃k:Nat,i=.int .i64 (k:Int)∧k≤n∧Hid (listE x k=0)∧∃(g:G w [] [] [heapOf w]),wr=g.w) (fun i _=>n-(intOf i).toNat)
 case atStart=>exact⟨0,rfl,by omega,Lib.hid rfl,g,rfl⟩
 case round=>
  clear g
  obtain⟨k,rfl,hk,hl,g,rfl⟩:=hrel
  by_cases hkn:k<n
  ·have hki:(k:Int)<(n:Int):=by omega
   obtain⟨b,o,rfl,hnum⟩:=HH.out.num (by omega)
   obtain⟨p,q,r,h3,hrt⟩:=hnum k hkn
   obtain⟨s1,A1,n1,c1,B1,d1,k1,rfl,rfl,rfl⟩:=hrt.shape
   have E0:∀(M:List Blk) (g:G w [] M [heapOf w]),g.w.cell? ⟨b,o+k*3,none⟩=some (.bool s1):=fun M g=>(h3 _ _ _ _ g (InF.head _ _)).1
   have E1:∀(M:List Blk) (g:G w [] M [heapOf w]),g.w.cell? ⟨b,o+k*3+1,none⟩=some (.slice A1 n1 c1):=fun M g=>(h3 _ _ _ _ g (InF.head _ _)).2.1
   have E2:∀(M:List Blk) (g:G w [] M [heapOf w]),g.w.cell? ⟨b,o+k*3+2,none⟩=some (.slice B1 d1 k1):=fun M g=>(h3 _ _ _ _ g (InF.head _ _)).2.2
   have HRT:=Lib.hid hrt
   have CC:=Lib.hid (fun p q r w a=>rqCheck_r (x k) p q r w a)
   clear hnum h3 hrt
   have HE:Hid (numE (x k)=rchk (x k).1 (x k).2.1 (x k).2.2):=Lib.hid rfl
   obtain⟨e,he⟩:∃e,rchk (x k).1 (x k).2.1 (x k).2.2=e:=⟨_,rfl⟩
   rw[he] at CC HE
   clear he
   go_wp2_with (with_reducible refine yq _ ?_;(try generalize (G.w _).heap.size=bk);(try dsimp only[yi,yj]);(try clear g);intro g)
   (try(refine cmark _ ?_;(try dsimp only[yi,yj]);(try clear g);intro g))
   refine(CC.out _ _ _ _ (G.rtI g (by simp) HRT.out)).mono ?_
   rintro e w1 ⟨rfl,hb⟩
   obtain⟨g1,rfl⟩:=G.call_ex _ hb
   clear hb
   (try clear g)
   revert g1
   intro g
   by_cases he0:e=0
   ·subst he0
    go_wp2_with (with_reducible refine yq _ ?_;(try generalize (G.w _).heap.size=bk);(try dsimp only[yi,yj]);(try clear g);intro g)
    go_roundw
    case rel=>exact⟨k+1,by go_num,by omega,Lib.hid (listE_next hl.out HE.out),g,rfl⟩
    case measure=>simp[intOf]<;>omega
   ·have heb:(e==0)=false:=by simpa using he0
    go_wp2_with (with_reducible refine yq _ ?_;(try generalize (G.w _).heap.size=bk);(try dsimp only[yi,yj]);(try clear g);intro g)
    go_ret
    exact⟨by rw[listE_stop hl.out HE.out he0 hkn];rfl,G.below _⟩
  ·obtain rfl:k=n:=by omega
   go_wp2_with (with_reducible refine yq _ ?_;(try generalize (G.w _).heap.size=bk);(try dsimp only[yi,yj]);(try clear g);intro g)
   go_ret
   exact⟨by rw[hl.out];rfl,G.below _⟩
set_option maxRecDepth 20000 in
set_option maxHeartbeats 4000000 in
theorem rCheck5_any (A:Option Addr)(c n:Nat)(m:Nat→Nat)(x:Nat→Nat→Raw)(w:World)(h:(heapOf w).Mt A c n m x):
  Calls Tryz.prog 38 #[.slice A n c] w fun e w'=>e=.returned (.int .i64 (matE n m x))∧Below w.heap.size w w':=by
 refine calls_b fun g=>?_
 have HH:=Lib.hid h
 have hn:=h.len
 unfold matE
 clear h
 by_cases hn1:n<1
 ·have hsh:shpE n (m 0)=2:=by unfold shpE;rw[if_pos (.inl hn1)]
  rw[hsh,if_neg (by decide)]
  have d1:decide ((n:Int)<1)=true:=decide_eq_true (by omega)
  have hi1:(n:Int)<1:=by omega
  clear hsh hn1
  go_enter Tryz.func38,Tryz.ntmps38
  go_wp2_with (with_reducible refine yq _ ?_;(try generalize (G.w _).heap.size=bk);(try dsimp only[yi,yj]);(try clear g);intro g)
  go_ret
  exact⟨rfl,G.below _⟩
 have hn0:0<n:=by omega
 have d1:decide ((n:Int)<1)=false:=decide_eq_false (by omega)
 have hi1:¬ ((n:Int)<1):=by omega
 by_cases hn2:24<n
 ·have hsh:shpE n (m 0)=2:=by unfold shpE;rw[if_pos (.inr (.inl hn2))]
  rw[hsh,if_neg (by decide)]
  have d2:decide ((24:Int)<(n:Int))=true:=decide_eq_true (by omega)
  have hi2:(24:Int)<(n:Int):=by omega
  clear hsh hn1 hn2 hn0
  go_enter Tryz.func38,Tryz.ntmps38
  go_wp2_with (with_reducible refine yq _ ?_;(try generalize (G.w _).heap.size=bk);(try dsimp only[yi,yj]);(try clear g);intro g)
  go_ret
  exact⟨rfl,G.below _⟩
 have d2:decide ((24:Int)<(n:Int))=false:=decide_eq_false (by omega)
 have hi2:¬ ((24:Int)<(n:Int)):=by omega
 obtain⟨b,o,rfl,hrow⟩:=HH.out.rowAt hn0
 have HR:=Lib.hid hrow
 obtain⟨B0,k0,hh0,hrw0⟩:=hrow 0 hn0
 obtain⟨m0,hm0⟩:∃m0,m 0=m0:=⟨_,rfl⟩
 have E0:∀(M:List Blk) (I:List Frag) (g:G w [] M I) (hF:InF (heapOf w) I),g.w.cell? ⟨b,o,none⟩=some (.slice B0 m0 k0):=fun M I g hF=>by rw[←hm0];exact hh0 _ _ _ _ g hF
 have HM0:=Lib.hid hm0
 have hni:(0:Int)<(n:Int):=by omega
 rw[hm0]
 clear hrow hh0 hrw0 hm0
 by_cases hm1:m0<1
 ·have hsh:shpE n m0=2:=by unfold shpE;rw[if_pos (.inr (.inr (.inl hm1)))]
  rw[hsh,if_neg (by decide)]
  have d3:decide ((m0:Int)<1)=true:=decide_eq_true (by omega)
  have hi3:(m0:Int)<1:=by omega
  clear hsh hn1 hn2 hm1
  go_enter Tryz.func38,Tryz.ntmps38
  go_wp2_with (with_reducible refine yq _ ?_;(try generalize (G.w _).heap.size=bk);(try dsimp only[yi,yj]);(try clear g);intro g)
  go_ret
  exact⟨rfl,G.below _⟩
 have d3:decide ((m0:Int)<1)=false:=decide_eq_false (by omega)
 have hi3:¬ ((m0:Int)<1):=by omega
 by_cases hm2:24<m0
 ·have hsh:shpE n m0=2:=by unfold shpE;rw[if_pos (.inr (.inr (.inr hm2)))]
  rw[hsh,if_neg (by decide)]
  have d4:decide ((24:Int)<(m0:Int))=true:=decide_eq_true (by omega)
  have hi4:(24:Int)<(m0:Int):=by omega
  clear hsh hn1 hn2 hm1 hm2
  go_enter Tryz.func38,Tryz.ntmps38
  go_wp2_with (with_reducible refine yq _ ?_;(try generalize (G.w _).heap.size=bk);(try dsimp only[yi,yj]);(try clear g);intro g)
  go_ret
  exact⟨rfl,G.below _⟩
 have d4:decide ((24:Int)<(m0:Int))=false:=decide_eq_false (by omega)
 have hi4:¬ ((24:Int)<(m0:Int)):=by omega
 have hsh:shpE n m0=0:=by unfold shpE;rw[if_neg (by omega)]
 rw[hsh,if_pos rfl]
 clear hsh hn1 hn2 hm1 hm2
 go_enter Tryz.func38,Tryz.ntmps38
 go_wp2_with (with_reducible refine yq _ ?_;(try generalize (G.w _).heap.size=bk);(try dsimp only[yi,yj]);(try clear g);intro g)
 go_loopw [3] (fun i wr=>∃k:Nat,i=.int .i64 (k:Int)∧k≤n∧Hid (rowsE m x k=0)∧∃(g:G w [] [] [heapOf w]),wr=g.w) (fun i _=>n-(intOf i).toNat)
 case atStart=>exact⟨0,rfl,by omega,Lib.hid rfl,g,rfl⟩
 case round =>
  clear g
  obtain⟨k,rfl,hk,hl,g,rfl⟩:=hrel
  by_cases hkn:k<n
  ·have hki:(k:Int)<(n:Int):=by omega
   obtain⟨B,kc,hh,hrw⟩:=HR.out k hkn
   have EH:∀(M:List Blk) (I:List Frag) (g:G w [] M I) (hF:InF (heapOf w) I),g.w.cell? ⟨b,o+k,none⟩=some (.slice B (m k) kc):=fun M I g hF=>hh _ _ _ _ g hF
   clear hh
   by_cases hmk:m k=m0
   ·have HE:Hid (rowE m x k=listE (x k) (m k)):=Lib.hid (by unfold rowE;rw[if_pos (hmk.trans HM0.out.symm)])
    have CL:=Lib.hid (fun w a=>rList_any B kc (m k) (x k) w a)
    obtain⟨e,he⟩:∃e,listE (x k) (m k)=e:=⟨_,rfl⟩
    have HRW:=Lib.hid hrw
    rw[he] at CL HE
    rw[hmk] at EH CL HRW
    clear he hmk hrw
    go_upto_region 6 with(with_reducible refine yq _ ?_;(try generalize (G.w _).heap.size=bk);(try dsimp only[yi,yj]);(try clear g);intro g)
    ((try simp only[G.drew_eq,G.drewN_eq]);(refine yq _ ?_;(try generalize (G.w _).heap.size=bk);(try dsimp only[yi,yj]);(try clear g);intro g))
    go_region_law (go_simp)
    all_goals (as_aux_lemma=>
     ((try simp only[G.drew_eq,G.drewN_eq]);(refine yq _ ?_;(try generalize (G.w _).heap.size=bk);(try dsimp only[yi,yj]);(try clear g);intro g))
     go_wp2_with (with_reducible refine yq _ ?_;(try generalize (G.w _).heap.size=bk);(try dsimp only[yi,yj]);(try clear g);intro g)
     refine(CL.out _ (G.rwI g (by simp) HRW.out)).mono ?_
     rintro e w1 ⟨rfl,hb⟩
     obtain⟨g1,rfl⟩:=G.call_ex _ hb
     clear hb
     (try clear g)
     revert g1
     intro g
     by_cases he0:e=0
     ·subst he0
      go_wp2_with (with_reducible refine yq _ ?_;(try generalize (G.w _).heap.size=bk);(try dsimp only[yi,yj]);(try clear g);intro g)
      go_roundw
      case rel=>exact⟨k+1,by go_num,by omega,Lib.hid (rowsE_next hl.out HE.out),g,rfl⟩
      case measure=>simp[intOf]<;>omega
     ·have heb:(e==0)=false:=by simpa using he0
      go_wp2_with (with_reducible refine yq _ ?_;(try generalize (G.w _).heap.size=bk);(try dsimp only[yi,yj]);(try clear g);intro g)
      go_ret
      exact⟨by rw[rowsE_stop hl.out HE.out he0 hkn];rfl,G.below _⟩)
   ·have HE:Hid (rowE m x k=3):=Lib.hid (by unfold rowE;rw[if_neg (fun h=>hmk (h.trans HM0.out))])
    have hmb:((m k:Int)==(m0:Int))=false:=by simp;omega
    clear hrw
    generalize m k=mk at*
    clear hmk
    go_upto_region 6 with(with_reducible refine yq _ ?_;(try generalize (G.w _).heap.size=bk);(try dsimp only[yi,yj]);(try clear g);intro g)
    ((try simp only[G.drew_eq,G.drewN_eq]);(refine yq _ ?_;(try generalize (G.w _).heap.size=bk);(try dsimp only[yi,yj]);(try clear g);intro g))
    go_region_law (go_simp)
    all_goals (as_aux_lemma=>
     ((try simp only[G.drew_eq,G.drewN_eq]);(refine yq _ ?_;(try generalize (G.w _).heap.size=bk);(try dsimp only[yi,yj]);(try clear g);intro g))
     go_wp2_with (with_reducible refine yq _ ?_;(try generalize (G.w _).heap.size=bk);(try dsimp only[yi,yj]);(try clear g);intro g)
     go_ret
     exact⟨by rw[rowsE_stop hl.out HE.out (by decide) hkn];rfl,G.below _⟩)
  ·obtain rfl:k=n:=by omega
   go_wp2_with (with_reducible refine yq _ ?_;(try generalize (G.w _).heap.size=bk);(try dsimp only[yi,yj]);(try clear g);intro g)
   go_ret
   exact⟨by rw[hl.out];rfl,G.below _⟩
theorem matE_pos {n:Nat}{m:Nat→Nat}{x:Nat→Nat→Raw}(h:matE n m x=0):(1≤n∧n≤24)∧1≤m 0∧m 0≤24:=by
 unfold matE at h
 by_cases h1:shpE n (m 0)=0
 ·unfold shpE at h1
  by_cases h2:n<1∨24<n∨m 0<1∨24<m 0
  ·rw[if_pos h2] at h1;cases h1
  ·omega
 ·rw[if_neg h1] at h;exact absurd h h1
theorem rsame5_x (t:Raw)(p q r p' q' r':Value)(w:World)(h:RtW w p q r t)(h':RtW w p' q' r' t):
  Calls Tryz.prog 27 #[.agg #[p,q,r],.agg #[p',q',r']] w fun e w'=>e=.returned (.bool true)∧Below w.heap.size w w':=by
 refine calls_b fun g=>?_
 obtain⟨s,l,m⟩:=t
 obtain⟨rfl,⟨A1,c1,rfl,h1⟩,B1,k1,rfl,j1⟩:=h
 obtain⟨rfl,⟨A2,c2,rfl,h2⟩,B2,k2,rfl,j2⟩:=h'
 dsimp only at h1 h2 j1 j2 ⊢
 have C1:=Lib.hid (fun w h1 h2=>same_any A1 A2 c1 c2 l w h1 h2)
 have C2:=Lib.hid (fun w h1 h2=>same_any B1 B2 k1 k2 m w h1 h2)
 have H1:=Lib.hid h1
 have H2:=Lib.hid h2
 have J1:=Lib.hid j1
 have J2:=Lib.hid j2
 clear h1 h2 j1 j2
 generalize l.length=n at*
 generalize m.length=d at*
 go_enter Tryz.func27,Tryz.ntmps27
 go_wp2_with (with_reducible refine yq _ ?_;(try generalize (G.w _).heap.size=bk);(try dsimp only[yi,yj]);(try clear g);intro g)
 refine(C1.out _ (G.sl g (by simp) H1.out) (G.sl g (by simp) H2.out)).mono ?_
 rintro e w1 ⟨rfl,hb⟩
 obtain⟨g1,rfl⟩:=G.call_ex _ hb
 clear hb
 (try clear g)
 revert g1
 intro g
 go_wp2_with (with_reducible refine yq _ ?_;(try generalize (G.w _).heap.size=bk);(try dsimp only[yi,yj]);(try clear g);intro g)
 refine(C2.out _ (G.sl g (by simp) J1.out) (G.sl g (by simp) J2.out)).mono ?_
 rintro e w1 ⟨rfl,hb⟩
 obtain⟨g1,rfl⟩:=G.call_ex _ hb
 clear hb
 (try clear g)
 revert g1
 intro g
 go_wp2_with (with_reducible refine yq _ ?_;(try generalize (G.w _).heap.size=bk);(try dsimp only[yi,yj]);(try clear g);intro g)
 go_ret
 exact⟨rfl,G.below _⟩
set_option maxRecDepth 20000 in
set_option maxHeartbeats 2000000 in
theorem samelist_x (n:Nat)(x:Nat→Raw)(A B:Option Addr)(c d:Nat)(w:World)(hA:RwW w A c n x)(hB:RwW w B d n x)(hn:n≤1000):
  Calls Tryz.prog 28 #[.slice A n c,.slice B n d] w fun e w'=>e=.returned (.bool true)∧Below w.heap.size w w':=by
 refine calls_b fun g=>?_
 have CS:=Lib.hid (fun t p q r p' q' r' w h h'=>rsame5_x t p q r p' q' r' w h h')
 have HA:=Lib.hid hA
 have HB:=Lib.hid hB
 clear hA hB
 go_enter Tryz.func28,Tryz.ntmps28
 go_wp2_with (with_reducible refine yq _ ?_;(try generalize (G.w _).heap.size=bk);(try dsimp only[yi,yj]);(try clear g);intro g)
 go_loopw [5] (fun i wr=>∃k:Nat,i=.int .i64 (k:Int)∧k≤n∧∃g:G w [] [] [heapOf w],wr=g.w) (fun i _=>n-(intOf i).toNat)
 case atStart=>exact⟨0,rfl,by omega,g,rfl⟩
 case round=>
  clear g
  obtain⟨k,rfl,hk,g,rfl⟩:=hrel
  by_cases hkn:k<n
  ·have hki:(k:Int)<(n:Int):=by omega
   have hA:(heapOf w).Rw A c n x:=HA.out
   have hB:(heapOf w).Rw B d n x:=HB.out
   obtain⟨ba,oa,rfl,hna⟩:=hA.num (by omega)
   obtain⟨bb,ob,rfl,hnb⟩:=hB.num (by omega)
   obtain⟨p,q,r,h3,hrt⟩:=hna k hkn
   obtain⟨sx,Px,nx,dx,Qx,mx,ex,rfl,rfl,rfl⟩:=hrt.shape
   obtain⟨p,q,r,h4,hrt2⟩:=hnb k hkn
   obtain⟨sy,Py,ny,dy,Qy,my,ey,rfl,rfl,rfl⟩:=hrt2.shape
   have X0:∀(M:List Blk) (g:G w [] M [heapOf w]),g.w.cell? ⟨ba,oa+k*3,none⟩=some (.bool sx):=fun M g=>(h3 _ _ _ _ g (InF.head _ _)).1
   have X1:∀(M:List Blk) (g:G w [] M [heapOf w]),g.w.cell? ⟨ba,oa+k*3+1,none⟩=some (.slice Px nx dx):=fun M g=>(h3 _ _ _ _ g (InF.head _ _)).2.1
   have X2:∀(M:List Blk) (g:G w [] M [heapOf w]),g.w.cell? ⟨ba,oa+k*3+2,none⟩=some (.slice Qx mx ex):=fun M g=>(h3 _ _ _ _ g (InF.head _ _)).2.2
   have Y0:∀(M:List Blk) (g:G w [] M [heapOf w]),g.w.cell? ⟨bb,ob+k*3,none⟩=some (.bool sy):=fun M g=>(h4 _ _ _ _ g (InF.head _ _)).1
   have Y1:∀(M:List Blk) (g:G w [] M [heapOf w]),g.w.cell? ⟨bb,ob+k*3+1,none⟩=some (.slice Py ny dy):=fun M g=>(h4 _ _ _ _ g (InF.head _ _)).2.1
   have Y2:∀(M:List Blk) (g:G w [] M [heapOf w]),g.w.cell? ⟨bb,ob+k*3+2,none⟩=some (.slice Qy my ey):=fun M g=>(h4 _ _ _ _ g (InF.head _ _)).2.2
   have HRX:=Lib.hid hrt
   have HRY:=Lib.hid hrt2
   clear h3 h4 hrt hrt2 hna hnb hA hB
   go_upto_region 6 with(with_reducible refine yq _ ?_;(try generalize (G.w _).heap.size=bk);(try dsimp only[yi,yj]);(try clear g);intro g)
   ((try simp only[G.drew_eq,G.drewN_eq]);(refine yq _ ?_;(try generalize (G.w _).heap.size=bk);(try dsimp only[yi,yj]);(try clear g);intro g))
   go_region_law (go_simp;go_at_call 27;(with_reducible refine(CS.out (x k) _ _ _ _ _ _ _ ?_ ?_).mono ?_);(· exact G.rtI _ (by simp) HRX.out);(· exact G.rtI _ (by simp) HRY.out);rintro e w1 ⟨rfl,hb⟩;obtain⟨g1,rfl⟩:=G.call_ex _ hb;clear hb;(try clear g);revert g1;intro g)
   all_goals (as_aux_lemma=>
    ((try simp only[G.drew_eq,G.drewN_eq]);(refine yq _ ?_;(try generalize (G.w _).heap.size=bk);(try dsimp only[yi,yj]);(try clear g);intro g))
    go_wp2_with (with_reducible refine yq _ ?_;(try generalize (G.w _).heap.size=bk);(try dsimp only[yi,yj]);(try clear g);intro g)
    go_roundw
    case rel=>exact⟨k+1,by go_num,by omega,g,rfl⟩
    case measure=>simp[intOf];omega)
  ·obtain rfl:k=n:=by omega
   go_wp2_with (with_reducible refine yq _ ?_;(try generalize (G.w _).heap.size=bk);(try dsimp only[yi,yj]);(try clear g);intro g)
   go_ret
   exact⟨rfl,G.below _⟩
set_option maxRecDepth 20000 in
set_option maxHeartbeats 2000000 in
theorem samemat_x (n:Nat)(m:Nat→Nat)(x:Nat→Nat→Raw)(A B:Option Addr)(c d:Nat)(w:World)(hA:(heapOf w).Mt A c n m x)(hB:(heapOf w).Mt B d n m x)(hn:n≤1000)(hm:∀i,i<n→m i≤1000):
  Calls Tryz.prog 15 #[.slice A n c,.slice B n d] w fun e w'=>e=.returned (.bool true)∧Below w.heap.size w w':=by
 refine calls_b fun g=>?_
 have CS:=Lib.hid (fun i (hi:i<n) A B c d w h h'=>samelist_x (m i) (x i) A B c d w h h' (hm i hi))
 have HA:=Lib.hid hA
 have HB:=Lib.hid hB
 clear hA hB hm
 go_enter Tryz.func15,Tryz.ntmps15
 go_wp2_with (with_reducible refine yq _ ?_;(try generalize (G.w _).heap.size=bk);(try dsimp only[yi,yj]);(try clear g);intro g)
 go_loopw [5] (fun i wr=>∃k:Nat,i=.int .i64 (k:Int)∧k≤n∧∃g:G w [] [] [heapOf w],wr=g.w) (fun i _=>n-(intOf i).toNat)
 case atStart=>exact⟨0,rfl,by omega,g,rfl⟩
 case round=>
  clear g
  obtain⟨k,rfl,hk,g,rfl⟩:=hrel
  by_cases hkn:k<n
  ·have hki:(k:Int)<(n:Int):=by omega
   have hA:(heapOf w).Mt A c n m x:=HA.out
   have hB:(heapOf w).Mt B d n m x:=HB.out
   obtain⟨ba,oa,rfl,hna⟩:=hA.rowAt (by omega)
   obtain⟨bb,ob,rfl,hnb⟩:=hB.rowAt (by omega)
   obtain⟨A1,k1,h3,hrw⟩:=hna k hkn
   obtain⟨A2,k2,h4,hrw2⟩:=hnb k hkn
   have X0:∀(M:List Blk) (g:G w [] M [heapOf w]),g.w.cell? ⟨ba,oa+k,none⟩=some (.slice A1 (m k) k1):=fun M g=>h3 _ _ _ _ g (InF.head _ _)
   have Y0:∀(M:List Blk) (g:G w [] M [heapOf w]),g.w.cell? ⟨bb,ob+k,none⟩=some (.slice A2 (m k) k2):=fun M g=>h4 _ _ _ _ g (InF.head _ _)
   have HRX:=Lib.hid hrw
   have HRY:=Lib.hid hrw2
   clear h3 h4 hrw hrw2 hna hnb hA hB
   go_upto_region 6 with(with_reducible refine yq _ ?_;(try generalize (G.w _).heap.size=bk);(try dsimp only[yi,yj]);(try clear g);intro g)
   ((try simp only[G.drew_eq,G.drewN_eq]);(refine yq _ ?_;(try generalize (G.w _).heap.size=bk);(try dsimp only[yi,yj]);(try clear g);intro g))
   go_region_law (go_simp;go_at_call 28;(with_reducible refine(CS.out k hkn _ _ _ _ _ ?_ ?_).mono ?_);(· exact G.rwI _ (by simp) HRX.out);(· exact G.rwI _ (by simp) HRY.out);rintro e w1 ⟨rfl,hb⟩;obtain⟨g1,rfl⟩:=G.call_ex _ hb;clear hb;(try clear g);revert g1;intro g)
   all_goals (as_aux_lemma=>
    ((try simp only[G.drew_eq,G.drewN_eq]);(refine yq _ ?_;(try generalize (G.w _).heap.size=bk);(try dsimp only[yi,yj]);(try clear g);intro g))
    go_wp2_with (with_reducible refine yq _ ?_;(try generalize (G.w _).heap.size=bk);(try dsimp only[yi,yj]);(try clear g);intro g)
    go_roundw
    case rel=>exact⟨k+1,by go_num,by omega,g,rfl⟩
    case measure=>simp[intOf];omega)
  ·obtain rfl:k=n:=by omega
   go_wp2_with (with_reducible refine yq _ ?_;(try generalize (G.w _).heap.size=bk);(try dsimp only[yi,yj]);(try clear g);intro g)
   go_ret
   exact⟨rfl,G.below _⟩
set_option maxRecDepth 20000 in
theorem lis5_x (n:Nat)(m:Nat→Nat)(x:Nat→Nat→Raw)(A B:Option Addr)(c d:Nat)(w:World)(hA:(heapOf w).Mt A c n m x)(hB:(heapOf w).Mt B d n m x)(hn:n≤1000)(hm:∀i,i<n→m i≤1000):
  Calls Tryz.prog 50 #[.slice A n c,.int .i64 0,.slice B n d] w fun e w'=>e=.returned (.bool true)∧Below w.heap.size w w':=by
 refine calls_b fun g=>?_
 have CS:=Lib.hid (fun w h h'=>samemat_x n m x A B c d w h h' hn hm)
 have HA:=Lib.hid hA
 have HB:=Lib.hid hB
 clear hA hB hm
 go_enter Tryz.func50,Tryz.ntmps50
 go_wp2_with (with_reducible refine yq _ ?_;(try generalize (G.w _).heap.size=bk);(try dsimp only[yi,yj]);(try clear g);intro g)
 refine(CS.out _ (HA.out.mono (g.sub _ (by simp))) (HB.out.mono (g.sub _ (by simp)))).mono ?_
 rintro e w1 ⟨rfl,hb⟩
 obtain⟨g1,rfl⟩:=G.call_ex _ hb
 clear hb
 (try clear g)
 revert g1
 intro g
 go_wp2_with (with_reducible refine yq _ ?_;(try generalize (G.w _).heap.size=bk);(try dsimp only[yi,yj]);(try clear g);intro g)
 go_ret
 exact⟨rfl,G.below _⟩
set_option maxRecDepth 20000 in
set_option maxHeartbeats 1000000 in
theorem lnum5_x (a b:Int)(z:Rat)(hb:b≠0)(e:frac (decide (a<0) !=decide (b<0)) a.natAbs b.natAbs=z)(h1: -9223372036854775808≤a)(h2:a<9223372036854775808)(h3: -9223372036854775808≤b)(h4:b<9223372036854775808)(p q r:Value)(w:World)(h:RtW w p q r (rawOf z)):
  Calls Tryz.prog 51 #[.agg #[p,q,r],.int .i64 0,.int .i64 a,.int .i64 b] w fun e w'=>e=.returned (.bool true)∧Below w.heap.size w w':=by
 refine calls_b fun g=>?_
 have CO:=Lib.hid (fun w=>lof5_r a b z hb e h1 h2 h3 h4 w)
 unfold RT1 at CO
 have CS:=Lib.hid (fun p q r p' q' r' w h h'=>rsame5_x (rawOf z) p q r p' q' r' w h h')
 obtain⟨s1,A1,n1,c1,B1,d1,k1,rfl,rfl,rfl⟩:=h.shape
 have H:=Lib.hid h
 clear e hb h1 h2 h3 h4 h
 go_enter Tryz.func51,Tryz.ntmps51
 go_upto_region 1 with(with_reducible refine yq _ ?_;(try generalize (G.w _).heap.size=bk);(try dsimp only[yi,yj]);(try clear g);intro g)
 ((try simp only[G.drew_eq,G.drewN_eq]);(refine yq _ ?_;(try generalize (G.w _).heap.size=bk);(try dsimp only[yi,yj]);(try clear g);intro g))
 refine wp_region_held_drew (S:=G.heldN g [true]) (by kernel_rfl) (by simp[G.heldN,HeldN,go_sem]) (fun hHeld=>?_)
 refine tk0 [0,1,2,3,4,5] ?_
 repeat (refine tkc rfl (by kernel_rfl) (fun _ _ _ h=>h) (by rfl) ‹_› (by intro w hSw;(try dsimp only at hSw);go_simp;(try with_reducible rfl)) ?_;try simp only[Act.put,yk,yl,yn,yo,yi,yj])
 refine tkn ?_
 refine wpAnyH_ready (rs:=[6]) (by kernel_rfl) (by simp) ?_
 refine AllReadyH.cons rfl (fun K hK=>?_) AllReadyH.nil
 ·(try simp only[Act.put,yk,yl,yn,yo,yi,yj])
  go_simp
  go_at_call 45
  (try(refine cmark _ ?_;(try dsimp only[yi,yj]);(try clear g);intro g))
  refine(CO.out _).mono ?_
  rintro e w1 ⟨pa,qa,ra,Fa,rfl,ha,hn⟩
  have hnna:=fun k o hk=>Nat.le_trans g.chg.size (hn.new k o hk)
  obtain⟨sa,Aa,na,ca,Ba,da,ka,rfl,rfl,rfl⟩:=ha.shape
  obtain⟨g1,rfl⟩:=G.new_ex _ hn
  clear hn
  (try clear g)
  revert g1
  intro g
  refine hK.out _ _ (by simp[G.heldN,HeldN,go_sem]) (fun hHeld=>?_)
  clear hK K
  (try simp only[Act.put,yk,yl,yn,yo,yi,yj])
  refine wpAnyH_ready (rs:=[7]) (by kernel_rfl) (by simp) ?_
  refine AllReadyH.cons rfl (fun K hK=>?_) AllReadyH.nil
  ·(try simp only[Act.put,yk,yl,yn,yo,yi,yj])
   go_simp
   go_at_call 27
   (try(refine cmark _ ?_;(try dsimp only[yi,yj]);(try clear g);intro g))
   refine(CS.out _ _ _ _ _ _ _ (G.rtI g (f:=heapOf w) (by simp) H.out) (G.rtI g (by simp) ha)).mono ?_
   rintro e w1 ⟨rfl,hb⟩
   obtain⟨g1,rfl⟩:=G.call_ex _ hb
   clear hb
   (try clear g)
   revert g1
   intro g
   refine hK.out _ _ (by simp[G.heldN,HeldN,go_sem]) (fun hHeld=>?_)
   clear hK K
   (try simp only[Act.put,yk,yl,yn,yo,yi,yj])
   refine tk0 [8,9] ?_
   repeat (refine tkc rfl (by kernel_rfl) (fun _ _ _ h=>h) (by rfl) ‹_› (by intro w hSw;(try dsimp only at hSw);go_simp;(try with_reducible rfl)) ?_;try simp only[Act.put,yk,yl,yn,yo,yi,yj])
   refine tkn ?_
   refine wpAnyH_done (by kernel_rfl) ?_ _
   (as_aux_lemma=>
    (try clear hHeld)
    ((try simp only[G.drew_eq,G.drewN_eq]);(refine yq _ ?_;(try generalize (G.w _).heap.size=bk);(try dsimp only[yi,yj]);(try clear g);intro g))
    go_wp2_with (with_reducible refine yq _ ?_;(try generalize (G.w _).heap.size=bk);(try dsimp only[yi,yj]);(try clear g);intro g)
    go_ret
    exact⟨rfl,G.below _⟩)
/-- the error of a matrix that has to be square -/
def sqE (n:Nat)(m:Nat→Nat)(x:Nat→Nat→Raw):Int:=if matE n m x=0 then(if n=m 0 then 0 else 10) else matE n m x
/-- the number 0 without limbs, and an error -/
def RErrR (E:Int)(w:World)(e:Ending)(w':World):Prop:=e=.returned (.tuple #[.agg #[.bool false,.slice none 0 0,.slice none 0 0],.int .i64 E])∧Below w.heap.size w w'
theorem rowsE_m {m:Nat→Nat}{x:Nat→Nat→Raw}:∀ {n:Nat},rowsE m x n=0→∀i,i<n→m i=m 0
 |0,_,i,h=>absurd h (Nat.not_lt_zero i)
 |n+1,h,i,hi=>by
  unfold rowsE at h
  by_cases h0:rowsE m x n=0
  ·rw[if_pos h0] at h
   by_cases hin:i=n
   ·subst hin
    unfold rowE at h
    by_cases h1:m i=m 0
    ·exact h1
    ·rw[if_neg h1] at h;exact absurd h (by decide)
   ·exact rowsE_m h0 i (by omega)
  ·rw[if_neg h0] at h;exact absurd h h0
theorem matE_m {n:Nat}{m:Nat→Nat}{x:Nat→Nat→Raw}(h:matE n m x=0):∀i,i<n→m i=m 0:=by
 have hp:=matE_pos h
 unfold matE at h
 rw[if_pos (show shpE n (m 0)=0 from by unfold shpE;rw[if_neg (by omega)])] at h
 exact rowsE_m h
end Go.Proofs.YthhbbnfnejjpiaaGreatDoor
