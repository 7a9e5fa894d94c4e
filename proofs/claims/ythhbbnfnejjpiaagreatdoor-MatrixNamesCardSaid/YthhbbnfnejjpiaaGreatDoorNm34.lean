/- Plain facts and contracts of functions of the program, out of walks. Their conditions stand ahead of each. -/
import Derived.Test.YthhbbnfnejjpiaaGreatDoorNm5
import Derived.Test.YthhbbnfnejjpiaaGreatDoorNm27
import Derived.Test.YthhbbnfnejjpiaaGreatDoorNm29
import Derived.Test.YthhbbnfnejjpiaaGreatDoorNm32
import Derived.Test.YthhbbnfnejjpiaaGreatDoorNm33
import Derived.Below
import Derived.BigQuiet
import Derived.Deep.DeepCutAuto
import Derived.Deep.Draws
import Derived.Deep.LoopGhost
import Derived.Deep.QuietTactic
import Derived.Deep.RegionHeld3
import Derived.Deep.RegionLaw
import Derived.Defers
import Derived.Laws.BytesString
import Derived.Laws.Cells
import Derived.Laws.Concat
import Derived.Laws.CopyOwn
import Derived.Laws.CopyRow
import Derived.Laws.NewBlocks
import Derived.Laws.OwnMore
import Derived.Laws.Pointers
import Derived.Laws.Rows
import Derived.Lib.BitFns
import Derived.Lib.Hide
import Derived.Lib.ItoaNum
import Derived.Lib.SliceRun
import Derived.Lib.TrailingZeros
import Derived.LoopIn
import Derived.LoopNIn
import Derived.Maps.AppendAt
import Derived.OrdersHeld
import Derived.OrdersIn
import Derived.OwnWalk
import Derived.OwnWalkIn
import Derived.RangeFuncBound
import Derived.RangeFuncBox
import Derived.RangeFuncCalls
import Derived.RangeFuncLeaves
import Derived.RangeFuncNested
import Derived.RangeFuncWrites
import Derived.RowKit3
import Derived.Shelf.Abstract
import Derived.Shelf.RegionOpen
import Derived.Shelf.Spec.TrailingZeros
import Derived.StillTactics
import Derived.StillTailTactics
import Derived.TacticsInMore
import Derived.Test.YthhbbnfnejjpiaaGreatDoorProg
import Derived.WalkKit
import Derived.WalkLawsBesides
import Derived.WalkMore
import Derived.WalkSpells
set_option linter.unusedVariables false
set_option linter.unusedSimpArgs false
set_option exponentiation.threshold 10000
namespace Go.Proofs.YthhbbnfnejjpiaaGreatDoor
open Go.RowKit GW NL MX
def RFac (n:Nat)(a:Mx)(w:World)(e:Ending)(w':World):Prop:=((∀k,k<n→0<facD a k)∧∃b cl b2 cd F,e=.returned (.tuple #[.slice (some ⟨b,0,none⟩) n cl,.slice (some ⟨b2,0,none⟩) n cd,.bool true,.int .i64 0])∧Frag.Mt F (some ⟨b,0,none⟩) cl n (fun _=>n) (rawM (facL a))∧Frag.Rw F (some ⟨b2,0,none⟩) cd n (rawR (facD a))∧New w w' F)∨((∃k,k<n∧¬ 0<facD a k)∧e=.returned (.tuple #[.slice none 0 0,.slice none 0 0,.bool false,.int .i64 0])∧Below w.heap.size w w')
set_option maxRecDepth 40000 in
set_option maxHeartbeats 16000000 in
theorem factors_r (n:Nat)(a:Mx)(A:Option Addr)(c:Nat)(w:World)(hA:(heapOf w).Mt A c n (fun _=>n) (rawM a))(hT:Tab w)(n1:1≤n)(n2:n≤24)(bx:∀i,i<n→∀j,j<n→Bd 8192 (a i j))(hsym:∀i,i<n→∀k,k<n→a i k=a k i)(hf:FacFine n a):
  Calls Tryz.prog 87 #[.slice A n c] w (RFac n a w):=by
 refine calls_b fun g=>?_
 unfold RFac
 have HT:=Lib.hid hT
 have HA:=Lib.hid hA
 have HSYM:=Lib.hid hsym
 have HFF:=Lib.hid hf
 have HBX:=Lib.hid bx
 have CE:=Lib.hid (fun t p q r p' q' r' w h h'=>mequal_any t t p q r p' q' r' w h h')
 have CO:=Lib.hid (fun w t=>one_own n (by omega) (by omega) w t)
 unfold ROne at CO
 obtain⟨i0,hi,hz0,hz1,hz2⟩:=info_parts infoRat
 obtain⟨b,o,rfl,hrow⟩:=hA.rowAt n1
 have HR:Hid (∀i,i<n→∃ba oa k,w.cell? ⟨b,o+i,none⟩=some (.slice (some ⟨ba,oa,none⟩) n k)∧∀j,j<n→∃p q r,w.cell? ⟨ba,oa+j*3,none⟩=some p∧w.cell? ⟨ba,oa+j*3+1,none⟩=some q∧w.cell? ⟨ba,oa+j*3+2,none⟩=some r∧RtW w p q r (rawOf (a i j))):=Lib.hid (fun i hi=>by
  obtain⟨B,k,h1,h2⟩:=hrow i hi
  obtain⟨ba,oa,rfl,h3⟩:=h2.num n1
  refine⟨ba,oa,k,h1 _ _ _ _ (G.begin w) (InF.head _ _),fun j hj=>?_⟩
  obtain⟨p,q,r,h4,h5⟩:=h3 j hj
  have h6:=h4 _ _ _ _ (G.begin w) (InF.head _ _)
  exact⟨p,q,r,h6.1,h6.2.1,h6.2.2,h5⟩)
 have hni:(0:Int)≤(n:Int):=by omega
 clear hT hA hsym hf bx hrow
 go_enter Tryz.func87,Tryz.ntmps87
 go_wp2_with (with_reducible refine yq _ ?_;(try generalize (G.w _).heap.size=bk);(try dsimp only[yi,yj]);(try clear g);intro g)
 (try(refine cmark _ ?_;(try dsimp only[yi,yj]);(try clear g);intro g))
 obtain⟨s2b,rfl⟩:∃s2b,s2b=bk:=⟨_,rfl⟩
 obtain⟨sb,rfl⟩:∃sb,sb=bk:=⟨_,rfl⟩
 obtain⟨lb,rfl⟩:∃lb,lb=bk:=⟨_,rfl⟩
 refine(CO.out _ (G.tab g HT.out)).mono ?_
 rintro e w1 ⟨ob,R,oc,F,g1,rfl,hocl,hown,hnw,rfl⟩
 obtain⟨g2,e2⟩:=G.lift g g1 hnw
 rw[e2]
 have hnwW:F.Nw w:=fun k o hk=>Nat.le_trans g.chg.size (hnw k o hk)
 have hownW:OwnOn (List.range n) (fun j=>NumRow w.heap.size 43 F n (rawM (lM a 0 0) j)) R oc:=hown.next (fun _ _=>rfl) (fun j hj v s hq=>(NumRow.lo hq g.chg.size).congr (fun k hk=>by unfold rawM;rw[lM_start]))
 obtain⟨g3,e3⟩:=g2.perm (M':=(s2b,76,[Value.pointer (some ⟨sb,0,none⟩)])::(sb,78,[Value.int .i64 0])::(lb,29,[Value.slice none 0 0])::(ob,38,oc)::R) List.perm_append_comm
 rw[e3]
 clear e2 e3 hown hnw g1 g2 g CO
 revert g3
 intro g
 go_wp2_with (with_reducible refine yq _ ?_;(try generalize (G.w _).heap.size=bk);(try dsimp only[yi,yj]);(try clear g);intro g)
 go_loopw [3,21] (fun dv iv wr=>dv=.slice none 0 0∧∃i:Nat,iv=.int .i64 (i:Int)∧i≤n∧∃g:G w [] ((s2b,76,[Value.pointer (some ⟨sb,0,none⟩)])::(sb,78,[Value.int .i64 0])::(lb,29,[Value.slice (some ⟨ob,0,none⟩) n n])::(ob,38,oc)::R) [F,heapOf w],wr=g.w) (fun _ iv _=>n-(intOf iv).toNat)
 case atStart=>exact⟨rfl,0,rfl,by omega,_,rfl⟩
 case round=>
  clear g
  obtain⟨rfl,i,rfl,hi',g,rfl⟩:=hrel
  by_cases hin:i<n
  ·have hii:(i:Int)<(n:Int):=by omega
   obtain⟨ba,oa,k0,hro,hnu⟩:=HR.out i hin
   have EH:=fun(M:List Blk) (I:List Frag) (g:G w [] M I)=>G.keepc g hro
   have HNU:=Lib.hid hnu
   clear hro hnu
   go_wp2_with (with_reducible refine yq _ ?_;(try generalize (G.w _).heap.size=bk);(try dsimp only[yi,yj]);(try clear g);intro g)
   go_loopw [3,27] (fun dv kv wr=>dv=.slice none 0 0∧∃k:Nat,kv=.int .i64 (k:Int)∧k≤i∧∃g:G w [] ((s2b,76,[Value.pointer (some ⟨sb,0,none⟩)])::(sb,78,[Value.int .i64 0])::(lb,29,[Value.slice (some ⟨ob,0,none⟩) n n])::(ob,38,oc)::R) [F,heapOf w],wr=g.w) (fun _ kv _=>i-(intOf kv).toNat)
   case atStart=>exact⟨rfl,0,rfl,by omega,g,rfl⟩
   case round=>
    clear g
    obtain⟨rfl,k,rfl,hk',g,rfl⟩:=hrel
    by_cases hki:k<i
    ·have hkii:(k:Int)<(i:Int):=by omega
     have hkn:(k:Int)<(n:Int):=by omega
     obtain⟨p,q,r,x0,x1,x2,hx⟩:=HNU.out k (by omega)
     obtain⟨bk2,ok2,k2,hro2,hnu2⟩:=HR.out k (by omega)
     obtain⟨p',q',r',y0,y1,y2,hy⟩:=hnu2 i hin
     rw[←HSYM.out i hin k (by omega)] at hy
     obtain⟨s1,A1,m1,c1,B1,d1,e1,rfl,rfl,rfl⟩:=hx.shape
     obtain⟨s2,A2,m2,c2,B2,d2,e2,rfl,rfl,rfl⟩:=hy.shape
     have X0:=fun(M:List Blk) (I:List Frag) (g:G w [] M I)=>G.keepc g x0
     have X1:=fun(M:List Blk) (I:List Frag) (g:G w [] M I)=>G.keepc g x1
     have X2:=fun(M:List Blk) (I:List Frag) (g:G w [] M I)=>G.keepc g x2
     have Y0:=fun(M:List Blk) (I:List Frag) (g:G w [] M I)=>G.keepc g y0
     have Y1:=fun(M:List Blk) (I:List Frag) (g:G w [] M I)=>G.keepc g y1
     have Y2:=fun(M:List Blk) (I:List Frag) (g:G w [] M I)=>G.keepc g y2
     have EK:=fun(M:List Blk) (I:List Frag) (g:G w [] M I)=>G.keepc g hro2
     have HX:=Lib.hid hx
     have HY:=Lib.hid hy
     clear x0 x1 x2 y0 y1 y2 hro2 hnu2 hx hy
     go_upto_region 9 with(with_reducible refine yq _ ?_;(try generalize (G.w _).heap.size=bk);(try dsimp only[yi,yj]);(try clear g);intro g)
     ((try simp only[G.drew_eq,G.drewN_eq]);(refine yq _ ?_;(try generalize (G.w _).heap.size=bk);(try dsimp only[yi,yj]);(try clear g);intro g))
     refine wp_region_held_drew (S:=(fun w'=>w'.cell? ⟨ba,oa+k*3,none⟩=some (.bool s1)∧w'.cell? ⟨ba,oa+k*3+1,none⟩=some (.slice A1 m1 c1)∧w'.cell? ⟨ba,oa+k*3+2,none⟩=some (.slice B1 d1 e1)∧w'.cell? ⟨b,o+k,none⟩=some (.slice (some ⟨bk2,ok2,none⟩) n k2)∧w'.cell? ⟨bk2,ok2+i*3,none⟩=some (.bool s2)∧w'.cell? ⟨bk2,ok2+i*3+1,none⟩=some (.slice A2 m2 c2)∧w'.cell? ⟨bk2,ok2+i*3+2,none⟩=some (.slice B2 d2 e2))) (by kernel_rfl) (by(simp[go_sem, *];done)) (fun hHeld=>?_)
     refine tk0 [0,1,2,3,4,5,6,7,8,9,10] ?_
     repeat (refine tkc rfl (by kernel_rfl) (fun _ _ _ h=>h) (by rfl) ‹_› (by intro w hSw;(try dsimp only at hSw);go_simp;(try with_reducible rfl)) ?_;try simp only[Act.put,yk,yl,yn,yo,yi,yj])
     refine tkn ?_
     refine wpAnyH_ready (rs:=[11]) (by kernel_rfl) (by simp) ?_
     refine AllReadyH.cons rfl (fun K hK=>?_) AllReadyH.nil
     ·(try simp only[Act.put,yk,yl,yn,yo,yi,yj])
      go_simp
      go_at_call 120
      (try(refine cmark _ ?_;(try dsimp only[yi,yj]);(try clear g);intro g))
      refine(CE.out (rawOf (a i k)) _ _ _ _ _ _ _ (G.rtI g (f:=heapOf w) (by simp) HX.out) (G.rtI g (f:=heapOf w) (by simp) HY.out)).mono ?_
      rintro e w1 ⟨rfl,hb⟩
      obtain⟨g1,rfl⟩:=G.call_ex _ hb
      clear hb
      (try clear g)
      revert g1
      intro g
      refine hK.out _ _ (by(simp[go_sem, *];done)) (fun hHeld=>?_)
      clear hK K
      (try simp only[Act.put,yk,yl,yn,yo,yi,yj])
      refine tk0 [12] ?_
      repeat (refine tkc rfl (by kernel_rfl) (fun _ _ _ h=>h) (by rfl) ‹_› (by intro w hSw;(try dsimp only at hSw);go_simp;(try with_reducible rfl)) ?_;try simp only[Act.put,yk,yl,yn,yo,yi,yj])
      refine tkn ?_
      refine wpAnyH_done (by kernel_rfl) ?_ _
      (as_aux_lemma=>
       (try clear hHeld)
       ((try simp only[G.drew_eq,G.drewN_eq]);(refine yq _ ?_;(try generalize (G.w _).heap.size=bk);(try dsimp only[yi,yj]);(try clear g);intro g))
       go_wp2_with (with_reducible refine yq _ ?_;(try generalize (G.w _).heap.size=bk);(try dsimp only[yi,yj]);(try clear g);intro g)
       go_roundw
       case rel=>exact⟨rfl,k+1,by go_num,by omega,g,rfl⟩
       case measure=>simp[intOf]<;>omega)
    ·obtain rfl:k=i:=by omega
     go_wp2_with (with_reducible refine yq _ ?_;(try generalize (G.w _).heap.size=bk);(try dsimp only[yi,yj]);(try clear g);intro g)
     go_roundw
     case rel=>exact⟨rfl,k+1,by go_num,by omega,g,rfl⟩
     case measure=>simp[intOf]<;>omega
  ·obtain rfl:i=n:=by omega
   clear CE HSYM
   have CR:=Lib.hid (fun w=>ring_any sb w)
   have CLS:=Lib.hid (fun i' (hi:i'<i) k (hk:k≤i') (hd:∀j,j<k→facD a j≠0) p q r p' q' r' w h1 h2 hs t=>sless_r (a i' k) (sumN k (fun j=>facL a i' j*facL a k j*facD a j)) (facS a k i') (HBX.out i' hi k (by omega)) ((HFF.out i' hi k hk hd).2.1 k (Nat.le_refl k)) (HFF.out i' hi k hk hd).2.2.1 (facS_walk hk).symm p q r p' q' r' sb w h1 h2 hs t)
   have COV:=Lib.hid (fun i' (hi:i'<i) k (hk:k<i') (hd:∀j,j<k→facD a j≠0) (h0:facD a k≠0) p q r p' q' r' w h1 h2 hs t=>sover_r (facS a k i') (facD a k) (facL a i' k) (HFF.out i' hi k (by omega) hd).2.2.1 (HFF.out k (by omega) k (Nat.le_refl k) hd).2.2.1 ((HFF.out i' hi k (by omega) hd).2.2.2 hk h0) (fun h=>h0 ((rn_zero_iff _).1 h)) (by show _=(if k<i' then facS a k i'/facD a k else _);rw[if_pos hk]) p q r p' q' r' sb w h1 h2 hs t)
   unfold RT1 at CLS COV
   go_wp2_with (with_reducible refine yq _ ?_;(try generalize (G.w _).heap.size=bk);(try dsimp only[yi,yj]);(try clear g);intro g)
   go_loopw [3,47] (fun dv iv wr=>∃i2:Nat,iv=.int .i64 (i2:Int)∧i2≤i∧(∀j,j<i2→0<facD a j)∧∃(cd:Nat) (Ad:Option Addr) (sd R:List Blk) (ld:List Tri) (oc:List Value) (F:Frag),dv=.slice Ad i2 cd∧RowV w.heap.size 43 3 i2 (cells3 ld) Ad cd sd∧F.Tris ld i2 (rawR (facD a))∧OwnOn (List.range i) (fun j=>NumRow w.heap.size 43 F i (rawM (lM a i2 0) j)) R oc∧oc.length=i∧F.Nw w∧∃g:G w [] ((s2b,76,[Value.pointer (some ⟨sb,0,none⟩)])::(sb,78,[Value.int .i64 0])::(lb,29,[Value.slice (some ⟨ob,0,none⟩) i i])::(ob,38,oc)::(sd++R)) [F,heapOf w],wr=g.w) (fun _ iv _=>i-(intOf iv).toNat)
   case atStart=>exact⟨0,rfl,by omega,fun j hj=>absurd hj (Nat.not_lt_zero _),0,none,[],R,[],oc,F,rfl,RowV.nil _ _ _,Frag.Tris.nil _ _,hownW,hocl,hnwW,g,rfl⟩
   case round =>
    clear g hownW hocl hnwW
    obtain⟨i2,rfl,hi2,hpos,cd,Ad,sd,R,ld,oc,F,rfl,hdv,hdl,hown,hocl,hnw,g,rfl⟩:=hrel
    by_cases hin:i2<i
    ·have hii:(i2:Int)<(i:Int):=by omega
     obtain⟨ba,oa,k0,hro,hnu⟩:=HR.out i2 hin
     have EH:=fun(M:List Blk) (I:List Frag) (g:G w [] M I)=>G.keepc g hro
     have HNU:=Lib.hid hnu
     have HDV:=Lib.hid hdv
     have HDL:=Lib.hid hdl
     have HOW:=Lib.hid hown
     have HNW:=Lib.hid hnw
     have HPOS:=Lib.hid hpos
     clear hro hnu hdv hdl hown hnw hpos
     go_wp2_with (with_reducible refine yq _ ?_;(try generalize (G.w _).heap.size=bk);(try dsimp only[yi,yj]);(try clear g);intro g)
     obtain⟨ib,rfl⟩:∃ib,ib=bk:=⟨_,rfl⟩
     clear EH
     go_loopw [3,54] (fun dv kv wr=>∃k m:Nat,kv=.int .i64 (k:Int)∧((k≤i2∧m=i2)∨(k=i2+1∧m=i2+1))∧Hid (∀j,j<m→0<facD a j)∧∃(cd:Nat) (Ad:Option Addr) (sd R:List Blk) (ld:List Tri) (oc:List Value) (F:Frag),dv=.slice Ad m cd∧Hid (RowV w.heap.size 43 3 m (cells3 ld) Ad cd sd)∧Hid (F.Tris ld m (rawR (facD a)))∧Hid (OwnOn (List.range i) (fun j=>NumRow w.heap.size 43 F i (rawM (lM a i2 k) j)) R oc)∧oc.length=i∧Hid (F.Nw w)∧∃g:G w [] ((ib,3,[Value.int .i64 (i2:Int)])::(s2b,76,[Value.pointer (some ⟨sb,0,none⟩)])::(sb,78,[Value.int .i64 0])::(lb,29,[Value.slice (some ⟨ob,0,none⟩) i i])::(ob,38,oc)::(sd++R)) [F,heapOf w],wr=g.w) (fun _ kv _=>i2+1-(intOf kv).toNat)
     case atStart=>exact⟨0,i2,rfl,.inl ⟨by omega,rfl⟩,HPOS,cd,Ad,sd,R,ld,oc,F,rfl,HDV,HDL,HOW,hocl,HNW,_,rfl⟩
     case round=>
      clear g HPOS HDV HDL HOW HNW hocl
      obtain⟨k,m,rfl,hkm,HPOS,cd,Ad,sd,R,ld,oc,F,rfl,HDV,HDL,HOW,hocl,HNW,g,rfl⟩:=hrel
      have HOCL:=Lib.hid hocl
      clear hocl
      by_cases hk1:k<i2+1
      ·obtain rfl:m=i2:=by omega
       have hki:k≤m:=by omega
       have hkii:(k:Int)<(m:Int)+1:=by omega
       have hkn:(k:Int)<(i:Int):=by omega
       have hkn':k<i:=by omega
       have hk0:(0:Int)≤(k:Int):=by omega
       clear hkm hk1
       obtain⟨ri,ci,li,csi,ho1,hm1,hr1,ht1⟩:=OwnOn.block HOW.out hin (by omega)
       obtain⟨rk,ck,lk,csk,ho2,hm2,hr2,ht2⟩:=OwnOn.block HOW.out hkn' (by omega)
       have hd0:∀j,j<k→facD a j≠0:=fun j hj e=>by
        have:=HPOS.out j (by omega)
        rw[e] at this
        exact absurd this (Rat.lt_irrefl)
       have hl1:∀j,j<k→∃p q r,li[j]?=some (p,q,r)∧F.Rt p q r (rawOf (facL a m j)):=fun j hj=>by
        obtain⟨p,q,r,e1,e2⟩:=ht1.2 j (by omega)
        unfold rawM at e2
        rw[lM_at a (.inr ⟨rfl,hj⟩)] at e2
        exact⟨p,q,r,e1,e2⟩
       have hl2:∀j,j<k→∃p q r,lk[j]?=some (p,q,r)∧F.Rt p q r (rawOf (facL a k j)):=fun j hj=>by
        obtain⟨p,q,r,e1,e2⟩:=ht2.2 j (by omega)
        unfold rawM at e2
        rw[lM_at a (by omega)] at e2
        exact⟨p,q,r,e1,e2⟩
       have hff:=HFF.out m hin k hki hd0
       have CF:Hid (∀(kb:Nat) (M:List Blk) (I:List Frag) (g:G w [] M I),(s2b,76,[Value.pointer (some ⟨sb,0,none⟩)])∈M→(lb,29,[Value.slice (some ⟨ob,0,none⟩) i i])∈M→(ib,3,[Value.int .i64 (m:Int)])∈M→(kb,3,[Value.int .i64 (k:Int)])∈M→(ob,38,oc)∈M→(ri,43,csi)∈M→(rk,43,csk)∈M→(∀m∈sd,m∈M)→F∈I→(sb,78,[Value.int .i64 0])∈M→Calls Tryz.prog 55 #[.slice Ad k cd,.agg #[.func (.func 59) #[.pointer (some ⟨sb,0,none⟩)] #[],.func (.func 99) #[.pointer (some ⟨sb,0,none⟩)] #[]],.func (.func 122) #[] #[.pointer (some ⟨s2b,0,none⟩),.pointer (some ⟨lb,0,none⟩),.pointer (some ⟨ib,0,none⟩),.pointer (some ⟨kb,0,none⟩)]] g.w (RT1 (rawOf (sumN k (fun j=>facL a m j*facL a k j*facD a j))) g.w)):=Lib.hid (fun kb M I g m1 m2 m3 m4 m5 m6 m7 m8 m9 m10=>
        fold_rows k i m k ob s2b sb lb ib kb ri rk i ci ck cd Ad (facL a m) (facL a k) (facD a) oc csi csk li lk _ _ _ _ _ _ g.w (g.own _ m1) (g.own _ m2) (g.own _ m3) (g.own _ m4) (g.own _ m5) ho1 ho2 (g.own _ m6) (g.own _ m7) hr1 hr2
         (fun j hj=>by obtain⟨p,q,r,e1,e2⟩:=hl1 j hj;exact⟨p,q,r,e1,G.rtI g m9 e2⟩) (fun j hj=>by obtain⟨p,q,r,e1,e2⟩:=hl2 j hj;exact⟨p,q,r,e1,G.rtI g m9 e2⟩)
         (RowV.rwW g HDV.out HDL.out m9 m8 hki (by omega)) (G.sumM g m10) (G.tab g HT.out) (by omega) hin hkn' hff.1 hff.2.1)
       unfold RT1 at CF
       have CL1:=CLS.out m hin k hki hd0
       have CLH:=Lib.hid CL1
       clear CL1
       have hcd:Hid (m≤cd∧cd≤9223372036854775807):=Lib.hid (by
        rcases HDV.out with⟨_,h1,h2,_⟩|⟨_,_,_,_,_,h⟩
        ·omega
        ·exact⟨h.le,h.max⟩)
       have hcd1:(k:Int)≤(cd:Int):=by have:=hcd.out.1;omega
       obtain⟨p,q,r,x0,x1,x2,hx⟩:=HNU.out k hkn'
       obtain⟨s1,A1,m1,c1,B1,d1,e1,rfl,rfl,rfl⟩:=hx.shape
       have X0:=fun(M:List Blk) (I:List Frag) (g:G w [] M I)=>G.keepc g x0
       have X1:=fun(M:List Blk) (I:List Frag) (g:G w [] M I)=>G.keepc g x1
       have X2:=fun(M:List Blk) (I:List Frag) (g:G w [] M I)=>G.keepc g x2
       have HX:=Lib.hid hx
       have HD0:=Lib.hid hd0
       have HM1:=Lib.hid hm1
       have HM2:=Lib.hid hm2
       clear x0 x1 x2 hx hd0 hm1 hm2 ho1 ho2 hr1 hr2 ht1 ht2 hl1 hl2 hff
       go_upto_region 19 with(with_reducible refine yq _ ?_;(try generalize (G.w _).heap.size=bk);(try dsimp only[yi,yj]);(try clear g);intro g)
       obtain⟨kb,rfl⟩:∃kb,kb=bk:=⟨_,rfl⟩
       ((try simp only[G.drew_eq,G.drewN_eq]);(refine yq _ ?_;(try generalize (G.w _).heap.size=bk);(try dsimp only[yi,yj]);(try clear g);intro g))
       refine wp_region_held_drew (S:=(fun w'=>(G.heldN g [true,false,true]) w'∧w'.cell? ⟨ba,oa+k*3,none⟩=some (.bool s1)∧w'.cell? ⟨ba,oa+k*3+1,none⟩=some (.slice A1 m1 c1)∧w'.cell? ⟨ba,oa+k*3+2,none⟩=some (.slice B1 d1 e1))) (by kernel_rfl) (by(simp[G.heldN,HeldN,go_sem, *];done)) (fun hHeld=>?_)
       refine tk0 [0,1,2,3,4,5,6,7,8,10] ?_
       repeat (refine tkc rfl (by kernel_rfl) (fun _ _ _ h=>h) (by rfl) ‹_› (by intro w hSw;(try dsimp only at hSw);go_simp;(try with_reducible rfl)) ?_;try simp only[Act.put,yk,yl,yn,yo,yi,yj])
       refine tkn ?_
       refine wpAnyH_ready (rs:=[9,13]) (by kernel_rfl) (by simp) ?_
       refine AllReadyH.cons rfl (fun K hK=>?_) (AllReadyH.cons rfl (fun K hK=>?_) AllReadyH.nil)
       ·(try simp only[Act.put,yk,yl,yn,yo,yi,yj])
        go_simp
        go_at_call 56
        (try(refine cmark _ ?_;(try dsimp only[yi,yj]);(try clear g);intro g))
        refine(CR.out _).mono ?_
        rintro e w1 ⟨rfl,hb⟩
        obtain⟨g1,rfl⟩:=G.call_ex _ hb
        clear hb
        (try clear g)
        revert g1
        intro g
        refine hK.out _ _ (by(simp[G.heldN,HeldN,go_sem, *];done)) (fun hHeld=>?_)
        clear hK K
        (try simp only[Act.put,yk,yl,yn,yo,yi,yj])
        refine wpAnyH_ready (rs:=[11,13]) (by kernel_rfl) (by simp) ?_
        refine AllReadyH.cons rfl (fun K hK=>?_) (AllReadyH.cons rfl (fun K hK=>?_) AllReadyH.nil)
        ·(try simp only[Act.put,yk,yl,yn,yo,yi,yj])
         go_simp
         go_at_call 55
         (try(refine cmark _ ?_;(try dsimp only[yi,yj]);(try clear g);intro g))
         refine(CF.out _ _ _ g (by simp) (by simp) (by simp) (by simp) (by simp) (by simp[HM1.out]) (by simp[HM2.out]) (fun m' hm'=>by simp[hm']) (by simp) (by simp)).mono ?_
         rintro e w1 ⟨pf,qf,rf,Ff,rfl,hf,hn⟩
         have hnnf:=fun k o hk=>Nat.le_trans g.chg.size (hn.new k o hk)
         obtain⟨sf,Af,nf,cf,Bf,df,kf,rfl,rfl,rfl⟩:=hf.shape
         obtain⟨g1,rfl⟩:=G.new_ex _ hn
         clear hn
         (try clear g)
         revert g1
         intro g
         refine hK.out _ _ (by(simp[G.heldN,HeldN,go_sem, *];done)) (fun hHeld=>?_)
         clear hK K
         (try simp only[Act.put,yk,yl,yn,yo,yi,yj])
         refine wpAnyH_ready (rs:=[12,13]) (by kernel_rfl) (by simp) ?_
         refine AllReadyH.cons rfl (fun K hK=>?_) (AllReadyH.cons rfl (fun K hK=>?_) AllReadyH.nil)
         ·(try simp only [Act.put, yk, yl, yn, yo, yi, yj])
          go_simp
          go_at_call 121
          (try(refine cmark _ ?_;(try dsimp only[yi,yj]);(try clear g);intro g))
          refine(CLH.out _ _ _ _ _ _ _ (G.rtI g (f:=heapOf w) (by simp) HX.out) (G.rtI g (by simp) hf) (G.sumM g (by simp)) (G.tab g HT.out)).mono ?_
          rintro e w1 ⟨px,qx,rx,Fx,rfl,hx,hn⟩
          have hnnx:=fun k o hk=>Nat.le_trans g.chg.size (hn.new k o hk)
          obtain⟨sx,Ax,nx,cx,Bx,dx,kx,rfl,rfl,rfl⟩:=hx.shape
          obtain⟨g1,rfl⟩:=G.new_ex _ hn
          clear hn
          (try clear g)
          revert g1
          intro g
          refine hK.out _ _ (by(simp[G.heldN,HeldN,go_sem, *];done)) (fun hHeld=>?_)
          clear hK K
          (try simp only[Act.put,yk,yl,yn,yo,yi,yj])
          refine wpAnyH_ready (rs:=[13]) (by kernel_rfl) (by simp) ?_
          refine AllReadyH.cons rfl (fun K hK=>?_) AllReadyH.nil
          ·(try simp only [Act.put, yk, yl, yn, yo, yi, yj])
           go_simp
           refine hK.out _ _ (by(simp[G.heldN,HeldN,go_sem, *];done)) (fun hHeld=>?_)
           clear hK K
           (try simp only[Act.put,yk,yl,yn,yo,yi,yj])
           refine wpAnyH_ready (rs:=[14]) (by kernel_rfl) (by simp) ?_
           refine AllReadyH.cons rfl (fun K hK=>?_) AllReadyH.nil
           ·(try simp only[Act.put,yk,yl,yn,yo,yi,yj])
            go_simp
            refine hK.out _ _ (by(simp[G.heldN,HeldN,go_sem, *];done)) (fun hHeld=>?_)
            clear hK K
            (try simp only[Act.put,yk,yl,yn,yo,yi,yj])
            refine wpAnyH_done (by kernel_rfl) ?_ _
            (as_aux_lemma=>
             skip
             all_goals (
              (try clear hHeld)
              clear X0 X1 X2 CF CLH HX HM1 HM2
              ((try simp only[G.drew_eq,G.drewN_eq]);(refine yq _ ?_;(try generalize (G.w _).heap.size=bk);(try dsimp only[yi,yj]);(try clear g);intro g))
              by_cases hkm:k<m
              ·have hkmi:(k:Int)<(m:Int):=by omega
               have hdk:=HPOS.out k hkm
               have hdk0:facD a k≠0:=fun e=>by
                rw[e] at hdk
                exact absurd hdk (Rat.lt_irrefl)
               have CY:=Lib.hid (COV.out m hin k hkm HD0.out hdk0)
               obtain⟨v,s,R',hv,⟨A4,c4,l4,rfl,hvr4,hl4⟩,hp,hbut⟩:=HOW.out.openAt hin
               rcases hvr4 with⟨_,_,h0,_⟩|⟨rb,rcs,rfl,rfl,hrb,hrrow⟩
               ·omega
               rcases HDV.out with⟨_,_,h0,_⟩|⟨db,dcs,rfl,rfl,hdb,hdrow⟩
               ·omega
               obtain⟨g1,e1'⟩:=g.perm ((((((((hp.cons _).cons _).cons _).cons _).cons _).cons _).cons _).cons _)
               rw[e1']
               clear e1' g hp
               revert g1
               dsimp only[List.cons_append,List.nil_append]
               intro g
               obtain⟨p3,q3,r3,hld,hdt⟩:=HDL.out.2 k hkm
               obtain⟨s5,A5,n5,c5,B5,d5,k5,rfl,rfl,rfl⟩:=hdt.shape
               obtain⟨y0,y1,y2⟩:=hdrow.tri hld
               have HBUT:=Lib.hid hbut
               have HL4:=Lib.hid hl4
               have HRR:=Lib.hid hrrow
               have HDR:=Lib.hid (And.intro hdb hdrow)
               have HRB:=Lib.hid hrb
               have HDT:=Lib.hid hdt
               have HHX:=Lib.hid hx
               have HNX:=Lib.hid hnnx
               clear hbut hl4 hdb hrb hdt hdk hdk0 hld hx hnnx hf hnnf
               obtain⟨p6,q6,r6,hl6,ht6⟩:=HL4.out.2 k hkn'
               obtain⟨z0,z1,z2⟩:=hrrow.tri hl6
               clear hrrow hdrow ht6 hl6
               go_upto_region 23 with(with_reducible refine yq _ ?_;(try generalize (G.w _).heap.size=bk);(try dsimp only[yi,yj]);(try clear g);intro g)
               ((try simp only[G.drew_eq,G.drewN_eq]);(refine yq _ ?_;(try generalize (G.w _).heap.size=bk);(try dsimp only[yi,yj]);(try clear g);intro g))
               refine wp_region_held_drew (S:=(fun w'=>(G.heldN g [true,true,true,true,false,true]) w'∧w'.cell? ⟨ob,m,none⟩=some (.slice (some ⟨rb,0,none⟩) i c4)∧w'.cell? ⟨db,k*3,none⟩=some (.bool s5)∧w'.cell? ⟨db,k*3+1,none⟩=some (.slice A5 n5 c5)∧w'.cell? ⟨db,k*3+2,none⟩=some (.slice B5 d5 k5))) (by kernel_rfl) (by(simp[G.heldN,HeldN,go_sem, *];done)) (fun hHeld=>?_)
               refine tk0 [0,1,2,3,4,5,6,7,8,9,10] ?_
               repeat (refine tkc rfl (by kernel_rfl) (fun _ _ _ h=>h) (by rfl) ‹_› (by intro w hSw;(try dsimp only at hSw);go_simp;(try with_reducible rfl)) ?_;try simp only[Act.put,yk,yl,yn,yo,yi,yj])
               refine tkn ?_
               refine wpAnyH_ready (rs:=[11]) (by kernel_rfl) (by simp) ?_
               refine AllReadyH.cons rfl (fun K hK=>?_) AllReadyH.nil
               ·(try simp only[Act.put,yk,yl,yn,yo,yi,yj])
                go_simp
                go_at_call 123
                (try(refine cmark _ ?_;(try dsimp only[yi,yj]);(try clear g);intro g))
                refine(CY.out _ _ _ _ _ _ _ (G.rtI g (by simp) HHX.out) (G.rtI g (by simp) HDT.out) (G.sumM g (by simp)) (G.tab g HT.out)).mono ?_
                rintro e w1 ⟨py,qy,ry,Fy,rfl,hy,hn⟩
                have hnny:=fun k o hk=>Nat.le_trans g.chg.size (hn.new k o hk)
                obtain⟨sy,Ay,ny,cy,By,dy,ky,rfl,rfl,rfl⟩:=hy.shape
                obtain⟨g1,rfl⟩:=G.new_ex _ hn
                clear hn
                (try clear g)
                revert g1
                intro g
                refine hK.out _ _ (by(simp[G.heldN,HeldN,go_sem, *];done)) (fun hHeld=>?_)
                clear hK K
                (try simp only[Act.put,yk,yl,yn,yo,yi,yj])
                refine tk0 [12] ?_
                repeat (refine tkc rfl (by kernel_rfl) (fun _ _ _ h=>h) (by rfl) ‹_› (by intro w hSw;(try dsimp only at hSw);go_simp;(try with_reducible rfl)) ?_;try simp only[Act.put,yk,yl,yn,yo,yi,yj])
                refine tkn ?_
                refine wpAnyH_ready (rs:=[13]) (by kernel_rfl) (by simp) ?_
                refine AllReadyH.cons rfl (fun K hK=>?_) AllReadyH.nil
                ·(try simp only[Act.put,yk,yl,yn,yo,yi,yj])
                 go_simp
                 refine hK.out _ _ (by(simp[G.heldN,HeldN,go_sem, *];done)) (fun hHeld=>?_)
                 clear hK K
                 (try simp only[Act.put,yk,yl,yn,yo,yi,yj])
                 refine wpAnyH_done (by kernel_rfl) ?_ _
                 (as_aux_lemma=>
                  (try clear hHeld)
                  clear CY
                  ((try simp only[G.drew_eq,G.drewN_eq]);(refine yq _ ?_;(try generalize (G.w _).heap.size=bk);(try dsimp only[yi,yj]);(try clear g);intro g))
                  go_wp2_with (with_reducible refine yq _ ?_;(try generalize (G.w _).heap.size=bk);(try dsimp only[yi,yj]);(try clear g);intro g)
                  obtain⟨g2,e2⟩:=g.lessI (I':=[Fy,F,heapOf w]) (by simp)
                  obtain⟨F',g3,e3,hle,hle2,hnew⟩:=g2.merge
                  obtain⟨g4,e4⟩:=g3.less (((List.Sublist.refl _).cons _).cons _)
                  rw[e2,e3,e4]
                  go_roundw
                  case rel=>
                   refine⟨k+1,m,by go_num,.inl ⟨by omega,rfl⟩,HPOS,cd,_,[(db,43,dcs)],(rb,43,((rcs.set (k*3) (.bool sy)).set (k*3+1) (.slice Ay ny cy)).set (k*3+2) (.slice By dy ky))::R',ld,oc,F',rfl,Lib.hid (RowV.row HDR.out.2 HDR.out.1),Lib.hid (HDL.out.mono hle),Lib.hid (HBUT.out.closeAt (s:=[(rb,43,((rcs.set (k*3) (.bool sy)).set (k*3+1) (.slice Ay ny cy)).set (k*3+2) (.slice By dy ky))]) hin hv ?_ (fun _ _ _=>rfl) (fun j hj hji v s hq=>?_)),HOCL.out,Lib.hid (fun k' o hk'=>(hnew k' o hk').elim (HNW.out k' o) (hnny k' o)),g4,rfl⟩
                   ·refine NumRow.of (l:=l4.set k (.bool sy,.slice Ay ny cy,.slice By dy ky)) (RowV.row (HRR.out.setTri hkn' HL4.out.1 _ _ _) HRB.out) (Frag.Tris.set (HL4.out.mono hle) hkn' ?_ (fun j hj hjk=>?_))
                    ·unfold rawM
                     rw[lM_at a (.inr ⟨rfl,Nat.lt_succ_self k⟩)]
                     exact hy.mono hle2
                    ·unfold rawM
                     rw[lM_ne a (fun h=>hjk h.2)]
                   ·refine(NumRow.mono hq hle).congr fun j' hj'=>?_
                    unfold rawM
                    rw[lM_ne a (fun h=>hj h.1)]
                  case measure=>simp[intOf]<;>omega)
              ·obtain rfl:k=m:=by omega
               have hkmi:¬ ((k:Int)<(k:Int)):=by omega
               have hsx:=rt_sign hx
               have hlx:=rt_len0 hx
               have HHX:=Lib.hid hx
               have HNX:=Lib.hid hnnx
               clear hx hnnx hf hnnf HD0 COV CLS CR
               by_cases hD:0<facD a k
               ·have hsf:sx=false:=by rw[hsx];exact rneg_pos hD
                subst hsf
                have hnx:decide (nx=0)=false:=decide_eq_false fun h=>by
                 have:facD a k=0:=hlx.1 h
                 rw[this] at hD
                 exact absurd hD (Rat.lt_irrefl)
                have CN:=null_any false Ax Bx nx cx dx kx
                rw[hnx] at CN
                have CNN:=Lib.hid CN
                have HDD:=Lib.hid hD
                have hx1:k+1≤maxLen:=by show k+1≤9223372036854775807;omega
                have hx2:(k+1)*56≤140737488355328:=by omega
                have hdv:=HDV.out
                clear CN hnx hlx hsx hD
                go_wp2_with (with_reducible refine yq _ ?_;(try generalize (G.w _).heap.size=bk);(try dsimp only[yi,yj]);(try clear g);intro g)
                refine(CNN.out _).mono ?_
                rintro e w1 ⟨rfl,hb⟩
                obtain⟨g1,rfl⟩:=G.call_ex _ hb
                clear hb
                (try clear g)
                revert g1
                intro g
                go_wp2_with (first|(with_reducible refine yq _ ?_;(try generalize (G.w _).heap.size=bk);(try dsimp only[yi,yj]);(try clear g);intro g)|(at_builtin;refine wpList_append_v rfl _ _ 38 rfl 43 i0 _ 3 56 Tryz.underlying38 hi hz0 hz1 hz2 rfl (by decide) 8 g (Rr:=sd) (R':=R) (by rfl) hdv (by rfl) (by exact List.mem_cons_self ..) 1 (by rfl) rfl (three _ _ _ ⟨rfl,rfl,rfl⟩) (by decide) hx1 hx2 ?_;clear hdv;(try clear g);intro b2 cap2 cs2 g hb2 hrow2;revert g;dsimp only[List.take,List.cons_append,List.nil_append];intro g))
                obtain⟨g2,e2⟩:=g.lessI (I':=[Fx,F,heapOf w]) (by simp)
                obtain⟨F',g3,e3,hle,hle2,hnew⟩:=g2.merge
                obtain⟨g4,e4⟩:=g3.less ((((List.Sublist.refl _).cons _).cons _).cons _)
                rw[e2,e3,e4]
                go_roundw
                case rel=>
                 refine⟨k+1,k+1,by go_num,.inr ⟨rfl,rfl⟩,Lib.hid (fun j hj=>?_),cap2,_,[(b2,43,cs2)],R,ld++[(.bool false,.slice Ax nx cx,.slice Bx dx kx)],oc,F',rfl,Lib.hid (RowV.row (by rw[cells3_append];exact hrow2) hb2),Lib.hid ((HDL.out.mono hle).snoc (HHX.out.mono hle2)),Lib.hid (HOW.out.next (fun _ _=>rfl) (fun j hj v s hq=>(NumRow.mono hq hle).congr fun j' hj'=>by unfold rawM;rw[lM_diag])),HOCL.out,Lib.hid (fun k' o hk'=>(hnew k' o hk').elim (HNW.out k' o) (HNX.out k' o)),g4,rfl⟩
                 rcases Nat.lt_succ_iff_lt_or_eq.1 hj with hj|rfl
                 ·exact HPOS.out j hj
                 ·exact HDD.out
                case measure=>simp[intOf]<;>omega
               ·have HDD:=Lib.hid (show∃k,k<i∧¬ 0<facD a k from⟨k,hin,hD⟩)
                by_cases h0:facD a k=0
                ·have hsf:sx=false:=by
                  rw[hsx]
                  show rneg (facD a k)=false
                  rw[h0]
                  decide+kernel
                 subst hsf
                 have hnx:decide (nx=0)=true:=decide_eq_true (hlx.2 h0)
                 have CN:=null_any false Ax Bx nx cx dx kx
                 rw[hnx] at CN
                 have CNN:=Lib.hid CN
                 clear CN hnx hlx hsx hD h0
                 go_wp2_with (with_reducible refine yq _ ?_;(try generalize (G.w _).heap.size=bk);(try dsimp only[yi,yj]);(try clear g);intro g)
                 refine(CNN.out _).mono ?_
                 rintro e w1 ⟨rfl,hb⟩
                 obtain⟨g1,rfl⟩:=G.call_ex _ hb
                 clear hb
                 (try clear g)
                 revert g1
                 intro g
                 go_wp2_with (with_reducible refine yq _ ?_;(try generalize (G.w _).heap.size=bk);(try dsimp only[yi,yj]);(try clear g);intro g)
                 refine bodyPost_ret (v:=.tuple #[.slice none 0 0,.slice none 0 0,.bool false,.int .i64 0]) (by simp[results,Tryz.results87,go_sem]) rfl ?_
                 exact .inr ⟨HDD.out,rfl,G.below _⟩
                ·have hsf:sx=true:=by rw[hsx];exact not_pos hD h0
                 subst hsf
                 clear hlx hsx hD h0
                 go_wp2_with (with_reducible refine yq _ ?_;(try generalize (G.w _).heap.size=bk);(try dsimp only[yi,yj]);(try clear g);intro g)
                 refine bodyPost_ret (v:=.tuple #[.slice none 0 0,.slice none 0 0,.bool false,.int .i64 0]) (by simp[results,Tryz.results87,go_sem]) rfl ?_
                 exact .inr ⟨HDD.out,rfl,G.below _⟩))
         ·(try simp only [Act.put, yk, yl, yn, yo, yi, yj])
          go_simp
          refine hK.out _ _ (by(simp[G.heldN,HeldN,go_sem, *];done)) (fun hHeld=>?_)
          clear hK K
          (try simp only[Act.put,yk,yl,yn,yo,yi,yj])
          refine wpAnyH_ready (rs:=[12]) (by kernel_rfl) (by simp) ?_
          refine AllReadyH.cons rfl (fun K hK=>?_) AllReadyH.nil
          ·(try simp only [Act.put, yk, yl, yn, yo, yi, yj])
           go_simp
           go_at_call 121
           (try(refine cmark _ ?_;(try dsimp only[yi,yj]);(try clear g);intro g))
           refine(CLH.out _ _ _ _ _ _ _ (G.rtI g (f:=heapOf w) (by simp) HX.out) (G.rtI g (by simp) hf) (G.sumM g (by simp)) (G.tab g HT.out)).mono ?_
           rintro e w1 ⟨px,qx,rx,Fx,rfl,hx,hn⟩
           have hnnx:=fun k o hk=>Nat.le_trans g.chg.size (hn.new k o hk)
           obtain⟨sx,Ax,nx,cx,Bx,dx,kx,rfl,rfl,rfl⟩:=hx.shape
           obtain⟨g1,rfl⟩:=G.new_ex _ hn
           clear hn
           (try clear g)
           revert g1
           intro g
           refine hK.out _ _ (by(simp[G.heldN,HeldN,go_sem, *];done)) (fun hHeld=>?_)
           clear hK K
           (try simp only[Act.put,yk,yl,yn,yo,yi,yj])
           refine wpAnyH_ready (rs:=[14]) (by kernel_rfl) (by simp) ?_
           refine AllReadyH.cons rfl (fun K hK=>?_) AllReadyH.nil
           ·(try simp only[Act.put,yk,yl,yn,yo,yi,yj])
            go_simp
            refine hK.out _ _ (by(simp[G.heldN,HeldN,go_sem, *];done)) (fun hHeld=>?_)
            clear hK K
            (try simp only[Act.put,yk,yl,yn,yo,yi,yj])
            refine wpAnyH_done (by kernel_rfl) ?_ _
            (as_aux_lemma=>
             skip
             all_goals (
              (try clear hHeld)
              clear X0 X1 X2 CF CLH HX HM1 HM2
              ((try simp only[G.drew_eq,G.drewN_eq]);(refine yq _ ?_;(try generalize (G.w _).heap.size=bk);(try dsimp only[yi,yj]);(try clear g);intro g))
              by_cases hkm:k<m
              ·have hkmi:(k:Int)<(m:Int):=by omega
               have hdk:=HPOS.out k hkm
               have hdk0:facD a k≠0:=fun e=>by
                rw[e] at hdk
                exact absurd hdk (Rat.lt_irrefl)
               have CY:=Lib.hid (COV.out m hin k hkm HD0.out hdk0)
               obtain⟨v,s,R',hv,⟨A4,c4,l4,rfl,hvr4,hl4⟩,hp,hbut⟩:=HOW.out.openAt hin
               rcases hvr4 with⟨_,_,h0,_⟩|⟨rb,rcs,rfl,rfl,hrb,hrrow⟩
               ·omega
               rcases HDV.out with⟨_,_,h0,_⟩|⟨db,dcs,rfl,rfl,hdb,hdrow⟩
               ·omega
               obtain⟨g1,e1'⟩:=g.perm ((((((((hp.cons _).cons _).cons _).cons _).cons _).cons _).cons _).cons _)
               rw[e1']
               clear e1' g hp
               revert g1
               dsimp only[List.cons_append,List.nil_append]
               intro g
               obtain⟨p3,q3,r3,hld,hdt⟩:=HDL.out.2 k hkm
               obtain⟨s5,A5,n5,c5,B5,d5,k5,rfl,rfl,rfl⟩:=hdt.shape
               obtain⟨y0,y1,y2⟩:=hdrow.tri hld
               have HBUT:=Lib.hid hbut
               have HL4:=Lib.hid hl4
               have HRR:=Lib.hid hrrow
               have HDR:=Lib.hid (And.intro hdb hdrow)
               have HRB:=Lib.hid hrb
               have HDT:=Lib.hid hdt
               have HHX:=Lib.hid hx
               have HNX:=Lib.hid hnnx
               clear hbut hl4 hdb hrb hdt hdk hdk0 hld hx hnnx hf hnnf
               obtain⟨p6,q6,r6,hl6,ht6⟩:=HL4.out.2 k hkn'
               obtain⟨z0,z1,z2⟩:=hrrow.tri hl6
               clear hrrow hdrow ht6 hl6
               go_upto_region 23 with(with_reducible refine yq _ ?_;(try generalize (G.w _).heap.size=bk);(try dsimp only[yi,yj]);(try clear g);intro g)
               ((try simp only[G.drew_eq,G.drewN_eq]);(refine yq _ ?_;(try generalize (G.w _).heap.size=bk);(try dsimp only[yi,yj]);(try clear g);intro g))
               refine wp_region_held_drew (S:=(fun w'=>(G.heldN g [true,true,true,true,false,true]) w'∧w'.cell? ⟨ob,m,none⟩=some (.slice (some ⟨rb,0,none⟩) i c4)∧w'.cell? ⟨db,k*3,none⟩=some (.bool s5)∧w'.cell? ⟨db,k*3+1,none⟩=some (.slice A5 n5 c5)∧w'.cell? ⟨db,k*3+2,none⟩=some (.slice B5 d5 k5))) (by kernel_rfl) (by(simp[G.heldN,HeldN,go_sem, *];done)) (fun hHeld=>?_)
               refine tk0 [0,1,2,3,4,5,6,7,8,9,10] ?_
               repeat (refine tkc rfl (by kernel_rfl) (fun _ _ _ h=>h) (by rfl) ‹_› (by intro w hSw;(try dsimp only at hSw);go_simp;(try with_reducible rfl)) ?_;try simp only[Act.put,yk,yl,yn,yo,yi,yj])
               refine tkn ?_
               refine wpAnyH_ready (rs:=[11]) (by kernel_rfl) (by simp) ?_
               refine AllReadyH.cons rfl (fun K hK=>?_) AllReadyH.nil
               ·(try simp only[Act.put,yk,yl,yn,yo,yi,yj])
                go_simp
                go_at_call 123
                (try(refine cmark _ ?_;(try dsimp only[yi,yj]);(try clear g);intro g))
                refine(CY.out _ _ _ _ _ _ _ (G.rtI g (by simp) HHX.out) (G.rtI g (by simp) HDT.out) (G.sumM g (by simp)) (G.tab g HT.out)).mono ?_
                rintro e w1 ⟨py,qy,ry,Fy,rfl,hy,hn⟩
                have hnny:=fun k o hk=>Nat.le_trans g.chg.size (hn.new k o hk)
                obtain⟨sy,Ay,ny,cy,By,dy,ky,rfl,rfl,rfl⟩:=hy.shape
                obtain⟨g1,rfl⟩:=G.new_ex _ hn
                clear hn
                (try clear g)
                revert g1
                intro g
                refine hK.out _ _ (by(simp[G.heldN,HeldN,go_sem, *];done)) (fun hHeld=>?_)
                clear hK K
                (try simp only[Act.put,yk,yl,yn,yo,yi,yj])
                refine tk0 [12] ?_
                repeat (refine tkc rfl (by kernel_rfl) (fun _ _ _ h=>h) (by rfl) ‹_› (by intro w hSw;(try dsimp only at hSw);go_simp;(try with_reducible rfl)) ?_;try simp only[Act.put,yk,yl,yn,yo,yi,yj])
                refine tkn ?_
                refine wpAnyH_ready (rs:=[13]) (by kernel_rfl) (by simp) ?_
                refine AllReadyH.cons rfl (fun K hK=>?_) AllReadyH.nil
                ·(try simp only[Act.put,yk,yl,yn,yo,yi,yj])
                 go_simp
                 refine hK.out _ _ (by(simp[G.heldN,HeldN,go_sem, *];done)) (fun hHeld=>?_)
                 clear hK K
                 (try simp only[Act.put,yk,yl,yn,yo,yi,yj])
                 refine wpAnyH_done (by kernel_rfl) ?_ _
                 (as_aux_lemma=>
                  (try clear hHeld)
                  clear CY
                  ((try simp only[G.drew_eq,G.drewN_eq]);(refine yq _ ?_;(try generalize (G.w _).heap.size=bk);(try dsimp only[yi,yj]);(try clear g);intro g))
                  go_wp2_with (with_reducible refine yq _ ?_;(try generalize (G.w _).heap.size=bk);(try dsimp only[yi,yj]);(try clear g);intro g)
                  obtain⟨g2,e2⟩:=g.lessI (I':=[Fy,F,heapOf w]) (by simp)
                  obtain⟨F',g3,e3,hle,hle2,hnew⟩:=g2.merge
                  obtain⟨g4,e4⟩:=g3.less (((List.Sublist.refl _).cons _).cons _)
                  rw[e2,e3,e4]
                  go_roundw
                  case rel=>
                   refine⟨k+1,m,by go_num,.inl ⟨by omega,rfl⟩,HPOS,cd,_,[(db,43,dcs)],(rb,43,((rcs.set (k*3) (.bool sy)).set (k*3+1) (.slice Ay ny cy)).set (k*3+2) (.slice By dy ky))::R',ld,oc,F',rfl,Lib.hid (RowV.row HDR.out.2 HDR.out.1),Lib.hid (HDL.out.mono hle),Lib.hid (HBUT.out.closeAt (s:=[(rb,43,((rcs.set (k*3) (.bool sy)).set (k*3+1) (.slice Ay ny cy)).set (k*3+2) (.slice By dy ky))]) hin hv ?_ (fun _ _ _=>rfl) (fun j hj hji v s hq=>?_)),HOCL.out,Lib.hid (fun k' o hk'=>(hnew k' o hk').elim (HNW.out k' o) (hnny k' o)),g4,rfl⟩
                   ·refine NumRow.of (l:=l4.set k (.bool sy,.slice Ay ny cy,.slice By dy ky)) (RowV.row (HRR.out.setTri hkn' HL4.out.1 _ _ _) HRB.out) (Frag.Tris.set (HL4.out.mono hle) hkn' ?_ (fun j hj hjk=>?_))
                    ·unfold rawM
                     rw[lM_at a (.inr ⟨rfl,Nat.lt_succ_self k⟩)]
                     exact hy.mono hle2
                    ·unfold rawM
                     rw[lM_ne a (fun h=>hjk h.2)]
                   ·refine(NumRow.mono hq hle).congr fun j' hj'=>?_
                    unfold rawM
                    rw[lM_ne a (fun h=>hj h.1)]
                  case measure=>simp[intOf]<;>omega)
              ·obtain rfl:k=m:=by omega
               have hkmi:¬ ((k:Int)<(k:Int)):=by omega
               have hsx:=rt_sign hx
               have hlx:=rt_len0 hx
               have HHX:=Lib.hid hx
               have HNX:=Lib.hid hnnx
               clear hx hnnx hf hnnf HD0 COV CLS CR
               by_cases hD:0<facD a k
               ·have hsf:sx=false:=by rw[hsx];exact rneg_pos hD
                subst hsf
                have hnx:decide (nx=0)=false:=decide_eq_false fun h=>by
                 have:facD a k=0:=hlx.1 h
                 rw[this] at hD
                 exact absurd hD (Rat.lt_irrefl)
                have CN:=null_any false Ax Bx nx cx dx kx
                rw[hnx] at CN
                have CNN:=Lib.hid CN
                have HDD:=Lib.hid hD
                have hx1:k+1≤maxLen:=by show k+1≤9223372036854775807;omega
                have hx2:(k+1)*56≤140737488355328:=by omega
                have hdv:=HDV.out
                clear CN hnx hlx hsx hD
                go_wp2_with (with_reducible refine yq _ ?_;(try generalize (G.w _).heap.size=bk);(try dsimp only[yi,yj]);(try clear g);intro g)
                refine(CNN.out _).mono ?_
                rintro e w1 ⟨rfl,hb⟩
                obtain⟨g1,rfl⟩:=G.call_ex _ hb
                clear hb
                (try clear g)
                revert g1
                intro g
                go_wp2_with (first|(with_reducible refine yq _ ?_;(try generalize (G.w _).heap.size=bk);(try dsimp only[yi,yj]);(try clear g);intro g)|(at_builtin;refine wpList_append_v rfl _ _ 38 rfl 43 i0 _ 3 56 Tryz.underlying38 hi hz0 hz1 hz2 rfl (by decide) 8 g (Rr:=sd) (R':=R) (by rfl) hdv (by rfl) (by exact List.mem_cons_self ..) 1 (by rfl) rfl (three _ _ _ ⟨rfl,rfl,rfl⟩) (by decide) hx1 hx2 ?_;clear hdv;(try clear g);intro b2 cap2 cs2 g hb2 hrow2;revert g;dsimp only[List.take,List.cons_append,List.nil_append];intro g))
                obtain⟨g2,e2⟩:=g.lessI (I':=[Fx,F,heapOf w]) (by simp)
                obtain⟨F',g3,e3,hle,hle2,hnew⟩:=g2.merge
                obtain⟨g4,e4⟩:=g3.less ((((List.Sublist.refl _).cons _).cons _).cons _)
                rw[e2,e3,e4]
                go_roundw
                case rel=>
                 refine⟨k+1,k+1,by go_num,.inr ⟨rfl,rfl⟩,Lib.hid (fun j hj=>?_),cap2,_,[(b2,43,cs2)],R,ld++[(.bool false,.slice Ax nx cx,.slice Bx dx kx)],oc,F',rfl,Lib.hid (RowV.row (by rw[cells3_append];exact hrow2) hb2),Lib.hid ((HDL.out.mono hle).snoc (HHX.out.mono hle2)),Lib.hid (HOW.out.next (fun _ _=>rfl) (fun j hj v s hq=>(NumRow.mono hq hle).congr fun j' hj'=>by unfold rawM;rw[lM_diag])),HOCL.out,Lib.hid (fun k' o hk'=>(hnew k' o hk').elim (HNW.out k' o) (HNX.out k' o)),g4,rfl⟩
                 rcases Nat.lt_succ_iff_lt_or_eq.1 hj with hj|rfl
                 ·exact HPOS.out j hj
                 ·exact HDD.out
                case measure=>simp[intOf]<;>omega
               ·have HDD:=Lib.hid (show∃k,k<i∧¬ 0<facD a k from⟨k,hin,hD⟩)
                by_cases h0:facD a k=0
                ·have hsf:sx=false:=by
                  rw[hsx]
                  show rneg (facD a k)=false
                  rw[h0]
                  decide+kernel
                 subst hsf
                 have hnx:decide (nx=0)=true:=decide_eq_true (hlx.2 h0)
                 have CN:=null_any false Ax Bx nx cx dx kx
                 rw[hnx] at CN
                 have CNN:=Lib.hid CN
                 clear CN hnx hlx hsx hD h0
                 go_wp2_with (with_reducible refine yq _ ?_;(try generalize (G.w _).heap.size=bk);(try dsimp only[yi,yj]);(try clear g);intro g)
                 refine(CNN.out _).mono ?_
                 rintro e w1 ⟨rfl,hb⟩
                 obtain⟨g1,rfl⟩:=G.call_ex _ hb
                 clear hb
                 (try clear g)
                 revert g1
                 intro g
                 go_wp2_with (with_reducible refine yq _ ?_;(try generalize (G.w _).heap.size=bk);(try dsimp only[yi,yj]);(try clear g);intro g)
                 refine bodyPost_ret (v:=.tuple #[.slice none 0 0,.slice none 0 0,.bool false,.int .i64 0]) (by simp[results,Tryz.results87,go_sem]) rfl ?_
                 exact .inr ⟨HDD.out,rfl,G.below _⟩
                ·have hsf:sx=true:=by rw[hsx];exact not_pos hD h0
                 subst hsf
                 clear hlx hsx hD h0
                 go_wp2_with (with_reducible refine yq _ ?_;(try generalize (G.w _).heap.size=bk);(try dsimp only[yi,yj]);(try clear g);intro g)
                 refine bodyPost_ret (v:=.tuple #[.slice none 0 0,.slice none 0 0,.bool false,.int .i64 0]) (by simp[results,Tryz.results87,go_sem]) rfl ?_
                 exact .inr ⟨HDD.out,rfl,G.below _⟩))
        ·(try simp only[Act.put,yk,yl,yn,yo,yi,yj])
         go_simp
         refine hK.out _ _ (by(simp[G.heldN,HeldN,go_sem, *];done)) (fun hHeld=>?_)
         clear hK K
         (try simp only[Act.put,yk,yl,yn,yo,yi,yj])
         refine wpAnyH_ready (rs:=[11]) (by kernel_rfl) (by simp) ?_
         refine AllReadyH.cons rfl (fun K hK=>?_) AllReadyH.nil
         ·(try simp only[Act.put,yk,yl,yn,yo,yi,yj])
          go_simp
          go_at_call 55
          (try(refine cmark _ ?_;(try dsimp only[yi,yj]);(try clear g);intro g))
          refine(CF.out _ _ _ g (by simp) (by simp) (by simp) (by simp) (by simp) (by simp[HM1.out]) (by simp[HM2.out]) (fun m' hm'=>by simp[hm']) (by simp) (by simp)).mono ?_
          rintro e w1 ⟨pf,qf,rf,Ff,rfl,hf,hn⟩
          have hnnf:=fun k o hk=>Nat.le_trans g.chg.size (hn.new k o hk)
          obtain⟨sf,Af,nf,cf,Bf,df,kf,rfl,rfl,rfl⟩:=hf.shape
          obtain⟨g1,rfl⟩:=G.new_ex _ hn
          clear hn
          (try clear g)
          revert g1
          intro g
          refine hK.out _ _ (by(simp[G.heldN,HeldN,go_sem, *];done)) (fun hHeld=>?_)
          clear hK K
          (try simp only[Act.put,yk,yl,yn,yo,yi,yj])
          refine wpAnyH_ready (rs:=[12]) (by kernel_rfl) (by simp) ?_
          refine AllReadyH.cons rfl (fun K hK=>?_) AllReadyH.nil
          ·(try simp only [Act.put, yk, yl, yn, yo, yi, yj])
           go_simp
           go_at_call 121
           (try(refine cmark _ ?_;(try dsimp only[yi,yj]);(try clear g);intro g))
           refine(CLH.out _ _ _ _ _ _ _ (G.rtI g (f:=heapOf w) (by simp) HX.out) (G.rtI g (by simp) hf) (G.sumM g (by simp)) (G.tab g HT.out)).mono ?_
           rintro e w1 ⟨px,qx,rx,Fx,rfl,hx,hn⟩
           have hnnx:=fun k o hk=>Nat.le_trans g.chg.size (hn.new k o hk)
           obtain⟨sx,Ax,nx,cx,Bx,dx,kx,rfl,rfl,rfl⟩:=hx.shape
           obtain⟨g1,rfl⟩:=G.new_ex _ hn
           clear hn
           (try clear g)
           revert g1
           intro g
           refine hK.out _ _ (by(simp[G.heldN,HeldN,go_sem, *];done)) (fun hHeld=>?_)
           clear hK K
           (try simp only[Act.put,yk,yl,yn,yo,yi,yj])
           refine wpAnyH_ready (rs:=[14]) (by kernel_rfl) (by simp) ?_
           refine AllReadyH.cons rfl (fun K hK=>?_) AllReadyH.nil
           ·(try simp only[Act.put,yk,yl,yn,yo,yi,yj])
            go_simp
            refine hK.out _ _ (by(simp[G.heldN,HeldN,go_sem, *];done)) (fun hHeld=>?_)
            clear hK K
            (try simp only[Act.put,yk,yl,yn,yo,yi,yj])
            refine wpAnyH_done (by kernel_rfl) ?_ _
            (as_aux_lemma=>
             skip
             all_goals (
              (try clear hHeld)
              clear X0 X1 X2 CF CLH HX HM1 HM2
              ((try simp only[G.drew_eq,G.drewN_eq]);(refine yq _ ?_;(try generalize (G.w _).heap.size=bk);(try dsimp only[yi,yj]);(try clear g);intro g))
              by_cases hkm:k<m
              ·have hkmi:(k:Int)<(m:Int):=by omega
               have hdk:=HPOS.out k hkm
               have hdk0:facD a k≠0:=fun e=>by
                rw[e] at hdk
                exact absurd hdk (Rat.lt_irrefl)
               have CY:=Lib.hid (COV.out m hin k hkm HD0.out hdk0)
               obtain⟨v,s,R',hv,⟨A4,c4,l4,rfl,hvr4,hl4⟩,hp,hbut⟩:=HOW.out.openAt hin
               rcases hvr4 with⟨_,_,h0,_⟩|⟨rb,rcs,rfl,rfl,hrb,hrrow⟩
               ·omega
               rcases HDV.out with⟨_,_,h0,_⟩|⟨db,dcs,rfl,rfl,hdb,hdrow⟩
               ·omega
               obtain⟨g1,e1'⟩:=g.perm ((((((((hp.cons _).cons _).cons _).cons _).cons _).cons _).cons _).cons _)
               rw[e1']
               clear e1' g hp
               revert g1
               dsimp only[List.cons_append,List.nil_append]
               intro g
               obtain⟨p3,q3,r3,hld,hdt⟩:=HDL.out.2 k hkm
               obtain⟨s5,A5,n5,c5,B5,d5,k5,rfl,rfl,rfl⟩:=hdt.shape
               obtain⟨y0,y1,y2⟩:=hdrow.tri hld
               have HBUT:=Lib.hid hbut
               have HL4:=Lib.hid hl4
               have HRR:=Lib.hid hrrow
               have HDR:=Lib.hid (And.intro hdb hdrow)
               have HRB:=Lib.hid hrb
               have HDT:=Lib.hid hdt
               have HHX:=Lib.hid hx
               have HNX:=Lib.hid hnnx
               clear hbut hl4 hdb hrb hdt hdk hdk0 hld hx hnnx hf hnnf
               obtain⟨p6,q6,r6,hl6,ht6⟩:=HL4.out.2 k hkn'
               obtain⟨z0,z1,z2⟩:=hrrow.tri hl6
               clear hrrow hdrow ht6 hl6
               go_upto_region 23 with(with_reducible refine yq _ ?_;(try generalize (G.w _).heap.size=bk);(try dsimp only[yi,yj]);(try clear g);intro g)
               ((try simp only[G.drew_eq,G.drewN_eq]);(refine yq _ ?_;(try generalize (G.w _).heap.size=bk);(try dsimp only[yi,yj]);(try clear g);intro g))
               refine wp_region_held_drew (S:=(fun w'=>(G.heldN g [true,true,true,true,false,true]) w'∧w'.cell? ⟨ob,m,none⟩=some (.slice (some ⟨rb,0,none⟩) i c4)∧w'.cell? ⟨db,k*3,none⟩=some (.bool s5)∧w'.cell? ⟨db,k*3+1,none⟩=some (.slice A5 n5 c5)∧w'.cell? ⟨db,k*3+2,none⟩=some (.slice B5 d5 k5))) (by kernel_rfl) (by(simp[G.heldN,HeldN,go_sem, *];done)) (fun hHeld=>?_)
               refine tk0 [0,1,2,3,4,5,6,7,8,9,10] ?_
               repeat (refine tkc rfl (by kernel_rfl) (fun _ _ _ h=>h) (by rfl) ‹_› (by intro w hSw;(try dsimp only at hSw);go_simp;(try with_reducible rfl)) ?_;try simp only[Act.put,yk,yl,yn,yo,yi,yj])
               refine tkn ?_
               refine wpAnyH_ready (rs:=[11]) (by kernel_rfl) (by simp) ?_
               refine AllReadyH.cons rfl (fun K hK=>?_) AllReadyH.nil
               ·(try simp only[Act.put,yk,yl,yn,yo,yi,yj])
                go_simp
                go_at_call 123
                (try(refine cmark _ ?_;(try dsimp only[yi,yj]);(try clear g);intro g))
                refine(CY.out _ _ _ _ _ _ _ (G.rtI g (by simp) HHX.out) (G.rtI g (by simp) HDT.out) (G.sumM g (by simp)) (G.tab g HT.out)).mono ?_
                rintro e w1 ⟨py,qy,ry,Fy,rfl,hy,hn⟩
                have hnny:=fun k o hk=>Nat.le_trans g.chg.size (hn.new k o hk)
                obtain⟨sy,Ay,ny,cy,By,dy,ky,rfl,rfl,rfl⟩:=hy.shape
                obtain⟨g1,rfl⟩:=G.new_ex _ hn
                clear hn
                (try clear g)
                revert g1
                intro g
                refine hK.out _ _ (by(simp[G.heldN,HeldN,go_sem, *];done)) (fun hHeld=>?_)
                clear hK K
                (try simp only[Act.put,yk,yl,yn,yo,yi,yj])
                refine tk0 [12] ?_
                repeat (refine tkc rfl (by kernel_rfl) (fun _ _ _ h=>h) (by rfl) ‹_› (by intro w hSw;(try dsimp only at hSw);go_simp;(try with_reducible rfl)) ?_;try simp only[Act.put,yk,yl,yn,yo,yi,yj])
                refine tkn ?_
                refine wpAnyH_ready (rs:=[13]) (by kernel_rfl) (by simp) ?_
                refine AllReadyH.cons rfl (fun K hK=>?_) AllReadyH.nil
                ·(try simp only[Act.put,yk,yl,yn,yo,yi,yj])
                 go_simp
                 refine hK.out _ _ (by(simp[G.heldN,HeldN,go_sem, *];done)) (fun hHeld=>?_)
                 clear hK K
                 (try simp only[Act.put,yk,yl,yn,yo,yi,yj])
                 refine wpAnyH_done (by kernel_rfl) ?_ _
                 (as_aux_lemma=>
                  (try clear hHeld)
                  clear CY
                  ((try simp only[G.drew_eq,G.drewN_eq]);(refine yq _ ?_;(try generalize (G.w _).heap.size=bk);(try dsimp only[yi,yj]);(try clear g);intro g))
                  go_wp2_with (with_reducible refine yq _ ?_;(try generalize (G.w _).heap.size=bk);(try dsimp only[yi,yj]);(try clear g);intro g)
                  obtain⟨g2,e2⟩:=g.lessI (I':=[Fy,F,heapOf w]) (by simp)
                  obtain⟨F',g3,e3,hle,hle2,hnew⟩:=g2.merge
                  obtain⟨g4,e4⟩:=g3.less (((List.Sublist.refl _).cons _).cons _)
                  rw[e2,e3,e4]
                  go_roundw
                  case rel=>
                   refine⟨k+1,m,by go_num,.inl ⟨by omega,rfl⟩,HPOS,cd,_,[(db,43,dcs)],(rb,43,((rcs.set (k*3) (.bool sy)).set (k*3+1) (.slice Ay ny cy)).set (k*3+2) (.slice By dy ky))::R',ld,oc,F',rfl,Lib.hid (RowV.row HDR.out.2 HDR.out.1),Lib.hid (HDL.out.mono hle),Lib.hid (HBUT.out.closeAt (s:=[(rb,43,((rcs.set (k*3) (.bool sy)).set (k*3+1) (.slice Ay ny cy)).set (k*3+2) (.slice By dy ky))]) hin hv ?_ (fun _ _ _=>rfl) (fun j hj hji v s hq=>?_)),HOCL.out,Lib.hid (fun k' o hk'=>(hnew k' o hk').elim (HNW.out k' o) (hnny k' o)),g4,rfl⟩
                   ·refine NumRow.of (l:=l4.set k (.bool sy,.slice Ay ny cy,.slice By dy ky)) (RowV.row (HRR.out.setTri hkn' HL4.out.1 _ _ _) HRB.out) (Frag.Tris.set (HL4.out.mono hle) hkn' ?_ (fun j hj hjk=>?_))
                    ·unfold rawM
                     rw[lM_at a (.inr ⟨rfl,Nat.lt_succ_self k⟩)]
                     exact hy.mono hle2
                    ·unfold rawM
                     rw[lM_ne a (fun h=>hjk h.2)]
                   ·refine(NumRow.mono hq hle).congr fun j' hj'=>?_
                    unfold rawM
                    rw[lM_ne a (fun h=>hj h.1)]
                  case measure=>simp[intOf]<;>omega)
              ·obtain rfl:k=m:=by omega
               have hkmi:¬ ((k:Int)<(k:Int)):=by omega
               have hsx:=rt_sign hx
               have hlx:=rt_len0 hx
               have HHX:=Lib.hid hx
               have HNX:=Lib.hid hnnx
               clear hx hnnx hf hnnf HD0 COV CLS CR
               by_cases hD:0<facD a k
               ·have hsf:sx=false:=by rw[hsx];exact rneg_pos hD
                subst hsf
                have hnx:decide (nx=0)=false:=decide_eq_false fun h=>by
                 have:facD a k=0:=hlx.1 h
                 rw[this] at hD
                 exact absurd hD (Rat.lt_irrefl)
                have CN:=null_any false Ax Bx nx cx dx kx
                rw[hnx] at CN
                have CNN:=Lib.hid CN
                have HDD:=Lib.hid hD
                have hx1:k+1≤maxLen:=by show k+1≤9223372036854775807;omega
                have hx2:(k+1)*56≤140737488355328:=by omega
                have hdv:=HDV.out
                clear CN hnx hlx hsx hD
                go_wp2_with (with_reducible refine yq _ ?_;(try generalize (G.w _).heap.size=bk);(try dsimp only[yi,yj]);(try clear g);intro g)
                refine(CNN.out _).mono ?_
                rintro e w1 ⟨rfl,hb⟩
                obtain⟨g1,rfl⟩:=G.call_ex _ hb
                clear hb
                (try clear g)
                revert g1
                intro g
                go_wp2_with (first|(with_reducible refine yq _ ?_;(try generalize (G.w _).heap.size=bk);(try dsimp only[yi,yj]);(try clear g);intro g)|(at_builtin;refine wpList_append_v rfl _ _ 38 rfl 43 i0 _ 3 56 Tryz.underlying38 hi hz0 hz1 hz2 rfl (by decide) 8 g (Rr:=sd) (R':=R) (by rfl) hdv (by rfl) (by exact List.mem_cons_self ..) 1 (by rfl) rfl (three _ _ _ ⟨rfl,rfl,rfl⟩) (by decide) hx1 hx2 ?_;clear hdv;(try clear g);intro b2 cap2 cs2 g hb2 hrow2;revert g;dsimp only[List.take,List.cons_append,List.nil_append];intro g))
                obtain⟨g2,e2⟩:=g.lessI (I':=[Fx,F,heapOf w]) (by simp)
                obtain⟨F',g3,e3,hle,hle2,hnew⟩:=g2.merge
                obtain⟨g4,e4⟩:=g3.less ((((List.Sublist.refl _).cons _).cons _).cons _)
                rw[e2,e3,e4]
                go_roundw
                case rel=>
                 refine⟨k+1,k+1,by go_num,.inr ⟨rfl,rfl⟩,Lib.hid (fun j hj=>?_),cap2,_,[(b2,43,cs2)],R,ld++[(.bool false,.slice Ax nx cx,.slice Bx dx kx)],oc,F',rfl,Lib.hid (RowV.row (by rw[cells3_append];exact hrow2) hb2),Lib.hid ((HDL.out.mono hle).snoc (HHX.out.mono hle2)),Lib.hid (HOW.out.next (fun _ _=>rfl) (fun j hj v s hq=>(NumRow.mono hq hle).congr fun j' hj'=>by unfold rawM;rw[lM_diag])),HOCL.out,Lib.hid (fun k' o hk'=>(hnew k' o hk').elim (HNW.out k' o) (HNX.out k' o)),g4,rfl⟩
                 rcases Nat.lt_succ_iff_lt_or_eq.1 hj with hj|rfl
                 ·exact HPOS.out j hj
                 ·exact HDD.out
                case measure=>simp[intOf]<;>omega
               ·have HDD:=Lib.hid (show∃k,k<i∧¬ 0<facD a k from⟨k,hin,hD⟩)
                by_cases h0:facD a k=0
                ·have hsf:sx=false:=by
                  rw[hsx]
                  show rneg (facD a k)=false
                  rw[h0]
                  decide+kernel
                 subst hsf
                 have hnx:decide (nx=0)=true:=decide_eq_true (hlx.2 h0)
                 have CN:=null_any false Ax Bx nx cx dx kx
                 rw[hnx] at CN
                 have CNN:=Lib.hid CN
                 clear CN hnx hlx hsx hD h0
                 go_wp2_with (with_reducible refine yq _ ?_;(try generalize (G.w _).heap.size=bk);(try dsimp only[yi,yj]);(try clear g);intro g)
                 refine(CNN.out _).mono ?_
                 rintro e w1 ⟨rfl,hb⟩
                 obtain⟨g1,rfl⟩:=G.call_ex _ hb
                 clear hb
                 (try clear g)
                 revert g1
                 intro g
                 go_wp2_with (with_reducible refine yq _ ?_;(try generalize (G.w _).heap.size=bk);(try dsimp only[yi,yj]);(try clear g);intro g)
                 refine bodyPost_ret (v:=.tuple #[.slice none 0 0,.slice none 0 0,.bool false,.int .i64 0]) (by simp[results,Tryz.results87,go_sem]) rfl ?_
                 exact .inr ⟨HDD.out,rfl,G.below _⟩
                ·have hsf:sx=true:=by rw[hsx];exact not_pos hD h0
                 subst hsf
                 clear hlx hsx hD h0
                 go_wp2_with (with_reducible refine yq _ ?_;(try generalize (G.w _).heap.size=bk);(try dsimp only[yi,yj]);(try clear g);intro g)
                 refine bodyPost_ret (v:=.tuple #[.slice none 0 0,.slice none 0 0,.bool false,.int .i64 0]) (by simp[results,Tryz.results87,go_sem]) rfl ?_
                 exact .inr ⟨HDD.out,rfl,G.below _⟩))
       ·(try simp only[Act.put,yk,yl,yn,yo,yi,yj])
        go_simp
        refine hK.out _ _ (by(simp[G.heldN,HeldN,go_sem, *];done)) (fun hHeld=>?_)
        clear hK K
        (try simp only[Act.put,yk,yl,yn,yo,yi,yj])
        refine wpAnyH_ready (rs:=[9]) (by kernel_rfl) (by simp) ?_
        refine AllReadyH.cons rfl (fun K hK=>?_) AllReadyH.nil
        ·(try simp only[Act.put,yk,yl,yn,yo,yi,yj])
         go_simp
         go_at_call 56
         (try(refine cmark _ ?_;(try dsimp only[yi,yj]);(try clear g);intro g))
         refine(CR.out _).mono ?_
         rintro e w1 ⟨rfl,hb⟩
         obtain⟨g1,rfl⟩:=G.call_ex _ hb
         clear hb
         (try clear g)
         revert g1
         intro g
         refine hK.out _ _ (by(simp[G.heldN,HeldN,go_sem, *];done)) (fun hHeld=>?_)
         clear hK K
         (try simp only[Act.put,yk,yl,yn,yo,yi,yj])
         refine wpAnyH_ready (rs:=[11]) (by kernel_rfl) (by simp) ?_
         refine AllReadyH.cons rfl (fun K hK=>?_) AllReadyH.nil
         ·(try simp only[Act.put,yk,yl,yn,yo,yi,yj])
          go_simp
          go_at_call 55
          (try(refine cmark _ ?_;(try dsimp only[yi,yj]);(try clear g);intro g))
          refine(CF.out _ _ _ g (by simp) (by simp) (by simp) (by simp) (by simp) (by simp[HM1.out]) (by simp[HM2.out]) (fun m' hm'=>by simp[hm']) (by simp) (by simp)).mono ?_
          rintro e w1 ⟨pf,qf,rf,Ff,rfl,hf,hn⟩
          have hnnf:=fun k o hk=>Nat.le_trans g.chg.size (hn.new k o hk)
          obtain⟨sf,Af,nf,cf,Bf,df,kf,rfl,rfl,rfl⟩:=hf.shape
          obtain⟨g1,rfl⟩:=G.new_ex _ hn
          clear hn
          (try clear g)
          revert g1
          intro g
          refine hK.out _ _ (by(simp[G.heldN,HeldN,go_sem, *];done)) (fun hHeld=>?_)
          clear hK K
          (try simp only[Act.put,yk,yl,yn,yo,yi,yj])
          refine wpAnyH_ready (rs:=[12]) (by kernel_rfl) (by simp) ?_
          refine AllReadyH.cons rfl (fun K hK=>?_) AllReadyH.nil
          ·(try simp only [Act.put, yk, yl, yn, yo, yi, yj])
           go_simp
           go_at_call 121
           (try(refine cmark _ ?_;(try dsimp only[yi,yj]);(try clear g);intro g))
           refine(CLH.out _ _ _ _ _ _ _ (G.rtI g (f:=heapOf w) (by simp) HX.out) (G.rtI g (by simp) hf) (G.sumM g (by simp)) (G.tab g HT.out)).mono ?_
           rintro e w1 ⟨px,qx,rx,Fx,rfl,hx,hn⟩
           have hnnx:=fun k o hk=>Nat.le_trans g.chg.size (hn.new k o hk)
           obtain⟨sx,Ax,nx,cx,Bx,dx,kx,rfl,rfl,rfl⟩:=hx.shape
           obtain⟨g1,rfl⟩:=G.new_ex _ hn
           clear hn
           (try clear g)
           revert g1
           intro g
           refine hK.out _ _ (by(simp[G.heldN,HeldN,go_sem, *];done)) (fun hHeld=>?_)
           clear hK K
           (try simp only[Act.put,yk,yl,yn,yo,yi,yj])
           refine wpAnyH_ready (rs:=[14]) (by kernel_rfl) (by simp) ?_
           refine AllReadyH.cons rfl (fun K hK=>?_) AllReadyH.nil
           ·(try simp only[Act.put,yk,yl,yn,yo,yi,yj])
            go_simp
            refine hK.out _ _ (by(simp[G.heldN,HeldN,go_sem, *];done)) (fun hHeld=>?_)
            clear hK K
            (try simp only[Act.put,yk,yl,yn,yo,yi,yj])
            refine wpAnyH_done (by kernel_rfl) ?_ _
            (as_aux_lemma=>
             skip
             all_goals (
              (try clear hHeld)
              clear X0 X1 X2 CF CLH HX HM1 HM2
              ((try simp only[G.drew_eq,G.drewN_eq]);(refine yq _ ?_;(try generalize (G.w _).heap.size=bk);(try dsimp only[yi,yj]);(try clear g);intro g))
              by_cases hkm:k<m
              ·have hkmi:(k:Int)<(m:Int):=by omega
               have hdk:=HPOS.out k hkm
               have hdk0:facD a k≠0:=fun e=>by
                rw[e] at hdk
                exact absurd hdk (Rat.lt_irrefl)
               have CY:=Lib.hid (COV.out m hin k hkm HD0.out hdk0)
               obtain⟨v,s,R',hv,⟨A4,c4,l4,rfl,hvr4,hl4⟩,hp,hbut⟩:=HOW.out.openAt hin
               rcases hvr4 with⟨_,_,h0,_⟩|⟨rb,rcs,rfl,rfl,hrb,hrrow⟩
               ·omega
               rcases HDV.out with⟨_,_,h0,_⟩|⟨db,dcs,rfl,rfl,hdb,hdrow⟩
               ·omega
               obtain⟨g1,e1'⟩:=g.perm ((((((((hp.cons _).cons _).cons _).cons _).cons _).cons _).cons _).cons _)
               rw[e1']
               clear e1' g hp
               revert g1
               dsimp only[List.cons_append,List.nil_append]
               intro g
               obtain⟨p3,q3,r3,hld,hdt⟩:=HDL.out.2 k hkm
               obtain⟨s5,A5,n5,c5,B5,d5,k5,rfl,rfl,rfl⟩:=hdt.shape
               obtain⟨y0,y1,y2⟩:=hdrow.tri hld
               have HBUT:=Lib.hid hbut
               have HL4:=Lib.hid hl4
               have HRR:=Lib.hid hrrow
               have HDR:=Lib.hid (And.intro hdb hdrow)
               have HRB:=Lib.hid hrb
               have HDT:=Lib.hid hdt
               have HHX:=Lib.hid hx
               have HNX:=Lib.hid hnnx
               clear hbut hl4 hdb hrb hdt hdk hdk0 hld hx hnnx hf hnnf
               obtain⟨p6,q6,r6,hl6,ht6⟩:=HL4.out.2 k hkn'
               obtain⟨z0,z1,z2⟩:=hrrow.tri hl6
               clear hrrow hdrow ht6 hl6
               go_upto_region 23 with(with_reducible refine yq _ ?_;(try generalize (G.w _).heap.size=bk);(try dsimp only[yi,yj]);(try clear g);intro g)
               ((try simp only[G.drew_eq,G.drewN_eq]);(refine yq _ ?_;(try generalize (G.w _).heap.size=bk);(try dsimp only[yi,yj]);(try clear g);intro g))
               refine wp_region_held_drew (S:=(fun w'=>(G.heldN g [true,true,true,true,false,true]) w'∧w'.cell? ⟨ob,m,none⟩=some (.slice (some ⟨rb,0,none⟩) i c4)∧w'.cell? ⟨db,k*3,none⟩=some (.bool s5)∧w'.cell? ⟨db,k*3+1,none⟩=some (.slice A5 n5 c5)∧w'.cell? ⟨db,k*3+2,none⟩=some (.slice B5 d5 k5))) (by kernel_rfl) (by(simp[G.heldN,HeldN,go_sem, *];done)) (fun hHeld=>?_)
               refine tk0 [0,1,2,3,4,5,6,7,8,9,10] ?_
               repeat (refine tkc rfl (by kernel_rfl) (fun _ _ _ h=>h) (by rfl) ‹_› (by intro w hSw;(try dsimp only at hSw);go_simp;(try with_reducible rfl)) ?_;try simp only[Act.put,yk,yl,yn,yo,yi,yj])
               refine tkn ?_
               refine wpAnyH_ready (rs:=[11]) (by kernel_rfl) (by simp) ?_
               refine AllReadyH.cons rfl (fun K hK=>?_) AllReadyH.nil
               ·(try simp only[Act.put,yk,yl,yn,yo,yi,yj])
                go_simp
                go_at_call 123
                (try(refine cmark _ ?_;(try dsimp only[yi,yj]);(try clear g);intro g))
                refine(CY.out _ _ _ _ _ _ _ (G.rtI g (by simp) HHX.out) (G.rtI g (by simp) HDT.out) (G.sumM g (by simp)) (G.tab g HT.out)).mono ?_
                rintro e w1 ⟨py,qy,ry,Fy,rfl,hy,hn⟩
                have hnny:=fun k o hk=>Nat.le_trans g.chg.size (hn.new k o hk)
                obtain⟨sy,Ay,ny,cy,By,dy,ky,rfl,rfl,rfl⟩:=hy.shape
                obtain⟨g1,rfl⟩:=G.new_ex _ hn
                clear hn
                (try clear g)
                revert g1
                intro g
                refine hK.out _ _ (by(simp[G.heldN,HeldN,go_sem, *];done)) (fun hHeld=>?_)
                clear hK K
                (try simp only[Act.put,yk,yl,yn,yo,yi,yj])
                refine tk0 [12] ?_
                repeat (refine tkc rfl (by kernel_rfl) (fun _ _ _ h=>h) (by rfl) ‹_› (by intro w hSw;(try dsimp only at hSw);go_simp;(try with_reducible rfl)) ?_;try simp only[Act.put,yk,yl,yn,yo,yi,yj])
                refine tkn ?_
                refine wpAnyH_ready (rs:=[13]) (by kernel_rfl) (by simp) ?_
                refine AllReadyH.cons rfl (fun K hK=>?_) AllReadyH.nil
                ·(try simp only[Act.put,yk,yl,yn,yo,yi,yj])
                 go_simp
                 refine hK.out _ _ (by(simp[G.heldN,HeldN,go_sem, *];done)) (fun hHeld=>?_)
                 clear hK K
                 (try simp only[Act.put,yk,yl,yn,yo,yi,yj])
                 refine wpAnyH_done (by kernel_rfl) ?_ _
                 (as_aux_lemma=>
                  (try clear hHeld)
                  clear CY
                  ((try simp only[G.drew_eq,G.drewN_eq]);(refine yq _ ?_;(try generalize (G.w _).heap.size=bk);(try dsimp only[yi,yj]);(try clear g);intro g))
                  go_wp2_with (with_reducible refine yq _ ?_;(try generalize (G.w _).heap.size=bk);(try dsimp only[yi,yj]);(try clear g);intro g)
                  obtain⟨g2,e2⟩:=g.lessI (I':=[Fy,F,heapOf w]) (by simp)
                  obtain⟨F',g3,e3,hle,hle2,hnew⟩:=g2.merge
                  obtain⟨g4,e4⟩:=g3.less (((List.Sublist.refl _).cons _).cons _)
                  rw[e2,e3,e4]
                  go_roundw
                  case rel=>
                   refine⟨k+1,m,by go_num,.inl ⟨by omega,rfl⟩,HPOS,cd,_,[(db,43,dcs)],(rb,43,((rcs.set (k*3) (.bool sy)).set (k*3+1) (.slice Ay ny cy)).set (k*3+2) (.slice By dy ky))::R',ld,oc,F',rfl,Lib.hid (RowV.row HDR.out.2 HDR.out.1),Lib.hid (HDL.out.mono hle),Lib.hid (HBUT.out.closeAt (s:=[(rb,43,((rcs.set (k*3) (.bool sy)).set (k*3+1) (.slice Ay ny cy)).set (k*3+2) (.slice By dy ky))]) hin hv ?_ (fun _ _ _=>rfl) (fun j hj hji v s hq=>?_)),HOCL.out,Lib.hid (fun k' o hk'=>(hnew k' o hk').elim (HNW.out k' o) (hnny k' o)),g4,rfl⟩
                   ·refine NumRow.of (l:=l4.set k (.bool sy,.slice Ay ny cy,.slice By dy ky)) (RowV.row (HRR.out.setTri hkn' HL4.out.1 _ _ _) HRB.out) (Frag.Tris.set (HL4.out.mono hle) hkn' ?_ (fun j hj hjk=>?_))
                    ·unfold rawM
                     rw[lM_at a (.inr ⟨rfl,Nat.lt_succ_self k⟩)]
                     exact hy.mono hle2
                    ·unfold rawM
                     rw[lM_ne a (fun h=>hjk h.2)]
                   ·refine(NumRow.mono hq hle).congr fun j' hj'=>?_
                    unfold rawM
                    rw[lM_ne a (fun h=>hj h.1)]
                  case measure=>simp[intOf]<;>omega)
              ·obtain rfl:k=m:=by omega
               have hkmi:¬ ((k:Int)<(k:Int)):=by omega
               have hsx:=rt_sign hx
               have hlx:=rt_len0 hx
               have HHX:=Lib.hid hx
               have HNX:=Lib.hid hnnx
               clear hx hnnx hf hnnf HD0 COV CLS CR
               by_cases hD:0<facD a k
               ·have hsf:sx=false:=by rw[hsx];exact rneg_pos hD
                subst hsf
                have hnx:decide (nx=0)=false:=decide_eq_false fun h=>by
                 have:facD a k=0:=hlx.1 h
                 rw[this] at hD
                 exact absurd hD (Rat.lt_irrefl)
                have CN:=null_any false Ax Bx nx cx dx kx
                rw[hnx] at CN
                have CNN:=Lib.hid CN
                have HDD:=Lib.hid hD
                have hx1:k+1≤maxLen:=by show k+1≤9223372036854775807;omega
                have hx2:(k+1)*56≤140737488355328:=by omega
                have hdv:=HDV.out
                clear CN hnx hlx hsx hD
                go_wp2_with (with_reducible refine yq _ ?_;(try generalize (G.w _).heap.size=bk);(try dsimp only[yi,yj]);(try clear g);intro g)
                refine(CNN.out _).mono ?_
                rintro e w1 ⟨rfl,hb⟩
                obtain⟨g1,rfl⟩:=G.call_ex _ hb
                clear hb
                (try clear g)
                revert g1
                intro g
                go_wp2_with (first|(with_reducible refine yq _ ?_;(try generalize (G.w _).heap.size=bk);(try dsimp only[yi,yj]);(try clear g);intro g)|(at_builtin;refine wpList_append_v rfl _ _ 38 rfl 43 i0 _ 3 56 Tryz.underlying38 hi hz0 hz1 hz2 rfl (by decide) 8 g (Rr:=sd) (R':=R) (by rfl) hdv (by rfl) (by exact List.mem_cons_self ..) 1 (by rfl) rfl (three _ _ _ ⟨rfl,rfl,rfl⟩) (by decide) hx1 hx2 ?_;clear hdv;(try clear g);intro b2 cap2 cs2 g hb2 hrow2;revert g;dsimp only[List.take,List.cons_append,List.nil_append];intro g))
                obtain⟨g2,e2⟩:=g.lessI (I':=[Fx,F,heapOf w]) (by simp)
                obtain⟨F',g3,e3,hle,hle2,hnew⟩:=g2.merge
                obtain⟨g4,e4⟩:=g3.less ((((List.Sublist.refl _).cons _).cons _).cons _)
                rw[e2,e3,e4]
                go_roundw
                case rel=>
                 refine⟨k+1,k+1,by go_num,.inr ⟨rfl,rfl⟩,Lib.hid (fun j hj=>?_),cap2,_,[(b2,43,cs2)],R,ld++[(.bool false,.slice Ax nx cx,.slice Bx dx kx)],oc,F',rfl,Lib.hid (RowV.row (by rw[cells3_append];exact hrow2) hb2),Lib.hid ((HDL.out.mono hle).snoc (HHX.out.mono hle2)),Lib.hid (HOW.out.next (fun _ _=>rfl) (fun j hj v s hq=>(NumRow.mono hq hle).congr fun j' hj'=>by unfold rawM;rw[lM_diag])),HOCL.out,Lib.hid (fun k' o hk'=>(hnew k' o hk').elim (HNW.out k' o) (HNX.out k' o)),g4,rfl⟩
                 rcases Nat.lt_succ_iff_lt_or_eq.1 hj with hj|rfl
                 ·exact HPOS.out j hj
                 ·exact HDD.out
                case measure=>simp[intOf]<;>omega
               ·have HDD:=Lib.hid (show∃k,k<i∧¬ 0<facD a k from⟨k,hin,hD⟩)
                by_cases h0:facD a k=0
                ·have hsf:sx=false:=by
                  rw[hsx]
                  show rneg (facD a k)=false
                  rw[h0]
                  decide+kernel
                 subst hsf
                 have hnx:decide (nx=0)=true:=decide_eq_true (hlx.2 h0)
                 have CN:=null_any false Ax Bx nx cx dx kx
                 rw[hnx] at CN
                 have CNN:=Lib.hid CN
                 clear CN hnx hlx hsx hD h0
                 go_wp2_with (with_reducible refine yq _ ?_;(try generalize (G.w _).heap.size=bk);(try dsimp only[yi,yj]);(try clear g);intro g)
                 refine(CNN.out _).mono ?_
                 rintro e w1 ⟨rfl,hb⟩
                 obtain⟨g1,rfl⟩:=G.call_ex _ hb
                 clear hb
                 (try clear g)
                 revert g1
                 intro g
                 go_wp2_with (with_reducible refine yq _ ?_;(try generalize (G.w _).heap.size=bk);(try dsimp only[yi,yj]);(try clear g);intro g)
                 refine bodyPost_ret (v:=.tuple #[.slice none 0 0,.slice none 0 0,.bool false,.int .i64 0]) (by simp[results,Tryz.results87,go_sem]) rfl ?_
                 exact .inr ⟨HDD.out,rfl,G.below _⟩
                ·have hsf:sx=true:=by rw[hsx];exact not_pos hD h0
                 subst hsf
                 clear hlx hsx hD h0
                 go_wp2_with (with_reducible refine yq _ ?_;(try generalize (G.w _).heap.size=bk);(try dsimp only[yi,yj]);(try clear g);intro g)
                 refine bodyPost_ret (v:=.tuple #[.slice none 0 0,.slice none 0 0,.bool false,.int .i64 0]) (by simp[results,Tryz.results87,go_sem]) rfl ?_
                 exact .inr ⟨HDD.out,rfl,G.below _⟩))
      ·obtain⟨rfl,rfl⟩:k=i2+1∧m=i2+1:=by omega
       have hkii:¬ (((i2+1:Nat):Int)<(i2:Int)+1):=by omega
       go_wp2_with (with_reducible refine yq _ ?_;(try generalize (G.w _).heap.size=bk);(try dsimp only[yi,yj]);(try clear g);intro g)
       obtain⟨g4,e4⟩:=g.less (List.sublist_cons_self _ _)
       rw[e4]
       refine⟨⟨i2+1,by go_num,by omega,HPOS.out,cd,Ad,sd,R,ld,oc,F,rfl,HDV.out,HDL.out,HOW.out.next (fun _ _=>rfl) (fun j hj v s hq=>hq.congr fun j' hj'=>by unfold rawM;rw[lM_row]),HOCL.out,HNW.out,g4,rfl⟩,?_⟩
       simp[intOf]<;>omega
    ·obtain rfl:i2=i:=by omega
     clear COV CLS CR HFF HBX
     have HDV:=Lib.hid hdv
     have HDL:=Lib.hid hdl
     have HOW:=Lib.hid hown
     have HNW:=Lib.hid hnw
     have HPOS:=Lib.hid hpos
     clear hdv hdl hown hnw hpos
     go_upto_region 29 with(with_reducible refine yq _ ?_;(try generalize (G.w _).heap.size=bk);(try dsimp only[yi,yj]);(try clear g);intro g)
     ((try simp only[G.drew_eq,G.drewN_eq]);(refine yq _ ?_;(try generalize (G.w _).heap.size=bk);(try dsimp only[yi,yj]);(try clear g);intro g))
     refine wp_region_held_drew (S:=(G.heldN g [true,true,true])) (by kernel_rfl) (by(simp[G.heldN,HeldN,go_sem];done)) (fun hHeld=>?_)
     refine tk0 [0,1,2,3,4,5] ?_
     repeat (refine tkc rfl (by kernel_rfl) (fun _ _ _ h=>h) (by rfl) ‹_› (by intro w hSw;(try dsimp only at hSw);go_simp;(try with_reducible rfl)) ?_;try simp only[Act.put,yk,yl,yn,yo,yi,yj])
     refine tkn ?_
     refine wpAnyH_ready (rs:=[6]) (by kernel_rfl) (by simp) ?_
     refine AllReadyH.cons rfl (fun K hK=>?_) AllReadyH.nil
     ·(try simp only[Act.put,yk,yl,yn,yo,yi,yj])
      go_simp
      refine hK.out _ _ (by(simp[G.heldN,HeldN,go_sem];done)) (fun hHeld=>?_)
      clear hK K
      (try simp only[Act.put,yk,yl,yn,yo,yi,yj])
      refine tk0 [7,8,9] ?_
      repeat (refine tkc rfl (by kernel_rfl) (fun _ _ _ h=>h) (by rfl) ‹_› (by intro w hSw;(try dsimp only at hSw);go_simp;(try with_reducible rfl)) ?_;try simp only[Act.put,yk,yl,yn,yo,yi,yj])
      refine tkn ?_
      refine wpAnyH_done (by kernel_rfl) ?_ _
      (as_aux_lemma=>
       (try clear hHeld)
       ((try simp only[G.drew_eq,G.drewN_eq]);(refine yq _ ?_;(try generalize (G.w _).heap.size=bk);(try dsimp only[yi,yj]);(try clear g);intro g))
       go_wp2_with (with_reducible refine yq _ ?_;(try generalize (G.w _).heap.size=bk);(try dsimp only[yi,yj]);(try clear g);intro g)
       refine bodyPost_ret (v:=.tuple #[.slice (some ⟨ob,0,none⟩) i2 i2,.slice Ad i2 cd,.bool true,.int .i64 0]) (by simp[results,Tryz.results87,go_sem]) rfl ?_
       obtain⟨g1,e1⟩:=g.less (M':=(ob,38,oc)::(sd++R)) ((((List.Sublist.refl _).cons _).cons _).cons _)
       obtain⟨g2,e2⟩:=g1.as (M':=((ob,38,oc)::(sd++R))++[]) (by simp)
       obtain⟨F',g3,e3,hle,hbl,hnw'⟩:=G.layR ((ob,38,oc)::(sd++R)) g2
       have hmt:=HOW.out.mt (F':=F') (ob:=ob) (cap:=i2) (Ts:=38) hle (fun m hm=>hbl m (by simp[hm])) (hbl (ob,38,oc) (List.mem_cons_self ..)) (Nat.le_refl _) (by omega) (by omega) (fun _ _=>by omega)
       rcases HDV.out with⟨_,_,h0,_⟩|⟨db,dcs,rfl,rfl,hdb,hdrow⟩
       ·omega
       have hrw:=row_rw hdrow (hbl (db,43,dcs) (by simp)) (HDL.out.mono hle) (by omega)
       exact .inl ⟨HPOS.out,ob,i2,db,cd,F',rfl,hmt.congr (fun _ _=>rfl) (fun r hr c hc=>by unfold rawM;rw[lM_end a hr]),hrw,by rw[e1,e2,e3];exact g3.newF (hnw' HNW.out)⟩)
theorem below2 {a b c:World}(h:Below a.heap.size a b)(k:Below b.heap.size b c):Below a.heap.size a c:=((Chg.of_below h).trans (Chg.of_below k)).below
theorem heap_sub {w0 w:World}(b:Below w0.heap.size w0 w):(heapOf w0).sub w:=fun k o hk=>by
 have h1:k<w0.heap.size:=Frag.lt (f:=heapOf w0) (w:=w0) (fun _ _ h=>h) hk
 rw[b.block k h1]
 exact hk
set_option maxRecDepth 20000 in
set_option maxHeartbeats 4000000 in
theorem quad11_r (w0:World)(i k n c ab ib b o ba oa cr:Nat)(s1:Bool)(A1 B1:Option Addr)(n1 c1 d1 k1:Nat)(t u:Raw)(p q r:Value)(w:World)
  (h1:w.cell? ⟨ab,0,none⟩=some (.slice (some ⟨b,o,none⟩) n c)) (h2:w.cell? ⟨ib,0,none⟩=some (.int .i64 (i:Int))) (h3:w.cell? ⟨b,o+i,none⟩=some (.slice (some ⟨ba,oa,none⟩) n cr))
  (h7:w.cell? ⟨ba,oa+k*3,none⟩=some (.bool s1)) (h8:w.cell? ⟨ba,oa+k*3+1,none⟩=some (.slice A1 n1 c1)) (h9:w.cell? ⟨ba,oa+k*3+2,none⟩=some (.slice B1 d1 k1))
  (hx:RtW w0 (.bool s1) (.slice A1 n1 c1) (.slice B1 d1 k1) t) (hi:i<n) (hk:k<n) (hv:RtW w0 p q r u) (hb:Below w0.heap.size w0 w):
  Calls Tryz.prog 90 #[.int .i64 (k:Int),.agg #[p,q,r],.pointer (some ⟨ab,0,none⟩),.pointer (some ⟨ib,0,none⟩)] w (RT2 t u (heapOf w0) w):=by
 refine calls_b fun g=>?_
 have hii:(i:Int)<(n:Int):=by omega
 have hki:(k:Int)<(n:Int):=by omega
 obtain⟨s3,A3,n3,c3,B3,d3,k3,rfl,rfl,rfl⟩:=hv.shape
 unfold RT2
 have HX:=Lib.hid hx
 have HV:=Lib.hid hv
 have HB:=Lib.hid hb
 have E1:=fun(M:List Blk) (I:List Frag) (g:G w [] M I)=>G.keepc g h1
 have E2:=fun(M:List Blk) (I:List Frag) (g:G w [] M I)=>G.keepc g h2
 have E3:=fun(M:List Blk) (I:List Frag) (g:G w [] M I)=>G.keepc g h3
 have E7:=fun(M:List Blk) (I:List Frag) (g:G w [] M I)=>G.keepc g h7
 have E8:=fun(M:List Blk) (I:List Frag) (g:G w [] M I)=>G.keepc g h8
 have E9:=fun(M:List Blk) (I:List Frag) (g:G w [] M I)=>G.keepc g h9
 clear hx hv hb hi hk h1 h2 h3 h7 h8 h9
 go_enter Tryz.func90,Tryz.ntmps90
 go_upto_region 1 with(with_reducible refine yq _ ?_;(try generalize (G.w _).heap.size=bk);(try dsimp only[yi,yj]);(try clear g);intro g)
 ((try simp only[G.drew_eq,G.drewN_eq]);(refine yq _ ?_;(try generalize (G.w _).heap.size=bk);(try dsimp only[yi,yj]);(try clear g);intro g))
 refine wp_region_held_drew (S:=(fun w'=>(G.heldN g [false,false,true]) w'∧w'.cell? ⟨ab,0,none⟩=some (.slice (some ⟨b,o,none⟩) n c)∧w'.cell? ⟨ib,0,none⟩=some (.int .i64 (i:Int))∧w'.cell? ⟨b,o+i,none⟩=some (.slice (some ⟨ba,oa,none⟩) n cr)∧w'.cell? ⟨ba,oa+k*3,none⟩=some (.bool s1)∧w'.cell? ⟨ba,oa+k*3+1,none⟩=some (.slice A1 n1 c1)∧w'.cell? ⟨ba,oa+k*3+2,none⟩=some (.slice B1 d1 k1))) (by kernel_rfl) (by(simp[G.heldN,HeldN,go_sem, *];done)) (fun hHeld=>?_)
 refine tk0 [0,1,2,3,4,5,6,7] ?_
 repeat (refine tkc rfl (by kernel_rfl) (fun _ _ _ h=>h) (by rfl) ‹_› (by intro w hSw;(try dsimp only at hSw);go_simp;(try with_reducible rfl)) ?_;try simp only[Act.put,yk,yl,yn,yo,yi,yj])
 refine tkn ?_
 refine wpAnyH_ready (rs:=[8]) (by kernel_rfl) (by simp) ?_
 refine AllReadyH.cons rfl (fun K hK=>?_) AllReadyH.nil
 ·(try simp only[Act.put,yk,yl,yn,yo,yi,yj])
  go_simp
  refine hK.out _ _ (by(simp[G.heldN,HeldN,go_sem, *];done)) (fun hHeld=>?_)
  clear hK K
  (try simp only[Act.put,yk,yl,yn,yo,yi,yj])
  refine wpAnyH_ready (rs:=[9]) (by kernel_rfl) (by simp) ?_
  refine AllReadyH.cons rfl (fun K hK=>?_) AllReadyH.nil
  ·(try simp only[Act.put,yk,yl,yn,yo,yi,yj])
   go_simp
   refine hK.out _ _ (by(simp[G.heldN,HeldN,go_sem, *];done)) (fun hHeld=>?_)
   clear hK K
   (try simp only[Act.put,yk,yl,yn,yo,yi,yj])
   refine wpAnyH_done (by kernel_rfl) ?_ _
   (as_aux_lemma=>
    (try clear hHeld)
    clear E1 E2 E3 E7 E8 E9
    ((try simp only[G.drew_eq,G.drewN_eq]);(refine yq _ ?_;(try generalize (G.w _).heap.size=bk);(try dsimp only[yi,yj]);(try clear g);intro g))
    go_wp2_with (with_reducible refine yq _ ?_;(try generalize (G.w _).heap.size=bk);(try dsimp only[yi,yj]);(try clear g);intro g)
    refine bodyPost_ret (v:=.tuple #[.agg #[.bool s1,.slice A1 n1 c1,.slice B1 d1 k1],.agg #[.bool s3,.slice A3 n3 c3,.slice B3 d3 k3]]) (by simp[results,Tryz.results90,go_sem]) rfl ?_
    exact⟨_,_,_,_,_,_,heapOf w0,rfl,HX.out,HV.out,G.below _,fun k o hk=>heap_sub (w0:=w0) (below2 HB.out (G.below g)) k o hk,fun k o hk=> .inl hk⟩)
/-- the sizes that a quadratic form needs -/
structure QuadFine (n:Nat)(a:Mx)(x:Nat→Rat):Prop where
 fa:∀i,i<n→∀k,k<n→Bd 8192 (a i k)
 fx:∀k,k<n→Bd 8192 (x k)
 fp:∀i,i<n→∀k,k<n→Bd 8192 (a i k*x k)
 fs:∀i,i<n→∀t,t≤n→Bd 8192 (sumN t (fun k=>a i k*x k))
 fq:∀i,i<n→Bd 8192 (x i*sumN n (fun k=>a i k*x k))
 fo:∀t,t≤n→Bd 8192 (sumN t (fun i=>x i*sumN n (fun k=>a i k*x k)))
set_option maxRecDepth 20000 in
set_option maxHeartbeats 8000000 in
theorem quad1_r (w0:World)(i n c cx ab xb s2b sb b o:Nat)(Ax:Option Addr)(a:Mx)(x:Nat→Rat)(p q r:Value)(w:World)
  (h1:w0.cell? ⟨ab,0,none⟩=some (.slice (some ⟨b,o,none⟩) n c)) (h2:w0.cell? ⟨xb,0,none⟩=some (.slice Ax n cx)) (h3:w0.cell? ⟨s2b,0,none⟩=some (.pointer (some ⟨sb,0,none⟩)))
  (hA:∀i,i<n→∃ba oa k,w0.cell? ⟨b,o+i,none⟩=some (.slice (some ⟨ba,oa,none⟩) n k)∧∀j,j<n→∃p q r,w0.cell? ⟨ba,oa+j*3,none⟩=some p∧w0.cell? ⟨ba,oa+j*3+1,none⟩=some q∧w0.cell? ⟨ba,oa+j*3+2,none⟩=some r∧RtW w0 p q r (rawOf (a i j)))
  (hX:RwW w0 Ax cx n (rawR x)) (hs:SumW w0 sb) (hT:Tab w0) (hf:QuadFine n a x) (hi:i<n) (hv:RtW w0 p q r (rawOf (x i))) (hb:Below w0.heap.size w0 w):
  Calls Tryz.prog 89 #[.int .i64 (i:Int),.agg #[p,q,r],.pointer (some ⟨xb,0,none⟩),.pointer (some ⟨s2b,0,none⟩),.pointer (some ⟨ab,0,none⟩)] w (RT2 (rawOf (x i)) (rawOf (sumN n (fun k=>a i k*x k))) (heapOf w0) w):=by
 refine calls_b fun g=>?_
 obtain⟨s3,A3,n3,c3,B3,d3,k3,rfl,rfl,rfl⟩:=hv.shape
 have HV:=Lib.hid hv
 have HB:=Lib.hid hb
 have CR:=Lib.hid (fun w=>ring_any sb w)
 have CF:Hid (∀(ib:Nat) (M:List Blk) (I:List Frag) (g:G w [] M I),(ib,3,[Value.int .i64 (i:Int)])∈M→Calls Tryz.prog 55 #[.slice Ax n cx,.agg #[.func (.func 59) #[.pointer (some ⟨sb,0,none⟩)] #[],.func (.func 99) #[.pointer (some ⟨sb,0,none⟩)] #[]],.func (.func 90) #[] #[.pointer (some ⟨ab,0,none⟩),.pointer (some ⟨ib,0,none⟩)]] g.w (RT1 (rawOf (sumN n (fun k=>a i k*x k))) g.w)):=Lib.hid (fun ib M I g m1=>by
  have hbg:Below w0.heap.size w0 g.w:=below2 hb g.below
  refine fold_q n (rawR x) (a i) x Ax cx _ _ sb g.w (hX.mono (heap_sub hbg)) (hs.below hbg) (tab_below hT hbg) (fun j hj p q r w' hbl hv=>?_) (hf.fa i hi) hf.fx (hf.fp i hi) (hf.fs i hi)
  obtain⟨ba,oa,k,e1,e2⟩:=hA i hi
  obtain⟨p1,q1,r1,y0,y1,y2,hy⟩:=e2 j hj
  obtain⟨s4,A4,n4,c4,B4,d4,k4,rfl,rfl,rfl⟩:=hy.shape
  have hbl2:Below w0.heap.size w0 w':=below2 hbg hbl
  exact quad11_r g.w i j n c ab ib b o ba oa k s4 A4 B4 n4 c4 d4 k4 _ _ p q r w' (Below.keepc hbl2 h1) (Below.keepc hbl (cell_of (g.own _ m1) rfl)) (Below.keepc hbl2 e1) (Below.keepc hbl2 y0) (Below.keepc hbl2 y1) (Below.keepc hbl2 y2) (rt_below hy hbg) hi hj hv hbl)
 have E1:=fun(M:List Blk) (I:List Frag) (g:G w [] M I)=>G.keepc g (Below.keepc hb h2)
 have E2:=fun(M:List Blk) (I:List Frag) (g:G w [] M I)=>G.keepc g (Below.keepc hb h3)
 unfold RT1 at CF
 unfold RT2
 generalize sumN n (fun k=>a i k*x k)=S at*
 clear hA hX hs hT hf hi hv hb h1 h2 h3
 go_enter Tryz.func89,Tryz.ntmps89
 go_upto_region 1 with(with_reducible refine yq _ ?_;(try generalize (G.w _).heap.size=bk);(try dsimp only[yi,yj]);(try clear g);intro g)
 ((try simp only[G.drew_eq,G.drewN_eq]);(refine yq _ ?_;(try generalize (G.w _).heap.size=bk);(try dsimp only[yi,yj]);(try clear g);intro g))
 refine wp_region_held_drew (S:=(fun w'=>(G.heldN g [false,false,true,false]) w'∧w'.cell? ⟨xb,0,none⟩=some (.slice Ax n cx)∧w'.cell? ⟨s2b,0,none⟩=some (.pointer (some ⟨sb,0,none⟩)))) (by kernel_rfl) (by(simp[G.heldN,HeldN,go_sem, *];done)) (fun hHeld=>?_)
 refine tk0 [0,1,2,4] ?_
 repeat (refine tkc rfl (by kernel_rfl) (fun _ _ _ h=>h) (by rfl) ‹_› (by intro w hSw;(try dsimp only at hSw);go_simp;(try with_reducible rfl)) ?_;try simp only[Act.put,yk,yl,yn,yo,yi,yj])
 refine tkn ?_
 refine wpAnyH_ready (rs:=[3]) (by kernel_rfl) (by simp) ?_
 refine AllReadyH.cons rfl (fun K hK=>?_) AllReadyH.nil
 ·(try simp only[Act.put,yk,yl,yn,yo,yi,yj])
  go_simp
  go_at_call 56
  (try(refine cmark _ ?_;(try dsimp only[yi,yj]);(try clear g);intro g))
  refine(CR.out _).mono ?_
  rintro e w1 ⟨rfl,hb⟩
  obtain⟨g1,rfl⟩:=G.call_ex _ hb
  clear hb
  (try clear g)
  revert g1
  intro g
  refine hK.out _ _ (by(simp[G.heldN,HeldN,go_sem, *];done)) (fun hHeld=>?_)
  clear hK K
  (try simp only[Act.put,yk,yl,yn,yo,yi,yj])
  refine wpAnyH_ready (rs:=[5]) (by kernel_rfl) (by simp) ?_
  refine AllReadyH.cons rfl (fun K hK=>?_) AllReadyH.nil
  ·(try simp only[Act.put,yk,yl,yn,yo,yi,yj])
   go_simp
   go_at_call 55
   (try(refine cmark _ ?_;(try dsimp only[yi,yj]);(try clear g);intro g))
   refine(CF.out _ _ _ g (by simp)).mono ?_
   rintro e w1 ⟨pf,qf,rf,Ff,rfl,hf,hn⟩
   have hnnf:=fun k o hk=>Nat.le_trans g.chg.size (hn.new k o hk)
   obtain⟨sf,Af,nf,cf,Bf,df,kf,rfl,rfl,rfl⟩:=hf.shape
   obtain⟨g1,rfl⟩:=G.new_ex _ hn
   clear hn
   (try clear g)
   revert g1
   intro g
   refine hK.out _ _ (by(simp[G.heldN,HeldN,go_sem, *];done)) (fun hHeld=>?_)
   clear hK K
   (try simp only[Act.put,yk,yl,yn,yo,yi,yj])
   refine wpAnyH_ready (rs:=[6]) (by kernel_rfl) (by simp) ?_
   refine AllReadyH.cons rfl (fun K hK=>?_) AllReadyH.nil
   ·(try simp only[Act.put,yk,yl,yn,yo,yi,yj])
    go_simp
    refine hK.out _ _ (by(simp[G.heldN,HeldN,go_sem, *];done)) (fun hHeld=>?_)
    clear hK K
    (try simp only[Act.put,yk,yl,yn,yo,yi,yj])
    refine wpAnyH_ready (rs:=[7]) (by kernel_rfl) (by simp) ?_
    refine AllReadyH.cons rfl (fun K hK=>?_) AllReadyH.nil
    ·(try simp only[Act.put,yk,yl,yn,yo,yi,yj])
     go_simp
     refine hK.out _ _ (by(simp[G.heldN,HeldN,go_sem, *];done)) (fun hHeld=>?_)
     clear hK K
     (try simp only[Act.put,yk,yl,yn,yo,yi,yj])
     refine wpAnyH_done (by kernel_rfl) ?_ _
     (as_aux_lemma=>
      (try clear hHeld)
      clear E1 E2 CF CR
      ((try simp only[G.drew_eq,G.drewN_eq]);(refine yq _ ?_;(try generalize (G.w _).heap.size=bk);(try dsimp only[yi,yj]);(try clear g);intro g))
      go_wp2_with (with_reducible refine yq _ ?_;(try generalize (G.w _).heap.size=bk);(try dsimp only[yi,yj]);(try clear g);intro g)
      refine bodyPost_ret (v:=.tuple #[.agg #[.bool s3,.slice A3 n3 c3,.slice B3 d3 k3],.agg #[.bool sf,.slice Af nf cf,.slice Bf df kf]]) (by simp[results,Tryz.results89,go_sem]) rfl ?_
      have h0:(heapOf w0).sub g.w:=heap_sub (below2 HB.out (G.below g))
      exact⟨_,_,_,_,_,_,Ff.or (heapOf w0),rfl,HV.out.mono (Frag.le_orr (g.sub _ (by simp)) h0),hf.mono (Frag.le_orl _ _),G.below _,Frag.or_sub (g.sub _ (by simp)) h0,fun k o hk=>(Frag.or_some hk).elim (fun h=> .inr (hnnf k o h)) .inl⟩)
end Go.Proofs.YthhbbnfnejjpiaaGreatDoor
