/- Plain facts and contracts of functions of the program, out of walks. Their conditions stand ahead of each. -/
import Derived.Test.YthhbbnfnejjpiaaGreatDoorNm2
import Derived.Test.YthhbbnfnejjpiaaGreatDoorNm5
import Derived.Test.YthhbbnfnejjpiaaGreatDoorNm15
import Derived.Test.YthhbbnfnejjpiaaGreatDoorNm22
import Derived.Test.YthhbbnfnejjpiaaGreatDoorNm23
import Derived.Below
import Derived.BigQuiet
import Derived.Deep.DeepCutAuto
import Derived.Deep.Draws
import Derived.Deep.LoopGhost
import Derived.Deep.QuietTactic
import Derived.Deep.RegionHeld3
import Derived.Deep.RegionLaw
import Derived.Defers
import Derived.Laws.BytesString
import Derived.Laws.Cells
import Derived.Laws.Concat
import Derived.Laws.CopyOwn
import Derived.Laws.CopyRow
import Derived.Laws.NewBlocks
import Derived.Laws.OwnMore
import Derived.Laws.Pointers
import Derived.Laws.Rows
import Derived.Lib.BitFns
import Derived.Lib.Hide
import Derived.Lib.ItoaNum
import Derived.Lib.TrailingZeros
import Derived.LoopIn
import Derived.LoopNIn
import Derived.Maps.AppendAt
import Derived.OrdersHeld
import Derived.OrdersIn
import Derived.OwnWalk
import Derived.OwnWalkIn
import Derived.RangeFuncBound
import Derived.RangeFuncBox
import Derived.RangeFuncCalls
import Derived.RangeFuncLeaves
import Derived.RangeFuncNested
import Derived.RowKit3
import Derived.Shelf.Abstract
import Derived.Shelf.RegionOpen
import Derived.Shelf.Spec.TrailingZeros
import Derived.StillTactics
import Derived.StillTailTactics
import Derived.TacticsInMore
import Derived.Test.YthhbbnfnejjpiaaGreatDoorProg
import Derived.WalkKit
import Derived.WalkLawsBesides
import Derived.WalkMore
import Derived.WalkSpells
set_option linter.unusedVariables false
set_option linter.unusedSimpArgs false
set_option exponentiation.threshold 10000
namespace Go.Proofs.YthhbbnfnejjpiaaGreatDoor
open Go.RowKit GW NL
/-- not more limbs than a walk can count -/
def Sz (t:Raw):Prop:=t.2.1.length≤1000000∧t.2.2.length≤1000000
set_option maxRecDepth 20000 in
theorem own_r (t:Raw)(ht:Sz t)(p q r:Value)(w:World)(h:RtW w p q r t):Calls Tryz.prog 98 #[.agg #[p,q,r]] w (RT1 t w):=by
 refine calls_b fun g=>?_
 obtain⟨s,l,m⟩:=t
 obtain⟨rfl,⟨A,c,rfl,h1⟩,B,d,rfl,h2⟩:=h
 unfold Sz at ht
 dsimp only at ht h1 h2 ⊢
 have C1:=Lib.hid (fun w h=>clone_any A c l w h (by omega))
 have C2:=Lib.hid (fun w h=>clone_any B d m w h (by omega))
 have H1:=Lib.hid h1
 have H2:=Lib.hid h2
 unfold RLim at C1 C2
 unfold RT1 Frag.Rt
 dsimp only
 clear h1 h2 ht
 generalize l.length=n1 at*
 generalize m.length=n2 at*
 have fin:∀(X1 X2:Option Addr) (x1 x2:Nat) (P1 P2:Frag) (w':World),P1.Sl X1 x1 l→P2.Sl X2 x2 m→(∀k o,P1 k=some o→w.heap.size≤k)→(∀k o,P2 k=some o→w.heap.size≤k)→Below w.heap.size w w'→P1.sub w'→P2.sub w'→∃p q r H,Ending.returned (Value.agg #[.bool s,.slice X1 n1 x1,.slice X2 n2 x2])=.returned (.agg #[p,q,r])∧(p=Value.bool s∧(∃A c,q=Value.slice A n1 c∧H.Sl A c l)∧∃B k,r=Value.slice B n2 k∧H.Sl B k m)∧New w w' H:=by
  intro X1 X2 x1 x2 P1 P2 w' h1 h2 o1 o2 hb k1 k2
  exact⟨_,_,_,P1.or P2,rfl,⟨rfl,⟨_,_,rfl,h1.mono (Frag.le_orl P1 P2)⟩,_,_,rfl,h2.mono (Frag.le_orr k1 k2)⟩,hb,Frag.or_sub k1 k2,fun k o e=>by rcases Frag.or_some e with e|e;exact o1 k o e;exact o2 k o e⟩
 go_enter Tryz.func98,Tryz.ntmps98
 go_wp2_with (with_reducible refine yq _ ?_;(try generalize (G.w _).heap.size=bk);(try dsimp only[yi,yj]);(try clear g);intro g)
 go_region_held3 (G.heldN g [false,true]) (simp[G.heldN,HeldN,go_sem]) (first
  |(go_at_call 117;(with_reducible refine(C1.out _ ?_).mono ?_);(· exact G.sl _ (by simp) H1.out);rintro e w1 ⟨X1,x1,P1,rfl,hx1,hn1⟩;have ho1:=fun k o hk=>Nat.le_trans (G.chg _).size (hn1.new k o hk);obtain⟨g1,rfl⟩:=G.new_ex _ hn1;clear hn1;(try clear g);revert g1;intro g)
  |(go_at_call 117;(with_reducible refine(C2.out _ ?_).mono ?_);(· exact G.sl _ (by simp) H2.out);rintro e w1 ⟨X2,x2,P2,rfl,hx2,hn2⟩;have ho2:=fun k o hk=>Nat.le_trans (G.chg _).size (hn2.new k o hk);obtain⟨g1,rfl⟩:=G.new_ex _ hn2;clear hn2;(try clear g);revert g1;intro g))
 all_goals go_wp2_with (with_reducible refine yq _ ?_;(try generalize (G.w _).heap.size=bk);(try dsimp only[yi,yj]);(try clear g);intro g)
 all_goals refine bodyPost_ret (v:=.agg #[.bool s,.slice X1 n1 x1,.slice X2 n2 x2]) (by simp[results,Tryz.results98,go_sem]) rfl ?_
 all_goals exact fin _ _ _ _ _ _ _ hx1 hx2 ho1 ho2 (G.below _) (G.sub _ P1 (by simp)) (G.sub _ P2 (by simp))
theorem infoRat:(Tryz.prog.info? 43).map (fun i=>(i.zero,i.size,i.bytes))=some (some (.agg #[.bool false,.slice none 0 0,.slice none 0 0]),3,56):=by kernel_rfl
theorem infoRats:(Tryz.prog.info? 38).map (fun i=>(i.zero,i.size,i.bytes))=some (some (.slice none 0 0),1,24):=by kernel_rfl
theorem make_rows (n:Nat)(hn:n≤1000000)(w:World):(Instr.makeSlice 29 (.int .i64 (n:Int)) (.int .i64 (n:Int))).run Tryz.prog w=.ok (.slice (some ⟨w.heap.size,0,none⟩) n n) (w.alloc (.cells (List.replicate n (Value.slice none 0 0)).toArray 38)):=by
 obtain⟨i0,hi,hz0,hz1,hz2⟩:=info_parts infoRats
 have h:=run_make (P:=Tryz.prog) w 29 38 i0 _ Tryz.underlying29 hi hz0 .i64 .i64 n n (by omega) (by omega) (by rw[hz2];omega) (by omega)
 rw[hz1] at h
 simp only[Int.toNat_natCast] at h
 rw[h]
 have:madeCells (Value.slice none 0 0).cells (n*1)=(List.replicate n (Value.slice none 0 0)).toArray:=by
  rw[Nat.mul_one]
  apply Array.toList_inj.1
  exact(toList_madeCells_one _ _).trans (by simp)
 rw[this]
/-- A matrix in new memory. -/
def RMt (n:Nat)(m:Nat→Nat)(x:Nat→Nat→Raw)(w:World)(e:Ending)(w':World):Prop:=∃b c F,e=.returned (.slice (some ⟨b,0,none⟩) n c)∧Frag.Mt F (some ⟨b,0,none⟩) c n m x∧New w w' F
theorem three (p q r:Value)(h:p.oneCell'=true∧q.oneCell'=true∧r.oneCell'=true):∀u∈ [p,q,r],u.oneCell'=true:=by
 intro u hu
 simp only[List.mem_cons,List.not_mem_nil,or_false] at hu
 rcases hu with rfl|rfl|rfl
 ·exact h.1
 ·exact h.2.1
 ·exact h.2.2
set_option maxRecDepth 20000 in
set_option maxHeartbeats 4000000 in
theorem turn_r (A:Option Addr)(c n m:Nat)(x:Nat→Nat→Raw)(hn0:0<n)(hm0:0<m)(hn:n≤1000)(hm:m≤1000)(hz:∀i,i<n→∀j,j<m→Sz (x i j))(w:World)(h:(heapOf w).Mt A c n (fun _=>m) x):
  Calls Tryz.prog 54 #[.slice A n c] w (RMt m (fun _=>n) (fun j i=>x i j) w):=by
 refine calls_b fun g=>?_
 unfold RMt
 obtain⟨b,o,rfl,hrow⟩:=h.rowAt hn0
 have HR:=Lib.hid hrow
 have HZ:=Lib.hid hz
 have hmk:=make_rows m (by omega)
 obtain⟨i0,hi,hz0,hz1,hz2⟩:=info_parts infoRat
 obtain⟨B0,k0,hh0,hrw0⟩:=hrow 0 hn0
 have E0:∀(M:List Blk) (g:G w [] M [heapOf w]),g.w.cell? ⟨b,o,none⟩=some (.slice B0 m k0):=fun M g=>hh0 _ _ _ _ g (InF.head _ _)
 have hni:(0:Int)<(n:Int):=by omega
 clear h hrow hz hh0 hrw0
 go_enter Tryz.func54,Tryz.ntmps54
 go_wp2_with (with_reducible refine yq _ ?_;(try generalize (G.w _).heap.size=bk);(try dsimp only[yi,yj]);(try clear g);intro g)
 obtain⟨ob,rfl⟩:∃ob,ob=bk:=⟨_,rfl⟩
 have OS:=own_start m (fun j=>NumRow w.heap.size 43 (fun _=>none) 0 (fun i=>x i j)) (fun j _=>NumRow.nil _ _ _ _)
 clear E0
 go_loopw [15] (fun i wr=>∃k:Nat,i=.int .i64 (k:Int)∧k≤n∧∃(F:Frag) (R:List Blk) (oc:List Value),OwnOn (List.range m) (fun j=>NumRow w.heap.size 43 F k (fun i=>x i j)) R oc∧Hid (oc.length=m)∧F.Nw w∧∃g:G w [] ((ob,38,oc)::R) [F,heapOf w],wr=g.w) (fun i _=>n-(intOf i).toNat)
 case atStart=>
  obtain⟨g2,e2⟩:=g.none_ex
  exact⟨0,rfl,by omega,fun _=>none,[],_,OS,Lib.hid (by simp),Frag.Nw.none w,g2,e2⟩
 case round=>
  clear g OS
  obtain⟨k,rfl,hk,F,R,oc,hown,hocl,hnw,g,rfl⟩:=hrel
  by_cases hkn:k<n
  ·have hki:(k:Int)<(n:Int):=by omega
   obtain⟨B,kc,hh,hrw⟩:=HR.out k hkn
   have EH:∀(M:List Blk) (F:Frag) (g:G w [] M [F,heapOf w]),g.w.cell? ⟨b,o+k,none⟩=some (.slice B m kc):=fun M F g=>hh _ _ _ _ g (InF.tail (InF.head _ _))
   obtain⟨b',o',rfl,hnum⟩:=hrw.num hm0
   have HNM:=Lib.hid hnum
   clear hh hrw hnum
   go_wp2_with (with_reducible refine yq _ ?_;(try generalize (G.w _).heap.size=bk);(try dsimp only[yi,yj]);(try clear g);intro g)
   have HO:OwnOn (List.range m) (fun j=>NumRow w.heap.size 43 F (if j<0 then k+1 else k) (fun i=>x i j)) R oc:=by simpa using hown
   clear hown
   go_loopw [21] (fun i wr=>∃j:Nat,i=.int .i64 (j:Int)∧j≤m∧∃(F:Frag) (R:List Blk) (oc:List Value),OwnOn (List.range m) (fun j'=>NumRow w.heap.size 43 F (if j'<j then k+1 else k) (fun i=>x i j')) R oc∧Hid (oc.length=m)∧F.Nw w∧∃g:G w [] ((ob,38,oc)::R) [F,heapOf w],wr=g.w) (fun i _=>m-(intOf i).toNat)
   case atStart=>exact⟨0,rfl,by omega,F,R,oc,HO,hocl,hnw,g,rfl⟩
   case round=>
    clear g HO hocl hnw F R oc
    obtain⟨j,rfl,hj,F,R,oc,hown,hocl,hnw,g,rfl⟩:=hrel
    by_cases hjm:j<m
    ·have hji:(j:Int)<(m:Int):=by omega
     obtain⟨v,s,R',hv,⟨A1,c1,l,rfl,hvr,hl⟩,hp,hbut⟩:=hown.openAt hjm
     simp only[Nat.lt_irrefl,if_false] at hvr hl hv
     obtain⟨g1,e1⟩:=g.perm (M':=(ob,38,oc)::(s++R')) (hp.cons _)
     rw[e1]
     clear e1 g hown hp
     revert g1
     intro g
     obtain⟨p,q,r,h3,hrt⟩:=HNM.out j hjm
     obtain⟨s1,P1,n1,d1,Q1,n2,d2,rfl,rfl,rfl⟩:=hrt.shape
     have E0:∀(M:List Blk) (F:Frag) (g:G w [] M [F,heapOf w]),g.w.cell? ⟨b',o'+j*3,none⟩=some (.bool s1):=fun M F g=>(h3 _ _ _ _ g (InF.tail (InF.head _ _))).1
     have E1:∀(M:List Blk) (F:Frag) (g:G w [] M [F,heapOf w]),g.w.cell? ⟨b',o'+j*3+1,none⟩=some (.slice P1 n1 d1):=fun M F g=>(h3 _ _ _ _ g (InF.tail (InF.head _ _))).2.1
     have E2:∀(M:List Blk) (F:Frag) (g:G w [] M [F,heapOf w]),g.w.cell? ⟨b',o'+j*3+2,none⟩=some (.slice Q1 n2 d2):=fun M F g=>(h3 _ _ _ _ g (InF.tail (InF.head _ _))).2.2
     have HRT:=Lib.hid hrt
     have HSZ:=Lib.hid (HZ.out k hkn j hjm)
     have HL:=Lib.hid hl
     have HB:=Lib.hid hbut
     have hw1:k+1≤maxLen:=by show k+1≤9223372036854775807;omega
     have hw2:(k+1)*56≤140737488355328:=by omega
     clear h3 hrt hl hbut
     go_upto_region 8 with(with_reducible refine yq _ ?_;(try generalize (G.w _).heap.size=bk);(try dsimp only[yi,yj]);(try clear g);intro g)
     clear E0 E1 E2 EH
     ((try simp only[G.drew_eq,G.drewN_eq]);(refine yq _ ?_;(try generalize (G.w _).heap.size=bk);(try dsimp only[yi,yj]);(try clear g);intro g))
     go_region_law (first
      |(refine step_append_v rfl _ _ 38 rfl 43 i0 _ 3 56 Tryz.underlying38 hi hz0 hz1 hz2 rfl (by decide) 3 _ (Rr:=s) (R':=R') (by rfl) hvr (by rfl) (by exact List.mem_cons_self ..) 1 (by rfl) rfl (three _ _ _ ⟨rfl,rfl,rfl⟩) (by decide) hw1 hw2 ?_;clear hvr;(try clear g);intro b2 cap cs g hb2 hrow2;revert g;dsimp only[List.take,List.cons_append,List.nil_append];intro g)
      |(go_simp;go_at_call 98;(with_reducible refine(own_r (x k j) HSZ.out _ _ _ _ ?_).mono ?_);(· exact G.rtI _ (by simp) HRT.out);rintro e w1 ⟨pa,qa,ra,Fa,rfl,ha,hn⟩;have hnna:=fun k o hk=>Nat.le_trans (G.chg _).size (hn.new k o hk);obtain⟨sa,Aa,na,ca,Ba,da,ka,rfl,rfl,rfl⟩:=ha.shape;obtain⟨g1,rfl⟩:=G.new_ex _ hn;clear hn;(try clear g);revert g1;intro g))
     all_goals (as_aux_lemma=>
      ((try simp only[G.drew_eq,G.drewN_eq]);(refine yq _ ?_;(try generalize (G.w _).heap.size=bk);(try dsimp only[yi,yj]);(try clear g);intro g))
      go_wp2_with (with_reducible refine yq _ ?_;(try generalize (G.w _).heap.size=bk);(try dsimp only[yi,yj]);(try clear g);intro g)
      obtain⟨g2,hg2⟩:∃g2:G w [] ((ob,38,oc.set j (.slice (some ⟨b2,0,none⟩) (k+1) cap))::(b2,43,cs)::R') [Fa,F,heapOf w],g.w=g2.w:=g.forget 2
      rw[hg2]
      obtain⟨F',g3,e3,hle,hle2,hnew⟩:=g2.merge
      rw[e3]
      go_roundw
      case rel=>
       refine⟨j+1,by go_num,by omega,F',(b2,43,cs)::R',_,HB.out.closeAt (s:=[(b2,43,cs)]) hjm (List.getElem?_set_self (by have:=hocl.out;omega)) ?_ (fun j' h _=>List.getElem?_set_ne (Ne.symm h)) (fun j' h _ v s hq=>?_),Lib.hid (by simp[hocl.out]),fun k' o hk'=>(hnew k' o hk').elim (hnw k' o) (hnna k' o),g3,rfl⟩
       ·rw[if_pos (Nat.lt_succ_self j)]
        exact NumRow.snoc HL.out hle hrow2 hb2 (ha.mono hle2)
       ·have e:(j'<j+1)↔(j'<j):=by omega
        simp only[e]
        exact hq.mono hle
      case measure=>simp[intOf];omega)
    ·obtain rfl:j=m:=by omega
     go_wp2_with (with_reducible refine yq _ ?_;(try generalize (G.w _).heap.size=bk);(try dsimp only[yi,yj]);(try clear g);intro g)
     go_roundw
     case rel=>exact⟨k+1,by go_num,by omega,F,R,oc,hown.next (fun _ _=>rfl) (fun j hj v s hq=>by rw[if_pos (List.mem_range.1 hj)] at hq;exact hq),hocl,hnw,g,rfl⟩
     case measure=>simp[intOf];omega
  ·obtain rfl:k=n:=by omega
   go_wp2_with (with_reducible refine yq _ ?_;(try generalize (G.w _).heap.size=bk);(try dsimp only[yi,yj]);(try clear g);intro g)
   go_ret
   obtain⟨g1,e1⟩:=g.as (M':=(ob,38,oc)::(R++[])) (by simp)
   obtain⟨F',g',e',hmt,_,hnw'⟩:=g1.freeze hown hnw (by omega) (fun _ _=>by omega)
   exact⟨ob,m,F',rfl,hmt,by rw[e1,e'];exact g'.newF hnw'⟩
open Go.RowKit GW NL MX
/-- a matrix of rational numbers as it lies in memory -/
def rawM (x:Mx):Nat→Nat→Raw:=fun i k=>rawOf (x i k)
set_option maxRecDepth 20000 in
set_option maxHeartbeats 4000000 in
theorem one_r (n:Nat)(hn0:0<n)(hn:n≤1000)(w:World)(hT:Tab w):
  Calls Tryz.prog 60 #[.int .i64 (n:Int)] w (RMt n (fun _=>n) (rawM oneM) w):=by
 refine calls_b fun g=>?_
 unfold RMt
 have HT:=Lib.hid hT
 have hmk:=make_rows n (by omega)
 obtain⟨i0,hi,hz0,hz1,hz2⟩:=info_parts infoRat
 have b0:Bd 8192 0:=⟨by decide+kernel,by decide+kernel⟩
 have b1:Bd 8192 1:=⟨by decide+kernel,by decide+kernel⟩
 have C0:=Lib.hid (fun w t=>whole_r 0 0 b0 rfl (by decide) (by decide) w t)
 have C1:=Lib.hid (fun w t=>whole_r 1 1 b1 rfl (by decide) (by decide) w t)
 unfold RT1 at C0 C1
 clear hT b0 b1
 have hni:(0:Int)≤(n:Int):=by omega
 go_enter Tryz.func60,Tryz.ntmps60
 go_wp2_with (with_reducible refine yq _ ?_;(try generalize (G.w _).heap.size=bk);(try dsimp only[yi,yj]);(try clear g);intro g)
 obtain⟨ob,rfl⟩:∃ob,ob=bk:=⟨_,rfl⟩
 have OS:=own_start n (fun j=>NumRow w.heap.size 43 (fun _=>none) (lenA n 0 0 j) (rawM oneM j)) (fun j _=>by rw[lenA_start];exact NumRow.nil _ _ _ _)
 go_loopw [11] (fun i wr=>∃k:Nat,i=.int .i64 (k:Int)∧k≤n∧∃(F:Frag) (R:List Blk) (oc:List Value),OwnOn (List.range n) (fun j=>NumRow w.heap.size 43 F (lenA n k 0 j) (rawM oneM j)) R oc∧Hid (oc.length=n)∧F.Nw w∧∃g:G w [] ((ob,38,oc)::R) [F,heapOf w],wr=g.w) (fun i _=>n-(intOf i).toNat)
 case atStart=>
  obtain⟨g2,e2⟩:=g.none_ex
  exact⟨0,rfl,by omega,fun _=>none,[],_,OS,Lib.hid (by simp),Frag.Nw.none w,g2,e2⟩
 case round =>
  clear g OS
  obtain⟨k,rfl,hk,F,R,oc,hown,hocl,hnw,g,rfl⟩:=hrel
  by_cases hkn:k<n
  ·have hki:(k:Int)<(n:Int):=by omega
   go_wp2_with (with_reducible refine yq _ ?_;(try generalize (G.w _).heap.size=bk);(try dsimp only[yi,yj]);(try clear g);intro g)
   go_loopw [15] (fun i wr=>∃j:Nat,i=.int .i64 (j:Int)∧j≤n∧∃(F:Frag) (R:List Blk) (oc:List Value),OwnOn (List.range n) (fun j'=>NumRow w.heap.size 43 F (lenA n k j j') (rawM oneM j')) R oc∧Hid (oc.length=n)∧F.Nw w∧∃g:G w [] ((ob,38,oc)::R) [F,heapOf w],wr=g.w) (fun i _=>n-(intOf i).toNat)
   case atStart=>exact⟨0,rfl,by omega,F,R,oc,hown,hocl,hnw,g,rfl⟩
   case round=>
    clear g hown hocl hnw F R oc
    obtain⟨j,rfl,hj,F,R,oc,hown,hocl,hnw,g,rfl⟩:=hrel
    by_cases hjn:j<n
    ·have hji:(j:Int)<(n:Int):=by omega
     obtain⟨v,s,R',hv,⟨A1,c1,l,rfl,hvr,hl⟩,hp,hbut⟩:=hown.openAt hkn
     rw[lenA_at] at hvr hl hv
     obtain⟨g1,e1⟩:=g.perm (M':=(ob,38,oc)::(s++R')) (hp.cons _)
     rw[e1]
     clear e1 g hown hp
     revert g1
     intro g
     have HL:=Lib.hid hl
     have HB:=Lib.hid hbut
     have hw1:j+1≤maxLen:=by show j+1≤9223372036854775807;omega
     have hw2:(j+1)*56≤140737488355328:=by omega
     clear hl hbut
     obtain⟨z,hz⟩:∃z,oneM k j=z:=⟨_,rfl⟩
     have fin:∀(b2 cap:Nat) (cs:List Value) (F1:Frag) (p q r:Value) (g':G w [] ((ob,38,oc.set k (.slice (some ⟨b2,0,none⟩) (j+1) cap))::(b2,43,cs)::R') [F1,F,heapOf w]),F1.Rt p q r (rawOf z)→F1.Nw w→w.heap.size≤b2→Row 43 3 (j+1) (cells3 l++[p,q,r]) cap cs→∃(F:Frag) (R:List Blk) (oc:List Value),OwnOn (List.range n) (fun j'=>NumRow w.heap.size 43 F (lenA n k (j+1) j') (rawM oneM j')) R oc∧Hid (oc.length=n)∧F.Nw w∧∃g2:G w [] ((ob,38,oc)::R) [F,heapOf w],g'.w=g2.w:=by
      intro b2 cap cs F1 p q r g' h1 hn1 hb2 hrow
      obtain⟨F',g3,e3,hle,hle2,hnew⟩:=g'.merge
      refine⟨F',(b2,43,cs)::R',_,HB.out.closeAt (s:=[(b2,43,cs)]) hkn (List.getElem?_set_self (by have:=hocl.out;omega)) ?_ (fun j' h _=>List.getElem?_set_ne (Ne.symm h)) (fun j' h _ v s hq=>by rw[lenA_ne n h (k':=j)];exact hq.mono hle),Lib.hid (by simp[hocl.out]),fun k' o hk'=>(hnew k' o hk').elim (hnw k' o) (hn1 k' o),g3,e3⟩
      rw[lenA_at]
      exact NumRow.snoc HL.out hle hrow hb2 (by unfold rawM;rw[hz];exact h1.mono hle2)
     by_cases hkj:k=j
     case' pos=>
      have hkjb:((k:Int)==(j:Int))=true:=by simp[hkj]
      have hz1:z=1:=by rw[←hz];unfold oneM;rw[if_pos hkj]
      have CW:=C1
     case' neg=>
      have hkjb:((k:Int)==(j:Int))=false:=by simp;omega
      have hz1:z=0:=by rw[←hz];unfold oneM;rw[if_neg hkj]
      have CW:=C0
     all_goals (as_aux_lemma=>
      subst hz1
      clear hz hkj
      go_upto_region 11 with(with_reducible refine yq _ ?_;(try generalize (G.w _).heap.size=bk);(try dsimp only[yi,yj]);(try clear g);intro g)
      clear C0 C1
      ((try simp only[G.drew_eq,G.drewN_eq]);(refine yq _ ?_;(try generalize (G.w _).heap.size=bk);(try dsimp only[yi,yj]);(try clear g);intro g))
      go_region_law (first
       |(refine step_append_v rfl _ _ 38 rfl 43 i0 _ 3 56 Tryz.underlying38 hi hz0 hz1 hz2 rfl (by decide) 2 _ (Rr:=s) (R':=R') (by rfl) hvr (by rfl) (by exact List.mem_cons_self ..) 1 (by rfl) rfl (three _ _ _ ⟨rfl,rfl,rfl⟩) (by decide) hw1 hw2 ?_;clear hvr;(try clear g);intro b2 cap cs g hb2 hrow2;revert g;dsimp only[List.take,List.cons_append,List.nil_append];intro g)
       |(go_simp;go_at_call 64;(with_reducible refine(CW.out _ ?_).mono ?_);(· exact G.tab _ HT.out);rintro e w1 ⟨pa,qa,ra,Fa,rfl,ha,hn⟩;have hnna:=fun k o hk=>Nat.le_trans (G.chg _).size (hn.new k o hk);obtain⟨sa,Aa,na,ca,Ba,da,ka,rfl,rfl,rfl⟩:=ha.shape;obtain⟨g1,rfl⟩:=G.new_ex _ hn;clear hn;(try clear g);revert g1;intro g))
      all_goals (as_aux_lemma=>
       ((try simp only[G.drew_eq,G.drewN_eq]);(refine yq _ ?_;(try generalize (G.w _).heap.size=bk);(try dsimp only[yi,yj]);(try clear g);intro g))
       go_wp2_with (with_reducible refine yq _ ?_;(try generalize (G.w _).heap.size=bk);(try dsimp only[yi,yj]);(try clear g);intro g)
       obtain⟨g2,hg2⟩:∃g2:G w [] ((ob,38,oc.set k (.slice (some ⟨b2,0,none⟩) (j+1) cap))::(b2,43,cs)::R') [Fa,F,heapOf w],g.w=g2.w:=g.forget 1
       rw[hg2]
       obtain⟨F',R2,oc2,k1,k2,k3,g3,e3⟩:=fin b2 cap cs Fa _ _ _ g2 ha hnna hb2 hrow2
       rw[e3]
       go_roundw
       case rel=>exact⟨j+1,by go_num,by omega,F',R2,oc2,k1,k2,k3,g3,rfl⟩
       case measure=>simp[intOf];omega))
    ·obtain rfl:j=n:=by omega
     go_wp2_with (with_reducible refine yq _ ?_;(try generalize (G.w _).heap.size=bk);(try dsimp only[yi,yj]);(try clear g);intro g)
     go_roundw
     case rel=>exact⟨k+1,by go_num,by omega,F,R,oc,hown.next (fun _ _=>rfl) (fun j hj v s hq=>by rw[←lenA_full];exact hq),hocl,hnw,g,rfl⟩
     case measure=>simp[intOf];omega
  ·obtain rfl:k=n:=by omega
   go_wp2_with (with_reducible refine yq _ ?_;(try generalize (G.w _).heap.size=bk);(try dsimp only[yi,yj]);(try clear g);intro g)
   go_ret
   obtain⟨g1,e1⟩:=g.as (M':=(ob,38,oc)::(R++[])) (by simp)
   obtain⟨F',g',e',hmt,_,hnw'⟩:=g1.freeze hown hnw (by omega) (fun i _=>by unfold lenA;split<;>(try split)<;>omega)
   exact⟨ob,k,F',rfl,hmt.congr (fun i hi=>lenA_end hi) (fun _ _ _ _=>rfl),by rw[e1,e'];exact g'.newF hnw'⟩
set_option maxRecDepth 20000 in
theorem One_r (n:Nat)(hn0:0<n)(hn:n≤24)(w:World)(hT:Tab w):
  Calls Tryz.prog 17 #[.int .i64 (n:Int)] w fun e w'=>∃b c F,e=.returned (.tuple #[.slice (some ⟨b,0,none⟩) n c,.int .i64 0])∧Frag.Mt F (some ⟨b,0,none⟩) c n (fun _=>n) (rawM oneM)∧New w w' F:=by
 refine calls_b fun g=>?_
 have HT:=Lib.hid hT
 have C:=Lib.hid (fun w t=>one_r n hn0 (by omega) w t)
 unfold RMt at C
 have h1:¬ ((n:Int)<1):=by omega
 have h2:¬ ((24:Int)<(n:Int)):=by omega
 clear hT hn0 hn
 go_enter Tryz.func17,Tryz.ntmps17
 go_wp2_with (with_reducible refine yq _ ?_;(try generalize (G.w _).heap.size=bk);(try dsimp only[yi,yj]);(try clear g);intro g)
 refine(C.out _ (G.tab g HT.out)).mono ?_
 rintro e w1 ⟨b,c,F,rfl,hm,hn⟩
 have hnn:=fun k o hk=>Nat.le_trans g.chg.size (hn.new k o hk)
 obtain⟨g1,rfl⟩:=G.new_ex _ hn
 clear hn g
 revert g1
 intro g
 go_wp2_with (with_reducible refine yq _ ?_;(try generalize (G.w _).heap.size=bk);(try dsimp only[yi,yj]);(try clear g);intro g)
 go_ret2
 exact⟨_,_,_,rfl,hm,G.below _,G.sub _ _ (by simp),hnn⟩
set_option maxRecDepth 20000 in
theorem One_bad (n:Int)(hn:n<1∨24<n)(w:World):
  Calls Tryz.prog 17 #[.int .i64 n] w fun e w'=>e=.returned (.tuple #[.slice none 0 0,.int .i64 2])∧Below w.heap.size w w':=by
 refine calls_g fun g=>?_
 by_cases h1:n<1
 ·go_enter Tryz.func17,Tryz.ntmps17
  go_wp2_with (with_reducible refine yq _ ?_;(try generalize (G.w _).heap.size=bk);(try dsimp only[yi,yj]);(try clear g);intro g)
  go_ret2
  exact⟨rfl,G.below _⟩
 ·have h2:24<n:=by omega
  clear hn
  go_enter Tryz.func17,Tryz.ntmps17
  go_wp2_with (with_reducible refine yq _ ?_;(try generalize (G.w _).heap.size=bk);(try dsimp only[yi,yj]);(try clear g);intro g)
  go_ret2
  exact⟨rfl,G.below _⟩
set_option maxRecDepth 20000 in
set_option maxHeartbeats 4000000 in
theorem mmul1_any (cb k n cB b o:Nat)(s1 s2:Bool)(A1 B1 A2 B2:Option Addr)(n1 c1 d1 k1 n2 c2 d2 k2:Nat)(hk:k<n)(w:World)(hc:w.cell? ⟨cb,0,none⟩=some (.slice (some ⟨b,o,none⟩) n cB))(h0:w.cell? ⟨b,o+k*3,none⟩=some (.bool s2))(h1:w.cell? ⟨b,o+k*3+1,none⟩=some (.slice A2 n2 c2))(h2:w.cell? ⟨b,o+k*3+2,none⟩=some (.slice B2 d2 k2)):
  Calls Tryz.prog 57 #[.int .i64 (k:Int),.agg #[.bool s1,.slice A1 n1 c1,.slice B1 d1 k1],.pointer (some ⟨cb,0,none⟩)] w fun e w'=>e=.returned (.tuple #[.agg #[.bool s1,.slice A1 n1 c1,.slice B1 d1 k1],.agg #[.bool s2,.slice A2 n2 c2,.slice B2 d2 k2]])∧Below w.heap.size w w':=by
 refine calls_b fun g=>?_
 have hki:(k:Int)<(n:Int):=by omega
 have Ec:=fun(M:List Blk) (g:G w [] M [heapOf w])=>G.old g (List.mem_cons_self ..) hc
 have E0:=fun(M:List Blk) (g:G w [] M [heapOf w])=>G.old g (List.mem_cons_self ..) h0
 have E1:=fun(M:List Blk) (g:G w [] M [heapOf w])=>G.old g (List.mem_cons_self ..) h1
 have E2:=fun(M:List Blk) (g:G w [] M [heapOf w])=>G.old g (List.mem_cons_self ..) h2
 clear hc h0 h1 h2 hk
 go_enter Tryz.func57,Tryz.ntmps57
 go_upto_region 1 with(with_reducible refine yq _ ?_;(try generalize (G.w _).heap.size=bk);(try dsimp only[yi,yj]);(try clear g);intro g)
 ((try simp only[G.drew_eq,G.drewN_eq]);(refine yq _ ?_;(try generalize (G.w _).heap.size=bk);(try dsimp only[yi,yj]);(try clear g);intro g))
 go_region_held3 (fun w'=>(G.heldN g [false,false,true]) w'∧w'.cell? ⟨cb,0,none⟩=some (.slice (some ⟨b,o,none⟩) n cB)∧w'.cell? ⟨b,o+k*3,none⟩=some (.bool s2)∧w'.cell? ⟨b,o+k*3+1,none⟩=some (.slice A2 n2 c2)∧w'.cell? ⟨b,o+k*3+2,none⟩=some (.slice B2 d2 k2)) ((simp[G.heldN,HeldN,go_sem, *];done)) (fail)
 all_goals (as_aux_lemma=>
  (try clear hHeld)
  clear Ec E0 E1 E2
  ((try simp only[G.drew_eq,G.drewN_eq]);(refine yq _ ?_;(try generalize (G.w _).heap.size=bk);(try dsimp only[yi,yj]);(try clear g);intro g))
  go_wp2_with (with_reducible refine yq _ ?_;(try generalize (G.w _).heap.size=bk);(try dsimp only[yi,yj]);(try clear g);intro g)
  refine bodyPost_ret (v:=.tuple #[.agg #[.bool s1,.slice A1 n1 c1,.slice B1 d1 k1],.agg #[.bool s2,.slice A2 n2 c2,.slice B2 d2 k2]]) (by simp[results,Tryz.results57,go_sem]) rfl ?_
  exact⟨rfl,G.below _⟩)
set_option maxRecDepth 20000 in
theorem ring_any (sb:Nat)(w:World):
  Calls Tryz.prog 56 #[.pointer (some ⟨sb,0,none⟩)] w fun e w'=>e=.returned (.agg #[.func (.func 59) #[.pointer (some ⟨sb,0,none⟩)] #[],.func (.func 99) #[.pointer (some ⟨sb,0,none⟩)] #[]])∧Below w.heap.size w w':=by
 refine calls_g fun g=>?_
 go_enter Tryz.func56,Tryz.ntmps56
 go_wp2_with (with_reducible refine yq _ ?_;(try generalize (G.w _).heap.size=bk);(try dsimp only[yi,yj]);(try clear g);intro g)
 refine bodyPost_ret (v:=.agg #[.func (.func 59) #[.pointer (some ⟨sb,0,none⟩)] #[],.func (.func 99) #[.pointer (some ⟨sb,0,none⟩)] #[]]) (by simp[results,Tryz.results56,go_sem]) rfl ?_
 exact⟨rfl,G.below _⟩
def rawR (x:Nat→Rat):Nat→Raw:=fun j=>rawOf (x j)
theorem bd_zero:Bd 8192 0:=⟨by decide+kernel,by decide+kernel⟩
set_option maxRecDepth 20000 in
set_option maxHeartbeats 8000000 in
theorem fold_mul (n:Nat)(x y:Nat→Rat)(A B:Option Addr)(c cB cb sb:Nat)(w:World)(hx:RwW w A c n (rawR x))(hy:RwW w B cB n (rawR y))(hc:w.cell? ⟨cb,0,none⟩=some (.slice B n cB))(hs:SumW w sb)(hT:Tab w)
  (hbx:∀j,j<n→Bd 8192 (x j)) (hby:∀j,j<n→Bd 8192 (y j)) (hbp:∀j,j<n→Bd 8192 (x j*y j)) (hbs:∀k,k≤n→Bd 8192 (sumN k (fun j=>x j*y j))):
  Calls Tryz.prog 55 #[.slice A n c,.agg #[.func (.func 59) #[.pointer (some ⟨sb,0,none⟩)] #[],.func (.func 99) #[.pointer (some ⟨sb,0,none⟩)] #[]],.func (.func 57) #[] #[.pointer (some ⟨cb,0,none⟩)]] w (RT1 (rawOf (sumN n (fun j=>x j*y j))) w):=by
 refine calls_b fun g=>?_
 have HX:=Lib.hid hx
 have HY:=Lib.hid hy
 have HC:=Lib.hid hc
 have HS:=Lib.hid hs
 have HT:=Lib.hid hT
 have C0:=Lib.hid (fun w t=>whole_r 0 0 bd_zero rfl (by decide) (by decide) w t)
 have CTI:=Lib.hid (fun j (hj:j<n) p q r p' q' r' w a b s t=>stimes_r (x j) (y j) (x j*y j) (hbx j hj) (hby j hj) (hbp j hj) rfl p q r p' q' r' sb w a b s t)
 have CPL:=Lib.hid (fun k (hk:k<n) p q r p' q' r' w a b s t=>splus_r (sumN k (fun j=>x j*y j)) (x k*y k) (sumN (k+1) (fun j=>x j*y j)) (hbs k (by omega)) (hbp k hk) (hbs (k+1) (by omega)) rfl p q r p' q' r' sb w a b s t)
 have HN:=hx.len
 unfold RT1 at C0 CTI CPL ⊢
 obtain⟨f,hf⟩:∃f:Nat→Rat,(fun j=>x j*y j)=f:=⟨_,rfl⟩
 rw[hf] at CPL ⊢
 clear hx hy hc hs hT hbx hby hbp hbs hf
 go_enter Tryz.func55,Tryz.ntmps55
 go_wp2_with (with_reducible refine yq _ ?_;(try generalize (G.w _).heap.size=bk);(try dsimp only[yi,yj]);(try clear g);intro g)
 refine(C0.out _ (G.tab g HT.out)).mono ?_
 rintro e w1 ⟨pa,qa,ra,Fa,rfl,ha,hn⟩
 have hnna:=fun k o hk=>Nat.le_trans g.chg.size (hn.new k o hk)
 obtain⟨sa,Aa,na,ca,Ba,da,ka,rfl,rfl,rfl⟩:=ha.shape
 obtain⟨g1,rfl⟩:=G.new_ex _ hn
 clear hn
 (try clear g)
 revert g1
 intro g
 go_wp2_with (with_reducible refine yq _ ?_;(try generalize (G.w _).heap.size=bk);(try dsimp only[yi,yj]);(try clear g);intro g)
 clear C0
 ((try simp only[G.drew_eq,G.drewN_eq]);(refine yq _ ?_;(try generalize (G.w _).heap.size=bk);(try dsimp only[yi,yj]);(try clear g);intro g))
 rename_i b4 b6 b7 K8 h8
 go_loopw [15] (fun i wr=>∃k:Nat,i=.int .i64 (k:Int)∧k≤n∧∃(F:Frag) (s:Bool) (P:Option Addr) (a b:Nat) (Q:Option Addr) (d e:Nat),Hid (F.Rt (.bool s) (.slice P a b) (.slice Q d e) (rawOf (sumN k f)))∧F.Nw w∧∃g:G w [] [(b7,43,[.bool s,.slice P a b,.slice Q d e]),(b6,43,[Value.bool false,Value.slice none 0 0,Value.slice none 0 0]),(b4,82,[Value.func (Fn.func 59) #[Value.pointer (some {block:=sb,off:=0})] #[],Value.func (Fn.func 99) #[Value.pointer (some {block:=sb,off:=0})] #[]])] [F,heapOf w],wr=g.w) (fun i _=>n-(intOf i).toNat)
 case atStart=>exact⟨0,rfl,by omega,Fa,_,_,_,_,_,_,_,Lib.hid ha,hnna,g,rfl⟩
 case round=>
  clear g ha hnna
  obtain⟨k,rfl,hk,F,s,P,a,b,Q,d,e,HF,hnw,g,rfl⟩:=hrel
  by_cases hkn:k<n
  ·have hki:(k:Int)<(n:Int):=by omega
   obtain⟨bx,ox,rfl,hnx⟩:=HX.out.num (by omega)
   obtain⟨by',oy,rfl,hny⟩:=HY.out.num (by omega)
   obtain⟨p1,q1,r1,h1,hr1⟩:=hnx k hkn
   obtain⟨p2,q2,r2,h2,hr2⟩:=hny k hkn
   obtain⟨s1,P1,n1,d1,Q1,m1,e1,rfl,rfl,rfl⟩:=hr1.shape
   obtain⟨s2,P2,n2,d2,Q2,m2,e2,rfl,rfl,rfl⟩:=hr2.shape
   have E0:∀(M:List Blk) (F:Frag) (g:G w [] M [F,heapOf w]),g.w.cell? ⟨bx,ox+k*3,none⟩=some (.bool s1):=fun M F g=>(h1 _ _ _ _ g (InF.tail (InF.head _ _))).1
   have E1:∀(M:List Blk) (F:Frag) (g:G w [] M [F,heapOf w]),g.w.cell? ⟨bx,ox+k*3+1,none⟩=some (.slice P1 n1 d1):=fun M F g=>(h1 _ _ _ _ g (InF.tail (InF.head _ _))).2.1
   have E2:∀(M:List Blk) (F:Frag) (g:G w [] M [F,heapOf w]),g.w.cell? ⟨bx,ox+k*3+2,none⟩=some (.slice Q1 m1 e1):=fun M F g=>(h1 _ _ _ _ g (InF.tail (InF.head _ _))).2.2
   have HR1:=Lib.hid hr1
   have HR2:=Lib.hid hr2
   have h20:=(h2 _ _ _ _ (G.begin w) (InF.head _ _)).1
   have h21:=(h2 _ _ _ _ (G.begin w) (InF.head _ _)).2.1
   have h22:=(h2 _ _ _ _ (G.begin w) (InF.head _ _)).2.2
   have CM1:Hid (∀(w':World),w'.cell? ⟨cb,0,none⟩=some (.slice (some ⟨by',oy,none⟩) n cB)→w'.cell? ⟨by',oy+k*3,none⟩=some (.bool s2)→w'.cell? ⟨by',oy+k*3+1,none⟩=some (.slice P2 n2 d2)→w'.cell? ⟨by',oy+k*3+2,none⟩=some (.slice Q2 m2 e2)→Calls Tryz.prog 57 #[.int .i64 (k:Int),.agg #[.bool s1,.slice P1 n1 d1,.slice Q1 m1 e1],.pointer (some ⟨cb,0,none⟩)] w' fun e w''=>e=.returned (.tuple #[.agg #[.bool s1,.slice P1 n1 d1,.slice Q1 m1 e1],.agg #[.bool s2,.slice P2 n2 d2,.slice Q2 m2 e2]])∧Below w'.heap.size w' w''):=Lib.hid (fun w' a b c d=>mmul1_any cb k n cB by' oy s1 s2 P1 Q1 P2 Q2 n1 d1 m1 e1 n2 d2 m2 e2 hkn w' a b c d)
   have H20:=Lib.hid h20
   have H21:=Lib.hid h21
   have H22:=Lib.hid h22
   clear h1 h2 hr1 hr2 hnx hny h20 h21 h22
   go_upto_region 5 with(with_reducible refine yq _ ?_;(try generalize (G.w _).heap.size=bk);(try dsimp only[yi,yj]);(try clear g);intro g)
   ((try simp only[G.drew_eq,G.drewN_eq]);(refine yq _ ?_;(try generalize (G.w _).heap.size=bk);(try dsimp only[yi,yj]);(try clear g);intro g))
   clear E0 E1 E2
   go_wp2_with (with_reducible refine yq _ ?_;(try generalize (G.w _).heap.size=bk);(try dsimp only[yi,yj]);(try clear g);intro g)
   (try(refine cmark _ ?_;(try dsimp only[yi,yj]);(try clear g);intro g))
   refine(CM1.out _ (G.old g (by simp) HC.out) (G.old g (by simp) H20.out) (G.old g (by simp) H21.out) (G.old g (by simp) H22.out)).mono ?_
   rintro e w1 ⟨rfl,hb⟩
   obtain⟨g1,rfl⟩:=G.call_ex _ hb
   clear hb
   (try clear g)
   revert g1
   intro g
   go_upto_region 6 with(with_reducible refine yq _ ?_;(try generalize (G.w _).heap.size=bk);(try dsimp only[yi,yj]);(try clear g);intro g)
   ((try simp only[G.drew_eq,G.drewN_eq]);(refine yq _ ?_;(try generalize (G.w _).heap.size=bk);(try dsimp only[yi,yj]);(try clear g);intro g))
   refine wp_region_held_drew (S:=G.heldN g [true,true,false,false,false,true]) (by kernel_rfl) (by simp[G.heldN,HeldN,go_sem]) (fun hHeld=>?_)
   refine tk0 [0,1,3,4,5,6] ?_
   repeat (refine tkc rfl (by kernel_rfl) (fun _ _ _ h=>h) (by rfl) ‹_› (by intro w hSw;(try dsimp only at hSw);go_simp;(try with_reducible rfl)) ?_;try simp only[Act.put,yk,yl,yn,yo,yi,yj])
   refine tkn ?_
   refine wpAnyH_ready (rs:=[2,7]) (by kernel_rfl) (by simp) ?_
   refine AllReadyH.cons rfl (fun K hK=>?_) (AllReadyH.cons rfl (fun K hK=>?_) AllReadyH.nil)
   ·(try simp only[Act.put,yk,yl,yn,yo,yi,yj])
    go_simp
    refine hK.out _ _ (by simp[G.heldN,HeldN,go_sem]) (fun hHeld=>?_)
    clear hK K
    (try simp only[Act.put,yk,yl,yn,yo,yi,yj])
    refine wpAnyH_ready (rs:=[7]) (by kernel_rfl) (by simp) ?_
    refine AllReadyH.cons rfl (fun K hK=>?_) AllReadyH.nil
    ·(try simp only[Act.put,yk,yl,yn,yo,yi,yj])
     go_simp
     go_at_call 99
     (try(refine cmark _ ?_;(try dsimp only[yi,yj]);(try clear g);intro g))
     refine(CTI.out k hkn _ _ _ _ _ _ _ (G.rtI g (by simp) HR1.out) (G.rtI g (by simp) HR2.out) (G.sum g HS.out) (G.tab g HT.out)).mono ?_
     rintro e w1 ⟨pa,qa,ra,Fa,rfl,ha,hn⟩
     have hnna:=fun k o hk=>Nat.le_trans g.chg.size (hn.new k o hk)
     obtain⟨sa,Aa,na,ca,Ba,da,ka,rfl,rfl,rfl⟩:=ha.shape
     obtain⟨g1,rfl⟩:=G.new_ex _ hn
     clear hn
     (try clear g)
     revert g1
     intro g
     clear CTI
     refine hK.out _ _ (by simp[G.heldN,HeldN,go_sem]) (fun hHeld=>?_)
     clear hK K
     (try simp only[Act.put,yk,yl,yn,yo,yi,yj])
     refine wpAnyH_ready (rs:=[8]) (by kernel_rfl) (by simp) ?_
     refine AllReadyH.cons rfl (fun K hK=>?_) AllReadyH.nil
     ·(try simp only[Act.put,yk,yl,yn,yo,yi,yj])
      go_simp
      go_at_call 59
      (try(refine cmark _ ?_;(try dsimp only[yi,yj]);(try clear g);intro g))
      refine(CPL.out k hkn _ _ _ _ _ _ _ (G.rtI g (by simp) HF.out) (G.rtI g (by simp) ha) (G.sum g HS.out) (G.tab g HT.out)).mono ?_
      rintro e w1 ⟨pz,qz,rz,Fz,rfl,hz,hn⟩
      have hnnz:=fun k o hk=>Nat.le_trans g.chg.size (hn.new k o hk)
      obtain⟨sz,Az,nz,cz,Bz,dz,kz,rfl,rfl,rfl⟩:=hz.shape
      obtain⟨g1,rfl⟩:=G.new_ex _ hn
      clear hn
      (try clear g)
      revert g1
      intro g
      clear CPL
      refine hK.out _ _ (by simp[G.heldN,HeldN,go_sem]) (fun hHeld=>?_)
      clear hK K
      (try simp only[Act.put,yk,yl,yn,yo,yi,yj])
      refine wpAnyH_ready (rs:=[9]) (by kernel_rfl) (by simp) ?_
      refine AllReadyH.cons rfl (fun K hK=>?_) AllReadyH.nil
      ·(try simp only[Act.put,yk,yl,yn,yo,yi,yj])
       go_simp
       refine hK.out _ _ (by simp[G.heldN,HeldN,go_sem]) (fun hHeld=>?_)
       clear hK K
       (try simp only[Act.put,yk,yl,yn,yo,yi,yj])
       refine wpAnyH_done (by kernel_rfl) ?_ _
       (as_aux_lemma=>
        (try clear hHeld)
        ((try simp only[G.drew_eq,G.drewN_eq]);(refine yq _ ?_;(try generalize (G.w _).heap.size=bk);(try dsimp only[yi,yj]);(try clear g);intro g))
        go_wp2_with (with_reducible refine yq _ ?_;(try generalize (G.w _).heap.size=bk);(try dsimp only[yi,yj]);(try clear g);intro g)
        obtain⟨g2,hg2⟩:∃g2:G w [] [(b7,43,[.bool sz,.slice Az nz cz,.slice Bz dz kz]),(b6,43,[Value.bool false,Value.slice none 0 0,Value.slice none 0 0]),(b4,82,[Value.func (Fn.func 59) #[Value.pointer (some {block:=sb,off:=0})] #[],Value.func (Fn.func 99) #[Value.pointer (some {block:=sb,off:=0})] #[]])] [Fz,Fa,F,heapOf w],g.w=g2.w:=g.forget 3
        obtain⟨g3,e3⟩:=g2.lessI (I':=[Fz,heapOf w]) (by simp)
        rw[hg2,e3]
        go_roundw
        case rel=>exact⟨k+1,by go_num,by omega,Fz,_,_,_,_,_,_,_,Lib.hid hz,hnnz,g3,rfl⟩
        case measure=>simp[intOf];omega)
   ·(try simp only[Act.put,yk,yl,yn,yo,yi,yj])
    go_simp
    go_at_call 99
    (try(refine cmark _ ?_;(try dsimp only[yi,yj]);(try clear g);intro g))
    refine(CTI.out k hkn _ _ _ _ _ _ _ (G.rtI g (by simp) HR1.out) (G.rtI g (by simp) HR2.out) (G.sum g HS.out) (G.tab g HT.out)).mono ?_
    rintro e w1 ⟨pa,qa,ra,Fa,rfl,ha,hn⟩
    have hnna:=fun k o hk=>Nat.le_trans g.chg.size (hn.new k o hk)
    obtain⟨sa,Aa,na,ca,Ba,da,ka,rfl,rfl,rfl⟩:=ha.shape
    obtain⟨g1,rfl⟩:=G.new_ex _ hn
    clear hn
    (try clear g)
    revert g1
    intro g
    clear CTI
    refine hK.out _ _ (by simp[G.heldN,HeldN,go_sem]) (fun hHeld=>?_)
    clear hK K
    (try simp only[Act.put,yk,yl,yn,yo,yi,yj])
    refine wpAnyH_ready (rs:=[2]) (by kernel_rfl) (by simp) ?_
    refine AllReadyH.cons rfl (fun K hK=>?_) AllReadyH.nil
    ·(try simp only[Act.put,yk,yl,yn,yo,yi,yj])
     go_simp
     refine hK.out _ _ (by simp[G.heldN,HeldN,go_sem]) (fun hHeld=>?_)
     clear hK K
     (try simp only[Act.put,yk,yl,yn,yo,yi,yj])
     refine wpAnyH_ready (rs:=[8]) (by kernel_rfl) (by simp) ?_
     refine AllReadyH.cons rfl (fun K hK=>?_) AllReadyH.nil
     ·(try simp only[Act.put,yk,yl,yn,yo,yi,yj])
      go_simp
      go_at_call 59
      (try(refine cmark _ ?_;(try dsimp only[yi,yj]);(try clear g);intro g))
      refine(CPL.out k hkn _ _ _ _ _ _ _ (G.rtI g (by simp) HF.out) (G.rtI g (by simp) ha) (G.sum g HS.out) (G.tab g HT.out)).mono ?_
      rintro e w1 ⟨pz,qz,rz,Fz,rfl,hz,hn⟩
      have hnnz:=fun k o hk=>Nat.le_trans g.chg.size (hn.new k o hk)
      obtain⟨sz,Az,nz,cz,Bz,dz,kz,rfl,rfl,rfl⟩:=hz.shape
      obtain⟨g1,rfl⟩:=G.new_ex _ hn
      clear hn
      (try clear g)
      revert g1
      intro g
      clear CPL
      refine hK.out _ _ (by simp[G.heldN,HeldN,go_sem]) (fun hHeld=>?_)
      clear hK K
      (try simp only[Act.put,yk,yl,yn,yo,yi,yj])
      refine wpAnyH_ready (rs:=[9]) (by kernel_rfl) (by simp) ?_
      refine AllReadyH.cons rfl (fun K hK=>?_) AllReadyH.nil
      ·(try simp only[Act.put,yk,yl,yn,yo,yi,yj])
       go_simp
       refine hK.out _ _ (by simp[G.heldN,HeldN,go_sem]) (fun hHeld=>?_)
       clear hK K
       (try simp only[Act.put,yk,yl,yn,yo,yi,yj])
       refine wpAnyH_done (by kernel_rfl) ?_ _
       (as_aux_lemma=>
        (try clear hHeld)
        ((try simp only[G.drew_eq,G.drewN_eq]);(refine yq _ ?_;(try generalize (G.w _).heap.size=bk);(try dsimp only[yi,yj]);(try clear g);intro g))
        go_wp2_with (with_reducible refine yq _ ?_;(try generalize (G.w _).heap.size=bk);(try dsimp only[yi,yj]);(try clear g);intro g)
        obtain⟨g2,hg2⟩:∃g2:G w [] [(b7,43,[.bool sz,.slice Az nz cz,.slice Bz dz kz]),(b6,43,[Value.bool false,Value.slice none 0 0,Value.slice none 0 0]),(b4,82,[Value.func (Fn.func 59) #[Value.pointer (some {block:=sb,off:=0})] #[],Value.func (Fn.func 99) #[Value.pointer (some {block:=sb,off:=0})] #[]])] [Fz,Fa,F,heapOf w],g.w=g2.w:=g.forget 3
        obtain⟨g3,e3⟩:=g2.lessI (I':=[Fz,heapOf w]) (by simp)
        rw[hg2,e3]
        go_roundw
        case rel=>exact⟨k+1,by go_num,by omega,Fz,_,_,_,_,_,_,_,Lib.hid hz,hnnz,g3,rfl⟩
        case measure=>simp[intOf];omega)
  ·obtain rfl:k=n:=by omega
   go_wp2_with (with_reducible refine yq _ ?_;(try generalize (G.w _).heap.size=bk);(try dsimp only[yi,yj]);(try clear g);intro g)
   refine bodyPost_ret (v:=.agg #[.bool s,.slice P a b,.slice Q d e]) (by simp[results,Tryz.results55,go_sem]) rfl ?_
   exact⟨_,_,_,_,rfl,HF.out,G.below _,G.sub _ _ (by simp),hnw⟩
theorem numE_ok {z:Rat}(h:Bd 8192 z):numE (rawOf z)=0:=by
 unfold numE rawOf
 exact rchk_val0 h
theorem matE_ok {n m:Nat}{x:Mx}(h1:1≤n)(h2:n≤24)(h3:1≤m)(h4:m≤24)(h:∀i,i<n→∀j,j<m→Bd 8192 (x i j)):matE n (fun _=>m) (rawM x)=0:=by
 have hs:shpE n ((fun _=>m:Nat→Nat) 0)=0:=by unfold shpE;exact if_neg (by show ¬ (n<1∨24<n∨m<1∨24<m);omega)
 unfold matE
 rw[if_pos hs]
 refine rowsE_ok fun i hi=>?_
 unfold rowE
 rw[if_pos rfl]
 exact listE_ok fun j hj=>numE_ok (h i hi j hj)
theorem G.sumM {w0:World}{X:List Nat}{M:List Blk}{I:List Frag}(g:G w0 X M I){sb:Nat}(h:(sb,78,[Value.int .i64 0])∈M):SumW g.w sb:=g.own _ h
set_option maxRecDepth 20000 in
theorem mresult_any (sb:Nat)(A:Option Addr)(n c:Nat)(w:World)(h:SumW w sb):
  Calls Tryz.prog 58 #[.pointer (some ⟨sb,0,none⟩),.slice A n c] w fun e w'=>e=.returned (.tuple #[.slice A n c,.int .i64 0])∧Below w.heap.size w w':=by
 refine calls_b fun g=>?_
 have h0:w.cell? ⟨sb,0,none⟩=some (.int .i64 0):=by
  have:=h
  unfold SumW at this
  simp[World.cell?,this]
 have E0:=fun(M:List Blk) (g:G w [] M [heapOf w])=>G.old g (List.mem_cons_self ..) h0
 clear h h0
 go_enter Tryz.func58,Tryz.ntmps58
 go_wp2_with (with_reducible refine yq _ ?_;(try generalize (G.w _).heap.size=bk);(try dsimp only[yi,yj]);(try clear g);intro g)
 go_ret2
 exact⟨rfl,G.below _⟩
/-- A matrix in new memory, and no error. -/
def RMtE (n:Nat)(m:Nat→Nat)(x:Nat→Nat→Raw)(w:World)(e:Ending)(w':World):Prop:=∃b c F,e=.returned (.tuple #[.slice (some ⟨b,0,none⟩) n c,.int .i64 0])∧Frag.Mt F (some ⟨b,0,none⟩) c n m x∧New w w' F
set_option maxRecDepth 20000 in
set_option maxHeartbeats 8000000 in
theorem Mul_r (n m k:Nat)(x y:Mx)(A B:Option Addr)(c cB:Nat)(w:World)(hA:(heapOf w).Mt A c n (fun _=>m) (rawM x))(hB:(heapOf w).Mt B cB m (fun _=>k) (rawM y))(hT:Tab w)(n1:1≤n)(n2:n≤24)(m1:1≤m)(m2:m≤24)(k1:1≤k)(k2:k≤24)
  (bx:∀i,i<n→∀j,j<m→Bd 8192 (x i j)) (by':∀i,i<m→∀j,j<k→Bd 8192 (y i j)) (bp:∀i,i<n→∀t,t<m→∀j,j<k→Bd 8192 (x i t*y t j)) (bs:∀i,i<n→∀j,j<k→∀t,t≤m→Bd 8192 (sumN t (fun l=>x i l*y l j))):
  Calls Tryz.prog 13 #[.slice A n c,.slice B m cB] w (RMtE n (fun _=>k) (rawM (mulM m x y)) w):=by
 refine calls_b fun g=>?_
 unfold RMtE
 have HA:=Lib.hid hA
 have HB:=Lib.hid hB
 have HT:=Lib.hid hT
 have CC:=Lib.hid (fun bs w h h' h0 h1 t=>check2_any A B c n cB m bs (fun _=>m) (fun _=>k) (rawM x) (rawM y) w h h' h0 h1 t)
 rw[matE_ok n1 n2 m1 m2 bx,matE_ok m1 m2 k1 k2 by',if_pos rfl] at CC
 have CT:=Lib.hid (fun w h=>turn_r B cB m k (rawM y) (by omega) (by omega) (by omega) (by omega) (fun i hi j hj=>by
  have:=by' i hi j hj
  exact⟨Nat.le_trans (limbs_256.1 this.1) (by decide),Nat.le_trans (limbs_256.1 this.2) (by decide)⟩) w h)
 unfold RMt at CT
 have CF:=Lib.hid (fun i (hi:i<n) j (hj:j<k) A B c cB cb sb w hx hy hc hs t=>fold_mul m (x i) (fun l=>y l j) A B c cB cb sb w hx hy hc hs t (fun l hl=>bx i hi l hl) (fun l hl=>by' l hl j hj) (fun l hl=>bp i hi l hl j hj) (fun t ht=>bs i hi j hj t ht))
 unfold RT1 at CF
 have hmk:=make_rows n (by omega)
 obtain⟨i0,hi,hz0,hz1,hz2⟩:=info_parts infoRat
 obtain⟨b,o,rfl,hrow⟩:=hA.rowAt (by omega)
 have HR:=Lib.hid hrow
 obtain⟨B0,k0,hh0,hrw0⟩:=hrow 0 (by omega)
 have E0:∀(M:List Blk) (g:G w [] M [heapOf w]),g.w.cell? ⟨b,o,none⟩=some (.slice B0 m k0):=fun M g=>hh0 _ _ _ _ g (InF.head _ _)
 have hni:(0:Int)<(n:Int):=by omega
 obtain⟨z,hz⟩:∃z,mulM m x y=z:=⟨_,rfl⟩
 have CF2:Hid (∀i,i<n→∀j,j<k→∀(A B:Option Addr) (c cB cb sb:Nat) (w:World),RwW w A c m (rawR (x i))→RwW w B cB m (rawR (fun l=>y l j))→w.cell? ⟨cb,0,none⟩=some (.slice B m cB)→SumW w sb→Tab w→Calls Tryz.prog 55 #[.slice A m c,.agg #[.func (.func 59) #[.pointer (some ⟨sb,0,none⟩)] #[],.func (.func 99) #[.pointer (some ⟨sb,0,none⟩)] #[]],.func (.func 57) #[] #[.pointer (some ⟨cb,0,none⟩)]] w fun e w'=>∃p q r H,e=.returned (.agg #[p,q,r])∧Frag.Rt H p q r (rawM z i j)∧New w w' H):=Lib.hid (fun i hi j hj A B c cB cb sb w hx hy hc hs t=>by rw[←hz];exact CF.out i hi j hj A B c cB cb sb w hx hy hc hs t)
 rw[hz]
 clear hA hB hT bx by' bp bs hrow hh0 hrw0 hz CF
 go_enter Tryz.func13,Tryz.ntmps13
 go_wp2_with (with_reducible refine yq _ ?_;(try generalize (G.w _).heap.size=bk);(try dsimp only[yi,yj]);(try clear g);intro g)
 (try(refine cmark _ ?_;(try dsimp only[yi,yj]);(try clear g);intro g))
 refine(CC.out _ _ (HA.out.mono (g.sub _ (by simp))) (HB.out.mono (g.sub _ (by simp))) (G.cell0 g 0) (G.cell0 g 1) (G.tab g HT.out)).mono ?_
 rintro e w1 ⟨rfl,hb⟩
 obtain⟨g1,rfl⟩:=G.call_ex _ hb
 clear hb
 (try clear g)
 revert g1
 intro g
 go_wp2_with (with_reducible refine yq _ ?_;(try generalize (G.w _).heap.size=bk);(try dsimp only[yi,yj]);(try clear g);intro g)
 clear CC E0
 rename_i b7 b8 b9
 obtain⟨ob,rfl⟩:∃ob,ob=bk:=⟨_,rfl⟩
 obtain⟨sb,rfl⟩:∃sb,sb=b7:=⟨_,rfl⟩
 have OS:=own_start n (fun j=>NumRow w.heap.size 43 (fun _=>none) (lenA k 0 0 j) (rawM z j)) (fun j _=>by rw[lenA_start];exact NumRow.nil _ _ _ _)
 obtain⟨g2,hg2⟩:∃g2:G w [] [(ob,38,List.replicate n (Value.slice none 0 0)),(sb,78,[Value.int .i64 0])] [heapOf w],g.w=g2.w:=g.less ((List.Sublist.refl _).cons_cons _|>.cons_cons _|>.trans (by simp))
 rw[hg2]
 clear hg2
 clear g
 revert g2
 intro g
 go_loopw [34] (fun i wr=>∃i':Nat,i=.int .i64 (i':Int)∧i'≤n∧∃(F:Frag) (R:List Blk) (oc:List Value),OwnOn (List.range n) (fun j=>NumRow w.heap.size 43 F (lenA k i' 0 j) (rawM z j)) R oc∧Hid (oc.length=n)∧F.Nw w∧∃g:G w [] ((ob,38,oc)::(sb,78,[Value.int .i64 0])::R) [F,heapOf w],wr=g.w) (fun i _=>n-(intOf i).toNat)
 case atStart=>
  obtain⟨g2,e2⟩:=g.none_ex
  exact⟨0,rfl,by omega,fun _=>none,[],_,OS,Lib.hid (by simp),Frag.Nw.none w,g2,e2⟩
 case round=>
  clear g OS
  obtain⟨i,rfl,hi9,F,R,oc,hown,hocl,hnw,g,rfl⟩:=hrel
  by_cases hin:i<n
  ·have hii:(i:Int)<(n:Int):=by omega
   obtain⟨Br,kr,hh,hrw⟩:=HR.out i hin
   have EH:∀(M:List Blk) (F:Frag) (g:G w [] M [F,heapOf w]),g.w.cell? ⟨b,o+i,none⟩=some (.slice Br m kr):=fun M F g=>hh _ _ _ _ g (InF.tail (InF.head _ _))
   have HRW:=Lib.hid hrw
   clear hh hrw
   go_wp2_with (with_reducible refine yq _ ?_;(try generalize (G.w _).heap.size=bk);(try dsimp only[yi,yj]);(try clear g);intro g)
   refine(CT.out _ (HB.out.mono (g.sub _ (by simp)))).mono ?_
   rintro e w1 ⟨bt,ct,Ft,rfl,ht,hn⟩
   obtain⟨g1,rfl⟩:=G.new_ex _ hn
   clear hn
   clear g
   revert g1
   intro g
   clear EH
   obtain⟨g2,hg2⟩:=G.lessI g (I':=[F,Ft,heapOf w]) (by simp)
   rw[hg2]
   clear hg2 g
   revert g2
   intro g
   obtain⟨bt',ot,et,htr⟩:=ht.rowAt (by omega)
   cases et
   have HTR:=Lib.hid htr
   clear htr ht
   have hki:(0:Int)≤(k:Int):=by omega
   go_wp2_with (with_reducible refine yq _ ?_;(try generalize (G.w _).heap.size=bk);(try dsimp only[yi,yj]);(try clear g);intro g)
   go_loopw [42] (fun jj wr=>∃j:Nat,jj=.int .i64 (j:Int)∧j≤k∧∃(F:Frag) (R:List Blk) (oc:List Value),OwnOn (List.range n) (fun j'=>NumRow w.heap.size 43 F (lenA k i j j') (rawM z j')) R oc∧Hid (oc.length=n)∧F.Nw w∧∃g:G w [] ((ob,38,oc)::(sb,78,[Value.int .i64 0])::R) [F,Ft,heapOf w],wr=g.w) (fun i _=>k-(intOf i).toNat)
   case atStart=>exact⟨0,rfl,by omega,F,R,oc,hown,hocl,hnw,g,rfl⟩
   case round=>
    clear g hown hocl hnw F R oc
    obtain⟨j,rfl,hj,F,R,oc,hown,hocl,hnw,g,rfl⟩:=hrel
    by_cases hjk:j<k
    ·have hji:(j:Int)<(k:Int):=by omega
     obtain⟨v,s,R',hv,⟨A1,c1,l,rfl,hvr,hl⟩,hp,hbut⟩:=hown.openAt hin
     rw[lenA_at] at hvr hl hv
     obtain⟨g1,e1⟩:=g.perm (M':=(ob,38,oc)::(sb,78,[Value.int .i64 0])::(s++R')) ((hp.cons _).cons _)
     rw[e1]
     clear e1 g hown hp
     revert g1
     intro g
     obtain⟨Bj,kj,hhj,hrj⟩:=HTR.out j hjk
     have EJ:∀(M:List Blk) (F:Frag) (g:G w [] M [F,Ft,heapOf w]),g.w.cell? ⟨bt,j,none⟩=some (.slice Bj m kj):=fun M F g=>by
      have:=hhj _ _ _ _ g (InF.tail (InF.head _ _))
      rwa[Nat.zero_add] at this
     have HRJ:=Lib.hid hrj
     have HL:=Lib.hid hl
     have HBU:=Lib.hid hbut
     have hw1:j+1≤maxLen:=by show j+1≤9223372036854775807;omega
     have hw2:(j+1)*56≤140737488355328:=by omega
     clear hhj hrj hl hbut
     go_upto_region 14 with(with_reducible refine yq _ ?_;(try generalize (G.w _).heap.size=bk);(try dsimp only[yi,yj]);(try clear g);intro g)
     clear EJ
     ((try simp only[G.drew_eq,G.drewN_eq]);(refine yq _ ?_;(try generalize (G.w _).heap.size=bk);(try dsimp only[yi,yj]);(try clear g);intro g))
     rename_i b12
     obtain⟨cb,rfl⟩:∃cb,cb=b12:=⟨_,rfl⟩
     go_region_law (first
      |(refine step_append_v rfl _ _ 38 rfl 43 i0 _ 3 56 Tryz.underlying38 hi hz0 hz1 hz2 rfl (by decide) 4 _ (Rr:=s) (R':=R') (by rfl) hvr (by rfl) (by exact List.mem_cons_self ..) 1 (by rfl) rfl (three _ _ _ ⟨rfl,rfl,rfl⟩) (by decide) hw1 hw2 ?_;clear hvr;(try clear g);intro b2 cap cs g hb2 hrow2;revert g;dsimp only[List.take,List.cons_append,List.nil_append];intro g)
      |(go_simp;go_at_call 56;(with_reducible refine(ring_any sb _).mono ?_);rintro e w1 ⟨rfl,hb⟩;obtain⟨g1,rfl⟩:=G.call_ex _ hb;clear hb;(try clear g);revert g1;intro g)
      |(go_simp;go_at_call 55;(with_reducible refine(CF2.out i hin j hjk _ Bj _ kj _ _ _ ?_ ?_ ?_ ?_ ?_).mono ?_);(· exact G.rwI _ (by simp) HRW.out);(· exact G.rwI _ (by simp) HRJ.out);(· exact G.cell0 _ 0);(· exact G.sumM _ (by simp));(· exact G.tab _ HT.out);rintro e w1 ⟨pa,qa,ra,Fa,rfl,ha,hn⟩;have hnna:=fun k o hk=>Nat.le_trans (G.chg _).size (hn.new k o hk);obtain⟨sa,Aa,na,ca,Ba,da,ka,rfl,rfl,rfl⟩:=ha.shape;obtain⟨g1,rfl⟩:=G.new_ex _ hn;clear hn;(try clear g);revert g1;intro g))
     all_goals (as_aux_lemma=>
      ((try simp only[G.drew_eq,G.drewN_eq]);(refine yq _ ?_;(try generalize (G.w _).heap.size=bk);(try dsimp only[yi,yj]);(try clear g);intro g))
      go_wp2_with (with_reducible refine yq _ ?_;(try generalize (G.w _).heap.size=bk);(try dsimp only[yi,yj]);(try clear g);intro g)
      obtain⟨g2,hg2⟩:∃g2:G w [] ((ob,38,oc.set i (.slice (some ⟨b2,0,none⟩) (j+1) cap))::(sb,78,[Value.int .i64 0])::(b2,43,cs)::R') [Fa,F,Ft,heapOf w],g.w=g2.w:=g.forget 2
      rw[hg2]
      obtain⟨F',g3,e3,hle,hle2,hnew⟩:=g2.merge
      rw[e3]
      go_roundw
      case rel=>
       refine⟨j+1,by go_num,by omega,F',(b2,43,cs)::R',_,HBU.out.closeAt (s:=[(b2,43,cs)]) hin (List.getElem?_set_self (by have:=hocl.out;omega)) ?_ (fun j' h _=>List.getElem?_set_ne (Ne.symm h)) (fun j' h _ v s hq=>?_),Lib.hid (by simp[hocl.out]),fun k' o hk'=>(hnew k' o hk').elim (hnw k' o) (hnna k' o),g3,rfl⟩
       ·rw[lenA_at]
        exact NumRow.snoc HL.out hle hrow2 hb2 (ha.mono hle2)
       ·rw[lenA_ne k h (k':=j)]
        exact hq.mono hle
      case measure=>simp[intOf];omega)
    ·obtain rfl:j=k:=by omega
     go_wp2_with (with_reducible refine yq _ ?_;(try generalize (G.w _).heap.size=bk);(try dsimp only[yi,yj]);(try clear g);intro g)
     obtain⟨g2,hg2⟩:=G.lessI g (I':=[F,heapOf w]) (by simp)
     rw[hg2]
     go_roundw
     case rel=>exact⟨i+1,by go_num,by omega,F,R,oc,hown.next (fun _ _=>rfl) (fun j hj v s hq=>by rw[←lenA_full];exact hq),hocl,hnw,g2,rfl⟩
     case measure=>simp[intOf];omega
  ·obtain rfl:i=n:=by omega
   go_wp2_with (with_reducible refine yq _ ?_;(try generalize (G.w _).heap.size=bk);(try dsimp only[yi,yj]);(try clear g);intro g)
   refine(mresult_any sb _ _ _ _ (G.sumM g (by simp))).mono ?_
   rintro e w1 ⟨rfl,hb⟩
   obtain⟨g1,rfl⟩:=G.call_ex _ hb
   clear hb
   (try clear g)
   revert g1
   intro g
   go_wp2_with (with_reducible refine yq _ ?_;(try generalize (G.w _).heap.size=bk);(try dsimp only[yi,yj]);(try clear g);intro g)
   go_ret2
   obtain⟨g1,e1⟩:=g.perm (M':=(ob,38,oc)::(R++[(sb,78,[Value.int .i64 0])])) ((List.perm_append_singleton _ _).symm.cons _)
   obtain⟨F',g',e',hmt,_,hnw'⟩:=g1.freeze (m:=lenA k i 0) (x:=rawM z) hown hnw (by omega) (fun i _=>by unfold lenA;split<;>(try split)<;>omega)
   exact⟨ob,i,F',rfl,hmt.congr (fun i hi=>lenA_end hi) (fun _ _ _ _=>rfl),by rw[e1,e'];exact g'.newF hnw'⟩
/-- a fraction of ints -/
theorem lof5_r (a b:Int)(z:Rat)(hb:b≠0)(e:frac (decide (a<0) !=decide (b<0)) a.natAbs b.natAbs=z)(h1: -9223372036854775808≤a)(h2:a<9223372036854775808)(h3: -9223372036854775808≤b)(h4:b<9223372036854775808)(w:World):
  Calls Tryz.prog 45 #[.int .i64 a,.int .i64 b] w (RT1 (rawOf z) w):=by
 refine calls_b fun g=>?_
 have C1:=Lib.hid (fun w=>rOf_any a b h1 h2 h3 h4 w)
 unfold ofY at C1
 rw[if_neg hb,e] at C1
 unfold RPE at C1
 unfold RT1 Frag.Rt rawOf
 dsimp only at C1 ⊢
 clear e hb h1 h2 h3 h4
 generalize rneg z=s at*
 generalize hN:(limbs (rn z)).length=n at*
 generalize hD:(limbs z.den).length=d at*
 clear hN hD
 have fin:∀(X1 X2:Option Addr) (x1 x2:Nat) (P1 P2:Frag) (w':World),P1.Sl X1 x1 (limbs (rn z))→P2.Sl X2 x2 (limbs z.den)→New w w' P1→New w w' P2→∃p q r H,Ending.returned (Value.agg #[.bool s,.slice X1 n x1,.slice X2 d x2])=.returned (.agg #[p,q,r])∧(p=Value.bool s∧(∃A c,q=Value.slice A n c∧H.Sl A c (limbs (rn z)))∧∃B k,r=Value.slice B d k∧H.Sl B k (limbs z.den))∧New w w' H:=by
  intro X1 X2 x1 x2 P1 P2 w' h1 h2 k1 k2
  exact⟨_,_,_,P1.or P2,rfl,⟨rfl,⟨_,_,rfl,h1.mono (Frag.le_orl P1 P2)⟩,_,_,rfl,h2.mono (Frag.le_orr k1.sub k2.sub)⟩,k1.both k2⟩
 go_enter Tryz.func45,Tryz.ntmps45
 go_wp2_with (with_reducible refine yq _ ?_;(try generalize (G.w _).heap.size=bk);(try dsimp only[yi,yj]);(try clear g);intro g)
 refine(C1.out _).mono ?_
 rintro e w1 ⟨Aq,cq,Fq,Bq,dq,Hq,rfl,hsq,htq,hn,hm⟩
 have hnnq:=fun k o hk=>Nat.le_trans g.chg.size (hn.new k o hk)
 have hmmq:=fun k o hk=>Nat.le_trans g.chg.size (hm.new k o hk)
 obtain⟨g1,rfl⟩:=G.new2_ex _ hn hm
 clear hn hm
 (try clear g)
 revert g1
 intro g
 go_wp2_with (with_reducible refine yq _ ?_;(try generalize (G.w _).heap.size=bk);(try dsimp only[yi,yj]);(try clear g);intro g)
 refine bodyPost_ret (v:=.agg #[.bool s,.slice Aq n cq,.slice Bq d dq]) (by simp[results,Tryz.results45,go_sem]) rfl ?_
 exact fin _ _ _ _ _ _ _ hsq htq (G.pass _ (by simp) hnnq) (G.pass _ (by simp) hmmq)
theorem raw_int (a:Int):rawOf (a:Rat)=(decide (a<0),limbs a.natAbs,limbs 1):=by
 unfold rawOf rneg rn
 rw[Rat.num_intCast,Rat.den_intCast]
set_option maxRecDepth 20000 in
theorem rWhole_r (a:Int)(h1: -9223372036854775808≤a)(h2:a<9223372036854775808)(w:World):
  Calls Tryz.prog 85 #[.int .i64 a] w (RT1 (rawOf (a:Rat)) w):=by
 refine calls_b fun g=>?_
 have C1:=Lib.hid (fun w=>from_any a h1 h2 w)
 have C2:=Lib.hid (fun w=>rone_any w)
 unfold RFrom at C1
 unfold RNat at C2
 rw[raw_int]
 unfold RT1 Frag.Rt
 dsimp only
 clear h1 h2
 generalize a.natAbs=n at*
 generalize decide (a<0)=s at*
 generalize hN:(limbs n).length=N at*
 generalize hD:(limbs 1).length=d at*
 have fin:∀(X1 X2:Option Addr) (x1 x2:Nat) (P1 P2:Frag) (w':World),P1.Sl X1 x1 (limbs n)→P2.Sl X2 x2 (limbs 1)→New w w' P1→New w w' P2→∃p q r H,Ending.returned (Value.agg #[.bool s,.slice X1 N x1,.slice X2 d x2])=.returned (.agg #[p,q,r])∧(p=Value.bool s∧(∃A c,q=Value.slice A N c∧H.Sl A c (limbs n))∧∃B k,r=Value.slice B d k∧H.Sl B k (limbs 1))∧New w w' H:=by
  intro X1 X2 x1 x2 P1 P2 w' h1 h2 k1 k2
  exact⟨_,_,_,P1.or P2,rfl,⟨rfl,⟨_,_,rfl,h1.mono (Frag.le_orl P1 P2)⟩,_,_,rfl,h2.mono (Frag.le_orr k1.sub k2.sub)⟩,k1.both k2⟩
 clear hN hD
 go_enter Tryz.func85,Tryz.ntmps85
 go_wp2_with (with_reducible refine yq _ ?_;(try generalize (G.w _).heap.size=bk);(try dsimp only[yi,yj]);(try clear g);intro g)
 refine(C1.out _).mono ?_
 rintro e w1 ⟨X1,x1,P1,rfl,hx1,hn1⟩
 have hnn1:=fun k o hk=>Nat.le_trans (G.chg _).size (hn1.new k o hk)
 obtain⟨g1,rfl⟩:=G.new_ex _ hn1
 clear hn1
 (try clear g)
 revert g1
 intro g
 go_wp2_with (with_reducible refine yq _ ?_;(try generalize (G.w _).heap.size=bk);(try dsimp only[yi,yj]);(try clear g);intro g)
 refine(C2.out _).mono ?_
 rintro e w1 ⟨X2,x2,P2,rfl,hx2,hn2⟩
 have hnn2:=fun k o hk=>Nat.le_trans (G.chg _).size (hn2.new k o hk)
 obtain⟨g1,rfl⟩:=G.new_ex _ hn2
 clear hn2
 (try clear g)
 revert g1
 intro g
 go_wp2_with (with_reducible refine yq _ ?_;(try generalize (G.w _).heap.size=bk);(try dsimp only[yi,yj]);(try clear g);intro g)
 refine bodyPost_ret (v:=.agg #[.bool s,.slice X1 N x1,.slice X2 d x2]) (by simp[results,Tryz.results85,go_sem]) rfl ?_
 exact fin _ _ _ _ _ _ _ hx1 hx2 (G.pass _ (by simp) hnn1) (G.pass _ (by simp) hnn2)
/-- a matrix of integers -/
def intM (v:Nat→Nat→Int):Mx:=fun i j=>(v i j:Rat)
theorem one_cell5 (v:Value)(h:v.oneCell'=true):∀u∈ [v],u.oneCell'=true:=by
 intro u hu
 rw[List.mem_singleton.1 hu]
 exact h
theorem infoRats5:(Tryz.prog.info? 38).map (fun i=>(i.zero,i.size,i.bytes))=some (some (.slice none 0 0),1,24):=by kernel_rfl
set_option maxRecDepth 20000 in
set_option maxHeartbeats 4000000 in
theorem rInts_r (n m:Nat)(v:Nat→Nat→Int)(A:Option Addr)(c:Nat)(w:World)(hA:(heapOf w).Im A c n (fun _=>m) v)(n1:1≤n)(n2:n≤24)(m1:1≤m)(m2:m≤24):
  Calls Tryz.prog 36 #[.slice A n c] w (RMtE n (fun _=>m) (rawM (intM v)) w):=by
 refine calls_b fun g=>?_
 unfold RMtE
 have CW:=Lib.hid (fun a h1 h2 w=>rWhole_r a h1 h2 w)
 unfold RT1 at CW
 obtain⟨i0,hi,hz0,hz1,hz2⟩:=info_parts infoRat
 obtain⟨j0,hj0,hy0,hy1,hy2⟩:=info_parts infoRats5
 obtain⟨b,o,rfl,hrow⟩:=hA.rowAt n1
 have HR:=Lib.hid hrow
 obtain⟨B0,k0,hh0,hrw0⟩:=hrow 0 (by omega)
 have E0:∀(M:List Blk) (I:List Frag) (g:G w [] M I) (hF:InF (heapOf w) I),g.w.cell? ⟨b,o,none⟩=some (.slice B0 m k0):=fun M I g hF=>hh0 _ _ _ _ g hF
 have t1:0<n:=by omega
 have t2:(0:Int)<(n:Int):=by omega
 have hn1i:¬ ((n:Int)<1):=by omega
 have hn2i:¬ ((24:Int)<(n:Int)):=by omega
 have hm1i:¬ ((m:Int)<1):=by omega
 have hm2i:¬ ((24:Int)<(m:Int)):=by omega
 have d1:decide ((n:Int)<1)=false:=decide_eq_false hn1i
 have d2:decide ((24:Int)<(n:Int))=false:=decide_eq_false hn2i
 have d3:decide ((m:Int)<1)=false:=decide_eq_false hm1i
 have d4:decide ((24:Int)<(m:Int))=false:=decide_eq_false hm2i
 clear hA hrow hh0 hrw0
 go_enter Tryz.func36,Tryz.ntmps36
 go_wp2_with (with_reducible refine yq _ ?_;(try generalize (G.w _).heap.size=bk);(try dsimp only[yi,yj]);(try clear g);intro g)
 go_loopw [4,5] (fun mv i wr=>∃i':Nat,i=.int .i64 (i':Int)∧i'≤n∧∃(cc:Nat) (Ac:Option Addr) (xs:List Value) (sc R:List Blk) (F:Frag),mv=.slice Ac i' cc∧RowV w.heap.size 38 1 i' xs Ac cc sc∧OwnOn (List.range i') (fun i=>NumRow w.heap.size 43 F m (rawM (intM v) i)) R xs∧F.Nw w∧∃g:G w [] (sc++R) [F,heapOf w],wr=g.w) (fun _ i _=>n-(intOf i).toNat)
 case atStart=>
  obtain⟨g2,e2⟩:=g.none_ex
  exact⟨0,rfl,by omega,0,none,[],[],[],fun _=>none,rfl,RowV.nil _ _ _,OwnOn.nil _ _,Frag.Nw.none w,g2,e2⟩
 case round =>
  clear g
  obtain⟨i,rfl,hi',cc,Ac,xs,sc,R,F,rfl,hvr,hown,hnw,g,rfl⟩:=hrel
  by_cases hin:i<n
  ·have hii:(i:Int)<(n:Int):=by omega
   obtain⟨Br,kr,hh,hrw⟩:=HR.out i hin
   obtain⟨ba,oa,rfl,hna⟩:=hrw.at m1
   have EH:∀(M:List Blk) (I:List Frag) (g:G w [] M I) (hF:InF (heapOf w) I),g.w.cell? ⟨b,o+i,none⟩=some (.slice (some ⟨ba,oa,none⟩) m kr):=fun M I g hF=>hh _ _ _ _ g hF
   have HNA:=Lib.hid hna
   have HOK:=Lib.hid hrw.ok
   have HO:=Lib.hid hown
   have HV:=Lib.hid hvr
   have HNW:=Lib.hid hnw
   clear hown hvr hnw hh hna hrw
   go_upto_region 7 with(with_reducible refine yq _ ?_;(try generalize (G.w _).heap.size=bk);(try dsimp only[yi,yj]);(try clear g);intro g)
   ((try simp only[G.drew_eq,G.drewN_eq]);(refine yq _ ?_;(try generalize (G.w _).heap.size=bk);(try dsimp only[yi,yj]);(try clear g);intro g))
   go_region_law (go_simp)
   all_goals (as_aux_lemma=>
    ((try simp only[G.drew_eq,G.drewN_eq]);(refine yq _ ?_;(try generalize (G.w _).heap.size=bk);(try dsimp only[yi,yj]);(try clear g);intro g))
    go_wp2_with (with_reducible refine yq _ ?_;(try generalize (G.w _).heap.size=bk);(try dsimp only[yi,yj]);(try clear g);intro g)
    go_loopw [6,7] (fun rv jj wr=>∃j:Nat,jj=.int .i64 (j:Int)∧j≤m∧∃(cr:Nat) (Ar:Option Addr) (s:List Blk) (F':Frag) (l:List Tri),rv=.slice Ar j cr∧RowV w.heap.size 43 3 j (cells3 l) Ar cr s∧F'.Tris l j (rawM (intM v) i)∧F.le F'∧F'.Nw w∧∃g:G w [] (s++(sc++R)) [F',heapOf w],wr=g.w) (fun _ i _=>m-(intOf i).toNat)
    case atStart=>exact⟨0,rfl,by omega,0,none,[],F,[],rfl,RowV.nil _ _ _,Frag.Tris.nil _ _,Frag.le_refl F,HNW.out,g,rfl⟩
    case round=>
     clear g
     obtain⟨j,rfl,hj,cr,Ar,s,F',l,rfl,hvr,hl,hle,hnw',g,rfl⟩:=hrel
     by_cases hjk:j<m
     ·have hji:(j:Int)<(m:Int):=by omega
      have EV:∀(M:List Blk) (I:List Frag) (g:G w [] M I) (hF:InF (heapOf w) I),g.w.cell? ⟨ba,oa+j,none⟩=some (.int .i64 (v i j)):=fun M I g hF=>HNA.out j hjk _ _ _ _ g hF
      have HL:=Lib.hid hl
      have HLE:=Lib.hid hle
      have HNW':=Lib.hid hnw'
      have hw1:j+1≤maxLen:=by show j+1≤9223372036854775807;omega
      have hw2:(j+1)*56≤140737488355328:=by omega
      clear hl hle hnw'
      go_wp2_with (with_reducible refine yq _ ?_;(try generalize (G.w _).heap.size=bk);(try dsimp only[yi,yj]);(try clear g);intro g)
      refine(CW.out _ (HOK.out j hjk).1 (HOK.out j hjk).2 _).mono ?_
      rintro e w1 ⟨pa,qa,ra,Fa,rfl,ha,hn⟩
      have hnna:=fun k o hk=>Nat.le_trans g.chg.size (hn.new k o hk)
      obtain⟨sa,Aa,na,ca,Ba,da,ka,rfl,rfl,rfl⟩:=ha.shape
      obtain⟨g1,rfl⟩:=G.new_ex _ hn
      clear hn
      (try clear g)
      revert g1
      intro g
      go_wp2_with (first|(with_reducible refine yq _ ?_;(try generalize (G.w _).heap.size=bk);(try dsimp only[yi,yj]);(try clear g);intro g)|(at_builtin;refine wpList_append_v rfl _ _ 38 rfl 43 i0 _ 3 56 Tryz.underlying38 hi hz0 hz1 hz2 rfl (by decide) 1 g (Rr:=s) (R':=sc++R) (by rfl) hvr (by rfl) (by exact List.mem_cons_self ..) 1 (by rfl) rfl (three _ _ _ ⟨rfl,rfl,rfl⟩) (by decide) hw1 hw2 ?_;clear hvr;(try clear g);intro b2 cap2 cs2 g hb2 hrow2;revert g;dsimp only[List.take,List.cons_append,List.nil_append];intro g))
      obtain⟨g5,e5⟩:=g.less (List.sublist_cons_self _ _)
      obtain⟨F2,g6,e6,hle1,hle2,hnew⟩:=g5.merge
      rw[e5,e6]
      go_roundw
      case rel=>
       refine⟨j+1,by go_num,by omega,cap2,_,[(b2,_,cs2)],F2,l++[(.bool sa,.slice Aa na ca,.slice Ba da ka)],rfl,RowV.row (by rw[cells3_append];exact hrow2) hb2,?_,Frag.le_trans HLE.out hle1,fun k' o hk'=>(hnew k' o hk').elim (HNW'.out k' o) (hnna k' o),g6,rfl⟩
       exact(HL.out.mono hle1).snoc (ha.mono hle2)
      case measure=>simp[intOf];omega
     ·obtain rfl:j=m:=by omega
      have hN:=NumRow.of hvr hl
      have HN:=Lib.hid hN
      have HLE:=Lib.hid hle
      have HNW':=Lib.hid hnw'
      have hw1:i+1≤maxLen:=by show i+1≤9223372036854775807;omega
      have hw2:(i+1)*24≤140737488355328:=by omega
      have hvc:=HV.out
      obtain⟨g2,e2⟩:=g.perm (M':=sc++(s++R)) (by rw[←List.append_assoc,←List.append_assoc];exact List.Perm.append_right _ List.perm_append_comm)
      rw[e2]
      clear e2 g hN hle hnw' hl hvr
      revert g2
      intro g
      go_wp2_with (first|(with_reducible refine yq _ ?_;(try generalize (G.w _).heap.size=bk);(try dsimp only[yi,yj]);(try clear g);intro g)|(at_builtin;refine wpList_append_v rfl _ _ 29 rfl 38 j0 _ 1 24 Tryz.underlying29 hj0 hy0 hy1 hy2 rfl (by decide) 1 g (Rr:=sc) (R':=s++R) (by rfl) hvc (by rfl) (by exact List.mem_cons_self ..) 1 (by rfl) rfl (one_cell5 _ rfl) (by decide) hw1 hw2 ?_;clear hvc;(try clear g);intro b2 cap2 cs2 g hb2 hrow2;revert g;dsimp only[List.take,List.cons_append,List.nil_append];intro g))
      obtain⟨g5,e5⟩:=g.less (List.sublist_cons_self _ _)
      rw[e5]
      have hxl:xs.length=i:=by
       have:=hrow2.xl
       simp at this
       omega
      go_roundw
      case rel=>
       exact⟨i+1,by go_num,by omega,cap2,_,_,[(b2,_,cs2)],s++R,F',rfl,RowV.row hrow2 hb2,HO.out.more (by rw[←hxl];simp) HN.out (fun j hj=>List.getElem?_append_left (by omega)) (fun j' hj v s h=>h.mono HLE.out),HNW'.out,g5,rfl⟩
      case measure=>simp[intOf];omega)
  ·obtain rfl:i=n:=by omega
   go_wp2_with (with_reducible refine yq _ ?_;(try generalize (G.w _).heap.size=bk);(try dsimp only[yi,yj]);(try clear g);intro g)
   go_ret2
   obtain⟨g1,e1⟩:=g.as (M':=sc++(R++[])) (by simp)
   obtain⟨F5,b',g2,rfl,e2,hm,_,hn5⟩:=g1.freezeV hvr hown (by omega) (by omega) (fun _ _=>by omega)
   exact⟨b',cc,F5,rfl,hm,by rw[e1,e2];exact g2.newF (hn5 hnw)⟩
end Go.Proofs.YthhbbnfnejjpiaaGreatDoor
namespace Go.Proofs.YthhbbnfnejjpiaaGreatDoor
open Go.RowKit GW NL
/-- the part that is the block of a computation without an error -/
def sumF (sb:Nat):Frag:=blkF sb (.cells [Value.int .i64 0].toArray 78 (0,0))
theorem G.sumI {w0:World}{X:List Nat}{M:List Blk}{I:List Frag}(g:G w0 X M I){sb:Nat}(h:InF (sumF sb) I):SumW g.w sb:=g.sub _ h sb _ (by unfold sumF blkF;rw[if_pos rfl])
set_option maxRecDepth 20000 in
theorem plain_at (b k m cap:Nat)(s:Bool)(A B:Option Addr)(n c d e:Nat)(hk:k<m)(w:World)(h0:w.cell? ⟨b,k*3,none⟩=some (.bool s))(h1:w.cell? ⟨b,k*3+1,none⟩=some (.slice A n c))(h2:w.cell? ⟨b,k*3+2,none⟩=some (.slice B d e)):
  Calls Tryz.prog 193 #[.slice (some ⟨b,0,none⟩) m cap,.int .i64 (k:Int)] w fun e' w'=>e'=.returned (.agg #[.bool s,.slice A n c,.slice B d e])∧Below w.heap.size w w':=by
 refine calls_b fun g=>?_
 have E0:=fun(M:List Blk) (g:G w [] M [heapOf w])=>G.old g (List.mem_cons_self ..) h0
 have E1:=fun(M:List Blk) (g:G w [] M [heapOf w])=>G.old g (List.mem_cons_self ..) h1
 have E2:=fun(M:List Blk) (g:G w [] M [heapOf w])=>G.old g (List.mem_cons_self ..) h2
 have hki:(k:Int)<(m:Int):=by omega
 clear h0 h1 h2
 go_enter Tryz.func193,Tryz.ntmps193
 go_wp2_with (with_reducible refine yq _ ?_;(try generalize (G.w _).heap.size=bk);(try dsimp only[yi,yj]);(try clear g);intro g)
 refine bodyPost_ret (v:=.agg #[.bool s,.slice A n c,.slice B d e]) (by simp[results,Tryz.results193,go_sem]) rfl ?_
 exact⟨rfl,G.below _⟩
set_option maxRecDepth 20000 in
set_option maxHeartbeats 4000000 in
theorem plain_divide {w0:World}{M:List Blk}{I:List Frag}{F F0:Frag}(b m cap:Nat)(l:List Tri)(cs:List Value)(v:Nat→Rat)(y:Rat)(pb qb rb:Value)(sb:Nat)(hr:Row 43 3 m (cells3 l) cap cs)(hl:F.Tris l m (fun j=>rawOf (v j)))(hy:F.Rt pb qb rb (rawOf y))(hy0:rn y≠0)(hby:Bd 8192 y)(hbd:∀j,j<m→Bd 8192 (v j)∧Bd 8192 (v j/y))(hm:m≤1000)
  (g:G w0 [] ((b,43,cs)::M) (F::I)) (hS:InF (sumF sb) I) (hnw:F.over F0 w0) (hT:Tab w0):
  Calls Tryz.prog 194 #[.slice (some ⟨b,0,none⟩) m cap,.pointer (some ⟨sb,0,none⟩),.agg #[pb,qb,rb]] g.w fun e w'=>e=.returned (.tuple #[])∧∃(l':List Tri) (cs':List Value) (F':Frag) (g':G w0 [] ((b,43,cs')::M) (F'::I)),w'=g'.w∧Row 43 3 m (cells3 l') cap cs'∧F'.Tris l' m (fun j=>rawOf (v j/y))∧F.le F'∧F'.over F0 w0:=by
 obtain⟨s1,A1,n1,c1,B1,d1,k1,rfl,rfl,rfl⟩:=hy.shape
 have CO:=Lib.hid (fun j hj p q r p' q' r' w h1 h2 hs ht=>sover_r (v j) y (v j/y) (hbd j hj).1 hby (hbd j hj).2 hy0 rfl p q r p' q' r' sb w h1 h2 hs ht)
 have HT:=Lib.hid hT
 have HS:=Lib.hid hS
 have HY:=Lib.hid hy
 have HL:Hid (F.Tris l m (fun j=>if j<0 then rawOf (v j/y) else rawOf (v j))):=Lib.hid (by simpa using hl)
 have HLE:=Lib.hid (Frag.le_refl F)
 clear hbd hby hy0 hT hS hl
 go_enter Tryz.func194,Tryz.ntmps194
 go_wp2_with (with_reducible refine yq _ ?_;(try generalize (G.w _).heap.size=bk);(try dsimp only[yi,yj]);(try clear g);intro g)
 obtain⟨bb,rfl⟩:∃bb,bb=bk:=⟨_,rfl⟩
 go_loopw [10] (fun i wr=>∃k:Nat,i=.int .i64 (k:Int)∧k≤m∧∃(l':List Tri) (cs':List Value) (F':Frag),Row 43 3 m (cells3 l') cap cs'∧Hid (F'.Tris l' m (fun j=>if j<k then rawOf (v j/y) else rawOf (v j)))∧Hid (F.le F')∧F'.over F0 w0∧∃g:G w0 [] ((bb,43,[.bool s1,.slice A1 n1 c1,.slice B1 d1 k1])::(b,43,cs')::M) (F'::I),wr=g.w) (fun i _=>m-(intOf i).toNat)
 case atStart=>exact⟨0,rfl,by omega,l,cs,F,hr,HL,HLE,hnw,g,rfl⟩
 case round=>
  clear g hr HL HLE hnw
  obtain⟨k,rfl,hk,l',cs',F',hr,HL,HLE,hnw,g,rfl⟩:=hrel
  by_cases hkm:k<m
  ·have hki:(k:Int)<(m:Int):=by omega
   obtain⟨p,q,r,hlk,hrt⟩:=HL.out.2 k hkm
   simp only[Nat.lt_irrefl,if_false] at hrt
   obtain⟨s2,A2,n2,c2,B2,d2,k2,rfl,rfl,rfl⟩:=hrt.shape
   obtain⟨e0,e1,e2⟩:=hr.tri hlk
   have HRT:=Lib.hid hrt
   have HRW:=Lib.hid hr
   clear hlk hrt hr
   go_wp2_with (with_reducible refine yq _ ?_;(try generalize (G.w _).heap.size=bk);(try dsimp only[yi,yj]);(try clear g);intro g)
   (try(refine cmark _ ?_;(try dsimp only[yi,yj]);(try clear g);intro g))
   refine(CO.out k hkm _ _ _ _ _ _ _ (G.rtI g (by simp) HRT.out) (G.rtI g (by simp) (HY.out.mono HLE.out)) (G.sumI g (by exact InF.tail HS.out)) (G.tab g HT.out)).mono ?_
   rintro e w1 ⟨pa,qa,ra,Fa,rfl,ha,hn⟩
   have hnna:=fun k o hk=>Nat.le_trans g.chg.size (hn.new k o hk)
   obtain⟨sa,Aa,na,ca,Ba,da,ka,rfl,rfl,rfl⟩:=ha.shape
   obtain⟨g1,rfl⟩:=G.new_ex _ hn
   clear hn
   (try clear g)
   revert g1
   intro g
   go_wp2_with (with_reducible refine yq _ ?_;(try generalize (G.w _).heap.size=bk);(try dsimp only[yi,yj]);(try clear g);intro g)
   obtain⟨g2,hg2⟩:∃g2:G w0 [] ((bb,43,[.bool s1,.slice A1 n1 c1,.slice B1 d1 k1])::(b,43,((cs'.set (k*3) (.bool sa)).set (k*3+1) (.slice Aa na ca)).set (k*3+2) (.slice Ba da ka))::M) (Fa::F'::I),g.w=g2.w:=G.forget g 1
   rw[hg2]
   obtain⟨F2,g3,e3,hle,hle2,hnew⟩:=g2.merge
   rw[e3]
   go_roundw
   case rel=>
    refine⟨k+1,by go_num,by omega,_,_,F2,HRW.out.setTri hkm HL.out.1 _ _ _,Lib.hid ((HL.out.mono hle).set (y:=fun j=>if j<k+1 then rawOf (v j/y) else rawOf (v j)) hkm ?_ (fun i hi hne=>?_)),Lib.hid (Frag.le_trans HLE.out hle),fun k' o hk'=>(hnew k' o hk').elim (hnw k' o) (fun h=> .inr (hnna k' o h)),g3,rfl⟩
    ·rw[if_pos (Nat.lt_succ_self k)]
     exact ha.mono hle2
    ·have e:(i<k+1)↔(i<k):=by omega
     simp only[e]
   case measure=>simp[intOf];omega
  ·obtain rfl:k=m:=by omega
   go_wp2_with (with_reducible refine yq _ ?_;(try generalize (G.w _).heap.size=bk);(try dsimp only[yi,yj]);(try clear g);intro g)
   refine bodyPost_end (results_none rfl _ _ _) rfl ?_
   obtain⟨g2,hg2⟩:∃g2:G w0 [] ((b,43,cs')::M) (F'::I),g.w=g2.w:=G.forget g 1
   exact⟨rfl,l',cs',F',g2,hg2,hr,HL.out.congr (fun j hj=>if_pos hj),HLE.out,hnw⟩
theorem assert_plain (A:Option Addr)(n c:Nat)(w:World):(Instr.typeAssert (.iface 129 (.slice A n c)) 137 129 true).run Tryz.prog w=.ok (.tuple #[.slice A n c,.bool true]) w:=by kernel_rfl
set_option maxRecDepth 20000 in
set_option maxHeartbeats 8000000 in
theorem plain_take {w0:World}{M:List Blk}{I:List Frag}{F F0:Frag}(b b2 m cap cap2:Nat)(l l2:List Tri)(cs cs2:List Value)(v u:Nat→Rat)(f:Rat)(pb qb rb:Value)(sb:Nat)(hr:Row 43 3 m (cells3 l) cap cs)(hl:F.Tris l m (fun j=>rawOf (v j)))(hr2:Row 43 3 m (cells3 l2) cap2 cs2)(hl2:F.Tris l2 m (fun j=>rawOf (u j)))(hf:F.Rt pb qb rb (rawOf f))(hbf:Bd 8192 f)(hbd:∀j,j<m→Bd 8192 (v j)∧Bd 8192 (u j)∧Bd 8192 (f*u j)∧Bd 8192 (v j-f*u j))(hm:m≤1000)
  (g:G w0 [] ((b,43,cs)::(b2,43,cs2)::M) (F::I)) (hS:InF (sumF sb) I) (hnw:F.over F0 w0) (hT:Tab w0):
  Calls Tryz.prog 195 #[.slice (some ⟨b,0,none⟩) m cap,.pointer (some ⟨sb,0,none⟩),.iface 129 (.slice (some ⟨b2,0,none⟩) m cap2),.agg #[pb,qb,rb]] g.w fun e w'=>e=.returned (.tuple #[])∧∃(l':List Tri) (cs':List Value) (F':Frag) (g':G w0 [] ((b,43,cs')::(b2,43,cs2)::M) (F'::I)),w'=g'.w∧Row 43 3 m (cells3 l') cap cs'∧F'.Tris l' m (fun j=>rawOf (v j-f*u j))∧F.le F'∧F'.over F0 w0:=by
 obtain⟨s1,A1,n1,c1,B1,d1,k1,rfl,rfl,rfl⟩:=hf.shape
 have CT:=Lib.hid (fun j (hj:j<m) p q r p' q' r' w h1 h2 hs ht=>stimes_r f (u j) (f*u j) hbf (hbd j hj).2.1 (hbd j hj).2.2.1 rfl p q r p' q' r' sb w h1 h2 hs ht)
 have CL:=Lib.hid (fun j (hj:j<m) p q r p' q' r' w h1 h2 hs ht=>sless_r (v j) (f*u j) (v j-f*u j) (hbd j hj).1 (hbd j hj).2.2.1 (hbd j hj).2.2.2 rfl p q r p' q' r' sb w h1 h2 hs ht)
 have HT:=Lib.hid hT
 have HS:=Lib.hid hS
 have HFT:=Lib.hid hf
 have HL2:=Lib.hid hl2
 have HR2:=Lib.hid hr2
 have HL:Hid (F.Tris l m (fun j=>if j<0 then rawOf (v j-f*u j) else rawOf (v j))):=Lib.hid (by simpa using hl)
 have HLE:=Lib.hid (Frag.le_refl F)
 unfold RT1 at CT CL
 clear hbd hf hbf hT hS hl hl2 hr2
 have TA:=assert_plain (some ⟨b2,0,none⟩) m cap2
 go_enter Tryz.func195,Tryz.ntmps195
 go_wp2_with (with_reducible refine yq _ ?_;(try generalize (G.w _).heap.size=bk);(try dsimp only[yi,yj]);(try clear g);intro g)
 clear TA
 obtain⟨bb,rfl⟩:∃bb,bb=bk:=⟨_,rfl⟩
 go_loopw [21] (fun i wr=>∃k:Nat,i=.int .i64 (k:Int)∧k≤m∧∃(l':List Tri) (cs':List Value) (F':Frag),Row 43 3 m (cells3 l') cap cs'∧Hid (F'.Tris l' m (fun j=>if j<k then rawOf (v j-f*u j) else rawOf (v j)))∧Hid (F.le F')∧F'.over F0 w0∧∃g:G w0 [] ((bb,43,[.bool s1,.slice A1 n1 c1,.slice B1 d1 k1])::(b,43,cs')::(b2,43,cs2)::M) (F'::I),wr=g.w) (fun i _=>m-(intOf i).toNat)
 case atStart=>exact⟨0,rfl,by omega,l,cs,F,hr,HL,HLE,hnw,g,rfl⟩
 case round=>
  clear g hr HL HLE hnw
  obtain⟨k,rfl,hk,l',cs',F',hr,HL,HLE,hnw,g,rfl⟩:=hrel
  by_cases hkm:k<m
  ·have hki:(k:Int)<(m:Int):=by omega
   obtain⟨p,q,r,hlk,hrt⟩:=HL.out.2 k hkm
   simp only[Nat.lt_irrefl,if_false] at hrt
   obtain⟨s2,A2,n2,c2,B2,d2,k2,rfl,rfl,rfl⟩:=hrt.shape
   obtain⟨e0,e1,e2⟩:=hr.tri hlk
   obtain⟨p,q,r,hlk2,hrt2⟩:=HL2.out.2 k hkm
   obtain⟨s3,A3,n3,c3,B3,d3,k3,rfl,rfl,rfl⟩:=hrt2.shape
   obtain⟨f0,f1,f2⟩:=HR2.out.tri hlk2
   have HRT:=Lib.hid hrt
   have HRT2:=Lib.hid hrt2
   have HRW:=Lib.hid hr
   clear hlk hrt hr hlk2 hrt2
   go_upto_region 6 with(with_reducible refine yq _ ?_;(try generalize (G.w _).heap.size=bk);(try dsimp only[yi,yj]);(try clear g);intro g)
   ((try simp only[G.drew_eq,G.drewN_eq]);(refine yq _ ?_;(try generalize (G.w _).heap.size=bk);(try dsimp only[yi,yj]);(try clear g);intro g))
   refine wp_region_held_drew (S:=G.heldN g [true,true,false,false]) (by kernel_rfl) (by simp[G.heldN,HeldN,go_sem]) (fun hHeld=>?_)
   refine tk0 [0,1,2,3,4,5,7,8,9] ?_
   repeat (refine tkc rfl (by kernel_rfl) (fun _ _ _ h=>h) (by rfl) ‹_› (by intro w hSw;(try dsimp only at hSw);go_simp;(try with_reducible rfl)) ?_;try simp only[Act.put,yk,yl,yn,yo,yi,yj])
   refine tkn ?_
   refine wpAnyH_ready (rs:=[6,10]) (by kernel_rfl) (by simp) ?_
   refine AllReadyH.cons rfl (fun K hK=>?_) (AllReadyH.cons rfl (fun K hK=>?_) AllReadyH.nil)
   ·(try simp only[Act.put,yk,yl,yn,yo,yi,yj])
    go_simp
    refine hK.out _ _ (by simp[G.heldN,HeldN,go_sem]) (fun hHeld=>?_)
    clear hK K
    (try simp only[Act.put,yk,yl,yn,yo,yi,yj])
    refine wpAnyH_ready (rs:=[10]) (by kernel_rfl) (by simp) ?_
    refine AllReadyH.cons rfl (fun K hK=>?_) AllReadyH.nil
    ·(try simp only[Act.put,yk,yl,yn,yo,yi,yj])
     go_simp
     go_at_call 99
     (try(refine cmark _ ?_;(try dsimp only[yi,yj]);(try clear g);intro g))
     refine(CT.out k hkm _ _ _ _ _ _ _ (G.rtI g (by simp) (HFT.out.mono HLE.out)) (G.rtI g (by simp) (HRT2.out.mono HLE.out)) (G.sumI g (by exact InF.tail HS.out)) (G.tab g HT.out)).mono ?_
     rintro e w1 ⟨pa,qa,ra,Fa,rfl,ha,hn⟩
     have hnna:=fun k o hk=>Nat.le_trans g.chg.size (hn.new k o hk)
     obtain⟨sa,Aa,na,ca,Ba,da,ka,rfl,rfl,rfl⟩:=ha.shape
     obtain⟨g1,rfl⟩:=G.new_ex _ hn
     clear hn
     (try clear g)
     revert g1
     intro g
     clear CT
     refine hK.out _ _ (by simp[G.heldN,HeldN,go_sem]) (fun hHeld=>?_)
     clear hK K
     (try simp only[Act.put,yk,yl,yn,yo,yi,yj])
     refine wpAnyH_ready (rs:=[11]) (by kernel_rfl) (by simp) ?_
     refine AllReadyH.cons rfl (fun K hK=>?_) AllReadyH.nil
     ·(try simp only[Act.put,yk,yl,yn,yo,yi,yj])
      go_simp
      go_at_call 121
      (try(refine cmark _ ?_;(try dsimp only[yi,yj]);(try clear g);intro g))
      refine(CL.out k hkm _ _ _ _ _ _ _ (G.rtI g (by simp) HRT.out) (G.rtI g (by simp) ha) (G.sumI g (by exact InF.tail (InF.tail HS.out))) (G.tab g HT.out)).mono ?_
      rintro e w1 ⟨pz,qz,rz,Fz,rfl,hz,hn⟩
      have hnnz:=fun k o hk=>Nat.le_trans g.chg.size (hn.new k o hk)
      obtain⟨sz,Az,nz,cz,Bz,dz,kz,rfl,rfl,rfl⟩:=hz.shape
      obtain⟨g1,rfl⟩:=G.new_ex _ hn
      clear hn
      (try clear g)
      revert g1
      intro g
      clear CL
      refine hK.out _ _ (by simp[G.heldN,HeldN,go_sem]) (fun hHeld=>?_)
      clear hK K
      (try simp only[Act.put,yk,yl,yn,yo,yi,yj])
      refine tk0 [12] ?_
      repeat (refine tkc rfl (by kernel_rfl) (fun _ _ _ h=>h) (by rfl) ‹_› (by intro w hSw;(try dsimp only at hSw);go_simp;(try with_reducible rfl)) ?_;try simp only[Act.put,yk,yl,yn,yo,yi,yj])
      refine tkn ?_
      refine wpAnyH_ready (rs:=[13]) (by kernel_rfl) (by simp) ?_
      refine AllReadyH.cons rfl (fun K hK=>?_) AllReadyH.nil
      ·(try simp only[Act.put,yk,yl,yn,yo,yi,yj])
       go_simp
       refine hK.out _ _ (by simp[G.heldN,HeldN,go_sem]) (fun hHeld=>?_)
       clear hK K
       (try simp only[Act.put,yk,yl,yn,yo,yi,yj])
       refine wpAnyH_done (by kernel_rfl) ?_ _
       (as_aux_lemma=>
        (try clear hHeld)
        ((try simp only[G.drew_eq,G.drewN_eq]);(refine yq _ ?_;(try generalize (G.w _).heap.size=bk);(try dsimp only[yi,yj]);(try clear g);intro g))
        go_wp2_with (with_reducible refine yq _ ?_;(try generalize (G.w _).heap.size=bk);(try dsimp only[yi,yj]);(try clear g);intro g)
        obtain⟨g2,hg2⟩:∃g2:G w0 [] ((bb,43,[.bool s1,.slice A1 n1 c1,.slice B1 d1 k1])::(b,43,((cs'.set (k*3) (.bool sz)).set (k*3+1) (.slice Az nz cz)).set (k*3+2) (.slice Bz dz kz))::(b2,43,cs2)::M) (Fz::Fa::F'::I),g.w=g2.w:=G.forget g 1
        obtain⟨g4,e4⟩:=G.lessI g2 (I':=Fz::F'::I) (by intro f hf;simp only[List.mem_cons] at hf ⊢;rcases hf with h|h|h<;>simp[h])
        rw[hg2,e4]
        obtain⟨F2,g3,e3,hle,hle2,hnew⟩:=g4.merge
        rw[e3]
        go_roundw
        case rel=>
         refine⟨k+1,by go_num,by omega,_,_,F2,HRW.out.setTri hkm HL.out.1 _ _ _,Lib.hid ((HL.out.mono hle).set (y:=fun j=>if j<k+1 then rawOf (v j-f*u j) else rawOf (v j)) hkm ?_ (fun i hi hne=>?_)),Lib.hid (Frag.le_trans HLE.out hle),fun k' o hk'=>(hnew k' o hk').elim (hnw k' o) (fun h=> .inr (hnnz k' o h)),g3,rfl⟩
         ·rw[if_pos (Nat.lt_succ_self k)]
          exact hz.mono hle2
         ·have e:(i<k+1)↔(i<k):=by omega
          simp only[e]
        case measure=>simp[intOf];omega)
   ·(try simp only[Act.put,yk,yl,yn,yo,yi,yj])
    go_simp
    go_at_call 99
    (try(refine cmark _ ?_;(try dsimp only[yi,yj]);(try clear g);intro g))
    refine(CT.out k hkm _ _ _ _ _ _ _ (G.rtI g (by simp) (HFT.out.mono HLE.out)) (G.rtI g (by simp) (HRT2.out.mono HLE.out)) (G.sumI g (by exact InF.tail HS.out)) (G.tab g HT.out)).mono ?_
    rintro e w1 ⟨pa,qa,ra,Fa,rfl,ha,hn⟩
    have hnna:=fun k o hk=>Nat.le_trans g.chg.size (hn.new k o hk)
    obtain⟨sa,Aa,na,ca,Ba,da,ka,rfl,rfl,rfl⟩:=ha.shape
    obtain⟨g1,rfl⟩:=G.new_ex _ hn
    clear hn
    (try clear g)
    revert g1
    intro g
    clear CT
    refine hK.out _ _ (by simp[G.heldN,HeldN,go_sem]) (fun hHeld=>?_)
    clear hK K
    (try simp only[Act.put,yk,yl,yn,yo,yi,yj])
    refine wpAnyH_ready (rs:=[6]) (by kernel_rfl) (by simp) ?_
    refine AllReadyH.cons rfl (fun K hK=>?_) AllReadyH.nil
    ·(try simp only[Act.put,yk,yl,yn,yo,yi,yj])
     go_simp
     refine hK.out _ _ (by simp[G.heldN,HeldN,go_sem]) (fun hHeld=>?_)
     clear hK K
     (try simp only[Act.put,yk,yl,yn,yo,yi,yj])
     refine wpAnyH_ready (rs:=[11]) (by kernel_rfl) (by simp) ?_
     refine AllReadyH.cons rfl (fun K hK=>?_) AllReadyH.nil
     ·(try simp only[Act.put,yk,yl,yn,yo,yi,yj])
      go_simp
      go_at_call 121
      (try(refine cmark _ ?_;(try dsimp only[yi,yj]);(try clear g);intro g))
      refine(CL.out k hkm _ _ _ _ _ _ _ (G.rtI g (by simp) HRT.out) (G.rtI g (by simp) ha) (G.sumI g (by exact InF.tail (InF.tail HS.out))) (G.tab g HT.out)).mono ?_
      rintro e w1 ⟨pz,qz,rz,Fz,rfl,hz,hn⟩
      have hnnz:=fun k o hk=>Nat.le_trans g.chg.size (hn.new k o hk)
      obtain⟨sz,Az,nz,cz,Bz,dz,kz,rfl,rfl,rfl⟩:=hz.shape
      obtain⟨g1,rfl⟩:=G.new_ex _ hn
      clear hn
      (try clear g)
      revert g1
      intro g
      clear CL
      refine hK.out _ _ (by simp[G.heldN,HeldN,go_sem]) (fun hHeld=>?_)
      clear hK K
      (try simp only[Act.put,yk,yl,yn,yo,yi,yj])
      refine tk0 [12] ?_
      repeat (refine tkc rfl (by kernel_rfl) (fun _ _ _ h=>h) (by rfl) ‹_› (by intro w hSw;(try dsimp only at hSw);go_simp;(try with_reducible rfl)) ?_;try simp only[Act.put,yk,yl,yn,yo,yi,yj])
      refine tkn ?_
      refine wpAnyH_ready (rs:=[13]) (by kernel_rfl) (by simp) ?_
      refine AllReadyH.cons rfl (fun K hK=>?_) AllReadyH.nil
      ·(try simp only[Act.put,yk,yl,yn,yo,yi,yj])
       go_simp
       refine hK.out _ _ (by simp[G.heldN,HeldN,go_sem]) (fun hHeld=>?_)
       clear hK K
       (try simp only[Act.put,yk,yl,yn,yo,yi,yj])
       refine wpAnyH_done (by kernel_rfl) ?_ _
       (as_aux_lemma=>
        (try clear hHeld)
        ((try simp only[G.drew_eq,G.drewN_eq]);(refine yq _ ?_;(try generalize (G.w _).heap.size=bk);(try dsimp only[yi,yj]);(try clear g);intro g))
        go_wp2_with (with_reducible refine yq _ ?_;(try generalize (G.w _).heap.size=bk);(try dsimp only[yi,yj]);(try clear g);intro g)
        obtain⟨g2,hg2⟩:∃g2:G w0 [] ((bb,43,[.bool s1,.slice A1 n1 c1,.slice B1 d1 k1])::(b,43,((cs'.set (k*3) (.bool sz)).set (k*3+1) (.slice Az nz cz)).set (k*3+2) (.slice Bz dz kz))::(b2,43,cs2)::M) (Fz::Fa::F'::I),g.w=g2.w:=G.forget g 1
        obtain⟨g4,e4⟩:=G.lessI g2 (I':=Fz::F'::I) (by intro f hf;simp only[List.mem_cons] at hf ⊢;rcases hf with h|h|h<;>simp[h])
        rw[hg2,e4]
        obtain⟨F2,g3,e3,hle,hle2,hnew⟩:=g4.merge
        rw[e3]
        go_roundw
        case rel=>
         refine⟨k+1,by go_num,by omega,_,_,F2,HRW.out.setTri hkm HL.out.1 _ _ _,Lib.hid ((HL.out.mono hle).set (y:=fun j=>if j<k+1 then rawOf (v j-f*u j) else rawOf (v j)) hkm ?_ (fun i hi hne=>?_)),Lib.hid (Frag.le_trans HLE.out hle),fun k' o hk'=>(hnew k' o hk').elim (hnw k' o) (fun h=> .inr (hnnz k' o h)),g3,rfl⟩
         ·rw[if_pos (Nat.lt_succ_self k)]
          exact hz.mono hle2
         ·have e:(i<k+1)↔(i<k):=by omega
          simp only[e]
        case measure=>simp[intOf];omega)
  ·obtain rfl:k=m:=by omega
   go_wp2_with (with_reducible refine yq _ ?_;(try generalize (G.w _).heap.size=bk);(try dsimp only[yi,yj]);(try clear g);intro g)
   refine bodyPost_end (results_none rfl _ _ _) rfl ?_
   obtain⟨g2,hg2⟩:∃g2:G w0 [] ((b,43,cs')::(b2,43,cs2)::M) (F'::I),g.w=g2.w:=G.forget g 1
   exact⟨rfl,l',cs',F',g2,hg2,hr,HL.out.congr (fun j hj=>if_pos hj),HLE.out,hnw⟩
open Go.RowKit GW NL MX
/-- a row of m numbers, with its block -/
def NRow (m:Nat)(F:Frag)(r:Nat→Rat)(A:Option Addr)(cap:Nat)(s:List Blk):Prop:=∃b l cs,A=some ⟨b,0,none⟩∧s=[(b,43,cs)]∧Row 43 3 m (cells3 l) cap cs∧F.Tris l m (fun j=>rawOf (r j))
theorem NRow.mono {m:Nat}{F F':Frag}{r:Nat→Rat}{A:Option Addr}{cap:Nat}{s:List Blk}(h:NRow m F r A cap s)(hF:F.le F'):NRow m F' r A cap s:=by
 obtain⟨b,l,cs,h1,h2,h3,h4⟩:=h
 exact⟨b,l,cs,h1,h2,h3,h4.mono hF⟩
theorem NRow.congr {m:Nat}{F:Frag}{r r':Nat→Rat}{A:Option Addr}{cap:Nat}{s:List Blk}(h:NRow m F r A cap s)(e:∀j,j<m→r j=r' j):NRow m F r' A cap s:=by
 obtain⟨b,l,cs,h1,h2,h3,h4⟩:=h
 exact⟨b,l,cs,h1,h2,h3,h4.congr fun j hj=>by rw[e j hj]⟩
/-- a plain row as a value -/
def RowP (m:Nat)(F:Frag)(r:Nat→Rat)(u:Value)(s:List Blk):Prop:=∃A cap,u=.slice A m cap∧NRow m F r A cap s
/-- a wide row as a value: m entries, m2 behind them -/
def RowW (m m2:Nat)(F:Frag)(r:Nat→Rat)(u:Value)(s:List Blk):Prop:=∃A cap B cap' s1 s2,u=.agg #[.slice A m cap,.slice B m2 cap']∧s=s1++s2∧NRow m F r A cap s1∧NRow m2 F (fun j=>r (m+j)) B cap' s2
theorem RowP.mono {m:Nat}{F F':Frag}{r:Nat→Rat}{u:Value}{s:List Blk}(h:RowP m F r u s)(hF:F.le F'):RowP m F' r u s:=by
 obtain⟨A,cap,h1,h2⟩:=h
 exact⟨A,cap,h1,h2.mono hF⟩
theorem RowW.mono {m m2:Nat}{F F':Frag}{r:Nat→Rat}{u:Value}{s:List Blk}(h:RowW m m2 F r u s)(hF:F.le F'):RowW m m2 F' r u s:=by
 obtain⟨A,cap,B,cap',s1,s2,h1,h2,h3,h4⟩:=h
 exact⟨A,cap,B,cap',s1,s2,h1,h2,h3.mono hF,h4.mono hF⟩
section
variable {w0:World}{M:List Blk}{I:List Frag}{F F0:Frag}
theorem take_drop_to {n₀:Nat}{s R':List Blk}(g:G w0 [] M I)(hM:M.drop n₀=s++R'):∃g1:G w0 [] (s++(M.take n₀++R')) I,g.w=g1.w:=by
 refine g.perm ?_
 have e:M=M.take n₀++(s++R'):=by rw[←hM,List.take_append_drop]
 conv=>lhs;rw[e]
 exact List.perm_append_comm_assoc _ _ _
theorem take_drop_back {n₀:Nat}{s R':List Blk}(g:G w0 [] (s++(M.take n₀++R')) I):∃g1:G w0 [] (M.take n₀++(s++R')) I,g.w=g1.w:=g.perm (List.perm_append_comm_assoc _ _ _)
theorem n_div (n₀ m cap:Nat)(r:Nat→Rat)(y:Rat)(A:Option Addr)(s R':List Blk)(pb qb rb:Value)(sb:Nat)(h:NRow m F r A cap s)(hy:F.Rt pb qb rb (rawOf y))(hy0:rn y≠0)(hby:Bd 8192 y)(hbd:∀j,j<m→Bd 8192 (r j)∧Bd 8192 (r j/y))(hm:m≤1000)
  (g:G w0 [] M (F::I)) (hM:M.drop n₀=s++R') (hS:InF (sumF sb) I) (hnw:F.over F0 w0) (hT:Tab w0):
  Calls Tryz.prog 194 #[.slice A m cap,.pointer (some ⟨sb,0,none⟩),.agg #[pb,qb,rb]] g.w fun e w'=>e=.returned (.tuple #[])∧∃(s':List Blk) (F':Frag) (g':G w0 [] (M.take n₀++(s'++R')) (F'::I)),w'=g'.w∧NRow m F' (fun j=>r j/y) A cap s'∧F.le F'∧F'.over F0 w0:=by
 obtain⟨b,l,cs,rfl,rfl,hr,hl⟩:=h
 obtain⟨g1,e1⟩:=take_drop_to g hM
 rw[e1]
 refine(plain_divide b m cap l cs r y pb qb rb sb hr hl hy hy0 hby hbd hm g1 hS hnw hT).mono ?_
 rintro e w' ⟨rfl,l',cs',F',g',rfl,h1,h2,h3,h4⟩
 obtain⟨g2,e2⟩:=take_drop_back (M:=M) (n₀:=n₀) (s:=[(b,43,cs')]) (R':=R') g'
 exact⟨rfl,_,F',g2,e2,⟨b,l',cs',rfl,rfl,h1,h2⟩,h3,h4⟩
theorem n_take (n₀ m cap cap2:Nat)(r u:Nat→Rat)(f:Rat)(A B:Option Addr)(s t R':List Blk)(pb qb rb:Value)(sb:Nat)(h:NRow m F r A cap s)(h2:NRow m F u B cap2 t)(hf:F.Rt pb qb rb (rawOf f))(hbf:Bd 8192 f)(hbd:∀j,j<m→Bd 8192 (r j)∧Bd 8192 (u j)∧Bd 8192 (f*u j)∧Bd 8192 (r j-f*u j))(hm:m≤1000)
  (g:G w0 [] M (F::I)) (hM:M.drop n₀=s++(t++R')) (hS:InF (sumF sb) I) (hnw:F.over F0 w0) (hT:Tab w0):
  Calls Tryz.prog 195 #[.slice A m cap,.pointer (some ⟨sb,0,none⟩),.iface 129 (.slice B m cap2),.agg #[pb,qb,rb]] g.w fun e w'=>e=.returned (.tuple #[])∧∃(s':List Blk) (F':Frag) (g':G w0 [] (M.take n₀++(s'++(t++R'))) (F'::I)),w'=g'.w∧NRow m F' (fun j=>r j-f*u j) A cap s'∧F.le F'∧F'.over F0 w0:=by
 obtain⟨b,l,cs,rfl,rfl,hr,hl⟩:=h
 obtain⟨b2,l2,cs2,rfl,rfl,hr2,hl2⟩:=h2
 obtain⟨g1,e1⟩:=take_drop_to (s:=[(b,43,cs),(b2,43,cs2)]) (R':=R') g hM
 rw[e1]
 refine(plain_take b b2 m cap cap2 l l2 cs cs2 r u f pb qb rb sb hr hl hr2 hl2 hf hbf hbd hm g1 hS hnw hT).mono ?_
 rintro e w' ⟨rfl,l',cs',F',g',rfl,h1,h2,h3,h4⟩
 obtain⟨g2,e2⟩:=take_drop_back (M:=M) (n₀:=n₀) (s:=[(b,43,cs'),(b2,43,cs2)]) (R':=R') g'
 exact⟨rfl,[(b,43,cs')],F',g2,e2,⟨b,l',cs',rfl,rfl,h1,h2⟩,h3,h4⟩
set_option maxRecDepth 20000 in
theorem wide_at (b k m cap m2 cap2:Nat)(A2:Option Addr)(s:Bool)(A B:Option Addr)(n c d e:Nat)(hk:k<m)(w:World)(h0:w.cell? ⟨b,k*3,none⟩=some (.bool s))(h1:w.cell? ⟨b,k*3+1,none⟩=some (.slice A n c))(h2:w.cell? ⟨b,k*3+2,none⟩=some (.slice B d e)):
  Calls Tryz.prog 196 #[.agg #[.slice (some ⟨b,0,none⟩) m cap,.slice A2 m2 cap2],.int .i64 (k:Int)] w fun e' w'=>e'=.returned (.agg #[.bool s,.slice A n c,.slice B d e])∧Below w.heap.size w w':=by
 refine calls_b fun g=>?_
 have E0:=fun(M:List Blk) (g:G w [] M [heapOf w])=>G.old g (List.mem_cons_self ..) h0
 have E1:=fun(M:List Blk) (g:G w [] M [heapOf w])=>G.old g (List.mem_cons_self ..) h1
 have E2:=fun(M:List Blk) (g:G w [] M [heapOf w])=>G.old g (List.mem_cons_self ..) h2
 have hki:(k:Int)<(m:Int):=by omega
 clear h0 h1 h2
 go_enter Tryz.func196,Tryz.ntmps196
 go_wp2_with (with_reducible refine yq _ ?_;(try generalize (G.w _).heap.size=bk);(try dsimp only[yi,yj]);(try clear g);intro g)
 refine bodyPost_ret (v:=.agg #[.bool s,.slice A n c,.slice B d e]) (by simp[results,Tryz.results196,go_sem]) rfl ?_
 exact⟨rfl,G.below _⟩
theorem p_div (n₀ m:Nat)(r:Nat→Rat)(y:Rat)(u:Value)(s R':List Blk)(pb qb rb:Value)(sb:Nat)(h:RowP m F r u s)(hy:F.Rt pb qb rb (rawOf y))(hy0:rn y≠0)(hby:Bd 8192 y)(hbd:∀j,j<m→Bd 8192 (r j)∧Bd 8192 (r j/y))(hm:m≤1000)
  (g:G w0 [] M (F::I)) (hM:M.drop n₀=s++R') (hS:InF (sumF sb) I) (hnw:F.over F0 w0) (hT:Tab w0):
  Calls Tryz.prog 194 #[u,.pointer (some ⟨sb,0,none⟩),.agg #[pb,qb,rb]] g.w fun e w'=>e=.returned (.tuple #[])∧∃(s':List Blk) (F':Frag) (g':G w0 [] (M.take n₀++(s'++R')) (F'::I)),w'=g'.w∧RowP m F' (fun j=>r j/y) u s'∧F.le F'∧F'.over F0 w0:=by
 obtain⟨A,cap,rfl,h⟩:=h
 refine(n_div n₀ m cap r y A s R' pb qb rb sb h hy hy0 hby hbd hm g hM hS hnw hT).mono ?_
 rintro e w' ⟨rfl,s',F',g',rfl,h1,h2,h3⟩
 exact⟨rfl,s',F',g',rfl,⟨A,cap,rfl,h1⟩,h2,h3⟩
theorem p_take (n₀ m:Nat)(r r2:Nat→Rat)(f:Rat)(u u2:Value)(s t R':List Blk)(pb qb rb:Value)(sb:Nat)(h:RowP m F r u s)(h2:RowP m F r2 u2 t)(hf:F.Rt pb qb rb (rawOf f))(hbf:Bd 8192 f)(hbd:∀j,j<m→Bd 8192 (r j)∧Bd 8192 (r2 j)∧Bd 8192 (f*r2 j)∧Bd 8192 (r j-f*r2 j))(hm:m≤1000)
  (g:G w0 [] M (F::I)) (hM:M.drop n₀=s++(t++R')) (hS:InF (sumF sb) I) (hnw:F.over F0 w0) (hT:Tab w0):
  Calls Tryz.prog 195 #[u,.pointer (some ⟨sb,0,none⟩),.iface 129 u2,.agg #[pb,qb,rb]] g.w fun e w'=>e=.returned (.tuple #[])∧∃(s':List Blk) (F':Frag) (g':G w0 [] (M.take n₀++(s'++(t++R'))) (F'::I)),w'=g'.w∧RowP m F' (fun j=>r j-f*r2 j) u s'∧F.le F'∧F'.over F0 w0:=by
 obtain⟨A,cap,rfl,h⟩:=h
 obtain⟨B,cap2,rfl,h2⟩:=h2
 refine(n_take n₀ m cap cap2 r r2 f A B s t R' pb qb rb sb h h2 hf hbf hbd hm g hM hS hnw hT).mono ?_
 rintro e w' ⟨rfl,s',F',g',rfl,h1,h2,h3⟩
 exact⟨rfl,s',F',g',rfl,⟨A,cap,rfl,h1⟩,h2,h3⟩
end
end Go.Proofs.YthhbbnfnejjpiaaGreatDoor
