/- Plain facts and contracts of functions of the program, out of walks. Their conditions stand ahead of each. -/
import Derived.Test.YthhbbnfnejjpiaaGreatDoorNm29
import Derived.Test.YthhbbnfnejjpiaaGreatDoorNm30
import Derived.Below
import Derived.BigQuiet
import Derived.Deep.DeepCutAuto
import Derived.Deep.Draws
import Derived.Deep.LoopGhost
import Derived.Deep.QuietTactic
import Derived.Deep.RegionHeld3
import Derived.Deep.RegionLaw
import Derived.Defers
import Derived.Laws.BytesString
import Derived.Laws.Cells
import Derived.Laws.Concat
import Derived.Laws.CopyOwn
import Derived.Laws.CopyRow
import Derived.Laws.NewBlocks
import Derived.Laws.OwnMore
import Derived.Laws.Pointers
import Derived.Laws.Rows
import Derived.Lib.BitFns
import Derived.Lib.Hide
import Derived.Lib.ItoaNum
import Derived.Lib.SliceRun
import Derived.Lib.TrailingZeros
import Derived.LoopIn
import Derived.LoopNIn
import Derived.Maps.AppendAt
import Derived.OrdersHeld
import Derived.OrdersIn
import Derived.OwnWalk
import Derived.OwnWalkIn
import Derived.RangeFuncBound
import Derived.RangeFuncBox
import Derived.RangeFuncCalls
import Derived.RangeFuncLeaves
import Derived.RangeFuncNested
import Derived.RangeFuncWrites
import Derived.RowKit3
import Derived.Shelf.Abstract
import Derived.Shelf.RegionOpen
import Derived.Shelf.Spec.TrailingZeros
import Derived.StillTactics
import Derived.StillTailTactics
import Derived.TacticsInMore
import Derived.Test.YthhbbnfnejjpiaaGreatDoorProg
import Derived.WalkKit
import Derived.WalkLawsBesides
import Derived.WalkMore
import Derived.WalkSpells
set_option linter.unusedVariables false
set_option linter.unusedSimpArgs false
set_option exponentiation.threshold 10000
namespace Go.Proofs.YthhbbnfnejjpiaaGreatDoor
open Go.RowKit GW NL MX
attribute [local go_sem] Oper.semAt_some
set_option maxRecDepth 100000 in
set_option maxHeartbeats 8000000 in
theorem kind_run {ti:TypeId}{fa fd ft:FuncId}{m mt:Nat}{Q0:Frag→(Nat→Rat)→Value→List Blk→Prop}(KD:Kind ti fa fd ft m mt Q0)(n sb eb rb capr cols:Nat)(F0 F:Frag){w0:World}{M:List Blk}{I:List Frag}(s0:El)(hn:n≤1000)(hcm:cols≤m)(hm:mt≤1000)(hcap:n≤capr)(hcap2:capr≤9223372036854775807)(hr0:s0.rk=0)(h0:0<n)
  (hfine:∀c,c<cols→∀p,findP (runE n s0 c).x n c (runE n s0 c).rk=some p→Fine n mt (swapE (runE n s0 c) p) c∧Bd 8192 (runE n s0 c).det) (hT:Tab w0) (hS:InF (sumF sb) I)
  (rs:List Value) (R:List Blk) (p q r:Value) (hp:F.Rt p q r (rawOf s0.det)) (hown:OwnOn (List.range n) (fun i v u=>(fun(y:Nat→Rat) v u=>∃x,v=.iface ti x∧(fun F y x u=>Q0 F y x u) F y x u) (s0.x i) v u) R rs) (hov:F.over F0 w0)
  (g:G w0 [] ((eb,91,[.pointer (some ⟨sb,0,none⟩),.slice (some ⟨rb,0,none⟩) n capr,p,q,r])::(rb,137,rs)::(R++M)) (F::I)):
  Calls Tryz.prog 63 #[.pointer (some ⟨eb,0,none⟩),.int .i64 (cols:Int)] g.w fun e w'=>e=.returned (.int .i64 ((runE n s0 cols).rk:Int))∧
   ∃(rs:List Value) (R:List Blk) (F:Frag) (p q r:Value),F.Rt p q r (rawOf (runE n s0 cols).det)∧OwnOn (List.range n) (fun i v u=>(fun(y:Nat→Rat) v u=>∃x,v=.iface ti x∧(fun F y x u=>Q0 F y x u) F y x u) ((runE n s0 cols).x i) v u) R rs∧F.over F0 w0∧
    ∃g':G w0 [] ((eb,91,[.pointer (some ⟨sb,0,none⟩),.slice (some ⟨rb,0,none⟩) n capr,p,q,r])::(rb,137,rs)::(R++M)) (F::I),w'=g'.w:=by
 have KLE:=KD.le
 have HF:=Lib.hid hfine
 have HT:=Lib.hid hT
 have HS:=Lib.hid hS
 have HB:=Lib.hid (And.intro hcm hm)
 have H1:=Lib.hid hp
 have H2:=Lib.hid hown
 have H3:=Lib.hid hov
 obtain⟨s1,A1,n1,c1,B1,d1,e1,rfl,rfl,rfl⟩:=hp.shape
 clear hfine hT hS hcm hm hp hown hov
 refine callsIn_wide.1 (callsIn_of_wp_marks (n:=8) Tryz.func63 rfl trivial ?_ rfl)
 simp only[Tryz.ntmps63,List.size_toArray,List.length_cons,List.length_nil,Nat.reduceAdd,Nat.reduceSub,Array.replicate_succ,Array.replicate_zero,List.push_toArray,List.append_toArray,List.nil_append,List.cons_append]
 refine wpIn_wide.2 ?_
 go_wp2_with (with_reducible refine yq _ ?_;(try generalize (G.w _).heap.size=bk);(try dsimp only[yi,yj]);(try clear g);intro g)
 (try(refine cmark _ ?_;(try dsimp only[yi,yj]);(try clear g);intro g))
 refine(pivots_any eb cols _).mono ?_
 rintro e w1 ⟨rfl,rfl⟩
 obtain⟨g1,e1'⟩:=G.alloc1 g 87 [.pointer (some ⟨eb,0,none⟩)]
 have hxs:g1.w.heap.size=g.w.heap.size+1:=by rw[←e1'];simp
 obtain⟨g2,e2'⟩:=G.alloc1 g1 3 [.int .i64 (cols:Int)]
 rw[show(Obj.cells #[Value.pointer (some ⟨eb,0,none⟩)] 87)=.cells [Value.pointer (some ⟨eb,0,none⟩)].toArray 87 from rfl,e1',show(Obj.cells #[Value.int .i64 (cols:Int)] 3)=.cells [Value.int .i64 (cols:Int)].toArray 3 from rfl,e2',←hxs]
 clear e1' e2' hxs
 generalize g1.w.heap.size=cb at g2 ⊢
 clear g1
 generalize g.w.heap.size=xb at g2 ⊢
 clear g
 obtain⟨g,hg⟩:=g2.perm (permRun _ _ _ _ _ _ _ _ _)
 rw[hg]
 clear hg g2
 go_wp2_with (with_reducible refine yq _ ?_;(try generalize (G.w _).heap.size=bk);(try dsimp only[yi,yj]);(try clear g);intro g)
 rename_i e2 res K' hK'
 obtain⟨kb,rfl⟩:∃kb,kb=bk:=⟨_,rfl⟩
 have hBB:w0.heap.size≤g.w.heap.size:=g.chg.size
 have hII:∀f∈I,∀k o,f k=some o→k<g.w.heap.size∨o.isCells=true:=fun f hf k o hk=> .inl (Frag.lt (g.sub f (List.mem_cons_of_mem _ hf)) hk)
 have hI0:ElW ti (fun F y x u=>Q0 F y x u) w0 n sb eb rb capr kb xb cb e2 cols F0 ((res,3,[.int .i64 0])::M) I g.w.heap.size s0 g.w:=by
  obtain⟨g',hg'⟩:=g.as (M':=(eb,91,[.pointer (some ⟨sb,0,none⟩),.slice (some ⟨rb,0,none⟩) n capr,.bool s1,.slice A1 n1 c1,.slice B1 d1 e1])::(rb,137,rs)::(kb,3,[.int .i64 (s0.rk:Int)])::(xb,87,[.pointer (some ⟨eb,0,none⟩)])::(cb,3,[.int .i64 (cols:Int)])::(e2,87,[.pointer (some ⟨eb,0,none⟩)])::(R++((res,3,[.int .i64 0])::M))) (by rw[hr0];rfl)
  rw[hg']
  exact ElW.make (s:=s0) (F:=F) (fun F y x u h=>KD.only F y x u h) H1.out H2.out H3.out g'
 refine wpIn_wide.1 (wpIn_range_state (F:=Fence.wide) (n:=8) (β:=El×Nat) rfl (by omega) (gf:=131) (lb:= #[.pointer (some ⟨cb,0,none⟩),.pointer (some ⟨xb,0,none⟩)]) rfl trivial (enters_of Tryz.func131 (by kernel_rfl) rfl)
  (encs:=fun s=> #[.int .i64 (s.2:Int),.int .i64 (s.1.rk:Int)]) (fun _=>rfl)
  (ElW ti (fun F y x u=>Q0 F y x u) w0 n sb eb rb capr kb xb cb e2 cols F0 ((res,3,[.int .i64 0])::M) I g.w.heap.size s0) (ElW ti (fun F y x u=>Q0 F y x u) w0 n sb eb rb capr kb xb cb e2 cols F0 ((res,3,[.int .i64 0])::M) I g.w.heap.size (runE n s0 cols)) (fun s W=>Ready n m mt s.1 s.2∧ElW ti (fun F y x u=>Q0 F y x u) w0 n sb eb rb capr kb xb cb e2 cols F0 ((res,3,[.int .i64 0])::M) I g.w.heap.size s.1 W) (fun s W=>ElW ti (fun F y x u=>Q0 F y x u) w0 n sb eb rb capr kb xb cb e2 cols F0 ((res,3,[.int .i64 0])::M) I g.w.heap.size (roundE s.1 s.2) W) ?c0 ?ce ?cy ?ca hI0 (fun s=> {tmps:= #[.pointer (some ⟨eb,0,none⟩),.int .i64 (cols:Int),.pointer (some ⟨e2,0,none⟩),undef,.pointer (some ⟨res,0,none⟩),.pointer (some ⟨kb,0,none⟩),.int .i64 (s.2:Int),.int .i64 (s.1.rk:Int),undef,undef,undef,undef,.pointer (some ⟨eb,0,none⟩),.int .i64 (cols:Int),.func (.func 131) #[] #[.pointer (some ⟨cb,0,none⟩),.pointer (some ⟨xb,0,none⟩)],.int .i64 (s.2:Int),.int .i64 (s.1.rk:Int),undef,undef,undef,undef,undef,undef,undef,undef,undef,undef,undef,undef,undef,undef,undef,undef,undef,undef,undef,undef,undef,undef,undef,undef,undef,undef,undef,undef,undef,undef,undef,undef,undef,undef,undef,undef,undef,undef,undef,undef,undef,undef,undef,undef,undef,undef,undef,undef,undef,undef,undef,undef,undef,undef,undef,undef,undef,undef,undef,undef,undef,undef,undef,undef,undef,undef,undef,undef,undef,undef,undef,undef,undef,undef,undef,undef,undef,undef,undef,undef,undef,undef,undef,undef,undef,undef,undef,undef],defers:=[]}) ?assign ?body ?iter ?done)
 case c0=>exact ElW.calm hBB hII
 case ce=>exact ElW.calm hBB hII
 case cy=>exact fun s W W' row h hg hr=>⟨h.1,ElW.calm hBB hII W W' row h.2 hg hr⟩
 case ca=>exact fun s=>ElW.calm hBB hII
 case assign=>
  intro l s W K hK
  gi_wp2
  exact hK
 case iter=>
  intro l D oL oD W1 hl hD hoL hoD hL1 hD1 hI hY
  exact kind_iter KD n sb eb rb capr kb xb cb e2 cols F0 s0 hn HB.out.1 (by have:=HB.out;omega) hcap hcap2 hr0 h0 HF.out HT.out HS.out hBB l D oL oD 7 W1 hoL hoD hL1 hD1 hI hY
 case done=>
  intro D W hD hI hK
  obtain⟨rs,R,F,p,q,r,k1,k2,k3,k4,g3,rfl⟩:=hI
  obtain⟨g4,e4⟩:=g3.seeD hK rfl
  rw[e4]
  clear e4 hK g3
  obtain⟨s2,A2,n2,c2,B2,d2,z2,rfl,rfl,rfl⟩:=k1.shape
  obtain⟨g5,e5⟩:=g4.perm (permDone _ _ _ _ _ _ _ _ _)
  rw[e5]
  clear e5 g4
  have K1:=Lib.hid k1
  have K2:=Lib.hid k2
  have K3:=Lib.hid k3
  have K4:=Lib.hid k4
  clear k1 k2 k3 k4
  go_wp2_with (with_reducible refine yq _ ?_;(try generalize (G.w _).heap.size=bk);(try dsimp only[yi,yj]);(try clear g);intro g)
  refine G.any_mark _ ?_
  (try dsimp only[List.set_cons_zero,List.set_cons_succ])
  intro g6
  have hK':g6.w.heap[D]?=some (Obj.deferred (some [])):=blkF_sub' g6 (by simp)
  refine⟨by simp,.inl ⟨_,_,rfl,run_takeDeferred hK',?_⟩⟩
  have hc5:=cell_kept (show g6.w.cell? ⟨res,0,none⟩=some (.int .i64 ((runE n s0 cols).rk:Int)) by simp[go_sem]) (grownBy_putObj' _ D (.deferred none)) (fun r e=>by cases e;exact⟨_,hK',rfl⟩)
  obtain⟨g7,e7⟩:=g6.lessI (I':=F::I) (by intro f hf;exact List.mem_cons_of_mem _ hf)
  obtain⟨g8,e8⟩:=g7.less (M':=(eb,91,[.pointer (some ⟨sb,0,none⟩),.slice (some ⟨rb,0,none⟩) n capr,.bool s2,.slice A2 n2 c2,.slice B2 d2 z2])::(rb,137,rs)::(R++M)) (((List.Sublist.refl _).cons _|>.cons _|>.cons _|>.cons_cons _|>.cons_cons _).cons _|>.cons _)
  obtain⟨g9,e9⟩:=g8.grown_ex hBB (by
   intro f hf
   rcases List.mem_cons.1 hf with rfl|hf
   ·exact K4.out
   ·exact hII f hf) (grownBy_putObj' g8.w D (.deferred none)) (fun r e=>by cases e;exact⟨hD,_,by rw[←e8,←e7];exact hK',rfl⟩)
  refine⟨.int .i64 ((runE n s0 cols).rk:Int),by simp[results,Tryz.f63,go_sem,hc5],rfl,rs,R,F,_,_,_,K1.out,K2.out,K3.out,g9,?_⟩
  rw[e7,e8,e9]
 case body=>
  rintro l ⟨s,c⟩ W ⟨hR,hI⟩
  generalize hQ:roundEnds _ _ (s,c) W=Q
  obtain⟨B,HQ⟩:∃B,Hid (∀(a:Act) (W':World),(∀(k:Nat) (o:Obj),W.heap[k]?=some o→o.isCells=false→W'.heap[k]?=some o)→ElW ti (fun F y x u=>Q0 F y x u) w0 n sb eb rb capr kb xb cb e2 cols F0 ((res,3,[.int .i64 0])::M) I B (roundE s c) W'→Q .normal a W'):=⟨g.w.heap.size,Lib.hid (by rw[←hQ];exact fun a W' h1 h2=>⟨fun k o _ h3 h4=>h1 k o h3 h4,h2⟩)⟩
  have HLO:∀a w,Q .outgrown a w→False:=by rw[←hQ];exact fun a w h=>h
  have HPA:∀ch a w,Q (.panic ch) a w→False:=by rw[←hQ];exact fun ch a w h=>h
  clear hQ hI0 H1 H2 H3 HF
  obtain⟨rs,R,F,p,q,r,k1,k2,k3,k4,g2,hW⟩:=hI
  obtain⟨N,g3,e3,hN⟩:=G.seeN2 g2
  rw[←hW] at e3 hN
  have HN:=Lib.hid hN
  obtain⟨hrk,hcol,hne,hfine⟩:=hR
  rw[e3]
  clear e3 hN hW g2
  dsimp only at k1 k2 g3 hrk hcol hne hfine ⊢
  obtain⟨s2,A2,n2,c2,B2,d2,z2,rfl,rfl,rfl⟩:=k1.shape
  obtain⟨v,t,R',hv,⟨u,rfl,hq⟩,hp,hbut⟩:=k2.openAt hrk
  obtain⟨g4,e4⟩:=g3.perm (M':=(eb,91,[.pointer (some ⟨sb,0,none⟩),.slice (some ⟨rb,0,none⟩) n capr,.bool s2,.slice A2 n2 c2,.slice B2 d2 z2])::(rb,137,rs)::(kb,3,[.int .i64 (s.rk:Int)])::(xb,87,[.pointer (some ⟨eb,0,none⟩)])::(cb,3,[.int .i64 (cols:Int)])::(e2,87,[.pointer (some ⟨eb,0,none⟩)])::(t++(R'++(res,3,[.int .i64 0])::M))) (((((((hp.append_right _).trans (List.Perm.of_eq (List.append_assoc _ _ _))).cons _).cons _).cons _).cons _).cons _|>.cons _)
  rw[e4]
  clear e4 g3
  have K1:=Lib.hid k1
  have HQR:=Lib.hid hq
  have HBT:=Lib.hid hbut
  have K3:=Lib.hid k3
  have HFI:=Lib.hid hfine
  have HNE:=Lib.hid hne
  have ES:∀(M:List Blk) (F:Frag) (g:G w0 [] M (F::N::I)),g.w.cell? ⟨sb,0,none⟩=some (.int .i64 0):=fun M F g=>by
   have:=G.sumI g (InF.tail (InF.tail HS.out))
   unfold SumW at this
   simp[World.cell?,this]
  have CA:=Lib.hid (fun w h'=>KD.entry c F (s.x s.rk) u t hq (by have:=HB.out;omega) w h')
  have hm1:=KD.mat
  have hm1c:=KD.cat
  have hrki:(s.rk:Int)<(n:Int):=by omega
  have CTI:=Lib.hid (fun p q r p' q' r' w a b st t=>stimes_r s.det (s.x s.rk c) (s.det*s.x s.rk c) hfine.det (hfine.ent s.rk hrk c (by have:=HB.out;omega)) hfine.det2 rfl p q r p' q' r' sb w a b st t)
  unfold RT1 at CTI
  clear k1 k2 k3 k4 hq hbut hfine hne hp hBB hII g
  revert g4
  intro g
  gi_wp2_with (first|(with_reducible refine yq _ ?_;(try generalize (G.w _).heap.size=bk);(try dsimp only[yi,yj]);(try clear g);intro g))
  refine⟨trivial,(CallsIn.inRound l (callsIn_wide.2 (CA.out _ (Lies.own g (fun x hx=>by simp[hx]))))).mono ?_⟩
  rintro e w1 ⟨pp,qq,rr,rfl,hrt,hb⟩
  obtain⟨g1,rfl⟩:=G.call_ex _ hb
  clear hb g
  revert g1
  intro g
  obtain⟨sp,Ap,np,cp,Bp,dp,kp,rfl,rfl,rfl⟩:=hrt.shape
  have HPV:=Lib.hid hrt
  clear hrt CA
  dsimp only
  gi_wp2_with (first|(with_reducible refine yq _ ?_;(try generalize (G.w _).heap.size=bk);(try dsimp only[yi,yj]);(try clear g);intro g))
  obtain⟨pb,rfl⟩:∃pb,pb=bk:=⟨_,rfl⟩
  clear ES
  ((try simp only[G.drew_eq,G.drewN_eq]);(refine yq _ ?_;(try generalize (G.w _).heap.size=bk);(try dsimp only[yi,yj]);(try clear g);intro g))
  refine wpIn_round_held (S:=G.heldN g [true,false,false,false,false,false,true]) (by kernel_rfl) (by rintro⟨a,w,h⟩;exact HLO _ _ h) (by kernel_rfl) (by simp[G.heldN,HeldN,go_sem]) (fun hHeld=>?_)
  refine tk0 [0,1,2,3,5,6,7,9] ?_
  repeat (refine tkc rfl (by kernel_rfl) (fun _ _ _ h=>(HPA _ _ _ h).elim) (by rfl) ‹_› (by intro w hSw;(try dsimp only at hSw);go_simp;(try with_reducible rfl)) ?_;try simp only[Act.put,yk,yl,yn,yo,yi,yj])
  refine tkn ?_
  refine wpAnyH_ready (rs:=[4,8]) (by kernel_rfl) (by simp) ?_
  refine AllReadyH.cons rfl (fun K hK=>?_) (AllReadyH.cons rfl (fun K hK=>?_) AllReadyH.nil)
  ·(try simp only[Act.put,yk,yl,yn,yo,yi,yj])
   go_simp
   refine hK.out _ _ (by simp[G.heldN,HeldN,go_sem]) (fun hHeld=>?_)
   clear hK K
   (try simp only[Act.put,yk,yl,yn,yo,yi,yj])
   refine wpAnyH_ready (rs:=[8]) (by kernel_rfl) (by simp) ?_
   refine AllReadyH.cons rfl (fun K hK=>?_) AllReadyH.nil
   ·(try simp only[Act.put,yk,yl,yn,yo,yi,yj])
    go_simp
    refine hK.out _ _ (by simp[G.heldN,HeldN,go_sem]) (fun hHeld=>?_)
    clear hK K
    (try simp only[Act.put,yk,yl,yn,yo,yi,yj])
    refine wpAnyH_ready (rs:=[10]) (by kernel_rfl) (by simp) ?_
    refine AllReadyH.cons rfl (fun K hK=>?_) AllReadyH.nil
    ·(try simp only[Act.put,yk,yl,yn,yo,yi,yj])
     go_simp
     go_at_call 99
     (try(refine cmark _ ?_;(try dsimp only[yi,yj]);(try clear g);intro g))
     refine(CTI.out _ _ _ _ _ _ _ (G.rtI g (by simp) K1.out) (G.rtI g (by simp) HPV.out) (G.sumI g (by exact InF.tail (InF.tail HS.out))) (G.tab g HT.out)).mono ?_
     rintro e w1 ⟨pa,qa,ra,Fa,rfl,ha,hn⟩
     have hnna:=fun k o hk=>Nat.le_trans g.chg.size (hn.new k o hk)
     obtain⟨sa,Aa,na,ca,Ba,da,ka,rfl,rfl,rfl⟩:=ha.shape
     obtain⟨g1,rfl⟩:=G.new_ex _ hn
     clear hn
     (try clear g)
     revert g1
     intro g
     refine hK.out _ _ (by simp[G.heldN,HeldN,go_sem]) (fun hHeld=>?_)
     clear hK K
     (try simp only[Act.put,yk,yl,yn,yo,yi,yj])
     refine tk0 [11,12] ?_
     repeat (refine tkc rfl (by kernel_rfl) (fun _ _ _ h=>(HPA _ _ _ h).elim) (by rfl) ‹_› (by intro w hSw;(try dsimp only at hSw);go_simp;(try with_reducible rfl)) ?_;try simp only[Act.put,yk,yl,yn,yo,yi,yj])
     refine tkn ?_
     refine wpAnyH_ready (rs:=[13]) (by kernel_rfl) (by simp) ?_
     refine AllReadyH.cons rfl (fun K hK=>?_) AllReadyH.nil
     ·(try simp only[Act.put,yk,yl,yn,yo,yi,yj])
      go_simp
      refine hK.out _ _ (by simp[G.heldN,HeldN,go_sem]) (fun hHeld=>?_)
      clear hK K
      (try simp only[Act.put,yk,yl,yn,yo,yi,yj])
      refine wpAnyH_done (by kernel_rfl) ?_ _
      (as_aux_lemma=>
       (try clear hHeld)
       ((try simp only[G.drew_eq,G.drewN_eq]);(refine yq _ ?_;(try generalize (G.w _).heap.size=bk);(try dsimp only[yi,yj]);(try clear g);intro g))
       have CD:=Lib.hid (fun(pb qb rb':Value) (F:Frag) (M:List Blk) (I:List Frag) (R':List Blk) (n₀:Nat) (h:Q0 F (s.x s.rk) u t) (hy:F.Rt pb qb rb' (rawOf (s.x s.rk c))) (g:G w0 [] M (F::I)) (hM:M.drop n₀=t++R') (hS:InF (sumF sb) I) (hnw:F.over F0 w0) (hT:Tab w0)=>KD.div n₀ (s.x s.rk) (s.x s.rk c) u t R' pb qb rb' sb h hy (fun e=>HNE.out (by unfold rn at e;rw[Int.natAbs_eq_zero,Rat.num_eq_zero] at e;exact e)) (HFI.out.ent s.rk hrk c (by have:=HB.out;omega)) (fun j hj=>⟨HFI.out.ent s.rk hrk j hj,HFI.out.quo j hj⟩) (by have:=HB.out;omega) g hM hS hnw hT)
       have hm2:=KD.mdiv
       have hm2c:=KD.cdiv
       obtain⟨F1,g2,e2',hle,hle2,hnew⟩:=g.merge
       rw[e2']
       have HA:=Lib.hid (ha.mono hle2)
       have HPV1:=Lib.hid (HPV.out.mono hle)
       have HQ1:=Lib.hid (KD.mono HQR.out hle)
       have HB1:=Lib.hid (HBT.out.next (oc':=rs) (Q':=fun i v u=>(fun(y:Nat→Rat) v u=>∃x,v=.iface ti x∧(fun F y x u=>Q0 F y x u) F1 y x u) (s.x i) v u) (fun _ _=>rfl) (fun j hj v u hq=>by obtain⟨x,e,hx⟩:=hq;exact⟨x,e,KD.mono hx hle⟩))
       have HOV:Hid (F1.over F0 w0):=Lib.hid (fun k o hk=>(hnew k o hk).elim (K3.out k o) (fun h=> .inr (hnna k o h)))
       clear hle hle2 hnew e2' ha hnna HPV HQR HBT K1 K3 CTI hm1 hm1c g
       revert g2
       intro g
       gi_wp2_with (first|(with_reducible refine yq _ ?_;(try generalize (G.w _).heap.size=bk);(try dsimp only[yi,yj]);(try clear g);intro g))
       ((try simp only[G.drew_eq,G.drewN_eq]);(refine yq _ ?_;(try generalize (G.w _).heap.size=bk);(try dsimp only[yi,yj]);(try clear g);intro g))
       refine wpIn_round_held (S:=G.heldN g [true,true,true,false,false,false,true]) (by kernel_rfl) (by rintro⟨a,w,h⟩;exact HLO _ _ h) (by kernel_rfl) (by simp[G.heldN,HeldN,go_sem]) (fun hHeld=>?_)
       refine tk0 [0,1,2,3,4,5,6,7,8,9,10,11,12,13] ?_
       repeat (refine tkc rfl (by kernel_rfl) (fun _ _ _ h=>(HPA _ _ _ h).elim) (by rfl) ‹_› (by intro w hSw;(try dsimp only at hSw);go_simp;(try with_reducible rfl)) ?_;try simp only[Act.put,yk,yl,yn,yo,yi,yj])
       refine tkn ?_
       refine wpAnyH_ready (rs:=[14]) (by kernel_rfl) (by simp) ?_
       refine AllReadyH.cons rfl (fun K hK=>?_) AllReadyH.nil
       ·(try simp only[Act.put,yk,yl,yn,yo,yi,yj])
        go_simp
        skip
        (try(refine cmark _ ?_;(try dsimp only[yi,yj]);(try clear g);intro g))
        (refine(CD.out _ _ _ F1 _ _ (R'++(res,3,[.int .i64 0])::M) 7 HQ1.out HPV1.out g (by rfl) (InF.tail HS.out) HOV.out HT.out).mono ?_;rintro e w1 ⟨rfl,t',F2,g',rfl,hq2,hle2,hov2⟩;(try clear g);revert g';dsimp only[List.take,List.cons_append,List.nil_append];intro g)
        refine hK.out _ _ (by simp[G.heldN,HeldN,go_sem]) (fun hHeld=>?_)
        clear hK K
        (try simp only[Act.put,yk,yl,yn,yo,yi,yj])
        refine wpAnyH_done (by kernel_rfl) ?_ _
        (as_aux_lemma=>
         (try clear hHeld)
         ((try simp only[G.drew_eq,G.drewN_eq]);(refine yq _ ?_;(try generalize (G.w _).heap.size=bk);(try dsimp only[yi,yj]);(try clear g);intro g))
         obtain⟨x1,hx1⟩:∃x1,divR s.x s.rk (s.x s.rk c)=x1:=⟨_,rfl⟩
         have HX:=Lib.hid hx1
         have hrow:Q0 F2 (x1 s.rk) u t':=by rw[←hx1,divR_t];exact hq2
         have hK2:=HB1.out.closeAt (s:=t') (i:=s.rk) (oc':=rs) (Q':=fun i v u=>(fun(y:Nat→Rat) v u=>∃x,v=.iface ti x∧(fun F y x u=>Q0 F y x u) F2 y x u) (takeU x1 s.rk c 0 i) v u) hrk hv ⟨u,rfl,by rw[takeU_zero];exact hrow⟩ (fun _ _ _=>rfl) (fun j hj _ v u hq=>by obtain⟨x,e,hx⟩:=hq;exact⟨x,e,by rw[takeU_zero,←hx1,divR_ne _ _ hj];exact KD.mono hx hle2⟩)
         have HA2:=Lib.hid (HA.out.mono hle2)
         have HO2:=Lib.hid hov2
         obtain⟨g2,e2'⟩:=g.forget 1
         obtain⟨g5,e5'⟩:=g2.as (M':=(eb,91,[.pointer (some ⟨sb,0,none⟩),.slice (some ⟨rb,0,none⟩) n capr,.bool sa,.slice Aa na ca,.slice Ba da ka])::(rb,137,rs)::(kb,3,[.int .i64 (s.rk:Int)])::(xb,87,[.pointer (some ⟨eb,0,none⟩)])::(cb,3,[.int .i64 (cols:Int)])::(e2,87,[.pointer (some ⟨eb,0,none⟩)])::((t'++R')++(res,3,[.int .i64 0])::M)) (by simp)
         rw[e2',e5']
         clear e2' e5' hx1 hrow hq2 hle2 hov2 g g2 HB1 HQ1 HPV1 HA HOV CD hm2 hm2c
         revert g5
         intro g
         have hRK:=Lib.hid hv
         clear hv
         gi_wp2_with (first|(with_reducible refine yq _ ?_;(try generalize (G.w _).heap.size=bk);(try dsimp only[yi,yj]);(try clear g);intro g))
         gi_loopw [68] (fun i wr=>∃k:Nat,i=.int .i64 (k:Int)∧k≤n∧∃(F:Frag) (R:List Blk),Hid (F.Rt (.bool sa) (.slice Aa na ca) (.slice Ba da ka) (rawOf (s.det*s.x s.rk c)))∧OwnOn (List.range n) (fun i v u=>(fun(y:Nat→Rat) v u=>∃x,v=.iface ti x∧(fun F y x u=>Q0 F y x u) F y x u) (takeU x1 s.rk c k i) v u) R rs∧Hid (F.over F0 w0)∧∃g:G w0 [] ((eb,91,[.pointer (some ⟨sb,0,none⟩),.slice (some ⟨rb,0,none⟩) n capr,.bool sa,.slice Aa na ca,.slice Ba da ka])::(rb,137,rs)::(kb,3,[.int .i64 (s.rk:Int)])::(xb,87,[.pointer (some ⟨eb,0,none⟩)])::(cb,3,[.int .i64 (cols:Int)])::(e2,87,[.pointer (some ⟨eb,0,none⟩)])::(R++(res,3,[.int .i64 0])::M)) (F::N::I),wr=g.w) (fun i _=>n-(intOf i).toNat)
         case atStart=>exact⟨0,rfl,by omega,F2,_,HA2,hK2,HO2,g,rfl⟩
         case round=>
          clear g hK2 HA2 HO2
          obtain⟨k,rfl,hk,F3,R3,HA,hK2,HOV,g,rfl⟩:=hrel
          by_cases hkn:k<n
          ·have hki:(k:Int)<(n:Int):=by omega
           obtain⟨v3,t3,R4,hv3,⟨u3,rfl,hq3⟩,hp3,hbut3⟩:=hK2.openAt hkn
           have hq3':Q0 F3 (x1 k) u3 t3:=by rw[←takeU_at x1 s.rk c k];exact hq3
           obtain⟨g4,e4⟩:=g.perm (M':=(eb,91,[.pointer (some ⟨sb,0,none⟩),.slice (some ⟨rb,0,none⟩) n capr,.bool sa,.slice Aa na ca,.slice Ba da ka])::(rb,137,rs)::(kb,3,[.int .i64 (s.rk:Int)])::(xb,87,[.pointer (some ⟨eb,0,none⟩)])::(cb,3,[.int .i64 (cols:Int)])::(e2,87,[.pointer (some ⟨eb,0,none⟩)])::(t3++(R4++(res,3,[.int .i64 0])::M))) (((((((hp3.append_right _).trans (List.Perm.of_eq (List.append_assoc _ _ _))).cons _).cons _).cons _).cons _).cons _|>.cons _)
           rw[e4]
           have HB3:=Lib.hid hbut3
           have HQ3:=Lib.hid hq3'
           have CA:=Lib.hid (fun w h'=>KD.entry c F3 (x1 k) u3 t3 hq3' (by have:=HB.out;omega) w h')
           have hm1:=KD.mat
           have hm1c:=KD.cat
           clear e4 hq3 hq3' hbut3 hp3 hK2 g
           revert g4
           intro g
           gi_wp2_with (first|(with_reducible refine yq _ ?_;(try generalize (G.w _).heap.size=bk);(try dsimp only[yi,yj]);(try clear g);intro g))
           refine⟨trivial,(CallsIn.inRound l (callsIn_wide.2 (CA.out _ (Lies.own g (fun x hx=>by simp[hx]))))).mono ?_⟩
           rintro e w1 ⟨pp,qq,rr,rfl,hrt,hb⟩
           obtain⟨g1,rfl⟩:=G.call_ex _ hb
           clear hb g
           revert g1
           intro g
           obtain⟨sy,Ay,ny,cy,By,dy,ky,rfl,rfl,rfl,hny⟩:=rt_null hrt
           have HY3:=Lib.hid hrt
           clear hrt CA hm1 hm1c
           dsimp only
           by_cases hkr:k=s.rk
           ·have hkri:(k:Int)=(s.rk:Int):=by omega
            have HKR:=Lib.hid hkr
            clear hkr
            gi_wp2_with (first|(with_reducible refine yq _ ?_;(try generalize (G.w _).heap.size=bk);(try dsimp only[yi,yj]);(try clear g);intro g))
            refine⟨trivial,?_⟩
            ((try simp only[G.drew_eq,G.drewN_eq]);(refine yq _ ?_;(try generalize (G.w _).heap.size=bk);(try dsimp only[yi,yj]);(try clear g);intro g))
            gi_wp2_with (first|(with_reducible refine yq _ ?_;(try generalize (G.w _).heap.size=bk);(try dsimp only[yi,yj]);(try clear g);intro g))
            have hEQ:takeU x1 s.rk c (k+1) k=takeU x1 s.rk c k k:=by
             have:=HKR.out
             subst this
             exact takeU_self x1 _ c _
            obtain⟨g7,e7⟩:=g.forget 1
            obtain⟨g8,e8⟩:=g7.as (M':=(eb,91,[.pointer (some ⟨sb,0,none⟩),.slice (some ⟨rb,0,none⟩) n capr,.bool sa,.slice Aa na ca,.slice Ba da ka])::(rb,137,rs)::(kb,3,[.int .i64 (s.rk:Int)])::(xb,87,[.pointer (some ⟨eb,0,none⟩)])::(cb,3,[.int .i64 (cols:Int)])::(e2,87,[.pointer (some ⟨eb,0,none⟩)])::((t3++R4)++(res,3,[.int .i64 0])::M)) (by simp)
            rw[e7,e8]
            go_roundw
            case rel=>exact⟨k+1,by go_num,by omega,F3,t3++R4,HA,HB3.out.closeAt (s:=t3) (i:=k) (oc':=rs) (Q':=fun i v u=>(fun(y:Nat→Rat) v u=>∃x,v=.iface ti x∧(fun F y x u=>Q0 F y x u) F3 y x u) (takeU x1 s.rk c (k+1) i) v u) hkn hv3 ⟨u3,rfl,by rw[hEQ,takeU_at];exact HQ3.out⟩ (fun _ _ _=>rfl) (fun j hj _ v u hq=>by obtain⟨x,e,hx⟩:=hq;exact⟨x,e,by rw[takeU_ne _ _ _ hj];exact hx⟩),HOV,g8,rfl⟩
            case measure=>simp[intOf];omega
           ·have hkri:¬ ((k:Int)=(s.rk:Int)):=by omega
            have HKR:=Lib.hid hkr
            clear hkr
            gi_wp2_with (first|(with_reducible refine yq _ ?_;(try generalize (G.w _).heap.size=bk);(try dsimp only[yi,yj]);(try clear g);intro g))
            refine⟨trivial,(CallsIn.inRound l (callsIn_wide.2 (null_any sy Ay By ny cy dy ky _))).mono ?_⟩
            rintro e w1 ⟨rfl,hb⟩
            obtain⟨g1,rfl⟩:=G.call_ex _ hb
            clear hb
            revert g1
            (try dsimp only[List.set_cons_zero,List.set_cons_succ])
            clear g
            intro g
            rw[hny]
            (try dsimp only)
            by_cases hz:x1 k c=0
            ·have hdz:decide (x1 k c=0)=true:=decide_eq_true hz
             have HZ:=Lib.hid hz
             rw[hdz]
             clear hz hny hdz
             gi_wp2_with (first|(with_reducible refine yq _ ?_;(try generalize (G.w _).heap.size=bk);(try dsimp only[yi,yj]);(try clear g);intro g))
             have hEQ:takeU x1 s.rk c (k+1) k=takeU x1 s.rk c k k:=takeU_null x1 HZ.out k
             obtain⟨g7,e7⟩:=g.forget 1
             obtain⟨g8,e8⟩:=g7.as (M':=(eb,91,[.pointer (some ⟨sb,0,none⟩),.slice (some ⟨rb,0,none⟩) n capr,.bool sa,.slice Aa na ca,.slice Ba da ka])::(rb,137,rs)::(kb,3,[.int .i64 (s.rk:Int)])::(xb,87,[.pointer (some ⟨eb,0,none⟩)])::(cb,3,[.int .i64 (cols:Int)])::(e2,87,[.pointer (some ⟨eb,0,none⟩)])::((t3++R4)++(res,3,[.int .i64 0])::M)) (by simp)
             rw[e7,e8]
             go_roundw
             case rel=>exact⟨k+1,by go_num,by omega,F3,t3++R4,HA,HB3.out.closeAt (s:=t3) (i:=k) (oc':=rs) (Q':=fun i v u=>(fun(y:Nat→Rat) v u=>∃x,v=.iface ti x∧(fun F y x u=>Q0 F y x u) F3 y x u) (takeU x1 s.rk c (k+1) i) v u) hkn hv3 ⟨u3,rfl,by rw[hEQ,takeU_at];exact HQ3.out⟩ (fun _ _ _=>rfl) (fun j hj _ v u hq=>by obtain⟨x,e,hx⟩:=hq;exact⟨x,e,by rw[takeU_ne _ _ _ hj];exact hx⟩),HOV,g8,rfl⟩
             case measure=>simp[intOf];omega
            ·have hdz:decide (x1 k c=0)=false:=decide_eq_false hz
             rw[hdz]
             clear hz hny hdz
             gi_wp2_with (first|(with_reducible refine yq _ ?_;(try generalize (G.w _).heap.size=bk);(try dsimp only[yi,yj]);(try clear g);intro g))
             have hrkm:s.rk∈but n k:=mem_but.2 ⟨fun e=>HKR.out e.symm,hrk⟩
             obtain⟨v4,t4,R5,hv4,⟨u4,rfl,hq4⟩,hp4,hrest⟩:=(HB3.out.perm (List.perm_cons_erase hrkm)).open1
             have hq4':Q0 F3 (x1 s.rk) u4 t4:=by rw[←takeU_t x1 s.rk c k];exact hq4
             have HR5:=Lib.hid hrest
             have HQ4:=Lib.hid hq4'
             have HRM:=Lib.hid hrkm
             have ex1:x1 k=s.x k:=by rw[←HX.out,divR_ne _ _ HKR.out]
             have ex2:x1 s.rk=fun j=>s.x s.rk j/s.x s.rk c:=by rw[←HX.out,divR_t]
             have CT:=Lib.hid (fun(pb qb rb':Value) (F:Frag) (M:List Blk) (I:List Frag) (R':List Blk) (n₀:Nat) (h:Q0 F (x1 k) u3 t3) (h2:Q0 F (x1 s.rk) u4 t4) (hf:F.Rt pb qb rb' (rawOf (x1 k c))) (g:G w0 [] M (F::I)) (hM:M.drop n₀=t3++(t4++R')) (hS:InF (sumF sb) I) (hnw:F.over F0 w0) (hT:Tab w0)=>KD.take n₀ (x1 k) (x1 s.rk) (x1 k c) u3 u4 t3 t4 R' pb qb rb' sb h h2 hf (by rw[ex1];exact HFI.out.ent k hkn c (by have:=HB.out;omega)) (fun j hj=>⟨by rw[ex1];exact HFI.out.ent k hkn j hj,by rw[ex2];exact HFI.out.quo j hj,by rw[ex1,ex2];exact HFI.out.pro k hkn j hj,by rw[ex1,ex2];exact HFI.out.dif k hkn j hj⟩) (by have:=HB.out;omega) g hM hS hnw hT)
             have hm3:=KD.mtake
             have hm3c:=KD.ctake
             have hm4:=KD.ntake
             clear hrest hq4 hq4' hrkm ex1 ex2
             obtain⟨g4,e4⟩:=g.perm (List.Perm.cons _ (List.Perm.cons _ (List.Perm.cons _ (List.Perm.cons _ (List.Perm.cons _ (List.Perm.cons _ (List.Perm.cons _ (List.Perm.append_left t3 ((hp4.append_right _).trans (List.Perm.of_eq (List.append_assoc _ _ _)))))))))))
             rw[e4]
             clear e4 hp4 g
             revert g4
             intro g
             refine wpIn_round_held (S:=G.heldN g [true,true,true,false,false,false,true]) (by kernel_rfl) (by rintro⟨a,w,h⟩;exact HLO _ _ h) (by kernel_rfl) (by simp[G.heldN,HeldN,go_sem]) (fun hHeld=>?_)
             refine tk0 [0,1,2,3,4,5,6,7,8,9,10,11,12,13,14,15] ?_
             repeat (refine tkc rfl (by kernel_rfl) (fun _ _ _ h=>(HPA _ _ _ h).elim) (by rfl) ‹_› (by intro w hSw;(try dsimp only at hSw);go_simp;(try with_reducible rfl)) ?_;try simp only[Act.put,yk,yl,yn,yo,yi,yj])
             refine tkn ?_
             refine wpAnyH_ready (rs:=[16]) (by kernel_rfl) (by simp) ?_
             refine AllReadyH.cons rfl (fun K hK=>?_) AllReadyH.nil
             ·(try simp only[Act.put,yk,yl,yn,yo,yi,yj])
              go_simp
              skip
              (try(refine cmark _ ?_;(try dsimp only[yi,yj]);(try clear g);intro g))
              (refine(CT.out _ _ _ F3 _ _ (R5++(res,3,[.int .i64 0])::M) 7 HQ3.out HQ4.out HY3.out g (by rfl) (InF.tail HS.out) HOV.out HT.out).mono ?_;rintro e w1 ⟨rfl,t',F4,g',rfl,hq5,hle4,hov4⟩;(try clear g);revert g';dsimp only[List.take,List.cons_append,List.nil_append];intro g)
              refine hK.out _ _ (by simp[G.heldN,HeldN,go_sem]) (fun hHeld=>?_)
              clear hK K
              (try simp only[Act.put,yk,yl,yn,yo,yi,yj])
              refine wpAnyH_done (by kernel_rfl) ?_ _
              (as_aux_lemma=>
               (try clear hHeld)
               ((try simp only[G.drew_eq,G.drewN_eq]);(refine yq _ ?_;(try generalize (G.w _).heap.size=bk);(try dsimp only[yi,yj]);(try clear g);intro g))
               gi_wp2_with (first|(with_reducible refine yq _ ?_;(try generalize (G.w _).heap.size=bk);(try dsimp only[yi,yj]);(try clear g);intro g))
               have k5:=HR5.out.next (oc':=rs) (Q':=fun i v u=>(fun(y:Nat→Rat) v u=>∃x,v=.iface ti x∧(fun F y x u=>Q0 F y x u) F4 y x u) (takeU x1 s.rk c (k+1) i) v u) (fun _ _=>rfl) (fun j hj v u hq=>by obtain⟨x,e,hx⟩:=hq;exact⟨x,e,by rw[takeU_ne _ _ _ (mem_but.1 (List.mem_of_mem_erase hj)).1];exact KD.mono hx hle4⟩)
               have k6:=k5.close1 (i:=s.rk) (s:=t4) (v:=.iface ti u4) (fun h=>((List.Nodup.mem_erase_iff (List.Nodup.erase _ List.nodup_range)).1 h).1 rfl) hv4 ⟨u4,rfl,by rw[takeU_t];exact KD.mono HQ4.out hle4⟩
               have k7:=k6.perm (List.perm_cons_erase HRM.out).symm
               have k8:=k7.closeAt (s:=t') (i:=k) (oc':=rs) (Q':=fun i v u=>(fun(y:Nat→Rat) v u=>∃x,v=.iface ti x∧(fun F y x u=>Q0 F y x u) F4 y x u) (takeU x1 s.rk c (k+1) i) v u) hkn hv3 ⟨u3,rfl,by rw[takeU_row _ HKR.out];exact hq5⟩ (fun _ _ _=>rfl) (fun j hj _ v u hq=>hq)
               obtain⟨g7,e7⟩:=g.forget 1
               obtain⟨g8,e8⟩:=g7.as (M':=(eb,91,[.pointer (some ⟨sb,0,none⟩),.slice (some ⟨rb,0,none⟩) n capr,.bool sa,.slice Aa na ca,.slice Ba da ka])::(rb,137,rs)::(kb,3,[.int .i64 (s.rk:Int)])::(xb,87,[.pointer (some ⟨eb,0,none⟩)])::(cb,3,[.int .i64 (cols:Int)])::(e2,87,[.pointer (some ⟨eb,0,none⟩)])::((t'++(t4++R5))++(res,3,[.int .i64 0])::M)) (by simp)
               rw[e7,e8]
               go_roundw
               case rel=>exact⟨k+1,by go_num,by omega,F4,_,Lib.hid (HA.out.mono hle4),k8,Lib.hid hov4,g8,rfl⟩
               case measure=>simp[intOf];omega)
          ·obtain rfl:k=n:=by omega
           have HK2:=Lib.hid hK2
           clear hK2
           gi_wp2_with (first|(with_reducible refine yq _ ?_;(try generalize (G.w _).heap.size=bk);(try dsimp only[yi,yj]);(try clear g);intro g))
           refine G.any_mark _ ?_
           (try dsimp only[List.set_cons_zero,List.set_cons_succ])
           (try clear g)
           intro g
           refine HQ.out _ _ (fun k o h1 h2=>g.sub N (by simp) k o (HN.out k o h1 h2)) ?_
           obtain⟨g7,e7⟩:=g.lessI (I':=F3::I) (by intro f hf;simp only[List.mem_cons] at hf ⊢;rcases hf with h|h;exact .inl h;exact .inr (.inr h))
           rw[e7]
           refine ElW.make (s:=roundE s c) (F:=F3) (fun F y x u h=>KD.only F y x u h) HA.out (HK2.out.next (fun _ _=>rfl) (fun j hj v u hq=>by obtain⟨x,e,hx⟩:=hq;exact⟨x,e,by show Q0 F3 (takeR (divR s.x s.rk (s.x s.rk c)) s.rk c j) x u;rw[HX.out,←takeU_end x1 s.rk c (List.mem_range.1 hj)];exact hx⟩)) HOV.out g7
         ))
  ·(try simp only[Act.put,yk,yl,yn,yo,yi,yj])
   go_simp
   refine hK.out _ _ (by simp[G.heldN,HeldN,go_sem]) (fun hHeld=>?_)
   clear hK K
   (try simp only[Act.put,yk,yl,yn,yo,yi,yj])
   refine wpAnyH_ready (rs:=[4]) (by kernel_rfl) (by simp) ?_
   refine AllReadyH.cons rfl (fun K hK=>?_) AllReadyH.nil
   ·(try simp only[Act.put,yk,yl,yn,yo,yi,yj])
    go_simp
    refine hK.out _ _ (by simp[G.heldN,HeldN,go_sem]) (fun hHeld=>?_)
    clear hK K
    (try simp only[Act.put,yk,yl,yn,yo,yi,yj])
    refine wpAnyH_ready (rs:=[10]) (by kernel_rfl) (by simp) ?_
    refine AllReadyH.cons rfl (fun K hK=>?_) AllReadyH.nil
    ·(try simp only[Act.put,yk,yl,yn,yo,yi,yj])
     go_simp
     go_at_call 99
     (try(refine cmark _ ?_;(try dsimp only[yi,yj]);(try clear g);intro g))
     refine(CTI.out _ _ _ _ _ _ _ (G.rtI g (by simp) K1.out) (G.rtI g (by simp) HPV.out) (G.sumI g (by exact InF.tail (InF.tail HS.out))) (G.tab g HT.out)).mono ?_
     rintro e w1 ⟨pa,qa,ra,Fa,rfl,ha,hn⟩
     have hnna:=fun k o hk=>Nat.le_trans g.chg.size (hn.new k o hk)
     obtain⟨sa,Aa,na,ca,Ba,da,ka,rfl,rfl,rfl⟩:=ha.shape
     obtain⟨g1,rfl⟩:=G.new_ex _ hn
     clear hn
     (try clear g)
     revert g1
     intro g
     refine hK.out _ _ (by simp[G.heldN,HeldN,go_sem]) (fun hHeld=>?_)
     clear hK K
     (try simp only[Act.put,yk,yl,yn,yo,yi,yj])
     refine tk0 [11,12] ?_
     repeat (refine tkc rfl (by kernel_rfl) (fun _ _ _ h=>(HPA _ _ _ h).elim) (by rfl) ‹_› (by intro w hSw;(try dsimp only at hSw);go_simp;(try with_reducible rfl)) ?_;try simp only[Act.put,yk,yl,yn,yo,yi,yj])
     refine tkn ?_
     refine wpAnyH_ready (rs:=[13]) (by kernel_rfl) (by simp) ?_
     refine AllReadyH.cons rfl (fun K hK=>?_) AllReadyH.nil
     ·(try simp only[Act.put,yk,yl,yn,yo,yi,yj])
      go_simp
      refine hK.out _ _ (by simp[G.heldN,HeldN,go_sem]) (fun hHeld=>?_)
      clear hK K
      (try simp only[Act.put,yk,yl,yn,yo,yi,yj])
      refine wpAnyH_done (by kernel_rfl) ?_ _
      (as_aux_lemma=>
       (try clear hHeld)
       ((try simp only[G.drew_eq,G.drewN_eq]);(refine yq _ ?_;(try generalize (G.w _).heap.size=bk);(try dsimp only[yi,yj]);(try clear g);intro g))
       have CD:=Lib.hid (fun(pb qb rb':Value) (F:Frag) (M:List Blk) (I:List Frag) (R':List Blk) (n₀:Nat) (h:Q0 F (s.x s.rk) u t) (hy:F.Rt pb qb rb' (rawOf (s.x s.rk c))) (g:G w0 [] M (F::I)) (hM:M.drop n₀=t++R') (hS:InF (sumF sb) I) (hnw:F.over F0 w0) (hT:Tab w0)=>KD.div n₀ (s.x s.rk) (s.x s.rk c) u t R' pb qb rb' sb h hy (fun e=>HNE.out (by unfold rn at e;rw[Int.natAbs_eq_zero,Rat.num_eq_zero] at e;exact e)) (HFI.out.ent s.rk hrk c (by have:=HB.out;omega)) (fun j hj=>⟨HFI.out.ent s.rk hrk j hj,HFI.out.quo j hj⟩) (by have:=HB.out;omega) g hM hS hnw hT)
       have hm2:=KD.mdiv
       have hm2c:=KD.cdiv
       obtain⟨F1,g2,e2',hle,hle2,hnew⟩:=g.merge
       rw[e2']
       have HA:=Lib.hid (ha.mono hle2)
       have HPV1:=Lib.hid (HPV.out.mono hle)
       have HQ1:=Lib.hid (KD.mono HQR.out hle)
       have HB1:=Lib.hid (HBT.out.next (oc':=rs) (Q':=fun i v u=>(fun(y:Nat→Rat) v u=>∃x,v=.iface ti x∧(fun F y x u=>Q0 F y x u) F1 y x u) (s.x i) v u) (fun _ _=>rfl) (fun j hj v u hq=>by obtain⟨x,e,hx⟩:=hq;exact⟨x,e,KD.mono hx hle⟩))
       have HOV:Hid (F1.over F0 w0):=Lib.hid (fun k o hk=>(hnew k o hk).elim (K3.out k o) (fun h=> .inr (hnna k o h)))
       clear hle hle2 hnew e2' ha hnna HPV HQR HBT K1 K3 CTI hm1 hm1c g
       revert g2
       intro g
       gi_wp2_with (first|(with_reducible refine yq _ ?_;(try generalize (G.w _).heap.size=bk);(try dsimp only[yi,yj]);(try clear g);intro g))
       ((try simp only[G.drew_eq,G.drewN_eq]);(refine yq _ ?_;(try generalize (G.w _).heap.size=bk);(try dsimp only[yi,yj]);(try clear g);intro g))
       refine wpIn_round_held (S:=G.heldN g [true,true,true,false,false,false,true]) (by kernel_rfl) (by rintro⟨a,w,h⟩;exact HLO _ _ h) (by kernel_rfl) (by simp[G.heldN,HeldN,go_sem]) (fun hHeld=>?_)
       refine tk0 [0,1,2,3,4,5,6,7,8,9,10,11,12,13] ?_
       repeat (refine tkc rfl (by kernel_rfl) (fun _ _ _ h=>(HPA _ _ _ h).elim) (by rfl) ‹_› (by intro w hSw;(try dsimp only at hSw);go_simp;(try with_reducible rfl)) ?_;try simp only[Act.put,yk,yl,yn,yo,yi,yj])
       refine tkn ?_
       refine wpAnyH_ready (rs:=[14]) (by kernel_rfl) (by simp) ?_
       refine AllReadyH.cons rfl (fun K hK=>?_) AllReadyH.nil
       ·(try simp only[Act.put,yk,yl,yn,yo,yi,yj])
        go_simp
        skip
        (try(refine cmark _ ?_;(try dsimp only[yi,yj]);(try clear g);intro g))
        (refine(CD.out _ _ _ F1 _ _ (R'++(res,3,[.int .i64 0])::M) 7 HQ1.out HPV1.out g (by rfl) (InF.tail HS.out) HOV.out HT.out).mono ?_;rintro e w1 ⟨rfl,t',F2,g',rfl,hq2,hle2,hov2⟩;(try clear g);revert g';dsimp only[List.take,List.cons_append,List.nil_append];intro g)
        refine hK.out _ _ (by simp[G.heldN,HeldN,go_sem]) (fun hHeld=>?_)
        clear hK K
        (try simp only[Act.put,yk,yl,yn,yo,yi,yj])
        refine wpAnyH_done (by kernel_rfl) ?_ _
        (as_aux_lemma=>
         (try clear hHeld)
         ((try simp only[G.drew_eq,G.drewN_eq]);(refine yq _ ?_;(try generalize (G.w _).heap.size=bk);(try dsimp only[yi,yj]);(try clear g);intro g))
         obtain⟨x1,hx1⟩:∃x1,divR s.x s.rk (s.x s.rk c)=x1:=⟨_,rfl⟩
         have HX:=Lib.hid hx1
         have hrow:Q0 F2 (x1 s.rk) u t':=by rw[←hx1,divR_t];exact hq2
         have hK2:=HB1.out.closeAt (s:=t') (i:=s.rk) (oc':=rs) (Q':=fun i v u=>(fun(y:Nat→Rat) v u=>∃x,v=.iface ti x∧(fun F y x u=>Q0 F y x u) F2 y x u) (takeU x1 s.rk c 0 i) v u) hrk hv ⟨u,rfl,by rw[takeU_zero];exact hrow⟩ (fun _ _ _=>rfl) (fun j hj _ v u hq=>by obtain⟨x,e,hx⟩:=hq;exact⟨x,e,by rw[takeU_zero,←hx1,divR_ne _ _ hj];exact KD.mono hx hle2⟩)
         have HA2:=Lib.hid (HA.out.mono hle2)
         have HO2:=Lib.hid hov2
         obtain⟨g2,e2'⟩:=g.forget 1
         obtain⟨g5,e5'⟩:=g2.as (M':=(eb,91,[.pointer (some ⟨sb,0,none⟩),.slice (some ⟨rb,0,none⟩) n capr,.bool sa,.slice Aa na ca,.slice Ba da ka])::(rb,137,rs)::(kb,3,[.int .i64 (s.rk:Int)])::(xb,87,[.pointer (some ⟨eb,0,none⟩)])::(cb,3,[.int .i64 (cols:Int)])::(e2,87,[.pointer (some ⟨eb,0,none⟩)])::((t'++R')++(res,3,[.int .i64 0])::M)) (by simp)
         rw[e2',e5']
         clear e2' e5' hx1 hrow hq2 hle2 hov2 g g2 HB1 HQ1 HPV1 HA HOV CD hm2 hm2c
         revert g5
         intro g
         have hRK:=Lib.hid hv
         clear hv
         gi_wp2_with (first|(with_reducible refine yq _ ?_;(try generalize (G.w _).heap.size=bk);(try dsimp only[yi,yj]);(try clear g);intro g))
         gi_loopw [68] (fun i wr=>∃k:Nat,i=.int .i64 (k:Int)∧k≤n∧∃(F:Frag) (R:List Blk),Hid (F.Rt (.bool sa) (.slice Aa na ca) (.slice Ba da ka) (rawOf (s.det*s.x s.rk c)))∧OwnOn (List.range n) (fun i v u=>(fun(y:Nat→Rat) v u=>∃x,v=.iface ti x∧(fun F y x u=>Q0 F y x u) F y x u) (takeU x1 s.rk c k i) v u) R rs∧Hid (F.over F0 w0)∧∃g:G w0 [] ((eb,91,[.pointer (some ⟨sb,0,none⟩),.slice (some ⟨rb,0,none⟩) n capr,.bool sa,.slice Aa na ca,.slice Ba da ka])::(rb,137,rs)::(kb,3,[.int .i64 (s.rk:Int)])::(xb,87,[.pointer (some ⟨eb,0,none⟩)])::(cb,3,[.int .i64 (cols:Int)])::(e2,87,[.pointer (some ⟨eb,0,none⟩)])::(R++(res,3,[.int .i64 0])::M)) (F::N::I),wr=g.w) (fun i _=>n-(intOf i).toNat)
         case atStart=>exact⟨0,rfl,by omega,F2,_,HA2,hK2,HO2,g,rfl⟩
         case round=>
          clear g hK2 HA2 HO2
          obtain⟨k,rfl,hk,F3,R3,HA,hK2,HOV,g,rfl⟩:=hrel
          by_cases hkn:k<n
          ·have hki:(k:Int)<(n:Int):=by omega
           obtain⟨v3,t3,R4,hv3,⟨u3,rfl,hq3⟩,hp3,hbut3⟩:=hK2.openAt hkn
           have hq3':Q0 F3 (x1 k) u3 t3:=by rw[←takeU_at x1 s.rk c k];exact hq3
           obtain⟨g4,e4⟩:=g.perm (M':=(eb,91,[.pointer (some ⟨sb,0,none⟩),.slice (some ⟨rb,0,none⟩) n capr,.bool sa,.slice Aa na ca,.slice Ba da ka])::(rb,137,rs)::(kb,3,[.int .i64 (s.rk:Int)])::(xb,87,[.pointer (some ⟨eb,0,none⟩)])::(cb,3,[.int .i64 (cols:Int)])::(e2,87,[.pointer (some ⟨eb,0,none⟩)])::(t3++(R4++(res,3,[.int .i64 0])::M))) (((((((hp3.append_right _).trans (List.Perm.of_eq (List.append_assoc _ _ _))).cons _).cons _).cons _).cons _).cons _|>.cons _)
           rw[e4]
           have HB3:=Lib.hid hbut3
           have HQ3:=Lib.hid hq3'
           have CA:=Lib.hid (fun w h'=>KD.entry c F3 (x1 k) u3 t3 hq3' (by have:=HB.out;omega) w h')
           have hm1:=KD.mat
           have hm1c:=KD.cat
           clear e4 hq3 hq3' hbut3 hp3 hK2 g
           revert g4
           intro g
           gi_wp2_with (first|(with_reducible refine yq _ ?_;(try generalize (G.w _).heap.size=bk);(try dsimp only[yi,yj]);(try clear g);intro g))
           refine⟨trivial,(CallsIn.inRound l (callsIn_wide.2 (CA.out _ (Lies.own g (fun x hx=>by simp[hx]))))).mono ?_⟩
           rintro e w1 ⟨pp,qq,rr,rfl,hrt,hb⟩
           obtain⟨g1,rfl⟩:=G.call_ex _ hb
           clear hb g
           revert g1
           intro g
           obtain⟨sy,Ay,ny,cy,By,dy,ky,rfl,rfl,rfl,hny⟩:=rt_null hrt
           have HY3:=Lib.hid hrt
           clear hrt CA hm1 hm1c
           dsimp only
           by_cases hkr:k=s.rk
           ·have hkri:(k:Int)=(s.rk:Int):=by omega
            have HKR:=Lib.hid hkr
            clear hkr
            gi_wp2_with (first|(with_reducible refine yq _ ?_;(try generalize (G.w _).heap.size=bk);(try dsimp only[yi,yj]);(try clear g);intro g))
            refine⟨trivial,?_⟩
            ((try simp only[G.drew_eq,G.drewN_eq]);(refine yq _ ?_;(try generalize (G.w _).heap.size=bk);(try dsimp only[yi,yj]);(try clear g);intro g))
            gi_wp2_with (first|(with_reducible refine yq _ ?_;(try generalize (G.w _).heap.size=bk);(try dsimp only[yi,yj]);(try clear g);intro g))
            have hEQ:takeU x1 s.rk c (k+1) k=takeU x1 s.rk c k k:=by
             have:=HKR.out
             subst this
             exact takeU_self x1 _ c _
            obtain⟨g7,e7⟩:=g.forget 1
            obtain⟨g8,e8⟩:=g7.as (M':=(eb,91,[.pointer (some ⟨sb,0,none⟩),.slice (some ⟨rb,0,none⟩) n capr,.bool sa,.slice Aa na ca,.slice Ba da ka])::(rb,137,rs)::(kb,3,[.int .i64 (s.rk:Int)])::(xb,87,[.pointer (some ⟨eb,0,none⟩)])::(cb,3,[.int .i64 (cols:Int)])::(e2,87,[.pointer (some ⟨eb,0,none⟩)])::((t3++R4)++(res,3,[.int .i64 0])::M)) (by simp)
            rw[e7,e8]
            go_roundw
            case rel=>exact⟨k+1,by go_num,by omega,F3,t3++R4,HA,HB3.out.closeAt (s:=t3) (i:=k) (oc':=rs) (Q':=fun i v u=>(fun(y:Nat→Rat) v u=>∃x,v=.iface ti x∧(fun F y x u=>Q0 F y x u) F3 y x u) (takeU x1 s.rk c (k+1) i) v u) hkn hv3 ⟨u3,rfl,by rw[hEQ,takeU_at];exact HQ3.out⟩ (fun _ _ _=>rfl) (fun j hj _ v u hq=>by obtain⟨x,e,hx⟩:=hq;exact⟨x,e,by rw[takeU_ne _ _ _ hj];exact hx⟩),HOV,g8,rfl⟩
            case measure=>simp[intOf];omega
           ·have hkri:¬ ((k:Int)=(s.rk:Int)):=by omega
            have HKR:=Lib.hid hkr
            clear hkr
            gi_wp2_with (first|(with_reducible refine yq _ ?_;(try generalize (G.w _).heap.size=bk);(try dsimp only[yi,yj]);(try clear g);intro g))
            refine⟨trivial,(CallsIn.inRound l (callsIn_wide.2 (null_any sy Ay By ny cy dy ky _))).mono ?_⟩
            rintro e w1 ⟨rfl,hb⟩
            obtain⟨g1,rfl⟩:=G.call_ex _ hb
            clear hb
            revert g1
            (try dsimp only[List.set_cons_zero,List.set_cons_succ])
            clear g
            intro g
            rw[hny]
            (try dsimp only)
            by_cases hz:x1 k c=0
            ·have hdz:decide (x1 k c=0)=true:=decide_eq_true hz
             have HZ:=Lib.hid hz
             rw[hdz]
             clear hz hny hdz
             gi_wp2_with (first|(with_reducible refine yq _ ?_;(try generalize (G.w _).heap.size=bk);(try dsimp only[yi,yj]);(try clear g);intro g))
             have hEQ:takeU x1 s.rk c (k+1) k=takeU x1 s.rk c k k:=takeU_null x1 HZ.out k
             obtain⟨g7,e7⟩:=g.forget 1
             obtain⟨g8,e8⟩:=g7.as (M':=(eb,91,[.pointer (some ⟨sb,0,none⟩),.slice (some ⟨rb,0,none⟩) n capr,.bool sa,.slice Aa na ca,.slice Ba da ka])::(rb,137,rs)::(kb,3,[.int .i64 (s.rk:Int)])::(xb,87,[.pointer (some ⟨eb,0,none⟩)])::(cb,3,[.int .i64 (cols:Int)])::(e2,87,[.pointer (some ⟨eb,0,none⟩)])::((t3++R4)++(res,3,[.int .i64 0])::M)) (by simp)
             rw[e7,e8]
             go_roundw
             case rel=>exact⟨k+1,by go_num,by omega,F3,t3++R4,HA,HB3.out.closeAt (s:=t3) (i:=k) (oc':=rs) (Q':=fun i v u=>(fun(y:Nat→Rat) v u=>∃x,v=.iface ti x∧(fun F y x u=>Q0 F y x u) F3 y x u) (takeU x1 s.rk c (k+1) i) v u) hkn hv3 ⟨u3,rfl,by rw[hEQ,takeU_at];exact HQ3.out⟩ (fun _ _ _=>rfl) (fun j hj _ v u hq=>by obtain⟨x,e,hx⟩:=hq;exact⟨x,e,by rw[takeU_ne _ _ _ hj];exact hx⟩),HOV,g8,rfl⟩
             case measure=>simp[intOf];omega
            ·have hdz:decide (x1 k c=0)=false:=decide_eq_false hz
             rw[hdz]
             clear hz hny hdz
             gi_wp2_with (first|(with_reducible refine yq _ ?_;(try generalize (G.w _).heap.size=bk);(try dsimp only[yi,yj]);(try clear g);intro g))
             have hrkm:s.rk∈but n k:=mem_but.2 ⟨fun e=>HKR.out e.symm,hrk⟩
             obtain⟨v4,t4,R5,hv4,⟨u4,rfl,hq4⟩,hp4,hrest⟩:=(HB3.out.perm (List.perm_cons_erase hrkm)).open1
             have hq4':Q0 F3 (x1 s.rk) u4 t4:=by rw[←takeU_t x1 s.rk c k];exact hq4
             have HR5:=Lib.hid hrest
             have HQ4:=Lib.hid hq4'
             have HRM:=Lib.hid hrkm
             have ex1:x1 k=s.x k:=by rw[←HX.out,divR_ne _ _ HKR.out]
             have ex2:x1 s.rk=fun j=>s.x s.rk j/s.x s.rk c:=by rw[←HX.out,divR_t]
             have CT:=Lib.hid (fun(pb qb rb':Value) (F:Frag) (M:List Blk) (I:List Frag) (R':List Blk) (n₀:Nat) (h:Q0 F (x1 k) u3 t3) (h2:Q0 F (x1 s.rk) u4 t4) (hf:F.Rt pb qb rb' (rawOf (x1 k c))) (g:G w0 [] M (F::I)) (hM:M.drop n₀=t3++(t4++R')) (hS:InF (sumF sb) I) (hnw:F.over F0 w0) (hT:Tab w0)=>KD.take n₀ (x1 k) (x1 s.rk) (x1 k c) u3 u4 t3 t4 R' pb qb rb' sb h h2 hf (by rw[ex1];exact HFI.out.ent k hkn c (by have:=HB.out;omega)) (fun j hj=>⟨by rw[ex1];exact HFI.out.ent k hkn j hj,by rw[ex2];exact HFI.out.quo j hj,by rw[ex1,ex2];exact HFI.out.pro k hkn j hj,by rw[ex1,ex2];exact HFI.out.dif k hkn j hj⟩) (by have:=HB.out;omega) g hM hS hnw hT)
             have hm3:=KD.mtake
             have hm3c:=KD.ctake
             have hm4:=KD.ntake
             clear hrest hq4 hq4' hrkm ex1 ex2
             obtain⟨g4,e4⟩:=g.perm (List.Perm.cons _ (List.Perm.cons _ (List.Perm.cons _ (List.Perm.cons _ (List.Perm.cons _ (List.Perm.cons _ (List.Perm.cons _ (List.Perm.append_left t3 ((hp4.append_right _).trans (List.Perm.of_eq (List.append_assoc _ _ _)))))))))))
             rw[e4]
             clear e4 hp4 g
             revert g4
             intro g
             refine wpIn_round_held (S:=G.heldN g [true,true,true,false,false,false,true]) (by kernel_rfl) (by rintro⟨a,w,h⟩;exact HLO _ _ h) (by kernel_rfl) (by simp[G.heldN,HeldN,go_sem]) (fun hHeld=>?_)
             refine tk0 [0,1,2,3,4,5,6,7,8,9,10,11,12,13,14,15] ?_
             repeat (refine tkc rfl (by kernel_rfl) (fun _ _ _ h=>(HPA _ _ _ h).elim) (by rfl) ‹_› (by intro w hSw;(try dsimp only at hSw);go_simp;(try with_reducible rfl)) ?_;try simp only[Act.put,yk,yl,yn,yo,yi,yj])
             refine tkn ?_
             refine wpAnyH_ready (rs:=[16]) (by kernel_rfl) (by simp) ?_
             refine AllReadyH.cons rfl (fun K hK=>?_) AllReadyH.nil
             ·(try simp only[Act.put,yk,yl,yn,yo,yi,yj])
              go_simp
              skip
              (try(refine cmark _ ?_;(try dsimp only[yi,yj]);(try clear g);intro g))
              (refine(CT.out _ _ _ F3 _ _ (R5++(res,3,[.int .i64 0])::M) 7 HQ3.out HQ4.out HY3.out g (by rfl) (InF.tail HS.out) HOV.out HT.out).mono ?_;rintro e w1 ⟨rfl,t',F4,g',rfl,hq5,hle4,hov4⟩;(try clear g);revert g';dsimp only[List.take,List.cons_append,List.nil_append];intro g)
              refine hK.out _ _ (by simp[G.heldN,HeldN,go_sem]) (fun hHeld=>?_)
              clear hK K
              (try simp only[Act.put,yk,yl,yn,yo,yi,yj])
              refine wpAnyH_done (by kernel_rfl) ?_ _
              (as_aux_lemma=>
               (try clear hHeld)
               ((try simp only[G.drew_eq,G.drewN_eq]);(refine yq _ ?_;(try generalize (G.w _).heap.size=bk);(try dsimp only[yi,yj]);(try clear g);intro g))
               gi_wp2_with (first|(with_reducible refine yq _ ?_;(try generalize (G.w _).heap.size=bk);(try dsimp only[yi,yj]);(try clear g);intro g))
               have k5:=HR5.out.next (oc':=rs) (Q':=fun i v u=>(fun(y:Nat→Rat) v u=>∃x,v=.iface ti x∧(fun F y x u=>Q0 F y x u) F4 y x u) (takeU x1 s.rk c (k+1) i) v u) (fun _ _=>rfl) (fun j hj v u hq=>by obtain⟨x,e,hx⟩:=hq;exact⟨x,e,by rw[takeU_ne _ _ _ (mem_but.1 (List.mem_of_mem_erase hj)).1];exact KD.mono hx hle4⟩)
               have k6:=k5.close1 (i:=s.rk) (s:=t4) (v:=.iface ti u4) (fun h=>((List.Nodup.mem_erase_iff (List.Nodup.erase _ List.nodup_range)).1 h).1 rfl) hv4 ⟨u4,rfl,by rw[takeU_t];exact KD.mono HQ4.out hle4⟩
               have k7:=k6.perm (List.perm_cons_erase HRM.out).symm
               have k8:=k7.closeAt (s:=t') (i:=k) (oc':=rs) (Q':=fun i v u=>(fun(y:Nat→Rat) v u=>∃x,v=.iface ti x∧(fun F y x u=>Q0 F y x u) F4 y x u) (takeU x1 s.rk c (k+1) i) v u) hkn hv3 ⟨u3,rfl,by rw[takeU_row _ HKR.out];exact hq5⟩ (fun _ _ _=>rfl) (fun j hj _ v u hq=>hq)
               obtain⟨g7,e7⟩:=g.forget 1
               obtain⟨g8,e8⟩:=g7.as (M':=(eb,91,[.pointer (some ⟨sb,0,none⟩),.slice (some ⟨rb,0,none⟩) n capr,.bool sa,.slice Aa na ca,.slice Ba da ka])::(rb,137,rs)::(kb,3,[.int .i64 (s.rk:Int)])::(xb,87,[.pointer (some ⟨eb,0,none⟩)])::(cb,3,[.int .i64 (cols:Int)])::(e2,87,[.pointer (some ⟨eb,0,none⟩)])::((t'++(t4++R5))++(res,3,[.int .i64 0])::M)) (by simp)
               rw[e7,e8]
               go_roundw
               case rel=>exact⟨k+1,by go_num,by omega,F4,_,Lib.hid (HA.out.mono hle4),k8,Lib.hid hov4,g8,rfl⟩
               case measure=>simp[intOf];omega)
          ·obtain rfl:k=n:=by omega
           have HK2:=Lib.hid hK2
           clear hK2
           gi_wp2_with (first|(with_reducible refine yq _ ?_;(try generalize (G.w _).heap.size=bk);(try dsimp only[yi,yj]);(try clear g);intro g))
           refine G.any_mark _ ?_
           (try dsimp only[List.set_cons_zero,List.set_cons_succ])
           (try clear g)
           intro g
           refine HQ.out _ _ (fun k o h1 h2=>g.sub N (by simp) k o (HN.out k o h1 h2)) ?_
           obtain⟨g7,e7⟩:=g.lessI (I':=F3::I) (by intro f hf;simp only[List.mem_cons] at hf ⊢;rcases hf with h|h;exact .inl h;exact .inr (.inr h))
           rw[e7]
           refine ElW.make (s:=roundE s c) (F:=F3) (fun F y x u h=>KD.only F y x u h) HA.out (HK2.out.next (fun _ _=>rfl) (fun j hj v u hq=>by obtain⟨x,e,hx⟩:=hq;exact⟨x,e,by show Q0 F3 (takeR (divR s.x s.rk (s.x s.rk c)) s.rk c j) x u;rw[HX.out,←takeU_end x1 s.rk c (List.mem_range.1 hj)];exact hx⟩)) HOV.out g7
         ))
end Go.Proofs.YthhbbnfnejjpiaaGreatDoor
namespace Go.Proofs.YthhbbnfnejjpiaaGreatDoor
open Go.RowKit GW NL MX
theorem plain_kind (m:Nat):Kind 129 193 194 195 m (m) (RowP m) where
 le:=Nat.le_refl m
 entry:=fun c F r u s h hc w hs=>plain_atW m c F r u s h hc w hs
 mat:=plain_mat
 mdiv:=plain_mdiv
 mtake:=plain_mtake
 ntake:=plain_ntake
 cat:=fun args w=>by kernel_rfl
 cdiv:=fun args w=>by kernel_rfl
 ctake:=fun args w=>by kernel_rfl
 only:=RowP.only m
 mono:=fun h hF=>RowP.mono h hF
 div:=fun n₀ r y u s R' pb qb rb sb h hy hy0 hby hbd hm g hM hS hnw hT=>p_div n₀ m r y u s R' pb qb rb sb h hy hy0 hby hbd hm g hM hS hnw hT
 take:=fun n₀ r r2 f u u2 s t R' pb qb rb sb h h2 hf hbf hbd hm g hM hS hnw hT=>p_take n₀ m r r2 f u u2 s t R' pb qb rb sb h h2 hf hbf hbd hm g hM hS hnw hT
theorem plain_run (m n sb eb rb capr cols:Nat)(F0 F:Frag){w0:World}{M:List Blk}{I:List Frag}(s0:El)(hn:n≤1000)(hcm:cols≤m)(hm:m≤1000)(hcap:n≤capr)(hcap2:capr≤9223372036854775807)(hr0:s0.rk=0)(h0:0<n)
  (hfine:∀c,c<cols→∀p,findP (runE n s0 c).x n c (runE n s0 c).rk=some p→Fine n (m) (swapE (runE n s0 c) p) c∧Bd 8192 (runE n s0 c).det) (hT:Tab w0) (hS:InF (sumF sb) I)
  (rs:List Value) (R:List Blk) (p q r:Value) (hp:F.Rt p q r (rawOf s0.det)) (hown:OwnOn (List.range n) (fun i v u=>(fun(y:Nat→Rat) v u=>∃x,v=.iface 129 x∧(fun F y x u=>RowP m F y x u) F y x u) (s0.x i) v u) R rs) (hov:F.over F0 w0)
  (g:G w0 [] ((eb,91,[.pointer (some ⟨sb,0,none⟩),.slice (some ⟨rb,0,none⟩) n capr,p,q,r])::(rb,137,rs)::(R++M)) (F::I)):
  Calls Tryz.prog 63 #[.pointer (some ⟨eb,0,none⟩),.int .i64 (cols:Int)] g.w fun e w'=>e=.returned (.int .i64 ((runE n s0 cols).rk:Int))∧
   ∃(rs:List Value) (R:List Blk) (F:Frag) (p q r:Value),F.Rt p q r (rawOf (runE n s0 cols).det)∧OwnOn (List.range n) (fun i v u=>(fun(y:Nat→Rat) v u=>∃x,v=.iface 129 x∧(fun F y x u=>RowP m F y x u) F y x u) ((runE n s0 cols).x i) v u) R rs∧F.over F0 w0∧
    ∃g':G w0 [] ((eb,91,[.pointer (some ⟨sb,0,none⟩),.slice (some ⟨rb,0,none⟩) n capr,p,q,r])::(rb,137,rs)::(R++M)) (F::I),w'=g'.w:=
 kind_run (plain_kind m) n sb eb rb capr cols F0 F s0 hn hcm hm hcap hcap2 hr0 h0 hfine hT hS rs R p q r hp hown hov g
theorem wide_kind (m m2:Nat):Kind 132 196 197 198 m (m+m2) (RowW m m2) where
 le:=Nat.le_add_right m m2
 entry:=fun c F r u s h hc w hs=>wide_atW m m2 c F r u s h hc w hs
 mat:=wide_mat
 mdiv:=wide_mdiv
 mtake:=wide_mtake
 ntake:=wide_ntake
 cat:=fun args w=>by kernel_rfl
 cdiv:=fun args w=>by kernel_rfl
 ctake:=fun args w=>by kernel_rfl
 only:=RowW.only m m2
 mono:=fun h hF=>RowW.mono h hF
 div:=fun n₀ r y u s R' pb qb rb sb h hy hy0 hby hbd hm g hM hS hnw hT=>w_div n₀ m m2 r y u s R' pb qb rb sb h hy hy0 hby hbd hm g hM hS hnw hT
 take:=fun n₀ r r2 f u u2 s t R' pb qb rb sb h h2 hf hbf hbd hm g hM hS hnw hT=>w_take n₀ m m2 r r2 f u u2 s t R' pb qb rb sb h h2 hf hbf hbd hm g hM hS hnw hT
theorem wide_run (m m2 n sb eb rb capr cols:Nat)(F0 F:Frag){w0:World}{M:List Blk}{I:List Frag}(s0:El)(hn:n≤1000)(hcm:cols≤m)(hm:m+m2≤1000)(hcap:n≤capr)(hcap2:capr≤9223372036854775807)(hr0:s0.rk=0)(h0:0<n)
  (hfine:∀c,c<cols→∀p,findP (runE n s0 c).x n c (runE n s0 c).rk=some p→Fine n (m+m2) (swapE (runE n s0 c) p) c∧Bd 8192 (runE n s0 c).det) (hT:Tab w0) (hS:InF (sumF sb) I)
  (rs:List Value) (R:List Blk) (p q r:Value) (hp:F.Rt p q r (rawOf s0.det)) (hown:OwnOn (List.range n) (fun i v u=>(fun(y:Nat→Rat) v u=>∃x,v=.iface 132 x∧(fun F y x u=>RowW m m2 F y x u) F y x u) (s0.x i) v u) R rs) (hov:F.over F0 w0)
  (g:G w0 [] ((eb,91,[.pointer (some ⟨sb,0,none⟩),.slice (some ⟨rb,0,none⟩) n capr,p,q,r])::(rb,137,rs)::(R++M)) (F::I)):
  Calls Tryz.prog 63 #[.pointer (some ⟨eb,0,none⟩),.int .i64 (cols:Int)] g.w fun e w'=>e=.returned (.int .i64 ((runE n s0 cols).rk:Int))∧
   ∃(rs:List Value) (R:List Blk) (F:Frag) (p q r:Value),F.Rt p q r (rawOf (runE n s0 cols).det)∧OwnOn (List.range n) (fun i v u=>(fun(y:Nat→Rat) v u=>∃x,v=.iface 132 x∧(fun F y x u=>RowW m m2 F y x u) F y x u) ((runE n s0 cols).x i) v u) R rs∧F.over F0 w0∧
    ∃g':G w0 [] ((eb,91,[.pointer (some ⟨sb,0,none⟩),.slice (some ⟨rb,0,none⟩) n capr,p,q,r])::(rb,137,rs)::(R++M)) (F::I),w'=g'.w:=
 kind_run (wide_kind m m2) n sb eb rb capr cols F0 F s0 hn hcm hm hcap hcap2 hr0 h0 hfine hT hS rs R p q r hp hown hov g
end Go.Proofs.YthhbbnfnejjpiaaGreatDoor
