/- Plain facts and contracts of functions of the program, out of walks. Their conditions stand ahead of each. -/
import Derived.Test.YthhbbnfnejjpiaaGreatDoorFo1
import Derived.Test.YthhbbnfnejjpiaaGreatDoorFo2
import Derived.Test.YthhbbnfnejjpiaaGreatDoorFo3
import Derived.Test.YthhbbnfnejjpiaaGreatDoorFo14
import Derived.Test.YthhbbnfnejjpiaaGreatDoorFo15
import Derived.Test.YthhbbnfnejjpiaaGreatDoorFo19
import Derived.Test.YthhbbnfnejjpiaaGreatDoorFo24
import Derived.Below
import Derived.BigQuiet
import Derived.Deep.Draws
import Derived.Deep.LoopGhost
import Derived.Deep.QuietTactic
import Derived.Deep.RegionHeld3
import Derived.Deep.RegionLaw
import Derived.Defers
import Derived.Laws.BytesString
import Derived.Laws.Cells
import Derived.Laws.CopyOwn
import Derived.Laws.CopyRow
import Derived.Laws.NewBlocks
import Derived.Laws.OwnMore
import Derived.Laws.Pointers
import Derived.Laws.Rows
import Derived.Lib.BitFns
import Derived.Lib.Hide
import Derived.Lib.ItoaNum
import Derived.Lib.TrailingZeros
import Derived.LoopIn
import Derived.LoopNIn
import Derived.Maps.AppendAt
import Derived.OrdersHeld
import Derived.OrdersIn
import Derived.OwnWalk
import Derived.OwnWalkIn
import Derived.RangeFuncBound
import Derived.RangeFuncBox
import Derived.RangeFuncCalls
import Derived.RangeFuncLeaves
import Derived.RangeFuncNested
import Derived.RowKit3
import Derived.Shelf.Abstract
import Derived.Shelf.RegionOpen
import Derived.Shelf.Spec.TrailingZeros
import Derived.StillTactics
import Derived.StillTailTactics
import Derived.TacticsInMore
import Derived.Test.YthhbbnfnejjpiaaGreatDoorProg
import Derived.WalkKit
import Derived.WalkLawsBesides
import Derived.WalkMore
import Derived.WalkSpells
set_option linter.unusedVariables false
set_option linter.unusedSimpArgs false
set_option exponentiation.threshold 10000
namespace Go.Proofs.YthhbbnfnejjpiaaGreatDoor
open Go.RowKit GW NL
theorem rPlus3_any (A1 A2:Option Addr)(c1 c2 a b:Nat)(w:World)(h1:SlW w A1 c1 (limbs a))(h2:SlW w A2 c2 (limbs b))(hl1:(limbs a).length≤100000000)(hl2:(limbs b).length≤100000000):
  Calls Tryz.prog 111 #[.slice A1 (limbs a).length c1,.slice A2 (limbs b).length c2] w (RNat (a+b) w):=by
 refine calls_b fun g=>?_
 have C1:=Lib.hid (fun w h1 h2=>radd_any A1 A2 c1 c2 a b w h1 h2 (by omega) (by omega))
 generalize (limbs a).length=n1 at*
 generalize (limbs b).length=n2 at*
 generalize a+b=r at*
 go_enter Tryz.func111,Tryz.ntmps111
 go_wp2_with (with_reducible refine yq _ ?_;(try generalize (G.w _).heap.size=bk);(try dsimp only[yi,yj]);(try clear g);intro g)
 refine(C1.out _ (G.sl g (by simp) h1) (G.sl g (by simp) h2)).mono ?_
 rintro e w1 ⟨X,x,P,rfl,hx,hn⟩
 have ho:=fun k o hk=>Nat.le_trans (G.chg _).size (hn.new k o hk)
 obtain⟨g1,rfl⟩:=G.new_ex _ hn
 clear hn
 (try clear g)
 revert g1
 intro g
 go_wp2_with (with_reducible refine yq _ ?_;(try generalize (G.w _).heap.size=bk);(try dsimp only[yi,yj]);(try clear g);intro g)
 go_ret
 exact⟨X,x,P,rfl,hx,G.pass _ (by simp) ho⟩
theorem rLess3_any (A1 A2:Option Addr)(c1 c2 a b:Nat)(w:World)(h1:SlW w A1 c1 (limbs a))(h2:SlW w A2 c2 (limbs b))(hl1:(limbs a).length≤100000000)(hle:b≤a):
  Calls Tryz.prog 113 #[.slice A1 (limbs a).length c1,.slice A2 (limbs b).length c2] w (RNat (a-b) w):=by
 refine calls_b fun g=>?_
 have C1:=Lib.hid (fun w h1 h2=>rsub_any A1 A2 c1 c2 (limbs a) (limbs b) w h1 h2 (by omega) (limbs_len_mono hle) (by rw[val_limbs,val_limbs];exact hle))
 rw[val_limbs,val_limbs] at C1
 generalize (limbs a).length=n1 at*
 generalize (limbs b).length=n2 at*
 generalize a-b=r at*
 go_enter Tryz.func113,Tryz.ntmps113
 go_wp2_with (with_reducible refine yq _ ?_;(try generalize (G.w _).heap.size=bk);(try dsimp only[yi,yj]);(try clear g);intro g)
 refine(C1.out _ (G.sl g (by simp) h1) (G.sl g (by simp) h2)).mono ?_
 rintro e w1 ⟨X,x,P,rfl,hx,hn⟩
 have ho:=fun k o hk=>Nat.le_trans (G.chg _).size (hn.new k o hk)
 obtain⟨g1,rfl⟩:=G.new_ex _ hn
 clear hn
 (try clear g)
 revert g1
 intro g
 go_wp2_with (with_reducible refine yq _ ?_;(try generalize (G.w _).heap.size=bk);(try dsimp only[yi,yj]);(try clear g);intro g)
 go_ret
 exact⟨X,x,P,rfl,hx,G.pass _ (by simp) ho⟩
set_option maxRecDepth 20000 in
set_option maxHeartbeats 2000000 in
theorem rMinus_any (s:Bool)(A1 A2:Option Addr)(c1 c2 n d:Nat)(w:World)(h1:SlW w A1 c1 (limbs n))(h2:SlW w A2 c2 (limbs d))(hl1:(limbs n).length≤10000000)(hl2:(limbs d).length≤10000000):
  Calls Tryz.prog 107 #[.agg #[.bool s,.slice A1 (limbs n).length c1,.slice A2 (limbs d).length c2]] w fun e w'=>∃A c F B k H,e=.returned (.agg #[.bool (!s&&decide (n≠0)),.slice A (limbs n).length c,.slice B (limbs d).length k])∧F.Sl A c (limbs n)∧H.Sl B k (limbs d)∧New w w' F∧New w w' H:=by
 refine calls_b fun g=>?_
 have H1:=Lib.hid h1
 have H2:=Lib.hid h2
 have COn:=Lib.hid (fun A c w h=>own_any A c (limbs n) w h (by omega))
 have COd:=Lib.hid (fun A c w h=>own_any A c (limbs d) w h (by omega))
 unfold RLim at COn COd
 obtain⟨bb,hbb⟩:∃bb,(!s&&decide (n≠0))=bb:=⟨_,rfl⟩
 rw[hbb]
 have hn0:(n≠0↔0<(limbs n).length):=⟨fun h=>(limbs_ne h).2,fun h e=>by rw[e,limbs_len0] at h;omega⟩
 generalize (limbs n).length=ln at*
 generalize (limbs d).length=ld at*
 have hbs:(s=true∧bb=false)∨(s=false∧decide (0<ln)=bb):=by
  rcases s with _|_
  ·right;exact⟨rfl,by rw[←hbb,Bool.not_false,Bool.true_and];exact decide_eq_decide.2 hn0.symm⟩
  ·left;exact⟨rfl,by rw[←hbb,Bool.not_true,Bool.false_and]⟩
 clear hbb hn0 h1 h2
 rcases hbs with⟨rfl,hbb3⟩|⟨rfl,hbb3⟩
 ·subst hbb3
  go_enter Tryz.func107,Tryz.ntmps107
  go_wp2_with (with_reducible refine yq _ ?_;(try generalize (G.w _).heap.size=bk);(try dsimp only[yi,yj]);(try clear g);intro g)
  refine wp_region_held_drew (S:=G.heldN g [false,true]) (by kernel_rfl) (by simp[G.heldN,HeldN,go_sem]) (fun hHeld=>?_)
  refine tk0 [0,1,2,3,4,5,6,7,8,9,10,12,13] ?_
  repeat (first|(refine tkc rfl (by kernel_rfl) (fun _ _ _ h=>h) (by rfl) ‹_› (by intro w hSw;(try dsimp only at hSw);go_simp;(try with_reducible rfl)) ?_;try simp only[Act.put,yk,yl,yn,yo,yi,yj])|(refine tks rfl (by kernel_rfl) (fun _ _ _ h=>h) (by rfl) ‹_› ?_;try simp only[Act.put,yk,yl,yn,yo,yi,yj]))
  refine tkn ?_
  refine wpAnyH_ready (rs:=[11]) (by kernel_rfl) (by simp) ?_
  refine AllReadyH.cons rfl (fun K hK=>?_) AllReadyH.nil
  go_simp
  go_at_call 124
  (with_reducible refine(COn.out A1 c1 _ ?_).mono ?_);(· exact G.sl _ (by simp) H1.out)
  rintro e w1 ⟨X,x,P,rfl,hx,hn1⟩
  have ho1:=fun k o hk=>Nat.le_trans (G.chg _).size (hn1.new k o hk)
  obtain⟨g1,rfl⟩:=G.new_ex _ hn1
  clear hn1 hHeld
  refine hK.out _ _ (by simp[G.heldN,HeldN,go_sem]) (fun hHeld=>?_)
  clear hK K
  (try simp only[Act.put,List.setIfInBounds_toArray,List.set_cons_zero,List.set_cons_succ])
  refine wpAnyH_ready (rs:=[14]) (by kernel_rfl) (by simp) ?_
  refine AllReadyH.cons rfl (fun K hK=>?_) AllReadyH.nil
  go_simp
  go_at_call 124
  (with_reducible refine(COd.out A2 c2 _ ?_).mono ?_);(· exact G.sl _ (by simp) H2.out)
  rintro e w1 ⟨Y,y,Q,rfl,hy,hn2⟩
  have ho2:=fun k o hk=>Nat.le_trans (G.chg _).size (hn2.new k o hk)
  obtain⟨g2,rfl⟩:=G.new_ex _ hn2
  clear hn2 hHeld
  refine hK.out _ _ (by simp[G.heldN,HeldN,go_sem]) (fun hHeld=>?_)
  clear hK K
  (try simp only[Act.put,List.setIfInBounds_toArray,List.set_cons_zero,List.set_cons_succ])
  refine tk0 [15] ?_
  repeat (refine tkc rfl (by kernel_rfl) (fun _ _ _ h=>h) (by rfl) ‹_› (by intro w hSw;(try dsimp only at hSw);go_simp;(try with_reducible rfl)) ?_;try simp only[Act.put,yk,yl,yn,yo,yi,yj])
  refine tkn ?_
  clear hHeld
  refine wpAnyH_ready (rs:=[16]) (by kernel_rfl) (by simp) ?_
  refine AllReadyH.cons rfl (fun K hK=>?_) AllReadyH.nil
  go_simp
  refine hK.out _ _ (by simp[G.heldN,HeldN,go_sem]) (fun hHeld=>?_)
  clear hK K
  (try simp only[Act.put,List.setIfInBounds_toArray,List.set_cons_zero,List.set_cons_succ])
  refine wpAnyH_done (by kernel_rfl) ?_ _
  go_wp2_with (with_reducible refine yq _ ?_;(try generalize (G.w _).heap.size=bk);(try dsimp only[yi,yj]);(try clear g);intro g)
  refine bodyPost_ret (v:=.agg #[.bool false,.slice X ln x,.slice Y ld y]) (by simp[results,Tryz.results107,go_sem]) rfl ?_
  exact⟨X,x,P,Y,y,Q,rfl,hx,hy,G.pass _ (by simp) ho1,G.pass _ (by simp) ho2⟩
 ·go_enter Tryz.func107,Tryz.ntmps107
  go_wp2_with (with_reducible refine yq _ ?_;(try generalize (G.w _).heap.size=bk);(try dsimp only[yi,yj]);(try clear g);intro g)
  go_region_held3 (G.heldN g [false,true]) (simp[G.heldN,HeldN,go_sem]) (first
   |(go_at_call 124;(with_reducible refine(COn.out A1 c1 _ ?_).mono ?_);(· exact G.sl _ (by simp) H1.out);rintro e w1 ⟨X,x,P,rfl,hx,hn1⟩;have ho1:=fun k o hk=>Nat.le_trans (G.chg _).size (hn1.new k o hk);obtain⟨g1,rfl⟩:=G.new_ex _ hn1;clear hn1;(try clear g);revert g1;intro g)
   |(go_at_call 124;(with_reducible refine(COd.out A2 c2 _ ?_).mono ?_);(· exact G.sl _ (by simp) H2.out);rintro e w1 ⟨Y,y,Q,rfl,hy,hn2⟩;have ho2:=fun k o hk=>Nat.le_trans (G.chg _).size (hn2.new k o hk);obtain⟨g1,rfl⟩:=G.new_ex _ hn2;clear hn2;(try clear g);revert g1;intro g))
  all_goals go_wp2_with (with_reducible refine yq _ ?_;(try generalize (G.w _).heap.size=bk);(try dsimp only[yi,yj]);(try clear g);intro g)
  all_goals refine bodyPost_ret (v:=.agg #[.bool bb,.slice X ln x,.slice Y ld y]) (by first|(simp[results,Tryz.results107,go_sem];done)|(simp[results,Tryz.results107,go_sem,hbb3];done)) rfl ?_
  all_goals exact⟨X,x,P,Y,y,Q,rfl,hx,hy,G.pass _ (by simp) ho1,G.pass _ (by simp) ho2⟩
set_option maxRecDepth 20000 in
set_option maxHeartbeats 4000000 in
theorem rplus_same (s:Bool)(A1 B1 A2 B2:Option Addr)(c1 k1 c2 k2 n1 d1 n2 d2:Nat)(w:World)(h1:SlW w A1 c1 (limbs n1))(j1:SlW w B1 k1 (limbs d1))(h2:SlW w A2 c2 (limbs n2))(j2:SlW w B2 k2 (limbs d2))
  (l1:(limbs n1).length≤1000000) (m1:(limbs d1).length≤1000000) (l2:(limbs n2).length≤1000000) (m2:(limbs d2).length≤1000000) (z1:d1≠0) (z2:d2≠0):
  Calls Tryz.prog 74 #[.agg #[.bool s,.slice A1 (limbs n1).length c1,.slice B1 (limbs d1).length k1],.agg #[.bool s,.slice A2 (limbs n2).length c2,.slice B2 (limbs d2).length k2]] w (RNf (frac s n1 d1+frac s n2 d2) w):=by
 refine calls_b fun g=>?_
 have C1:=Lib.hid (fun w a b=>rTimes_any A1 B2 c1 k2 n1 d2 w a b (by omega) (by omega))
 have C2:=Lib.hid (fun w a b=>rTimes_any A2 B1 c2 k1 n2 d1 w a b (by omega) (by omega))
 have C3:=Lib.hid (fun w a b=>rTimes_any B1 B2 k1 k2 d1 d2 w a b (by omega) (by omega))
 have q1:=limbs_mul_len n1 d2
 have q2:=limbs_mul_len n2 d1
 have q3:=limbs_mul_len d1 d2
 have hd:d1*d2≠0:=Nat.mul_ne_zero z1 z2
 rw[frac_add_same s z1 z2]
 have CA:=Lib.hid (fun A1 A2 c1 c2 w a b=>rPlus3_any A1 A2 c1 c2 (n1*d2) (n2*d1) w a b (by omega) (by omega))
 have q4:=limbs_add_len (n1*d2) (n2*d1)
 have CL:=Lib.hid (fun A1 A2 c1 c2 w h1 h2=>rLow_any s A1 A2 c1 c2 (n1*d2+n2*d1) (d1*d2) w h1 h2 (by omega) (by omega) hd)
 unfold RNat at C1 C2 C3 CA
 unfold RNf at CL ⊢
 generalize frac s (n1*d2+n2*d1) (d1*d2)=z at*
 clear hd z1 z2
 generalize hX:n1*d2=X at*
 generalize hY:n2*d1=Y at*
 generalize hD:d1*d2=D at*
 clear hX hY hD
 generalize (limbs n1).length=ln1 at*
 generalize (limbs d1).length=ld1 at*
 generalize (limbs n2).length=ln2 at*
 generalize (limbs d2).length=ld2 at*
 generalize rneg z=sz at*
 generalize (limbs (rn z)).length=lz at*
 generalize (limbs z.den).length=mz at*
 cases s
 all_goals
  go_enter Tryz.func74,Tryz.ntmps74
  go_wp2_with (with_reducible refine yq _ ?_;(try generalize (G.w _).heap.size=bk);(try dsimp only[yi,yj]);(try clear g);intro g)
  go_region_held3 (G.heldN g [false,true,true]) (simp[G.heldN,HeldN,go_sem]) (first
   |(go_at_call 97;(with_reducible refine(C1.out _ ?_ ?_).mono ?_);(· exact G.sl _ (by simp) h1);(· exact G.sl _ (by simp) j2);rintro e w1 ⟨X1,x1,P1,rfl,hx1,hn1⟩;obtain⟨g1,rfl⟩:=G.new_ex _ hn1;clear hn1;(try clear g);revert g1;intro g)
   |(go_at_call 97;(with_reducible refine(C2.out _ ?_ ?_).mono ?_);(· exact G.sl _ (by simp) h2);(· exact G.sl _ (by simp) j1);rintro e w1 ⟨X2,x2,P2,rfl,hx2,hn2⟩;obtain⟨g1,rfl⟩:=G.new_ex _ hn2;clear hn2;(try clear g);revert g1;intro g))
  all_goals ((try simp only[G.drew_eq,G.drewN_eq]);(refine yq _ ?_;(try clear g);intro g))
  all_goals go_wp2_with (with_reducible refine yq _ ?_;(try generalize (G.w _).heap.size=bk);(try dsimp only[yi,yj]);(try clear g);intro g)
  (with_reducible refine(C3.out _ ?_ ?_).mono ?_)
  ·exact G.sl _ (by simp) j1
  ·exact G.sl _ (by simp) j2
  rintro e w1 ⟨X3,x3,P3,rfl,hx3,hn3⟩
  obtain⟨g1,rfl⟩:=G.new_ex _ hn3
  clear hn3
  (try clear g)
  revert g1
  intro g
  go_wp2_with (with_reducible refine yq _ ?_;(try generalize (G.w _).heap.size=bk);(try dsimp only[yi,yj]);(try clear g);intro g)
  go_region_held3 (G.heldN g [false,true,true]) (simp[G.heldN,HeldN,go_sem]) (first
   |(go_at_call 111;(with_reducible refine(CA.out _ _ _ _ _ ?_ ?_).mono ?_);(· exact G.sl _ (by simp) hx1);(· exact G.sl _ (by simp) hx2);rintro e w1 ⟨X4,x4,P4,rfl,hx4,hn4⟩;obtain⟨g1,rfl⟩:=G.new_ex _ hn4;clear hn4;(try clear g);revert g1;intro g)
   |(go_at_call 96;(with_reducible refine(CL.out _ _ _ _ _ ?_ ?_).mono ?_);(· exact G.sl _ (by simp) hx4);(· exact G.sl _ (by simp) hx3);rintro e w1 ⟨Y1,y1,Q1,Y2,y2,Q2,rfl,hy1,hy2,hn1,hn2⟩;have ho1:=fun k o hk=>Nat.le_trans (G.chg _).size (hn1.new k o hk);have ho2:=fun k o hk=>Nat.le_trans (G.chg _).size (hn2.new k o hk);obtain⟨g1,rfl⟩:=G.new2_ex _ hn1 hn2;clear hn1 hn2;(try clear g);revert g1;intro g))
  all_goals (first|((try simp only[G.drew_eq,G.drewN_eq]);(refine yq _ ?_;(try clear g);intro g))|skip)
  all_goals go_wp2_with (with_reducible refine yq _ ?_;(try generalize (G.w _).heap.size=bk);(try dsimp only[yi,yj]);(try clear g);intro g)
  all_goals refine bodyPost_ret (v:=.agg #[.bool sz,.slice Y1 lz y1,.slice Y2 mz y2]) (by simp[results,Tryz.results74,go_sem]) rfl ?_
  all_goals exact⟨Y1,y1,Q1,Y2,y2,Q2,rfl,hy1,hy2,G.pass _ (by simp) ho1,G.pass _ (by simp) ho2⟩
set_option maxRecDepth 20000 in
set_option maxHeartbeats 4000000 in
theorem rplus_lt (s t:Bool)(A1 B1 A2 B2:Option Addr)(c1 k1 c2 k2 n1 d1 n2 d2:Nat)(w:World)(h1:SlW w A1 c1 (limbs n1))(j1:SlW w B1 k1 (limbs d1))(h2:SlW w A2 c2 (limbs n2))(j2:SlW w B2 k2 (limbs d2))
  (l1:(limbs n1).length≤1000000) (m1:(limbs d1).length≤1000000) (l2:(limbs n2).length≤1000000) (m2:(limbs d2).length≤1000000) (z1:d1≠0) (z2:d2≠0) (hst:s≠t) (hlt:n1*d2<n2*d1):
  Calls Tryz.prog 74 #[.agg #[.bool s,.slice A1 (limbs n1).length c1,.slice B1 (limbs d1).length k1],.agg #[.bool t,.slice A2 (limbs n2).length c2,.slice B2 (limbs d2).length k2]] w (RNf (frac s n1 d1+frac t n2 d2) w):=by
 refine calls_b fun g=>?_
 have C1:=Lib.hid (fun w a b=>rTimes_any A1 B2 c1 k2 n1 d2 w a b (by omega) (by omega))
 have C2:=Lib.hid (fun w a b=>rTimes_any A2 B1 c2 k1 n2 d1 w a b (by omega) (by omega))
 have C3:=Lib.hid (fun w a b=>rTimes_any B1 B2 k1 k2 d1 d2 w a b (by omega) (by omega))
 have q1:=limbs_mul_len n1 d2
 have q2:=limbs_mul_len n2 d1
 have q3:=limbs_mul_len d1 d2
 have hd:d1*d2≠0:=Nat.mul_ne_zero z1 z2
 rw[frac_add_lt hst z1 z2 hlt]
 have CC:=Lib.hid (fun A1 A2 c1 c2 w a b=>rOrder_any A1 A2 c1 c2 (n1*d2) (n2*d1) w a b (by omega))
 have CA:=Lib.hid (fun A1 A2 c1 c2 w a b=>rLess3_any A1 A2 c1 c2 (n2*d1) (n1*d2) w a b (by omega) (by omega))
 have q4:(limbs (n2*d1-n1*d2)).length≤(limbs (n2*d1)).length:=limbs_len_mono (Nat.sub_le _ _)
 have hcv:ord (n1*d2) (n2*d1)<0:=ord_neg hlt
 generalize ord (n1*d2) (n2*d1)=cv at*
 have CL:=Lib.hid (fun A1 A2 c1 c2 w h1 h2=>rLow_any t A1 A2 c1 c2 (n2*d1-n1*d2) (d1*d2) w h1 h2 (by omega) (by omega) hd)
 unfold RNat at C1 C2 C3 CA
 unfold RNf at CL ⊢
 generalize frac t (n2*d1-n1*d2) (d1*d2)=z at*
 clear hd z1 z2
 generalize hX:n1*d2=X at*
 generalize hY:n2*d1=Y at*
 generalize hD:d1*d2=D at*
 clear hX hY hD
 generalize (limbs n1).length=ln1 at*
 generalize (limbs d1).length=ld1 at*
 generalize (limbs n2).length=ln2 at*
 generalize (limbs d2).length=ld2 at*
 generalize rneg z=sz at*
 generalize (limbs (rn z)).length=lz at*
 generalize (limbs z.den).length=mz at*
 cases s<;>cases t<;>first|exact absurd rfl hst|skip
 all_goals
  go_enter Tryz.func74,Tryz.ntmps74
  go_wp2_with (with_reducible refine yq _ ?_;(try generalize (G.w _).heap.size=bk);(try dsimp only[yi,yj]);(try clear g);intro g)
  go_region_held3 (G.heldN g [false,true,true]) (simp[G.heldN,HeldN,go_sem]) (first
   |(go_at_call 97;(with_reducible refine(C1.out _ ?_ ?_).mono ?_);(· exact G.sl _ (by simp) h1);(· exact G.sl _ (by simp) j2);rintro e w1 ⟨X1,x1,P1,rfl,hx1,hn1⟩;obtain⟨g1,rfl⟩:=G.new_ex _ hn1;clear hn1;(try clear g);revert g1;intro g)
   |(go_at_call 97;(with_reducible refine(C2.out _ ?_ ?_).mono ?_);(· exact G.sl _ (by simp) h2);(· exact G.sl _ (by simp) j1);rintro e w1 ⟨X2,x2,P2,rfl,hx2,hn2⟩;obtain⟨g1,rfl⟩:=G.new_ex _ hn2;clear hn2;(try clear g);revert g1;intro g))
  all_goals ((try simp only[G.drew_eq,G.drewN_eq]);(refine yq _ ?_;(try clear g);intro g))
  all_goals go_wp2_with (with_reducible refine yq _ ?_;(try generalize (G.w _).heap.size=bk);(try dsimp only[yi,yj]);(try clear g);intro g)
  (with_reducible refine(C3.out _ ?_ ?_).mono ?_)
  ·exact G.sl _ (by simp) j1
  ·exact G.sl _ (by simp) j2
  rintro e w1 ⟨X3,x3,P3,rfl,hx3,hn3⟩
  obtain⟨g1,rfl⟩:=G.new_ex _ hn3
  clear hn3
  (try clear g)
  revert g1
  intro g
  go_wp2_with (with_reducible refine yq _ ?_;(try generalize (G.w _).heap.size=bk);(try dsimp only[yi,yj]);(try clear g);intro g)
  (with_reducible refine(CC.out _ _ _ _ _ ?_ ?_).mono ?_)
  ·exact G.sl _ (by simp) hx1
  ·exact G.sl _ (by simp) hx2
  rintro e w1 ⟨rfl,hb⟩
  obtain⟨g1,rfl⟩:=G.call_ex _ hb
  clear hb
  (try clear g)
  revert g1
  intro g
  go_wp2_with (with_reducible refine yq _ ?_;(try generalize (G.w _).heap.size=bk);(try dsimp only[yi,yj]);(try clear g);intro g)
  go_region_held3 (G.heldN g [false,true,true]) (simp[G.heldN,HeldN,go_sem]) (first
   |(go_at_call 113;(with_reducible refine(CA.out _ _ _ _ _ ?_ ?_).mono ?_);(· exact G.sl _ (by simp) hx2);(· exact G.sl _ (by simp) hx1);rintro e w1 ⟨X4,x4,P4,rfl,hx4,hn4⟩;obtain⟨g1,rfl⟩:=G.new_ex _ hn4;clear hn4;(try clear g);revert g1;intro g)
   |(go_at_call 96;(with_reducible refine(CL.out _ _ _ _ _ ?_ ?_).mono ?_);(· exact G.sl _ (by simp) hx4);(· exact G.sl _ (by simp) hx3);rintro e w1 ⟨Y1,y1,Q1,Y2,y2,Q2,rfl,hy1,hy2,hn1,hn2⟩;have ho1:=fun k o hk=>Nat.le_trans (G.chg _).size (hn1.new k o hk);have ho2:=fun k o hk=>Nat.le_trans (G.chg _).size (hn2.new k o hk);obtain⟨g1,rfl⟩:=G.new2_ex _ hn1 hn2;clear hn1 hn2;(try clear g);revert g1;intro g))
  all_goals (first|((try simp only[G.drew_eq,G.drewN_eq]);(refine yq _ ?_;(try clear g);intro g))|skip)
  all_goals go_wp2_with (with_reducible refine yq _ ?_;(try generalize (G.w _).heap.size=bk);(try dsimp only[yi,yj]);(try clear g);intro g)
  all_goals refine bodyPost_ret (v:=.agg #[.bool sz,.slice Y1 lz y1,.slice Y2 mz y2]) (by simp[results,Tryz.results74,go_sem]) rfl ?_
  all_goals exact⟨Y1,y1,Q1,Y2,y2,Q2,rfl,hy1,hy2,G.pass _ (by simp) ho1,G.pass _ (by simp) ho2⟩
set_option maxRecDepth 20000 in
set_option maxHeartbeats 4000000 in
theorem rplus_ge (s t:Bool)(A1 B1 A2 B2:Option Addr)(c1 k1 c2 k2 n1 d1 n2 d2:Nat)(w:World)(h1:SlW w A1 c1 (limbs n1))(j1:SlW w B1 k1 (limbs d1))(h2:SlW w A2 c2 (limbs n2))(j2:SlW w B2 k2 (limbs d2))
  (l1:(limbs n1).length≤1000000) (m1:(limbs d1).length≤1000000) (l2:(limbs n2).length≤1000000) (m2:(limbs d2).length≤1000000) (z1:d1≠0) (z2:d2≠0) (hst:s≠t) (hlt:¬ n1*d2<n2*d1):
  Calls Tryz.prog 74 #[.agg #[.bool s,.slice A1 (limbs n1).length c1,.slice B1 (limbs d1).length k1],.agg #[.bool t,.slice A2 (limbs n2).length c2,.slice B2 (limbs d2).length k2]] w (RNf (frac s n1 d1+frac t n2 d2) w):=by
 refine calls_b fun g=>?_
 have C1:=Lib.hid (fun w a b=>rTimes_any A1 B2 c1 k2 n1 d2 w a b (by omega) (by omega))
 have C2:=Lib.hid (fun w a b=>rTimes_any A2 B1 c2 k1 n2 d1 w a b (by omega) (by omega))
 have C3:=Lib.hid (fun w a b=>rTimes_any B1 B2 k1 k2 d1 d2 w a b (by omega) (by omega))
 have q1:=limbs_mul_len n1 d2
 have q2:=limbs_mul_len n2 d1
 have q3:=limbs_mul_len d1 d2
 have hd:d1*d2≠0:=Nat.mul_ne_zero z1 z2
 rw[frac_add_ge hst z1 z2 hlt]
 have CC:=Lib.hid (fun A1 A2 c1 c2 w a b=>rOrder_any A1 A2 c1 c2 (n1*d2) (n2*d1) w a b (by omega))
 have CA:=Lib.hid (fun A1 A2 c1 c2 w a b=>rLess3_any A1 A2 c1 c2 (n1*d2) (n2*d1) w a b (by omega) (by omega))
 have q4:(limbs (n1*d2-n2*d1)).length≤(limbs (n1*d2)).length:=limbs_len_mono (Nat.sub_le _ _)
 have hcv:¬ ord (n1*d2) (n2*d1)<0:=(by unfold ord;rw[if_neg hlt];split<;>decide)
 generalize ord (n1*d2) (n2*d1)=cv at*
 have CL:=Lib.hid (fun A1 A2 c1 c2 w h1 h2=>rLow_any s A1 A2 c1 c2 (n1*d2-n2*d1) (d1*d2) w h1 h2 (by omega) (by omega) hd)
 unfold RNat at C1 C2 C3 CA
 unfold RNf at CL ⊢
 generalize frac s (n1*d2-n2*d1) (d1*d2)=z at*
 clear hd z1 z2
 generalize hX:n1*d2=X at*
 generalize hY:n2*d1=Y at*
 generalize hD:d1*d2=D at*
 clear hX hY hD
 generalize (limbs n1).length=ln1 at*
 generalize (limbs d1).length=ld1 at*
 generalize (limbs n2).length=ln2 at*
 generalize (limbs d2).length=ld2 at*
 generalize rneg z=sz at*
 generalize (limbs (rn z)).length=lz at*
 generalize (limbs z.den).length=mz at*
 cases s<;>cases t<;>first|exact absurd rfl hst|skip
 all_goals
  go_enter Tryz.func74,Tryz.ntmps74
  go_wp2_with (with_reducible refine yq _ ?_;(try generalize (G.w _).heap.size=bk);(try dsimp only[yi,yj]);(try clear g);intro g)
  go_region_held3 (G.heldN g [false,true,true]) (simp[G.heldN,HeldN,go_sem]) (first
   |(go_at_call 97;(with_reducible refine(C1.out _ ?_ ?_).mono ?_);(· exact G.sl _ (by simp) h1);(· exact G.sl _ (by simp) j2);rintro e w1 ⟨X1,x1,P1,rfl,hx1,hn1⟩;obtain⟨g1,rfl⟩:=G.new_ex _ hn1;clear hn1;(try clear g);revert g1;intro g)
   |(go_at_call 97;(with_reducible refine(C2.out _ ?_ ?_).mono ?_);(· exact G.sl _ (by simp) h2);(· exact G.sl _ (by simp) j1);rintro e w1 ⟨X2,x2,P2,rfl,hx2,hn2⟩;obtain⟨g1,rfl⟩:=G.new_ex _ hn2;clear hn2;(try clear g);revert g1;intro g))
  all_goals ((try simp only[G.drew_eq,G.drewN_eq]);(refine yq _ ?_;(try clear g);intro g))
  all_goals go_wp2_with (with_reducible refine yq _ ?_;(try generalize (G.w _).heap.size=bk);(try dsimp only[yi,yj]);(try clear g);intro g)
  (with_reducible refine(C3.out _ ?_ ?_).mono ?_)
  ·exact G.sl _ (by simp) j1
  ·exact G.sl _ (by simp) j2
  rintro e w1 ⟨X3,x3,P3,rfl,hx3,hn3⟩
  obtain⟨g1,rfl⟩:=G.new_ex _ hn3
  clear hn3
  (try clear g)
  revert g1
  intro g
  go_wp2_with (with_reducible refine yq _ ?_;(try generalize (G.w _).heap.size=bk);(try dsimp only[yi,yj]);(try clear g);intro g)
  (with_reducible refine(CC.out _ _ _ _ _ ?_ ?_).mono ?_)
  ·exact G.sl _ (by simp) hx1
  ·exact G.sl _ (by simp) hx2
  rintro e w1 ⟨rfl,hb⟩
  obtain⟨g1,rfl⟩:=G.call_ex _ hb
  clear hb
  (try clear g)
  revert g1
  intro g
  go_wp2_with (with_reducible refine yq _ ?_;(try generalize (G.w _).heap.size=bk);(try dsimp only[yi,yj]);(try clear g);intro g)
  go_region_held3 (G.heldN g [false,true,true]) (simp[G.heldN,HeldN,go_sem]) (first
   |(go_at_call 113;(with_reducible refine(CA.out _ _ _ _ _ ?_ ?_).mono ?_);(· exact G.sl _ (by simp) hx1);(· exact G.sl _ (by simp) hx2);rintro e w1 ⟨X4,x4,P4,rfl,hx4,hn4⟩;obtain⟨g1,rfl⟩:=G.new_ex _ hn4;clear hn4;(try clear g);revert g1;intro g)
   |(go_at_call 96;(with_reducible refine(CL.out _ _ _ _ _ ?_ ?_).mono ?_);(· exact G.sl _ (by simp) hx4);(· exact G.sl _ (by simp) hx3);rintro e w1 ⟨Y1,y1,Q1,Y2,y2,Q2,rfl,hy1,hy2,hn1,hn2⟩;have ho1:=fun k o hk=>Nat.le_trans (G.chg _).size (hn1.new k o hk);have ho2:=fun k o hk=>Nat.le_trans (G.chg _).size (hn2.new k o hk);obtain⟨g1,rfl⟩:=G.new2_ex _ hn1 hn2;clear hn1 hn2;(try clear g);revert g1;intro g))
  all_goals (first|((try simp only[G.drew_eq,G.drewN_eq]);(refine yq _ ?_;(try clear g);intro g))|skip)
  all_goals go_wp2_with (with_reducible refine yq _ ?_;(try generalize (G.w _).heap.size=bk);(try dsimp only[yi,yj]);(try clear g);intro g)
  all_goals refine bodyPost_ret (v:=.agg #[.bool sz,.slice Y1 lz y1,.slice Y2 mz y2]) (by simp[results,Tryz.results74,go_sem]) rfl ?_
  all_goals exact⟨Y1,y1,Q1,Y2,y2,Q2,rfl,hy1,hy2,G.pass _ (by simp) ho1,G.pass _ (by simp) ho2⟩
theorem rPlus_any (s1 s2:Bool)(A1 B1 A2 B2:Option Addr)(c1 k1 c2 k2 n1 d1 n2 d2:Nat)(w:World)(h1:SlW w A1 c1 (limbs n1))(j1:SlW w B1 k1 (limbs d1))(h2:SlW w A2 c2 (limbs n2))(j2:SlW w B2 k2 (limbs d2))
  (l1:(limbs n1).length≤1000000) (m1:(limbs d1).length≤1000000) (l2:(limbs n2).length≤1000000) (m2:(limbs d2).length≤1000000) (z1:d1≠0) (z2:d2≠0):
  Calls Tryz.prog 74 #[.agg #[.bool s1,.slice A1 (limbs n1).length c1,.slice B1 (limbs d1).length k1],.agg #[.bool s2,.slice A2 (limbs n2).length c2,.slice B2 (limbs d2).length k2]] w (RNf (frac s1 n1 d1+frac s2 n2 d2) w):=by
 by_cases hs:s1=s2
 ·subst hs
  exact rplus_same s1 A1 B1 A2 B2 c1 k1 c2 k2 n1 d1 n2 d2 w h1 j1 h2 j2 l1 m1 l2 m2 z1 z2
 ·by_cases hlt:n1*d2<n2*d1
  ·exact rplus_lt s1 s2 A1 B1 A2 B2 c1 k1 c2 k2 n1 d1 n2 d2 w h1 j1 h2 j2 l1 m1 l2 m2 z1 z2 hs hlt
  ·exact rplus_ge s1 s2 A1 B1 A2 B2 c1 k1 c2 k2 n1 d1 n2 d2 w h1 j1 h2 j2 l1 m1 l2 m2 z1 z2 hs hlt
set_option maxRecDepth 20000 in
set_option maxHeartbeats 4000000 in
theorem rrcheck (s:Bool)(A B:Option Addr)(c k:Nat)(ln ld:List Nat)(w:World)(h1:SlW w A c ln)(h2:SlW w B k ld):
  Calls Tryz.prog 46 #[.agg #[.bool s,.slice A ln.length c,.slice B ld.length k]] w fun e w'=>e=.returned (.int .i64 (rchk s ln ld))∧Below w.heap.size w w':=by
 refine calls_b fun g=>?_
 have CK1:=Lib.hid (fun w h=>rcheck_any A c ln w h)
 have CK2:=Lib.hid (fun w h=>rcheck_any B k ld w h)
 have H1:=Lib.hid h1
 have H2:=Lib.hid h2
 by_cases hx1:chk ln=0
 ·by_cases hx2:chk ld=0
  ·obtain⟨e1,b1,b2⟩:=chk_ok h1.ok hx1
   obtain⟨e2,b3,b4⟩:=chk_ok h2.ok hx2
   have hrc:rchk s ln ld=if val ld=0 then 6 else if(s=true∧val ln=0)∨Nat.gcd (val ln) (val ld)≠1 then 3 else 0:=by
    unfold rchk
    rw[hx1,hx2,if_neg (by decide),if_neg (by decide)]
   rw[hx1] at CK1
   rw[hx2] at CK2
   have CG:=Lib.hid (fun F w hF h1 h2=>rgcd_any F A B c k (val ln) (val ld) w hF h1 h2 (by rw[←e1];omega) (by rw[←e2];omega))
   have CU:=Lib.hid (fun X x w h=>isone_any X x (Nat.gcd (val ln) (val ld)) w h)
   rw[←e1,←e2] at CG
   have z1:(val ln=0∧ln.length=0)∨(val ln≠0∧0<ln.length):=by
    rw[show ln.length=(limbs (val ln)).length by rw[←e1]]
    by_cases h:val ln=0
    ·left;rw[h];exact⟨rfl,by rw[limbs_zero];rfl⟩
    ·right;exact⟨h,(limbs_ne h).2⟩
   have z2:(val ld=0∧ld.length=0)∨(val ld≠0∧0<ld.length):=by
    rw[show ld.length=(limbs (val ld)).length by rw[←e2]]
    by_cases h:val ld=0
    ·left;rw[h];exact⟨rfl,by rw[limbs_zero];rfl⟩
    ·right;exact⟨h,(limbs_ne h).2⟩
   unfold RAli at CG
   clear h1 h2 hx1 hx2 e1 e2 b1 b2 b3 b4
   generalize ln.length=n1 at*
   generalize ld.length=n2 at*
   rw[hrc]
   clear hrc
   generalize val ln=v1 at*
   generalize val ld=v2 at*
   rcases z2 with⟨k1,k2⟩|⟨k1,k2⟩
   ·rw[if_pos k1]
    clear k1
    subst k2
    go_enter Tryz.func46,Tryz.ntmps46
    go_wp2_with (with_reducible refine yq _ ?_;(try generalize (G.w _).heap.size=bk);(try dsimp only[yi,yj]);(try clear g);intro g)
    refine(CK1.out _ (G.sl g (by simp) H1.out)).mono ?_
    rintro e w1 ⟨rfl,hb⟩
    obtain⟨g1,rfl⟩:=G.call_ex _ hb
    clear hb
    (try clear g)
    revert g1
    intro g
    go_wp2_with (with_reducible refine yq _ ?_;(try generalize (G.w _).heap.size=bk);(try dsimp only[yi,yj]);(try clear g);intro g)
    refine(CK2.out _ (G.sl g (by simp) H2.out)).mono ?_
    rintro e w1 ⟨rfl,hb⟩
    obtain⟨g1,rfl⟩:=G.call_ex _ hb
    clear hb
    (try clear g)
    revert g1
    intro g
    go_wp2_with (with_reducible refine yq _ ?_;(try generalize (G.w _).heap.size=bk);(try dsimp only[yi,yj]);(try clear g);intro g)
    go_ret
    exact⟨rfl,G.below _⟩
   ·rw[if_neg k1]
    have k3:((n2:Int)==0)=false:=by rw[beq_eq_false_iff_ne];omega
    by_cases hz:s=true∧v1=0
    ·rw[if_pos (.inl hz)]
     obtain⟨rfl,hz0⟩:=hz
     rcases z1 with⟨k4,k5⟩|⟨k4,k5⟩
     ·clear k4 hz0
      subst k5
      go_enter Tryz.func46,Tryz.ntmps46
      go_wp2_with (with_reducible refine yq _ ?_;(try generalize (G.w _).heap.size=bk);(try dsimp only[yi,yj]);(try clear g);intro g)
      refine(CK1.out _ (G.sl g (by simp) H1.out)).mono ?_
      rintro e w1 ⟨rfl,hb⟩
      obtain⟨g1,rfl⟩:=G.call_ex _ hb
      clear hb
      (try clear g)
      revert g1
      intro g
      go_wp2_with (with_reducible refine yq _ ?_;(try generalize (G.w _).heap.size=bk);(try dsimp only[yi,yj]);(try clear g);intro g)
      refine(CK2.out _ (G.sl g (by simp) H2.out)).mono ?_
      rintro e w1 ⟨rfl,hb⟩
      obtain⟨g1,rfl⟩:=G.call_ex _ hb
      clear hb
      (try clear g)
      revert g1
      intro g
      go_wp2_with (with_reducible refine yq _ ?_;(try generalize (G.w _).heap.size=bk);(try dsimp only[yi,yj]);(try clear g);intro g)
      go_ret
      exact⟨rfl,G.below _⟩
     ·exact absurd hz0 k4
    ·have k6:s=true→((n1:Int)==0)=false:=by
      intro hs
      rcases z1 with⟨k4,k5⟩|⟨k4,k5⟩
      ·exact absurd ⟨hs,k4⟩ hz
      ·rw[beq_eq_false_iff_ne];omega
     have hor:((s=true∧v1=0)∨Nat.gcd v1 v2≠1)↔Nat.gcd v1 v2≠1:=⟨fun h=>h.elim (fun h=>absurd h hz) id,.inr⟩
     simp only[hor]
     clear hor hz z1 k1 k2
     obtain⟨bg,hbg⟩:∃b,decide (Nat.gcd v1 v2=1)=b:=⟨_,rfl⟩
     have hfin:(if Nat.gcd v1 v2≠1 then(3:Int) else 0)=if bg=true then 0 else 3:=by
      rw[←hbg]
      by_cases h:Nat.gcd v1 v2=1
      ·rw[if_neg (by simpa using h),if_pos (by simpa using h)]
      ·rw[if_pos h,if_neg (by simpa using h)]
     rw[hfin]
     rw[hbg] at CU
     clear hfin hbg
     cases s
     all_goals
      (try have k7:=k6 rfl)
      clear k6
      go_enter Tryz.func46,Tryz.ntmps46
      go_wp2_with (with_reducible refine yq _ ?_;(try generalize (G.w _).heap.size=bk);(try dsimp only[yi,yj]);(try clear g);intro g)
      refine(CK1.out _ (G.sl g (by simp) H1.out)).mono ?_
      rintro e w1 ⟨rfl,hb⟩
      obtain⟨g1,rfl⟩:=G.call_ex _ hb
      clear hb
      (try clear g)
      revert g1
      intro g
      go_wp2_with (with_reducible refine yq _ ?_;(try generalize (G.w _).heap.size=bk);(try dsimp only[yi,yj]);(try clear g);intro g)
      refine(CK2.out _ (G.sl g (by simp) H2.out)).mono ?_
      rintro e w1 ⟨rfl,hb⟩
      obtain⟨g1,rfl⟩:=G.call_ex _ hb
      clear hb
      (try clear g)
      revert g1
      intro g
      go_wp2_with (with_reducible refine yq _ ?_;(try generalize (G.w _).heap.size=bk);(try dsimp only[yi,yj]);(try clear g);intro g)
      refine(CG.out (g.fr (heapOf w)) _ (g.fr_sub (by simp)) (g.fr_sl (by simp) (Frag.over_self _ _) H1.out) (g.fr_sl (by simp) (Frag.over_self _ _) H2.out)).mono ?_
      rintro e w1 ⟨Ag,cg,Fg,rfl,hsg,hng⟩
      obtain⟨g1,rfl,hov⟩:=g.newor_ex hng
      clear hng
      (try clear g)
      revert g1
      intro g
      go_wp2_with (with_reducible refine yq _ ?_;(try generalize (G.w _).heap.size=bk);(try dsimp only[yi,yj]);(try clear g);intro g)
      refine(CU.out Ag cg _ (G.sl g (by simp) hsg)).mono ?_
      rintro e w1 ⟨rfl,rfl⟩
      cases bg
      all_goals
       go_wp2_with (with_reducible refine yq _ ?_;(try generalize (G.w _).heap.size=bk);(try dsimp only[yi,yj]);(try clear g);intro g)
       go_ret
       exact⟨rfl,G.below _⟩
  ·have hp:=chk_pos ld
   have hrc:rchk s ln ld=chk ld:=by unfold rchk;rw[if_neg (by simpa using hx1),if_pos hx2]
   rw[hrc]
   rw[hx1] at CK1
   clear hrc hx1 h1 h2
   generalize ln.length=n1 at*
   generalize ld.length=n2 at*
   generalize chk ld=x2 at*
   rcases hp with h|h|h
   ·exact absurd h hx2
   all_goals
    subst h
    clear hx2
    go_enter Tryz.func46,Tryz.ntmps46
    go_wp2_with (with_reducible refine yq _ ?_;(try generalize (G.w _).heap.size=bk);(try dsimp only[yi,yj]);(try clear g);intro g)
    refine(CK1.out _ (G.sl g (by simp) H1.out)).mono ?_
    rintro e w1 ⟨rfl,hb⟩
    obtain⟨g1,rfl⟩:=G.call_ex _ hb
    clear hb
    (try clear g)
    revert g1
    intro g
    go_wp2_with (with_reducible refine yq _ ?_;(try generalize (G.w _).heap.size=bk);(try dsimp only[yi,yj]);(try clear g);intro g)
    refine(CK2.out _ (G.sl g (by simp) H2.out)).mono ?_
    rintro e w1 ⟨rfl,hb⟩
    obtain⟨g1,rfl⟩:=G.call_ex _ hb
    clear hb
    (try clear g)
    revert g1
    intro g
    go_wp2_with (with_reducible refine yq _ ?_;(try generalize (G.w _).heap.size=bk);(try dsimp only[yi,yj]);(try clear g);intro g)
    go_ret
    exact⟨rfl,G.below _⟩
 ·have hp:=chk_pos ln
  have hrc:rchk s ln ld=chk ln:=by unfold rchk;rw[if_pos hx1]
  rw[hrc]
  clear hrc h1 h2
  generalize ln.length=n1 at*
  generalize ld.length=n2 at*
  generalize chk ln=x1 at*
  rcases hp with h|h|h
  ·exact absurd h hx1
  all_goals
   subst h
   clear hx1
   go_enter Tryz.func46,Tryz.ntmps46
   go_wp2_with (with_reducible refine yq _ ?_;(try generalize (G.w _).heap.size=bk);(try dsimp only[yi,yj]);(try clear g);intro g)
   refine(CK1.out _ (G.sl g (by simp) H1.out)).mono ?_
   rintro e w1 ⟨rfl,hb⟩
   obtain⟨g1,rfl⟩:=G.call_ex _ hb
   clear hb
   (try clear g)
   revert g1
   intro g
   go_wp2_with (with_reducible refine yq _ ?_;(try generalize (G.w _).heap.size=bk);(try dsimp only[yi,yj]);(try clear g);intro g)
   go_ret
   exact⟨rfl,G.below _⟩
/-- Fits of numbers of few limbs, and of many. -/
theorem rFits_ok (s:Bool)(A B:Option Addr)(c k n d:Nat)(hn:n≤256)(hd:d≤256)(w:World):
  Calls Tryz.prog 68 #[.agg #[.bool s,.slice A n c,.slice B d k]] w fun e w'=>e=.returned (.tuple #[.agg #[.bool s,.slice A n c,.slice B d k],.int .i64 0])∧Below w.heap.size w w':=by
 refine calls_b fun g=>?_
 have h1:¬ (256:Int)<(n:Int):=by omega
 have h2:¬ (256:Int)<(d:Int):=by omega
 clear hn hd
 go_enter Tryz.func68,Tryz.ntmps68
 go_wp2_with (with_reducible refine yq _ ?_;(try generalize (G.w _).heap.size=bk);(try dsimp only[yi,yj]);(try clear g);intro g)
 refine bodyPost_ret (v:=.tuple #[.agg #[.bool s,.slice A n c,.slice B d k],.int .i64 0]) (by simp[results,Tryz.results68,go_sem]) rfl ?_
 exact⟨rfl,G.below _⟩
/-- Minus and Plus by the numbers of core's Rat. -/
theorem rMinus_x (x:Rat)(A1 A2:Option Addr)(c1 c2:Nat)(w:World)(h1:SlW w A1 c1 (limbs (rn x)))(h2:SlW w A2 c2 (limbs x.den))(hl1:(limbs (rn x)).length≤10000000)(hl2:(limbs x.den).length≤10000000):
  Calls Tryz.prog 107 #[.agg #[.bool (rneg x),.slice A1 (limbs (rn x)).length c1,.slice A2 (limbs x.den).length c2]] w (RNf (-x) w):=by
 unfold RNf
 rw[rneg_neg,rn_neg,Rat.neg_den]
 exact rMinus_any (rneg x) A1 A2 c1 c2 (rn x) x.den w h1 h2 hl1 hl2
theorem rPlus_x (x y:Rat)(A1 B1 A2 B2:Option Addr)(c1 k1 c2 k2:Nat)(w:World)(h1:SlW w A1 c1 (limbs (rn x)))(j1:SlW w B1 k1 (limbs x.den))(h2:SlW w A2 c2 (limbs (rn y)))(j2:SlW w B2 k2 (limbs y.den))
  (l1:(limbs (rn x)).length≤1000000) (m1:(limbs x.den).length≤1000000) (l2:(limbs (rn y)).length≤1000000) (m2:(limbs y.den).length≤1000000):
  Calls Tryz.prog 74 #[.agg #[.bool (rneg x),.slice A1 (limbs (rn x)).length c1,.slice B1 (limbs x.den).length k1],.agg #[.bool (rneg y),.slice A2 (limbs (rn y)).length c2,.slice B2 (limbs y.den).length k2]] w (RNf (x+y) w):=by
 have:=rPlus_any (rneg x) (rneg y) A1 B1 A2 B2 c1 k1 c2 k2 (rn x) x.den (rn y) y.den w h1 j1 h2 j2 l1 m1 l2 m2 x.den_nz y.den_nz
 rwa[frac_self,frac_self] at this
/-- parts that are valid are those of a number -/
theorem rchk_val {s:Bool}{l m:List Nat}(hl:Ok l)(hm:Ok m)(h:rchk s l m=0):∃x:Rat,s=rneg x∧l=limbs (rn x)∧m=limbs x.den∧Bd 8192 x:=by
 unfold rchk at h
 by_cases h1:chk l=0
 ·rw [if_neg (by simpa using h1)] at h
  by_cases h2:chk m=0
  ·rw[if_neg (by simpa using h2)] at h
   by_cases h3:val m=0
   ·rw[if_pos h3] at h;exact absurd h (by decide)
   ·rw[if_neg h3] at h
    by_cases h4:(s=true∧val l=0)∨Nat.gcd (val l) (val m)≠1
    ·rw[if_pos h4] at h;exact absurd h (by decide)
    ·have hg:Nat.gcd (val l) (val m)=1:=Decidable.byContradiction fun h=>h4 (.inr h)
     obtain⟨p1,p2,p3⟩:=frac_parts (s:=s) h3 hg (fun hs h0=>h4 (.inl ⟨hs,h0⟩))
     obtain⟨e1,b1,_⟩:=chk_ok hl h1
     obtain⟨e2,b2,_⟩:=chk_ok hm h2
     exact⟨frac s (val l) (val m),p1.symm,by rw[p2];exact e1,by rw[p3];exact e2,by rw[p2];exact b1,by rw[p3];exact b2⟩
  ·rw[if_pos h2] at h;exact absurd h h2
 ·rw[if_pos h1] at h;exact absurd h h1
theorem rchk_val0 {x:Rat}(h:Bd 8192 x):rchk (rneg x) (limbs (rn x)) (limbs x.den)=0:=by
 unfold rchk
 rw[chk_limbs h.1,chk_limbs h.2,val_limbs,val_limbs,if_neg (by decide),if_neg (by decide),if_neg x.den_nz,if_neg]
 rintro(⟨h1,h2⟩|h1)
 ·exact rneg_ne h1 h2
 ·exact h1 (rgcd x)
set_option maxRecDepth 20000 in
set_option maxHeartbeats 4000000 in
theorem rTimes4_any (s1 s2:Bool)(A1 B1 A2 B2:Option Addr)(c1 k1 c2 k2 n1 d1 n2 d2:Nat)(w:World)(h1:SlW w A1 c1 (limbs n1))(j1:SlW w B1 k1 (limbs d1))(h2:SlW w A2 c2 (limbs n2))(j2:SlW w B2 k2 (limbs d2))
  (l1:(limbs n1).length≤1000000) (m1:(limbs d1).length≤1000000) (l2:(limbs n2).length≤1000000) (m2:(limbs d2).length≤1000000) (z1:d1≠0) (z2:d2≠0):
  Calls Tryz.prog 48 #[.agg #[.bool s1,.slice A1 (limbs n1).length c1,.slice B1 (limbs d1).length k1],.agg #[.bool s2,.slice A2 (limbs n2).length c2,.slice B2 (limbs d2).length k2]] w (RNf (frac (s1 !=s2) (n1*n2) (d1*d2)) w):=by
 refine calls_b fun g=>?_
 have C1:=Lib.hid (fun w a b=>rTimes_any A1 A2 c1 c2 n1 n2 w a b (by omega) (by omega))
 have C2:=Lib.hid (fun w a b=>rTimes_any B1 B2 k1 k2 d1 d2 w a b (by omega) (by omega))
 have q1:=limbs_mul_len n1 n2
 have q2:=limbs_mul_len d1 d2
 have hd:d1*d2≠0:=Nat.mul_ne_zero z1 z2
 obtain⟨s,hs⟩:∃s,(s1 !=s2)=s:=⟨_,rfl⟩
 rw[hs]
 have CL:=Lib.hid (fun A1 A2 c1 c2 w h1 h2=>rLow_any s A1 A2 c1 c2 (n1*n2) (d1*d2) w h1 h2 (by omega) (by omega) hd)
 unfold RNat at C1 C2
 unfold RNf at CL ⊢
 generalize frac s (n1*n2) (d1*d2)=z at*
 clear hd z1 z2 q1 q2
 generalize hX:n1*n2=X at*
 generalize hD:d1*d2=D at*
 clear hX hD
 generalize (limbs n1).length=ln1 at*
 generalize (limbs d1).length=ld1 at*
 generalize (limbs n2).length=ln2 at*
 generalize (limbs d2).length=ld2 at*
 generalize rneg z=sz at*
 generalize (limbs (rn z)).length=lz at*
 generalize (limbs z.den).length=mz at*
 cases s1<;>cases s2
 all_goals
  (first|obtain rfl:s=false:=hs.symm|obtain rfl:s=true:=hs.symm)
  clear hs
  go_enter Tryz.func48,Tryz.ntmps48
  go_wp2_with (with_reducible refine yq _ ?_;(try generalize (G.w _).heap.size=bk);(try dsimp only[yi,yj]);(try clear g);intro g)
  go_region_held3 (G.heldN g [false,true,true]) (simp[G.heldN,HeldN,go_sem]) (first
   |(go_at_call 97;(with_reducible refine(C1.out _ ?_ ?_).mono ?_);(· exact G.sl _ (by simp) h1);(· exact G.sl _ (by simp) h2);rintro e w1 ⟨X1,x1,P1,rfl,hx1,hn1⟩;obtain⟨g1,rfl⟩:=G.new_ex _ hn1;clear hn1;(try clear g);revert g1;intro g)
   |(go_at_call 97;(with_reducible refine(C2.out _ ?_ ?_).mono ?_);(· exact G.sl _ (by simp) j1);(· exact G.sl _ (by simp) j2);rintro e w1 ⟨X2,x2,P2,rfl,hx2,hn2⟩;obtain⟨g1,rfl⟩:=G.new_ex _ hn2;clear hn2;(try clear g);revert g1;intro g)
   |(go_at_call 96;(with_reducible refine(CL.out _ _ _ _ _ ?_ ?_).mono ?_);(· exact G.sl _ (by simp) hx1);(· exact G.sl _ (by simp) hx2);rintro e w1 ⟨Y1,y1,Q1,Y2,y2,Q2,rfl,hy1,hy2,hn1,hn2⟩;have ho1:=fun k o hk=>Nat.le_trans (G.chg _).size (hn1.new k o hk);have ho2:=fun k o hk=>Nat.le_trans (G.chg _).size (hn2.new k o hk);obtain⟨g1,rfl⟩:=G.new2_ex _ hn1 hn2;clear hn1 hn2;(try clear g);revert g1;intro g))
  all_goals (first|((try simp only[G.drew_eq,G.drewN_eq]);(refine yq _ ?_;(try clear g);intro g))|skip)
  all_goals go_wp2_with (with_reducible refine yq _ ?_;(try generalize (G.w _).heap.size=bk);(try dsimp only[yi,yj]);(try clear g);intro g)
  all_goals refine bodyPost_ret (v:=.agg #[.bool sz,.slice Y1 lz y1,.slice Y2 mz y2]) (by simp[results,Tryz.results48,go_sem]) rfl ?_
  all_goals exact⟨Y1,y1,Q1,Y2,y2,Q2,rfl,hy1,hy2,G.pass _ (by simp) ho1,G.pass _ (by simp) ho2⟩
set_option maxRecDepth 20000 in
set_option maxHeartbeats 4000000 in
theorem rOver_any (s1 s2:Bool)(A1 B1 A2 B2:Option Addr)(c1 k1 c2 k2 n1 d1 n2 d2:Nat)(w:World)(h1:SlW w A1 c1 (limbs n1))(j1:SlW w B1 k1 (limbs d1))(h2:SlW w A2 c2 (limbs n2))(j2:SlW w B2 k2 (limbs d2))
  (l1:(limbs n1).length≤1000000) (m1:(limbs d1).length≤1000000) (l2:(limbs n2).length≤1000000) (m2:(limbs d2).length≤1000000) (z1:d1≠0) (z2:n2≠0):
  Calls Tryz.prog 108 #[.agg #[.bool s1,.slice A1 (limbs n1).length c1,.slice B1 (limbs d1).length k1],.agg #[.bool s2,.slice A2 (limbs n2).length c2,.slice B2 (limbs d2).length k2]] w (RNf (frac (s1 !=s2) (n1*d2) (d1*n2)) w):=by
 refine calls_b fun g=>?_
 have C1:=Lib.hid (fun w a b=>rTimes_any A1 B2 c1 k2 n1 d2 w a b (by omega) (by omega))
 have C2:=Lib.hid (fun w a b=>rTimes_any B1 A2 k1 c2 d1 n2 w a b (by omega) (by omega))
 have q1:=limbs_mul_len n1 d2
 have q2:=limbs_mul_len d1 n2
 have hd:d1*n2≠0:=Nat.mul_ne_zero z1 z2
 obtain⟨s,hs⟩:∃s,(s1 !=s2)=s:=⟨_,rfl⟩
 rw[hs]
 have CL:=Lib.hid (fun A1 A2 c1 c2 w h1 h2=>rLow_any s A1 A2 c1 c2 (n1*d2) (d1*n2) w h1 h2 (by omega) (by omega) hd)
 unfold RNat at C1 C2
 unfold RNf at CL ⊢
 generalize frac s (n1*d2) (d1*n2)=z at*
 clear hd z1 z2 q1 q2
 generalize hX:n1*d2=X at*
 generalize hD:d1*n2=D at*
 clear hX hD
 generalize (limbs n1).length=ln1 at*
 generalize (limbs d1).length=ld1 at*
 generalize (limbs n2).length=ln2 at*
 generalize (limbs d2).length=ld2 at*
 generalize rneg z=sz at*
 generalize (limbs (rn z)).length=lz at*
 generalize (limbs z.den).length=mz at*
 cases s1<;>cases s2
 all_goals
  (first|obtain rfl:s=false:=hs.symm|obtain rfl:s=true:=hs.symm)
  clear hs
  go_enter Tryz.func108,Tryz.ntmps108
  go_wp2_with (with_reducible refine yq _ ?_;(try generalize (G.w _).heap.size=bk);(try dsimp only[yi,yj]);(try clear g);intro g)
  go_region_held3 (G.heldN g [false,true,true]) (simp[G.heldN,HeldN,go_sem]) (first
   |(go_at_call 97;(with_reducible refine(C1.out _ ?_ ?_).mono ?_);(· exact G.sl _ (by simp) h1);(· exact G.sl _ (by simp) j2);rintro e w1 ⟨X1,x1,P1,rfl,hx1,hn1⟩;obtain⟨g1,rfl⟩:=G.new_ex _ hn1;clear hn1;(try clear g);revert g1;intro g)
   |(go_at_call 97;(with_reducible refine(C2.out _ ?_ ?_).mono ?_);(· exact G.sl _ (by simp) j1);(· exact G.sl _ (by simp) h2);rintro e w1 ⟨X2,x2,P2,rfl,hx2,hn2⟩;obtain⟨g1,rfl⟩:=G.new_ex _ hn2;clear hn2;(try clear g);revert g1;intro g)
   |(go_at_call 96;(with_reducible refine(CL.out _ _ _ _ _ ?_ ?_).mono ?_);(· exact G.sl _ (by simp) hx1);(· exact G.sl _ (by simp) hx2);rintro e w1 ⟨Y1,y1,Q1,Y2,y2,Q2,rfl,hy1,hy2,hn1,hn2⟩;have ho1:=fun k o hk=>Nat.le_trans (G.chg _).size (hn1.new k o hk);have ho2:=fun k o hk=>Nat.le_trans (G.chg _).size (hn2.new k o hk);obtain⟨g1,rfl⟩:=G.new2_ex _ hn1 hn2;clear hn1 hn2;(try clear g);revert g1;intro g))
  all_goals (first|((try simp only[G.drew_eq,G.drewN_eq]);(refine yq _ ?_;(try clear g);intro g))|skip)
  all_goals go_wp2_with (with_reducible refine yq _ ?_;(try generalize (G.w _).heap.size=bk);(try dsimp only[yi,yj]);(try clear g);intro g)
  all_goals refine bodyPost_ret (v:=.agg #[.bool sz,.slice Y1 lz y1,.slice Y2 mz y2]) (by simp[results,Tryz.results108,go_sem]) rfl ?_
  all_goals exact⟨Y1,y1,Q1,Y2,y2,Q2,rfl,hy1,hy2,G.pass _ (by simp) ho1,G.pass _ (by simp) ho2⟩
theorem rTimes_x (x y:Rat)(A1 B1 A2 B2:Option Addr)(c1 k1 c2 k2:Nat)(w:World)(h1:SlW w A1 c1 (limbs (rn x)))(j1:SlW w B1 k1 (limbs x.den))(h2:SlW w A2 c2 (limbs (rn y)))(j2:SlW w B2 k2 (limbs y.den))
  (l1:(limbs (rn x)).length≤1000000) (m1:(limbs x.den).length≤1000000) (l2:(limbs (rn y)).length≤1000000) (m2:(limbs y.den).length≤1000000):
  Calls Tryz.prog 48 #[.agg #[.bool (rneg x),.slice A1 (limbs (rn x)).length c1,.slice B1 (limbs x.den).length k1],.agg #[.bool (rneg y),.slice A2 (limbs (rn y)).length c2,.slice B2 (limbs y.den).length k2]] w (RNf (x*y) w):=by
 have:=rTimes4_any (rneg x) (rneg y) A1 B1 A2 B2 c1 k1 c2 k2 (rn x) x.den (rn y) y.den w h1 j1 h2 j2 l1 m1 l2 m2 x.den_nz y.den_nz
 rwa[←frac_mul,frac_self,frac_self] at this
theorem rOver_x (x y:Rat)(h0:rn y≠0)(A1 B1 A2 B2:Option Addr)(c1 k1 c2 k2:Nat)(w:World)(h1:SlW w A1 c1 (limbs (rn x)))(j1:SlW w B1 k1 (limbs x.den))(h2:SlW w A2 c2 (limbs (rn y)))(j2:SlW w B2 k2 (limbs y.den))
  (l1:(limbs (rn x)).length≤1000000) (m1:(limbs x.den).length≤1000000) (l2:(limbs (rn y)).length≤1000000) (m2:(limbs y.den).length≤1000000):
  Calls Tryz.prog 108 #[.agg #[.bool (rneg x),.slice A1 (limbs (rn x)).length c1,.slice B1 (limbs x.den).length k1],.agg #[.bool (rneg y),.slice A2 (limbs (rn y)).length c2,.slice B2 (limbs y.den).length k2]] w (RNf (x/y) w):=by
 have:=rOver_any (rneg x) (rneg y) A1 B1 A2 B2 c1 k1 c2 k2 (rn x) x.den (rn y) y.den w h1 j1 h2 j2 l1 m1 l2 m2 x.den_nz h0
 rw[←frac_mul,←frac_inv (rneg y) (n:=rn y) (d:=y.den) h0,frac_self,frac_self] at this
 rw[Rat.div_def]
 exact this
end Go.Proofs.YthhbbnfnejjpiaaGreatDoor
