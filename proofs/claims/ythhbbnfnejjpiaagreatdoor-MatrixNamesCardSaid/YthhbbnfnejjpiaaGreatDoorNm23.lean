/- Plain facts and contracts of functions of the program, out of walks. Their conditions stand ahead of each. -/
import Derived.Test.YthhbbnfnejjpiaaGreatDoorNm1
import Derived.Test.YthhbbnfnejjpiaaGreatDoorNm2
import Derived.Test.YthhbbnfnejjpiaaGreatDoorNm14
import Derived.Test.YthhbbnfnejjpiaaGreatDoorNm15
import Derived.Test.YthhbbnfnejjpiaaGreatDoorNm22
import Derived.Below
import Derived.BigQuiet
import Derived.Deep.Draws
import Derived.Deep.LoopGhost
import Derived.Deep.QuietTactic
import Derived.Deep.RegionHeld3
import Derived.Deep.RegionLaw
import Derived.Defers
import Derived.Laws.BytesString
import Derived.Laws.Cells
import Derived.Laws.Concat
import Derived.Laws.CopyOwn
import Derived.Laws.CopyRow
import Derived.Laws.NewBlocks
import Derived.Laws.OwnMore
import Derived.Laws.Pointers
import Derived.Laws.Rows
import Derived.Lib.BitFns
import Derived.Lib.Hide
import Derived.Lib.ItoaNum
import Derived.Lib.TrailingZeros
import Derived.LoopIn
import Derived.LoopNIn
import Derived.Maps.AppendAt
import Derived.OrdersHeld
import Derived.OrdersIn
import Derived.OwnWalk
import Derived.OwnWalkIn
import Derived.RangeFuncBound
import Derived.RangeFuncBox
import Derived.RangeFuncCalls
import Derived.RangeFuncLeaves
import Derived.RangeFuncNested
import Derived.RowKit3
import Derived.Shelf.Abstract
import Derived.Shelf.RegionOpen
import Derived.Shelf.Spec.TrailingZeros
import Derived.StillTactics
import Derived.StillTailTactics
import Derived.TacticsInMore
import Derived.Test.YthhbbnfnejjpiaaGreatDoorProg
import Derived.WalkKit
import Derived.WalkLawsBesides
import Derived.WalkMore
import Derived.WalkSpells
set_option linter.unusedVariables false
set_option linter.unusedSimpArgs false
set_option exponentiation.threshold 10000
namespace Go.Proofs.YthhbbnfnejjpiaaGreatDoor
open Go.RowKit GW NL
theorem rx_rt {z:Rat}{w:World}{e:Ending}{w':World}(h:RX z w e w'):RT (rawOf z) 0 w e w':=by
 obtain⟨A,c,F,B,k,H,he,hs,ht,n1,n2⟩:=h
 exact⟨_,_,_,F.or H,he,⟨rfl,⟨A,c,rfl,hs.mono (Frag.le_orl F H)⟩,B,k,rfl,ht.mono (Frag.le_orr n1.sub n2.sub)⟩,n1.both n2⟩
theorem qAdd_r (x y z:Rat)(hx:Bd 8192 x)(hy:Bd 8192 y)(hz:Bd 8192 z)(e:x+y=z)(p q r p' q' r':Value)(w:World)(h1:RtW w p q r (rawOf x))(h2:RtW w p' q' r' (rawOf y))(hT:Tab w):
  Calls Tryz.prog 101 #[.agg #[p,q,r],.agg #[p',q',r']] w (RT (rawOf z) 0 w):=by
 obtain⟨rfl,⟨A,c,rfl,hs⟩,B,k,rfl,ht⟩:=h1
 obtain⟨rfl,⟨A2,c2,rfl,hs2⟩,B2,k2,rfl,ht2⟩:=h2
 exact(qAdd_x A B A2 B2 c k c2 k2 x y z hx hy hz e w hs ht hs2 ht2 hT).mono fun _ _ h=>rx_rt h
theorem qSub_r (x y z:Rat)(hx:Bd 8192 x)(hy:Bd 8192 y)(hz:Bd 8192 z)(e:x-y=z)(p q r p' q' r':Value)(w:World)(h1:RtW w p q r (rawOf x))(h2:RtW w p' q' r' (rawOf y))(hT:Tab w):
  Calls Tryz.prog 148 #[.agg #[p,q,r],.agg #[p',q',r']] w (RT (rawOf z) 0 w):=by
 obtain⟨rfl,⟨A,c,rfl,hs⟩,B,k,rfl,ht⟩:=h1
 obtain⟨rfl,⟨A2,c2,rfl,hs2⟩,B2,k2,rfl,ht2⟩:=h2
 exact(qSub_x A B A2 B2 c k c2 k2 x y z hx hy hz e w hs ht hs2 ht2 hT).mono fun _ _ h=>rx_rt h
theorem qMul_r (x y z:Rat)(hx:Bd 8192 x)(hy:Bd 8192 y)(hz:Bd 8192 z)(e:x*y=z)(p q r p' q' r':Value)(w:World)(h1:RtW w p q r (rawOf x))(h2:RtW w p' q' r' (rawOf y))(hT:Tab w):
  Calls Tryz.prog 29 #[.agg #[p,q,r],.agg #[p',q',r']] w (RT (rawOf z) 0 w):=by
 obtain⟨rfl,⟨A,c,rfl,hs⟩,B,k,rfl,ht⟩:=h1
 obtain⟨rfl,⟨A2,c2,rfl,hs2⟩,B2,k2,rfl,ht2⟩:=h2
 exact(qMul_x A B A2 B2 c k c2 k2 x y z hx hy hz e w hs ht hs2 ht2 hT).mono fun _ _ h=>rx_rt h
theorem qDiv_r (x y z:Rat)(hx:Bd 8192 x)(hy:Bd 8192 y)(hz:Bd 8192 z)(h0:rn y≠0)(e:x/y=z)(p q r p' q' r':Value)(w:World)(h1:RtW w p q r (rawOf x))(h2:RtW w p' q' r' (rawOf y))(hT:Tab w):
  Calls Tryz.prog 149 #[.agg #[p,q,r],.agg #[p',q',r']] w (RT (rawOf z) 0 w):=by
 obtain⟨rfl,⟨A,c,rfl,hs⟩,B,k,rfl,ht⟩:=h1
 obtain⟨rfl,⟨A2,c2,rfl,hs2⟩,B2,k2,rfl,ht2⟩:=h2
 exact(qDiv_x A B A2 B2 c k c2 k2 x y z hx hy hz h0 e w hs ht hs2 ht2 hT).mono fun _ _ h=>rx_rt h
theorem qNeg_r (x z:Rat)(hx:Bd 8192 x)(e: -x=z)(p q r:Value)(w:World)(h1:RtW w p q r (rawOf x))(hT:Tab w):
  Calls Tryz.prog 134 #[.agg #[p,q,r]] w (RT (rawOf z) 0 w):=by
 obtain⟨rfl,⟨A,c,rfl,hs⟩,B,k,rfl,ht⟩:=h1
 exact(qNeg_x A B c k x z hx e w hs ht hT).mono fun _ _ h=>rx_rt h
theorem qOf1_r (a:Int)(z:Rat)(hz:Bd 8192 z)(e:(a:Rat)=z)(h1: -9223372036854775808≤a)(h2:a<9223372036854775808)(w:World)(hT:Tab w):
  Calls Tryz.prog 105 #[.int .i64 a,.int .i64 1] w (RT (rawOf z) 0 w):=by
 refine(qOf_x a 1 z (by decide) hz ?_ h1 h2 (by decide) (by decide) w hT).mono fun _ _ h=>rx_rt h
 rw[←e]
 unfold frac
 have k:(if(decide (a<0) !=decide ((1:Int)<0))=true then -((a.natAbs:Nat):Int) else((a.natAbs:Nat):Int))=a:=by
  rw[show decide ((1:Int)<0)=false from rfl]
  by_cases h:a<0
  ·rw[decide_eq_true h,if_pos (by decide)];omega
  ·rw[decide_eq_false h,if_neg (by decide)];omega
 rw[k]
 show mkRat a 1=(a:Rat)
 rw[Rat.mkRat_one]
/-- rat.Check of any number in memory -/
theorem qCheck_r (t:Raw)(p q r:Value)(w:World)(h1:RtW w p q r t)(hT:Tab w):
  Calls Tryz.prog 110 #[.agg #[p,q,r]] w fun e w'=>e=.returned (.int .i64 (rchk t.1 t.2.1 t.2.2))∧Below w.heap.size w w':=by
 obtain⟨rfl,⟨A,c,rfl,hs⟩,B,k,rfl,ht⟩:=h1
 exact rcheck t.1 A B c k _ _ w hs ht hT
theorem GW.Frag.Rt.shape {f:Frag}{p q r:Value}{t:Raw}(h:f.Rt p q r t):∃s A n c B d k,p=.bool s∧q=.slice A n c∧r=.slice B d k:=by
 obtain⟨h1,⟨A,c,h2,_⟩,B,k,h3,_⟩:=h
 exact⟨_,A,_,c,B,_,k,h1,h2,h3⟩
/-- the block of a computation that has noted no error -/
def SumW (w:World)(sb:Nat):Prop:=w.heap[sb]?=some (.cells [Value.int .i64 0].toArray 78 (0,0))
theorem SumW.below {w w':World}{sb:Nat}(h:SumW w sb)(hb:Below w.heap.size w w'):SumW w' sb:=
 (hb.block _ (Array.getElem?_eq_some_iff.1 h).1).trans h
theorem G.sum {w0:World}{M:List Blk}{I:List Frag}(g:G w0 [] M I){sb:Nat}(h:SumW w0 sb):SumW g.w sb:=h.below g.below
theorem G.rtI {w0:World}{X:List Nat}{M:List Blk}{I:List Frag}(g:G w0 X M I){f:Frag}(hf:f∈I){p q r:Value}{t:Raw}(h:f.Rt p q r t):RtW g.w p q r t:=h.mono (g.sub f hf)
theorem G.rwI {w0:World}{X:List Nat}{M:List Blk}{I:List Frag}(g:G w0 X M I){f:Frag}(hf:f∈I){A:Option Addr}{c n:Nat}{x:Nat→Raw}(h:f.Rw A c n x):RwW g.w A c n x:=h.mono (g.sub f hf)
/-- a walk that may write one block of the caller's -/
theorem calls_x {P:Program}{f:FuncId}{args:Array Value}{w:World}{R:Ending→World→Prop}{b:Nat}{T:TypeId}{cs:List Value}(hb:w.heap[b]?=some (.cells cs.toArray T (0,0)))(h:∀g:G w [b] [(b,T,cs)] [],Calls P f args g.w R):Calls P f args w R:=
 h ⟨w,Chg.refl _ w,by intro m hm;rw[List.mem_singleton.1 hm];exact hb,by intro m hm;rw[List.mem_singleton.1 hm];exact .inr (by simp),by simp,by simp,by simp⟩
theorem G.belowX {w0:World}{b:Nat}{T:TypeId}{cs:List Value}{M:List Blk}{I:List Frag}(g:G w0 [b] M I)(hm:(b,T,cs)∈M)(h0:w0.heap[b]?=some (.cells cs.toArray T (0,0))):Below w0.heap.size w0 g.w:=by
 refine⟨g.chg.os,g.chg.tape,g.chg.output,g.chg.size,fun k hk=>?_⟩
 by_cases e:k=b
 ·subst e
  have:=g.own _ hm
  simp only at this
  rw[this,h0]
 ·exact g.chg.block k hk (by simpa using e)
set_option maxRecDepth 20000 in
theorem stake_any (s:Bool)(A B:Option Addr)(n c d k sb:Nat)(w:World)(h:SumW w sb):
  Calls Tryz.prog 100 #[.pointer (some ⟨sb,0,none⟩),.agg #[.bool s,.slice A n c,.slice B d k],.int .i64 0] w fun e w'=>e=.returned (.agg #[.bool s,.slice A n c,.slice B d k])∧Below w.heap.size w w':=by
 refine calls_x h fun g=>?_
 have H:=Lib.hid h
 clear h
 go_enter Tryz.func100,Tryz.ntmps100
 go_wp2_with (with_reducible refine yq _ ?_;(try generalize (G.w _).heap.size=bk);(try dsimp only[yi,yj]);(try clear g);intro g)
 refine bodyPost_ret (v:=.agg #[.bool s,.slice A n c,.slice B d k]) (by simp[results,Tryz.results100,go_sem]) rfl ?_
 exact⟨rfl,G.belowX _ (by simp) H.out⟩
set_option maxRecDepth 20000 in
theorem splus_r (x y z:Rat)(hx:Bd 8192 x)(hy:Bd 8192 y)(hz:Bd 8192 z)(e:x+y=z)(p q r p' q' r':Value)(sb:Nat)(w:World)(h1:RtW w p q r (rawOf x))(h2:RtW w p' q' r' (rawOf y))(hs:SumW w sb)(hT:Tab w):
  Calls Tryz.prog 59 #[.pointer (some ⟨sb,0,none⟩),.agg #[p,q,r],.agg #[p',q',r']] w (RT1 (rawOf z) w):=by
 refine calls_b fun g=>?_
 have C:=Lib.hid (fun p q r p' q' r' w a b t=>qAdd_r x y z hx hy hz e p q r p' q' r' w a b t)
 obtain⟨s1,A1,n1,c1,B1,d1,k1,rfl,rfl,rfl⟩:=h1.shape
 obtain⟨s2,A2,n2,c2,B2,d2,k2,rfl,rfl,rfl⟩:=h2.shape
 have H1:=Lib.hid h1
 have H2:=Lib.hid h2
 have HS:=Lib.hid hs
 have HT:=Lib.hid hT
 clear h1 h2 hs hT hx hy hz e
 unfold RT at C
 unfold RT1
 generalize rawOf x=tx at*
 generalize rawOf y=ty at*
 generalize rawOf z=tz at*
 go_enter Tryz.func59,Tryz.ntmps59
 go_wp2_with (with_reducible refine yq _ ?_;(try generalize (G.w _).heap.size=bk);(try dsimp only[yi,yj]);(try clear g);intro g)
 refine(C.out _ _ _ _ _ _ _ (G.rtI g (by simp) H1.out) (G.rtI g (by simp) H2.out) (G.tab g HT.out)).mono ?_
 rintro e w1 ⟨pa,qa,ra,Fa,rfl,ha,hn⟩
 have hnna:=fun k o hk=>Nat.le_trans g.chg.size (hn.new k o hk)
 obtain⟨sa,Aa,na,ca,Ba,da,ka,rfl,rfl,rfl⟩:=ha.shape
 obtain⟨g1,rfl⟩:=G.new_ex _ hn
 clear hn
 (try clear g)
 revert g1
 intro g
 go_wp2_with (with_reducible refine yq _ ?_;(try generalize (G.w _).heap.size=bk);(try dsimp only[yi,yj]);(try clear g);intro g)
 refine(stake_any _ _ _ _ _ _ _ _ _ (G.sum g HS.out)).mono ?_
 rintro e w1 ⟨rfl,hb⟩
 obtain⟨g1,rfl⟩:=G.call_ex _ hb
 clear hb
 (try clear g)
 revert g1
 intro g
 go_wp2_with (with_reducible refine yq _ ?_;(try generalize (G.w _).heap.size=bk);(try dsimp only[yi,yj]);(try clear g);intro g)
 refine bodyPost_ret (v:=.agg #[.bool sa,.slice Aa na ca,.slice Ba da ka]) (by simp[results,Tryz.results59,go_sem]) rfl ?_
 exact⟨_,_,_,_,rfl,ha,G.below _,G.sub _ _ (by simp),hnna⟩
set_option maxRecDepth 20000 in
theorem sless_r (x y z:Rat)(hx:Bd 8192 x)(hy:Bd 8192 y)(hz:Bd 8192 z)(e:x-y=z)(p q r p' q' r':Value)(sb:Nat)(w:World)(h1:RtW w p q r (rawOf x))(h2:RtW w p' q' r' (rawOf y))(hs:SumW w sb)(hT:Tab w):
  Calls Tryz.prog 121 #[.pointer (some ⟨sb,0,none⟩),.agg #[p,q,r],.agg #[p',q',r']] w (RT1 (rawOf z) w):=by
 refine calls_b fun g=>?_
 have C:=Lib.hid (fun p q r p' q' r' w a b t=>qSub_r x y z hx hy hz e p q r p' q' r' w a b t)
 obtain⟨s1,A1,n1,c1,B1,d1,k1,rfl,rfl,rfl⟩:=h1.shape
 obtain⟨s2,A2,n2,c2,B2,d2,k2,rfl,rfl,rfl⟩:=h2.shape
 have H1:=Lib.hid h1
 have H2:=Lib.hid h2
 have HS:=Lib.hid hs
 have HT:=Lib.hid hT
 clear h1 h2 hs hT hx hy hz e
 unfold RT at C
 unfold RT1
 generalize rawOf x=tx at*
 generalize rawOf y=ty at*
 generalize rawOf z=tz at*
 go_enter Tryz.func121,Tryz.ntmps121
 go_wp2_with (with_reducible refine yq _ ?_;(try generalize (G.w _).heap.size=bk);(try dsimp only[yi,yj]);(try clear g);intro g)
 refine(C.out _ _ _ _ _ _ _ (G.rtI g (by simp) H1.out) (G.rtI g (by simp) H2.out) (G.tab g HT.out)).mono ?_
 rintro e w1 ⟨pa,qa,ra,Fa,rfl,ha,hn⟩
 have hnna:=fun k o hk=>Nat.le_trans g.chg.size (hn.new k o hk)
 obtain⟨sa,Aa,na,ca,Ba,da,ka,rfl,rfl,rfl⟩:=ha.shape
 obtain⟨g1,rfl⟩:=G.new_ex _ hn
 clear hn
 (try clear g)
 revert g1
 intro g
 go_wp2_with (with_reducible refine yq _ ?_;(try generalize (G.w _).heap.size=bk);(try dsimp only[yi,yj]);(try clear g);intro g)
 refine(stake_any _ _ _ _ _ _ _ _ _ (G.sum g HS.out)).mono ?_
 rintro e w1 ⟨rfl,hb⟩
 obtain⟨g1,rfl⟩:=G.call_ex _ hb
 clear hb
 (try clear g)
 revert g1
 intro g
 go_wp2_with (with_reducible refine yq _ ?_;(try generalize (G.w _).heap.size=bk);(try dsimp only[yi,yj]);(try clear g);intro g)
 refine bodyPost_ret (v:=.agg #[.bool sa,.slice Aa na ca,.slice Ba da ka]) (by simp[results,Tryz.results121,go_sem]) rfl ?_
 exact⟨_,_,_,_,rfl,ha,G.below _,G.sub _ _ (by simp),hnna⟩
set_option maxRecDepth 20000 in
theorem stimes_r (x y z:Rat)(hx:Bd 8192 x)(hy:Bd 8192 y)(hz:Bd 8192 z)(e:x*y=z)(p q r p' q' r':Value)(sb:Nat)(w:World)(h1:RtW w p q r (rawOf x))(h2:RtW w p' q' r' (rawOf y))(hs:SumW w sb)(hT:Tab w):
  Calls Tryz.prog 99 #[.pointer (some ⟨sb,0,none⟩),.agg #[p,q,r],.agg #[p',q',r']] w (RT1 (rawOf z) w):=by
 refine calls_b fun g=>?_
 have C:=Lib.hid (fun p q r p' q' r' w a b t=>qMul_r x y z hx hy hz e p q r p' q' r' w a b t)
 obtain⟨s1,A1,n1,c1,B1,d1,k1,rfl,rfl,rfl⟩:=h1.shape
 obtain⟨s2,A2,n2,c2,B2,d2,k2,rfl,rfl,rfl⟩:=h2.shape
 have H1:=Lib.hid h1
 have H2:=Lib.hid h2
 have HS:=Lib.hid hs
 have HT:=Lib.hid hT
 clear h1 h2 hs hT hx hy hz e
 unfold RT at C
 unfold RT1
 generalize rawOf x=tx at*
 generalize rawOf y=ty at*
 generalize rawOf z=tz at*
 go_enter Tryz.func99,Tryz.ntmps99
 go_wp2_with (with_reducible refine yq _ ?_;(try generalize (G.w _).heap.size=bk);(try dsimp only[yi,yj]);(try clear g);intro g)
 refine(C.out _ _ _ _ _ _ _ (G.rtI g (by simp) H1.out) (G.rtI g (by simp) H2.out) (G.tab g HT.out)).mono ?_
 rintro e w1 ⟨pa,qa,ra,Fa,rfl,ha,hn⟩
 have hnna:=fun k o hk=>Nat.le_trans g.chg.size (hn.new k o hk)
 obtain⟨sa,Aa,na,ca,Ba,da,ka,rfl,rfl,rfl⟩:=ha.shape
 obtain⟨g1,rfl⟩:=G.new_ex _ hn
 clear hn
 (try clear g)
 revert g1
 intro g
 go_wp2_with (with_reducible refine yq _ ?_;(try generalize (G.w _).heap.size=bk);(try dsimp only[yi,yj]);(try clear g);intro g)
 refine(stake_any _ _ _ _ _ _ _ _ _ (G.sum g HS.out)).mono ?_
 rintro e w1 ⟨rfl,hb⟩
 obtain⟨g1,rfl⟩:=G.call_ex _ hb
 clear hb
 (try clear g)
 revert g1
 intro g
 go_wp2_with (with_reducible refine yq _ ?_;(try generalize (G.w _).heap.size=bk);(try dsimp only[yi,yj]);(try clear g);intro g)
 refine bodyPost_ret (v:=.agg #[.bool sa,.slice Aa na ca,.slice Ba da ka]) (by simp[results,Tryz.results99,go_sem]) rfl ?_
 exact⟨_,_,_,_,rfl,ha,G.below _,G.sub _ _ (by simp),hnna⟩
set_option maxRecDepth 20000 in
theorem sover_r (x y z:Rat)(hx:Bd 8192 x)(hy:Bd 8192 y)(hz:Bd 8192 z)(h0:rn y≠0)(e:x/y=z)(p q r p' q' r':Value)(sb:Nat)(w:World)(h1:RtW w p q r (rawOf x))(h2:RtW w p' q' r' (rawOf y))(hs:SumW w sb)(hT:Tab w):
  Calls Tryz.prog 123 #[.pointer (some ⟨sb,0,none⟩),.agg #[p,q,r],.agg #[p',q',r']] w (RT1 (rawOf z) w):=by
 refine calls_b fun g=>?_
 have C:=Lib.hid (fun p q r p' q' r' w a b t=>qDiv_r x y z hx hy hz h0 e p q r p' q' r' w a b t)
 obtain⟨s1,A1,n1,c1,B1,d1,k1,rfl,rfl,rfl⟩:=h1.shape
 obtain⟨s2,A2,n2,c2,B2,d2,k2,rfl,rfl,rfl⟩:=h2.shape
 have H1:=Lib.hid h1
 have H2:=Lib.hid h2
 have HS:=Lib.hid hs
 have HT:=Lib.hid hT
 clear h1 h2 hs hT hx hy hz e h0
 unfold RT at C
 unfold RT1
 generalize rawOf x=tx at*
 generalize rawOf y=ty at*
 generalize rawOf z=tz at*
 go_enter Tryz.func123,Tryz.ntmps123
 go_wp2_with (with_reducible refine yq _ ?_;(try generalize (G.w _).heap.size=bk);(try dsimp only[yi,yj]);(try clear g);intro g)
 refine(C.out _ _ _ _ _ _ _ (G.rtI g (by simp) H1.out) (G.rtI g (by simp) H2.out) (G.tab g HT.out)).mono ?_
 rintro e w1 ⟨pa,qa,ra,Fa,rfl,ha,hn⟩
 have hnna:=fun k o hk=>Nat.le_trans g.chg.size (hn.new k o hk)
 obtain⟨sa,Aa,na,ca,Ba,da,ka,rfl,rfl,rfl⟩:=ha.shape
 obtain⟨g1,rfl⟩:=G.new_ex _ hn
 clear hn
 (try clear g)
 revert g1
 intro g
 go_wp2_with (with_reducible refine yq _ ?_;(try generalize (G.w _).heap.size=bk);(try dsimp only[yi,yj]);(try clear g);intro g)
 refine(stake_any _ _ _ _ _ _ _ _ _ (G.sum g HS.out)).mono ?_
 rintro e w1 ⟨rfl,hb⟩
 obtain⟨g1,rfl⟩:=G.call_ex _ hb
 clear hb
 (try clear g)
 revert g1
 intro g
 go_wp2_with (with_reducible refine yq _ ?_;(try generalize (G.w _).heap.size=bk);(try dsimp only[yi,yj]);(try clear g);intro g)
 refine bodyPost_ret (v:=.agg #[.bool sa,.slice Aa na ca,.slice Ba da ka]) (by simp[results,Tryz.results123,go_sem]) rfl ?_
 exact⟨_,_,_,_,rfl,ha,G.below _,G.sub _ _ (by simp),hnna⟩
set_option maxRecDepth 20000 in
theorem whole_r (a:Int)(z:Rat)(hz:Bd 8192 z)(e:(a:Rat)=z)(h1: -9223372036854775808≤a)(h2:a<9223372036854775808)(w:World)(hT:Tab w):
  Calls Tryz.prog 64 #[.int .i64 a] w (RT1 (rawOf z) w):=by
 refine calls_b fun g=>?_
 have C:=Lib.hid (fun w t=>qOf1_r a z hz e h1 h2 w t)
 have HT:=Lib.hid hT
 clear hT hz e
 generalize rawOf z=t at*
 unfold RT at C
 unfold RT1
 go_enter Tryz.func64,Tryz.ntmps64
 go_wp2_with (with_reducible refine yq _ ?_;(try generalize (G.w _).heap.size=bk);(try dsimp only[yi,yj]);(try clear g);intro g)
 refine(C.out _ (G.tab g HT.out)).mono ?_
 rintro e w1 ⟨pa,qa,ra,Fa,rfl,ha,hn⟩
 have hnna:=fun k o hk=>Nat.le_trans g.chg.size (hn.new k o hk)
 obtain⟨sa,Aa,na,ca,Ba,da,ka,rfl,rfl,rfl⟩:=ha.shape
 obtain⟨g1,rfl⟩:=G.new_ex _ hn
 clear hn
 (try clear g)
 revert g1
 intro g
 go_wp2_with (with_reducible refine yq _ ?_;(try generalize (G.w _).heap.size=bk);(try dsimp only[yi,yj]);(try clear g);intro g)
 refine bodyPost_ret (v:=.agg #[.bool sa,.slice Aa na ca,.slice Ba da ka]) (by simp[results,Tryz.results64,go_sem]) rfl ?_
 exact⟨_,_,_,_,rfl,ha,G.below _,G.sub _ _ (by simp),hnna⟩
set_option maxRecDepth 20000 in
theorem null_any (s:Bool)(A B:Option Addr)(n c d k:Nat)(w:World):
  Calls Tryz.prog 104 #[.agg #[.bool s,.slice A n c,.slice B d k]] w fun e w'=>e=.returned (.bool (decide (n=0)))∧Below w.heap.size w w':=by
 refine calls_g fun g=>?_
 by_cases h:n=0
 ·have hb:((n:Int)==0)=true:=by simp[h]
  have hd:decide (n=0)=true:=decide_eq_true h
  rw[hd]
  clear h hd
  go_enter Tryz.func104,Tryz.ntmps104
  go_wp2_with (with_reducible refine yq _ ?_;(try generalize (G.w _).heap.size=bk);(try dsimp only[yi,yj]);(try clear g);intro g)
  go_ret
  exact⟨rfl,G.below _⟩
 ·have hb:((n:Int)==0)=false:=by simpa using h
  have hd:decide (n=0)=false:=decide_eq_false h
  rw[hd]
  clear h hd
  go_enter Tryz.func104,Tryz.ntmps104
  go_wp2_with (with_reducible refine yq _ ?_;(try generalize (G.w _).heap.size=bk);(try dsimp only[yi,yj]);(try clear g);intro g)
  go_ret
  exact⟨rfl,G.below _⟩
def numE (t:Raw):Int:=rchk t.1 t.2.1 t.2.2
/-- the first error of n numbers -/
def listE (x:Nat→Raw):Nat→Int
 |0=>0
 |n+1=>if listE x n=0 then numE (x n) else listE x n
theorem listE_stop {x:Nat→Raw}{k n:Nat}{e:Int}(h:listE x k=0)(he:numE (x k)=e)(h0:e≠0)(hk:k<n):listE x n=e:=by
 have h1:listE x (k+1)=e:=by unfold listE;rw[if_pos h];exact he
 obtain⟨d,rfl⟩:∃d,n=k+1+d:=⟨n-(k+1),by omega⟩
 clear hk
 induction d with
 |zero=>exact h1
 |succ d ih=>
  show(if listE x (k+1+d)=0 then _ else listE x (k+1+d))=e
  rw[ih,if_neg h0]
theorem listE_next {x:Nat→Raw}{k:Nat}(h:listE x k=0)(he:numE (x k)=0):listE x (k+1)=0:=by
 unfold listE;rw[if_pos h];exact he
theorem listE_ok {x:Nat→Raw}:∀ {n:Nat},(∀j,j<n→numE (x j)=0)→listE x n=0
 |0,_=>rfl
 |n+1,h=>listE_next (listE_ok fun j hj=>h j (by omega)) (h n (by omega))
/-- the error of the numbers of rows and columns -/
def shpE (n m:Nat):Int:=if n<1∨24<n∨m<1∨24<m then 2 else 0
def rowE (m:Nat→Nat)(x:Nat→Nat→Raw)(i:Nat):Int:=if m i=m 0 then listE (x i) (m i) else 3
def rowsE (m:Nat→Nat)(x:Nat→Nat→Raw):Nat→Int
 |0=>0
 |n+1=>if rowsE m x n=0 then rowE m x n else rowsE m x n
theorem rowsE_stop {m:Nat→Nat}{x:Nat→Nat→Raw}{k n:Nat}{e:Int}(h:rowsE m x k=0)(he:rowE m x k=e)(h0:e≠0)(hk:k<n):rowsE m x n=e:=by
 have h1:rowsE m x (k+1)=e:=by unfold rowsE;rw[if_pos h];exact he
 obtain⟨d,rfl⟩:∃d,n=k+1+d:=⟨n-(k+1),by omega⟩
 clear hk
 induction d with
 |zero=>exact h1
 |succ d ih=>
  show(if rowsE m x (k+1+d)=0 then _ else rowsE m x (k+1+d))=e
  rw[ih,if_neg h0]
theorem rowsE_next {m:Nat→Nat}{x:Nat→Nat→Raw}{k:Nat}(h:rowsE m x k=0)(he:rowE m x k=0):rowsE m x (k+1)=0:=by
 unfold rowsE;rw[if_pos h];exact he
theorem rowsE_ok {m:Nat→Nat}{x:Nat→Nat→Raw}:∀ {n:Nat},(∀i,i<n→rowE m x i=0)→rowsE m x n=0
 |0,_=>rfl
 |n+1,h=>rowsE_next (rowsE_ok fun j hj=>h j (by omega)) (h n (by omega))
/-- the error of a matrix -/
def matE (n:Nat)(m:Nat→Nat)(x:Nat→Nat→Raw):Int:=if shpE n (m 0)=0 then rowsE m x n else shpE n (m 0)
set_option maxRecDepth 20000 in
theorem shaped_any (A:Option Addr)(c n:Nat)(m:Nat→Nat)(x:Nat→Nat→Raw)(w:World)(h:(heapOf w).Mt A c n m x):
  Calls Tryz.prog 86 #[.slice A n c] w fun e w'=>e=.returned (.int .i64 (shpE n (m 0)))∧Below w.heap.size w w':=by
 refine calls_b fun g=>?_
 unfold shpE
 by_cases h1:n<1
 ·rw[if_pos (.inl h1)]
  have hi:(n:Int)<1:=by omega
  clear h h1
  go_enter Tryz.func86,Tryz.ntmps86
  go_wp2_with (with_reducible refine yq _ ?_;(try generalize (G.w _).heap.size=bk);(try dsimp only[yi,yj]);(try clear g);intro g)
  go_ret
  exact⟨rfl,G.below _⟩
 ·have hi:¬ ((n:Int)<1):=by omega
  by_cases h2:24<n
  ·rw[if_pos (.inr (.inl h2))]
   have hi2:(24:Int)<(n:Int):=by omega
   clear h h1 h2
   go_enter Tryz.func86,Tryz.ntmps86
   go_wp2_with (with_reducible refine yq _ ?_;(try generalize (G.w _).heap.size=bk);(try dsimp only[yi,yj]);(try clear g);intro g)
   go_ret
   exact⟨rfl,G.below _⟩
  ·have hi2:¬ ((24:Int)<(n:Int)):=by omega
   obtain⟨b,o,rfl,hrow⟩:=h.rowAt (by omega)
   obtain⟨B0,k0,hh0,hrw0⟩:=hrow 0 (by omega)
   have E0:∀(M:List Blk) (g:G w [] M [heapOf w]),g.w.cell? ⟨b,o,none⟩=some (.slice B0 (m 0) k0):=fun M g=>hh0 _ _ _ _ g (InF.head _ _)
   have hni:(0:Int)<(n:Int):=by omega
   generalize m 0=m0 at*
   clear h hrow hh0 hrw0
   by_cases h3:m0<1
   ·rw[if_pos (.inr (.inr (.inl h3)))]
    have hi3:(m0:Int)<1:=by omega
    clear h1 h2 h3
    go_enter Tryz.func86,Tryz.ntmps86
    go_wp2_with (with_reducible refine yq _ ?_;(try generalize (G.w _).heap.size=bk);(try dsimp only[yi,yj]);(try clear g);intro g)
    go_ret
    exact⟨rfl,G.below _⟩
   ·have hi3:¬ ((m0:Int)<1):=by omega
    by_cases h4:24<m0
    ·rw[if_pos (.inr (.inr (.inr h4)))]
     have hi4:(24:Int)<(m0:Int):=by omega
     clear h1 h2 h3 h4
     go_enter Tryz.func86,Tryz.ntmps86
     go_wp2_with (with_reducible refine yq _ ?_;(try generalize (G.w _).heap.size=bk);(try dsimp only[yi,yj]);(try clear g);intro g)
     go_ret
     exact⟨rfl,G.below _⟩
    ·rw[if_neg (by omega)]
     have hi4:¬ ((24:Int)<(m0:Int)):=by omega
     clear h1 h2 h3 h4
     go_enter Tryz.func86,Tryz.ntmps86
     go_wp2_with (with_reducible refine yq _ ?_;(try generalize (G.w _).heap.size=bk);(try dsimp only[yi,yj]);(try clear g);intro g)
     go_ret
     exact⟨rfl,G.below _⟩
set_option maxRecDepth 20000 in
theorem list_any (A:Option Addr)(c n:Nat)(x:Nat→Raw)(w:World)(h:RwW w A c n x)(hT:Tab w):
  Calls Tryz.prog 72 #[.slice A n c] w fun e w'=>e=.returned (.int .i64 (listE x n))∧Below w.heap.size w w':=by
 refine calls_b fun g=>?_
 have HH:=Lib.hid h
 have HT:=Lib.hid hT
 have hn:=h.len
 clear h hT
 go_enter Tryz.func72,Tryz.ntmps72
 go_wp2_with (with_reducible refine yq _ ?_;(try generalize (G.w _).heap.size=bk);(try dsimp only[yi,yj]);(try clear g);intro g)
 go_loopw [8] (fun i wr=>∃k:Nat,i=.int .i64 (k:Int)∧k≤n∧Hid (listE x k=0)∧∃(g:G w [] [] [heapOf w]),wr=g.w) (fun i _=>n-(intOf i).toNat)
 case atStart=>exact⟨0,rfl,by omega,Lib.hid rfl,g,rfl⟩
 case round=>
  clear g
  obtain⟨k,rfl,hk,hl,g,rfl⟩:=hrel
  by_cases hkn:k<n
  ·have hki:(k:Int)<(n:Int):=by omega
   obtain⟨b,o,rfl,hnum⟩:=HH.out.num (by omega)
   obtain⟨p,q,r,h3,hrt⟩:=hnum k hkn
   obtain⟨s1,A1,n1,c1,B1,d1,k1,rfl,rfl,rfl⟩:=hrt.shape
   have E0:∀(M:List Blk) (g:G w [] M [heapOf w]),g.w.cell? ⟨b,o+k*3,none⟩=some (.bool s1):=fun M g=>(h3 _ _ _ _ g (InF.head _ _)).1
   have E1:∀(M:List Blk) (g:G w [] M [heapOf w]),g.w.cell? ⟨b,o+k*3+1,none⟩=some (.slice A1 n1 c1):=fun M g=>(h3 _ _ _ _ g (InF.head _ _)).2.1
   have E2:∀(M:List Blk) (g:G w [] M [heapOf w]),g.w.cell? ⟨b,o+k*3+2,none⟩=some (.slice B1 d1 k1):=fun M g=>(h3 _ _ _ _ g (InF.head _ _)).2.2
   have HRT:=Lib.hid hrt
   have CC:=Lib.hid (fun p q r w a t=>qCheck_r (x k) p q r w a t)
   clear hnum h3 hrt
   have HE:Hid (numE (x k)=rchk (x k).1 (x k).2.1 (x k).2.2):=Lib.hid rfl
   obtain⟨e,he⟩:∃e,rchk (x k).1 (x k).2.1 (x k).2.2=e:=⟨_,rfl⟩
   rw[he] at CC HE
   clear he
   go_wp2_with (with_reducible refine yq _ ?_;(try generalize (G.w _).heap.size=bk);(try dsimp only[yi,yj]);(try clear g);intro g)
   (try(refine cmark _ ?_;(try dsimp only[yi,yj]);(try clear g);intro g))
   refine(CC.out _ _ _ _ (G.rtI g (by simp) HRT.out) (G.tab g HT.out)).mono ?_
   rintro e w1 ⟨rfl,hb⟩
   obtain⟨g1,rfl⟩:=G.call_ex _ hb
   clear hb
   (try clear g)
   revert g1
   intro g
   by_cases he0:e=0
   ·subst he0
    go_wp2_with (with_reducible refine yq _ ?_;(try generalize (G.w _).heap.size=bk);(try dsimp only[yi,yj]);(try clear g);intro g)
    obtain⟨g2,hg2⟩:=g.forget 1
    rw[hg2]
    go_roundw
    case rel=>exact⟨k+1,by go_num,by omega,Lib.hid (listE_next hl.out HE.out),g2,rfl⟩
    case measure=>simp[intOf];omega
   ·have heb:(e==0)=false:=by simpa using he0
    go_wp2_with (with_reducible refine yq _ ?_;(try generalize (G.w _).heap.size=bk);(try dsimp only[yi,yj]);(try clear g);intro g)
    go_ret
    exact⟨by rw[listE_stop hl.out HE.out he0 hkn];rfl,G.below _⟩
  ·obtain rfl:k=n:=by omega
   go_wp2_with (with_reducible refine yq _ ?_;(try generalize (G.w _).heap.size=bk);(try dsimp only[yi,yj]);(try clear g);intro g)
   go_ret
   exact⟨by rw[hl.out];rfl,G.below _⟩
set_option maxRecDepth 20000 in
set_option maxHeartbeats 4000000 in
theorem mCheck_any (A:Option Addr)(c n:Nat)(m:Nat→Nat)(x:Nat→Nat→Raw)(w:World)(h:(heapOf w).Mt A c n m x)(hT:Tab w):
  Calls Tryz.prog 37 #[.slice A n c] w fun e w'=>e=.returned (.int .i64 (matE n m x))∧Below w.heap.size w w':=by
 refine calls_b fun g=>?_
 have CS:=Lib.hid (fun w h=>shaped_any A c n m x w h)
 have HH:=Lib.hid h
 have HT:=Lib.hid hT
 have hn:=h.len
 unfold matE
 obtain⟨sh,hsh⟩:∃sh,shpE n (m 0)=sh:=⟨_,rfl⟩
 rw[hsh] at CS ⊢
 have HSH:=Lib.hid hsh
 clear h hT hsh
 by_cases h0:sh=0
 ·subst h0
  rw[if_pos rfl]
  have hn0:0<n:=by
   have:=HSH.out
   unfold shpE at this
   by_cases h:n<1∨24<n∨m 0<1∨24<m 0
   ·rw[if_pos h] at this;cases this
   ·omega
  obtain⟨b,o,rfl,hrow⟩:=HH.out.rowAt hn0
  have HR:=Lib.hid hrow
  obtain⟨B0,k0,hh0,hrw0⟩:=hrow 0 hn0
  have E0:∀(M:List Blk) (g:G w [] M [heapOf w]),g.w.cell? ⟨b,o,none⟩=some (.slice B0 (m 0) k0):=fun M g=>hh0 _ _ _ _ g (InF.head _ _)
  clear hrow hh0 hrw0
  obtain⟨m0,hm0⟩:∃m0,m 0=m0:=⟨_,rfl⟩
  rw[hm0] at E0
  have HM0:=Lib.hid hm0
  have hni:(0:Int)<(n:Int):=by omega
  clear hm0
  go_enter Tryz.func37,Tryz.ntmps37
  go_wp2_with (with_reducible refine yq _ ?_;(try generalize (G.w _).heap.size=bk);(try dsimp only[yi,yj]);(try clear g);intro g)
  refine(CS.out _ (HH.out.mono (g.sub _ (by simp)))).mono ?_
  rintro e w1 ⟨rfl,hb⟩
  obtain⟨g1,rfl⟩:=G.call_ex _ hb
  clear hb
  (try clear g)
  revert g1
  intro g
  go_wp2_with (with_reducible refine yq _ ?_;(try generalize (G.w _).heap.size=bk);(try dsimp only[yi,yj]);(try clear g);intro g)
  clear CS
  go_loopw [14] (fun i wr=>∃k:Nat,i=.int .i64 (k:Int)∧k≤n∧Hid (rowsE m x k=0)∧∃(g:G w [] [] [heapOf w]),wr=g.w) (fun i _=>n-(intOf i).toNat)
  case atStart=>exact⟨0,rfl,by omega,Lib.hid rfl,g,rfl⟩
  case round=>
   clear g
   obtain⟨k,rfl,hk,hl,g,rfl⟩:=hrel
   by_cases hkn:k<n
   ·have hki:(k:Int)<(n:Int):=by omega
    obtain⟨B,kc,hh,hrw⟩:=HR.out k hkn
    have EH:∀(M:List Blk) (g:G w [] M [heapOf w]),g.w.cell? ⟨b,o+k,none⟩=some (.slice B (m k) kc):=fun M g=>hh _ _ _ _ g (InF.head _ _)
    clear hh
    by_cases hmk:m k=m0
    ·have HE:Hid (rowE m x k=listE (x k) (m k)):=Lib.hid (by unfold rowE;rw[if_pos (hmk.trans HM0.out.symm)])
     have CL:=Lib.hid (fun w a t=>list_any B kc (m k) (x k) w a t)
     obtain⟨e,he⟩:∃e,listE (x k) (m k)=e:=⟨_,rfl⟩
     have HRW:=Lib.hid hrw
     rw[he] at CL HE
     rw[hmk] at EH CL HRW
     clear he hmk hrw
     go_wp2_with (with_reducible refine yq _ ?_;(try generalize (G.w _).heap.size=bk);(try dsimp only[yi,yj]);(try clear g);intro g)
     refine(CL.out _ (G.rwI g (by simp) HRW.out) (G.tab g HT.out)).mono ?_
     rintro e w1 ⟨rfl,hb⟩
     obtain⟨g1,rfl⟩:=G.call_ex _ hb
     clear hb
     (try clear g)
     revert g1
     intro g
     by_cases he0:e=0
     ·subst he0
      go_wp2_with (with_reducible refine yq _ ?_;(try generalize (G.w _).heap.size=bk);(try dsimp only[yi,yj]);(try clear g);intro g)
      go_roundw
      case rel=>exact⟨k+1,by go_num,by omega,Lib.hid (rowsE_next hl.out HE.out),g,rfl⟩
      case measure=>simp[intOf];omega
     ·have heb:(e==0)=false:=by simpa using he0
      go_wp2_with (with_reducible refine yq _ ?_;(try generalize (G.w _).heap.size=bk);(try dsimp only[yi,yj]);(try clear g);intro g)
      go_ret
      exact⟨by rw[rowsE_stop hl.out HE.out he0 hkn];rfl,G.below _⟩
    ·have HE:Hid (rowE m x k=3):=Lib.hid (by unfold rowE;rw[if_neg (fun h=>hmk (h.trans HM0.out))])
     have hmb:((m k:Int)==(m0:Int))=false:=by simp;omega
     clear hrw
     generalize m k=mk at*
     clear hmk
     go_wp2_with (with_reducible refine yq _ ?_;(try generalize (G.w _).heap.size=bk);(try dsimp only[yi,yj]);(try clear g);intro g)
     go_ret
     exact⟨by rw[rowsE_stop hl.out HE.out (by decide) hkn];rfl,G.below _⟩
   ·obtain rfl:k=n:=by omega
    go_wp2_with (with_reducible refine yq _ ?_;(try generalize (G.w _).heap.size=bk);(try dsimp only[yi,yj]);(try clear g);intro g)
    go_ret
    exact⟨by rw[hl.out];rfl,G.below _⟩
 ·rw[if_neg h0]
  have heb:(sh==0)=false:=by simpa using h0
  go_enter Tryz.func37,Tryz.ntmps37
  go_wp2_with (with_reducible refine yq _ ?_;(try generalize (G.w _).heap.size=bk);(try dsimp only[yi,yj]);(try clear g);intro g)
  refine(CS.out _ (HH.out.mono (g.sub _ (by simp)))).mono ?_
  rintro e w1 ⟨rfl,hb⟩
  obtain⟨g1,rfl⟩:=G.call_ex _ hb
  clear hb
  (try clear g)
  revert g1
  intro g
  go_wp2_with (with_reducible refine yq _ ?_;(try generalize (G.w _).heap.size=bk);(try dsimp only[yi,yj]);(try clear g);intro g)
  go_ret
  exact⟨rfl,G.below _⟩
set_option maxRecDepth 20000 in
set_option maxHeartbeats 4000000 in
theorem check2_any (A B:Option Addr)(c n c' n' bs:Nat)(m m':Nat→Nat)(x x':Nat→Nat→Raw)(w:World)(h:(heapOf w).Mt A c n m x)(h':(heapOf w).Mt B c' n' m' x')(h0:w.cell? ⟨bs,0,none⟩=some (.slice A n c))(h1:w.cell? ⟨bs,1,none⟩=some (.slice B n' c'))(hT:Tab w):
  Calls Tryz.prog 53 #[.slice (some ⟨bs,0,none⟩) 2 2] w fun e w'=>e=.returned (.int .i64 (if matE n m x=0 then matE n' m' x' else matE n m x))∧Below w.heap.size w w':=by
 refine calls_b fun g=>?_
 have C1:=Lib.hid (fun w h t=>mCheck_any A c n m x w h t)
 have C2:=Lib.hid (fun w h t=>mCheck_any B c' n' m' x' w h t)
 have HT:=Lib.hid hT
 have HH1:=Lib.hid h
 have HH2:=Lib.hid h'
 have E0:=fun(M:List Blk) (g:G w [] M [heapOf w])=>G.old g (List.mem_cons_self ..) h0
 have E1:=fun(M:List Blk) (g:G w [] M [heapOf w])=>G.old g (List.mem_cons_self ..) h1
 obtain⟨e1,he1⟩:∃e,matE n m x=e:=⟨_,rfl⟩
 obtain⟨e2,he2⟩:∃e,matE n' m' x'=e:=⟨_,rfl⟩
 rw[he1] at C1 ⊢
 rw[he2] at C2 ⊢
 obtain⟨e3,he3⟩:∃e,(if e1=0 then e2 else e1)=e:=⟨_,rfl⟩
 rw[he3]
 have H3:=Lib.hid he3
 clear h h' h0 h1 hT he1 he2 he3
 go_enter Tryz.func53,Tryz.ntmps53
 go_wp2_with (with_reducible refine yq _ ?_;(try generalize (G.w _).heap.size=bk);(try dsimp only[yi,yj]);(try clear g);intro g)
 go_loopw [8] (fun i wr=>((i=.int .i64 0)∨(i=.int .i64 1∧e1=0)∨(i=.int .i64 2∧e1=0∧e2=0))∧∃(g:G w [] [] [heapOf w]),wr=g.w) (fun i _=>2-(intOf i).toNat)
 case atStart=>exact⟨.inl rfl,g,rfl⟩
 case round=>
  clear g
  obtain⟨hc,g,rfl⟩:=hrel
  rcases hc with rfl|⟨rfl,he1⟩|⟨rfl,he1,he2⟩
  ·go_wp2_with (with_reducible refine yq _ ?_;(try generalize (G.w _).heap.size=bk);(try dsimp only[yi,yj]);(try clear g);intro g)
   refine(C1.out _ (HH1.out.mono (g.sub _ (by simp))) (G.tab g HT.out)).mono ?_
   rintro e w1 ⟨rfl,hb⟩
   obtain⟨g1,rfl⟩:=G.call_ex _ hb
   clear hb
   (try clear g)
   revert g1
   intro g
   by_cases h0:e1=0
   ·subst h0
    go_wp2_with (with_reducible refine yq _ ?_;(try generalize (G.w _).heap.size=bk);(try dsimp only[yi,yj]);(try clear g);intro g)
    go_roundw
    case rel=>exact⟨.inr (.inl (by simp)),g,rfl⟩
    case measure=>simp[intOf]
   ·have heb:(e1==0)=false:=by simpa using h0
    have H4:=H3.out
    rw[if_neg h0] at H4
    subst H4
    go_wp2_with (with_reducible refine yq _ ?_;(try generalize (G.w _).heap.size=bk);(try dsimp only[yi,yj]);(try clear g);intro g)
    go_ret
    exact⟨rfl,G.below _⟩
  ·subst he1
   obtain rfl:e2=e3:=H3.out
   go_wp2_with (with_reducible refine yq _ ?_;(try generalize (G.w _).heap.size=bk);(try dsimp only[yi,yj]);(try clear g);intro g)
   refine(C2.out _ (HH2.out.mono (g.sub _ (by simp))) (G.tab g HT.out)).mono ?_
   rintro e w1 ⟨rfl,hb⟩
   obtain⟨g1,rfl⟩:=G.call_ex _ hb
   clear hb
   (try clear g)
   revert g1
   intro g
   by_cases h0:e2=0
   ·subst h0
    go_wp2_with (with_reducible refine yq _ ?_;(try generalize (G.w _).heap.size=bk);(try dsimp only[yi,yj]);(try clear g);intro g)
    go_roundw
    case rel=>exact⟨.inr (.inr (by simp)),g,rfl⟩
    case measure=>simp[intOf]
   ·have heb:(e2==0)=false:=by simpa using h0
    go_wp2_with (with_reducible refine yq _ ?_;(try generalize (G.w _).heap.size=bk);(try dsimp only[yi,yj]);(try clear g);intro g)
    go_ret
    exact⟨rfl,G.below _⟩
  ·subst he1 he2
   obtain rfl:(0:Int)=e3:=H3.out
   go_wp2_with (with_reducible refine yq _ ?_;(try generalize (G.w _).heap.size=bk);(try dsimp only[yi,yj]);(try clear g);intro g)
   go_ret
   exact⟨rfl,G.below _⟩
end Go.Proofs.YthhbbnfnejjpiaaGreatDoor
