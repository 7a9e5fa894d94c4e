/- Plain facts and contracts of functions of the program, out of walks. Their conditions stand ahead of each. -/
import Derived.Test.YthhbbnfnejjpiaaGreatDoorNm1
import Derived.Test.YthhbbnfnejjpiaaGreatDoorNm2
import Derived.Test.YthhbbnfnejjpiaaGreatDoorNm3
import Derived.Test.YthhbbnfnejjpiaaGreatDoorNm15
import Derived.Test.YthhbbnfnejjpiaaGreatDoorNm17
import Derived.Test.YthhbbnfnejjpiaaGreatDoorNm21
import Derived.Below
import Derived.BigQuiet
import Derived.Deep.Draws
import Derived.Deep.LoopGhost
import Derived.Deep.QuietTactic
import Derived.Deep.RegionHeld3
import Derived.Deep.RegionLaw
import Derived.Defers
import Derived.Laws.BytesString
import Derived.Laws.Cells
import Derived.Laws.CopyOwn
import Derived.Laws.CopyRow
import Derived.Laws.NewBlocks
import Derived.Laws.OwnMore
import Derived.Laws.Pointers
import Derived.Laws.Rows
import Derived.Lib.BitFns
import Derived.Lib.Hide
import Derived.Lib.ItoaNum
import Derived.Lib.TrailingZeros
import Derived.LoopIn
import Derived.LoopNIn
import Derived.Maps.AppendAt
import Derived.OrdersHeld
import Derived.OrdersIn
import Derived.OwnWalk
import Derived.OwnWalkIn
import Derived.RangeFuncBound
import Derived.RangeFuncBox
import Derived.RangeFuncCalls
import Derived.RangeFuncLeaves
import Derived.RangeFuncNested
import Derived.RowKit3
import Derived.Shelf.Abstract
import Derived.Shelf.RegionOpen
import Derived.Shelf.Spec.TrailingZeros
import Derived.StillTactics
import Derived.StillTailTactics
import Derived.TacticsInMore
import Derived.Test.YthhbbnfnejjpiaaGreatDoorProg
import Derived.WalkKit
import Derived.WalkLawsBesides
import Derived.WalkMore
import Derived.WalkSpells
set_option linter.unusedVariables false
set_option linter.unusedSimpArgs false
set_option exponentiation.threshold 10000
namespace Go.Proofs.YthhbbnfnejjpiaaGreatDoor
open Go.RowKit GW NL
theorem limbs_len0:(limbs 0).length=0:=by rw[limbs_zero];rfl
/-- the quotient, or ErrZero -/
def divX (x y:Rat)(z:Nat):Bool×Nat×Nat×Int:=if z=0 then(false,0,0,6) else outX (x/y)
set_option maxRecDepth 20000 in
set_option maxHeartbeats 4000000 in
theorem divz_any (b cap:Nat)(s1 s2:Bool)(A1 B1 A2 B2:Option Addr)(c1 k1 c2 k2 n1 d1 n2 d2:Nat)(w:World)(f1:FrAt w b 0 s1 A1 n1 c1 B1 d1 k1)(f2:FrAt w b 3 s2 A2 n2 c2 B2 d2 k2)(hcap:2≤cap)(hz:n2=0):
  Calls Tryz.prog 171 #[.slice (some ⟨b,0,none⟩) 2 cap] w (RPE (false,0,0,6) w):=by
 subst hz
 refine calls_b fun g=>?_
 have E4:=fun(M:List Blk) (g:G w [] M [heapOf w])=>G.old g (List.mem_cons_self ..) f2.c1
 clear f1 f2
 have hcap2:(2:Int)≤(cap:Int):=by omega
 go_enter Tryz.func171,Tryz.ntmps171
 go_wp2_with (with_reducible refine yq _ ?_;(try generalize (G.w _).heap.size=bk);(try dsimp only[yi,yj]);(try clear g);intro g)
 refine bodyPost_ret (v:=.tuple #[.agg #[.bool false,.slice none 0 0,.slice none 0 0],.int .i64 6]) (by simp[results,Tryz.results171,go_sem]) rfl ?_
 exact rpe_err _ _
set_option maxRecDepth 20000 in
set_option maxHeartbeats 2000000 in
theorem qDiv_any (s1 s2:Bool)(A1 B1 A2 B2:Option Addr)(c1 k1 c2 k2:Nat)(l1 m1 l2 m2:List Nat)(w:World)(h1:SlW w A1 c1 l1)(j1:SlW w B1 k1 m1)(h2:SlW w A2 c2 l2)(j2:SlW w B2 k2 m2)(hT:Tab w):
  Calls Tryz.prog 149 #[.agg #[.bool s1,.slice A1 l1.length c1,.slice B1 m1.length k1],.agg #[.bool s2,.slice A2 l2.length c2,.slice B2 m2.length k2]] w (RPE (out2 (rchk s1 l1 m1) (rchk s2 l2 m2) (divX (fr s1 l1 m1) (fr s2 l2 m2) (val l2))) w):=by
 refine calls_b fun g=>?_
 have ol1:=h1.ok
 have om1:=j1.ok
 have ol2:=h2.ok
 have om2:=j2.ok
 have CW:=Lib.hid (fun lb w p1 a1 b1 p2 a2 b2 ht=>with_div lb (divX (fr s1 l1 m1) (fr s2 l2 m2) (val l2)) s1 A1 B1 c1 k1 l1 m1 s2 A2 B2 c2 k2 l2 m2 w p1 a1 b1 p2 a2 b2 ht (fun r1 r2 w' bF capF hc f1 f2 x1 y1 x2 y2 t=>by
  obtain⟨e1,e2,e3,_,_,e6,e7⟩:=rchk_ok ol1 om1 r1
  obtain⟨e1',e2',e3',_,_,e6',e7'⟩:=rchk_ok ol2 om2 r2
  by_cases hz:val l2=0
  ·have:=divz_any bF capF s1 s2 A1 B1 A2 B2 c1 k1 c2 k2 l1.length m1.length l2.length m2.length w' f1 f2 hc (by rw[e1',hz];exact limbs_len0)
   rw[divX,if_pos hz]
   exact this
  ·rw[divX,if_neg hz]
   have:=div1_any bF capF s1 s2 A1 B1 A2 B2 c1 k1 c2 k2 (val l1) (val m1) (val l2) (val m2) w' (by rw[←e1,←e2];exact f1) (by rw[←e1',←e2'];exact f2) hc (by rw[←e1];exact x1) (by rw[←e2];exact y1) (by rw[←e1'];exact x2) (by rw[←e2'];exact y2) t (by rw[←e1];omega) (by rw[←e2];omega) (by rw[←e1'];omega) (by rw[←e2'];omega) e3 e3' hz
   exact this))
 have HT:=Lib.hid hT
 have H1:=Lib.hid h1
 have J1:=Lib.hid j1
 have H2:=Lib.hid h2
 have J2:=Lib.hid j2
 clear ol1 om1 ol2 om2 h1 j1 h2 j2 hT
 unfold out2
 obtain⟨RR,hRR⟩:∃RR,(if rchk s1 l1 m1≠0 then((false,0,0,rchk s1 l1 m1):Bool×Nat×Nat×Int) else if rchk s2 l2 m2≠0 then(false,0,0,rchk s2 l2 m2) else divX (fr s1 l1 m1) (fr s2 l2 m2) (val l2))=RR:=⟨_,rfl⟩
 rw[hRR] at CW ⊢
 clear hRR
 generalize l1.length=n1 at*
 generalize m1.length=d1 at*
 generalize l2.length=n2 at*
 generalize m2.length=d2 at*
 go_enter Tryz.func149,Tryz.ntmps149
 go_wp2_with (with_reducible refine yq _ ?_;(try generalize (G.w _).heap.size=bk);(try dsimp only[yi,yj]);(try clear g);intro g)
 refine(CW.out _ _ ⟨(g.cell0 0).trans rfl,(g.cell0 1).trans rfl,(g.cell0 2).trans rfl⟩ (G.sl g (by simp) H1.out) (G.sl g (by simp) J1.out) ⟨(g.cell0 3).trans rfl,(g.cell0 4).trans rfl,(g.cell0 5).trans rfl⟩ (G.sl g (by simp) H2.out) (G.sl g (by simp) J2.out) (G.tab g HT.out)).mono ?_
 rintro e w1 ⟨Z1,z1,R1,Z2,z2,R2,rfl,hz1,hz2,hn1,hn2⟩
 have ho1:=fun k o hk=>Nat.le_trans (G.chg _).size (hn1.new k o hk)
 have ho2:=fun k o hk=>Nat.le_trans (G.chg _).size (hn2.new k o hk)
 obtain⟨g1,rfl⟩:=G.new2_ex _ hn1 hn2
 clear hn1 hn2
 (try clear g)
 revert g1
 intro g
 go_wp2_with (with_reducible refine yq _ ?_;(try generalize (G.w _).heap.size=bk);(try dsimp only[yi,yj]);(try clear g);intro g)
 refine bodyPost_ret (v:=.tuple #[.agg #[.bool RR.1,.slice Z1 (limbs RR.2.1).length z1,.slice Z2 (limbs RR.2.2.1).length z2],.int .i64 RR.2.2.2]) (by simp[results,Tryz.results149,go_sem]) rfl ?_
 exact⟨Z1,z1,R1,Z2,z2,R2,rfl,hz1,hz2,G.pass _ (by simp) ho1,G.pass _ (by simp) ho2⟩
set_option maxRecDepth 20000 in
set_option maxHeartbeats 2000000 in
theorem qNeg_any (s1:Bool)(A1 B1:Option Addr)(c1 k1:Nat)(l1 m1:List Nat)(w:World)(h1:SlW w A1 c1 l1)(j1:SlW w B1 k1 m1)(hT:Tab w):
  Calls Tryz.prog 134 #[.agg #[.bool s1,.slice A1 l1.length c1,.slice B1 m1.length k1]] w (RPE (out1 (rchk s1 l1 m1) (outP (!s1&&decide (0<l1.length)) (val l1) (val m1))) w):=by
 refine calls_b fun g=>?_
 have ol1:=h1.ok
 have om1:=j1.ok
 have CW:=Lib.hid (fun lb w p1 a1 b1 ht=>with_neg lb (outP (!s1&&decide (0<l1.length)) (val l1) (val m1)) s1 A1 B1 c1 k1 l1 m1 w p1 a1 b1 ht (fun r1 w' bF capF hc f1 x1 y1 t=>by
  obtain⟨e1,e2,e3,_,e5,e6,e7⟩:=rchk_ok ol1 om1 r1
  have:=neg1_any bF capF s1 A1 B1 c1 k1 (val l1) (val m1) w' (by rw[←e1,←e2];exact f1) hc (by rw[←e1];exact x1) (by rw[←e2];exact y1) t (by rw[←e1];omega) (by rw[←e2];omega) e3
  (try rw[←e1] at this)
  exact this))
 have HT:=Lib.hid hT
 have H1:=Lib.hid h1
 have J1:=Lib.hid j1
 clear ol1 om1 h1 j1 hT
 unfold out1
 obtain⟨RR,hRR⟩:∃RR,(if rchk s1 l1 m1≠0 then((false,0,0,rchk s1 l1 m1):Bool×Nat×Nat×Int) else outP (!s1&&decide (0<l1.length)) (val l1) (val m1))=RR:=⟨_,rfl⟩
 rw[hRR] at CW ⊢
 clear hRR
 generalize l1.length=n1 at*
 generalize m1.length=d1 at*
 go_enter Tryz.func134,Tryz.ntmps134
 go_wp2_with (with_reducible refine yq _ ?_;(try generalize (G.w _).heap.size=bk);(try dsimp only[yi,yj]);(try clear g);intro g)
 refine(CW.out _ _ ⟨(g.cell0 0).trans rfl,(g.cell0 1).trans rfl,(g.cell0 2).trans rfl⟩ (G.sl g (by simp) H1.out) (G.sl g (by simp) J1.out) (G.tab g HT.out)).mono ?_
 rintro e w1 ⟨Z1,z1,R1,Z2,z2,R2,rfl,hz1,hz2,hn1,hn2⟩
 have ho1:=fun k o hk=>Nat.le_trans (G.chg _).size (hn1.new k o hk)
 have ho2:=fun k o hk=>Nat.le_trans (G.chg _).size (hn2.new k o hk)
 obtain⟨g1,rfl⟩:=G.new2_ex _ hn1 hn2
 clear hn1 hn2
 (try clear g)
 revert g1
 intro g
 go_wp2_with (with_reducible refine yq _ ?_;(try generalize (G.w _).heap.size=bk);(try dsimp only[yi,yj]);(try clear g);intro g)
 refine bodyPost_ret (v:=.tuple #[.agg #[.bool RR.1,.slice Z1 (limbs RR.2.1).length z1,.slice Z2 (limbs RR.2.2.1).length z2],.int .i64 RR.2.2.2]) (by simp[results,Tryz.results134,go_sem]) rfl ?_
 exact⟨Z1,z1,R1,Z2,z2,R2,rfl,hz1,hz2,G.pass _ (by simp) ho1,G.pass _ (by simp) ho2⟩
theorem two_limbs64 (n:Nat)(h:n<18446744073709551616):val [n%4294967296,n/4294967296]=n∧Ok [n%4294967296,n/4294967296]:=by
 refine⟨by simp[val];omega,?_⟩
 intro x hx
 simp at hx
 omega
theorem size_pos (n:Nat)(h1:n<9223372036854775808)(w:World):Calls Tryz.prog 135 #[.int .i64 n] w (RNat n w):=by
 refine calls_b fun g=>?_
 obtain⟨hv,hk⟩:=two_limbs64 n (by omega)
 have HV:=Lib.hid hv
 have e1:(((n%4294967296:Nat)):Int)=(n:Int)%4294967296:=by omega
 have e2:(((n/4294967296:Nat)):Int)=(n:Int)/4294967296:=by omega
 have E1:=Lib.hid e1
 have E2:=Lib.hid e2
 clear hv e1 e2
 go_enter Tryz.func135,Tryz.ntmps135
 go_wp2_with (with_reducible refine yq _ ?_;(try generalize (G.w _).heap.size=bk);(try dsimp only[yi,yj]);(try clear g);intro g)
 obtain⟨g2,hg2⟩:=g.as (M':=[(bk,73,u32s [n%4294967296,n/4294967296])]) (by simp only[u32s,List.map_cons,List.map_nil,E1.out,E2.out])
 rw[hg2]
 clear hg2 g
 revert g2
 intro g
 have hsl:SlW g.w (some ⟨bk,0,none⟩) 2 [n%4294967296,n/4294967296]:=(sl_blk (by simp) (by decide) hk).at (blkF_sub g.blk0)
 refine(ltrim_any _ _ [n%4294967296,n/4294967296] _ hsl).mono ?_
 rintro e w1 ⟨rfl,hb⟩
 obtain⟨g1,rfl⟩:=G.call_ex _ hb
 clear hb hsl g
 revert g1
 intro g
 rw[HV.out]
 have hfin:(blkF bk (.cells (u32s [n%4294967296,n/4294967296]).toArray 73 (0,0))).Sl (some ⟨bk,0,none⟩) 2 (limbs n):=by
  have:=sl_trim (sl_blk (b:=bk) (T:=73) (fr:=(0,0)) (c:=2) (by simp) (by decide) hk)
  rwa[HV.out] at this
 go_wp2_with (with_reducible refine yq _ ?_;(try generalize (G.w _).heap.size=bk);(try dsimp only[yi,yj]);(try clear g);intro g)
 go_ret
 exact⟨_,2,_,rfl,hfin,g.give (List.mem_cons_self ..)⟩
theorem size_neg (n:Nat)(h0:0<n)(h1:n≤9223372036854775808)(w:World):Calls Tryz.prog 135 #[.int .i64 (-(n:Int))] w (RNat n w):=by
 refine calls_b fun g=>?_
 obtain⟨a,ha⟩:∃a:Int,-(n:Int)=a:=⟨_,rfl⟩
 rw[ha]
 have hneg:a<0:=by omega
 obtain⟨b,hb⟩:∃b:Int,18446744073709551616-(n:Int)=b:=⟨_,rfl⟩
 have w1:IntKind.u64.wrap a=b:=by show a%18446744073709551616=b;omega
 have w2:IntKind.u64.wrap (-b)=(n:Int):=by show(-b)%18446744073709551616=(n:Int);omega
 obtain⟨hv,hk⟩:=two_limbs64 n (by omega)
 have HV:=Lib.hid hv
 have e1:(((n%4294967296:Nat)):Int)=(n:Int)%4294967296:=by omega
 have e2:(((n/4294967296:Nat)):Int)=(n:Int)/4294967296:=by omega
 have E1:=Lib.hid e1
 have E2:=Lib.hid e2
 have hn64:(n:Int)/4294967296<4294967296:=by omega
 clear hv e1 e2 hb
 have h63: -9223372036854775808≤a:=by omega
 go_enter Tryz.func135,Tryz.ntmps135
 go_wp2_with (with_reducible refine yq _ ?_;(try generalize (G.w _).heap.size=bk);(try dsimp only[yi,yj]);(try clear g);intro g)
 obtain⟨g2,hg2⟩:=g.as (M':=[(bk,73,u32s [n%4294967296,n/4294967296])]) (by simp only[u32s,List.map_cons,List.map_nil,E1.out,E2.out])
 rw[hg2]
 clear hg2 g
 revert g2
 intro g
 have hsl:SlW g.w (some ⟨bk,0,none⟩) 2 [n%4294967296,n/4294967296]:=(sl_blk (by simp) (by decide) hk).at (blkF_sub g.blk0)
 refine(ltrim_any _ _ [n%4294967296,n/4294967296] _ hsl).mono ?_
 rintro e w1 ⟨rfl,hb⟩
 obtain⟨g1,rfl⟩:=G.call_ex _ hb
 clear hb hsl g
 revert g1
 intro g
 rw[HV.out]
 have hfin:(blkF bk (.cells (u32s [n%4294967296,n/4294967296]).toArray 73 (0,0))).Sl (some ⟨bk,0,none⟩) 2 (limbs n):=by
  have:=sl_trim (sl_blk (b:=bk) (T:=73) (fr:=(0,0)) (c:=2) (by simp) (by decide) hk)
  rwa[HV.out] at this
 go_wp2_with (with_reducible refine yq _ ?_;(try generalize (G.w _).heap.size=bk);(try dsimp only[yi,yj]);(try clear g);intro g)
 go_ret
 exact⟨_,2,_,rfl,hfin,g.give (List.mem_cons_self ..)⟩
theorem size_any (a:Int)(h1: -9223372036854775808≤a)(h2:a<9223372036854775808)(w:World):Calls Tryz.prog 135 #[.int .i64 a] w (RNat a.natAbs w):=by
 by_cases h:a<0
 ·have:=size_neg a.natAbs (by omega) (by omega) w
  rwa[show -((a.natAbs:Nat):Int)=a by omega] at this
 ·have:=size_pos a.natAbs (by omega) w
  rwa[show((a.natAbs:Nat):Int)=a by omega] at this
/-- what Of answers -/
def ofX (a b:Int):Bool×Nat×Nat×Int:=if b=0 then(false,0,0,6) else outX (frac (decide (a<0) !=decide (b<0)) a.natAbs b.natAbs)
set_option maxRecDepth 20000 in
set_option maxHeartbeats 4000000 in
theorem qOf_any (a b:Int)(h1: -9223372036854775808≤a)(h2:a<9223372036854775808)(h3: -9223372036854775808≤b)(h4:b<9223372036854775808)(w:World)(hT:Tab w):
  Calls Tryz.prog 105 #[.int .i64 a,.int .i64 b] w (RPE (ofX a b) w):=by
 by_cases hb0:b=0
 ·subst hb0
  refine calls_b fun g=>?_
  go_enter Tryz.func105,Tryz.ntmps105
  go_wp2_with (with_reducible refine yq _ ?_;(try generalize (G.w _).heap.size=bk);(try dsimp only[yi,yj]);(try clear g);intro g)
  refine bodyPost_ret (v:=.tuple #[.agg #[.bool false,.slice none 0 0,.slice none 0 0],.int .i64 6]) (by simp[results,Tryz.results105,go_sem]) rfl ?_
  exact rpe_err _ _
 ·have hd0:b.natAbs≠0:=by omega
  have hla:(limbs a.natAbs).length≤2:=(limbs_len _ 2).2 (by rw[pow32];omega)
  have hlb:(limbs b.natAbs).length≤2:=(limbs_len _ 2).2 (by rw[pow32];omega)
  unfold ofX
  rw[if_neg hb0]
  refine calls_n fun g=>?_
  have CSA:=Lib.hid (fun w=>size_any a h1 h2 w)
  have CSB:=Lib.hid (fun w=>size_any b h3 h4 w)
  have hbz:(b==0)=false:=by rw[beq_eq_false_iff_ne];exact hb0
  have HT:=Lib.hid hT
  generalize a.natAbs=na at*
  generalize b.natAbs=nb at*
  obtain⟨sg,hsg⟩:∃sg,(decide (a<0) !=decide (b<0))=sg:=⟨_,rfl⟩
  rw[hsg]
  have hsg2:(!(decide (a<0)==decide (b<0)))=sg:=hsg
  clear hsg
  have CL:=Lib.hid (fun F A c B k w hF h1 h2 hT=>low_rat F sg A B c k na nb w hF h1 h2 hT (by omega) (by omega) hd0)
  generalize frac sg na nb=x at*
  have CR:=Lib.hid (fun A B c k w h1 h2=>result_any (rneg x) A B c k (rn x) x.den w h1 h2)
  unfold outX
  generalize outP (rneg x) (rn x) x.den=RR at*
  clear h1 h2 h3 h4 hla hlb hd0 hb0 hT
  go_enter Tryz.func105,Tryz.ntmps105
  go_wp2_with (with_reducible refine yq _ ?_;(try generalize (G.w _).heap.size=bk);(try dsimp only[yi,yj]);(try clear g);intro g)
  refine(CSA.out _).mono ?_
  rintro e w1 ⟨X1,x1,P1,rfl,hx1,hn1⟩
  have ho1:=New.over hn1 nilF (G.chg _).size
  obtain⟨g1,rfl⟩:=G.new_ex _ hn1
  clear hn1
  (try clear g)
  revert g1
  intro g
  go_wp2_with (with_reducible refine yq _ ?_;(try generalize (G.w _).heap.size=bk);(try dsimp only[yi,yj]);(try clear g);intro g)
  refine(CSB.out _).mono ?_
  rintro e w1 ⟨X2,x2,P2,rfl,hx2,hn2⟩
  have ho2:=New.over hn2 nilF (G.chg _).size
  obtain⟨g1,rfl⟩:=G.new_ex _ hn2
  clear hn2
  (try clear g)
  revert g1
  intro g
  go_wp2_with (with_reducible refine yq _ ?_;(try generalize (G.w _).heap.size=bk);(try dsimp only[yi,yj]);(try clear g);intro g)
  refine(CL.out (g.fr nilF) X1 x1 X2 x2 _ (g.fr_sub (by simp)) (g.fr_sl (by simp) ho1 hx1) (g.fr_sl (by simp) ho2 hx2) (G.tab g HT.out)).mono ?_
  rintro e w1 ⟨Y1,y1,Q1,Y2,y2,Q2,rfl,hy1,hy2,hn1,hn2⟩
  obtain⟨g1,rfl,hov1,hov2⟩:=G.new3_ex g hn1 hn2
  clear hn1 hn2
  (try clear g)
  revert g1
  intro g
  go_wp2_with (with_reducible refine yq _ ?_;(try generalize (G.w _).heap.size=bk);(try dsimp only[yi,yj]);(try clear g);intro g)
  refine(CR.out _ _ _ _ _ (G.sl g (by simp) hy1) (G.sl g (by simp) hy2)).mono ?_
  rintro e w1 ⟨Z1,z1,R1,Z2,z2,R2,rfl,hz1,hz2,hn1,hn2⟩
  have ho1:=fun k o hk=>Nat.le_trans (G.chg _).size (hn1.new k o hk)
  have ho2:=fun k o hk=>Nat.le_trans (G.chg _).size (hn2.new k o hk)
  obtain⟨g1,rfl⟩:=G.new2_ex _ hn1 hn2
  clear hn1 hn2
  (try clear g)
  revert g1
  intro g
  go_wp2_with (with_reducible refine yq _ ?_;(try generalize (G.w _).heap.size=bk);(try dsimp only[yi,yj]);(try clear g);intro g)
  refine bodyPost_ret (v:=.tuple #[.agg #[.bool RR.1,.slice Z1 (limbs RR.2.1).length z1,.slice Z2 (limbs RR.2.2.1).length z2],.int .i64 RR.2.2.2]) (by simp[results,Tryz.results105,go_sem]) rfl ?_
  exact⟨Z1,z1,R1,Z2,z2,R2,rfl,hz1,hz2,G.pass _ (by simp) ho1,G.pass _ (by simp) ho2⟩
/-- a number without an error -/
def RX (x:Rat)(w:World)(e:Ending)(w':World):Prop:=∃A c F B k H,e=.returned (.tuple #[.agg #[.bool (rneg x),.slice A (limbs (rn x)).length c,.slice B (limbs x.den).length k],.int .i64 0])∧F.Sl A c (limbs (rn x))∧H.Sl B k (limbs x.den)∧New w w' F∧New w w' H
theorem rchk_x {x:Rat}(h:Bd 8192 x):rchk (rneg x) (limbs (rn x)) (limbs x.den)=0:=by
 unfold rchk
 rw[chk_limbs h.1,chk_limbs h.2,val_limbs,val_limbs,if_neg (by decide),if_neg (by decide),if_neg x.den_nz,if_neg]
 rintro(⟨h1,h2⟩|h1)
 ·exact rneg_ne h1 h2
 ·exact h1 (rgcd x)
theorem fr_x (x:Rat):fr (rneg x) (limbs (rn x)) (limbs x.den)=x:=by
 unfold fr;rw[val_limbs,val_limbs,frac_self]
theorem outX_x {x:Rat}(h:Bd 8192 x):outX x=(rneg x,rn x,x.den,0):=by
 unfold outX outP;exact if_pos h
section
variable (A1 B1 A2 B2:Option Addr)(c1 k1 c2 k2:Nat)(x y:Rat)
theorem qAdd_x (z:Rat)(hx:Bd 8192 x)(hy:Bd 8192 y)(hz:Bd 8192 z)(e:x+y=z)(w:World)(h1:SlW w A1 c1 (limbs (rn x)))(j1:SlW w B1 k1 (limbs x.den))(h2:SlW w A2 c2 (limbs (rn y)))(j2:SlW w B2 k2 (limbs y.den))(hT:Tab w):
  Calls Tryz.prog 101 #[.agg #[.bool (rneg x),.slice A1 (limbs (rn x)).length c1,.slice B1 (limbs x.den).length k1],.agg #[.bool (rneg y),.slice A2 (limbs (rn y)).length c2,.slice B2 (limbs y.den).length k2]] w (RX z w):=by
 subst e
 have:=qAdd_any (rneg x) (rneg y) A1 B1 A2 B2 c1 k1 c2 k2 _ _ _ _ w h1 j1 h2 j2 hT
 rw[rchk_x hx,rchk_x hy,fr_x,fr_x,outX_x hz] at this
 exact this
theorem qSub_x (z:Rat)(hx:Bd 8192 x)(hy:Bd 8192 y)(hz:Bd 8192 z)(e:x-y=z)(w:World)(h1:SlW w A1 c1 (limbs (rn x)))(j1:SlW w B1 k1 (limbs x.den))(h2:SlW w A2 c2 (limbs (rn y)))(j2:SlW w B2 k2 (limbs y.den))(hT:Tab w):
  Calls Tryz.prog 148 #[.agg #[.bool (rneg x),.slice A1 (limbs (rn x)).length c1,.slice B1 (limbs x.den).length k1],.agg #[.bool (rneg y),.slice A2 (limbs (rn y)).length c2,.slice B2 (limbs y.den).length k2]] w (RX z w):=by
 subst e
 have:=qSub_any (rneg x) (rneg y) A1 B1 A2 B2 c1 k1 c2 k2 _ _ _ _ w h1 j1 h2 j2 hT
 rw[rchk_x hx,rchk_x hy,fr_x,fr_x,outX_x hz] at this
 exact this
theorem qMul_x (z:Rat)(hx:Bd 8192 x)(hy:Bd 8192 y)(hz:Bd 8192 z)(e:x*y=z)(w:World)(h1:SlW w A1 c1 (limbs (rn x)))(j1:SlW w B1 k1 (limbs x.den))(h2:SlW w A2 c2 (limbs (rn y)))(j2:SlW w B2 k2 (limbs y.den))(hT:Tab w):
  Calls Tryz.prog 29 #[.agg #[.bool (rneg x),.slice A1 (limbs (rn x)).length c1,.slice B1 (limbs x.den).length k1],.agg #[.bool (rneg y),.slice A2 (limbs (rn y)).length c2,.slice B2 (limbs y.den).length k2]] w (RX z w):=by
 subst e
 have:=qMul_any (rneg x) (rneg y) A1 B1 A2 B2 c1 k1 c2 k2 _ _ _ _ w h1 j1 h2 j2 hT
 rw[rchk_x hx,rchk_x hy,fr_x,fr_x,outX_x hz] at this
 exact this
theorem qDiv_x (z:Rat)(hx:Bd 8192 x)(hy:Bd 8192 y)(hz:Bd 8192 z)(h0:rn y≠0)(e:x/y=z)(w:World)(h1:SlW w A1 c1 (limbs (rn x)))(j1:SlW w B1 k1 (limbs x.den))(h2:SlW w A2 c2 (limbs (rn y)))(j2:SlW w B2 k2 (limbs y.den))(hT:Tab w):
  Calls Tryz.prog 149 #[.agg #[.bool (rneg x),.slice A1 (limbs (rn x)).length c1,.slice B1 (limbs x.den).length k1],.agg #[.bool (rneg y),.slice A2 (limbs (rn y)).length c2,.slice B2 (limbs y.den).length k2]] w (RX z w):=by
 subst e
 have:=qDiv_any (rneg x) (rneg y) A1 B1 A2 B2 c1 k1 c2 k2 _ _ _ _ w h1 j1 h2 j2 hT
 rw[rchk_x hx,rchk_x hy,fr_x,fr_x] at this
 unfold divX at this
 rw[val_limbs,if_neg h0,outX_x hz] at this
 exact this
theorem qNeg_x (z:Rat)(hx:Bd 8192 x)(e: -x=z)(w:World)(h1:SlW w A1 c1 (limbs (rn x)))(j1:SlW w B1 k1 (limbs x.den))(hT:Tab w):
  Calls Tryz.prog 134 #[.agg #[.bool (rneg x),.slice A1 (limbs (rn x)).length c1,.slice B1 (limbs x.den).length k1]] w (RX z w):=by
 subst e
 have:=qNeg_any (rneg x) A1 B1 c1 k1 _ _ w h1 j1 hT
 have hl:decide (0<(limbs (rn x)).length)=decide (rn x≠0):=by
  have h0:(limbs (rn x)).length=0↔rn x=0:=by rw[List.length_eq_zero_iff,limbs_nil]
  by_cases h:rn x=0
  ·rw[decide_eq_false (by omega),decide_eq_false (by omega)]
  ·rw[decide_eq_true (by omega),decide_eq_true (by omega)]
 have hb:=hx.neg
 have e:outP (!rneg x&&decide (rn x≠0)) (rn x) x.den=(rneg (-x),rn (-x),(-x).den,0):=by
  rw[←rneg_neg,←rn_neg x,←Rat.neg_den x]
  unfold outP
  rw[rn_neg,Rat.neg_den] at*
  exact if_pos hx
 rw[rchk_x hx,hl,val_limbs,val_limbs,e] at this
 exact this
end
theorem qOf_x (a b:Int)(z:Rat)(hb:b≠0)(hz:Bd 8192 z)(e:frac (decide (a<0) !=decide (b<0)) a.natAbs b.natAbs=z)(h1: -9223372036854775808≤a)(h2:a<9223372036854775808)(h3: -9223372036854775808≤b)(h4:b<9223372036854775808)(w:World)(hT:Tab w):
  Calls Tryz.prog 105 #[.int .i64 a,.int .i64 b] w (RX z w):=by
 have:=qOf_any a b h1 h2 h3 h4 w hT
 unfold ofX at this
 rw[if_neg hb,e,outX_x hz] at this
 exact this
theorem isone_any (A:Option Addr)(c:Nat)(v:Nat)(w:World)(h:SlW w A c (limbs v)):
  Calls Tryz.prog 94 #[.slice A (limbs v).length c] w fun e w'=>e=.returned (.bool (decide (v=1)))∧w=w':=by
 have hm:=h.len
 by_cases h1:(limbs v).length=1
 ·obtain⟨b,o,rfl,hcell⟩:=limW_cell h.lim (by omega)
  have e1:=hcell 0 (by omega)
  clear hcell h
  have hv:(limbs v).getD 0 0=v:=by
   have:=val_limbs v
   obtain⟨x,hx⟩:=List.length_eq_one_iff.1 h1
   rw[hx] at this ⊢
   simpa [val] using this
  rw[hv] at e1
  rw[h1]
  simp only[Nat.add_zero] at e1
  by_cases hx:v=1
  ·subst hx
   go_enter Tryz.func94,Tryz.ntmps94
   go_wp2_with fail
   go_ret
   exact⟨rfl,rfl⟩
  ·have hd:decide (v=1)=false:=decide_eq_false hx
   rw[hd]
   have hx1:(((v:Nat):Int)==1)=false:=by simp only[beq_eq_false_iff_ne,ne_eq];omega
   clear hx hd hv h1 hm
   generalize ((v:Nat):Int)=u at*
   go_enter Tryz.func94,Tryz.ntmps94
   go_wp2_with fail
   go_ret
   exact⟨rfl,rfl⟩
 ·have hv:v≠1:=by
   rintro rfl
   rw[limbs_one (by decide) (by decide)] at h1
   exact h1 rfl
  rw[decide_eq_false hv]
  have hl1:(((limbs v).length:Int)==1)=false:=by simp only[beq_eq_false_iff_ne,ne_eq];omega
  generalize (limbs v).length=n at*
  go_enter Tryz.func94,Tryz.ntmps94
  go_wp2_with fail
  go_ret
  exact⟨rfl,rfl⟩
theorem rOrder_any (A1 A2:Option Addr)(c1 c2 a b:Nat)(w:World)(h1:SlW w A1 c1 (limbs a))(h2:SlW w A2 c2 (limbs b))(hl9:(limbs a).length≤1000000000):
  Calls Tryz.prog 112 #[.slice A1 (limbs a).length c1,.slice A2 (limbs b).length c2] w fun e w'=>e=.returned (.int .i64 (ord a b))∧Below w.heap.size w w':=by
 refine calls_b fun g=>?_
 have C1:=Lib.hid (fun w h1 h2=>rcmp_any A1 A2 c1 c2 a b w h1 h2 hl9)
 generalize (limbs a).length=n1 at*
 generalize (limbs b).length=n2 at*
 generalize ord a b=r at*
 go_enter Tryz.func112,Tryz.ntmps112
 go_wp2_with (with_reducible refine yq _ ?_;(try generalize (G.w _).heap.size=bk);(try dsimp only[yi,yj]);(try clear g);intro g)
 refine(C1.out _ (G.sl g (by simp) h1) (G.sl g (by simp) h2)).mono ?_
 rintro e w1 ⟨rfl,hb⟩
 obtain⟨g1,rfl⟩:=G.call_ex _ hb
 clear hb
 (try clear g)
 revert g1
 intro g
 go_wp2_with (with_reducible refine yq _ ?_;(try generalize (G.w _).heap.size=bk);(try dsimp only[yi,yj]);(try clear g);intro g)
 go_ret
 exact⟨rfl,G.below _⟩
theorem rTimes_any (A1 A2:Option Addr)(c1 c2 a b:Nat)(w:World)(h1:SlW w A1 c1 (limbs a))(h2:SlW w A2 c2 (limbs b))(hl1:(limbs a).length≤1000000000)(hl2:(limbs b).length≤1000000000):
  Calls Tryz.prog 97 #[.slice A1 (limbs a).length c1,.slice A2 (limbs b).length c2] w (RNat (a*b) w):=by
 refine calls_b fun g=>?_
 have C1:=Lib.hid (fun w h1 h2=>rmul_any A1 A2 c1 c2 (limbs a) (limbs b) w h1 h2 hl1 hl2)
 rw[val_limbs,val_limbs] at C1
 generalize (limbs a).length=n1 at*
 generalize (limbs b).length=n2 at*
 generalize a*b=r at*
 go_enter Tryz.func97,Tryz.ntmps97
 go_wp2_with (with_reducible refine yq _ ?_;(try generalize (G.w _).heap.size=bk);(try dsimp only[yi,yj]);(try clear g);intro g)
 refine(C1.out _ (G.sl g (by simp) h1) (G.sl g (by simp) h2)).mono ?_
 rintro e w1 ⟨X,x,P,rfl,hx,hn⟩
 have ho:=fun k o hk=>Nat.le_trans (G.chg _).size (hn.new k o hk)
 obtain⟨g1,rfl⟩:=G.new_ex _ hn
 clear hn
 (try clear g)
 revert g1
 intro g
 go_wp2_with (with_reducible refine yq _ ?_;(try generalize (G.w _).heap.size=bk);(try dsimp only[yi,yj]);(try clear g);intro g)
 go_ret
 exact⟨X,x,P,rfl,hx,G.pass _ (by simp) ho⟩
theorem rone_any (w:World):Calls Tryz.prog 119 #[] w (RNat 1 w):=by
 refine calls_b fun g=>?_
 go_enter Tryz.func119,Tryz.ntmps119
 go_wp2_with (with_reducible refine yq _ ?_;(try generalize (G.w _).heap.size=bk);(try dsimp only[yi,yj]);(try clear g);intro g)
 go_ret
 have h1:limbs 1=[1]:=limbs_one (by decide) (by decide)
 refine⟨some ⟨_,0,none⟩,1,_,by rw[h1];rfl,?_,g.give (List.mem_cons_self ..)⟩
 rw[h1]
 exact sl_blk (l:=[1]) (by simp) (by decide) (by intro x hx;simp at hx;omega)
theorem and1_u32 (x:Nat)(hx:x<4294967296):bits .and .u32 (x:Int) 1=((x%2:Nat):Int):=by
 rw[K3.and32,BitVec.toNat_and,BitVec.ofInt_natCast,BitVec.toNat_ofNat,Nat.mod_eq_of_lt (by omega),show(BitVec.ofInt 32 1).toNat=1 from rfl,Nat.and_one_is_mod]
/-- a bit of a number in its limbs -/
theorem bit_limb {l:List Nat}(ho:Ok l)(k:Nat):l.getD (k/32) 0/2^(k%32)%2=val l/2^k%2:=by
 rw[getD_val l ho,pow32]
 have hk:k=32*(k/32)+k%32:=by omega
 have hr:k%32<32:=Nat.mod_lt _ (by decide)
 obtain⟨q,hq⟩:∃q,k/32=q:=⟨_,rfl⟩
 obtain⟨r,hr'⟩:∃r,k%32=r:=⟨_,rfl⟩
 rw[hq,hr'] at hk ⊢
 rw[hr'] at hr
 subst hk
 rw[Nat.pow_add,←Nat.div_div_eq_div_mul]
 generalize val l/2^(32*q)=y
 have e:4294967296=2^r*2^(32-r):=by rw[←Nat.pow_add,show r+(32-r)=32 by omega]
 rw[e,Nat.mod_mul_right_div_self,Nat.mod_mod_of_dvd]
 exact⟨2^(32-r-1),by rw[←Nat.pow_succ',show(32-r-1).succ=32-r by omega]⟩
theorem tz_bit_lt {v k:Nat}(h:v≠0)(hk:k<tz v):v/2^k%2=0:=by
 obtain⟨e,_⟩:=od_spec v h
 have:v/2^k=2*(2^(tz v-k-1)*od v):=by
  conv=>lhs;rw[e]
  rw[show 2^tz v=2^k*(2*2^(tz v-k-1)) by rw[←Nat.pow_succ',←Nat.pow_add];congr 1;omega]
  rw[Nat.mul_assoc,Nat.mul_div_cancel_left _ (Nat.two_pow_pos k),Nat.mul_assoc]
 omega
theorem tz_bit_eq {v:Nat}(h:v≠0):v/2^tz v%2=1:=(od_spec v h).2
theorem tz_bits_len {l:List Nat}(ho:Ok l)(h:val l≠0):tz (val l)<32*l.length:=by
 obtain⟨e,_⟩:=od_spec _ h
 have h1:2^tz (val l)≤val l:=by
  have:=Nat.mul_le_mul_left (2^tz (val l)) (Nat.one_le_iff_ne_zero.2 (od_pos h))
  omega
 have h2:=val_lt ho
 rw[pow32] at h2
 exact(Nat.pow_lt_pow_iff_right (by decide:1<2)).1 (Nat.lt_of_le_of_lt h1 h2)
set_option maxRecDepth 20000 in
theorem rtwos_any (A:Option Addr)(c:Nat)(l:List Nat)(w:World)(h:SlW w A c l)(h0:val l≠0):
  Calls Tryz.prog 125 #[.slice A l.length c] w fun e w'=>e=.returned (.int .i64 (tz (val l):Nat))∧w=w':=by
 have hm:=h.len
 have hmm:=h.max
 have hc:=h.cap
 have ho:=h.ok
 have ht:=tz_bits_len ho h0
 obtain⟨n,hn⟩:∃n,l.length=n:=⟨_,rfl⟩
 obtain⟨t,htt⟩:∃t,tz (val l)=t:=⟨_,rfl⟩
 rw[hn] at hm hc ht ⊢
 rw[htt] at ht ⊢
 have HN:=Lib.hid hn
 have H0:=Lib.hid h0
 have HT:=Lib.hid htt
 clear hn h0 htt
 go_enter Tryz.func125,Tryz.ntmps125
 go_wp2_with fail
 go_loopg [3] t (fun gk i wr=>∃k:Nat,k+gk=t∧i=.int .i64 k∧wr=w)
 case atStart=>exact⟨0,by omega,rfl,rfl⟩
 case round=>
  obtain⟨k,hkg,rfl,rfl⟩:=hrel
  obtain⟨b,o,rfl,hcell⟩:=limW_cell h.lim (by rw[HN.out];omega)
  have e1:=hcell (k/32) (by rw[HN.out];omega)
  clear hcell
  have hbit:=bit_limb ho k
  have hxl:=ho.getD (k/32)
  have hq:((k:Int).tdiv 32)=((k/32:Nat):Int):=by rw[Int.tdiv_eq_ediv_of_nonneg (by omega)];omega
  have hr:((k:Int).tmod 32)=((k%32:Nat):Int):=by rw[Int.tmod_eq_emod_of_nonneg (by omega)];omega
  have hqn:((k/32:Nat):Int)<(n:Int):=by omega
  have hr32:k%32<32:=by omega
  have hb:bits .and .u32 (((l.getD (k/32) 0/2^(k%32):Nat)):Int) 1=((val l/2^k%2:Nat):Int):=by
   rw[and1_u32 _ (Nat.lt_of_le_of_lt (Nat.div_le_self _ _) hxl),hbit]
  clear hbit
  generalize l.getD (k/32) 0=x at*
  generalize hkq:k/32=q at*
  generalize hkr:k%32=r at*
  rw[show(((x/2^r:Nat)):Int)=(x:Int)/2^r by rw[Int.natCast_ediv,Int.natCast_pow];rfl] at hb
  by_cases hk:gk=0
  ·subst hk
   have hkt:k=t:=by omega
   have HKT:=Lib.hid hkt
   rw[show val l/2^k%2=1 by rw[hkt,←HT.out];exact tz_bit_eq H0.out] at hb
   have hbz:(bits .and .u32 ((x:Int)/2^r) 1==0)=false:=by rw[hb];rfl
   clear hkt hb
   go_wp2_with fail
   go_ret
   exact⟨ret_int (by rw[HKT.out]),rfl⟩
  ·have HKT:=Lib.hid (show k<t by omega)
   rw[show val l/2^k%2=0 from tz_bit_lt H0.out (by rw[HT.out];exact HKT.out)] at hb
   have hbz:(bits .and .u32 ((x:Int)/2^r) 1==0)=true:=by rw[hb];rfl
   clear hb
   go_wp2_with fail
   go_roundg (gk-1)
   case measure=>omega
   case rel=>exact⟨k+1,by omega,by go_num,rfl⟩
set_option maxRecDepth 20000 in
set_option maxHeartbeats 2000000 in
theorem rodd_any (b o n cap:Nat)(cs:List Value)(l:List Nat)(w:World)(hb:w.heap[b]?=some (.cells cs.toArray 73 (0,0)))(hs:Seg cs o l)(hn:l.length=n)(hcap:n≤cap)(hcap2:cap≤9223372036854775807)(hn9:n≤1000000000)(hk:Ok l)(h0:val l≠0):
  Calls Tryz.prog 126 #[.slice (some ⟨b,o,none⟩) n cap] w (ROdd b o cap n (val l) cs.length w):=by
 refine calls_m hb fun g=>?_
 have hsl:SlW g.w (some ⟨b,o,none⟩) cap l:=(hs.sl (by omega) hcap2 (by omega) hk).at (blkF_sub g.blk0)
 have C2:=Lib.hid (fun w h=>rtwos_any (some ⟨b,o,none⟩) cap l w h h0)
 rw[hn] at C2
 have hq:=tz_len hk h0
 have hod:=od_split hk
 obtain⟨t,ht⟩:∃t,tz (val l)=t:=⟨_,rfl⟩
 rw[ht] at C2 hq hod
 obtain⟨q,hqe⟩:∃q,t/32=q:=⟨_,rfl⟩
 obtain⟨r,hre⟩:∃r,t%32=r:=⟨_,rfl⟩
 rw[hqe] at hq hod
 rw[hre] at hod
 have hr32:r<32:=by omega
 have hqi:Int.tdiv (t:Int) 32=(q:Int):=by rw[Int.tdiv_eq_ediv_of_nonneg (by omega)];omega
 have hri:Int.tmod (t:Int) 32=(r:Int):=by rw[Int.tmod_eq_emod_of_nonneg (by omega)];omega
 have hqi2:(t:Int)/32=(q:Int):=by omega
 have hri2:(t:Int)%32=(r:Int):=by omega
 have ht9:t≤32000000000:=by omega
 obtain⟨n',hn'⟩:∃n',n-q=n':=⟨_,rfl⟩
 obtain⟨o',ho'⟩:∃o',o+q=o':=⟨_,rfl⟩
 obtain⟨c',hc'⟩:∃c',cap-q=c':=⟨_,rfl⟩
 have hsd:=hs.drop q (by omega)
 have hok':=hk.drop q
 obtain⟨l',hl'⟩:∃l',l.drop q=l':=⟨_,rfl⟩
 have hll:l'.length=n':=by rw[←hl',List.length_drop];omega
 rw[hl'] at hsd hok' hod
 rw[ho'] at hsd
 have HQ:=Lib.hid (show q<n by omega)
 have HO:=Lib.hid ho'
 have HC:=Lib.hid hc'
 have HLL:=Lib.hid hll
 have HOD:=Lib.hid hod
 have HSD:=Lib.hid hsd
 have hqn:q<n:=by omega
 have hqn2:(q:Int)≤(n:Int):=by omega
 have hqc:q<cap:=by omega
 have hn'9:n'≤1000000000:=by omega
 have hc'9:n'≤c':=by omega
 have hc'8:c'≤9223372036854775807:=by omega
 have hr0:¬ ((r:Int)<0):=by omega
 have hr1:(0:Int)≤(r:Int):=by omega
 clear hl' hll hod hsd hs hq hn hqe hre ht
 go_enter Tryz.func126,Tryz.ntmps126
 go_wp2_with (with_reducible refine yq _ ?_;(try generalize (G.w _).heap.size=bk);(try dsimp only[yi,yj]);(try clear g);intro g)
 refine(C2.out _ hsl).mono ?_
 rintro e w1 ⟨rfl,rfl⟩
 go_wp2_with (with_reducible refine yq _ ?_;(try generalize (G.w _).heap.size=bk);(try dsimp only[yi,yj]);(try clear g);intro g)
 go_loopg [4] n' (fun gk i wr=>∃(k:Nat) (pre:List Nat) (cs':List Value),k+gk=n'∧i=.int .i64 k∧pre.length=k∧Ok pre∧Hid (val pre=val l'/2^r%4294967296^k)∧Hid (Seg cs' o' (pre++l'.drop k))∧cs'.length=cs.length∧∃g:G w [b] [(b,73,cs')] [heapBut w b],wr=g.w)
 case atStart=>exact⟨0,[],cs,by omega,rfl,rfl,Ok.nil,Lib.hid (by simp[val,Nat.mod_one]),Lib.hid (by rw[List.drop_zero,List.nil_append];exact HSD.out),rfl,g,rfl⟩
 case round=>
  clear g hsl
  obtain⟨k,pre,cs',hkg,rfl,hp,hpo,HV,HS,hcl,g,rfl⟩:=hrel
  have HP:=Lib.hid hp
  have HCL:=Lib.hid hcl
  clear hp hcl
  have hLl:(pre++l'.drop k).length=n':=by rw[List.length_append,List.length_drop,HP.out,HLL.out];omega
  have hLo:Ok (pre++l'.drop k):=hpo.append (hok'.drop k)
  have HSLg:Hid (∀g:G w [b] [(b,73,cs')] [heapBut w b],SlW g.w (some ⟨b,o',none⟩) c' (pre++l'.drop k)):=Lib.hid (fun g=>(HS.out.sl (by omega) hc'8 (by omega) hLo).at (blkF_sub g.blk0))
  have HLn:=Lib.hid hLl
  by_cases hk2:k<n'
  ·have e1:=HS.out.get k (by omega)
   rw[pre_get HP.out (Nat.le_refl _)] at e1
   have hx:=hok'.getD k
   have hy:=hok'.getD (k+1)
   have dl:=down_limb hok' k r hr32
   have st:=Lib.hid (low_step HP.out HV.out dl)
   have e2:k+1<n'→cs'[o'+(k+1)]?=some (.int .u32 ((l'.getD (k+1) 0:Nat):Int)):=fun h=>by
    have:=HS.out.get (k+1) (by omega)
    rwa[pre_get HP.out (by omega)] at this
   have e3:¬ k+1<n'→l'.getD (k+1) 0=0:=fun h=>by
    rw[List.getD_eq_getElem?_getD,List.getElem?_eq_none (by rw[HLL.out];omega)];rfl
   have HS2:∀z,Hid (Seg (cs'.set (o'+k) (.int .u32 ((z:Nat):Int))) o' ((pre++[z])++l'.drop (k+1))):=fun z=>Lib.hid (by
    rw[←pre_set HP.out (by rw[HLL.out];exact hk2)]
    exact HS.out.set (by rw[HLn.out];exact hk2) z)
   have hr:(l'.getD k 0+4294967296*l'.getD (k+1) 0)/2^r%4294967296<4294967296:=Nat.mod_lt _ (by decide)
   clear dl hLl
   generalize l'.getD k 0=x at*
   generalize l'.getD (k+1) 0=y at*
   have ht:x+4294967296*y<18446744073709551616:=by omega
   have hor:bits .or .u64 (x:Int) ((y:Int)*4294967296)=((x+4294967296*y:Nat):Int):=by
    rw[show(y:Int)*4294967296=((y*4294967296:Nat):Int) by omega,K3.or64_add _ _ 32 (by omega) (by omega) (by omega) (by omega)]
    omega
   have hw1:IntKind.u64.wrap (x:Int)=(x:Int):=by rw[IntKind.wrap_u64];omega
   have hw2:IntKind.u64.wrap (y:Int)=(y:Int):=by rw[IntKind.wrap_u64];omega
   have hw3:IntKind.u64.wrap ((y:Int)*4294967296)=(y:Int)*4294967296:=by rw[IntKind.wrap_u64];omega
   obtain⟨tt,htt⟩:∃t,x+4294967296*y=t:=⟨_,rfl⟩
   rw[htt] at hor ht st hr
   obtain⟨z,hz⟩:∃z,tt/2^r%4294967296=z:=⟨_,rfl⟩
   rw[hz] at st hr
   have he1:(tt:Int)/2^r%4294967296=(z:Int):=by
    rw[←hz,show(tt:Int)/2^r=((tt/2^r:Nat):Int) by rw[Int.natCast_ediv,Int.natCast_pow];rfl]
    omega
   have he2:IntKind.u32.wrap ((tt:Int)/2^r)=(z:Int):=by rw[IntKind.wrap_u32];exact he1
   have HS3:=HS2 z
   have hcl2:Hid ((cs'.set (o'+k) (.int .u32 ((z:Nat):Int))).length=cs.length):=Lib.hid (by rw[List.length_set];exact HCL.out)
   clear hz ht HS2
   have hi2:(k:Int)<(n':Int):=by omega
   have hi3:IntKind.i64.wrap ((k:Int)+1)=(k:Int)+1:=by rw[IntKind.wrap_i64];omega
   generalize pre++l'.drop k=L at*
   by_cases hk3:k+1<n'
   ·have e4:=e2 hk3
    have hi4:(k:Int)+1<(n':Int):=by omega
    have hr9:=Lib.hid hr
    have HTT:=Lib.hid htt
    clear e2 e3 hr htt
    go_wp2_with (with_reducible refine yq _ ?_;(try generalize (G.w _).heap.size=bk);(try dsimp only[yi,yj]);(try clear g);intro g)
    go_roundg (gk-1)
    case measure=>omega
    case rel=>exact⟨k+1,pre++[z],_,by omega,by go_num,by rw[List.length_append,HP.out];rfl,hpo.append (Ok.cons hr9.out Ok.nil),st,HS3,hcl2.out,g,rfl⟩
   ·have hy0:=e3 hk3
    have hi4:¬ ((k:Int)+1<(n':Int)):=by omega
    have hxt:x=tt:=by omega
    have hr9:=Lib.hid hr
    clear e2 e3 hr htt hw2 hw3 hor hy0
    subst hxt
    go_wp2_with (with_reducible refine yq _ ?_;(try generalize (G.w _).heap.size=bk);(try dsimp only[yi,yj]);(try clear g);intro g)
    go_roundg (gk-1)
    case measure=>omega
    case rel=>exact⟨k+1,pre++[z],_,by omega,by go_num,by rw[List.length_append,HP.out];rfl,hpo.append (Ok.cons hr9.out Ok.nil),st,HS3,hcl2.out,g,rfl⟩
  ·obtain rfl:k=n':=by omega
   have hv:val (pre++l'.drop k)=od (val l):=by
    rw[HOD.out,List.drop_of_length_le (by rw[HLL.out];exact Nat.le_refl _),List.append_nil]
    exact down_end hok' (n:=k) (by rw[HLL.out];exact Nat.le_refl _) HV.out
   have hst:=HS.out.trim hLo
   rw[hv] at hst
   have hst:=HS.out.trim hLo
   rw[hv] at hst
   have hlo9:Hid (q+(limbs (od (val l))).length≤n):=Lib.hid (by have:=limbs_len_le_of_ok hLo;rw[hv,HLn.out] at this;omega)
   have HST:=Lib.hid hst
   have hV0:=od_pos h0
   generalize pre++l'.drop k=L at*
   obtain⟨V,hVe⟩:∃V,od (val l)=V:=⟨_,rfl⟩
   rw[hVe] at hv hst hlo9 HST hV0
   have HVE:=Lib.hid hVe
   have HV0:=Lib.hid hV0
   have HVL:=Lib.hid hv
   clear hst hv hLl hV0 HSLg hVe
   go_wp2_with (with_reducible refine yq _ ?_;(try generalize (G.w _).heap.size=bk);(try dsimp only[yi,yj]);(try clear g);intro g)
   go_loopg [0] k (fun gk s0 wr=>gk≤k∧s0=.slice (some ⟨b,o',none⟩) gk c'∧Hid (val (L.take gk)=V)∧∃g:G w [b] [(b,73,cs')] [heapBut w b],wr=g.w)
   case atStart=>exact⟨Nat.le_refl _,rfl,Lib.hid (by rw[List.take_of_length_le (by rw[HLn.out];exact Nat.le_refl _)];exact HVL.out),g,rfl⟩
   case round=>
    clear g
    obtain⟨hj,rfl,HVJ,g,rfl⟩:=hrel
    have hj0:0<gk:=by
     rcases Nat.eq_zero_or_pos gk with h|h
     ·exfalso;apply HV0.out;rw[←HVJ.out,h,List.take_zero];rfl
     ·exact h
    have e1:=HS.out.get (gk-1) (by rw[HLn.out];omega)
    have hji:((gk-1:Nat):Int)=(gk:Int)-1:=by omega
    have hj1:(0:Int)≤(gk:Int)-1:=by omega
    have hj2:(gk:Int)-1<(gk:Int):=by omega
    by_cases hx:L.getD (gk-1) 0=0
    ·have hv':val (L.take (gk-1))=V:=by
      rw[←HVJ.out]
      have:=val_take_getD L (gk-1)
      rw[show gk-1+1=gk by omega,hx] at this
      omega
     have HV':=Lib.hid hv'
     have hx1:(((L.getD (gk-1) 0:Nat):Int)==0)=true:=by simp only[hx];rfl
     clear hv' hx
     generalize ((L.getD (gk-1) 0:Nat):Int)=v at*
     go_wp2_with (with_reducible refine yq _ ?_;(try generalize (G.w _).heap.size=bk);(try dsimp only[yi,yj]);(try clear g);intro g)
     go_roundg (gk-1)
     case measure=>omega
     case rel=>exact⟨by omega,rfl,HV',g,rfl⟩
    ·have hlen:(limbs V).length=gk:=by
      have hl:(L.take gk).length=gk:=by rw[List.length_take,HLn.out];omega
      have t:Trim (L.take gk):=by
       intro j hj
       rw[hl] at hj
       rw[getD_take (by omega),show j=gk-1 by omega]
       exact hx
      rw[←HVJ.out,limbs_val (hLo.take gk) t,hl]
     have HLE:=Lib.hid hlen
     have hx1:(((L.getD (gk-1) 0:Nat):Int)==0)=false:=by simp only[beq_eq_false_iff_ne,ne_eq];omega
     clear hlen hx
     generalize ((L.getD (gk-1) 0:Nat):Int)=v at*
     go_wp2_with (with_reducible refine yq _ ?_;(try generalize (G.w _).heap.size=bk);(try dsimp only[yi,yj]);(try clear g);intro g)
     go_ret
     exact⟨q,cs',by rw[HVE.out,HO.out,HC.out,HLE.out];rfl,HQ.out,by rw[HVE.out];exact hlo9.out,g.chg,g.blk0,by rw[HVE.out,HO.out];exact HST.out,HCL.out⟩
theorem own_seg (A:Option Addr)(c:Nat)(l:List Nat)(w:World)(h:SlW w A c l)(hl9:l.length≤35184372088832)(hl:0<l.length):
    Calls Tryz.prog 124 #[.slice A l.length c] w (fun e w'=>∃b cap cs,e=.returned (.slice (some ⟨b,0,none⟩) l.length cap)∧l.length≤cap∧cap≤9223372036854775807∧Seg cs 0 l∧Below w.heap.size w w'∧w.heap.size≤b∧w'.heap[b]?=some (.cells cs.toArray 73 (0,0))):=by
  refine(own_own A c l w h hl9 hl).mono ?_
  rintro e w' ⟨b,cap,cs,rfl,hr,hb,hb2,hh⟩
  exact⟨b,cap,cs,rfl,hr.le,hr.max,Row.seg hr rfl,hb,hb2,hh⟩
theorem ord_eq {a b:Nat}(h:ord a b=0):a=b:=by
  unfold ord at h;split at h
  · cases h
  · split at h
    · cases h
    · omega
theorem ord_neg {a b:Nat}(h:a<b):ord a b<0:=by unfold ord;rw[if_pos h];decide
theorem ord_pos {a b:Nat}(h:b<a):ord a b=1:=by unfold ord;rw[if_neg (by omega),if_pos h]
/-- a limb's difference in 64 bits -/
theorem sub64 {x y c:Nat}(hx:x<4294967296)(hy:y<4294967296)(hc:c≤1):
    (IntKind.u64.wrap (IntKind.u64.wrap ((x:Int)-(c:Int))-(y:Int))%4294967296=(((x+4294967296-y-c)%4294967296:Nat):Int)∧IntKind.u32.wrap (IntKind.u64.wrap (IntKind.u64.wrap ((x:Int)-(c:Int))-(y:Int)))=(((x+4294967296-y-c)%4294967296:Nat):Int)∧IntKind.u64.wrap (IntKind.u64.wrap ((x:Int)-(c:Int))-(y:Int))/9223372036854775808=((brw x y c:Nat):Int))∧
    (y=0→IntKind.u64.wrap ((x:Int)-(c:Int))%4294967296=(((x+4294967296-y-c)%4294967296:Nat):Int)∧IntKind.u32.wrap (IntKind.u64.wrap ((x:Int)-(c:Int)))=(((x+4294967296-y-c)%4294967296:Nat):Int)∧IntKind.u64.wrap ((x:Int)-(c:Int))/9223372036854775808=((brw x y c:Nat):Int)):=by
  simp only[IntKind.wrap_u64,IntKind.wrap_u32]
  unfold brw
  refine⟨⟨by omega,by omega,by split<;>omega⟩,fun h=>⟨by omega,by omega,by split<;>omega⟩⟩
set_option maxRecDepth 20000 in
set_option maxHeartbeats 4000000 in
theorem rgcd_main (F0:Frag)(A1 A2:Option Addr)(c1 c2 a b:Nat)(w:World)(hF:F0.sub w)(h1:F0.Sl A1 c1 (limbs a))(h2:F0.Sl A2 c2 (limbs b))(ha:a≠0)(hb:b≠0)(hl1:(limbs a).length≤100000000)(hl2:(limbs b).length≤100000000):
    Calls Tryz.prog 95 #[.slice A1 (limbs a).length c1,.slice A2 (limbs b).length c2] w (RAli F0 (Nat.gcd a b) w):=by
  refine calls_f hF fun g=>?_
  obtain⟨la1,la2⟩:=limbs_ne ha
  obtain⟨lb1,lb2⟩:=limbs_ne hb
  have CC1:=Lib.hid (fun w h=>own_seg A1 c1 (limbs a) w h (by omega) la2)
  have CC2:=Lib.hid (fun w h=>own_seg A2 c2 (limbs b) w h (by omega) lb2)
  have HA:=Lib.hid ha
  have HB:=Lib.hid hb
  have oda:=od_spec a ha
  have odb:=od_spec b hb
  have HOA:=Lib.hid oda.2
  have HOB:=Lib.hid odb.2
  clear ha hb oda odb
  generalize hla:(limbs a).length=la at*
  generalize hlb:(limbs b).length=lb at*
  have HLA:=Lib.hid hla
  have HLB:=Lib.hid hlb
  clear hla hlb
  go_enter Tryz.func95,Tryz.ntmps95
  go_wp2_with (with_reducible refine yq _ ?_;(try generalize (G.w _).heap.size=bk);(try dsimp only[yi,yj]);(try clear g);intro g)
  refine(CC1.out _ (G.sl g (by simp) h1)).mono ?_
  rintro e w1 ⟨bx,capx,csx,rfl,hcx,hcx9,hsx,hbe,hfr,hbl⟩
  obtain⟨g1,rfl⟩:=G.own_ex g hbe hfr hbl
  clear hbe hfr hbl
  (try clear g)
  revert g1
  intro g
  go_wp2_with (with_reducible refine yq _ ?_;(try generalize (G.w _).heap.size=bk);(try dsimp only[yi,yj]);(try clear g);intro g)
  refine(CC2.out _ (G.sl g (by simp) h2)).mono ?_
  rintro e w1 ⟨bY,capy,csy,rfl,hcy,hcy9,hsy,hbe,hfr,hbl⟩
  obtain⟨g1,rfl⟩:=G.own_ex g hbe hfr hbl
  clear hbe hfr hbl
  (try clear g)
  revert g1
  intro g
  have hbx:w.heap.size≤bx:=g.fresh (m:=(bx,73,csx)) (by simp)
  have hbY:w.heap.size≤bY:=g.fresh (m:=(bY,73,csy)) (by simp)
  have CT1:=Lib.hid (fun w h=>(by
    have:=rtwos_any (some ⟨bx,0,none⟩) capx (limbs a) w h (by rw[val_limbs];exact HA.out)
    rw[val_limbs,HLA.out] at this
    exact this:Calls Tryz.prog 125 #[.slice (some ⟨bx,0,none⟩) la capx] w fun e w'=>e=.returned (.int .i64 (tz a:Nat))∧w=w'))
  have CT2:=Lib.hid (fun w h=>(by
    have:=rtwos_any (some ⟨bY,0,none⟩) capy (limbs b) w h (by rw[val_limbs];exact HB.out)
    rw[val_limbs,HLB.out] at this
    exact this:Calls Tryz.prog 125 #[.slice (some ⟨bY,0,none⟩) lb capy] w fun e w'=>e=.returned (.int .i64 (tz b:Nat))∧w=w'))
  have hka:=HA.out
  have hsl1:SlW g.w (some ⟨bx,0,none⟩) capx (limbs a):=(hsx.sl (by rw[HLA.out];exact hcx) hcx9 (by rw[HLA.out];omega) (ok_limbs a)).at (blkF_sub g.blk1)
  have hsl2:SlW g.w (some ⟨bY,0,none⟩) capy (limbs b):=(hsy.sl (by rw[HLB.out];exact hcy) hcy9 (by rw[HLB.out];omega) (ok_limbs b)).at (blkF_sub g.blk0)
  clear hka
  generalize hta:tz a=ta at*
  generalize htb:tz b=tb at*
  have HTA:=Lib.hid hta
  have HTB:=Lib.hid htb
  clear hta htb
  go_wp2_with (with_reducible refine yq _ ?_;(try generalize (G.w _).heap.size=bk);(try dsimp only[yi,yj]);(try clear g);intro g)
  refine(CT1.out _ hsl1).mono ?_
  rintro e w1 ⟨rfl,rfl⟩
  go_wp2_with (with_reducible refine yq _ ?_;(try generalize (G.w _).heap.size=bk);(try dsimp only[yi,yj]);(try clear g);intro g)
  refine(CT2.out _ hsl2).mono ?_
  rintro e w1 ⟨rfl,rfl⟩
  clear hsl1 hsl2
  have HSX:=Lib.hid hsx
  have HSY:=Lib.hid hsy
  clear hsx hsy
  obtain⟨K,hK⟩:∃K,min ta tb=K:=⟨_,rfl⟩
  have hmin:min (ta:Int) (tb:Int)=(K:Int):=by omega
  have HK:=Lib.hid hK
  have CO1:=Lib.hid (fun w hb=>(by
    have:=rodd_any bx 0 la capx csx (limbs a) w hb HSX.out HLA.out hcx hcx9 (by omega) (ok_limbs a) (by rw[val_limbs];exact HA.out)
    rw[val_limbs] at this
    exact this:Calls Tryz.prog 126 #[.slice (some ⟨bx,0,none⟩) la capx] w (ROdd bx 0 capx la a csx.length w)))
  have CO2:=Lib.hid (fun w hb=>(by
    have:=rodd_any bY 0 lb capy csy (limbs b) w hb HSY.out HLB.out hcy hcy9 (by omega) (ok_limbs b) (by rw[val_limbs];exact HB.out)
    rw[val_limbs] at this
    exact this:Calls Tryz.prog 126 #[.slice (some ⟨bY,0,none⟩) lb capy] w (ROdd bY 0 capy lb b csy.length w)))
  clear hK
  go_wp2_with (with_reducible refine yq _ ?_;(try generalize (G.w _).heap.size=bk);(try dsimp only[yi,yj]);(try clear g);intro g)
  refine(CO1.out _ g.blk1).mono ?_
  rintro e w1 ⟨qx,csx',rfl,hqx,hqx2,hch,hhb,hsx,hcl⟩
  obtain⟨g1,rfl⟩:=G.mut1 g hch hhb
  clear hch hhb CO1 hcl
  (try clear g)
  revert g1
  intro g
  rw[Nat.zero_add] at hsx
  rw[Nat.zero_add]
  go_wp2_with (with_reducible refine yq _ ?_;(try generalize (G.w _).heap.size=bk);(try dsimp only[yi,yj]);(try clear g);intro g)
  refine(CO2.out _ g.blk0).mono ?_
  rintro e w1 ⟨qy,csy',rfl,hqy,hqy2,hch,hhb,hsy,hcl⟩
  obtain⟨g1,rfl⟩:=G.mut0 g hch hhb
  clear hch hhb CO2 hcl HSX HSY CT1 CT2
  (try clear g)
  revert g1
  intro g
  rw[Nat.zero_add] at hsy
  rw[Nat.zero_add]
  have hpx:(limbs (od a)).length≤capx-qx:=by omega
  have hpy:(limbs (od b)).length≤capy-qy:=by omega
  have hpx9:capx-qx≤9223372036854775807:=by omega
  have hpy9:capy-qy≤9223372036854775807:=by omega
  have hlx:(limbs (od a)).length≤100000000:=by omega
  have hly:(limbs (od b)).length≤100000000:=by omega
  have CC:=Lib.hid (fun w h1 h2=>rOrder_any (some ⟨bx,qx,none⟩) (some ⟨bY,qy,none⟩) (capx-qx) (capy-qy) (od a) (od b) w h1 h2 (by omega))
  have hslx:SlW g.w (some ⟨bx,qx,none⟩) (capx-qx) (limbs (od a)):=(hsx.sl hpx hpx9 (by omega) (ok_limbs _)).at (blkF_sub g.blk1)
  have hsly:SlW g.w (some ⟨bY,qy,none⟩) (capy-qy) (limbs (od b)):=(hsy.sl hpy hpy9 (by omega) (ok_limbs _)).at (blkF_sub g.blk0)
  have HSX:=Lib.hid hsx
  have HSY:=Lib.hid hsy
  clear hsx hsy hqx hqx2 hqy hqy2 hcx hcx9 hcy hcy9
  obtain⟨ox,rfl⟩:∃ox,ox=qx:=⟨_,rfl⟩
  obtain⟨oy,rfl⟩:∃oy,oy=qy:=⟨_,rfl⟩
  obtain⟨px,hpxe⟩:∃px,capx-ox=px:=⟨_,rfl⟩
  obtain⟨py,hpye⟩:∃py,capy-oy=py:=⟨_,rfl⟩
  rw[hpxe] at CC hslx hpx hpx9 ⊢
  rw[hpye] at CC hsly hpy hpy9 ⊢
  clear hpxe hpye
  obtain⟨X0,hX0⟩:∃X0,od a=X0:=⟨_,rfl⟩
  obtain⟨Y0,hY0⟩:∃Y0,od b=Y0:=⟨_,rfl⟩
  rw[hX0] at CC hslx hpx hlx HSX HOA ⊢
  rw[hY0] at CC hsly hpy hly HSY HOB ⊢
  have HX0:=Lib.hid hX0
  have HY0:=Lib.hid hY0
  clear hX0 hY0
  go_wp2_with (with_reducible refine yq _ ?_;(try generalize (G.w _).heap.size=bk);(try dsimp only[yi,yj]);(try clear g);intro g)
  refine(CC.out _ hslx hsly).mono ?_
  rintro e w1 ⟨rfl,hb⟩
  obtain⟨g1,rfl⟩:=G.call_ex _ hb
  clear hb hslx hsly CC
  (try clear g)
  revert g1
  intro g
  obtain⟨g2,hg2⟩:=g.perm (List.Perm.swap _ _ _)
  rw[hg2]
  clear hg2 g
  revert g2
  intro g
  go_wp2_with (with_reducible refine yq _ ?_;(try generalize (G.w _).heap.size=bk);(try dsimp only[yi,yj]);(try clear g);intro g)
  go_loopg [5,6,8] (X0+Y0) (fun gk s5 s6 s8 wr=>∃(X Y bx ox px bY oy py:Nat) (csx csy:List Value),s5=.slice (some ⟨bx,ox,none⟩) (limbs X).length px∧s6=.slice (some ⟨bY,oy,none⟩) (limbs Y).length py∧s8=.int .i64 (ord X Y)∧X+Y≤gk∧Hid (X%2=1∧Y%2=1∧Nat.gcd X Y=Nat.gcd X0 Y0)∧(limbs X).length≤px∧px≤9223372036854775807∧(limbs X).length≤100000000∧(limbs Y).length≤py∧py≤9223372036854775807∧(limbs Y).length≤100000000∧Hid (Seg csx ox (limbs X))∧Hid (Seg csy oy (limbs Y))∧w.heap.size≤bx∧w.heap.size≤bY∧∃g:G w [] [(bx,73,csx),(bY,73,csy)] [F0],wr=g.w)
  case atStart=>exact⟨X0,Y0,bx,ox,px,bY,oy,py,_,_,rfl,rfl,rfl,Nat.le_refl _,Lib.hid ⟨HOA.out,HOB.out,rfl⟩,hpx,hpx9,hlx,hpy,hpy9,hly,HSX,HSY,hbx,hbY,g,rfl⟩
  case round=>
    clear g hbx hbY HSX HSY hpx hpx9 hlx hpy hpy9 hly HOA HOB
    obtain⟨ko,rfl⟩:∃ko,ko=gk:=⟨_,rfl⟩
    obtain⟨X,Y,ux,ox,px,uy,oy,py,csx,csy,rfl,rfl,rfl,hgk,HI,hpx,hpx9,hlx,hpy,hpy9,hly,HSX,HSY,hux,huy,g,rfl⟩:=hrel
    by_cases heq:X=Y
    · subst heq
      have hXg:X=Nat.gcd X0 Y0:=by
        have:=HI.out.2.2
        rwa[Nat.gcd_self] at this
      have hX0:X≠0:=by have:=HI.out.1;omega
      have hlc:ord X X=0:=ord_self X
      rw[hlc]
      have hres:X*2^K=Nat.gcd a b:=by
        rw[gcd_parts HA.out HB.out,HTA.out,HTB.out,HX0.out,HY0.out,HK.out,←hXg]
      clear hlc
      have hale:Nat.gcd a b≤a:=Nat.gcd_le_left b (Nat.pos_of_ne_zero HA.out)
      have hgl:(limbs (Nat.gcd a b)).length≤100000000:=Nat.le_trans (limbs_len_mono hale) (by rw[HLA.out];exact hl1)
      have hg0:Nat.gcd a b≠0:=by rw[←hres];exact Nat.mul_ne_zero hX0 (Nat.ne_of_gt (Nat.two_pow_pos K))
      obtain⟨D,hD⟩:∃D,Nat.gcd a b=D:=⟨_,rfl⟩
      rw[hD] at hres hgl hg0
      have HD:=Lib.hid hD
      have HGL:=Lib.hid hgl
      have HG0:=Lib.hid hg0
      have hslX:(blkF ux (.cells csx.toArray 73 (0,0))).Sl (some ⟨ux,ox,none⟩) px (limbs X):=HSX.out.sl hpx hpx9 (by omega) (ok_limbs X)
      have hovX:(blkF ux (.cells csx.toArray 73 (0,0))).over F0 w:=fun k o hk=> .inr (by rw[blkF_at hk];exact hux)
      obtain⟨g2,hg2⟩:=g.less (M':=[(ux,73,csx)]) (by simp)
      rw[hg2]
      clear hg2 g
      revert g2
      intro g
      obtain⟨g2,hg2⟩:=g.frz hux
      rw[hg2]
      clear hg2 g
      revert g2
      intro g
      generalize blkF ux (.cells csx.toArray 73 (0,0))=F at*
      have HRES:=Lib.hid hres
      have HSLX:=Lib.hid hslX
      have HOVX:=Lib.hid hovX
      clear hres hslX hovX hale hgl hg0 hD hXg HI hX0 HSX HSY hux huy hpx hpx9 hlx hpy hpy9 hly
      generalize (some (⟨ux,ox,none⟩:Addr))=AX at*
      have hK9:K≤3200000000:=by
        have h5:=tz_len (ok_limbs a) (by rw[val_limbs];exact HA.out)
        rw[val_limbs,HTA.out,HLA.out] at h5
        have h6:=HK.out
        omega
      obtain⟨i0,hi,hz0,hz1,hz2⟩:=info_parts infoU32
      clear hmin HK HTA HTB HLA HLB HX0 HY0 HA HB CC1 CC2
      go_wp2_with (with_reducible refine yq _ ?_;(try generalize (G.w _).heap.size=bk);(try dsimp only[yi,yj]);(try clear g);intro g)
      obtain⟨tw,rfl⟩:∃tw,tw=bk:=⟨_,rfl⟩
      go_loopg [5,7] (K/32) (fun gk s5 s7 wr=>∃(V K':Nat) (A:Option Addr) (c:Nat) (F:Frag),s5=.slice A (limbs V).length c∧s7=.int .i64 K'∧K'/32=gk∧K'≤3200000000∧Hid (V*2^K'=D)∧Hid (F.Sl A c (limbs V))∧Hid (F.over F0 w)∧∃g:G w [] [(tw,73,[.int .u32 2])] [F,F0],wr=g.w)
      case atStart=>exact⟨X,K,AX,px,F,rfl,rfl,rfl,hK9,HRES,HSLX,HOVX,g,rfl⟩
      case round=>
        clear g HRES HSLX HOVX hK9
        obtain⟨k3,rfl⟩:∃k3,k3=gk:=⟨_,rfl⟩
        obtain⟨V,K',A,c,F,rfl,rfl,hgk3,hK9,HR,HS,HO,g,rfl⟩:=hrel
        have hV0:V≠0:=by rintro rfl;exact HG0.out (by rw[←HR.out,Nat.zero_mul])
        have hVD:V≤D:=by rw[←HR.out];exact Nat.le_mul_of_pos_right _ (Nat.two_pow_pos K')
        have hVl:(limbs V).length≤100000000:=Nat.le_trans (limbs_len_mono hVD) HGL.out
        have hVp:0<(limbs V).length:=(limbs_ne hV0).2
        by_cases h32:32≤K'
        · have hi32:(32:Int)≤(K':Int):=by omega
          have hw32:IntKind.i64.wrap ((K':Int)-32)=(K':Int)-32:=by rw[IntKind.wrap_i64];omega
          have hrow1:Row 73 1 1 (u32s [0]) 1 (u32s [0]):=⟨Nat.le_refl _,by decide,rfl,rfl,rfl⟩
          have hsh:=limbs_shift hV0 1
          rw[Nat.pow_one] at hsh
          have HSH:=Lib.hid hsh
          have hlV:(limbs (V*4294967296)).length=1+(limbs V).length:=by rw[←hsh,List.length_append,List.length_replicate]
          have HLV:=Lib.hid hlV
          have HUP:Hid (0<(u32s (limbs V)).length):=Lib.hid (by rw[u32s_len];exact hVp)
          have hR2:V*4294967296*2^(K'-32)=D:=by
            rw[←HR.out,Nat.mul_assoc]
            congr 1
            rw[show(4294967296:Nat)=2^32 from rfl,←Nat.pow_add]
            congr 1
            omega
          have HR2:=Lib.hid hR2
          have HVP:=Lib.hid hVp
          have HB9:Hid (1+(limbs V).length≤maxLen∧(1+(limbs V).length)*4≤140737488355328):=Lib.hid ⟨by show _≤9223372036854775807;omega,by omega⟩
          clear hsh hlV hR2 hV0 hVD hVp
          go_wp2_with (first|(with_reducible refine yq _ ?_;(try generalize (G.w _).heap.size=bk);(try dsimp only[yi,yj]);(try clear g);intro g)|(at_builtin;refine wpList_append_rowx rfl _ _ 41 40 rfl 73 i0 _ 1 4 Tryz.underlying41 Tryz.underlying40 hi hz0 hz1 hz2 rfl (by decide) g hrow1 (g.fresh (List.mem_cons_self ..)) rfl (limbs V).length c (u32s (limbs V)) A rfl (by rw[u32s_len,Nat.mul_one]) (lim_src g (by simp) HS.out.lim HUP.out) (u32s_one _) HVP.out HB9.out.1 HB9.out.2 ?_;clear g;intro b2 cap2 cs2 g hb2 hr2))
          have HSH2:[0]++limbs V=limbs (V*4294967296):=HSH.out
          rw[←u32s_append,HSH2] at hr2
          have hsl2:=sl_row (b:=b2) hr2 HLV.out (by omega) (ok_limbs _)
          obtain⟨g2,hg2⟩:=g.frz hb2
          obtain⟨g3,hg3⟩:=g2.lessI (I':=[blkF b2 (.cells cs2.toArray 73 (0,0)),F0]) (by simp)
          go_roundg (k3-1)
          case measure=>omega
          case rel=>exact⟨V*4294967296,K'-32,_,_,_,by rw[HLV.out],by congr 1;omega,by omega,by omega,HR2,Lib.hid hsl2,Lib.hid (fun k o hk=> .inr (by rw[blkF_at hk];exact hb2)),g3,hg2.trans hg3⟩
        · have hi32:¬ (32:Int)≤(K':Int):=by omega
          clear hV0 hVD hVl hVp
          go_wp2_with (with_reducible refine yq _ ?_;(try generalize (G.w _).heap.size=bk);(try dsimp only[yi,yj]);(try clear g);intro g)
          go_loopg [5,7] K' (fun gk s5 s7 wr=>∃(V:Nat) (A:Option Addr) (c:Nat) (F:Frag),s5=.slice A (limbs V).length c∧s7=.int .i64 gk∧gk<32∧Hid (V*2^gk=D)∧Hid (F.Sl A c (limbs V))∧Hid (F.over F0 w)∧∃g:G w [] [(tw,73,[.int .u32 2])] [F,F0],wr=g.w)
          case atStart=>exact⟨V,A,c,F,rfl,rfl,by omega,HR,HS,HO,g,rfl⟩
          case round=>
            clear g HR HS HO hi32 hgk3 hK9 h32
            obtain⟨V,A,c,F,rfl,rfl,hk32,HR,HS,HO,g,rfl⟩:=hrel
            rcases gk with _|k4
            · have hVD:V=D:=by have:=HR.out;rwa[Nat.pow_zero,Nat.mul_one] at this
              have HVD:=Lib.hid hVD
              clear hVD
              go_wp2_with (with_reducible refine yq _ ?_;(try generalize (G.w _).heap.size=bk);(try dsimp only[yi,yj]);(try clear g);intro g)
              go_ret
              refine⟨A,c,F,by rw[HD.out,←HVD.out];rfl,by rw[HD.out,←HVD.out];exact HS.out,g.passOr (by simp) HO.out⟩
            · have hV0:V≠0:=by rintro rfl;exact HG0.out (by rw[←HR.out,Nat.zero_mul])
              have hVD:V≤D:=by rw[←HR.out];exact Nat.le_mul_of_pos_right _ (Nat.two_pow_pos _)
              have hVl:(limbs V).length≤100000000:=Nat.le_trans (limbs_len_mono hVD) HGL.out
              have hl2:limbs 2=[2]:=limbs_one (by decide) (by decide)
              have CT:=Lib.hid (fun w h1 h2=>(by
                have:=rTimes_any A (some ⟨tw,0,none⟩) c 1 V 2 w h1 h2 (by omega) (by rw[hl2];simp)
                rw[show(limbs 2).length=1 by rw[hl2];rfl] at this
                exact this:Calls Tryz.prog 97 #[.slice A (limbs V).length c,.slice (some ⟨tw,0,none⟩) 1 1] w (RNat (V*2) w)))
              have hslt:SlW g.w (some ⟨tw,0,none⟩) 1 (limbs 2):=by
                rw[hl2]
                exact(sl_blk (l:=[2]) (by simp) (by decide) (by intro x hx;simp at hx;omega)).at (blkF_sub g.blk0)
              have hR2:V*2*2^k4=D:=by rw[←HR.out,Nat.mul_assoc,←Nat.pow_succ']
              have HR2:=Lib.hid hR2
              have hkp:(0:Int)<((k4+1:Nat):Int):=by omega
              have hk4:((k4+1:Nat):Int)=(k4:Int)+1:=by omega
              clear hR2 hV0 hVD hl2
              go_wp2_with (with_reducible refine yq _ ?_;(try generalize (G.w _).heap.size=bk);(try dsimp only[yi,yj]);(try clear g);intro g)
              refine(CT.out _ (G.sl g (by simp) HS.out) hslt).mono ?_
              rintro e w1 ⟨Y,y,P,rfl,hy,hn⟩
              have ho:=New.over hn F0 (G.chg _).size
              obtain⟨g1,rfl⟩:=G.new_ex _ hn
              clear hn hslt
              (try clear g)
              revert g1
              intro g
              go_wp2_with (with_reducible refine yq _ ?_;(try generalize (G.w _).heap.size=bk);(try dsimp only[yi,yj]);(try clear g);intro g)
              obtain⟨g3,hg3⟩:=g.lessI (I':=[P,F0]) (by simp)
              go_roundg k4
              case measure=>omega
              case rel=>exact⟨V*2,Y,y,P,rfl,rfl,by omega,HR2,Lib.hid hy,Lib.hid ho,g3,hg3⟩
    · have h2 : X < Y ∨ Y < X := by omega
      have hcne:(ord X Y==0)=false:=by rw[beq_eq_false_iff_ne];exact fun h=>heq (ord_eq h)
      have hcne3:(ord X Y !=0)=true:=by rw[bne,hcne];rfl
      have hcne2:¬ ord X Y=0:=fun h=>heq (ord_eq h)
      rcases h2 with hlt|hlt
      all_goals
        first
        | (have hsg : ord X Y < 0 := ord_neg hlt
           generalize ord X Y=cv at*
           obtain⟨g2,hg2⟩:=g.perm (List.Perm.swap _ _ _)
           rw[hg2]
           clear hg2 g
           revert g2
           intro g
           obtain⟨Z,rfl⟩:∃Z,Z=Y:=⟨_,rfl⟩
           obtain⟨S,rfl⟩:∃S,S=X:=⟨_,rfl⟩
           obtain⟨bz,rfl⟩:∃bz,bz=uy:=⟨_,rfl⟩
           obtain⟨bs,rfl⟩:∃bs,bs=ux:=⟨_,rfl⟩
           obtain⟨oz,rfl⟩:∃oz,oz=oy:=⟨_,rfl⟩
           obtain⟨os,rfl⟩:∃os,os=ox:=⟨_,rfl⟩
           obtain⟨pz,rfl⟩:∃pz,pz=py:=⟨_,rfl⟩
           obtain⟨ps,rfl⟩:∃ps,ps=px:=⟨_,rfl⟩
           obtain⟨csz,rfl⟩:∃csz,csz=csy:=⟨_,rfl⟩
           obtain⟨css,rfl⟩:∃css,css=csx:=⟨_,rfl⟩
           have HI2:Hid (Z%2=1∧S%2=1∧Nat.gcd Z S=Nat.gcd X0 Y0):=Lib.hid ⟨HI.out.2.1,HI.out.1,by rw[Nat.gcd_comm];exact HI.out.2.2⟩
           have HSZ:=HSY
           have HSS:=HSX
           have hpz:=hpy
           have hpz9:=hpy9
           have hlz:=hly
           have hps:=hpx
           have hps9:=hpx9
           have hls:=hlx
           have huz:=huy
           have hus:=hux
           clear HI HSX HSY hpx hpx9 hlx hpy hpy9 hly hux huy)
        | (have hsg : ¬ ord X Y < 0 := fun h => by rw [ord_pos hlt] at h; omega
           generalize ord X Y=cv at*
           obtain⟨Z,rfl⟩:∃Z,Z=X:=⟨_,rfl⟩
           obtain⟨S,rfl⟩:∃S,S=Y:=⟨_,rfl⟩
           obtain⟨bz,rfl⟩:∃bz,bz=ux:=⟨_,rfl⟩
           obtain⟨bs,rfl⟩:∃bs,bs=uy:=⟨_,rfl⟩
           obtain⟨oz,rfl⟩:∃oz,oz=ox:=⟨_,rfl⟩
           obtain⟨os,rfl⟩:∃os,os=oy:=⟨_,rfl⟩
           obtain⟨pz,rfl⟩:∃pz,pz=px:=⟨_,rfl⟩
           obtain⟨ps,rfl⟩:∃ps,ps=py:=⟨_,rfl⟩
           obtain⟨csz,rfl⟩:∃csz,csz=csx:=⟨_,rfl⟩
           obtain⟨css,rfl⟩:∃css,css=csy:=⟨_,rfl⟩
           have HI2:=HI
           have HSZ:=HSX
           have HSS:=HSY
           have hpz:=hpx
           have hpz9:=hpx9
           have hlz:=hlx
           have hps:=hpy
           have hps9:=hpy9
           have hls:=hly
           have huz:=hux
           have hus:=huy
           clear HI HSX HSY hpx hpx9 hlx hpy hpy9 hly hux huy)
      all_goals
        clear heq
        generalize hnz:(limbs Z).length=nz at*
        generalize hns:(limbs S).length=ns at*
        have HNZ:=Lib.hid hnz
        have HNS:=Lib.hid hns
        clear hnz hns
        go_wp2_with (with_reducible refine yq _ ?_;(try generalize (G.w _).heap.size=bk);(try dsimp only[yi,yj]);(try clear g);intro g)
        go_loopg [9,10] nz (fun gk2 s9 s56 wr=>∃(k c:Nat) (pre:List Nat) (csz':List Value),k+gk2=nz∧s9=.int .u64 (c:Int)∧s56=.int .i64 k∧c≤1∧Hid (pre.length=k)∧Ok pre∧Hid (val pre+val ((limbs S).take k)=val ((limbs Z).take k)+4294967296^k*c)∧Hid (Seg csz' oz (pre++(limbs Z).drop k))∧∃g:G w [] [(bz,73,csz'),(bs,73,css)] [F0],wr=g.w)
        case atStart=>exact⟨0,0,[],csz,by omega,rfl,rfl,by omega,Lib.hid rfl,Ok.nil,Lib.hid (by simp[val]),Lib.hid (by rw[List.drop_zero,List.nil_append];exact HSZ.out),g,rfl⟩
        case round=>
          clear g HSZ
          obtain⟨k,c,pre,csz',hkg,rfl,rfl,hc1,HP,hpo,HV,HS,g,rfl⟩:=hrel
          have hLl:(pre++(limbs Z).drop k).length=nz:=by rw[List.length_append,List.length_drop,HP.out,HNZ.out];omega
          have HLn:=Lib.hid hLl
          have hLo:Ok (pre++(limbs Z).drop k):=hpo.append ((ok_limbs Z).drop k)
          by_cases hk2:k<nz
          · have e1:=HS.out.get k (by omega)
            rw[pre_get HP.out (Nat.le_refl _)] at e1
            have hx:=(ok_limbs Z).getD k
            have hy:=(ok_limbs S).getD k
            have st:=Lib.hid (sub_step (ok_limbs Z) (ok_limbs S) hc1 HP.out HV.out)
            have e2:k<ns→css[os+k]?=some (.int .u32 (((limbs S).getD k 0:Nat):Int)):=fun h=>HSS.out.get k (by rw[HNS.out];exact h)
            have e3:¬ k<ns→(limbs S).getD k 0=0:=fun h=>by
              rw[List.getD_eq_getElem?_getD,List.getElem?_eq_none (by rw[HNS.out];omega)];rfl
            have HS2:∀z,Hid (Seg (csz'.set (oz+k) (.int .u32 ((z:Nat):Int))) oz ((pre++[z])++(limbs Z).drop (k+1))):=fun z=>Lib.hid (by
              rw[←pre_set HP.out (by rw[HNZ.out];exact hk2)]
              exact HS.out.set (by rw[HLn.out];exact hk2) z)
            have HS3:=HS2 (((limbs Z).getD k 0+4294967296-(limbs S).getD k 0-c)%4294967296)
            have hb2:=brw_le ((limbs Z).getD k 0) ((limbs S).getD k 0) c
            obtain⟨f1,f2⟩:=sub64 hx hy hc1
            have hr:((limbs Z).getD k 0+4294967296-(limbs S).getD k 0-c)%4294967296<4294967296:=Nat.mod_lt _ (by decide)
            have hkn:(k:Int)<(nz:Int):=by omega
            clear HS2 hLl hLo
            generalize ((limbs Z).getD k 0+4294967296-(limbs S).getD k 0-c)%4294967296=r at*
            generalize brw ((limbs Z).getD k 0) ((limbs S).getD k 0) c=c2' at*
            generalize (limbs Z).getD k 0=x at*
            generalize (limbs S).getD k 0=y at*
            obtain⟨d0,hd0⟩:∃d0,IntKind.u64.wrap ((x:Int)-(c:Int))=d0:=⟨_,rfl⟩
            rw[hd0] at f1 f2
            by_cases hk3:k<ns
            · have e4:=e2 hk3
              have hki:(k:Int)<(ns:Int):=by omega
              obtain⟨d1,hd1⟩:∃d1,IntKind.u64.wrap (d0-(y:Int))=d1:=⟨_,rfl⟩
              obtain⟨f3,f4,f5⟩:=f1
              rw[hd1] at f3 f4 f5
              have hwy:IntKind.u64.wrap (y:Int)=(y:Int):=by rw[IntKind.wrap_u64];omega
              have hwx:IntKind.u64.wrap (x:Int)=(x:Int):=by rw[IntKind.wrap_u64];omega
              clear e2 e3 f2
              go_wp2_with (with_reducible refine yq _ ?_;(try generalize (G.w _).heap.size=bk);(try dsimp only[yi,yj]);(try clear g);intro g)
              go_roundg (gk-1)
              case measure=>omega
              case rel=>exact⟨k+1,c2',pre++[r],_,by omega,rfl,by go_num,hb2,Lib.hid (by rw[List.length_append,HP.out];rfl),hpo.append (Ok.cons hr Ok.nil),st,HS3,g,rfl⟩
            · have hki:¬ (k:Int)<(ns:Int):=by omega
              obtain⟨f3,f4,f5⟩:=f2 (e3 hk3)
              have hwx:IntKind.u64.wrap (x:Int)=(x:Int):=by rw[IntKind.wrap_u64];omega
              clear e2 e3 f1
              go_wp2_with (with_reducible refine yq _ ?_;(try generalize (G.w _).heap.size=bk);(try dsimp only[yi,yj]);(try clear g);intro g)
              go_roundg (gk-1)
              case measure=>omega
              case rel=>exact⟨k+1,c2',pre++[r],_,by omega,rfl,by go_num,hb2,Lib.hid (by rw[List.length_append,HP.out];rfl),hpo.append (Ok.cons hr Ok.nil),st,HS3,g,rfl⟩
          · obtain rfl:k=nz:=by omega
            have hSZ:S<Z:=hlt
            have hse:=sub_end (l1:=limbs Z) (l2:=limbs S) hpo HP.out (by rw[HNZ.out];exact Nat.le_refl _) (by rw[HNS.out,←HNZ.out,←HNS.out];exact limbs_len_mono (by omega)) (by rw[val_limbs,val_limbs];omega) HV.out
            obtain⟨hpv,rfl⟩:=hse
            rw[val_limbs,val_limbs] at hpv
            have hnil:(limbs Z).drop k=[]:=List.drop_of_length_le (by rw[HNZ.out];exact Nat.le_refl _)
            have hsg2:=HS.out
            rw[hnil,List.append_nil] at hsg2
            have CO:=Lib.hid (fun w hb=>(by
              have:=rodd_any bz oz k pz csz' pre w hb hsg2 HP.out hpz hpz9 (by omega) hpo (by rw[hpv];omega)
              rw[hpv] at this
              exact this:Calls Tryz.prog 126 #[.slice (some ⟨bz,oz,none⟩) k pz] w (ROdd bz oz pz k (Z-S) csz'.length w)))
            have hd0:Z-S≠0:=by omega
            have hod:=od_spec (Z-S) hd0
            have hole:=od_le (Z-S)
            have HI3:Hid (od (Z-S)%2=1∧S%2=1∧Nat.gcd (od (Z-S)) S=Nat.gcd X0 Y0):=Lib.hid ⟨hod.2,HI2.out.2.1,by rw[gcd_sub_odd hSZ HI2.out.2.1];exact HI2.out.2.2⟩
            have hS1:0<S:=by have:=HI2.out.2.1;omega
            clear hsg2 hnil hpv HV HS hLl hLo hod
            obtain⟨X',hX'⟩:∃X',od (Z-S)=X':=⟨_,rfl⟩
            unfold ROdd at CO
            rw[hX'] at CO HI3 hole
            clear hX'
            go_wp2_with (with_reducible refine yq _ ?_;(try generalize (G.w _).heap.size=bk);(try dsimp only[yi,yj]);(try clear g);intro g)
            refine(CO.out _ g.blk0).mono ?_
            rintro e w1 ⟨q,cs2,rfl,hq1,hq2,hch,hhb,hsx,hcl⟩
            obtain⟨g1,rfl⟩:=G.mut0 g hch hhb
            clear hch hhb CO hcl
            (try clear g)
            revert g1
            intro g
            have hX9:(limbs X').length≤100000000:=by omega
            have hXp:(limbs X').length≤pz-q:=by omega
            have hXp9:pz-q≤9223372036854775807:=by omega
            have CC2:=Lib.hid (fun w h1 h2=>(by
              have:=rOrder_any (some ⟨bz,oz+q,none⟩) (some ⟨bs,os,none⟩) (pz-q) ps X' S w h1 h2 (by omega)
              rw[HNS.out] at this
              exact this:Calls Tryz.prog 112 #[.slice (some ⟨bz,oz+q,none⟩) (limbs X').length (pz-q),.slice (some ⟨bs,os,none⟩) ns ps] w fun e w'=>e=.returned (.int .i64 (ord X' S))∧Below w.heap.size w w'))
            have hsl1:SlW g.w (some ⟨bz,oz+q,none⟩) (pz-q) (limbs X'):=(hsx.sl hXp hXp9 (by omega) (ok_limbs X')).at (blkF_sub g.blk0)
            have hsl2:SlW g.w (some ⟨bs,os,none⟩) ps (limbs S):=(HSS.out.sl (by rw[HNS.out];exact hps) hps9 (by rw[HNS.out];omega) (ok_limbs S)).at (blkF_sub g.blk1)
            have HSX':=Lib.hid hsx
            clear hsx
            go_wp2_with (with_reducible refine yq _ ?_;(try generalize (G.w _).heap.size=bk);(try dsimp only[yi,yj]);(try clear g);intro g)
            refine(CC2.out _ hsl1 hsl2).mono ?_
            rintro e w1 ⟨rfl,hb⟩
            obtain⟨g1,rfl⟩:=G.call_ex _ hb
            clear hb hsl1 hsl2
            (try clear g)
            revert g1
            intro g
            go_wp2_with (with_reducible refine yq _ ?_;(try generalize (G.w _).heap.size=bk);(try dsimp only[yi,yj]);(try clear g);intro g)
            go_roundg (ko-1)
            case measure=>omega
            case rel=>exact⟨X',S,bz,oz+q,pz-q,bs,os,ps,cs2,css,rfl,by rw[HNS.out],rfl,by omega,HI3,hXp,hXp9,hX9,by rw[HNS.out];exact hps,hps9,by rw[HNS.out];exact hls,HSX',HSS,huz,hus,g,rfl⟩
theorem rgcd_any (F0:Frag)(A1 A2:Option Addr)(c1 c2 a b:Nat)(w:World)(hF:F0.sub w)(h1:F0.Sl A1 c1 (limbs a))(h2:F0.Sl A2 c2 (limbs b))(hl1:(limbs a).length≤100000000)(hl2:(limbs b).length≤100000000):
    Calls Tryz.prog 95 #[.slice A1 (limbs a).length c1,.slice A2 (limbs b).length c2] w (RAli F0 (Nat.gcd a b) w):=by
  by_cases ha:a=0
  · subst ha
    refine calls_f hF fun g=>?_
    rw[Nat.gcd_zero_left]
    rw[show(limbs 0).length=0 from limbs_len0]
    go_enter Tryz.func95,Tryz.ntmps95
    go_wp2_with (with_reducible refine yq _ ?_;(try generalize (G.w _).heap.size=bk);(try dsimp only[yi,yj]);(try clear g);intro g)
    go_ret
    exact⟨A2,c2,F0,rfl,h2,g.passOr (by simp) (Frag.over_self _ _)⟩
  · by_cases hb:b=0
    · subst hb
      refine calls_f hF fun g=>?_
      have hn:=(limbs_ne ha).1
      rw[Nat.gcd_zero_right]
      rw[show(limbs 0).length=0 from limbs_len0]
      obtain⟨n,hn2⟩:∃n,(limbs a).length=n:=⟨_,rfl⟩
      rw[hn2] at hn ⊢
      have HN:=Lib.hid hn2
      clear hn2
      go_enter Tryz.func95,Tryz.ntmps95
      go_wp2_with (with_reducible refine yq _ ?_;(try generalize (G.w _).heap.size=bk);(try dsimp only[yi,yj]);(try clear g);intro g)
      go_ret
      exact⟨A1,c1,F0,by rw[HN.out];rfl,h1,g.passOr (by simp) (Frag.over_self _ _)⟩
    · exact rgcd_main F0 A1 A2 c1 c2 a b w hF h1 h2 ha hb hl1 hl2
set_option maxRecDepth 20000 in
set_option maxHeartbeats 4000000 in
theorem rLow_any (s:Bool)(A1 A2:Option Addr)(c1 c2 n d:Nat)(w:World)(h1:SlW w A1 c1 (limbs n))(h2:SlW w A2 c2 (limbs d))(hl1:(limbs n).length≤10000000)(hl2:(limbs d).length≤10000000)(hd:d≠0):
  Calls Tryz.prog 96 #[.bool s,.slice A1 (limbs n).length c1,.slice A2 (limbs d).length c2] w (RNf (frac s n d) w):=by
 refine calls_b fun g=>?_
 have H1:=Lib.hid h1
 have H2:=Lib.hid h2
 have CI:=Lib.hid (fun w h=>isone_any A2 c2 d w h)
 have CG:=Lib.hid (fun F w hF h1 h2=>rgcd_any F A1 A2 c1 c2 n d w hF h1 h2 (by omega) (by omega))
 unfold RNf
 rw[frac_rneg s hd,frac_rn s hd,frac_den s hd]
 obtain⟨G',hG⟩:∃G',Nat.gcd n d=G':=⟨_,rfl⟩
 rw[hG] at CG ⊢
 have hG0:G'≠0:=by rw[←hG];exact Nat.ne_of_gt (Nat.gcd_pos_of_pos_right n (Nat.pos_of_ne_zero hd))
 have hgl:(limbs G').length≤10000000:=Nat.le_trans (limbs_len_mono (by rw[←hG];exact Nat.gcd_le_right n (Nat.pos_of_ne_zero hd))) hl2
 have CIG:=Lib.hid (fun A c w h=>isone_any A c G' w h)
 have CQ1:=Lib.hid (fun A c w h1 h2=>rquot_any A1 A c1 c n G' w h1 h2 hl1 hgl hG0)
 have CQ2:=Lib.hid (fun A c w h1 h2=>rquot_any A2 A c2 c d G' w h1 h2 hl2 hgl hG0)
 have hle1:(limbs (n/G')).length≤10000000:=Nat.le_trans (limbs_len_mono (Nat.div_le_self _ _)) hl1
 have hle2:(limbs (d/G')).length≤10000000:=Nat.le_trans (limbs_len_mono (Nat.div_le_self _ _)) hl2
 have COn:=Lib.hid (fun A c w h=>own_any A c (limbs (n/G')) w h (by omega))
 have COd:=Lib.hid (fun A c w h=>own_any A c (limbs (d/G')) w h (by omega))
 have hn0:(n≠0↔0<(limbs (n/G')).length):=by
  have hq:n/G'=0↔n=0:=by
   rw[←hG]
   constructor
   ·intro h
    have:=Nat.div_mul_cancel (Nat.gcd_dvd_left n d)
    rw[h,Nat.zero_mul] at this
    exact this.symm
   ·rintro rfl;exact Nat.zero_div _
  constructor
  ·intro h;exact(limbs_ne (fun h2=>h (hq.1 h2))).2
  ·rintro h rfl;rw[Nat.zero_div,limbs_len0] at h;omega
 obtain⟨bb,hbb⟩:∃bb,(s&&decide (n≠0))=bb:=⟨_,rfl⟩
 rw[hbb]
 have hbb2:(s&&decide ((0:Int)<((limbs (n/G')).length:Int)))=bb:=by
  rw[←hbb];congr 1;exact decide_eq_decide.2 ⟨fun h=>hn0.2 (by omega),fun h=>by have:=hn0.1 h;omega⟩
 unfold RLim at COn COd
 unfold RNN at CQ1 CQ2
 by_cases hG1:G'=1
 ·--nothing in common
  rw[decide_eq_true hG1] at CIG
  subst hG1
  rw[Nat.div_one] at COn COd hbb2 ⊢
  rw[Nat.div_one]
  generalize (limbs n).length=ln at*
  generalize hld:(limbs d).length=ld at*
  clear hle1 hle2 hn0 hbb CQ1 CQ2 hgl hG0 hG h1 h2
  have hbs:(s=false∧bb=false)∨(s=true∧decide (0<ln)=bb):=by
   rcases s with _|_
   ·left;exact⟨rfl,by rw[←hbb2,Bool.false_and]⟩
   ·right;exact⟨rfl,by rw[←hbb2,Bool.true_and];exact decide_eq_decide.2 (by omega)⟩
  clear hbb2
  by_cases hd1:d=1
  ·rw[decide_eq_true hd1] at CI
   have HD:=Lib.hid hd
   clear hd1 hd CIG CG
   rcases hbs with⟨rfl,hbb3⟩|⟨rfl,hbb3⟩
   all_goals
    go_enter Tryz.func96,Tryz.ntmps96
    go_wp2_with (with_reducible refine yq _ ?_;(try generalize (G.w _).heap.size=bk);(try dsimp only[yi,yj]);(try clear g);intro g)
    refine(CI.out _ (G.sl g (by simp) H2.out)).mono ?_
    rintro e w1 ⟨rfl,rfl⟩
    go_wp2_with (with_reducible refine yq _ ?_;(try generalize (G.w _).heap.size=bk);(try dsimp only[yi,yj]);(try clear g);intro g)
    refine(COn.out A1 c1 _ (G.sl g (by simp) H1.out)).mono ?_
    rintro e w1 ⟨X,x,P,rfl,hx,hn1⟩
    have ho1:=fun k o hk=>Nat.le_trans (G.chg _).size (hn1.new k o hk)
    obtain⟨g1,rfl⟩:=G.new_ex _ hn1
    clear hn1
    (try clear g)
    revert g1
    intro g
    go_wp2_with (with_reducible refine yq _ ?_;(try generalize (G.w _).heap.size=bk);(try dsimp only[yi,yj]);(try clear g);intro g)
    refine(COd.out A2 c2 _ (G.sl g (by simp) H2.out)).mono ?_
    rintro e w1 ⟨Y,y,Q,rfl,hy,hn2⟩
    have ho2:=fun k o hk=>Nat.le_trans (G.chg _).size (hn2.new k o hk)
    obtain⟨g1,rfl⟩:=G.new_ex _ hn2
    clear hn2
    (try clear g)
    revert g1
    intro g
    go_wp2_with (with_reducible refine yq _ ?_;(try generalize (G.w _).heap.size=bk);(try dsimp only[yi,yj]);(try clear g);intro g)
    refine bodyPost_ret (v:=.agg #[.bool bb,.slice X ln x,.slice Y ld y]) (by first|(simp[results,Tryz.results96,go_sem];done)|(simp[results,Tryz.results96,go_sem,hbb3];done)) rfl ?_
    exact⟨X,x,P,Y,y,Q,rfl,hx,hy,G.pass _ (by simp) ho1,G.pass _ (by simp) ho2⟩
  ·rw[decide_eq_false hd1] at CI
   have HD:=Lib.hid hd
   clear hd1 hd
   rcases hbs with⟨rfl,hbb3⟩|⟨rfl,hbb3⟩
   all_goals
    go_enter Tryz.func96,Tryz.ntmps96
    go_wp2_with (with_reducible refine yq _ ?_;(try generalize (G.w _).heap.size=bk);(try dsimp only[yi,yj]);(try clear g);intro g)
    refine(CI.out _ (G.sl g (by simp) H2.out)).mono ?_
    rintro e w1 ⟨rfl,rfl⟩
    go_wp2_with (with_reducible refine yq _ ?_;(try generalize (G.w _).heap.size=bk);(try dsimp only[yi,yj]);(try clear g);intro g)
    refine(CG.out (g.fr (heapOf w)) _ (g.fr_sub (by simp)) (g.fr_sl (by simp) (Frag.over_self _ _) H1.out) (g.fr_sl (by simp) (Frag.over_self _ _) H2.out)).mono ?_
    rintro e w1 ⟨Ag,cg,Fg,rfl,hsg,hng⟩
    obtain⟨g1,rfl,hov⟩:=g.newor_ex hng
    clear hng
    (try clear g)
    revert g1
    intro g
    go_wp2_with (with_reducible refine yq _ ?_;(try generalize (G.w _).heap.size=bk);(try dsimp only[yi,yj]);(try clear g);intro g)
    refine(CIG.out Ag cg _ (G.sl g (by simp) hsg)).mono ?_
    rintro e w1 ⟨rfl,rfl⟩
    go_wp2_with (with_reducible refine yq _ ?_;(try generalize (G.w _).heap.size=bk);(try dsimp only[yi,yj]);(try clear g);intro g)
    refine(COn.out A1 c1 _ (G.sl g (by simp) H1.out)).mono ?_
    rintro e w1 ⟨X,x,P,rfl,hx,hn1⟩
    have ho1:=fun k o hk=>Nat.le_trans (G.chg _).size (hn1.new k o hk)
    obtain⟨g1,rfl⟩:=G.new_ex _ hn1
    clear hn1
    (try clear g)
    revert g1
    intro g
    go_wp2_with (with_reducible refine yq _ ?_;(try generalize (G.w _).heap.size=bk);(try dsimp only[yi,yj]);(try clear g);intro g)
    refine(COd.out A2 c2 _ (G.sl g (by simp) H2.out)).mono ?_
    rintro e w1 ⟨Y,y,Q,rfl,hy,hn2⟩
    have ho2:=fun k o hk=>Nat.le_trans (G.chg _).size (hn2.new k o hk)
    obtain⟨g1,rfl⟩:=G.new_ex _ hn2
    clear hn2
    (try clear g)
    revert g1
    intro g
    go_wp2_with (with_reducible refine yq _ ?_;(try generalize (G.w _).heap.size=bk);(try dsimp only[yi,yj]);(try clear g);intro g)
    refine bodyPost_ret (v:=.agg #[.bool bb,.slice X ln x,.slice Y ld y]) (by first|(simp[results,Tryz.results96,go_sem];done)|(simp[results,Tryz.results96,go_sem,hbb3];done)) rfl ?_
    exact⟨X,x,P,Y,y,Q,rfl,hx,hy,G.pass _ (by simp) ho1,G.pass _ (by simp) ho2⟩
 ·rw[decide_eq_false hG1] at CIG
  have hd1:d≠1:=by rintro rfl;apply hG1;rw[←hG];exact Nat.gcd_one_right n
  rw[decide_eq_false hd1] at CI
  have HD:=Lib.hid hd
  generalize (limbs n).length=la at*
  generalize (limbs d).length=lb at*
  generalize (limbs (n/G')).length=ln at*
  generalize (limbs (d/G')).length=ld at*
  have hbs:(s=false∧bb=false)∨(s=true∧decide (0<ln)=bb):=by
   rcases s with _|_
   ·left;exact⟨rfl,by rw[←hbb2,Bool.false_and]⟩
   ·right;exact⟨rfl,by rw[←hbb2,Bool.true_and];exact decide_eq_decide.2 (by omega)⟩
  clear hbb2 hbb hn0 hG hG0 hgl hG1 hd1 hd h1 h2
  rcases hbs with⟨rfl,hbb3⟩|⟨rfl,hbb3⟩
  all_goals
   go_enter Tryz.func96,Tryz.ntmps96
   go_wp2_with (with_reducible refine yq _ ?_;(try generalize (G.w _).heap.size=bk);(try dsimp only[yi,yj]);(try clear g);intro g)
   refine(CI.out _ (G.sl g (by simp) H2.out)).mono ?_
   rintro e w1 ⟨rfl,rfl⟩
   go_wp2_with (with_reducible refine yq _ ?_;(try generalize (G.w _).heap.size=bk);(try dsimp only[yi,yj]);(try clear g);intro g)
   refine(CG.out (g.fr (heapOf w)) _ (g.fr_sub (by simp)) (g.fr_sl (by simp) (Frag.over_self _ _) H1.out) (g.fr_sl (by simp) (Frag.over_self _ _) H2.out)).mono ?_
   rintro e w1 ⟨Ag,cg,Fg,rfl,hsg,hng⟩
   obtain⟨g1,rfl,hov⟩:=g.newor_ex hng
   clear hng
   (try clear g)
   revert g1
   intro g
   go_wp2_with (with_reducible refine yq _ ?_;(try generalize (G.w _).heap.size=bk);(try dsimp only[yi,yj]);(try clear g);intro g)
   refine(CIG.out Ag cg _ (G.sl g (by simp) hsg)).mono ?_
   rintro e w1 ⟨rfl,rfl⟩
   go_wp2_with (with_reducible refine yq _ ?_;(try generalize (G.w _).heap.size=bk);(try dsimp only[yi,yj]);(try clear g);intro g)
   refine(CQ1.out Ag cg _ (G.sl g (by simp) H1.out) (G.sl g (by simp) hsg)).mono ?_
   rintro e w1 ⟨B1,b1,F1,B2,b2,F2,rfl,hq1,hq2,hn1,hn2⟩
   obtain⟨g1,rfl⟩:=G.new2_ex _ hn1 hn2
   clear hn1 hn2 hq2
   (try clear g)
   revert g1
   intro g
   go_wp2_with (with_reducible refine yq _ ?_;(try generalize (G.w _).heap.size=bk);(try dsimp only[yi,yj]);(try clear g);intro g)
   refine(CQ2.out Ag cg _ (G.sl g (by simp) H2.out) (G.sl g (by simp) hsg)).mono ?_
   rintro e w1 ⟨B3,b3,F3,B4,b4,F4,rfl,hq3,hq4,hn1,hn2⟩
   obtain⟨g1,rfl⟩:=G.new2_ex _ hn1 hn2
   clear hn1 hn2 hq4
   (try clear g)
   revert g1
   intro g
   go_wp2_with (with_reducible refine yq _ ?_;(try generalize (G.w _).heap.size=bk);(try dsimp only[yi,yj]);(try clear g);intro g)
   refine(COn.out B1 b1 _ (G.sl g (by simp) hq1)).mono ?_
   rintro e w1 ⟨X,x,P,rfl,hx,hn1⟩
   have ho1:=fun k o hk=>Nat.le_trans (G.chg _).size (hn1.new k o hk)
   obtain⟨g1,rfl⟩:=G.new_ex _ hn1
   clear hn1
   (try clear g)
   revert g1
   intro g
   go_wp2_with (with_reducible refine yq _ ?_;(try generalize (G.w _).heap.size=bk);(try dsimp only[yi,yj]);(try clear g);intro g)
   refine(COd.out B3 b3 _ (G.sl g (by simp) hq3)).mono ?_
   rintro e w1 ⟨Y,y,Q,rfl,hy,hn2⟩
   have ho2:=fun k o hk=>Nat.le_trans (G.chg _).size (hn2.new k o hk)
   obtain⟨g1,rfl⟩:=G.new_ex _ hn2
   clear hn2
   (try clear g)
   revert g1
   intro g
   go_wp2_with (with_reducible refine yq _ ?_;(try generalize (G.w _).heap.size=bk);(try dsimp only[yi,yj]);(try clear g);intro g)
   refine bodyPost_ret (v:=.agg #[.bool bb,.slice X ln x,.slice Y ld y]) (by first|(simp[results,Tryz.results96,go_sem];done)|(simp[results,Tryz.results96,go_sem,hbb3];done)) rfl ?_
   exact⟨X,x,P,Y,y,Q,rfl,hx,hy,G.pass _ (by simp) ho1,G.pass _ (by simp) ho2⟩
/-- a natural number and a sign -/
def RFrom (n:Nat)(b:Bool)(w:World)(e:Ending)(w':World):Prop:=∃A c F,e=.returned (.tuple #[.slice A (limbs n).length c,.bool b])∧F.Sl A c (limbs n)∧New w w' F
set_option maxRecDepth 20000 in
theorem from_pos (n:Nat)(h1:n<9223372036854775808)(w:World):Calls Tryz.prog 118 #[.int .i64 n] w (RFrom n false w):=by
 refine calls_b fun g=>?_
 obtain⟨hv,hk⟩:=two_limbs64 n (by omega)
 have HV:=Lib.hid hv
 have e1:(((n%4294967296:Nat)):Int)=(n:Int)%4294967296:=by omega
 have e2:(((n/4294967296:Nat)):Int)=(n:Int)/4294967296:=by omega
 have E1:=Lib.hid e1
 have E2:=Lib.hid e2
 clear hv e1 e2
 go_enter Tryz.func118,Tryz.ntmps118
 go_wp2_with (with_reducible refine yq _ ?_;(try generalize (G.w _).heap.size=bk);(try dsimp only[yi,yj]);(try clear g);intro g)
 obtain⟨L,hL⟩:∃L,[n%4294967296,n/4294967296]=L:=⟨_,rfl⟩
 have hL2:L.length=2:=by rw[←hL];rfl
 have HVL:=HV.out
 obtain⟨g2,hg2⟩:=g.as (M':=[(bk,73,u32s L)]) (by rw[←hL];simp only[u32s,List.map_cons,List.map_nil,E1.out,E2.out])
 rw[hg2]
 clear hg2 g
 revert g2
 intro g
 rw[hL] at hk HVL
 have HVV:=Lib.hid HVL
 have HL2:=Lib.hid hL2
 clear HVL hL2 hL HV E1 E2
 obtain⟨tb,rfl⟩:∃tb,tb=bk:=⟨_,rfl⟩
 go_loopg [5] 2 (fun gk s5 wr=>gk≤2∧s5=.slice (some ⟨tb,0,none⟩) gk 2∧Hid (val (L.take gk)=n)∧∃g:G w [] [(tb,73,u32s L)] [heapOf w],wr=g.w)
 case atStart=>exact⟨Nat.le_refl _,rfl,Lib.hid (by rw[List.take_of_length_le (by rw[HL2.out];exact Nat.le_refl _)];exact HVV.out),g,rfl⟩
 case round=>
  clear g
  obtain⟨hj,rfl,HVJ,g,rfl⟩:=hrel
  have hfin:(blkF tb (.cells (u32s L).toArray 73 (0,0))).Sl (some ⟨tb,0,none⟩) 2 (limbs n):=by
   have:=sl_trim (sl_blk (b:=tb) (T:=73) (fr:=(0,0)) (c:=2) (by rw[HL2.out];exact Nat.le_refl _) (by decide) hk)
   rwa[HVV.out] at this
  have HF:=Lib.hid hfin
  clear hfin
  rcases Nat.eq_zero_or_pos gk with h0|hj0
  ·subst h0
   have hn0:(limbs n).length=0:=by
    rw[←HVJ.out,List.take_zero];exact limbs_len0
   have HLE:=Lib.hid hn0
   clear hn0
   go_wp2_with (with_reducible refine yq _ ?_;(try generalize (G.w _).heap.size=bk);(try dsimp only[yi,yj]);(try clear g);intro g)
   go_ret2
   exact⟨some ⟨tb,0,none⟩,2,_,by rw[HLE.out];rfl,HF.out,g.give (List.mem_cons_self ..)⟩
  ·have e1:(u32s L)[gk-1]?=some (.int .u32 ((L.getD (gk-1) 0:Nat):Int)):=u32s_getD (by rw[HL2.out];omega)
   have hji:((gk-1:Nat):Int)=(gk:Int)-1:=by omega
   have hj1:(0:Int)≤(gk:Int)-1:=by omega
   have hj2:(gk:Int)-1<(gk:Int):=by omega
   have hj3:(0:Int)<(gk:Int):=by omega
   generalize u32s L=U at*
   by_cases hx:L.getD (gk-1) 0=0
   ·have hv':val (L.take (gk-1))=n:=by
     rw[←HVJ.out]
     have:=val_take_getD L (gk-1)
     rw[show gk-1+1=gk by omega,hx] at this
     omega
    have HV':=Lib.hid hv'
    have hx1:(((L.getD (gk-1) 0:Nat):Int)==0)=true:=by simp only[hx];rfl
    clear hv' hx
    generalize ((L.getD (gk-1) 0:Nat):Int)=v at*
    go_wp2_with (with_reducible refine yq _ ?_;(try generalize (G.w _).heap.size=bk);(try dsimp only[yi,yj]);(try clear g);intro g)
    go_roundg (gk-1)
    case measure=>omega
    case rel=>exact⟨by omega,rfl,HV',g,rfl⟩
   ·have hlen:(limbs n).length=gk:=by
     have hl:(L.take gk).length=gk:=by rw[List.length_take,HL2.out];omega
     have t:Trim (L.take gk):=by
      intro j hj
      rw[hl] at hj
      rw[getD_take (by omega),show j=gk-1 by omega]
      exact hx
     rw[←HVJ.out,limbs_val (hk.take gk) t,hl]
    have HLE:=Lib.hid hlen
    have hx1:(((L.getD (gk-1) 0:Nat):Int)==0)=false:=by simp only[beq_eq_false_iff_ne,ne_eq];omega
    clear hlen hx
    generalize ((L.getD (gk-1) 0:Nat):Int)=v at*
    go_wp2_with (with_reducible refine yq _ ?_;(try generalize (G.w _).heap.size=bk);(try dsimp only[yi,yj]);(try clear g);intro g)
    go_ret2
    exact⟨some ⟨tb,0,none⟩,2,_,by rw[HLE.out];rfl,HF.out,g.give (List.mem_cons_self ..)⟩
set_option maxRecDepth 20000 in
theorem from_neg (n:Nat)(h0:0<n)(h1:n≤9223372036854775808)(w:World):Calls Tryz.prog 118 #[.int .i64 (-(n:Int))] w (RFrom n true w):=by
 refine calls_b fun g=>?_
 obtain⟨a,ha⟩:∃a:Int,-(n:Int)=a:=⟨_,rfl⟩
 rw[ha]
 have hneg:a<0:=by omega
 obtain⟨b,hb⟩:∃b:Int,18446744073709551616-(n:Int)=b:=⟨_,rfl⟩
 have w1:IntKind.u64.wrap a=b:=by show a%18446744073709551616=b;omega
 have w2:IntKind.u64.wrap (-b)=(n:Int):=by show(-b)%18446744073709551616=(n:Int);omega
 obtain⟨hv,hk⟩:=two_limbs64 n (by omega)
 have HV:=Lib.hid hv
 have e1:(((n%4294967296:Nat)):Int)=(n:Int)%4294967296:=by omega
 have e2:(((n/4294967296:Nat)):Int)=(n:Int)/4294967296:=by omega
 have E1:=Lib.hid e1
 have E2:=Lib.hid e2
 have hn64:(n:Int)/4294967296<4294967296:=by omega
 clear hv e1 e2 hb
 have h63: -9223372036854775808≤a:=by omega
 go_enter Tryz.func118,Tryz.ntmps118
 go_wp2_with (with_reducible refine yq _ ?_;(try generalize (G.w _).heap.size=bk);(try dsimp only[yi,yj]);(try clear g);intro g)
 obtain⟨L,hL⟩:∃L,[n%4294967296,n/4294967296]=L:=⟨_,rfl⟩
 have hL2:L.length=2:=by rw[←hL];rfl
 have HVL:=HV.out
 obtain⟨g2,hg2⟩:=g.as (M':=[(bk,73,u32s L)]) (by rw[←hL];simp only[u32s,List.map_cons,List.map_nil,E1.out,E2.out])
 rw[hg2]
 clear hg2 g
 revert g2
 intro g
 rw[hL] at hk HVL
 have HVV:=Lib.hid HVL
 have HL2:=Lib.hid hL2
 clear HVL hL2 hL HV E1 E2
 obtain⟨tb,rfl⟩:∃tb,tb=bk:=⟨_,rfl⟩
 go_loopg [5] 2 (fun gk s5 wr=>gk≤2∧s5=.slice (some ⟨tb,0,none⟩) gk 2∧Hid (val (L.take gk)=n)∧∃g:G w [] [(tb,73,u32s L)] [heapOf w],wr=g.w)
 case atStart=>exact⟨Nat.le_refl _,rfl,Lib.hid (by rw[List.take_of_length_le (by rw[HL2.out];exact Nat.le_refl _)];exact HVV.out),g,rfl⟩
 case round=>
  clear g
  obtain⟨hj,rfl,HVJ,g,rfl⟩:=hrel
  have hfin:(blkF tb (.cells (u32s L).toArray 73 (0,0))).Sl (some ⟨tb,0,none⟩) 2 (limbs n):=by
   have:=sl_trim (sl_blk (b:=tb) (T:=73) (fr:=(0,0)) (c:=2) (by rw[HL2.out];exact Nat.le_refl _) (by decide) hk)
   rwa[HVV.out] at this
  have HF:=Lib.hid hfin
  clear hfin
  rcases Nat.eq_zero_or_pos gk with h0|hj0
  ·subst h0
   have hn0:(limbs n).length=0:=by
    rw[←HVJ.out,List.take_zero];exact limbs_len0
   have HLE:=Lib.hid hn0
   clear hn0
   go_wp2_with (with_reducible refine yq _ ?_;(try generalize (G.w _).heap.size=bk);(try dsimp only[yi,yj]);(try clear g);intro g)
   go_ret2
   exact⟨some ⟨tb,0,none⟩,2,_,by rw[HLE.out];rfl,HF.out,g.give (List.mem_cons_self ..)⟩
  ·have e1:(u32s L)[gk-1]?=some (.int .u32 ((L.getD (gk-1) 0:Nat):Int)):=u32s_getD (by rw[HL2.out];omega)
   have hji:((gk-1:Nat):Int)=(gk:Int)-1:=by omega
   have hj1:(0:Int)≤(gk:Int)-1:=by omega
   have hj2:(gk:Int)-1<(gk:Int):=by omega
   have hj3:(0:Int)<(gk:Int):=by omega
   generalize u32s L=U at*
   by_cases hx:L.getD (gk-1) 0=0
   ·have hv':val (L.take (gk-1))=n:=by
     rw[←HVJ.out]
     have:=val_take_getD L (gk-1)
     rw[show gk-1+1=gk by omega,hx] at this
     omega
    have HV':=Lib.hid hv'
    have hx1:(((L.getD (gk-1) 0:Nat):Int)==0)=true:=by simp only[hx];rfl
    clear hv' hx
    generalize ((L.getD (gk-1) 0:Nat):Int)=v at*
    go_wp2_with (with_reducible refine yq _ ?_;(try generalize (G.w _).heap.size=bk);(try dsimp only[yi,yj]);(try clear g);intro g)
    go_roundg (gk-1)
    case measure=>omega
    case rel=>exact⟨by omega,rfl,HV',g,rfl⟩
   ·have hlen:(limbs n).length=gk:=by
     have hl:(L.take gk).length=gk:=by rw[List.length_take,HL2.out];omega
     have t:Trim (L.take gk):=by
      intro j hj
      rw[hl] at hj
      rw[getD_take (by omega),show j=gk-1 by omega]
      exact hx
     rw[←HVJ.out,limbs_val (hk.take gk) t,hl]
    have HLE:=Lib.hid hlen
    have hx1:(((L.getD (gk-1) 0:Nat):Int)==0)=false:=by simp only[beq_eq_false_iff_ne,ne_eq];omega
    clear hlen hx
    generalize ((L.getD (gk-1) 0:Nat):Int)=v at*
    go_wp2_with (with_reducible refine yq _ ?_;(try generalize (G.w _).heap.size=bk);(try dsimp only[yi,yj]);(try clear g);intro g)
    go_ret2
    exact⟨some ⟨tb,0,none⟩,2,_,by rw[HLE.out];rfl,HF.out,g.give (List.mem_cons_self ..)⟩
theorem from_any (a:Int)(h1: -9223372036854775808≤a)(h2:a<9223372036854775808)(w:World):Calls Tryz.prog 118 #[.int .i64 a] w (RFrom a.natAbs (decide (a<0)) w):=by
 by_cases h:a<0
 ·have:=from_neg a.natAbs (by omega) (by omega) w
  rw[show -((a.natAbs:Nat):Int)=a by omega] at this
  rwa[decide_eq_true h]
 ·have:=from_pos a.natAbs (by omega) w
  rw[show((a.natAbs:Nat):Int)=a by omega] at this
  rwa[decide_eq_false h]
/-- what the reference's Of answers -/
def ofY (a b:Int):Bool×Nat×Nat×Int:=if b=0 then(false,0,0,6) else(rneg (frac (decide (a<0) !=decide (b<0)) a.natAbs b.natAbs),rn (frac (decide (a<0) !=decide (b<0)) a.natAbs b.natAbs),(frac (decide (a<0) !=decide (b<0)) a.natAbs b.natAbs).den,0)
set_option maxRecDepth 20000 in
set_option maxHeartbeats 4000000 in
theorem rOf_any (a b:Int)(h1: -9223372036854775808≤a)(h2:a<9223372036854775808)(h3: -9223372036854775808≤b)(h4:b<9223372036854775808)(w:World):
  Calls Tryz.prog 92 #[.int .i64 a,.int .i64 b] w (RPE (ofY a b) w):=by
 by_cases hb0:b=0
 ·subst hb0
  refine calls_b fun g=>?_
  go_enter Tryz.func92,Tryz.ntmps92
  go_wp2_with (with_reducible refine yq _ ?_;(try generalize (G.w _).heap.size=bk);(try dsimp only[yi,yj]);(try clear g);intro g)
  refine bodyPost_ret (v:=.tuple #[.agg #[.bool false,.slice none 0 0,.slice none 0 0],.int .i64 6]) (by simp[results,Tryz.results92,go_sem]) rfl ?_
  exact rpe_err _ _
 ·have hd0:b.natAbs≠0:=by omega
  have hla:(limbs a.natAbs).length≤2:=(limbs_len _ 2).2 (by rw[pow32];omega)
  have hlb:(limbs b.natAbs).length≤2:=(limbs_len _ 2).2 (by rw[pow32];omega)
  unfold ofY
  rw[if_neg hb0]
  refine calls_b fun g=>?_
  have CSA:=Lib.hid (fun w=>from_any a h1 h2 w)
  have CSB:=Lib.hid (fun w=>from_any b h3 h4 w)
  have hbz:(b==0)=false:=by rw[beq_eq_false_iff_ne];exact hb0
  generalize a.natAbs=na at*
  generalize b.natAbs=nb at*
  obtain⟨sa,hsa⟩:∃s,decide (a<0)=s:=⟨_,rfl⟩
  obtain⟨sb,hsb⟩:∃s,decide (b<0)=s:=⟨_,rfl⟩
  rw[hsa] at CSA ⊢
  rw[hsb] at CSB ⊢
  obtain⟨sg,hsg⟩:∃sg,(sa !=sb)=sg:=⟨_,rfl⟩
  rw[hsg]
  have hsg2:(!(sa==sb))=sg:=hsg
  clear hsa hsb
  have CL:=Lib.hid (fun A c B k w h1 h2=>rLow_any sg A B c k na nb w h1 h2 (by omega) (by omega) hd0)
  unfold RNf at CL
  generalize frac sg na nb=x at*
  generalize rneg x=xs at*
  generalize rn x=xn at*
  generalize x.den=xd at*
  clear h1 h2 h3 h4 hla hlb hd0 hb0
  unfold RPE
  dsimp only
  go_enter Tryz.func92,Tryz.ntmps92
  go_wp2_with (with_reducible refine yq _ ?_;(try generalize (G.w _).heap.size=bk);(try dsimp only[yi,yj]);(try clear g);intro g)
  refine(CSA.out _).mono ?_
  rintro e w1 ⟨X1,x1,P1,rfl,hx1,hn1⟩
  obtain⟨g1,rfl⟩:=G.new_ex _ hn1
  clear hn1
  (try clear g)
  revert g1
  intro g
  go_wp2_with (with_reducible refine yq _ ?_;(try generalize (G.w _).heap.size=bk);(try dsimp only[yi,yj]);(try clear g);intro g)
  refine(CSB.out _).mono ?_
  rintro e w1 ⟨X2,x2,P2,rfl,hx2,hn2⟩
  obtain⟨g1,rfl⟩:=G.new_ex _ hn2
  clear hn2
  (try clear g)
  revert g1
  intro g
  go_wp2_with (with_reducible refine yq _ ?_;(try generalize (G.w _).heap.size=bk);(try dsimp only[yi,yj]);(try clear g);intro g)
  refine(CL.out _ _ _ _ _ (G.sl g (by simp) hx1) (G.sl g (by simp) hx2)).mono ?_
  rintro e w1 ⟨Z1,z1,R1,Z2,z2,R2,rfl,hz1,hz2,hn1,hn2⟩
  have ho1:=fun k o hk=>Nat.le_trans (G.chg _).size (hn1.new k o hk)
  have ho2:=fun k o hk=>Nat.le_trans (G.chg _).size (hn2.new k o hk)
  obtain⟨g1,rfl⟩:=G.new2_ex _ hn1 hn2
  clear hn1 hn2
  (try clear g)
  revert g1
  intro g
  go_wp2_with (with_reducible refine yq _ ?_;(try generalize (G.w _).heap.size=bk);(try dsimp only[yi,yj]);(try clear g);intro g)
  refine bodyPost_ret (v:=.tuple #[.agg #[.bool xs,.slice Z1 (limbs xn).length z1,.slice Z2 (limbs xd).length z2],.int .i64 0]) (by simp[results,Tryz.results92,go_sem]) rfl ?_
  exact⟨Z1,z1,R1,Z2,z2,R2,rfl,hz1,hz2,G.pass _ (by simp) ho1,G.pass _ (by simp) ho2⟩
theorem rchk_val0 {x:Rat}(h:Bd 8192 x):rchk (rneg x) (limbs (rn x)) (limbs x.den)=0:=by
 unfold rchk
 rw[chk_limbs h.1,chk_limbs h.2,val_limbs,val_limbs,if_neg (by decide),if_neg (by decide),if_neg x.den_nz,if_neg]
 rintro(⟨h1,h2⟩|h1)
 ·exact rneg_ne h1 h2
 ·exact h1 (rgcd x)
end Go.Proofs.YthhbbnfnejjpiaaGreatDoor
