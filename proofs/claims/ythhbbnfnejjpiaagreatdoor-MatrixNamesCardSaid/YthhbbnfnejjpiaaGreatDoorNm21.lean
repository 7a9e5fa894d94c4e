/- Plain facts and contracts of functions of the program, out of walks. Their conditions stand ahead of each. -/
import Derived.Test.YthhbbnfnejjpiaaGreatDoorNm1
import Derived.Test.YthhbbnfnejjpiaaGreatDoorNm13
import Derived.Test.YthhbbnfnejjpiaaGreatDoorNm20
import Derived.Below
import Derived.BigQuiet
import Derived.Deep.Draws
import Derived.Deep.LoopGhost
import Derived.Deep.QuietTactic
import Derived.Deep.RegionHeld3
import Derived.Deep.RegionLaw
import Derived.Defers
import Derived.Laws.BytesString
import Derived.Laws.Cells
import Derived.Laws.CopyOwn
import Derived.Laws.CopyRow
import Derived.Laws.NewBlocks
import Derived.Laws.OwnMore
import Derived.Laws.Pointers
import Derived.Laws.Rows
import Derived.Lib.BitFns
import Derived.Lib.Hide
import Derived.Lib.ItoaNum
import Derived.Lib.TrailingZeros
import Derived.LoopIn
import Derived.LoopNIn
import Derived.Maps.AppendAt
import Derived.OrdersHeld
import Derived.OrdersIn
import Derived.OwnWalk
import Derived.OwnWalkIn
import Derived.RangeFuncBound
import Derived.RangeFuncBox
import Derived.RangeFuncCalls
import Derived.RangeFuncLeaves
import Derived.RangeFuncNested
import Derived.RowKit3
import Derived.Shelf.Abstract
import Derived.Shelf.RegionOpen
import Derived.Shelf.Spec.TrailingZeros
import Derived.StillTactics
import Derived.StillTailTactics
import Derived.TacticsInMore
import Derived.Test.YthhbbnfnejjpiaaGreatDoorProg
import Derived.WalkKit
import Derived.WalkLawsBesides
import Derived.WalkMore
import Derived.WalkSpells
set_option linter.unusedVariables false
set_option linter.unusedSimpArgs false
set_option exponentiation.threshold 10000
namespace Go.Proofs.YthhbbnfnejjpiaaGreatDoor
open Go.RowKit GW NL
theorem of_any (s:Bool)(A B:Option Addr)(c k n d:Nat)(w:World):
  Calls Tryz.prog 114 #[.agg #[.bool s,.slice A n c,.slice B d k]] w fun e w'=>e=.returned (.agg #[.bool s,.slice A n c,.slice B d k])∧Below w.heap.size w w':=by
 refine calls_b fun g=>?_
 go_enter Tryz.func114,Tryz.ntmps114
 go_wp2_with (with_reducible refine yq _ ?_;(try generalize (G.w _).heap.size=bk);(try dsimp only[yi,yj]);(try clear g);intro g)
 refine bodyPost_ret (v:=.agg #[.bool s,.slice A n c,.slice B d k]) (by simp[results,Tryz.results114,go_sem]) rfl ⟨rfl,G.below _⟩
theorem inverse_any (s:Bool)(A B:Option Addr)(c k n d:Nat)(w:World):
  Calls Tryz.prog 172 #[.agg #[.bool s,.slice A n c,.slice B d k]] w fun e w'=>e=.returned (.agg #[.bool s,.slice B d k,.slice A n c])∧Below w.heap.size w w':=by
 refine calls_b fun g=>?_
 go_enter Tryz.func172,Tryz.ntmps172
 go_wp2_with (with_reducible refine yq _ ?_;(try generalize (G.w _).heap.size=bk);(try dsimp only[yi,yj]);(try clear g);intro g)
 refine bodyPost_ret (v:=.agg #[.bool s,.slice B d k,.slice A n c]) (by simp[results,Tryz.results172,go_sem]) rfl ⟨rfl,G.below _⟩
theorem minus_any (s:Bool)(A B:Option Addr)(c k n d:Nat)(w:World):
  Calls Tryz.prog 160 #[.agg #[.bool s,.slice A n c,.slice B d k]] w fun e w'=>e=.returned (.agg #[.bool (!s&&decide (0<n)),.slice A n c,.slice B d k])∧Below w.heap.size w w':=by
 refine calls_b fun g=>?_
 by_cases h:0<n
 ·have h2:(0:Int)<(n:Int):=by omega
  rw[decide_eq_true h,Bool.and_true]
  cases s
  ·go_enter Tryz.func160,Tryz.ntmps160
   go_wp2_with (with_reducible refine yq _ ?_;(try generalize (G.w _).heap.size=bk);(try dsimp only[yi,yj]);(try clear g);intro g)
   refine bodyPost_ret (v:=.agg #[.bool true,.slice A n c,.slice B d k]) (by simp[results,Tryz.results160,go_sem]) rfl ⟨rfl,G.below _⟩
  ·go_enter Tryz.func160,Tryz.ntmps160
   go_wp2_with (with_reducible refine yq _ ?_;(try generalize (G.w _).heap.size=bk);(try dsimp only[yi,yj]);(try clear g);intro g)
   refine bodyPost_ret (v:=.agg #[.bool false,.slice A n c,.slice B d k]) (by simp[results,Tryz.results160,go_sem]) rfl ⟨rfl,G.below _⟩
 ·obtain rfl:n=0:=by omega
  rw[decide_eq_false h,Bool.and_false]
  cases s
  ·go_enter Tryz.func160,Tryz.ntmps160
   go_wp2_with (with_reducible refine yq _ ?_;(try generalize (G.w _).heap.size=bk);(try dsimp only[yi,yj]);(try clear g);intro g)
   refine bodyPost_ret (v:=.agg #[.bool false,.slice A 0 c,.slice B d k]) (by simp[results,Tryz.results160,go_sem]) rfl ⟨rfl,G.below _⟩
  ·go_enter Tryz.func160,Tryz.ntmps160
   go_wp2_with (with_reducible refine yq _ ?_;(try generalize (G.w _).heap.size=bk);(try dsimp only[yi,yj]);(try clear g);intro g)
   refine bodyPost_ret (v:=.agg #[.bool false,.slice A 0 c,.slice B d k]) (by simp[results,Tryz.results160,go_sem]) rfl ⟨rfl,G.below _⟩
/-- What is returned is a rational number by its parts, with an error; in new memory. -/
def RPE (r:Bool×Nat×Nat×Int)(w:World)(e:Ending)(w':World):Prop:=∃A c F B k H,e=.returned (.tuple #[.agg #[.bool r.1,.slice A (limbs r.2.1).length c,.slice B (limbs r.2.2.1).length k],.int .i64 r.2.2.2])∧F.Sl A c (limbs r.2.1)∧H.Sl B k (limbs r.2.2.1)∧New w w' F∧New w w' H
theorem limbs_256 {v:Nat}:v<2^8192↔(limbs v).length≤256:=by
 rw[limbs_len,pow32]
/-- a number, or ErrOver -/
def outP (s:Bool)(n d:Nat):Bool×Nat×Nat×Int:=if n<2^8192∧d<2^8192 then(s,n,d,0) else(false,0,0,5)
theorem rpe_err {w0:World}{M:List Blk}{I:List Frag}(g:G w0 [] M I)(x:Int):RPE (false,0,0,x) w0 (.returned (.tuple #[.agg #[.bool false,.slice none 0 0,.slice none 0 0],.int .i64 x])) g.w:=
 ⟨none,0,_,none,0,_,by simp only[limbs_zero];rfl,by simp only[limbs_zero];exact Frag.Sl.nil _ _,by simp only[limbs_zero];exact Frag.Sl.nil _ _,g.none,g.none⟩
set_option maxRecDepth 20000 in
set_option maxHeartbeats 2000000 in
theorem result_any (s:Bool)(A B:Option Addr)(c k n d:Nat)(w:World)(h1:SlW w A c (limbs n))(h2:SlW w B k (limbs d)):
  Calls Tryz.prog 79 #[.agg #[.bool s,.slice A (limbs n).length c,.slice B (limbs d).length k]] w (RPE (outP s n d) w):=by
 refine calls_b fun g=>?_
 unfold outP
 by_cases hn:n<2^8192
 ·have hn2:=limbs_256.1 hn
  by_cases hd:d<2^8192
  ·rw[if_pos ⟨hn,hd⟩]
   have hd2:=limbs_256.1 hd
   have C1:=Lib.hid (fun w h=>clone_any A c (limbs n) w h (by omega))
   have C2:=Lib.hid (fun w h=>clone_any B k (limbs d) w h (by omega))
   clear hn hd
   have H1:=Lib.hid h1
   have H2:=Lib.hid h2
   generalize hln:(limbs n).length=ln at*
   generalize hld:(limbs d).length=ld at*
   have HLN:=Lib.hid hln
   have HLD:=Lib.hid hld
   clear hln hld
   unfold RLim at C1 C2
   rw[HLN.out] at C1
   rw[HLD.out] at C2
   cases s
   ·go_enter Tryz.func79,Tryz.ntmps79
    go_wp2_with (with_reducible refine yq _ ?_;(try generalize (G.w _).heap.size=bk);(try dsimp only[yi,yj]);(try clear g);intro g)
    go_region_held3 (G.heldN g [false,true]) (simp[G.heldN,HeldN,go_sem]) (first
     |(go_at_call 117;(with_reducible refine(C1.out _ ?_).mono ?_);(· exact G.sl _ (by simp) H1.out);rintro e w1 ⟨X1,x1,P1,rfl,hx1,hn1⟩;have ho1:=fun k o hk=>Nat.le_trans (G.chg _).size (hn1.new k o hk);obtain⟨g1,rfl⟩:=G.new_ex _ hn1;clear hn1;(try clear g);revert g1;intro g)
     |(go_at_call 117;(with_reducible refine(C2.out _ ?_).mono ?_);(· exact G.sl _ (by simp) H2.out);rintro e w1 ⟨X2,x2,P2,rfl,hx2,hn2⟩;have ho2:=fun k o hk=>Nat.le_trans (G.chg _).size (hn2.new k o hk);obtain⟨g1,rfl⟩:=G.new_ex _ hn2;clear hn2;(try clear g);revert g1;intro g))
    all_goals go_wp2_with (with_reducible refine yq _ ?_;(try generalize (G.w _).heap.size=bk);(try dsimp only[yi,yj]);(try clear g);intro g)
    all_goals refine bodyPost_ret (v:=.tuple #[.agg #[.bool false,.slice X1 ln x1,.slice X2 ld x2],.int .i64 0]) (by simp[results,Tryz.results79,go_sem]) rfl ?_
    all_goals exact⟨X1,x1,P1,X2,x2,P2,by rw[HLN.out,HLD.out],hx1,hx2,G.pass _ (by simp) ho1,G.pass _ (by simp) ho2⟩
   ·go_enter Tryz.func79,Tryz.ntmps79
    go_wp2_with (with_reducible refine yq _ ?_;(try generalize (G.w _).heap.size=bk);(try dsimp only[yi,yj]);(try clear g);intro g)
    go_region_held3 (G.heldN g [false,true]) (simp[G.heldN,HeldN,go_sem]) (first
     |(go_at_call 117;(with_reducible refine(C1.out _ ?_).mono ?_);(· exact G.sl _ (by simp) H1.out);rintro e w1 ⟨X1,x1,P1,rfl,hx1,hn1⟩;have ho1:=fun k o hk=>Nat.le_trans (G.chg _).size (hn1.new k o hk);obtain⟨g1,rfl⟩:=G.new_ex _ hn1;clear hn1;(try clear g);revert g1;intro g)
     |(go_at_call 117;(with_reducible refine(C2.out _ ?_).mono ?_);(· exact G.sl _ (by simp) H2.out);rintro e w1 ⟨X2,x2,P2,rfl,hx2,hn2⟩;have ho2:=fun k o hk=>Nat.le_trans (G.chg _).size (hn2.new k o hk);obtain⟨g1,rfl⟩:=G.new_ex _ hn2;clear hn2;(try clear g);revert g1;intro g))
    all_goals go_wp2_with (with_reducible refine yq _ ?_;(try generalize (G.w _).heap.size=bk);(try dsimp only[yi,yj]);(try clear g);intro g)
    all_goals refine bodyPost_ret (v:=.tuple #[.agg #[.bool true,.slice X1 ln x1,.slice X2 ld x2],.int .i64 0]) (by simp[results,Tryz.results79,go_sem]) rfl ?_
    all_goals exact⟨X1,x1,P1,X2,x2,P2,by rw[HLN.out,HLD.out],hx1,hx2,G.pass _ (by simp) ho1,G.pass _ (by simp) ho2⟩
  ·rw[if_neg (fun h=>hd h.2)]
   have hn3:¬ (256:Int)<((limbs n).length:Int):=by omega
   have hd3:(256:Int)<((limbs d).length:Int):=by
    rcases Nat.lt_or_ge 256 (limbs d).length with h|h
    ·omega
    ·exact absurd (limbs_256.2 h) hd
   clear hn hd hn2 h1 h2
   generalize (limbs n).length=ln at*
   generalize (limbs d).length=ld at*
   go_enter Tryz.func79,Tryz.ntmps79
   go_wp2_with (with_reducible refine yq _ ?_;(try generalize (G.w _).heap.size=bk);(try dsimp only[yi,yj]);(try clear g);intro g)
   refine bodyPost_ret (v:=.tuple #[.agg #[.bool false,.slice none 0 0,.slice none 0 0],.int .i64 5]) (by simp[results,Tryz.results79,go_sem]) rfl (rpe_err _ 5)
 ·rw[if_neg (fun h=>hn h.1)]
  have hn3:(256:Int)<((limbs n).length:Int):=by
   rcases Nat.lt_or_ge 256 (limbs n).length with h|h
   ·omega
   ·exact absurd (limbs_256.2 h) hn
  clear hn h1 h2
  generalize (limbs n).length=ln at*
  generalize (limbs d).length=ld at*
  go_enter Tryz.func79,Tryz.ntmps79
  go_wp2_with (with_reducible refine yq _ ?_;(try generalize (G.w _).heap.size=bk);(try dsimp only[yi,yj]);(try clear g);intro g)
  refine bodyPost_ret (v:=.tuple #[.agg #[.bool false,.slice none 0 0,.slice none 0 0],.int .i64 5]) (by simp[results,Tryz.results79,go_sem]) rfl (rpe_err _ 5)
/-- the error of a rational number's parts -/
def rchk (s:Bool)(ln ld:List Nat):Int:=if chk ln≠0 then chk ln else if chk ld≠0 then chk ld else if val ld=0 then 6 else if(s=true∧val ln=0)∨Nat.gcd (val ln) (val ld)≠1 then 3 else 0
theorem chk_pos (l:List Nat):chk l=0∨chk l=3∨chk l=4:=by unfold chk;split;simp;split<;>simp
set_option maxRecDepth 20000 in
set_option maxHeartbeats 4000000 in
theorem rcheck (s:Bool)(A B:Option Addr)(c k:Nat)(ln ld:List Nat)(w:World)(h1:SlW w A c ln)(h2:SlW w B k ld)(hT:Tab w):
  Calls Tryz.prog 110 #[.agg #[.bool s,.slice A ln.length c,.slice B ld.length k]] w fun e w'=>e=.returned (.int .i64 (rchk s ln ld))∧Below w.heap.size w w':=by
 refine calls_b fun g=>?_
 have CK1:=Lib.hid (fun w h=>check_any A c ln w h)
 have CK2:=Lib.hid (fun w h=>check_any B k ld w h)
 have HT:=Lib.hid hT
 have P1:=chk_pos ln
 have P2:=chk_pos ld
 have K1:=Lib.hid (fun h=>chk_ok h1.ok h)
 have K2:=Lib.hid (fun h=>chk_ok h2.ok h)
 obtain⟨x1,hx1⟩:∃x,chk ln=x:=⟨_,rfl⟩
 obtain⟨x2,hx2⟩:∃x,chk ld=x:=⟨_,rfl⟩
 rw[hx1] at CK1 P1 K1
 rw[hx2] at CK2 P2 K2
 have HX1:=Lib.hid hx1
 have HX2:=Lib.hid hx2
 have H1:=Lib.hid h1
 have H2:=Lib.hid h2
 clear hT hx1 hx2 h1 h2
 obtain⟨n1,hn1⟩:∃n,ln.length=n:=⟨_,rfl⟩
 obtain⟨n2,hn2⟩:∃n,ld.length=n:=⟨_,rfl⟩
 rw[hn1] at CK1 ⊢
 rw[hn2] at CK2 ⊢
 have HN1:=Lib.hid hn1
 have HN2:=Lib.hid hn2
 clear hn1 hn2
 go_enter Tryz.func110,Tryz.ntmps110
 go_wp2_with (with_reducible refine yq _ ?_;(try generalize (G.w _).heap.size=bk);(try dsimp only[yi,yj]);(try clear g);intro g)
 obtain⟨lb,rfl⟩:∃lb,lb=bk:=⟨_,rfl⟩
 obtain⟨xb,rfl⟩:∃xb,xb=bk:=⟨_,rfl⟩
 go_loopg [13] 2 (fun gk s13 wr=>((gk=2∧s13=.int .i64 0)∨(gk=1∧s13=.int .i64 1∧x1=0)∨(gk=0∧s13=.int .i64 2∧x1=0∧x2=0))∧∃g:G w [] [(lb,41,[.slice A n1 c,.slice B n2 k]),(xb,43,[.bool s,.slice A n1 c,.slice B n2 k])] [heapOf w],wr=g.w)
 case atStart=>exact⟨.inl ⟨rfl,rfl⟩,g,rfl⟩
 case round=>
  clear g
  obtain⟨hst,g,rfl⟩:=hrel
  rcases hst with⟨rfl,rfl⟩|⟨rfl,rfl,rfl⟩|⟨rfl,rfl,rfl,rfl⟩
  ·go_wp2_with (with_reducible refine yq _ ?_;(try generalize (G.w _).heap.size=bk);(try dsimp only[yi,yj]);(try clear g);intro g)
   refine(CK1.out _ (G.sl g (by simp) H1.out)).mono ?_
   rintro e w1 ⟨rfl,hb⟩
   obtain⟨g1,rfl⟩:=G.call_ex _ hb
   clear hb
   (try clear g)
   revert g1
   intro g
   rcases P1 with rfl|rfl|rfl
   ·go_wp2_with (with_reducible refine yq _ ?_;(try generalize (G.w _).heap.size=bk);(try dsimp only[yi,yj]);(try clear g);intro g)
    go_roundg 1
    case measure=>omega
    case rel=>exact⟨by simp,g,rfl⟩
   all_goals go_wp2_with (with_reducible refine yq _ ?_;(try generalize (G.w _).heap.size=bk);(try dsimp only[yi,yj]);(try clear g);intro g)
   all_goals go_ret
   all_goals exact⟨by unfold rchk;rw[HX1.out,if_pos (by decide)];rfl,g.below⟩
  ·go_wp2_with (with_reducible refine yq _ ?_;(try generalize (G.w _).heap.size=bk);(try dsimp only[yi,yj]);(try clear g);intro g)
   refine(CK2.out _ (G.sl g (by simp) H2.out)).mono ?_
   rintro e w1 ⟨rfl,hb⟩
   obtain⟨g1,rfl⟩:=G.call_ex _ hb
   clear hb
   (try clear g)
   revert g1
   intro g
   rcases P2 with rfl|rfl|rfl
   ·go_wp2_with (with_reducible refine yq _ ?_;(try generalize (G.w _).heap.size=bk);(try dsimp only[yi,yj]);(try clear g);intro g)
    go_roundg 0
    case measure=>omega
    case rel=>exact⟨by simp,g,rfl⟩
   all_goals go_wp2_with (with_reducible refine yq _ ?_;(try generalize (G.w _).heap.size=bk);(try dsimp only[yi,yj]);(try clear g);intro g)
   all_goals go_ret
   all_goals exact⟨by unfold rchk;rw[HX1.out,HX2.out,if_neg (by decide),if_pos (by decide)];rfl,g.below⟩
  ·obtain⟨e1,b1,b2⟩:=K1.out rfl
   obtain⟨e2,b3,b4⟩:=K2.out rfl
   have hrc:rchk s ln ld=if val ld=0 then 6 else if(s=true∧val ln=0)∨Nat.gcd (val ln) (val ld)≠1 then 3 else 0:=by
    unfold rchk
    rw[HX1.out,HX2.out,if_neg (by decide),if_neg (by decide)]
   obtain⟨v1,hv1⟩:∃v,val ln=v:=⟨_,rfl⟩
   obtain⟨v2,hv2⟩:∃v,val ld=v:=⟨_,rfl⟩
   rw[hv1,hv2] at hrc
   rw[hv1] at e1
   rw[hv2] at e2
   have s1:=H1.out
   have s2:=H2.out
   rw[e1] at s1
   rw[e2] at s2
   have hl1:(limbs v1).length=n1:=by rw[←e1];exact HN1.out
   have hl2:(limbs v2).length=n2:=by rw[←e2];exact HN2.out
   rw[e1] at b2
   rw[e2] at b4
   have HRC:=Lib.hid hrc
   have E1:=Lib.hid e1
   have E2:=Lib.hid e2
   have S1:=Lib.hid s1
   have S2:=Lib.hid s2
   have CO:=Lib.hid (fun w=>of_any s A B c k n1 n2 w)
   have CG:=Lib.hid (fun F w hF h1 h2 hT=>(by
    have:=lgcd_any F A B c k v1 v2 w hF h1 h2 hT (by omega) (by omega)
    rw[hl1,hl2] at this
    exact this:Calls Tryz.prog 137 #[.slice A n1 c,.slice B n2 k] w (RAli F (Nat.gcd v1 v2) w)))
   have CU:=Lib.hid (fun X x w h=>lunit_any X x (Nat.gcd v1 v2) w h)
   have z1:(v1=0∧n1=0)∨(v1≠0∧0<n1):=by
    rw[←hl1]
    by_cases h:v1=0
    ·left;subst h;exact⟨rfl,by rw[limbs_zero];rfl⟩
    ·right;exact⟨h,(limbs_ne h).2⟩
   have z2:(v2=0∧n2=0)∨(v2≠0∧0<n2):=by
    rw[←hl2]
    by_cases h:v2=0
    ·left;subst h;exact⟨rfl,by rw[limbs_zero];rfl⟩
    ·right;exact⟨h,(limbs_ne h).2⟩
   clear hrc e1 e2 s1 s2 hv1 hv2 b1 b2 b3 b4 hl1 hl2 P1 P2 K1 K2 CK1 CK2
   go_wp2_with (with_reducible refine yq _ ?_;(try generalize (G.w _).heap.size=bk);(try dsimp only[yi,yj]);(try clear g);intro g)
   refine(CO.out _).mono ?_
   rintro e w1 ⟨rfl,hb⟩
   obtain⟨g1,rfl⟩:=G.call_ex _ hb
   clear hb
   (try clear g)
   revert g1
   intro g
   rcases z2 with⟨k1,k2⟩|⟨k1,k2⟩
   ·have hfin:=HRC.out
    rw[if_pos k1] at hfin
    have HF:=Lib.hid hfin
    clear hfin
    subst k2
    go_wp2_with (with_reducible refine yq _ ?_;(try generalize (G.w _).heap.size=bk);(try dsimp only[yi,yj]);(try clear g);intro g)
    go_ret
    exact⟨by rw[HF.out];rfl,G.below _⟩
   ·have k3:((n2:Int)==0)=false:=by rw[beq_eq_false_iff_ne];omega
    have hfin:=HRC.out
    rw[if_neg k1] at hfin
    have HF:=Lib.hid hfin
    clear hfin
    cases s
    ·go_wp2_with (with_reducible refine yq _ ?_;(try generalize (G.w _).heap.size=bk);(try dsimp only[yi,yj]);(try clear g);intro g)
     (try(refine cmark _ ?_;(try dsimp only[yi,yj]);(try clear g);intro g))
     refine(CG.out (g.fr (heapOf w)) _ (g.fr_sub (by simp)) (g.fr_sl (by simp) (Frag.over_self _ _) S1.out) (g.fr_sl (by simp) (Frag.over_self _ _) S2.out) (G.tab g HT.out)).mono ?_
     rintro e w1 ⟨Ag,cg,Fg,rfl,hsg,hng⟩
     obtain⟨g1,rfl,hov⟩:=g.newor_ex hng
     clear hng
     (try clear g)
     revert g1
     intro g
     go_wp2_with (with_reducible refine yq _ ?_;(try generalize (G.w _).heap.size=bk);(try dsimp only[yi,yj]);(try clear g);intro g)
     refine(CU.out Ag cg _ (G.sl g (by simp) hsg)).mono ?_
     rintro e w1 ⟨rfl,rfl⟩
     by_cases hq:Nat.gcd v1 v2=1
     ·rw[decide_eq_true hq]
      have HQ:=Lib.hid hq
      clear hq
      go_wp2_with (with_reducible refine yq _ ?_;(try generalize (G.w _).heap.size=bk);(try dsimp only[yi,yj]);(try clear g);intro g)
      go_ret
      exact⟨by rw[HF.out,if_neg (fun h=>h.elim (fun h=>by cases h.1) (fun h=>h HQ.out))];rfl,G.below _⟩
     ·rw[decide_eq_false hq]
      have HQ:=Lib.hid hq
      clear hq
      go_wp2_with (with_reducible refine yq _ ?_;(try generalize (G.w _).heap.size=bk);(try dsimp only[yi,yj]);(try clear g);intro g)
      go_ret
      exact⟨by rw[HF.out,if_pos (.inr HQ.out)];rfl,G.below _⟩
    ·rcases z1 with⟨k4,k5⟩|⟨k4,k5⟩
     ·have HK4:=Lib.hid k4
      clear k4
      subst k5
      go_wp2_with (with_reducible refine yq _ ?_;(try generalize (G.w _).heap.size=bk);(try dsimp only[yi,yj]);(try clear g);intro g)
      go_ret
      exact⟨by rw[HF.out,if_pos (.inl ⟨by simp,HK4.out⟩)];rfl,G.below _⟩
     ·have k6:((n1:Int)==0)=false:=by rw[beq_eq_false_iff_ne];omega
      have HK4:=Lib.hid k4
      clear k4
      go_wp2_with (with_reducible refine yq _ ?_;(try generalize (G.w _).heap.size=bk);(try dsimp only[yi,yj]);(try clear g);intro g)
      (try(refine cmark _ ?_;(try dsimp only[yi,yj]);(try clear g);intro g))
      refine(CG.out (g.fr (heapOf w)) _ (g.fr_sub (by simp)) (g.fr_sl (by simp) (Frag.over_self _ _) S1.out) (g.fr_sl (by simp) (Frag.over_self _ _) S2.out) (G.tab g HT.out)).mono ?_
      rintro e w1 ⟨Ag,cg,Fg,rfl,hsg,hng⟩
      obtain⟨g1,rfl,hov⟩:=g.newor_ex hng
      clear hng
      (try clear g)
      revert g1
      intro g
      go_wp2_with (with_reducible refine yq _ ?_;(try generalize (G.w _).heap.size=bk);(try dsimp only[yi,yj]);(try clear g);intro g)
      refine(CU.out Ag cg _ (G.sl g (by simp) hsg)).mono ?_
      rintro e w1 ⟨rfl,rfl⟩
      by_cases hq:Nat.gcd v1 v2=1
      ·rw[decide_eq_true hq]
       have HQ:=Lib.hid hq
       clear hq
       go_wp2_with (with_reducible refine yq _ ?_;(try generalize (G.w _).heap.size=bk);(try dsimp only[yi,yj]);(try clear g);intro g)
       go_ret
       exact⟨by rw[HF.out,if_neg (fun h=>h.elim (fun h=>HK4.out h.2) (fun h=>h HQ.out))];rfl,G.below _⟩
      ·rw[decide_eq_false hq]
       have HQ:=Lib.hid hq
       clear hq
       go_wp2_with (with_reducible refine yq _ ?_;(try generalize (G.w _).heap.size=bk);(try dsimp only[yi,yj]);(try clear g);intro g)
       go_ret
       exact⟨by rw[HF.out,if_pos (.inr HQ.out)];rfl,G.below _⟩
theorem G.old {w0:World}{X:List Nat}{M:List Blk}{I:List Frag}(g:G w0 X M I)(hI:heapOf w0∈I){b o:Nat}{v:Value}(h:w0.cell? ⟨b,o,none⟩=some v):g.w.cell? ⟨b,o,none⟩=some v:=by
 refine g.frag_cell hI ?_
 unfold World.cell? at h
 unfold Frag.cell
 exact h
/-- the parts of a rational number, or ErrOver -/
def outX (x:Rat):Bool×Nat×Nat×Int:=outP (rneg x) (rn x) x.den
/-- from cell o on a fraction lies in block b -/
structure FrAt (w:World)(b o:Nat)(s:Bool)(A:Option Addr)(n c:Nat)(B:Option Addr)(d k:Nat):Prop where
 c0:w.cell? ⟨b,o,none⟩=some (.bool s)
 c1:w.cell? ⟨b,o+1,none⟩=some (.slice A n c)
 c2:w.cell? ⟨b,o+2,none⟩=some (.slice B d k)
theorem frac_minus (s:Bool)(n d:Nat):frac (!s&&decide (0<(limbs n).length)) n d= -frac s n d:=by
 by_cases h:n=0
 ·subst h;rw[frac_zero,frac_zero];rfl
 ·rw[decide_eq_true (limbs_ne h).2,Bool.and_true,frac_neg]
set_option maxRecDepth 20000 in
set_option maxHeartbeats 4000000 in
theorem add1_any (b cap:Nat)(s1 s2:Bool)(A1 B1 A2 B2:Option Addr)(c1 k1 c2 k2 n1 d1 n2 d2:Nat)(w:World)(f1:FrAt w b 0 s1 A1 (limbs n1).length c1 B1 (limbs d1).length k1)(f2:FrAt w b 3 s2 A2 (limbs n2).length c2 B2 (limbs d2).length k2)(hcap:2≤cap)(h1:SlW w A1 c1 (limbs n1))(j1:SlW w B1 k1 (limbs d1))(h2:SlW w A2 c2 (limbs n2))(j2:SlW w B2 k2 (limbs d2))(hT:Tab w)
  (l1:(limbs n1).length≤10000000) (m1:(limbs d1).length≤10000000) (l2:(limbs n2).length≤10000000) (m2:(limbs d2).length≤10000000) (z1:d1≠0) (z2:d2≠0):
  Calls Tryz.prog 129 #[.slice (some ⟨b,0,none⟩) 2 cap] w (RPE (outX (frac s1 n1 d1+frac s2 n2 d2)) w):=by
 refine calls_b fun g=>?_
 have C1:=Lib.hid (fun w a b c d t=>fplus_any s1 s2 A1 B1 A2 B2 c1 k1 c2 k2 n1 d1 n2 d2 w a b c d t l1 m1 l2 m2 z1 z2)
 have HT:=Lib.hid hT
 have E0:=Lib.hid f1.c0
 have E1:=Lib.hid f1.c1
 have E2:=Lib.hid f1.c2
 have E3:=Lib.hid f2.c0
 have E4:=Lib.hid f2.c1
 have E5:=Lib.hid f2.c2
 clear hT f1 f2 z1 z2
 generalize (limbs n1).length=ln1 at*
 generalize (limbs d1).length=ld1 at*
 generalize (limbs n2).length=ln2 at*
 generalize (limbs d2).length=ld2 at*
 generalize frac s1 n1 d1+frac s2 n2 d2=x at*
 have CR:=Lib.hid (fun A B c k w h1 h2=>result_any (rneg x) A B c k (rn x) x.den w h1 h2)
 unfold outX
 generalize outP (rneg x) (rn x) x.den=r at*
 obtain⟨rs,rn',rd',re⟩:=r
 unfold RPE at CR ⊢
 dsimp only at CR ⊢
 have hcap2:(2:Int)≤(cap:Int):=by omega

 go_enter Tryz.func129,Tryz.ntmps129
 go_wp2_with (with_reducible refine yq _ ?_;(try generalize (G.w _).heap.size=bk);(try dsimp only[yi,yj]);(try clear g);intro g)
 go_region_held3 (fun w'=>w'.cell? ⟨b,0,none⟩=some (.bool s1)∧w'.cell? ⟨b,1,none⟩=some (.slice A1 ln1 c1)∧w'.cell? ⟨b,2,none⟩=some (.slice B1 ld1 k1)∧w'.cell? ⟨b,3,none⟩=some (.bool s2)∧w'.cell? ⟨b,4,none⟩=some (.slice A2 ln2 c2)∧w'.cell? ⟨b,5,none⟩=some (.slice B2 ld2 k2)) (((try simp only[G.drew_eq,G.drewN_eq]);exact⟨G.old _ (by simp) E0.out,G.old _ (by simp) E1.out,G.old _ (by simp) E2.out,G.old _ (by simp) E3.out,G.old _ (by simp) E4.out,G.old _ (by simp) E5.out⟩)) (first
  |(go_at_call 130;(with_reducible refine(C1.out _ ?_ ?_ ?_ ?_ ?_).mono ?_);(· exact G.sl _ (by simp) h1);(· exact G.sl _ (by simp) j1);(· exact G.sl _ (by simp) h2);(· exact G.sl _ (by simp) j2);(· exact G.tab _ HT.out);rintro e w1 ⟨Y1,y1,Q1,Y2,y2,Q2,rfl,hy1,hy2,hn1,hn2⟩;obtain⟨g1,rfl⟩:=G.new2_ex _ hn1 hn2;clear hn1 hn2;(try clear g);revert g1;intro g)
  |(go_at_call 79;(with_reducible refine(CR.out _ _ _ _ _ ?_ ?_).mono ?_);(· exact G.sl _ (by simp) hy1);(· exact G.sl _ (by simp) hy2);rintro e w1 ⟨Z1,z1,R1,Z2,z2,R2,rfl,hz1,hz2,hn1,hn2⟩;have ho1:=fun k o hk=>Nat.le_trans (G.chg _).size (hn1.new k o hk);have ho2:=fun k o hk=>Nat.le_trans (G.chg _).size (hn2.new k o hk);obtain⟨g1,rfl⟩:=G.new2_ex _ hn1 hn2;clear hn1 hn2;(try clear g);revert g1;intro g))
 all_goals go_wp2_with (with_reducible refine yq _ ?_;(try generalize (G.w _).heap.size=bk);(try dsimp only[yi,yj]);(try clear g);intro g)
 all_goals refine bodyPost_ret (v:=.tuple #[.agg #[.bool rs,.slice Z1 (limbs rn').length z1,.slice Z2 (limbs rd').length z2],.int .i64 re]) (by simp[results,Tryz.results129,go_sem]) rfl ?_
 all_goals exact⟨Z1,z1,R1,Z2,z2,R2,rfl,hz1,hz2,G.pass _ (by simp) ho1,G.pass _ (by simp) ho2⟩
set_option maxRecDepth 20000 in
set_option maxHeartbeats 4000000 in
theorem mul1_any (b cap:Nat)(s1 s2:Bool)(A1 B1 A2 B2:Option Addr)(c1 k1 c2 k2 n1 d1 n2 d2:Nat)(w:World)(f1:FrAt w b 0 s1 A1 (limbs n1).length c1 B1 (limbs d1).length k1)(f2:FrAt w b 3 s2 A2 (limbs n2).length c2 B2 (limbs d2).length k2)(hcap:2≤cap)(h1:SlW w A1 c1 (limbs n1))(j1:SlW w B1 k1 (limbs d1))(h2:SlW w A2 c2 (limbs n2))(j2:SlW w B2 k2 (limbs d2))(hT:Tab w)
  (l1:(limbs n1).length≤10000000) (m1:(limbs d1).length≤10000000) (l2:(limbs n2).length≤10000000) (m2:(limbs d2).length≤10000000) (z1:d1≠0) (z2:d2≠0):
  Calls Tryz.prog 77 #[.slice (some ⟨b,0,none⟩) 2 cap] w (RPE (outX (frac s1 n1 d1*frac s2 n2 d2)) w):=by
 refine calls_b fun g=>?_
 have C1:=Lib.hid (fun w a b c d t=>ftimes_any s1 s2 A1 B1 A2 B2 c1 k1 c2 k2 n1 d1 n2 d2 w a b c d t l1 m1 l2 m2 z1 z2)
 have HT:=Lib.hid hT
 have E0:=Lib.hid f1.c0
 have E1:=Lib.hid f1.c1
 have E2:=Lib.hid f1.c2
 have E3:=Lib.hid f2.c0
 have E4:=Lib.hid f2.c1
 have E5:=Lib.hid f2.c2
 clear hT f1 f2 z1 z2
 generalize (limbs n1).length=ln1 at*
 generalize (limbs d1).length=ld1 at*
 generalize (limbs n2).length=ln2 at*
 generalize (limbs d2).length=ld2 at*
 generalize frac s1 n1 d1*frac s2 n2 d2=x at*
 have CR:=Lib.hid (fun A B c k w h1 h2=>result_any (rneg x) A B c k (rn x) x.den w h1 h2)
 unfold outX
 generalize outP (rneg x) (rn x) x.den=r at*
 obtain⟨rs,rn',rd',re⟩:=r
 unfold RPE at CR ⊢
 dsimp only at CR ⊢
 have hcap2:(2:Int)≤(cap:Int):=by omega

 go_enter Tryz.func77,Tryz.ntmps77
 go_wp2_with (with_reducible refine yq _ ?_;(try generalize (G.w _).heap.size=bk);(try dsimp only[yi,yj]);(try clear g);intro g)
 go_region_held3 (fun w'=>w'.cell? ⟨b,0,none⟩=some (.bool s1)∧w'.cell? ⟨b,1,none⟩=some (.slice A1 ln1 c1)∧w'.cell? ⟨b,2,none⟩=some (.slice B1 ld1 k1)∧w'.cell? ⟨b,3,none⟩=some (.bool s2)∧w'.cell? ⟨b,4,none⟩=some (.slice A2 ln2 c2)∧w'.cell? ⟨b,5,none⟩=some (.slice B2 ld2 k2)) (((try simp only[G.drew_eq,G.drewN_eq]);exact⟨G.old _ (by simp) E0.out,G.old _ (by simp) E1.out,G.old _ (by simp) E2.out,G.old _ (by simp) E3.out,G.old _ (by simp) E4.out,G.old _ (by simp) E5.out⟩)) (first
  |(go_at_call 78;(with_reducible refine(C1.out _ ?_ ?_ ?_ ?_ ?_).mono ?_);(· exact G.sl _ (by simp) h1);(· exact G.sl _ (by simp) j1);(· exact G.sl _ (by simp) h2);(· exact G.sl _ (by simp) j2);(· exact G.tab _ HT.out);rintro e w1 ⟨Y1,y1,Q1,Y2,y2,Q2,rfl,hy1,hy2,hn1,hn2⟩;obtain⟨g1,rfl⟩:=G.new2_ex _ hn1 hn2;clear hn1 hn2;(try clear g);revert g1;intro g)
  |(go_at_call 79;(with_reducible refine(CR.out _ _ _ _ _ ?_ ?_).mono ?_);(· exact G.sl _ (by simp) hy1);(· exact G.sl _ (by simp) hy2);rintro e w1 ⟨Z1,z1,R1,Z2,z2,R2,rfl,hz1,hz2,hn1,hn2⟩;have ho1:=fun k o hk=>Nat.le_trans (G.chg _).size (hn1.new k o hk);have ho2:=fun k o hk=>Nat.le_trans (G.chg _).size (hn2.new k o hk);obtain⟨g1,rfl⟩:=G.new2_ex _ hn1 hn2;clear hn1 hn2;(try clear g);revert g1;intro g))
 all_goals go_wp2_with (with_reducible refine yq _ ?_;(try generalize (G.w _).heap.size=bk);(try dsimp only[yi,yj]);(try clear g);intro g)
 all_goals refine bodyPost_ret (v:=.tuple #[.agg #[.bool rs,.slice Z1 (limbs rn').length z1,.slice Z2 (limbs rd').length z2],.int .i64 re]) (by simp[results,Tryz.results77,go_sem]) rfl ?_
 all_goals exact⟨Z1,z1,R1,Z2,z2,R2,rfl,hz1,hz2,G.pass _ (by simp) ho1,G.pass _ (by simp) ho2⟩
set_option maxRecDepth 20000 in
set_option maxHeartbeats 4000000 in
theorem sub1_any (b cap:Nat)(s1 s2:Bool)(A1 B1 A2 B2:Option Addr)(c1 k1 c2 k2 n1 d1 n2 d2:Nat)(w:World)(f1:FrAt w b 0 s1 A1 (limbs n1).length c1 B1 (limbs d1).length k1)(f2:FrAt w b 3 s2 A2 (limbs n2).length c2 B2 (limbs d2).length k2)(hcap:2≤cap)(h1:SlW w A1 c1 (limbs n1))(j1:SlW w B1 k1 (limbs d1))(h2:SlW w A2 c2 (limbs n2))(j2:SlW w B2 k2 (limbs d2))(hT:Tab w)
  (l1:(limbs n1).length≤10000000) (m1:(limbs d1).length≤10000000) (l2:(limbs n2).length≤10000000) (m2:(limbs d2).length≤10000000) (z1:d1≠0) (z2:d2≠0):
  Calls Tryz.prog 170 #[.slice (some ⟨b,0,none⟩) 2 cap] w (RPE (outX (frac s1 n1 d1-frac s2 n2 d2)) w):=by
 refine calls_b fun g=>?_
 rw[Rat.sub_eq_add_neg,←frac_minus s2 n2 d2]
 have C0:=Lib.hid (fun w=>minus_any s2 A2 B2 c2 k2 (limbs n2).length (limbs d2).length w)
 generalize (!s2&&decide (0<(limbs n2).length))=t2 at*
 have C1:=Lib.hid (fun w a b c d t=>fplus_any s1 t2 A1 B1 A2 B2 c1 k1 c2 k2 n1 d1 n2 d2 w a b c d t l1 m1 l2 m2 z1 z2)
 have HT:=Lib.hid hT
 have E0:=Lib.hid f1.c0
 have E1:=Lib.hid f1.c1
 have E2:=Lib.hid f1.c2
 have E3:=Lib.hid f2.c0
 have E4:=Lib.hid f2.c1
 have E5:=Lib.hid f2.c2
 clear hT f1 f2 z1 z2
 generalize (limbs n1).length=ln1 at*
 generalize (limbs d1).length=ld1 at*
 generalize (limbs n2).length=ln2 at*
 generalize (limbs d2).length=ld2 at*
 generalize frac s1 n1 d1+frac t2 n2 d2=x at*
 have CR:=Lib.hid (fun A B c k w h1 h2=>result_any (rneg x) A B c k (rn x) x.den w h1 h2)
 unfold outX
 generalize outP (rneg x) (rn x) x.den=r at*
 obtain⟨rs,rn',rd',re⟩:=r
 unfold RPE at CR ⊢
 dsimp only at CR ⊢
 have hcap2:(2:Int)≤(cap:Int):=by omega

 go_enter Tryz.func170,Tryz.ntmps170
 go_wp2_with (with_reducible refine yq _ ?_;(try generalize (G.w _).heap.size=bk);(try dsimp only[yi,yj]);(try clear g);intro g)
 go_region_held3 (fun w'=>w'.cell? ⟨b,0,none⟩=some (.bool s1)∧w'.cell? ⟨b,1,none⟩=some (.slice A1 ln1 c1)∧w'.cell? ⟨b,2,none⟩=some (.slice B1 ld1 k1)∧w'.cell? ⟨b,3,none⟩=some (.bool s2)∧w'.cell? ⟨b,4,none⟩=some (.slice A2 ln2 c2)∧w'.cell? ⟨b,5,none⟩=some (.slice B2 ld2 k2)) (((try simp only[G.drew_eq,G.drewN_eq]);exact⟨G.old _ (by simp) E0.out,G.old _ (by simp) E1.out,G.old _ (by simp) E2.out,G.old _ (by simp) E3.out,G.old _ (by simp) E4.out,G.old _ (by simp) E5.out⟩)) (first
  |(go_at_call 160;(with_reducible refine(C0.out _).mono ?_);rintro e w1 ⟨rfl,hb⟩;obtain⟨g1,rfl⟩:=G.call_ex _ hb;clear hb;(try clear g);revert g1;intro g)
  |(go_at_call 130;(with_reducible refine(C1.out _ ?_ ?_ ?_ ?_ ?_).mono ?_);(· exact G.sl _ (by simp) h1);(· exact G.sl _ (by simp) j1);(· exact G.sl _ (by simp) h2);(· exact G.sl _ (by simp) j2);(· exact G.tab _ HT.out);rintro e w1 ⟨Y1,y1,Q1,Y2,y2,Q2,rfl,hy1,hy2,hn1,hn2⟩;obtain⟨g1,rfl⟩:=G.new2_ex _ hn1 hn2;clear hn1 hn2;(try clear g);revert g1;intro g)
  |(go_at_call 79;(with_reducible refine(CR.out _ _ _ _ _ ?_ ?_).mono ?_);(· exact G.sl _ (by simp) hy1);(· exact G.sl _ (by simp) hy2);rintro e w1 ⟨Z1,z1,R1,Z2,z2,R2,rfl,hz1,hz2,hn1,hn2⟩;have ho1:=fun k o hk=>Nat.le_trans (G.chg _).size (hn1.new k o hk);have ho2:=fun k o hk=>Nat.le_trans (G.chg _).size (hn2.new k o hk);obtain⟨g1,rfl⟩:=G.new2_ex _ hn1 hn2;clear hn1 hn2;(try clear g);revert g1;intro g))
 all_goals go_wp2_with (with_reducible refine yq _ ?_;(try generalize (G.w _).heap.size=bk);(try dsimp only[yi,yj]);(try clear g);intro g)
 all_goals refine bodyPost_ret (v:=.tuple #[.agg #[.bool rs,.slice Z1 (limbs rn').length z1,.slice Z2 (limbs rd').length z2],.int .i64 re]) (by simp[results,Tryz.results170,go_sem]) rfl ?_
 all_goals exact⟨Z1,z1,R1,Z2,z2,R2,rfl,hz1,hz2,G.pass _ (by simp) ho1,G.pass _ (by simp) ho2⟩
set_option maxRecDepth 20000 in
set_option maxHeartbeats 4000000 in
theorem div1_any (b cap:Nat)(s1 s2:Bool)(A1 B1 A2 B2:Option Addr)(c1 k1 c2 k2 n1 d1 n2 d2:Nat)(w:World)(f1:FrAt w b 0 s1 A1 (limbs n1).length c1 B1 (limbs d1).length k1)(f2:FrAt w b 3 s2 A2 (limbs n2).length c2 B2 (limbs d2).length k2)(hcap:2≤cap)(h1:SlW w A1 c1 (limbs n1))(j1:SlW w B1 k1 (limbs d1))(h2:SlW w A2 c2 (limbs n2))(j2:SlW w B2 k2 (limbs d2))(hT:Tab w)
  (l1:(limbs n1).length≤10000000) (m1:(limbs d1).length≤10000000) (l2:(limbs n2).length≤10000000) (m2:(limbs d2).length≤10000000) (z1:d1≠0) (z2:d2≠0) (y2:n2≠0):
  Calls Tryz.prog 171 #[.slice (some ⟨b,0,none⟩) 2 cap] w (RPE (outX (frac s1 n1 d1/frac s2 n2 d2)) w):=by
 refine calls_b fun g=>?_
 rw[Rat.div_def,frac_inv s2 y2]
 have C0:=Lib.hid (fun w=>inverse_any s2 A2 B2 c2 k2 (limbs n2).length (limbs d2).length w)
 have C1:=Lib.hid (fun w a b c d t=>ftimes_any s1 s2 A1 B1 B2 A2 c1 k1 k2 c2 n1 d1 d2 n2 w a b c d t l1 m1 m2 l2 z1 y2)
 have hn0:(((limbs n2).length:Int)==0)=false:=(limbs_ne y2).1
 clear y2
 have HT:=Lib.hid hT
 have E0:=Lib.hid f1.c0
 have E1:=Lib.hid f1.c1
 have E2:=Lib.hid f1.c2
 have E3:=Lib.hid f2.c0
 have E4:=Lib.hid f2.c1
 have E5:=Lib.hid f2.c2
 clear hT f1 f2 z1 z2
 generalize (limbs n1).length=ln1 at*
 generalize (limbs d1).length=ld1 at*
 generalize (limbs n2).length=ln2 at*
 generalize (limbs d2).length=ld2 at*
 generalize frac s1 n1 d1*frac s2 d2 n2=x at*
 have CR:=Lib.hid (fun A B c k w h1 h2=>result_any (rneg x) A B c k (rn x) x.den w h1 h2)
 unfold outX
 generalize outP (rneg x) (rn x) x.den=r at*
 obtain⟨rs,rn',rd',re⟩:=r
 unfold RPE at CR ⊢
 dsimp only at CR ⊢
 have hcap2:(2:Int)≤(cap:Int):=by omega

 go_enter Tryz.func171,Tryz.ntmps171
 have E4g:=fun(M:List Blk) (g:G w [] M [heapOf w])=>G.old g (List.mem_cons_self ..) E4.out
 go_wp2_with (with_reducible refine yq _ ?_;(try generalize (G.w _).heap.size=bk);(try dsimp only[yi,yj]);(try clear g);intro g)
 clear E4g
 go_region_held3 (fun w'=>w'.cell? ⟨b,0,none⟩=some (.bool s1)∧w'.cell? ⟨b,1,none⟩=some (.slice A1 ln1 c1)∧w'.cell? ⟨b,2,none⟩=some (.slice B1 ld1 k1)∧w'.cell? ⟨b,3,none⟩=some (.bool s2)∧w'.cell? ⟨b,4,none⟩=some (.slice A2 ln2 c2)∧w'.cell? ⟨b,5,none⟩=some (.slice B2 ld2 k2)) (((try simp only[G.drew_eq,G.drewN_eq]);exact⟨G.old _ (by simp) E0.out,G.old _ (by simp) E1.out,G.old _ (by simp) E2.out,G.old _ (by simp) E3.out,G.old _ (by simp) E4.out,G.old _ (by simp) E5.out⟩)) (first
  |(go_at_call 172;(with_reducible refine(C0.out _).mono ?_);rintro e w1 ⟨rfl,hb⟩;obtain⟨g1,rfl⟩:=G.call_ex _ hb;clear hb;(try clear g);revert g1;intro g)
  |(go_at_call 78;(with_reducible refine(C1.out _ ?_ ?_ ?_ ?_ ?_).mono ?_);(· exact G.sl _ (by simp) h1);(· exact G.sl _ (by simp) j1);(· exact G.sl _ (by simp) j2);(· exact G.sl _ (by simp) h2);(· exact G.tab _ HT.out);rintro e w1 ⟨Y1,y1,Q1,Y2,y2,Q2,rfl,hy1,hy2,hn1,hn2⟩;obtain⟨g1,rfl⟩:=G.new2_ex _ hn1 hn2;clear hn1 hn2;(try clear g);revert g1;intro g)
  |(go_at_call 79;(with_reducible refine(CR.out _ _ _ _ _ ?_ ?_).mono ?_);(· exact G.sl _ (by simp) hy1);(· exact G.sl _ (by simp) hy2);rintro e w1 ⟨Z1,z1,R1,Z2,z2,R2,rfl,hz1,hz2,hn1,hn2⟩;have ho1:=fun k o hk=>Nat.le_trans (G.chg _).size (hn1.new k o hk);have ho2:=fun k o hk=>Nat.le_trans (G.chg _).size (hn2.new k o hk);obtain⟨g1,rfl⟩:=G.new2_ex _ hn1 hn2;clear hn1 hn2;(try clear g);revert g1;intro g))
 all_goals go_wp2_with (with_reducible refine yq _ ?_;(try generalize (G.w _).heap.size=bk);(try dsimp only[yi,yj]);(try clear g);intro g)
 all_goals refine bodyPost_ret (v:=.tuple #[.agg #[.bool rs,.slice Z1 (limbs rn').length z1,.slice Z2 (limbs rd').length z2],.int .i64 re]) (by simp[results,Tryz.results171,go_sem]) rfl ?_
 all_goals exact⟨Z1,z1,R1,Z2,z2,R2,rfl,hz1,hz2,G.pass _ (by simp) ho1,G.pass _ (by simp) ho2⟩
/-- a half more, for a fraction that is not negative -/
def hf (n d:Nat):Rat:=frac false n d+frac false 1 2
set_option maxRecDepth 20000 in
set_option maxHeartbeats 4000000 in
theorem neg1_any (b cap:Nat)(s:Bool)(A B:Option Addr)(c k n d:Nat)(w:World)(f1:FrAt w b 0 s A (limbs n).length c B (limbs d).length k)(hcap:1≤cap)(h1:SlW w A c (limbs n))(j1:SlW w B k (limbs d))(hT:Tab w)(l1:(limbs n).length≤10000000)(m1:(limbs d).length≤10000000)(z1:d≠0):
  Calls Tryz.prog 159 #[.slice (some ⟨b,0,none⟩) 1 cap] w (RPE (outP (!s&&decide (0<(limbs n).length)) n d) w):=by
 refine calls_b fun g=>?_
 have C0:=Lib.hid (fun w=>minus_any s A B c k (limbs n).length (limbs d).length w)
 have CR:=Lib.hid (fun A B c k w h1 h2=>result_any (!s&&decide (0<(limbs n).length)) A B c k n d w h1 h2)
 generalize (!s&&decide (0<(limbs n).length))=t at*
 have HT:=Lib.hid hT
 have E0:=fun(M:List Blk) (g:G w [] M [heapOf w])=>G.old g (List.mem_cons_self ..) f1.c0
 have E1:=fun(M:List Blk) (g:G w [] M [heapOf w])=>G.old g (List.mem_cons_self ..) f1.c1
 have E2:=fun(M:List Blk) (g:G w [] M [heapOf w])=>G.old g (List.mem_cons_self ..) f1.c2
 have H1:=Lib.hid h1
 have J1:=Lib.hid j1
 clear hT f1 z1 h1 j1
 generalize (limbs n).length=ln at*
 generalize (limbs d).length=ld at*
 generalize outP t n d=r at*
 obtain⟨rs,rn',rd',re⟩:=r
 unfold RPE at CR ⊢
 dsimp only at CR ⊢
 have hcap2:(1:Int)≤(cap:Int):=by omega
 go_enter Tryz.func159,Tryz.ntmps159
 go_wp2_with (with_reducible refine yq _ ?_;(try generalize (G.w _).heap.size=bk);(try dsimp only[yi,yj]);(try clear g);intro g)
 clear E0 E1 E2
 (try(refine cmark _ ?_;(try dsimp only[yi,yj]);(try clear g);intro g))
 refine(C0.out _).mono ?_
 rintro e w1 ⟨rfl,hb⟩
 obtain⟨g1,rfl⟩:=G.call_ex _ hb
 clear hb
 (try clear g)
 revert g1
 intro g
 go_wp2_with (with_reducible refine yq _ ?_;(try generalize (G.w _).heap.size=bk);(try dsimp only[yi,yj]);(try clear g);intro g)
 refine(CR.out _ _ _ _ _ (G.sl g (by simp) H1.out) (G.sl g (by simp) J1.out)).mono ?_
 rintro e w1 ⟨Z1,z1,R1,Z2,z2,R2,rfl,hz1,hz2,hn1,hn2⟩
 have ho1:=fun k o hk=>Nat.le_trans (G.chg _).size (hn1.new k o hk)
 have ho2:=fun k o hk=>Nat.le_trans (G.chg _).size (hn2.new k o hk)
 obtain⟨g1,rfl⟩:=G.new2_ex _ hn1 hn2
 clear hn1 hn2
 (try clear g)
 revert g1
 intro g
 go_wp2_with (with_reducible refine yq _ ?_;(try generalize (G.w _).heap.size=bk);(try dsimp only[yi,yj]);(try clear g);intro g)
 refine bodyPost_ret (v:=.tuple #[.agg #[.bool rs,.slice Z1 (limbs rn').length z1,.slice Z2 (limbs rd').length z2],.int .i64 re]) (by simp[results,Tryz.results159,go_sem]) rfl ?_
 exact⟨Z1,z1,R1,Z2,z2,R2,rfl,hz1,hz2,G.pass _ (by simp) ho1,G.pass _ (by simp) ho2⟩
theorem infoFr:(Tryz.prog.info? 107).map (fun i=>(i.zero,i.size,i.bytes))=some (some (.agg #[.bool false,.slice none 0 0,.slice none 0 0]),3,56):=by kernel_rfl
/-- from cell o on a number lies in block b: its parts -/
structure PtAt (w:World)(b o:Nat)(s:Bool)(A:Option Addr)(n c:Nat)(B:Option Addr)(d k:Nat):Prop where
 c0:w.cell? ⟨b,o,none⟩=some (.bool s)
 c1:w.cell? ⟨b,o+1,none⟩=some (.slice A n c)
 c2:w.cell? ⟨b,o+2,none⟩=some (.slice B d k)
theorem pts_one (s:Bool)(A:Option Addr)(n c:Nat)(B:Option Addr)(d k:Nat):∀u∈ [Value.bool s,.slice A n c,.slice B d k],u.oneCell'=true:=by
 intro u hu
 simp only[List.mem_cons,List.not_mem_nil,or_false] at hu
 rcases hu with rfl|rfl|rfl<;>rfl
theorem row_at {w0:World}{X:List Nat}{M:List Blk}{I:List Frag}(g:G w0 X M I){b n cap:Nat}{T:TypeId}{cs xs:List Value}(hm:(b,T,cs)∈M)(h:Row T 3 n xs cap cs){j:Nat}{v:Value}(hv:xs[j]?=some v):g.w.cell? ⟨b,j,none⟩=some v:=by
 have hl:=(List.getElem?_eq_some_iff.1 hv).1
 have hx:=h.xl
 have:=g.own _ hm
 simp only at this
 simp only[World.cell?,this]
 rw[←h.take,List.getElem?_take_of_lt (by omega)] at hv
 simpa using hv
set_option maxRecDepth 20000 in
set_option maxHeartbeats 4000000 in
theorem with_neg (lb:Nat)(r:Bool×Nat×Nat×Int)(s1:Bool)(A1 B1:Option Addr)(c1 k1:Nat)(l1 m1:List Nat)(w:World)(p1:PtAt w lb 0 s1 A1 l1.length c1 B1 m1.length k1)(h1:SlW w A1 c1 l1)(j1:SlW w B1 k1 m1)(hT:Tab w)
  (hf:rchk s1 l1 m1=0→∀(w':World) (bF capF:Nat),1≤capF→FrAt w' bF 0 s1 A1 l1.length c1 B1 m1.length k1→SlW w' A1 c1 l1→SlW w' B1 k1 m1→Tab w'→Calls Tryz.prog 159 #[.slice (some ⟨bF,0,none⟩) 1 capF] w' (RPE r w')):
  Calls Tryz.prog 76 #[.func (.func 159) #[] #[],.slice (some ⟨lb,0,none⟩) 1 1] w (RPE (if rchk s1 l1 m1≠0 then(false,0,0,rchk s1 l1 m1) else r) w):=by
 refine calls_b fun g=>?_
 have CK1:=Lib.hid (fun w a b t=>rcheck s1 A1 B1 c1 k1 l1 m1 w a b t)
 have CO1:=Lib.hid (fun w=>of_any s1 A1 B1 c1 k1 l1.length m1.length w)
 have E10:=fun(M:List Blk) (g:G w [] M [heapOf w])=>G.old g (List.mem_cons_self ..) p1.c0
 have E11:=fun(M:List Blk) (g:G w [] M [heapOf w])=>G.old g (List.mem_cons_self ..) p1.c1
 have E12:=fun(M:List Blk) (g:G w [] M [heapOf w])=>G.old g (List.mem_cons_self ..) p1.c2
 have H1:=Lib.hid h1
 have J1:=Lib.hid j1
 obtain⟨e1,he1⟩:∃e,rchk s1 l1 m1=e:=⟨_,rfl⟩
 rw[he1] at CK1 hf ⊢
 clear p1 h1 j1 he1
 have HF:=Lib.hid hf
 have HT:=Lib.hid hT
 obtain⟨RR,hRR⟩:∃RR,(if e1≠0 then(false,0,0,e1) else r)=RR:=⟨_,rfl⟩
 rw[hRR]
 have HRR:=Lib.hid hRR
 clear hf hT hRR
 generalize l1.length=n1 at*
 generalize m1.length=d1 at*
 obtain⟨i0,hi,hz0,hz1,hz2⟩:=info_parts infoFr
 have HP1:=pts_one s1 A1 n1 c1 B1 d1 k1
 go_enter Tryz.func76,Tryz.ntmps76
 go_wp2_with (with_reducible refine yq _ ?_;(try generalize (G.w _).heap.size=bk);(try dsimp only[yi,yj]);(try clear g);intro g)
 obtain⟨rb,rfl⟩:∃rb,rb=bk:=⟨_,rfl⟩
 go_loopg [6,12] 1 (fun gk s6 s12 wr=>(gk=1∧s12=.int .i64 0∧s6=.slice none 0 0∧∃g:G w [] [(rb,43,[.bool false,.slice none 0 0,.slice none 0 0])] [heapOf w],wr=g.w)∨(gk=0∧s12=.int .i64 1∧e1=0∧∃b cap cs,s6=.slice (some ⟨b,0,none⟩) 1 cap∧Row 107 3 1 ([Value.bool s1,.slice A1 n1 c1,.slice B1 d1 k1]) cap cs∧w.heap.size≤b∧∃g:G w [] [(b,107,cs),(rb,43,[.bool false,.slice none 0 0,.slice none 0 0])] [heapOf w],wr=g.w))
 case atStart=>exact .inl ⟨rfl,rfl,rfl,g,rfl⟩
 case round=>
  clear g
  rcases hrel with⟨rfl,rfl,rfl,g,rfl⟩|⟨rfl,rfl,rfl,b,cap,cs,rfl,hrow,hbw,g,rfl⟩
  ·go_wp2_with (with_reducible refine yq _ ?_;(try generalize (G.w _).heap.size=bk);(try dsimp only[yi,yj]);(try clear g);intro g)
   (try(refine cmark _ ?_;(try dsimp only[yi,yj]);(try clear g);intro g))
   refine(CK1.out _ (G.sl g (by simp) H1.out) (G.sl g (by simp) J1.out) (G.tab g HT.out)).mono ?_
   rintro e w1 ⟨rfl,hb⟩
   obtain⟨g1,rfl⟩:=G.call_ex _ hb
   clear hb
   (try clear g)
   revert g1
   intro g
   by_cases hez:e1=0
   ·subst hez
    go_wp2_with (with_reducible refine yq _ ?_;(try generalize (G.w _).heap.size=bk);(try dsimp only[yi,yj]);(try clear g);intro g)
    refine(CO1.out _).mono ?_
    rintro e w1 ⟨rfl,hb⟩
    obtain⟨g1,rfl⟩:=G.call_ex _ hb
    clear hb
    (try clear g)
    revert g1
    intro g
    obtain⟨g2,hg2⟩:=G.less g (M':=[(rb,43,[.bool false,.slice none 0 0,.slice none 0 0])]) (by simp)
    rw[hg2]
    clear hg2 g
    revert g2
    intro g
    go_wp2_with (first|(with_reducible refine yq _ ?_;(try generalize (G.w _).heap.size=bk);(try dsimp only[yi,yj]);(try clear g);intro g)|(at_builtin;refine wpList_append_lit0 rfl _ _ 102 rfl 107 i0 _ 3 56 Tryz.underlying102 hi hz0 hz1 hz2 rfl (by decide) g rfl 1 rfl rfl HP1 (by decide) (by decide) (by decide) ?_;clear g;intro b cap cs g hb hrow))
    obtain⟨g2,hg2⟩:=G.less g (M':=[(b,107,cs),(rb,43,[.bool false,.slice none 0 0,.slice none 0 0])]) (by simp)
    go_roundg 0
    case measure=>omega
    case rel=>exact .inr (⟨by simp,by simp,by simp,b,cap,cs,rfl,hrow,hb,g2,hg2⟩)
   ·have hne:((e1:Int)==0)=false:=by rw[beq_eq_false_iff_ne];exact hez
    have hne2:((e1:Int) !=0)=true:=by rw[bne,hne];rfl
    have HEZ:=Lib.hid hez
    clear hez
    go_wp2_with (with_reducible refine yq _ ?_;(try generalize (G.w _).heap.size=bk);(try dsimp only[yi,yj]);(try clear g);intro g)
    refine bodyPost_ret (v:=.tuple #[.agg #[.bool false,.slice none 0 0,.slice none 0 0],.int .i64 e1]) (by simp[results,Tryz.results76,go_sem]) rfl ?_
    rw[←HRR.out,if_pos HEZ.out]
    exact rpe_err _ _
  ·go_wp2_with (with_reducible refine yq _ ?_;(try generalize (G.w _).heap.size=bk);(try dsimp only[yi,yj]);(try clear g);intro g)
   refine(HF.out (by simp) _ b cap hrow.le ⟨row_at g (List.mem_cons_self ..) hrow (j:=0) rfl,row_at g (List.mem_cons_self ..) hrow (j:=1) rfl,row_at g (List.mem_cons_self ..) hrow (j:=2) rfl⟩ (G.sl g (by simp) H1.out) (G.sl g (by simp) J1.out) (G.tab g HT.out)).mono ?_
   rintro e w1 ⟨Z1,z1,R1,Z2,z2,R2,rfl,hz1,hz2,hn1,hn2⟩
   have ho1:=fun k o hk=>Nat.le_trans (G.chg _).size (hn1.new k o hk)
   have ho2:=fun k o hk=>Nat.le_trans (G.chg _).size (hn2.new k o hk)
   obtain⟨g1,rfl⟩:=G.new2_ex _ hn1 hn2
   clear hn1 hn2
   (try clear g)
   revert g1
   intro g
   go_wp2_with (with_reducible refine yq _ ?_;(try generalize (G.w _).heap.size=bk);(try dsimp only[yi,yj]);(try clear g);intro g)
   refine bodyPost_ret (v:=.tuple #[.agg #[.bool r.1,.slice Z1 (limbs r.2.1).length z1,.slice Z2 (limbs r.2.2.1).length z2],.int .i64 r.2.2.2]) (by simp[results,Tryz.results76,go_sem]) rfl ?_
   rw[←HRR.out,if_neg (by decide)]
   exact⟨Z1,z1,R1,Z2,z2,R2,rfl,hz1,hz2,G.pass _ (by simp) ho1,G.pass _ (by simp) ho2⟩
set_option maxRecDepth 20000 in
set_option maxHeartbeats 4000000 in
theorem with_add (lb:Nat)(r:Bool×Nat×Nat×Int)(s1:Bool)(A1 B1:Option Addr)(c1 k1:Nat)(l1 m1:List Nat)(s2:Bool)(A2 B2:Option Addr)(c2 k2:Nat)(l2 m2:List Nat)(w:World)(p1:PtAt w lb 0 s1 A1 l1.length c1 B1 m1.length k1)(h1:SlW w A1 c1 l1)(j1:SlW w B1 k1 m1)(p2:PtAt w lb 3 s2 A2 l2.length c2 B2 m2.length k2)(h2:SlW w A2 c2 l2)(j2:SlW w B2 k2 m2)(hT:Tab w)
  (hf:rchk s1 l1 m1=0→rchk s2 l2 m2=0→∀(w':World) (bF capF:Nat),2≤capF→FrAt w' bF 0 s1 A1 l1.length c1 B1 m1.length k1→FrAt w' bF 3 s2 A2 l2.length c2 B2 m2.length k2→SlW w' A1 c1 l1→SlW w' B1 k1 m1→SlW w' A2 c2 l2→SlW w' B2 k2 m2→Tab w'→Calls Tryz.prog 129 #[.slice (some ⟨bF,0,none⟩) 2 capF] w' (RPE r w')):
  Calls Tryz.prog 76 #[.func (.func 129) #[] #[],.slice (some ⟨lb,0,none⟩) 2 2] w (RPE (if rchk s1 l1 m1≠0 then(false,0,0,rchk s1 l1 m1) else if rchk s2 l2 m2≠0 then(false,0,0,rchk s2 l2 m2) else r) w):=by
 refine calls_b fun g=>?_
 have CK1:=Lib.hid (fun w a b t=>rcheck s1 A1 B1 c1 k1 l1 m1 w a b t)
 have CO1:=Lib.hid (fun w=>of_any s1 A1 B1 c1 k1 l1.length m1.length w)
 have E10:=fun(M:List Blk) (g:G w [] M [heapOf w])=>G.old g (List.mem_cons_self ..) p1.c0
 have E11:=fun(M:List Blk) (g:G w [] M [heapOf w])=>G.old g (List.mem_cons_self ..) p1.c1
 have E12:=fun(M:List Blk) (g:G w [] M [heapOf w])=>G.old g (List.mem_cons_self ..) p1.c2
 have H1:=Lib.hid h1
 have J1:=Lib.hid j1
 obtain⟨e1,he1⟩:∃e,rchk s1 l1 m1=e:=⟨_,rfl⟩
 rw[he1] at CK1 hf ⊢
 clear p1 h1 j1 he1
 have CK2:=Lib.hid (fun w a b t=>rcheck s2 A2 B2 c2 k2 l2 m2 w a b t)
 have CO2:=Lib.hid (fun w=>of_any s2 A2 B2 c2 k2 l2.length m2.length w)
 have E20:=fun(M:List Blk) (g:G w [] M [heapOf w])=>G.old g (List.mem_cons_self ..) p2.c0
 have E21:=fun(M:List Blk) (g:G w [] M [heapOf w])=>G.old g (List.mem_cons_self ..) p2.c1
 have E22:=fun(M:List Blk) (g:G w [] M [heapOf w])=>G.old g (List.mem_cons_self ..) p2.c2
 have H2:=Lib.hid h2
 have J2:=Lib.hid j2
 obtain⟨e2,he2⟩:∃e,rchk s2 l2 m2=e:=⟨_,rfl⟩
 rw[he2] at CK2 hf ⊢
 clear p2 h2 j2 he2
 have HF:=Lib.hid hf
 have HT:=Lib.hid hT
 obtain⟨RR,hRR⟩:∃RR,(if e1≠0 then(false,0,0,e1) else if e2≠0 then(false,0,0,e2) else r)=RR:=⟨_,rfl⟩
 rw[hRR]
 have HRR:=Lib.hid hRR
 clear hf hT hRR
 generalize l1.length=n1 at*
 generalize m1.length=d1 at*
 generalize l2.length=n2 at*
 generalize m2.length=d2 at*
 obtain⟨i0,hi,hz0,hz1,hz2⟩:=info_parts infoFr
 have HP1:=pts_one s1 A1 n1 c1 B1 d1 k1
 have HP2:=pts_one s2 A2 n2 c2 B2 d2 k2
 go_enter Tryz.func76,Tryz.ntmps76
 go_wp2_with (with_reducible refine yq _ ?_;(try generalize (G.w _).heap.size=bk);(try dsimp only[yi,yj]);(try clear g);intro g)
 obtain⟨rb,rfl⟩:∃rb,rb=bk:=⟨_,rfl⟩
 go_loopg [6,12] 2 (fun gk s6 s12 wr=>(gk=2∧s12=.int .i64 0∧s6=.slice none 0 0∧∃g:G w [] [(rb,43,[.bool false,.slice none 0 0,.slice none 0 0])] [heapOf w],wr=g.w)∨(gk=1∧s12=.int .i64 1∧e1=0∧∃b cap cs,s6=.slice (some ⟨b,0,none⟩) 1 cap∧Row 107 3 1 ([Value.bool s1,.slice A1 n1 c1,.slice B1 d1 k1]) cap cs∧w.heap.size≤b∧∃g:G w [] [(b,107,cs),(rb,43,[.bool false,.slice none 0 0,.slice none 0 0])] [heapOf w],wr=g.w)∨(gk=0∧s12=.int .i64 2∧e1=0∧e2=0∧∃b cap cs,s6=.slice (some ⟨b,0,none⟩) 2 cap∧Row 107 3 2 ([Value.bool s1,.slice A1 n1 c1,.slice B1 d1 k1]++[Value.bool s2,.slice A2 n2 c2,.slice B2 d2 k2]) cap cs∧w.heap.size≤b∧∃g:G w [] [(b,107,cs),(rb,43,[.bool false,.slice none 0 0,.slice none 0 0])] [heapOf w],wr=g.w))
 case atStart=>exact .inl ⟨rfl,rfl,rfl,g,rfl⟩
 case round=>
  clear g
  rcases hrel with⟨rfl,rfl,rfl,g,rfl⟩|⟨rfl,rfl,rfl,b,cap,cs,rfl,hrow,hbw,g,rfl⟩|⟨rfl,rfl,rfl,rfl,b,cap,cs,rfl,hrow,hbw,g,rfl⟩
  ·go_wp2_with (with_reducible refine yq _ ?_;(try generalize (G.w _).heap.size=bk);(try dsimp only[yi,yj]);(try clear g);intro g)
   (try(refine cmark _ ?_;(try dsimp only[yi,yj]);(try clear g);intro g))
   refine(CK1.out _ (G.sl g (by simp) H1.out) (G.sl g (by simp) J1.out) (G.tab g HT.out)).mono ?_
   rintro e w1 ⟨rfl,hb⟩
   obtain⟨g1,rfl⟩:=G.call_ex _ hb
   clear hb
   (try clear g)
   revert g1
   intro g
   by_cases hez:e1=0
   ·subst hez
    go_wp2_with (with_reducible refine yq _ ?_;(try generalize (G.w _).heap.size=bk);(try dsimp only[yi,yj]);(try clear g);intro g)
    refine(CO1.out _).mono ?_
    rintro e w1 ⟨rfl,hb⟩
    obtain⟨g1,rfl⟩:=G.call_ex _ hb
    clear hb
    (try clear g)
    revert g1
    intro g
    obtain⟨g2,hg2⟩:=G.less g (M':=[(rb,43,[.bool false,.slice none 0 0,.slice none 0 0])]) (by simp)
    rw[hg2]
    clear hg2 g
    revert g2
    intro g
    go_wp2_with (first|(with_reducible refine yq _ ?_;(try generalize (G.w _).heap.size=bk);(try dsimp only[yi,yj]);(try clear g);intro g)|(at_builtin;refine wpList_append_lit0 rfl _ _ 102 rfl 107 i0 _ 3 56 Tryz.underlying102 hi hz0 hz1 hz2 rfl (by decide) g rfl 1 rfl rfl HP1 (by decide) (by decide) (by decide) ?_;clear g;intro b cap cs g hb hrow))
    obtain⟨g2,hg2⟩:=G.less g (M':=[(b,107,cs),(rb,43,[.bool false,.slice none 0 0,.slice none 0 0])]) (by simp)
    go_roundg 1
    case measure=>omega
    case rel=>exact .inr (.inl ⟨by simp,by simp,by simp,b,cap,cs,rfl,hrow,hb,g2,hg2⟩)
   ·have hne:((e1:Int)==0)=false:=by rw[beq_eq_false_iff_ne];exact hez
    have hne2:((e1:Int) !=0)=true:=by rw[bne,hne];rfl
    have HEZ:=Lib.hid hez
    clear hez
    go_wp2_with (with_reducible refine yq _ ?_;(try generalize (G.w _).heap.size=bk);(try dsimp only[yi,yj]);(try clear g);intro g)
    refine bodyPost_ret (v:=.tuple #[.agg #[.bool false,.slice none 0 0,.slice none 0 0],.int .i64 e1]) (by simp[results,Tryz.results76,go_sem]) rfl ?_
    rw[←HRR.out,if_pos HEZ.out]
    exact rpe_err _ _
  ·go_wp2_with (with_reducible refine yq _ ?_;(try generalize (G.w _).heap.size=bk);(try dsimp only[yi,yj]);(try clear g);intro g)
   (try(refine cmark _ ?_;(try dsimp only[yi,yj]);(try clear g);intro g))
   refine(CK2.out _ (G.sl g (by simp) H2.out) (G.sl g (by simp) J2.out) (G.tab g HT.out)).mono ?_
   rintro e w1 ⟨rfl,hb⟩
   obtain⟨g1,rfl⟩:=G.call_ex _ hb
   clear hb
   (try clear g)
   revert g1
   intro g
   by_cases hez:e2=0
   ·subst hez
    go_wp2_with (with_reducible refine yq _ ?_;(try generalize (G.w _).heap.size=bk);(try dsimp only[yi,yj]);(try clear g);intro g)
    refine(CO2.out _).mono ?_
    rintro e w1 ⟨rfl,hb⟩
    obtain⟨g1,rfl⟩:=G.call_ex _ hb
    clear hb
    (try clear g)
    revert g1
    intro g
    obtain⟨g2,hg2⟩:=G.less g (M':=[(b,107,cs),(rb,43,[.bool false,.slice none 0 0,.slice none 0 0])]) (by simp)
    rw[hg2]
    clear hg2 g
    revert g2
    intro g
    go_wp2_with (first|(with_reducible refine yq _ ?_;(try generalize (G.w _).heap.size=bk);(try dsimp only[yi,yj]);(try clear g);intro g)|(at_builtin;refine wpList_append_lit rfl _ _ 102 rfl 107 i0 _ 3 56 Tryz.underlying102 hi hz0 hz1 hz2 rfl (by decide) g hrow hbw rfl 1 rfl rfl HP2 (by decide) (by decide) (by decide) ?_;clear hrow hbw g;intro b cap cs g hb hrow))
    obtain⟨g2,hg2⟩:=G.less g (M':=[(b,107,cs),(rb,43,[.bool false,.slice none 0 0,.slice none 0 0])]) (by simp)
    go_roundg 0
    case measure=>omega
    case rel=>exact .inr (.inr (⟨by simp,by simp,by simp,by simp,b,cap,cs,rfl,hrow,hb,g2,hg2⟩))
   ·have hne:((e2:Int)==0)=false:=by rw[beq_eq_false_iff_ne];exact hez
    have hne2:((e2:Int) !=0)=true:=by rw[bne,hne];rfl
    have HEZ:=Lib.hid hez
    clear hez
    go_wp2_with (with_reducible refine yq _ ?_;(try generalize (G.w _).heap.size=bk);(try dsimp only[yi,yj]);(try clear g);intro g)
    refine bodyPost_ret (v:=.tuple #[.agg #[.bool false,.slice none 0 0,.slice none 0 0],.int .i64 e2]) (by simp[results,Tryz.results76,go_sem]) rfl ?_
    rw[←HRR.out,if_neg (by decide),if_pos HEZ.out]
    exact rpe_err _ _
  ·go_wp2_with (with_reducible refine yq _ ?_;(try generalize (G.w _).heap.size=bk);(try dsimp only[yi,yj]);(try clear g);intro g)
   refine(HF.out (by simp) (by simp) _ b cap hrow.le ⟨row_at g (List.mem_cons_self ..) hrow (j:=0) rfl,row_at g (List.mem_cons_self ..) hrow (j:=1) rfl,row_at g (List.mem_cons_self ..) hrow (j:=2) rfl⟩ ⟨row_at g (List.mem_cons_self ..) hrow (j:=3) rfl,row_at g (List.mem_cons_self ..) hrow (j:=4) rfl,row_at g (List.mem_cons_self ..) hrow (j:=5) rfl⟩ (G.sl g (by simp) H1.out) (G.sl g (by simp) J1.out) (G.sl g (by simp) H2.out) (G.sl g (by simp) J2.out) (G.tab g HT.out)).mono ?_
   rintro e w1 ⟨Z1,z1,R1,Z2,z2,R2,rfl,hz1,hz2,hn1,hn2⟩
   have ho1:=fun k o hk=>Nat.le_trans (G.chg _).size (hn1.new k o hk)
   have ho2:=fun k o hk=>Nat.le_trans (G.chg _).size (hn2.new k o hk)
   obtain⟨g1,rfl⟩:=G.new2_ex _ hn1 hn2
   clear hn1 hn2
   (try clear g)
   revert g1
   intro g
   go_wp2_with (with_reducible refine yq _ ?_;(try generalize (G.w _).heap.size=bk);(try dsimp only[yi,yj]);(try clear g);intro g)
   refine bodyPost_ret (v:=.tuple #[.agg #[.bool r.1,.slice Z1 (limbs r.2.1).length z1,.slice Z2 (limbs r.2.2.1).length z2],.int .i64 r.2.2.2]) (by simp[results,Tryz.results76,go_sem]) rfl ?_
   rw[←HRR.out,if_neg (by decide),if_neg (by decide)]
   exact⟨Z1,z1,R1,Z2,z2,R2,rfl,hz1,hz2,G.pass _ (by simp) ho1,G.pass _ (by simp) ho2⟩
set_option maxRecDepth 20000 in
set_option maxHeartbeats 4000000 in
theorem with_sub (lb:Nat)(r:Bool×Nat×Nat×Int)(s1:Bool)(A1 B1:Option Addr)(c1 k1:Nat)(l1 m1:List Nat)(s2:Bool)(A2 B2:Option Addr)(c2 k2:Nat)(l2 m2:List Nat)(w:World)(p1:PtAt w lb 0 s1 A1 l1.length c1 B1 m1.length k1)(h1:SlW w A1 c1 l1)(j1:SlW w B1 k1 m1)(p2:PtAt w lb 3 s2 A2 l2.length c2 B2 m2.length k2)(h2:SlW w A2 c2 l2)(j2:SlW w B2 k2 m2)(hT:Tab w)
  (hf:rchk s1 l1 m1=0→rchk s2 l2 m2=0→∀(w':World) (bF capF:Nat),2≤capF→FrAt w' bF 0 s1 A1 l1.length c1 B1 m1.length k1→FrAt w' bF 3 s2 A2 l2.length c2 B2 m2.length k2→SlW w' A1 c1 l1→SlW w' B1 k1 m1→SlW w' A2 c2 l2→SlW w' B2 k2 m2→Tab w'→Calls Tryz.prog 170 #[.slice (some ⟨bF,0,none⟩) 2 capF] w' (RPE r w')):
  Calls Tryz.prog 76 #[.func (.func 170) #[] #[],.slice (some ⟨lb,0,none⟩) 2 2] w (RPE (if rchk s1 l1 m1≠0 then(false,0,0,rchk s1 l1 m1) else if rchk s2 l2 m2≠0 then(false,0,0,rchk s2 l2 m2) else r) w):=by
 refine calls_b fun g=>?_
 have CK1:=Lib.hid (fun w a b t=>rcheck s1 A1 B1 c1 k1 l1 m1 w a b t)
 have CO1:=Lib.hid (fun w=>of_any s1 A1 B1 c1 k1 l1.length m1.length w)
 have E10:=fun(M:List Blk) (g:G w [] M [heapOf w])=>G.old g (List.mem_cons_self ..) p1.c0
 have E11:=fun(M:List Blk) (g:G w [] M [heapOf w])=>G.old g (List.mem_cons_self ..) p1.c1
 have E12:=fun(M:List Blk) (g:G w [] M [heapOf w])=>G.old g (List.mem_cons_self ..) p1.c2
 have H1:=Lib.hid h1
 have J1:=Lib.hid j1
 obtain⟨e1,he1⟩:∃e,rchk s1 l1 m1=e:=⟨_,rfl⟩
 rw[he1] at CK1 hf ⊢
 clear p1 h1 j1 he1
 have CK2:=Lib.hid (fun w a b t=>rcheck s2 A2 B2 c2 k2 l2 m2 w a b t)
 have CO2:=Lib.hid (fun w=>of_any s2 A2 B2 c2 k2 l2.length m2.length w)
 have E20:=fun(M:List Blk) (g:G w [] M [heapOf w])=>G.old g (List.mem_cons_self ..) p2.c0
 have E21:=fun(M:List Blk) (g:G w [] M [heapOf w])=>G.old g (List.mem_cons_self ..) p2.c1
 have E22:=fun(M:List Blk) (g:G w [] M [heapOf w])=>G.old g (List.mem_cons_self ..) p2.c2
 have H2:=Lib.hid h2
 have J2:=Lib.hid j2
 obtain⟨e2,he2⟩:∃e,rchk s2 l2 m2=e:=⟨_,rfl⟩
 rw[he2] at CK2 hf ⊢
 clear p2 h2 j2 he2
 have HF:=Lib.hid hf
 have HT:=Lib.hid hT
 obtain⟨RR,hRR⟩:∃RR,(if e1≠0 then(false,0,0,e1) else if e2≠0 then(false,0,0,e2) else r)=RR:=⟨_,rfl⟩
 rw[hRR]
 have HRR:=Lib.hid hRR
 clear hf hT hRR
 generalize l1.length=n1 at*
 generalize m1.length=d1 at*
 generalize l2.length=n2 at*
 generalize m2.length=d2 at*
 obtain⟨i0,hi,hz0,hz1,hz2⟩:=info_parts infoFr
 have HP1:=pts_one s1 A1 n1 c1 B1 d1 k1
 have HP2:=pts_one s2 A2 n2 c2 B2 d2 k2
 go_enter Tryz.func76,Tryz.ntmps76
 go_wp2_with (with_reducible refine yq _ ?_;(try generalize (G.w _).heap.size=bk);(try dsimp only[yi,yj]);(try clear g);intro g)
 obtain⟨rb,rfl⟩:∃rb,rb=bk:=⟨_,rfl⟩
 go_loopg [6,12] 2 (fun gk s6 s12 wr=>(gk=2∧s12=.int .i64 0∧s6=.slice none 0 0∧∃g:G w [] [(rb,43,[.bool false,.slice none 0 0,.slice none 0 0])] [heapOf w],wr=g.w)∨(gk=1∧s12=.int .i64 1∧e1=0∧∃b cap cs,s6=.slice (some ⟨b,0,none⟩) 1 cap∧Row 107 3 1 ([Value.bool s1,.slice A1 n1 c1,.slice B1 d1 k1]) cap cs∧w.heap.size≤b∧∃g:G w [] [(b,107,cs),(rb,43,[.bool false,.slice none 0 0,.slice none 0 0])] [heapOf w],wr=g.w)∨(gk=0∧s12=.int .i64 2∧e1=0∧e2=0∧∃b cap cs,s6=.slice (some ⟨b,0,none⟩) 2 cap∧Row 107 3 2 ([Value.bool s1,.slice A1 n1 c1,.slice B1 d1 k1]++[Value.bool s2,.slice A2 n2 c2,.slice B2 d2 k2]) cap cs∧w.heap.size≤b∧∃g:G w [] [(b,107,cs),(rb,43,[.bool false,.slice none 0 0,.slice none 0 0])] [heapOf w],wr=g.w))
 case atStart=>exact .inl ⟨rfl,rfl,rfl,g,rfl⟩
 case round=>
  clear g
  rcases hrel with⟨rfl,rfl,rfl,g,rfl⟩|⟨rfl,rfl,rfl,b,cap,cs,rfl,hrow,hbw,g,rfl⟩|⟨rfl,rfl,rfl,rfl,b,cap,cs,rfl,hrow,hbw,g,rfl⟩
  ·go_wp2_with (with_reducible refine yq _ ?_;(try generalize (G.w _).heap.size=bk);(try dsimp only[yi,yj]);(try clear g);intro g)
   (try(refine cmark _ ?_;(try dsimp only[yi,yj]);(try clear g);intro g))
   refine(CK1.out _ (G.sl g (by simp) H1.out) (G.sl g (by simp) J1.out) (G.tab g HT.out)).mono ?_
   rintro e w1 ⟨rfl,hb⟩
   obtain⟨g1,rfl⟩:=G.call_ex _ hb
   clear hb
   (try clear g)
   revert g1
   intro g
   by_cases hez:e1=0
   ·subst hez
    go_wp2_with (with_reducible refine yq _ ?_;(try generalize (G.w _).heap.size=bk);(try dsimp only[yi,yj]);(try clear g);intro g)
    refine(CO1.out _).mono ?_
    rintro e w1 ⟨rfl,hb⟩
    obtain⟨g1,rfl⟩:=G.call_ex _ hb
    clear hb
    (try clear g)
    revert g1
    intro g
    obtain⟨g2,hg2⟩:=G.less g (M':=[(rb,43,[.bool false,.slice none 0 0,.slice none 0 0])]) (by simp)
    rw[hg2]
    clear hg2 g
    revert g2
    intro g
    go_wp2_with (first|(with_reducible refine yq _ ?_;(try generalize (G.w _).heap.size=bk);(try dsimp only[yi,yj]);(try clear g);intro g)|(at_builtin;refine wpList_append_lit0 rfl _ _ 102 rfl 107 i0 _ 3 56 Tryz.underlying102 hi hz0 hz1 hz2 rfl (by decide) g rfl 1 rfl rfl HP1 (by decide) (by decide) (by decide) ?_;clear g;intro b cap cs g hb hrow))
    obtain⟨g2,hg2⟩:=G.less g (M':=[(b,107,cs),(rb,43,[.bool false,.slice none 0 0,.slice none 0 0])]) (by simp)
    go_roundg 1
    case measure=>omega
    case rel=>exact .inr (.inl ⟨by simp,by simp,by simp,b,cap,cs,rfl,hrow,hb,g2,hg2⟩)
   ·have hne:((e1:Int)==0)=false:=by rw[beq_eq_false_iff_ne];exact hez
    have hne2:((e1:Int) !=0)=true:=by rw[bne,hne];rfl
    have HEZ:=Lib.hid hez
    clear hez
    go_wp2_with (with_reducible refine yq _ ?_;(try generalize (G.w _).heap.size=bk);(try dsimp only[yi,yj]);(try clear g);intro g)
    refine bodyPost_ret (v:=.tuple #[.agg #[.bool false,.slice none 0 0,.slice none 0 0],.int .i64 e1]) (by simp[results,Tryz.results76,go_sem]) rfl ?_
    rw[←HRR.out,if_pos HEZ.out]
    exact rpe_err _ _
  ·go_wp2_with (with_reducible refine yq _ ?_;(try generalize (G.w _).heap.size=bk);(try dsimp only[yi,yj]);(try clear g);intro g)
   (try(refine cmark _ ?_;(try dsimp only[yi,yj]);(try clear g);intro g))
   refine(CK2.out _ (G.sl g (by simp) H2.out) (G.sl g (by simp) J2.out) (G.tab g HT.out)).mono ?_
   rintro e w1 ⟨rfl,hb⟩
   obtain⟨g1,rfl⟩:=G.call_ex _ hb
   clear hb
   (try clear g)
   revert g1
   intro g
   by_cases hez:e2=0
   ·subst hez
    go_wp2_with (with_reducible refine yq _ ?_;(try generalize (G.w _).heap.size=bk);(try dsimp only[yi,yj]);(try clear g);intro g)
    refine(CO2.out _).mono ?_
    rintro e w1 ⟨rfl,hb⟩
    obtain⟨g1,rfl⟩:=G.call_ex _ hb
    clear hb
    (try clear g)
    revert g1
    intro g
    obtain⟨g2,hg2⟩:=G.less g (M':=[(b,107,cs),(rb,43,[.bool false,.slice none 0 0,.slice none 0 0])]) (by simp)
    rw[hg2]
    clear hg2 g
    revert g2
    intro g
    go_wp2_with (first|(with_reducible refine yq _ ?_;(try generalize (G.w _).heap.size=bk);(try dsimp only[yi,yj]);(try clear g);intro g)|(at_builtin;refine wpList_append_lit rfl _ _ 102 rfl 107 i0 _ 3 56 Tryz.underlying102 hi hz0 hz1 hz2 rfl (by decide) g hrow hbw rfl 1 rfl rfl HP2 (by decide) (by decide) (by decide) ?_;clear hrow hbw g;intro b cap cs g hb hrow))
    obtain⟨g2,hg2⟩:=G.less g (M':=[(b,107,cs),(rb,43,[.bool false,.slice none 0 0,.slice none 0 0])]) (by simp)
    go_roundg 0
    case measure=>omega
    case rel=>exact .inr (.inr (⟨by simp,by simp,by simp,by simp,b,cap,cs,rfl,hrow,hb,g2,hg2⟩))
   ·have hne:((e2:Int)==0)=false:=by rw[beq_eq_false_iff_ne];exact hez
    have hne2:((e2:Int) !=0)=true:=by rw[bne,hne];rfl
    have HEZ:=Lib.hid hez
    clear hez
    go_wp2_with (with_reducible refine yq _ ?_;(try generalize (G.w _).heap.size=bk);(try dsimp only[yi,yj]);(try clear g);intro g)
    refine bodyPost_ret (v:=.tuple #[.agg #[.bool false,.slice none 0 0,.slice none 0 0],.int .i64 e2]) (by simp[results,Tryz.results76,go_sem]) rfl ?_
    rw[←HRR.out,if_neg (by decide),if_pos HEZ.out]
    exact rpe_err _ _
  ·go_wp2_with (with_reducible refine yq _ ?_;(try generalize (G.w _).heap.size=bk);(try dsimp only[yi,yj]);(try clear g);intro g)
   refine(HF.out (by simp) (by simp) _ b cap hrow.le ⟨row_at g (List.mem_cons_self ..) hrow (j:=0) rfl,row_at g (List.mem_cons_self ..) hrow (j:=1) rfl,row_at g (List.mem_cons_self ..) hrow (j:=2) rfl⟩ ⟨row_at g (List.mem_cons_self ..) hrow (j:=3) rfl,row_at g (List.mem_cons_self ..) hrow (j:=4) rfl,row_at g (List.mem_cons_self ..) hrow (j:=5) rfl⟩ (G.sl g (by simp) H1.out) (G.sl g (by simp) J1.out) (G.sl g (by simp) H2.out) (G.sl g (by simp) J2.out) (G.tab g HT.out)).mono ?_
   rintro e w1 ⟨Z1,z1,R1,Z2,z2,R2,rfl,hz1,hz2,hn1,hn2⟩
   have ho1:=fun k o hk=>Nat.le_trans (G.chg _).size (hn1.new k o hk)
   have ho2:=fun k o hk=>Nat.le_trans (G.chg _).size (hn2.new k o hk)
   obtain⟨g1,rfl⟩:=G.new2_ex _ hn1 hn2
   clear hn1 hn2
   (try clear g)
   revert g1
   intro g
   go_wp2_with (with_reducible refine yq _ ?_;(try generalize (G.w _).heap.size=bk);(try dsimp only[yi,yj]);(try clear g);intro g)
   refine bodyPost_ret (v:=.tuple #[.agg #[.bool r.1,.slice Z1 (limbs r.2.1).length z1,.slice Z2 (limbs r.2.2.1).length z2],.int .i64 r.2.2.2]) (by simp[results,Tryz.results76,go_sem]) rfl ?_
   rw[←HRR.out,if_neg (by decide),if_neg (by decide)]
   exact⟨Z1,z1,R1,Z2,z2,R2,rfl,hz1,hz2,G.pass _ (by simp) ho1,G.pass _ (by simp) ho2⟩
set_option maxRecDepth 20000 in
set_option maxHeartbeats 4000000 in
theorem with_mul (lb:Nat)(r:Bool×Nat×Nat×Int)(s1:Bool)(A1 B1:Option Addr)(c1 k1:Nat)(l1 m1:List Nat)(s2:Bool)(A2 B2:Option Addr)(c2 k2:Nat)(l2 m2:List Nat)(w:World)(p1:PtAt w lb 0 s1 A1 l1.length c1 B1 m1.length k1)(h1:SlW w A1 c1 l1)(j1:SlW w B1 k1 m1)(p2:PtAt w lb 3 s2 A2 l2.length c2 B2 m2.length k2)(h2:SlW w A2 c2 l2)(j2:SlW w B2 k2 m2)(hT:Tab w)
  (hf:rchk s1 l1 m1=0→rchk s2 l2 m2=0→∀(w':World) (bF capF:Nat),2≤capF→FrAt w' bF 0 s1 A1 l1.length c1 B1 m1.length k1→FrAt w' bF 3 s2 A2 l2.length c2 B2 m2.length k2→SlW w' A1 c1 l1→SlW w' B1 k1 m1→SlW w' A2 c2 l2→SlW w' B2 k2 m2→Tab w'→Calls Tryz.prog 77 #[.slice (some ⟨bF,0,none⟩) 2 capF] w' (RPE r w')):
  Calls Tryz.prog 76 #[.func (.func 77) #[] #[],.slice (some ⟨lb,0,none⟩) 2 2] w (RPE (if rchk s1 l1 m1≠0 then(false,0,0,rchk s1 l1 m1) else if rchk s2 l2 m2≠0 then(false,0,0,rchk s2 l2 m2) else r) w):=by
 refine calls_b fun g=>?_
 have CK1:=Lib.hid (fun w a b t=>rcheck s1 A1 B1 c1 k1 l1 m1 w a b t)
 have CO1:=Lib.hid (fun w=>of_any s1 A1 B1 c1 k1 l1.length m1.length w)
 have E10:=fun(M:List Blk) (g:G w [] M [heapOf w])=>G.old g (List.mem_cons_self ..) p1.c0
 have E11:=fun(M:List Blk) (g:G w [] M [heapOf w])=>G.old g (List.mem_cons_self ..) p1.c1
 have E12:=fun(M:List Blk) (g:G w [] M [heapOf w])=>G.old g (List.mem_cons_self ..) p1.c2
 have H1:=Lib.hid h1
 have J1:=Lib.hid j1
 obtain⟨e1,he1⟩:∃e,rchk s1 l1 m1=e:=⟨_,rfl⟩
 rw[he1] at CK1 hf ⊢
 clear p1 h1 j1 he1
 have CK2:=Lib.hid (fun w a b t=>rcheck s2 A2 B2 c2 k2 l2 m2 w a b t)
 have CO2:=Lib.hid (fun w=>of_any s2 A2 B2 c2 k2 l2.length m2.length w)
 have E20:=fun(M:List Blk) (g:G w [] M [heapOf w])=>G.old g (List.mem_cons_self ..) p2.c0
 have E21:=fun(M:List Blk) (g:G w [] M [heapOf w])=>G.old g (List.mem_cons_self ..) p2.c1
 have E22:=fun(M:List Blk) (g:G w [] M [heapOf w])=>G.old g (List.mem_cons_self ..) p2.c2
 have H2:=Lib.hid h2
 have J2:=Lib.hid j2
 obtain⟨e2,he2⟩:∃e,rchk s2 l2 m2=e:=⟨_,rfl⟩
 rw[he2] at CK2 hf ⊢
 clear p2 h2 j2 he2
 have HF:=Lib.hid hf
 have HT:=Lib.hid hT
 obtain⟨RR,hRR⟩:∃RR,(if e1≠0 then(false,0,0,e1) else if e2≠0 then(false,0,0,e2) else r)=RR:=⟨_,rfl⟩
 rw[hRR]
 have HRR:=Lib.hid hRR
 clear hf hT hRR
 generalize l1.length=n1 at*
 generalize m1.length=d1 at*
 generalize l2.length=n2 at*
 generalize m2.length=d2 at*
 obtain⟨i0,hi,hz0,hz1,hz2⟩:=info_parts infoFr
 have HP1:=pts_one s1 A1 n1 c1 B1 d1 k1
 have HP2:=pts_one s2 A2 n2 c2 B2 d2 k2
 go_enter Tryz.func76,Tryz.ntmps76
 go_wp2_with (with_reducible refine yq _ ?_;(try generalize (G.w _).heap.size=bk);(try dsimp only[yi,yj]);(try clear g);intro g)
 obtain⟨rb,rfl⟩:∃rb,rb=bk:=⟨_,rfl⟩
 go_loopg [6,12] 2 (fun gk s6 s12 wr=>(gk=2∧s12=.int .i64 0∧s6=.slice none 0 0∧∃g:G w [] [(rb,43,[.bool false,.slice none 0 0,.slice none 0 0])] [heapOf w],wr=g.w)∨(gk=1∧s12=.int .i64 1∧e1=0∧∃b cap cs,s6=.slice (some ⟨b,0,none⟩) 1 cap∧Row 107 3 1 ([Value.bool s1,.slice A1 n1 c1,.slice B1 d1 k1]) cap cs∧w.heap.size≤b∧∃g:G w [] [(b,107,cs),(rb,43,[.bool false,.slice none 0 0,.slice none 0 0])] [heapOf w],wr=g.w)∨(gk=0∧s12=.int .i64 2∧e1=0∧e2=0∧∃b cap cs,s6=.slice (some ⟨b,0,none⟩) 2 cap∧Row 107 3 2 ([Value.bool s1,.slice A1 n1 c1,.slice B1 d1 k1]++[Value.bool s2,.slice A2 n2 c2,.slice B2 d2 k2]) cap cs∧w.heap.size≤b∧∃g:G w [] [(b,107,cs),(rb,43,[.bool false,.slice none 0 0,.slice none 0 0])] [heapOf w],wr=g.w))
 case atStart=>exact .inl ⟨rfl,rfl,rfl,g,rfl⟩
 case round=>
  clear g
  rcases hrel with⟨rfl,rfl,rfl,g,rfl⟩|⟨rfl,rfl,rfl,b,cap,cs,rfl,hrow,hbw,g,rfl⟩|⟨rfl,rfl,rfl,rfl,b,cap,cs,rfl,hrow,hbw,g,rfl⟩
  ·go_wp2_with (with_reducible refine yq _ ?_;(try generalize (G.w _).heap.size=bk);(try dsimp only[yi,yj]);(try clear g);intro g)
   (try(refine cmark _ ?_;(try dsimp only[yi,yj]);(try clear g);intro g))
   refine(CK1.out _ (G.sl g (by simp) H1.out) (G.sl g (by simp) J1.out) (G.tab g HT.out)).mono ?_
   rintro e w1 ⟨rfl,hb⟩
   obtain⟨g1,rfl⟩:=G.call_ex _ hb
   clear hb
   (try clear g)
   revert g1
   intro g
   by_cases hez:e1=0
   ·subst hez
    go_wp2_with (with_reducible refine yq _ ?_;(try generalize (G.w _).heap.size=bk);(try dsimp only[yi,yj]);(try clear g);intro g)
    refine(CO1.out _).mono ?_
    rintro e w1 ⟨rfl,hb⟩
    obtain⟨g1,rfl⟩:=G.call_ex _ hb
    clear hb
    (try clear g)
    revert g1
    intro g
    obtain⟨g2,hg2⟩:=G.less g (M':=[(rb,43,[.bool false,.slice none 0 0,.slice none 0 0])]) (by simp)
    rw[hg2]
    clear hg2 g
    revert g2
    intro g
    go_wp2_with (first|(with_reducible refine yq _ ?_;(try generalize (G.w _).heap.size=bk);(try dsimp only[yi,yj]);(try clear g);intro g)|(at_builtin;refine wpList_append_lit0 rfl _ _ 102 rfl 107 i0 _ 3 56 Tryz.underlying102 hi hz0 hz1 hz2 rfl (by decide) g rfl 1 rfl rfl HP1 (by decide) (by decide) (by decide) ?_;clear g;intro b cap cs g hb hrow))
    obtain⟨g2,hg2⟩:=G.less g (M':=[(b,107,cs),(rb,43,[.bool false,.slice none 0 0,.slice none 0 0])]) (by simp)
    go_roundg 1
    case measure=>omega
    case rel=>exact .inr (.inl ⟨by simp,by simp,by simp,b,cap,cs,rfl,hrow,hb,g2,hg2⟩)
   ·have hne:((e1:Int)==0)=false:=by rw[beq_eq_false_iff_ne];exact hez
    have hne2:((e1:Int) !=0)=true:=by rw[bne,hne];rfl
    have HEZ:=Lib.hid hez
    clear hez
    go_wp2_with (with_reducible refine yq _ ?_;(try generalize (G.w _).heap.size=bk);(try dsimp only[yi,yj]);(try clear g);intro g)
    refine bodyPost_ret (v:=.tuple #[.agg #[.bool false,.slice none 0 0,.slice none 0 0],.int .i64 e1]) (by simp[results,Tryz.results76,go_sem]) rfl ?_
    rw[←HRR.out,if_pos HEZ.out]
    exact rpe_err _ _
  ·go_wp2_with (with_reducible refine yq _ ?_;(try generalize (G.w _).heap.size=bk);(try dsimp only[yi,yj]);(try clear g);intro g)
   (try(refine cmark _ ?_;(try dsimp only[yi,yj]);(try clear g);intro g))
   refine(CK2.out _ (G.sl g (by simp) H2.out) (G.sl g (by simp) J2.out) (G.tab g HT.out)).mono ?_
   rintro e w1 ⟨rfl,hb⟩
   obtain⟨g1,rfl⟩:=G.call_ex _ hb
   clear hb
   (try clear g)
   revert g1
   intro g
   by_cases hez:e2=0
   ·subst hez
    go_wp2_with (with_reducible refine yq _ ?_;(try generalize (G.w _).heap.size=bk);(try dsimp only[yi,yj]);(try clear g);intro g)
    refine(CO2.out _).mono ?_
    rintro e w1 ⟨rfl,hb⟩
    obtain⟨g1,rfl⟩:=G.call_ex _ hb
    clear hb
    (try clear g)
    revert g1
    intro g
    obtain⟨g2,hg2⟩:=G.less g (M':=[(b,107,cs),(rb,43,[.bool false,.slice none 0 0,.slice none 0 0])]) (by simp)
    rw[hg2]
    clear hg2 g
    revert g2
    intro g
    go_wp2_with (first|(with_reducible refine yq _ ?_;(try generalize (G.w _).heap.size=bk);(try dsimp only[yi,yj]);(try clear g);intro g)|(at_builtin;refine wpList_append_lit rfl _ _ 102 rfl 107 i0 _ 3 56 Tryz.underlying102 hi hz0 hz1 hz2 rfl (by decide) g hrow hbw rfl 1 rfl rfl HP2 (by decide) (by decide) (by decide) ?_;clear hrow hbw g;intro b cap cs g hb hrow))
    obtain⟨g2,hg2⟩:=G.less g (M':=[(b,107,cs),(rb,43,[.bool false,.slice none 0 0,.slice none 0 0])]) (by simp)
    go_roundg 0
    case measure=>omega
    case rel=>exact .inr (.inr (⟨by simp,by simp,by simp,by simp,b,cap,cs,rfl,hrow,hb,g2,hg2⟩))
   ·have hne:((e2:Int)==0)=false:=by rw[beq_eq_false_iff_ne];exact hez
    have hne2:((e2:Int) !=0)=true:=by rw[bne,hne];rfl
    have HEZ:=Lib.hid hez
    clear hez
    go_wp2_with (with_reducible refine yq _ ?_;(try generalize (G.w _).heap.size=bk);(try dsimp only[yi,yj]);(try clear g);intro g)
    refine bodyPost_ret (v:=.tuple #[.agg #[.bool false,.slice none 0 0,.slice none 0 0],.int .i64 e2]) (by simp[results,Tryz.results76,go_sem]) rfl ?_
    rw[←HRR.out,if_neg (by decide),if_pos HEZ.out]
    exact rpe_err _ _
  ·go_wp2_with (with_reducible refine yq _ ?_;(try generalize (G.w _).heap.size=bk);(try dsimp only[yi,yj]);(try clear g);intro g)
   refine(HF.out (by simp) (by simp) _ b cap hrow.le ⟨row_at g (List.mem_cons_self ..) hrow (j:=0) rfl,row_at g (List.mem_cons_self ..) hrow (j:=1) rfl,row_at g (List.mem_cons_self ..) hrow (j:=2) rfl⟩ ⟨row_at g (List.mem_cons_self ..) hrow (j:=3) rfl,row_at g (List.mem_cons_self ..) hrow (j:=4) rfl,row_at g (List.mem_cons_self ..) hrow (j:=5) rfl⟩ (G.sl g (by simp) H1.out) (G.sl g (by simp) J1.out) (G.sl g (by simp) H2.out) (G.sl g (by simp) J2.out) (G.tab g HT.out)).mono ?_
   rintro e w1 ⟨Z1,z1,R1,Z2,z2,R2,rfl,hz1,hz2,hn1,hn2⟩
   have ho1:=fun k o hk=>Nat.le_trans (G.chg _).size (hn1.new k o hk)
   have ho2:=fun k o hk=>Nat.le_trans (G.chg _).size (hn2.new k o hk)
   obtain⟨g1,rfl⟩:=G.new2_ex _ hn1 hn2
   clear hn1 hn2
   (try clear g)
   revert g1
   intro g
   go_wp2_with (with_reducible refine yq _ ?_;(try generalize (G.w _).heap.size=bk);(try dsimp only[yi,yj]);(try clear g);intro g)
   refine bodyPost_ret (v:=.tuple #[.agg #[.bool r.1,.slice Z1 (limbs r.2.1).length z1,.slice Z2 (limbs r.2.2.1).length z2],.int .i64 r.2.2.2]) (by simp[results,Tryz.results76,go_sem]) rfl ?_
   rw[←HRR.out,if_neg (by decide),if_neg (by decide)]
   exact⟨Z1,z1,R1,Z2,z2,R2,rfl,hz1,hz2,G.pass _ (by simp) ho1,G.pass _ (by simp) ho2⟩
set_option maxRecDepth 20000 in
set_option maxHeartbeats 4000000 in
theorem with_div (lb:Nat)(r:Bool×Nat×Nat×Int)(s1:Bool)(A1 B1:Option Addr)(c1 k1:Nat)(l1 m1:List Nat)(s2:Bool)(A2 B2:Option Addr)(c2 k2:Nat)(l2 m2:List Nat)(w:World)(p1:PtAt w lb 0 s1 A1 l1.length c1 B1 m1.length k1)(h1:SlW w A1 c1 l1)(j1:SlW w B1 k1 m1)(p2:PtAt w lb 3 s2 A2 l2.length c2 B2 m2.length k2)(h2:SlW w A2 c2 l2)(j2:SlW w B2 k2 m2)(hT:Tab w)
  (hf:rchk s1 l1 m1=0→rchk s2 l2 m2=0→∀(w':World) (bF capF:Nat),2≤capF→FrAt w' bF 0 s1 A1 l1.length c1 B1 m1.length k1→FrAt w' bF 3 s2 A2 l2.length c2 B2 m2.length k2→SlW w' A1 c1 l1→SlW w' B1 k1 m1→SlW w' A2 c2 l2→SlW w' B2 k2 m2→Tab w'→Calls Tryz.prog 171 #[.slice (some ⟨bF,0,none⟩) 2 capF] w' (RPE r w')):
  Calls Tryz.prog 76 #[.func (.func 171) #[] #[],.slice (some ⟨lb,0,none⟩) 2 2] w (RPE (if rchk s1 l1 m1≠0 then(false,0,0,rchk s1 l1 m1) else if rchk s2 l2 m2≠0 then(false,0,0,rchk s2 l2 m2) else r) w):=by
 refine calls_b fun g=>?_
 have CK1:=Lib.hid (fun w a b t=>rcheck s1 A1 B1 c1 k1 l1 m1 w a b t)
 have CO1:=Lib.hid (fun w=>of_any s1 A1 B1 c1 k1 l1.length m1.length w)
 have E10:=fun(M:List Blk) (g:G w [] M [heapOf w])=>G.old g (List.mem_cons_self ..) p1.c0
 have E11:=fun(M:List Blk) (g:G w [] M [heapOf w])=>G.old g (List.mem_cons_self ..) p1.c1
 have E12:=fun(M:List Blk) (g:G w [] M [heapOf w])=>G.old g (List.mem_cons_self ..) p1.c2
 have H1:=Lib.hid h1
 have J1:=Lib.hid j1
 obtain⟨e1,he1⟩:∃e,rchk s1 l1 m1=e:=⟨_,rfl⟩
 rw[he1] at CK1 hf ⊢
 clear p1 h1 j1 he1
 have CK2:=Lib.hid (fun w a b t=>rcheck s2 A2 B2 c2 k2 l2 m2 w a b t)
 have CO2:=Lib.hid (fun w=>of_any s2 A2 B2 c2 k2 l2.length m2.length w)
 have E20:=fun(M:List Blk) (g:G w [] M [heapOf w])=>G.old g (List.mem_cons_self ..) p2.c0
 have E21:=fun(M:List Blk) (g:G w [] M [heapOf w])=>G.old g (List.mem_cons_self ..) p2.c1
 have E22:=fun(M:List Blk) (g:G w [] M [heapOf w])=>G.old g (List.mem_cons_self ..) p2.c2
 have H2:=Lib.hid h2
 have J2:=Lib.hid j2
 obtain⟨e2,he2⟩:∃e,rchk s2 l2 m2=e:=⟨_,rfl⟩
 rw[he2] at CK2 hf ⊢
 clear p2 h2 j2 he2
 have HF:=Lib.hid hf
 have HT:=Lib.hid hT
 obtain⟨RR,hRR⟩:∃RR,(if e1≠0 then(false,0,0,e1) else if e2≠0 then(false,0,0,e2) else r)=RR:=⟨_,rfl⟩
 rw[hRR]
 have HRR:=Lib.hid hRR
 clear hf hT hRR
 generalize l1.length=n1 at*
 generalize m1.length=d1 at*
 generalize l2.length=n2 at*
 generalize m2.length=d2 at*
 obtain⟨i0,hi,hz0,hz1,hz2⟩:=info_parts infoFr
 have HP1:=pts_one s1 A1 n1 c1 B1 d1 k1
 have HP2:=pts_one s2 A2 n2 c2 B2 d2 k2
 go_enter Tryz.func76,Tryz.ntmps76
 go_wp2_with (with_reducible refine yq _ ?_;(try generalize (G.w _).heap.size=bk);(try dsimp only[yi,yj]);(try clear g);intro g)
 obtain⟨rb,rfl⟩:∃rb,rb=bk:=⟨_,rfl⟩
 go_loopg [6,12] 2 (fun gk s6 s12 wr=>(gk=2∧s12=.int .i64 0∧s6=.slice none 0 0∧∃g:G w [] [(rb,43,[.bool false,.slice none 0 0,.slice none 0 0])] [heapOf w],wr=g.w)∨(gk=1∧s12=.int .i64 1∧e1=0∧∃b cap cs,s6=.slice (some ⟨b,0,none⟩) 1 cap∧Row 107 3 1 ([Value.bool s1,.slice A1 n1 c1,.slice B1 d1 k1]) cap cs∧w.heap.size≤b∧∃g:G w [] [(b,107,cs),(rb,43,[.bool false,.slice none 0 0,.slice none 0 0])] [heapOf w],wr=g.w)∨(gk=0∧s12=.int .i64 2∧e1=0∧e2=0∧∃b cap cs,s6=.slice (some ⟨b,0,none⟩) 2 cap∧Row 107 3 2 ([Value.bool s1,.slice A1 n1 c1,.slice B1 d1 k1]++[Value.bool s2,.slice A2 n2 c2,.slice B2 d2 k2]) cap cs∧w.heap.size≤b∧∃g:G w [] [(b,107,cs),(rb,43,[.bool false,.slice none 0 0,.slice none 0 0])] [heapOf w],wr=g.w))
 case atStart=>exact .inl ⟨rfl,rfl,rfl,g,rfl⟩
 case round=>
  clear g
  rcases hrel with⟨rfl,rfl,rfl,g,rfl⟩|⟨rfl,rfl,rfl,b,cap,cs,rfl,hrow,hbw,g,rfl⟩|⟨rfl,rfl,rfl,rfl,b,cap,cs,rfl,hrow,hbw,g,rfl⟩
  ·go_wp2_with (with_reducible refine yq _ ?_;(try generalize (G.w _).heap.size=bk);(try dsimp only[yi,yj]);(try clear g);intro g)
   (try(refine cmark _ ?_;(try dsimp only[yi,yj]);(try clear g);intro g))
   refine(CK1.out _ (G.sl g (by simp) H1.out) (G.sl g (by simp) J1.out) (G.tab g HT.out)).mono ?_
   rintro e w1 ⟨rfl,hb⟩
   obtain⟨g1,rfl⟩:=G.call_ex _ hb
   clear hb
   (try clear g)
   revert g1
   intro g
   by_cases hez:e1=0
   ·subst hez
    go_wp2_with (with_reducible refine yq _ ?_;(try generalize (G.w _).heap.size=bk);(try dsimp only[yi,yj]);(try clear g);intro g)
    refine(CO1.out _).mono ?_
    rintro e w1 ⟨rfl,hb⟩
    obtain⟨g1,rfl⟩:=G.call_ex _ hb
    clear hb
    (try clear g)
    revert g1
    intro g
    obtain⟨g2,hg2⟩:=G.less g (M':=[(rb,43,[.bool false,.slice none 0 0,.slice none 0 0])]) (by simp)
    rw[hg2]
    clear hg2 g
    revert g2
    intro g
    go_wp2_with (first|(with_reducible refine yq _ ?_;(try generalize (G.w _).heap.size=bk);(try dsimp only[yi,yj]);(try clear g);intro g)|(at_builtin;refine wpList_append_lit0 rfl _ _ 102 rfl 107 i0 _ 3 56 Tryz.underlying102 hi hz0 hz1 hz2 rfl (by decide) g rfl 1 rfl rfl HP1 (by decide) (by decide) (by decide) ?_;clear g;intro b cap cs g hb hrow))
    obtain⟨g2,hg2⟩:=G.less g (M':=[(b,107,cs),(rb,43,[.bool false,.slice none 0 0,.slice none 0 0])]) (by simp)
    go_roundg 1
    case measure=>omega
    case rel=>exact .inr (.inl ⟨by simp,by simp,by simp,b,cap,cs,rfl,hrow,hb,g2,hg2⟩)
   ·have hne:((e1:Int)==0)=false:=by rw[beq_eq_false_iff_ne];exact hez
    have hne2:((e1:Int) !=0)=true:=by rw[bne,hne];rfl
    have HEZ:=Lib.hid hez
    clear hez
    go_wp2_with (with_reducible refine yq _ ?_;(try generalize (G.w _).heap.size=bk);(try dsimp only[yi,yj]);(try clear g);intro g)
    refine bodyPost_ret (v:=.tuple #[.agg #[.bool false,.slice none 0 0,.slice none 0 0],.int .i64 e1]) (by simp[results,Tryz.results76,go_sem]) rfl ?_
    rw[←HRR.out,if_pos HEZ.out]
    exact rpe_err _ _
  ·go_wp2_with (with_reducible refine yq _ ?_;(try generalize (G.w _).heap.size=bk);(try dsimp only[yi,yj]);(try clear g);intro g)
   (try(refine cmark _ ?_;(try dsimp only[yi,yj]);(try clear g);intro g))
   refine(CK2.out _ (G.sl g (by simp) H2.out) (G.sl g (by simp) J2.out) (G.tab g HT.out)).mono ?_
   rintro e w1 ⟨rfl,hb⟩
   obtain⟨g1,rfl⟩:=G.call_ex _ hb
   clear hb
   (try clear g)
   revert g1
   intro g
   by_cases hez:e2=0
   ·subst hez
    go_wp2_with (with_reducible refine yq _ ?_;(try generalize (G.w _).heap.size=bk);(try dsimp only[yi,yj]);(try clear g);intro g)
    refine(CO2.out _).mono ?_
    rintro e w1 ⟨rfl,hb⟩
    obtain⟨g1,rfl⟩:=G.call_ex _ hb
    clear hb
    (try clear g)
    revert g1
    intro g
    obtain⟨g2,hg2⟩:=G.less g (M':=[(b,107,cs),(rb,43,[.bool false,.slice none 0 0,.slice none 0 0])]) (by simp)
    rw[hg2]
    clear hg2 g
    revert g2
    intro g
    go_wp2_with (first|(with_reducible refine yq _ ?_;(try generalize (G.w _).heap.size=bk);(try dsimp only[yi,yj]);(try clear g);intro g)|(at_builtin;refine wpList_append_lit rfl _ _ 102 rfl 107 i0 _ 3 56 Tryz.underlying102 hi hz0 hz1 hz2 rfl (by decide) g hrow hbw rfl 1 rfl rfl HP2 (by decide) (by decide) (by decide) ?_;clear hrow hbw g;intro b cap cs g hb hrow))
    obtain⟨g2,hg2⟩:=G.less g (M':=[(b,107,cs),(rb,43,[.bool false,.slice none 0 0,.slice none 0 0])]) (by simp)
    go_roundg 0
    case measure=>omega
    case rel=>exact .inr (.inr (⟨by simp,by simp,by simp,by simp,b,cap,cs,rfl,hrow,hb,g2,hg2⟩))
   ·have hne:((e2:Int)==0)=false:=by rw[beq_eq_false_iff_ne];exact hez
    have hne2:((e2:Int) !=0)=true:=by rw[bne,hne];rfl
    have HEZ:=Lib.hid hez
    clear hez
    go_wp2_with (with_reducible refine yq _ ?_;(try generalize (G.w _).heap.size=bk);(try dsimp only[yi,yj]);(try clear g);intro g)
    refine bodyPost_ret (v:=.tuple #[.agg #[.bool false,.slice none 0 0,.slice none 0 0],.int .i64 e2]) (by simp[results,Tryz.results76,go_sem]) rfl ?_
    rw[←HRR.out,if_neg (by decide),if_pos HEZ.out]
    exact rpe_err _ _
  ·go_wp2_with (with_reducible refine yq _ ?_;(try generalize (G.w _).heap.size=bk);(try dsimp only[yi,yj]);(try clear g);intro g)
   refine(HF.out (by simp) (by simp) _ b cap hrow.le ⟨row_at g (List.mem_cons_self ..) hrow (j:=0) rfl,row_at g (List.mem_cons_self ..) hrow (j:=1) rfl,row_at g (List.mem_cons_self ..) hrow (j:=2) rfl⟩ ⟨row_at g (List.mem_cons_self ..) hrow (j:=3) rfl,row_at g (List.mem_cons_self ..) hrow (j:=4) rfl,row_at g (List.mem_cons_self ..) hrow (j:=5) rfl⟩ (G.sl g (by simp) H1.out) (G.sl g (by simp) J1.out) (G.sl g (by simp) H2.out) (G.sl g (by simp) J2.out) (G.tab g HT.out)).mono ?_
   rintro e w1 ⟨Z1,z1,R1,Z2,z2,R2,rfl,hz1,hz2,hn1,hn2⟩
   have ho1:=fun k o hk=>Nat.le_trans (G.chg _).size (hn1.new k o hk)
   have ho2:=fun k o hk=>Nat.le_trans (G.chg _).size (hn2.new k o hk)
   obtain⟨g1,rfl⟩:=G.new2_ex _ hn1 hn2
   clear hn1 hn2
   (try clear g)
   revert g1
   intro g
   go_wp2_with (with_reducible refine yq _ ?_;(try generalize (G.w _).heap.size=bk);(try dsimp only[yi,yj]);(try clear g);intro g)
   refine bodyPost_ret (v:=.tuple #[.agg #[.bool r.1,.slice Z1 (limbs r.2.1).length z1,.slice Z2 (limbs r.2.2.1).length z2],.int .i64 r.2.2.2]) (by simp[results,Tryz.results76,go_sem]) rfl ?_
   rw[←HRR.out,if_neg (by decide),if_neg (by decide)]
   exact⟨Z1,z1,R1,Z2,z2,R2,rfl,hz1,hz2,G.pass _ (by simp) ho1,G.pass _ (by simp) ho2⟩
theorem rchk_ok {s:Bool}{l m:List Nat}(hl:Ok l)(hm:Ok m)(h:rchk s l m=0):l=limbs (val l)∧m=limbs (val m)∧val m≠0∧Nat.gcd (val l) (val m)=1∧(s=true→val l≠0)∧l.length≤256∧m.length≤256:=by
 unfold rchk at h
 by_cases h1:chk l=0
 ·rw [if_neg (by omega)] at h
  by_cases h2:chk m=0
  ·rw[if_neg (by omega)] at h
   obtain⟨a1,a2,a3⟩:=chk_ok hl h1
   obtain⟨b1,b2,b3⟩:=chk_ok hm h2
   by_cases h3:val m=0
   ·rw[if_pos h3] at h;cases h
   ·rw[if_neg h3] at h
    by_cases h4:(s=true∧val l=0)∨Nat.gcd (val l) (val m)≠1
    ·rw[if_pos h4] at h;cases h
    ·refine⟨a1,b1,h3,?_,?_,a3,b3⟩
     ·exact Classical.not_not.1 fun hg=>h4 (.inr hg)
     ·intro hs hv;exact h4 (.inl ⟨hs,hv⟩)
  ·rw[if_pos h2] at h;exact absurd h h2
 ·rw[if_pos h1] at h;exact absurd h h1
/-- the rational number of parts -/
def fr (s:Bool)(l m:List Nat):Rat:=frac s (val l) (val m)
def out1 (e1:Int)(r:Bool×Nat×Nat×Int):Bool×Nat×Nat×Int:=if e1≠0 then(false,0,0,e1) else r
def out2 (e1 e2:Int)(r:Bool×Nat×Nat×Int):Bool×Nat×Nat×Int:=if e1≠0 then(false,0,0,e1) else if e2≠0 then(false,0,0,e2) else r
set_option maxRecDepth 20000 in
set_option maxHeartbeats 2000000 in
theorem qAdd_any (s1 s2:Bool)(A1 B1 A2 B2:Option Addr)(c1 k1 c2 k2:Nat)(l1 m1 l2 m2:List Nat)(w:World)(h1:SlW w A1 c1 l1)(j1:SlW w B1 k1 m1)(h2:SlW w A2 c2 l2)(j2:SlW w B2 k2 m2)(hT:Tab w):
  Calls Tryz.prog 101 #[.agg #[.bool s1,.slice A1 l1.length c1,.slice B1 m1.length k1],.agg #[.bool s2,.slice A2 l2.length c2,.slice B2 m2.length k2]] w (RPE (out2 (rchk s1 l1 m1) (rchk s2 l2 m2) (outX (fr s1 l1 m1+fr s2 l2 m2))) w):=by
 refine calls_b fun g=>?_
 have ol1:=h1.ok
 have om1:=j1.ok
 have ol2:=h2.ok
 have om2:=j2.ok
 have CW:=Lib.hid (fun lb w p1 a1 b1 p2 a2 b2 ht=>with_add lb (outX (fr s1 l1 m1+fr s2 l2 m2)) s1 A1 B1 c1 k1 l1 m1 s2 A2 B2 c2 k2 l2 m2 w p1 a1 b1 p2 a2 b2 ht (fun r1 r2 w' bF capF hc f1 f2 x1 y1 x2 y2 t=>by
  obtain⟨e1,e2,e3,_,_,e6,e7⟩:=rchk_ok ol1 om1 r1
  obtain⟨e1',e2',e3',_,_,e6',e7'⟩:=rchk_ok ol2 om2 r2
  have:=add1_any bF capF s1 s2 A1 B1 A2 B2 c1 k1 c2 k2 (val l1) (val m1) (val l2) (val m2) w' (by rw[←e1,←e2];exact f1) (by rw[←e1',←e2'];exact f2) hc (by rw[←e1];exact x1) (by rw[←e2];exact y1) (by rw[←e1'];exact x2) (by rw[←e2'];exact y2) t (by rw[←e1];omega) (by rw[←e2];omega) (by rw[←e1'];omega) (by rw[←e2'];omega) e3 e3'
  exact this))
 have HT:=Lib.hid hT
 have H1:=Lib.hid h1
 have J1:=Lib.hid j1
 have H2:=Lib.hid h2
 have J2:=Lib.hid j2
 clear ol1 om1 ol2 om2 h1 j1 h2 j2 hT
 unfold out2
 obtain⟨RR,hRR⟩:∃RR,(if rchk s1 l1 m1≠0 then((false,0,0,rchk s1 l1 m1):Bool×Nat×Nat×Int) else if rchk s2 l2 m2≠0 then(false,0,0,rchk s2 l2 m2) else outX (fr s1 l1 m1+fr s2 l2 m2))=RR:=⟨_,rfl⟩
 rw[hRR] at CW ⊢
 clear hRR
 generalize l1.length=n1 at*
 generalize m1.length=d1 at*
 generalize l2.length=n2 at*
 generalize m2.length=d2 at*
 go_enter Tryz.func101,Tryz.ntmps101
 go_wp2_with (with_reducible refine yq _ ?_;(try generalize (G.w _).heap.size=bk);(try dsimp only[yi,yj]);(try clear g);intro g)
 refine(CW.out _ _ ⟨(g.cell0 0).trans rfl,(g.cell0 1).trans rfl,(g.cell0 2).trans rfl⟩ (G.sl g (by simp) H1.out) (G.sl g (by simp) J1.out) ⟨(g.cell0 3).trans rfl,(g.cell0 4).trans rfl,(g.cell0 5).trans rfl⟩ (G.sl g (by simp) H2.out) (G.sl g (by simp) J2.out) (G.tab g HT.out)).mono ?_
 rintro e w1 ⟨Z1,z1,R1,Z2,z2,R2,rfl,hz1,hz2,hn1,hn2⟩
 have ho1:=fun k o hk=>Nat.le_trans (G.chg _).size (hn1.new k o hk)
 have ho2:=fun k o hk=>Nat.le_trans (G.chg _).size (hn2.new k o hk)
 obtain⟨g1,rfl⟩:=G.new2_ex _ hn1 hn2
 clear hn1 hn2
 (try clear g)
 revert g1
 intro g
 go_wp2_with (with_reducible refine yq _ ?_;(try generalize (G.w _).heap.size=bk);(try dsimp only[yi,yj]);(try clear g);intro g)
 refine bodyPost_ret (v:=.tuple #[.agg #[.bool RR.1,.slice Z1 (limbs RR.2.1).length z1,.slice Z2 (limbs RR.2.2.1).length z2],.int .i64 RR.2.2.2]) (by simp[results,Tryz.results101,go_sem]) rfl ?_
 exact⟨Z1,z1,R1,Z2,z2,R2,rfl,hz1,hz2,G.pass _ (by simp) ho1,G.pass _ (by simp) ho2⟩
set_option maxRecDepth 20000 in
set_option maxHeartbeats 2000000 in
theorem qSub_any (s1 s2:Bool)(A1 B1 A2 B2:Option Addr)(c1 k1 c2 k2:Nat)(l1 m1 l2 m2:List Nat)(w:World)(h1:SlW w A1 c1 l1)(j1:SlW w B1 k1 m1)(h2:SlW w A2 c2 l2)(j2:SlW w B2 k2 m2)(hT:Tab w):
  Calls Tryz.prog 148 #[.agg #[.bool s1,.slice A1 l1.length c1,.slice B1 m1.length k1],.agg #[.bool s2,.slice A2 l2.length c2,.slice B2 m2.length k2]] w (RPE (out2 (rchk s1 l1 m1) (rchk s2 l2 m2) (outX (fr s1 l1 m1-fr s2 l2 m2))) w):=by
 refine calls_b fun g=>?_
 have ol1:=h1.ok
 have om1:=j1.ok
 have ol2:=h2.ok
 have om2:=j2.ok
 have CW:=Lib.hid (fun lb w p1 a1 b1 p2 a2 b2 ht=>with_sub lb (outX (fr s1 l1 m1-fr s2 l2 m2)) s1 A1 B1 c1 k1 l1 m1 s2 A2 B2 c2 k2 l2 m2 w p1 a1 b1 p2 a2 b2 ht (fun r1 r2 w' bF capF hc f1 f2 x1 y1 x2 y2 t=>by
  obtain⟨e1,e2,e3,_,_,e6,e7⟩:=rchk_ok ol1 om1 r1
  obtain⟨e1',e2',e3',_,_,e6',e7'⟩:=rchk_ok ol2 om2 r2
  have:=sub1_any bF capF s1 s2 A1 B1 A2 B2 c1 k1 c2 k2 (val l1) (val m1) (val l2) (val m2) w' (by rw[←e1,←e2];exact f1) (by rw[←e1',←e2'];exact f2) hc (by rw[←e1];exact x1) (by rw[←e2];exact y1) (by rw[←e1'];exact x2) (by rw[←e2'];exact y2) t (by rw[←e1];omega) (by rw[←e2];omega) (by rw[←e1'];omega) (by rw[←e2'];omega) e3 e3'
  exact this))
 have HT:=Lib.hid hT
 have H1:=Lib.hid h1
 have J1:=Lib.hid j1
 have H2:=Lib.hid h2
 have J2:=Lib.hid j2
 clear ol1 om1 ol2 om2 h1 j1 h2 j2 hT
 unfold out2
 obtain⟨RR,hRR⟩:∃RR,(if rchk s1 l1 m1≠0 then((false,0,0,rchk s1 l1 m1):Bool×Nat×Nat×Int) else if rchk s2 l2 m2≠0 then(false,0,0,rchk s2 l2 m2) else outX (fr s1 l1 m1-fr s2 l2 m2))=RR:=⟨_,rfl⟩
 rw[hRR] at CW ⊢
 clear hRR
 generalize l1.length=n1 at*
 generalize m1.length=d1 at*
 generalize l2.length=n2 at*
 generalize m2.length=d2 at*
 go_enter Tryz.func148,Tryz.ntmps148
 go_wp2_with (with_reducible refine yq _ ?_;(try generalize (G.w _).heap.size=bk);(try dsimp only[yi,yj]);(try clear g);intro g)
 refine(CW.out _ _ ⟨(g.cell0 0).trans rfl,(g.cell0 1).trans rfl,(g.cell0 2).trans rfl⟩ (G.sl g (by simp) H1.out) (G.sl g (by simp) J1.out) ⟨(g.cell0 3).trans rfl,(g.cell0 4).trans rfl,(g.cell0 5).trans rfl⟩ (G.sl g (by simp) H2.out) (G.sl g (by simp) J2.out) (G.tab g HT.out)).mono ?_
 rintro e w1 ⟨Z1,z1,R1,Z2,z2,R2,rfl,hz1,hz2,hn1,hn2⟩
 have ho1:=fun k o hk=>Nat.le_trans (G.chg _).size (hn1.new k o hk)
 have ho2:=fun k o hk=>Nat.le_trans (G.chg _).size (hn2.new k o hk)
 obtain⟨g1,rfl⟩:=G.new2_ex _ hn1 hn2
 clear hn1 hn2
 (try clear g)
 revert g1
 intro g
 go_wp2_with (with_reducible refine yq _ ?_;(try generalize (G.w _).heap.size=bk);(try dsimp only[yi,yj]);(try clear g);intro g)
 refine bodyPost_ret (v:=.tuple #[.agg #[.bool RR.1,.slice Z1 (limbs RR.2.1).length z1,.slice Z2 (limbs RR.2.2.1).length z2],.int .i64 RR.2.2.2]) (by simp[results,Tryz.results148,go_sem]) rfl ?_
 exact⟨Z1,z1,R1,Z2,z2,R2,rfl,hz1,hz2,G.pass _ (by simp) ho1,G.pass _ (by simp) ho2⟩
set_option maxRecDepth 20000 in
set_option maxHeartbeats 2000000 in
theorem qMul_any (s1 s2:Bool)(A1 B1 A2 B2:Option Addr)(c1 k1 c2 k2:Nat)(l1 m1 l2 m2:List Nat)(w:World)(h1:SlW w A1 c1 l1)(j1:SlW w B1 k1 m1)(h2:SlW w A2 c2 l2)(j2:SlW w B2 k2 m2)(hT:Tab w):
  Calls Tryz.prog 29 #[.agg #[.bool s1,.slice A1 l1.length c1,.slice B1 m1.length k1],.agg #[.bool s2,.slice A2 l2.length c2,.slice B2 m2.length k2]] w (RPE (out2 (rchk s1 l1 m1) (rchk s2 l2 m2) (outX (fr s1 l1 m1*fr s2 l2 m2))) w):=by
 refine calls_b fun g=>?_
 have ol1:=h1.ok
 have om1:=j1.ok
 have ol2:=h2.ok
 have om2:=j2.ok
 have CW:=Lib.hid (fun lb w p1 a1 b1 p2 a2 b2 ht=>with_mul lb (outX (fr s1 l1 m1*fr s2 l2 m2)) s1 A1 B1 c1 k1 l1 m1 s2 A2 B2 c2 k2 l2 m2 w p1 a1 b1 p2 a2 b2 ht (fun r1 r2 w' bF capF hc f1 f2 x1 y1 x2 y2 t=>by
  obtain⟨e1,e2,e3,_,_,e6,e7⟩:=rchk_ok ol1 om1 r1
  obtain⟨e1',e2',e3',_,_,e6',e7'⟩:=rchk_ok ol2 om2 r2
  have:=mul1_any bF capF s1 s2 A1 B1 A2 B2 c1 k1 c2 k2 (val l1) (val m1) (val l2) (val m2) w' (by rw[←e1,←e2];exact f1) (by rw[←e1',←e2'];exact f2) hc (by rw[←e1];exact x1) (by rw[←e2];exact y1) (by rw[←e1'];exact x2) (by rw[←e2'];exact y2) t (by rw[←e1];omega) (by rw[←e2];omega) (by rw[←e1'];omega) (by rw[←e2'];omega) e3 e3'
  exact this))
 have HT:=Lib.hid hT
 have H1:=Lib.hid h1
 have J1:=Lib.hid j1
 have H2:=Lib.hid h2
 have J2:=Lib.hid j2
 clear ol1 om1 ol2 om2 h1 j1 h2 j2 hT
 unfold out2
 obtain⟨RR,hRR⟩:∃RR,(if rchk s1 l1 m1≠0 then((false,0,0,rchk s1 l1 m1):Bool×Nat×Nat×Int) else if rchk s2 l2 m2≠0 then(false,0,0,rchk s2 l2 m2) else outX (fr s1 l1 m1*fr s2 l2 m2))=RR:=⟨_,rfl⟩
 rw[hRR] at CW ⊢
 clear hRR
 generalize l1.length=n1 at*
 generalize m1.length=d1 at*
 generalize l2.length=n2 at*
 generalize m2.length=d2 at*
 go_enter Tryz.func29,Tryz.ntmps29
 go_wp2_with (with_reducible refine yq _ ?_;(try generalize (G.w _).heap.size=bk);(try dsimp only[yi,yj]);(try clear g);intro g)
 refine(CW.out _ _ ⟨(g.cell0 0).trans rfl,(g.cell0 1).trans rfl,(g.cell0 2).trans rfl⟩ (G.sl g (by simp) H1.out) (G.sl g (by simp) J1.out) ⟨(g.cell0 3).trans rfl,(g.cell0 4).trans rfl,(g.cell0 5).trans rfl⟩ (G.sl g (by simp) H2.out) (G.sl g (by simp) J2.out) (G.tab g HT.out)).mono ?_
 rintro e w1 ⟨Z1,z1,R1,Z2,z2,R2,rfl,hz1,hz2,hn1,hn2⟩
 have ho1:=fun k o hk=>Nat.le_trans (G.chg _).size (hn1.new k o hk)
 have ho2:=fun k o hk=>Nat.le_trans (G.chg _).size (hn2.new k o hk)
 obtain⟨g1,rfl⟩:=G.new2_ex _ hn1 hn2
 clear hn1 hn2
 (try clear g)
 revert g1
 intro g
 go_wp2_with (with_reducible refine yq _ ?_;(try generalize (G.w _).heap.size=bk);(try dsimp only[yi,yj]);(try clear g);intro g)
 refine bodyPost_ret (v:=.tuple #[.agg #[.bool RR.1,.slice Z1 (limbs RR.2.1).length z1,.slice Z2 (limbs RR.2.2.1).length z2],.int .i64 RR.2.2.2]) (by simp[results,Tryz.results29,go_sem]) rfl ?_
 exact⟨Z1,z1,R1,Z2,z2,R2,rfl,hz1,hz2,G.pass _ (by simp) ho1,G.pass _ (by simp) ho2⟩
end Go.Proofs.YthhbbnfnejjpiaaGreatDoor
