/- Plain facts and contracts of functions of the program, out of walks. Their conditions stand ahead of each. -/
import Derived.Test.YthhbbnfnejjpiaaGreatDoorNm2
import Derived.Test.YthhbbnfnejjpiaaGreatDoorNm15
import Derived.Test.YthhbbnfnejjpiaaGreatDoorNm23
import Derived.Test.YthhbbnfnejjpiaaGreatDoorNm24
import Derived.Below
import Derived.BigQuiet
import Derived.Deep.DeepCutAuto
import Derived.Deep.Draws
import Derived.Deep.LoopGhost
import Derived.Deep.QuietTactic
import Derived.Deep.RegionHeld3
import Derived.Deep.RegionLaw
import Derived.Defers
import Derived.Laws.BytesString
import Derived.Laws.Cells
import Derived.Laws.Concat
import Derived.Laws.CopyOwn
import Derived.Laws.CopyRow
import Derived.Laws.NewBlocks
import Derived.Laws.OwnMore
import Derived.Laws.Pointers
import Derived.Laws.Rows
import Derived.Lib.BitFns
import Derived.Lib.Hide
import Derived.Lib.ItoaNum
import Derived.Lib.TrailingZeros
import Derived.LoopIn
import Derived.LoopNIn
import Derived.Maps.AppendAt
import Derived.OrdersHeld
import Derived.OrdersIn
import Derived.OwnWalk
import Derived.OwnWalkIn
import Derived.RangeFuncBound
import Derived.RangeFuncBox
import Derived.RangeFuncCalls
import Derived.RangeFuncLeaves
import Derived.RangeFuncNested
import Derived.RowKit3
import Derived.Shelf.Abstract
import Derived.Shelf.RegionOpen
import Derived.Shelf.Spec.TrailingZeros
import Derived.StillTactics
import Derived.StillTailTactics
import Derived.TacticsInMore
import Derived.Test.YthhbbnfnejjpiaaGreatDoorProg
import Derived.WalkKit
import Derived.WalkLawsBesides
import Derived.WalkMore
import Derived.WalkSpells
set_option linter.unusedVariables false
set_option linter.unusedSimpArgs false
set_option exponentiation.threshold 10000
namespace Go.Proofs.YthhbbnfnejjpiaaGreatDoor
open Go.RowKit GW NL MX
section
variable {w0:World}{M:List Blk}{I:List Frag}{F F0:Frag}
set_option maxRecDepth 20000 in
set_option maxHeartbeats 4000000 in
theorem wide_divide (m m2 cap cap2:Nat)(r r2:Nat→Rat)(y:Rat)(A B:Option Addr)(s1 s2:List Blk)(pb qb rb:Value)(sb:Nat)(h1:NRow m F r A cap s1)(h2:NRow m2 F r2 B cap2 s2)(hy:F.Rt pb qb rb (rawOf y))(hy0:rn y≠0)(hby:Bd 8192 y)(hbd:∀j,j<m→Bd 8192 (r j)∧Bd 8192 (r j/y))(hbd2:∀j,j<m2→Bd 8192 (r2 j)∧Bd 8192 (r2 j/y))(hm:m≤1000)(hm2:m2≤1000)
  (g:G w0 [] (s1++(s2++M)) (F::I)) (hS:InF (sumF sb) I) (hnw:F.over F0 w0) (hT:Tab w0):
  Calls Tryz.prog 197 #[.agg #[.slice A m cap,.slice B m2 cap2],.pointer (some ⟨sb,0,none⟩),.agg #[pb,qb,rb]] g.w fun e w'=>e=.returned (.tuple #[])∧∃(s1' s2':List Blk) (F':Frag) (g':G w0 [] (s1'++(s2'++M)) (F'::I)),w'=g'.w∧NRow m F' (fun j=>r j/y) A cap s1'∧NRow m2 F' (fun j=>r2 j/y) B cap2 s2'∧F.le F'∧F'.over F0 w0:=by
 obtain⟨sy,A1,n1,c1,B1,d1,k1,rfl,rfl,rfl⟩:=hy.shape
 have H1:=Lib.hid h1
 have H2:=Lib.hid h2
 have HY:=Lib.hid hy
 have HS:=Lib.hid hS
 have HN:=Lib.hid hnw
 have HT:=Lib.hid hT
 clear h1 h2 hy hS hnw hT
 have HB1:=Lib.hid hbd
 have HB2:=Lib.hid hbd2
 clear hbd hbd2
 go_enter Tryz.func197,Tryz.ntmps197
 go_wp2_with (with_reducible refine yq _ ?_;(try generalize (G.w _).heap.size=bk);(try dsimp only[yi,yj]);(try clear g);intro g)
 (try(refine cmark _ ?_;(try dsimp only[yi,yj]);(try clear g);intro g))
 refine(n_div 2 m cap r y A s1 (s2++M) _ _ _ sb H1.out HY.out hy0 hby HB1.out hm g rfl HS.out HN.out HT.out).mono ?_
 rintro e w1 ⟨rfl,s1',F1,g1,rfl,k1',k2,k3⟩
 have K1:=Lib.hid k1'
 have K2:=Lib.hid k2
 have K3:=Lib.hid k3
 clear k1' k2 k3
 revert g1
 dsimp only[List.take,List.cons_append,List.nil_append]
 clear g
 intro g
 obtain⟨g1,e1⟩:=g.perm (((List.perm_append_comm_assoc s1' s2 M).cons _).cons _)
 rw[e1]
 clear e1 g
 revert g1
 intro g
 go_wp2_with (with_reducible refine yq _ ?_;(try generalize (G.w _).heap.size=bk);(try dsimp only[yi,yj]);(try clear g);intro g)
 (try(refine cmark _ ?_;(try dsimp only[yi,yj]);(try clear g);intro g))
 refine(n_div 2 m2 cap2 r2 y B s2 (s1'++M) _ _ _ sb (H2.out.mono K2.out) (HY.out.mono K2.out) hy0 hby HB2.out hm2 g rfl HS.out K3.out HT.out).mono ?_
 rintro e w1 ⟨rfl,s2',F2,g1,rfl,k1',k2,k3⟩
 have L1:=Lib.hid k1'
 have L2:=Lib.hid k2
 have L3:=Lib.hid k3
 clear k1' k2 k3
 revert g1
 dsimp only[List.take,List.cons_append,List.nil_append]
 clear g
 intro g
 go_wp2_with (with_reducible refine yq _ ?_;(try generalize (G.w _).heap.size=bk);(try dsimp only[yi,yj]);(try clear g);intro g)
 refine bodyPost_end (results_none rfl _ _ _) rfl ?_
 obtain⟨g2,hg2⟩:∃g2:G w0 [] (s2'++(s1'++M)) (F2::I),g.w=g2.w:=G.forget g 2
 obtain⟨g3,e3⟩:=g2.perm (List.perm_append_comm_assoc s2' s1' M)
 exact⟨rfl,s1',s2',F2,g3,hg2.trans e3,K1.out.mono L2.out,L1.out,Frag.le_trans K2.out L2.out,L3.out⟩
theorem assert_wide (A B:Option Addr)(n c n' c':Nat)(w:World):(Instr.typeAssert (.iface 132 (.agg #[.slice A n c,.slice B n' c'])) 137 132 true).run Tryz.prog w=.ok (.tuple #[.agg #[.slice A n c,.slice B n' c'],.bool true]) w:=by kernel_rfl
theorem perm4 {α:Type}(a b c d e:List α):(a++(b++(c++(d++e)))).Perm (a++(c++(b++(d++e)))):=(List.perm_append_comm_assoc b c _).append_left a
theorem perm5 {α:Type}(a b c d e:List α):(a++(c++(b++(d++e)))).Perm (b++(d++(a++(c++e)))):=by
 have h1:(a++(c++(b++(d++e)))).Perm (a++(b++(c++(d++e)))):=(List.perm_append_comm_assoc c b _).append_left a
 have h2:(a++(b++(c++(d++e)))).Perm (b++(a++(c++(d++e)))):=List.perm_append_comm_assoc a b _
 have h3:(b++(a++(c++(d++e)))).Perm (b++(a++(d++(c++e)))):=((List.perm_append_comm_assoc c d e).append_left a).append_left b
 have h4:(b++(a++(d++(c++e)))).Perm (b++(d++(a++(c++e)))):=(List.perm_append_comm_assoc a d _).append_left b
 exact((h1.trans h2).trans h3).trans h4
set_option maxRecDepth 20000 in
set_option maxHeartbeats 4000000 in
theorem wide_take (m m2 cap cap2 capo capo2:Nat)(r r2 u u2:Nat→Rat)(f:Rat)(A B C D:Option Addr)(s1 s2 t1 t2:List Blk)(pb qb rb:Value)(sb:Nat)(h1:NRow m F r A cap s1)(h2:NRow m2 F r2 B cap2 s2)(i1:NRow m F u C capo t1)(i2:NRow m2 F u2 D capo2 t2)(hf:F.Rt pb qb rb (rawOf f))(hbf:Bd 8192 f)(hbd:∀j,j<m→Bd 8192 (r j)∧Bd 8192 (u j)∧Bd 8192 (f*u j)∧Bd 8192 (r j-f*u j))(hbd2:∀j,j<m2→Bd 8192 (r2 j)∧Bd 8192 (u2 j)∧Bd 8192 (f*u2 j)∧Bd 8192 (r2 j-f*u2 j))(hm:m≤1000)(hm2:m2≤1000)
  (g:G w0 [] (s1++(s2++(t1++(t2++M)))) (F::I)) (hS:InF (sumF sb) I) (hnw:F.over F0 w0) (hT:Tab w0):
  Calls Tryz.prog 198 #[.agg #[.slice A m cap,.slice B m2 cap2],.pointer (some ⟨sb,0,none⟩),.iface 132 (.agg #[.slice C m capo,.slice D m2 capo2]),.agg #[pb,qb,rb]] g.w fun e w'=>e=.returned (.tuple #[])∧∃(s1' s2':List Blk) (F':Frag) (g':G w0 [] (s1'++(s2'++(t1++(t2++M)))) (F'::I)),w'=g'.w∧NRow m F' (fun j=>r j-f*u j) A cap s1'∧NRow m2 F' (fun j=>r2 j-f*u2 j) B cap2 s2'∧F.le F'∧F'.over F0 w0:=by
 obtain⟨sy,A1,n1,c1,B1,d1,k1,rfl,rfl,rfl⟩:=hf.shape
 have H1:=Lib.hid h1
 have H2:=Lib.hid h2
 have H3:=Lib.hid i1
 have H4:=Lib.hid i2
 have HY:=Lib.hid hf
 have HS:=Lib.hid hS
 have HN:=Lib.hid hnw
 have HT:=Lib.hid hT
 clear h1 h2 i1 i2 hf hS hnw hT
 have HB1:=Lib.hid hbd
 have HB2:=Lib.hid hbd2
 clear hbd hbd2
 obtain⟨g1,e1⟩:=g.perm (perm4 s1 s2 t1 t2 M)
 rw[e1]
 clear e1 g
 revert g1
 intro g
 have TA:=assert_wide C D m capo m2 capo2
 go_enter Tryz.func198,Tryz.ntmps198
 go_wp2_with (with_reducible refine yq _ ?_;(try generalize (G.w _).heap.size=bk);(try dsimp only[yi,yj]);(try clear g);intro g)
 (try(refine cmark _ ?_;(try dsimp only[yi,yj]);(try clear g);intro g))
 clear TA
 refine(n_take 3 m cap capo r u f A C s1 t1 (s2++(t2++M)) _ _ _ sb H1.out H3.out HY.out hbf HB1.out hm g rfl HS.out HN.out HT.out).mono ?_
 rintro e w1 ⟨rfl,s1',F1,g1,rfl,k1',k2,k3⟩
 have K1:=Lib.hid k1'
 have K2:=Lib.hid k2
 have K3:=Lib.hid k3
 clear k1' k2 k3
 revert g1
 dsimp only[List.take,List.cons_append,List.nil_append]
 clear g
 intro g
 obtain⟨g1,e1⟩:=g.perm ((((perm5 s1' s2 t1 t2 M).cons _).cons _).cons _)
 rw[e1]
 clear e1 g
 revert g1
 intro g
 go_wp2_with (with_reducible refine yq _ ?_;(try generalize (G.w _).heap.size=bk);(try dsimp only[yi,yj]);(try clear g);intro g)
 (try(refine cmark _ ?_;(try dsimp only[yi,yj]);(try clear g);intro g))
 refine(n_take 3 m2 cap2 capo2 r2 u2 f B D s2 t2 (s1'++(t1++M)) _ _ _ sb (H2.out.mono K2.out) (H4.out.mono K2.out) (HY.out.mono K2.out) hbf HB2.out hm2 g rfl HS.out K3.out HT.out).mono ?_
 rintro e w1 ⟨rfl,s2',F2,g1,rfl,k1',k2,k3⟩
 have L1:=Lib.hid k1'
 have L2:=Lib.hid k2
 have L3:=Lib.hid k3
 clear k1' k2 k3
 revert g1
 dsimp only[List.take,List.cons_append,List.nil_append]
 clear g
 intro g
 go_wp2_with (with_reducible refine yq _ ?_;(try generalize (G.w _).heap.size=bk);(try dsimp only[yi,yj]);(try clear g);intro g)
 refine bodyPost_end (results_none rfl _ _ _) rfl ?_
 obtain⟨g2,hg2⟩:∃g2:G w0 [] (s2'++(t2++(s1'++(t1++M)))) (F2::I),g.w=g2.w:=G.forget g 3
 obtain⟨g3,e3⟩:=g2.perm ((perm5 s1' s2' t1 t2 M).symm.trans (perm4 s1' s2' t1 t2 M).symm)
 exact⟨rfl,s1',s2',F2,g3,hg2.trans e3,K1.out.mono L2.out,L1.out,Frag.le_trans K2.out L2.out,L3.out⟩
end
theorem rsame5_x (t:Raw)(p q r p' q' r':Value)(w:World)(h:RtW w p q r t)(h':RtW w p' q' r' t):
  Calls Tryz.prog 27 #[.agg #[p,q,r],.agg #[p',q',r']] w fun e w'=>e=.returned (.bool true)∧Below w.heap.size w w':=by
 refine calls_b fun g=>?_
 obtain⟨s,l,m⟩:=t
 obtain⟨rfl,⟨A1,c1,rfl,h1⟩,B1,k1,rfl,j1⟩:=h
 obtain⟨rfl,⟨A2,c2,rfl,h2⟩,B2,k2,rfl,j2⟩:=h'
 dsimp only at h1 h2 j1 j2 ⊢
 have C1:=Lib.hid (fun w h1 h2=>same_any A1 A2 c1 c2 l w h1 h2)
 have C2:=Lib.hid (fun w h1 h2=>same_any B1 B2 k1 k2 m w h1 h2)
 have H1:=Lib.hid h1
 have H2:=Lib.hid h2
 have J1:=Lib.hid j1
 have J2:=Lib.hid j2
 clear h1 h2 j1 j2
 generalize l.length=n at*
 generalize m.length=d at*
 go_enter Tryz.func27,Tryz.ntmps27
 go_wp2_with (with_reducible refine yq _ ?_;(try generalize (G.w _).heap.size=bk);(try dsimp only[yi,yj]);(try clear g);intro g)
 refine(C1.out _ (G.sl g (by simp) H1.out) (G.sl g (by simp) H2.out)).mono ?_
 rintro e w1 ⟨rfl,hb⟩
 obtain⟨g1,rfl⟩:=G.call_ex _ hb
 clear hb
 (try clear g)
 revert g1
 intro g
 go_wp2_with (with_reducible refine yq _ ?_;(try generalize (G.w _).heap.size=bk);(try dsimp only[yi,yj]);(try clear g);intro g)
 refine(C2.out _ (G.sl g (by simp) J1.out) (G.sl g (by simp) J2.out)).mono ?_
 rintro e w1 ⟨rfl,hb⟩
 obtain⟨g1,rfl⟩:=G.call_ex _ hb
 clear hb
 (try clear g)
 revert g1
 intro g
 go_wp2_with (with_reducible refine yq _ ?_;(try generalize (G.w _).heap.size=bk);(try dsimp only[yi,yj]);(try clear g);intro g)
 go_ret
 exact⟨rfl,G.below _⟩
set_option maxRecDepth 20000 in
set_option maxHeartbeats 2000000 in
theorem samelist_x (n:Nat)(x:Nat→Raw)(A B:Option Addr)(c d:Nat)(w:World)(hA:RwW w A c n x)(hB:RwW w B d n x)(hn:n≤1000):
  Calls Tryz.prog 28 #[.slice A n c,.slice B n d] w fun e w'=>e=.returned (.bool true)∧Below w.heap.size w w':=by
 refine calls_b fun g=>?_
 have CS:=Lib.hid (fun t p q r p' q' r' w h h'=>rsame5_x t p q r p' q' r' w h h')
 have HA:=Lib.hid hA
 have HB:=Lib.hid hB
 clear hA hB
 go_enter Tryz.func28,Tryz.ntmps28
 go_wp2_with (with_reducible refine yq _ ?_;(try generalize (G.w _).heap.size=bk);(try dsimp only[yi,yj]);(try clear g);intro g)
 go_loopw [5] (fun i wr=>∃k:Nat,i=.int .i64 (k:Int)∧k≤n∧∃g:G w [] [] [heapOf w],wr=g.w) (fun i _=>n-(intOf i).toNat)
 case atStart=>exact⟨0,rfl,by omega,g,rfl⟩
 case round=>
  clear g
  obtain⟨k,rfl,hk,g,rfl⟩:=hrel
  by_cases hkn:k<n
  ·have hki:(k:Int)<(n:Int):=by omega
   have hA:(heapOf w).Rw A c n x:=HA.out
   have hB:(heapOf w).Rw B d n x:=HB.out
   obtain⟨ba,oa,rfl,hna⟩:=hA.num (by omega)
   obtain⟨bb,ob,rfl,hnb⟩:=hB.num (by omega)
   obtain⟨p,q,r,h3,hrt⟩:=hna k hkn
   obtain⟨sx,Px,nx,dx,Qx,mx,ex,rfl,rfl,rfl⟩:=hrt.shape
   obtain⟨p,q,r,h4,hrt2⟩:=hnb k hkn
   obtain⟨sy,Py,ny,dy,Qy,my,ey,rfl,rfl,rfl⟩:=hrt2.shape
   have X0:∀(M:List Blk) (g:G w [] M [heapOf w]),g.w.cell? ⟨ba,oa+k*3,none⟩=some (.bool sx):=fun M g=>(h3 _ _ _ _ g (InF.head _ _)).1
   have X1:∀(M:List Blk) (g:G w [] M [heapOf w]),g.w.cell? ⟨ba,oa+k*3+1,none⟩=some (.slice Px nx dx):=fun M g=>(h3 _ _ _ _ g (InF.head _ _)).2.1
   have X2:∀(M:List Blk) (g:G w [] M [heapOf w]),g.w.cell? ⟨ba,oa+k*3+2,none⟩=some (.slice Qx mx ex):=fun M g=>(h3 _ _ _ _ g (InF.head _ _)).2.2
   have Y0:∀(M:List Blk) (g:G w [] M [heapOf w]),g.w.cell? ⟨bb,ob+k*3,none⟩=some (.bool sy):=fun M g=>(h4 _ _ _ _ g (InF.head _ _)).1
   have Y1:∀(M:List Blk) (g:G w [] M [heapOf w]),g.w.cell? ⟨bb,ob+k*3+1,none⟩=some (.slice Py ny dy):=fun M g=>(h4 _ _ _ _ g (InF.head _ _)).2.1
   have Y2:∀(M:List Blk) (g:G w [] M [heapOf w]),g.w.cell? ⟨bb,ob+k*3+2,none⟩=some (.slice Qy my ey):=fun M g=>(h4 _ _ _ _ g (InF.head _ _)).2.2
   have HRX:=Lib.hid hrt
   have HRY:=Lib.hid hrt2
   clear h3 h4 hrt hrt2 hna hnb hA hB
   go_upto_region 6 with(with_reducible refine yq _ ?_;(try generalize (G.w _).heap.size=bk);(try dsimp only[yi,yj]);(try clear g);intro g)
   ((try simp only[G.drew_eq,G.drewN_eq]);(refine yq _ ?_;(try generalize (G.w _).heap.size=bk);(try dsimp only[yi,yj]);(try clear g);intro g))
   go_region_law (go_simp;go_at_call 27;(with_reducible refine(CS.out (x k) _ _ _ _ _ _ _ ?_ ?_).mono ?_);(· exact G.rtI _ (by simp) HRX.out);(· exact G.rtI _ (by simp) HRY.out);rintro e w1 ⟨rfl,hb⟩;obtain⟨g1,rfl⟩:=G.call_ex _ hb;clear hb;(try clear g);revert g1;intro g)
   all_goals (as_aux_lemma=>
    ((try simp only[G.drew_eq,G.drewN_eq]);(refine yq _ ?_;(try generalize (G.w _).heap.size=bk);(try dsimp only[yi,yj]);(try clear g);intro g))
    go_wp2_with (with_reducible refine yq _ ?_;(try generalize (G.w _).heap.size=bk);(try dsimp only[yi,yj]);(try clear g);intro g)
    go_roundw
    case rel=>exact⟨k+1,by go_num,by omega,g,rfl⟩
    case measure=>simp[intOf];omega)
  ·obtain rfl:k=n:=by omega
   go_wp2_with (with_reducible refine yq _ ?_;(try generalize (G.w _).heap.size=bk);(try dsimp only[yi,yj]);(try clear g);intro g)
   go_ret
   exact⟨rfl,G.below _⟩
set_option maxRecDepth 20000 in
set_option maxHeartbeats 2000000 in
theorem samemat_x (n:Nat)(m:Nat→Nat)(x:Nat→Nat→Raw)(A B:Option Addr)(c d:Nat)(w:World)(hA:(heapOf w).Mt A c n m x)(hB:(heapOf w).Mt B d n m x)(hn:n≤1000)(hm:∀i,i<n→m i≤1000):
  Calls Tryz.prog 15 #[.slice A n c,.slice B n d] w fun e w'=>e=.returned (.bool true)∧Below w.heap.size w w':=by
 refine calls_b fun g=>?_
 have CS:=Lib.hid (fun i (hi:i<n) A B c d w h h'=>samelist_x (m i) (x i) A B c d w h h' (hm i hi))
 have HA:=Lib.hid hA
 have HB:=Lib.hid hB
 clear hA hB hm
 go_enter Tryz.func15,Tryz.ntmps15
 go_wp2_with (with_reducible refine yq _ ?_;(try generalize (G.w _).heap.size=bk);(try dsimp only[yi,yj]);(try clear g);intro g)
 go_loopw [5] (fun i wr=>∃k:Nat,i=.int .i64 (k:Int)∧k≤n∧∃g:G w [] [] [heapOf w],wr=g.w) (fun i _=>n-(intOf i).toNat)
 case atStart=>exact⟨0,rfl,by omega,g,rfl⟩
 case round=>
  clear g
  obtain⟨k,rfl,hk,g,rfl⟩:=hrel
  by_cases hkn:k<n
  ·have hki:(k:Int)<(n:Int):=by omega
   have hA:(heapOf w).Mt A c n m x:=HA.out
   have hB:(heapOf w).Mt B d n m x:=HB.out
   obtain⟨ba,oa,rfl,hna⟩:=hA.rowAt (by omega)
   obtain⟨bb,ob,rfl,hnb⟩:=hB.rowAt (by omega)
   obtain⟨A1,k1,h3,hrw⟩:=hna k hkn
   obtain⟨A2,k2,h4,hrw2⟩:=hnb k hkn
   have X0:∀(M:List Blk) (g:G w [] M [heapOf w]),g.w.cell? ⟨ba,oa+k,none⟩=some (.slice A1 (m k) k1):=fun M g=>h3 _ _ _ _ g (InF.head _ _)
   have Y0:∀(M:List Blk) (g:G w [] M [heapOf w]),g.w.cell? ⟨bb,ob+k,none⟩=some (.slice A2 (m k) k2):=fun M g=>h4 _ _ _ _ g (InF.head _ _)
   have HRX:=Lib.hid hrw
   have HRY:=Lib.hid hrw2
   clear h3 h4 hrw hrw2 hna hnb hA hB
   go_upto_region 6 with(with_reducible refine yq _ ?_;(try generalize (G.w _).heap.size=bk);(try dsimp only[yi,yj]);(try clear g);intro g)
   ((try simp only[G.drew_eq,G.drewN_eq]);(refine yq _ ?_;(try generalize (G.w _).heap.size=bk);(try dsimp only[yi,yj]);(try clear g);intro g))
   go_region_law (go_simp;go_at_call 28;(with_reducible refine(CS.out k hkn _ _ _ _ _ ?_ ?_).mono ?_);(· exact G.rwI _ (by simp) HRX.out);(· exact G.rwI _ (by simp) HRY.out);rintro e w1 ⟨rfl,hb⟩;obtain⟨g1,rfl⟩:=G.call_ex _ hb;clear hb;(try clear g);revert g1;intro g)
   all_goals (as_aux_lemma=>
    ((try simp only[G.drew_eq,G.drewN_eq]);(refine yq _ ?_;(try generalize (G.w _).heap.size=bk);(try dsimp only[yi,yj]);(try clear g);intro g))
    go_wp2_with (with_reducible refine yq _ ?_;(try generalize (G.w _).heap.size=bk);(try dsimp only[yi,yj]);(try clear g);intro g)
    go_roundw
    case rel=>exact⟨k+1,by go_num,by omega,g,rfl⟩
    case measure=>simp[intOf];omega)
  ·obtain rfl:k=n:=by omega
   go_wp2_with (with_reducible refine yq _ ?_;(try generalize (G.w _).heap.size=bk);(try dsimp only[yi,yj]);(try clear g);intro g)
   go_ret
   exact⟨rfl,G.below _⟩
set_option maxRecDepth 20000 in
theorem lis5_x (n:Nat)(m:Nat→Nat)(x:Nat→Nat→Raw)(A B:Option Addr)(c d:Nat)(w:World)(hA:(heapOf w).Mt A c n m x)(hB:(heapOf w).Mt B d n m x)(hn:n≤1000)(hm:∀i,i<n→m i≤1000):
  Calls Tryz.prog 50 #[.slice A n c,.int .i64 0,.slice B n d] w fun e w'=>e=.returned (.bool true)∧Below w.heap.size w w':=by
 refine calls_b fun g=>?_
 have CS:=Lib.hid (fun w h h'=>samemat_x n m x A B c d w h h' hn hm)
 have HA:=Lib.hid hA
 have HB:=Lib.hid hB
 clear hA hB hm
 go_enter Tryz.func50,Tryz.ntmps50
 go_wp2_with (with_reducible refine yq _ ?_;(try generalize (G.w _).heap.size=bk);(try dsimp only[yi,yj]);(try clear g);intro g)
 refine(CS.out _ (HA.out.mono (g.sub _ (by simp))) (HB.out.mono (g.sub _ (by simp)))).mono ?_
 rintro e w1 ⟨rfl,hb⟩
 obtain⟨g1,rfl⟩:=G.call_ex _ hb
 clear hb
 (try clear g)
 revert g1
 intro g
 go_wp2_with (with_reducible refine yq _ ?_;(try generalize (G.w _).heap.size=bk);(try dsimp only[yi,yj]);(try clear g);intro g)
 go_ret
 exact⟨rfl,G.below _⟩
set_option maxRecDepth 20000 in
set_option maxHeartbeats 1000000 in
theorem lnum5_x (a b:Int)(z:Rat)(hb:b≠0)(e:frac (decide (a<0) !=decide (b<0)) a.natAbs b.natAbs=z)(h1: -9223372036854775808≤a)(h2:a<9223372036854775808)(h3: -9223372036854775808≤b)(h4:b<9223372036854775808)(p q r:Value)(w:World)(h:RtW w p q r (rawOf z)):
  Calls Tryz.prog 51 #[.agg #[p,q,r],.int .i64 0,.int .i64 a,.int .i64 b] w fun e w'=>e=.returned (.bool true)∧Below w.heap.size w w':=by
 refine calls_b fun g=>?_
 have CO:=Lib.hid (fun w=>lof5_r a b z hb e h1 h2 h3 h4 w)
 unfold RT1 at CO
 have CS:=Lib.hid (fun p q r p' q' r' w h h'=>rsame5_x (rawOf z) p q r p' q' r' w h h')
 obtain⟨s1,A1,n1,c1,B1,d1,k1,rfl,rfl,rfl⟩:=h.shape
 have H:=Lib.hid h
 clear e hb h1 h2 h3 h4 h
 go_enter Tryz.func51,Tryz.ntmps51
 go_upto_region 1 with(with_reducible refine yq _ ?_;(try generalize (G.w _).heap.size=bk);(try dsimp only[yi,yj]);(try clear g);intro g)
 ((try simp only[G.drew_eq,G.drewN_eq]);(refine yq _ ?_;(try generalize (G.w _).heap.size=bk);(try dsimp only[yi,yj]);(try clear g);intro g))
 refine wp_region_held_drew (S:=G.heldN g [true]) (by kernel_rfl) (by simp[G.heldN,HeldN,go_sem]) (fun hHeld=>?_)
 refine tk0 [0,1,2,3,4,5] ?_
 repeat (refine tkc rfl (by kernel_rfl) (fun _ _ _ h=>h) (by rfl) ‹_› (by intro w hSw;(try dsimp only at hSw);go_simp;(try with_reducible rfl)) ?_;try simp only[Act.put,yk,yl,yn,yo,yi,yj])
 refine tkn ?_
 refine wpAnyH_ready (rs:=[6]) (by kernel_rfl) (by simp) ?_
 refine AllReadyH.cons rfl (fun K hK=>?_) AllReadyH.nil
 ·(try simp only[Act.put,yk,yl,yn,yo,yi,yj])
  go_simp
  go_at_call 45
  (try(refine cmark _ ?_;(try dsimp only[yi,yj]);(try clear g);intro g))
  refine(CO.out _).mono ?_
  rintro e w1 ⟨pa,qa,ra,Fa,rfl,ha,hn⟩
  have hnna:=fun k o hk=>Nat.le_trans g.chg.size (hn.new k o hk)
  obtain⟨sa,Aa,na,ca,Ba,da,ka,rfl,rfl,rfl⟩:=ha.shape
  obtain⟨g1,rfl⟩:=G.new_ex _ hn
  clear hn
  (try clear g)
  revert g1
  intro g
  refine hK.out _ _ (by simp[G.heldN,HeldN,go_sem]) (fun hHeld=>?_)
  clear hK K
  (try simp only[Act.put,yk,yl,yn,yo,yi,yj])
  refine wpAnyH_ready (rs:=[7]) (by kernel_rfl) (by simp) ?_
  refine AllReadyH.cons rfl (fun K hK=>?_) AllReadyH.nil
  ·(try simp only[Act.put,yk,yl,yn,yo,yi,yj])
   go_simp
   go_at_call 27
   (try(refine cmark _ ?_;(try dsimp only[yi,yj]);(try clear g);intro g))
   refine(CS.out _ _ _ _ _ _ _ (G.rtI g (f:=heapOf w) (by simp) H.out) (G.rtI g (by simp) ha)).mono ?_
   rintro e w1 ⟨rfl,hb⟩
   obtain⟨g1,rfl⟩:=G.call_ex _ hb
   clear hb
   (try clear g)
   revert g1
   intro g
   refine hK.out _ _ (by simp[G.heldN,HeldN,go_sem]) (fun hHeld=>?_)
   clear hK K
   (try simp only[Act.put,yk,yl,yn,yo,yi,yj])
   refine tk0 [8,9] ?_
   repeat (refine tkc rfl (by kernel_rfl) (fun _ _ _ h=>h) (by rfl) ‹_› (by intro w hSw;(try dsimp only at hSw);go_simp;(try with_reducible rfl)) ?_;try simp only[Act.put,yk,yl,yn,yo,yi,yj])
   refine tkn ?_
   refine wpAnyH_done (by kernel_rfl) ?_ _
   (as_aux_lemma=>
    (try clear hHeld)
    ((try simp only[G.drew_eq,G.drewN_eq]);(refine yq _ ?_;(try generalize (G.w _).heap.size=bk);(try dsimp only[yi,yj]);(try clear g);intro g))
    go_wp2_with (with_reducible refine yq _ ?_;(try generalize (G.w _).heap.size=bk);(try dsimp only[yi,yj]);(try clear g);intro g)
    go_ret
    exact⟨rfl,G.below _⟩)
/-- the identity in blocks that nobody else knows -/
def ROne (n:Nat)(w:World)(e:Ending)(w':World):Prop:=∃(ob:Nat) (R:List Blk) (oc:List Value) (F:Frag) (g:G w [] ((ob,38,oc)::R) [F,heapOf w]),e=.returned (.slice (some ⟨ob,0,none⟩) n n)∧oc.length=n∧OwnOn (List.range n) (fun j=>NumRow w.heap.size 43 F n (rawM oneM j)) R oc∧F.Nw w∧w'=g.w
/-- what a call has made, in its caller's world -/
theorem G.lift {w0:World}{X:List Nat}{M M':List Blk}{I I':List Frag}{F:Frag}(g:G w0 X M I)(g':G g.w [] M' (F::I'))(hn:F.Nw g.w):∃g2:G w0 X (M'++M) (F::I),g'.w=g2.w:=by
 have hb:Below g.w.heap.size g.w g'.w:=g'.below
 refine⟨⟨g'.w,(g.call hb).chg,?_,?_,?_,?_,?_⟩,rfl⟩
 ·intro m hm
  rcases List.mem_append.1 hm with hm|hm
  ·exact g'.own m hm
  ·exact(g.call hb).own m hm
 ·intro m hm
  rcases List.mem_append.1 hm with hm|hm
  ·rcases g'.may m hm with h|h
   ·exact .inl (Nat.le_trans g.chg.size h)
   ·cases h
  ·exact g.may m hm
 ·rw[List.map_append,List.nodup_append]
  refine⟨g'.dist,g.dist,fun a ha b hb' e=>?_⟩
  subst e
  obtain⟨m1,h1,e1⟩:=List.mem_map.1 ha
  obtain⟨m2,h2,e2⟩:=List.mem_map.1 hb'
  have l2:=g.lt h2
  rcases g'.may m1 h1 with h|h
  ·rw[e1] at h
   rw[e2] at l2
   omega
  ·cases h
 ·intro f hf
  rcases List.mem_cons.1 hf with rfl|hf
  ·exact g'.sub _ (by simp)
  ·exact(g.call hb).sub f hf
 ·intro f hf k o hk
  rcases List.mem_cons.1 hf with rfl|hf
  ·have h1:=hn k o hk
   refine⟨.inl (Nat.le_trans g.chg.size h1),fun hm=>?_⟩
   rw[List.map_append,List.mem_append] at hm
   rcases hm with hm|hm
   ·exact(g'.keep _ (by simp) k o hk).2 hm
   ·obtain⟨m2,h2,e2⟩:=List.mem_map.1 hm
    have l2:=g.lt h2
    rw[e2] at l2
    omega
  ·obtain⟨h1,h2⟩:=g.keep f hf k o hk
   refine⟨h1,fun hm=>?_⟩
   rw[List.map_append,List.mem_append] at hm
   rcases hm with hm|hm
   ·obtain⟨m1,h3,e3⟩:=List.mem_map.1 hm
    have l2:=Frag.lt (g.sub f hf) hk
    rcases g'.may m1 h3 with h|h
    ·rw[e3] at h
     omega
    ·cases h
   ·exact h2 hm
theorem RowV.lo {lo lo':Nat}{e:TypeId}{size k c:Nat}{xs:List Value}{A:Option Addr}{s:List Blk}(h:RowV lo e size k xs A c s)(hl:lo'≤lo):RowV lo' e size k xs A c s:=by
 rcases h with h|⟨b,cs,h1,h2,h3,h4⟩
 ·exact .inl h
 ·exact .inr ⟨b,cs,h1,h2,Nat.le_trans hl h3,h4⟩
theorem NumRow.lo {lo lo':Nat}{T:TypeId}{F:Frag}{n:Nat}{x:Nat→Raw}{v:Value}{s:List Blk}(h:NumRow lo T F n x v s)(hl:lo'≤lo):NumRow lo' T F n x v s:=by
 obtain⟨A,c,l,h1,h2,h3⟩:=h
 exact⟨A,c,l,h1,RowV.lo h2 hl,h3⟩
set_option maxRecDepth 20000 in
set_option maxHeartbeats 4000000 in
theorem one_own (n:Nat)(hn0:0<n)(hn:n≤1000)(w:World)(hT:Tab w):
  Calls Tryz.prog 60 #[.int .i64 (n:Int)] w (ROne n w):=by
 refine calls_b fun g=>?_
 unfold ROne
 have HT:=Lib.hid hT
 have hmk:=make_rows n (by omega)
 obtain⟨i0,hi,hz0,hz1,hz2⟩:=info_parts infoRat
 have b0:Bd 8192 0:=⟨by decide+kernel,by decide+kernel⟩
 have b1:Bd 8192 1:=⟨by decide+kernel,by decide+kernel⟩
 have C0:=Lib.hid (fun w t=>whole_r 0 0 b0 rfl (by decide) (by decide) w t)
 have C1:=Lib.hid (fun w t=>whole_r 1 1 b1 rfl (by decide) (by decide) w t)
 unfold RT1 at C0 C1
 clear hT b0 b1
 have hni:(0:Int)≤(n:Int):=by omega
 go_enter Tryz.func60,Tryz.ntmps60
 go_wp2_with (with_reducible refine yq _ ?_;(try generalize (G.w _).heap.size=bk);(try dsimp only[yi,yj]);(try clear g);intro g)
 obtain⟨ob,rfl⟩:∃ob,ob=bk:=⟨_,rfl⟩
 have OS:=own_start n (fun j=>NumRow w.heap.size 43 (fun _=>none) (lenA n 0 0 j) (rawM oneM j)) (fun j _=>by rw[lenA_start];exact NumRow.nil _ _ _ _)
 go_loopw [11] (fun i wr=>∃k:Nat,i=.int .i64 (k:Int)∧k≤n∧∃(F:Frag) (R:List Blk) (oc:List Value),OwnOn (List.range n) (fun j=>NumRow w.heap.size 43 F (lenA n k 0 j) (rawM oneM j)) R oc∧Hid (oc.length=n)∧F.Nw w∧∃g:G w [] ((ob,38,oc)::R) [F,heapOf w],wr=g.w) (fun i _=>n-(intOf i).toNat)
 case atStart=>
  obtain⟨g2,e2⟩:=g.none_ex
  exact⟨0,rfl,by omega,fun _=>none,[],_,OS,Lib.hid (by simp),Frag.Nw.none w,g2,e2⟩
 case round =>
  clear g OS
  obtain⟨k,rfl,hk,F,R,oc,hown,hocl,hnw,g,rfl⟩:=hrel
  by_cases hkn:k<n
  ·have hki:(k:Int)<(n:Int):=by omega
   go_wp2_with (with_reducible refine yq _ ?_;(try generalize (G.w _).heap.size=bk);(try dsimp only[yi,yj]);(try clear g);intro g)
   go_loopw [15] (fun i wr=>∃j:Nat,i=.int .i64 (j:Int)∧j≤n∧∃(F:Frag) (R:List Blk) (oc:List Value),OwnOn (List.range n) (fun j'=>NumRow w.heap.size 43 F (lenA n k j j') (rawM oneM j')) R oc∧Hid (oc.length=n)∧F.Nw w∧∃g:G w [] ((ob,38,oc)::R) [F,heapOf w],wr=g.w) (fun i _=>n-(intOf i).toNat)
   case atStart=>exact⟨0,rfl,by omega,F,R,oc,hown,hocl,hnw,g,rfl⟩
   case round=>
    clear g hown hocl hnw F R oc
    obtain⟨j,rfl,hj,F,R,oc,hown,hocl,hnw,g,rfl⟩:=hrel
    by_cases hjn:j<n
    ·have hji:(j:Int)<(n:Int):=by omega
     obtain⟨v,s,R',hv,⟨A1,c1,l,rfl,hvr,hl⟩,hp,hbut⟩:=hown.openAt hkn
     rw[lenA_at] at hvr hl hv
     obtain⟨g1,e1⟩:=g.perm (M':=(ob,38,oc)::(s++R')) (hp.cons _)
     rw[e1]
     clear e1 g hown hp
     revert g1
     intro g
     have HL:=Lib.hid hl
     have HB:=Lib.hid hbut
     have hw1:j+1≤maxLen:=by show j+1≤9223372036854775807;omega
     have hw2:(j+1)*56≤140737488355328:=by omega
     clear hl hbut
     obtain⟨z,hz⟩:∃z,oneM k j=z:=⟨_,rfl⟩
     have fin:∀(b2 cap:Nat) (cs:List Value) (F1:Frag) (p q r:Value) (g':G w [] ((ob,38,oc.set k (.slice (some ⟨b2,0,none⟩) (j+1) cap))::(b2,43,cs)::R') [F1,F,heapOf w]),F1.Rt p q r (rawOf z)→F1.Nw w→w.heap.size≤b2→Row 43 3 (j+1) (cells3 l++[p,q,r]) cap cs→∃(F:Frag) (R:List Blk) (oc:List Value),OwnOn (List.range n) (fun j'=>NumRow w.heap.size 43 F (lenA n k (j+1) j') (rawM oneM j')) R oc∧Hid (oc.length=n)∧F.Nw w∧∃g2:G w [] ((ob,38,oc)::R) [F,heapOf w],g'.w=g2.w:=by
      intro b2 cap cs F1 p q r g' h1 hn1 hb2 hrow
      obtain⟨F',g3,e3,hle,hle2,hnew⟩:=g'.merge
      refine⟨F',(b2,43,cs)::R',_,HB.out.closeAt (s:=[(b2,43,cs)]) hkn (List.getElem?_set_self (by have:=hocl.out;omega)) ?_ (fun j' h _=>List.getElem?_set_ne (Ne.symm h)) (fun j' h _ v s hq=>by rw[lenA_ne n h (k':=j)];exact hq.mono hle),Lib.hid (by simp[hocl.out]),fun k' o hk'=>(hnew k' o hk').elim (hnw k' o) (hn1 k' o),g3,e3⟩
      rw[lenA_at]
      exact NumRow.snoc HL.out hle hrow hb2 (by unfold rawM;rw[hz];exact h1.mono hle2)
     by_cases hkj:k=j
     case' pos=>
      have hkjb:((k:Int)==(j:Int))=true:=by simp[hkj]
      have hz1:z=1:=by rw[←hz];unfold oneM;rw[if_pos hkj]
      have CW:=C1
     case' neg=>
      have hkjb:((k:Int)==(j:Int))=false:=by simp;omega
      have hz1:z=0:=by rw[←hz];unfold oneM;rw[if_neg hkj]
      have CW:=C0
     all_goals (as_aux_lemma=>
      subst hz1
      clear hz hkj
      go_upto_region 11 with(with_reducible refine yq _ ?_;(try generalize (G.w _).heap.size=bk);(try dsimp only[yi,yj]);(try clear g);intro g)
      clear C0 C1
      ((try simp only[G.drew_eq,G.drewN_eq]);(refine yq _ ?_;(try generalize (G.w _).heap.size=bk);(try dsimp only[yi,yj]);(try clear g);intro g))
      go_region_law (first
       |(refine step_append_v rfl _ _ 38 rfl 43 i0 _ 3 56 Tryz.underlying38 hi hz0 hz1 hz2 rfl (by decide) 2 _ (Rr:=s) (R':=R') (by rfl) hvr (by rfl) (by exact List.mem_cons_self ..) 1 (by rfl) rfl (three _ _ _ ⟨rfl,rfl,rfl⟩) (by decide) hw1 hw2 ?_;clear hvr;(try clear g);intro b2 cap cs g hb2 hrow2;revert g;dsimp only[List.take,List.cons_append,List.nil_append];intro g)
       |(go_simp;go_at_call 64;(with_reducible refine(CW.out _ ?_).mono ?_);(· exact G.tab _ HT.out);rintro e w1 ⟨pa,qa,ra,Fa,rfl,ha,hn⟩;have hnna:=fun k o hk=>Nat.le_trans (G.chg _).size (hn.new k o hk);obtain⟨sa,Aa,na,ca,Ba,da,ka,rfl,rfl,rfl⟩:=ha.shape;obtain⟨g1,rfl⟩:=G.new_ex _ hn;clear hn;(try clear g);revert g1;intro g))
      all_goals (as_aux_lemma=>
       ((try simp only[G.drew_eq,G.drewN_eq]);(refine yq _ ?_;(try generalize (G.w _).heap.size=bk);(try dsimp only[yi,yj]);(try clear g);intro g))
       go_wp2_with (with_reducible refine yq _ ?_;(try generalize (G.w _).heap.size=bk);(try dsimp only[yi,yj]);(try clear g);intro g)
       obtain⟨g2,hg2⟩:∃g2:G w [] ((ob,38,oc.set k (.slice (some ⟨b2,0,none⟩) (j+1) cap))::(b2,43,cs)::R') [Fa,F,heapOf w],g.w=g2.w:=g.forget 1
       rw[hg2]
       obtain⟨F',R2,oc2,k1,k2,k3,g3,e3⟩:=fin b2 cap cs Fa _ _ _ g2 ha hnna hb2 hrow2
       rw[e3]
       go_roundw
       case rel=>exact⟨j+1,by go_num,by omega,F',R2,oc2,k1,k2,k3,g3,rfl⟩
       case measure=>simp[intOf];omega))
    ·obtain rfl:j=n:=by omega
     go_wp2_with (with_reducible refine yq _ ?_;(try generalize (G.w _).heap.size=bk);(try dsimp only[yi,yj]);(try clear g);intro g)
     go_roundw
     case rel=>exact⟨k+1,by go_num,by omega,F,R,oc,hown.next (fun _ _=>rfl) (fun j hj v s hq=>by rw[←lenA_full];exact hq),hocl,hnw,g,rfl⟩
     case measure=>simp[intOf];omega
  ·obtain rfl:k=n:=by omega
   go_wp2_with (with_reducible refine yq _ ?_;(try generalize (G.w _).heap.size=bk);(try dsimp only[yi,yj]);(try clear g);intro g)
   go_ret
   exact⟨ob,R,oc,F,g,rfl,hocl.out,hown.next (fun _ _=>rfl) (fun j hj v s hq=>by rw[lenA_end (List.mem_range.1 hj)] at hq;exact hq),hnw,rfl⟩
set_option maxRecDepth 20000 in
theorem Turn_r (n m:Nat)(x:Mx)(A:Option Addr)(c:Nat)(w:World)(hA:(heapOf w).Mt A c n (fun _=>m) (rawM x))(hT:Tab w)(n1:1≤n)(n2:n≤24)(m1:1≤m)(m2:m≤24)(bx:∀i,i<n→∀j,j<m→Bd 8192 (x i j)):
  Calls Tryz.prog 16 #[.slice A n c] w (RMtE m (fun _=>n) (rawM (trM x)) w):=by
 refine calls_b fun g=>?_
 unfold RMtE
 have HA:=Lib.hid hA
 have HT:=Lib.hid hT
 have CC:=Lib.hid (fun w h t=>mCheck_any A c n (fun _=>m) (rawM x) w h t)
 rw[matE_ok n1 n2 m1 m2 bx] at CC
 have CTU:=Lib.hid (fun w h=>turn_r A c n m (rawM x) (by omega) (by omega) (by omega) (by omega) (fun i hi j hj=>by
  have:=bx i hi j hj
  exact⟨Nat.le_trans (limbs_256.1 this.1) (by decide),Nat.le_trans (limbs_256.1 this.2) (by decide)⟩) w h)
 unfold RMt at CTU
 clear hA hT bx
 go_enter Tryz.func16,Tryz.ntmps16
 go_wp2_with (with_reducible refine yq _ ?_;(try generalize (G.w _).heap.size=bk);(try dsimp only[yi,yj]);(try clear g);intro g)
 refine(CC.out _ (HA.out.mono (g.sub _ (by simp))) (G.tab g HT.out)).mono ?_
 rintro e w1 ⟨rfl,hb⟩
 obtain⟨g1,rfl⟩:=G.call_ex _ hb
 clear hb
 (try clear g)
 revert g1
 intro g
 go_wp2_with (with_reducible refine yq _ ?_;(try generalize (G.w _).heap.size=bk);(try dsimp only[yi,yj]);(try clear g);intro g)
 refine(CTU.out _ (HA.out.mono (g.sub _ (by simp)))).mono ?_
 rintro e w1 ⟨bt,ct,Ft,rfl,ht,hn⟩
 have hnn:=fun k o hk=>Nat.le_trans g.chg.size (hn.new k o hk)
 obtain⟨g1,rfl⟩:=G.new_ex _ hn
 clear hn
 clear g
 revert g1
 intro g
 go_wp2_with (with_reducible refine yq _ ?_;(try generalize (G.w _).heap.size=bk);(try dsimp only[yi,yj]);(try clear g);intro g)
 go_ret2
 exact⟨bt,ct,Ft,rfl,ht,G.below _,G.sub _ _ (by simp),hnn⟩
set_option maxRecDepth 20000 in
set_option maxHeartbeats 8000000 in
theorem Add_r (n k:Nat)(x y:Mx)(A B:Option Addr)(c cB:Nat)(w:World)(hA:(heapOf w).Mt A c n (fun _=>k) (rawM x))(hB:(heapOf w).Mt B cB n (fun _=>k) (rawM y))(hT:Tab w)(n1:1≤n)(n2:n≤24)(k1:1≤k)(k2:k≤24)
  (bx:∀i,i<n→∀j,j<k→Bd 8192 (x i j)) (by':∀i,i<n→∀j,j<k→Bd 8192 (y i j)) (bs:∀i,i<n→∀j,j<k→Bd 8192 (x i j+y i j)):
  Calls Tryz.prog 14 #[.slice A n c,.slice B n cB] w (RMtE n (fun _=>k) (rawM (addM x y)) w):=by
 refine calls_b fun g=>?_
 unfold RMtE
 have HA:=Lib.hid hA
 have HB:=Lib.hid hB
 have HT:=Lib.hid hT
 have CC:=Lib.hid (fun bs w h h' h0 h1 t=>check2_any A B c n cB n bs (fun _=>k) (fun _=>k) (rawM x) (rawM y) w h h' h0 h1 t)
 rw[matE_ok n1 n2 k1 k2 bx,matE_ok n1 n2 k1 k2 by',if_pos rfl] at CC
 have CP:=Lib.hid (fun i (hi:i<n) j (hj:j<k) p q r p' q' r' sb w a b st t=>splus_r (x i j) (y i j) (x i j+y i j) (bx i hi j hj) (by' i hi j hj) (bs i hi j hj) rfl p q r p' q' r' sb w a b st t)
 unfold RT1 at CP
 obtain⟨bb2,o2,rfl,hrowB⟩:=hB.rowAt (by omega)
 have HRB:=Lib.hid hrowB
 obtain⟨B1,k3,hh1,hrw1⟩:=hrowB 0 (by omega)
 have E1:∀(M:List Blk) (g:G w [] M [heapOf w]),g.w.cell? ⟨bb2,o2,none⟩=some (.slice B1 k k3):=fun M g=>hh1 _ _ _ _ g (InF.head _ _)
 have hmk:=make_rows n (by omega)
 obtain⟨i0,hi,hz0,hz1,hz2⟩:=info_parts infoRat
 obtain⟨b,o,rfl,hrow⟩:=hA.rowAt (by omega)
 have HR:=Lib.hid hrow
 obtain⟨B0,k0,hh0,hrw0⟩:=hrow 0 (by omega)
 have E0:∀(M:List Blk) (g:G w [] M [heapOf w]),g.w.cell? ⟨b,o,none⟩=some (.slice B0 k k0):=fun M g=>hh0 _ _ _ _ g (InF.head _ _)
 have hni:(0:Int)<(n:Int):=by omega
 obtain⟨z,hz⟩:∃z,addM x y=z:=⟨_,rfl⟩
 have CF2:Hid (∀i,i<n→∀j,j<k→∀(p q r p' q' r':Value) (sb:Nat) (w:World),RtW w p q r (rawM x i j)→RtW w p' q' r' (rawM y i j)→SumW w sb→Tab w→Calls Tryz.prog 59 #[.pointer (some ⟨sb,0,none⟩),.agg #[p,q,r],.agg #[p',q',r']] w fun e w'=>∃p q r H,e=.returned (.agg #[p,q,r])∧Frag.Rt H p q r (rawM z i j)∧New w w' H):=Lib.hid (fun i hi j hj p q r p' q' r' sb w a b st t=>by rw[←hz];exact CP.out i hi j hj p q r p' q' r' sb w a b st t)
 rw[hz]
 have hn0i:(0:Int)<(n:Int):=by omega
 have hn0:0<n:=by omega
 clear hA hB hT bx by' bs hrow hh0 hrw0 hrowB hh1 hrw1 hz CP
 go_enter Tryz.func14,Tryz.ntmps14
 go_wp2_with (with_reducible refine yq _ ?_;(try generalize (G.w _).heap.size=bk);(try dsimp only[yi,yj]);(try clear g);intro g)
 (try(refine cmark _ ?_;(try dsimp only[yi,yj]);(try clear g);intro g))
 refine(CC.out _ _ (HA.out.mono (g.sub _ (by simp))) (HB.out.mono (g.sub _ (by simp))) (G.cell0 g 0) (G.cell0 g 1) (G.tab g HT.out)).mono ?_
 rintro e w1 ⟨rfl,hb⟩
 obtain⟨g1,rfl⟩:=G.call_ex _ hb
 clear hb
 (try clear g)
 revert g1
 intro g
 go_wp2_with (with_reducible refine yq _ ?_;(try generalize (G.w _).heap.size=bk);(try dsimp only[yi,yj]);(try clear g);intro g)
 ((try simp only[G.drew_eq,G.drewN_eq]);(refine yq _ ?_;(try generalize (G.w _).heap.size=bk);(try dsimp only[yi,yj]);(try clear g);intro g))
 clear CC
 refine wp_region_held_drew (S:=(fun w'=>w'.cell? ⟨b,o,none⟩=some (.slice B0 k k0)∧w'.cell? ⟨bb2,o2,none⟩=some (.slice B1 k k3))) (by kernel_rfl) (by(constructor<;>go_simp)) (fun hHeld=>?_)
 refine tk0 [0,1,2,3,4,5,6,7,8,9,10,11,12,13,14,15] ?_
 repeat (refine tkc rfl (by kernel_rfl) (fun _ _ _ h=>h) (by rfl) ‹_› (by intro w hSw;(try dsimp only at hSw);go_simp;(try with_reducible rfl)) ?_;try simp only[Act.put,yk,yl,yn,yo,yi,yj])
 refine tkn ?_
 refine wpAnyH_done (by kernel_rfl) ?_ _
 skip
 (try clear hHeld)
 clear E0 E1
 ((try simp only[G.drew_eq,G.drewN_eq]);(refine yq _ ?_;(try generalize (G.w _).heap.size=bk);(try dsimp only[yi,yj]);(try clear g);intro g))
 go_wp2_with (with_reducible refine yq _ ?_;(try generalize (G.w _).heap.size=bk);(try dsimp only[yi,yj]);(try clear g);intro g)
 obtain⟨ob,rfl⟩:∃ob,ob=bk:=⟨_,rfl⟩
 obtain⟨sb,rfl⟩:∃sb,sb=bk:=⟨_,rfl⟩
 have OS:=own_start n (fun j=>NumRow w.heap.size 43 (fun _=>none) (lenA k 0 0 j) (rawM z j)) (fun j _=>by rw[lenA_start];exact NumRow.nil _ _ _ _)
 obtain⟨g2,hg2⟩:∃g2:G w [] [(ob,38,List.replicate n (Value.slice none 0 0)),(sb,78,[Value.int .i64 0])] [heapOf w],g.w=g2.w:=g.less ((List.Sublist.refl _).cons_cons _|>.cons_cons _|>.trans (by simp))
 rw[hg2]
 clear hg2
 clear g
 revert g2
 intro g
 go_loopw [43] (fun i wr=>∃i':Nat,i=.int .i64 (i':Int)∧i'≤n∧∃(F:Frag) (R:List Blk) (oc:List Value),OwnOn (List.range n) (fun j=>NumRow w.heap.size 43 F (lenA k i' 0 j) (rawM z j)) R oc∧Hid (oc.length=n)∧F.Nw w∧∃g:G w [] ((ob,38,oc)::(sb,78,[Value.int .i64 0])::R) [F,heapOf w],wr=g.w) (fun i _=>n-(intOf i).toNat)
 case atStart=>
  obtain⟨g2,e2⟩:=g.none_ex
  exact⟨0,rfl,by omega,fun _=>none,[],_,OS,Lib.hid (by simp),Frag.Nw.none w,g2,e2⟩
 case round=>
  clear g OS
  obtain⟨i,rfl,hi9,F,R,oc,hown,hocl,hnw,g,rfl⟩:=hrel
  by_cases hin:i<n
  ·have hii:(i:Int)<(n:Int):=by omega
   obtain⟨Br,kr,hh,hrw⟩:=HR.out i hin
   obtain⟨Bs,ks,hh2,hrw2⟩:=HRB.out i hin
   obtain⟨ba,oa,rfl,hna⟩:=hrw.num k1
   obtain⟨by2,oy,rfl,hny⟩:=hrw2.num k1
   have EH:∀(M:List Blk) (F:Frag) (g:G w [] M [F,heapOf w]),g.w.cell? ⟨b,o+i,none⟩=some (.slice (some ⟨ba,oa,none⟩) k kr):=fun M F g=>hh _ _ _ _ g (InF.tail (InF.head _ _))
   have EH2:Hid (∀(M:List Blk) (F:Frag) (g:G w [] M [F,heapOf w]),g.w.cell? ⟨bb2,o2+i,none⟩=some (.slice (some ⟨by2,oy,none⟩) k ks)):=Lib.hid (fun M F g=>hh2 _ _ _ _ g (InF.tail (InF.head _ _)))
   have HNA:=Lib.hid hna
   have HNY:=Lib.hid hny
   have hki0:(0:Int)≤(k:Int):=by omega
   clear hh hrw hh2 hrw2 hna hny
   go_wp2_with (with_reducible refine yq _ ?_;(try generalize (G.w _).heap.size=bk);(try dsimp only[yi,yj]);(try clear g);intro g)
   go_loopw [50] (fun jj wr=>∃j:Nat,jj=.int .i64 (j:Int)∧j≤k∧∃(F:Frag) (R:List Blk) (oc:List Value),OwnOn (List.range n) (fun j'=>NumRow w.heap.size 43 F (lenA k i j j') (rawM z j')) R oc∧Hid (oc.length=n)∧F.Nw w∧∃g:G w [] ((ob,38,oc)::(sb,78,[Value.int .i64 0])::R) [F,heapOf w],wr=g.w) (fun i _=>k-(intOf i).toNat)
   case atStart=>exact⟨0,rfl,by omega,F,R,oc,hown,hocl,hnw,g,rfl⟩
   case round=>
    clear g hown hocl hnw F R oc
    obtain⟨j,rfl,hj,F,R,oc,hown,hocl,hnw,g,rfl⟩:=hrel
    by_cases hjk:j<k
    ·have hji:(j:Int)<(k:Int):=by omega
     obtain⟨v,s,R',hv,⟨A1,c1,l,rfl,hvr,hl⟩,hp,hbut⟩:=hown.openAt hin
     rw[lenA_at] at hvr hl hv
     obtain⟨g1,e1⟩:=g.perm (M':=(ob,38,oc)::(sb,78,[Value.int .i64 0])::(s++R')) ((hp.cons _).cons _)
     rw[e1]
     clear e1 g hown hp
     revert g1
     intro g
     obtain⟨p,q,r,h3,hrt⟩:=HNA.out j hjk
     obtain⟨sx,Px,nx,dx,Qx,mx,ex,rfl,rfl,rfl⟩:=hrt.shape
     obtain⟨p,q,r,h4,hrt2⟩:=HNY.out j hjk
     obtain⟨sy,Py,ny,dy,Qy,my,ey,rfl,rfl,rfl⟩:=hrt2.shape
     have X0:∀(M:List Blk) (F:Frag) (g:G w [] M [F,heapOf w]),g.w.cell? ⟨ba,oa+j*3,none⟩=some (.bool sx):=fun M F g=>(h3 _ _ _ _ g (InF.tail (InF.head _ _))).1
     have X1:∀(M:List Blk) (F:Frag) (g:G w [] M [F,heapOf w]),g.w.cell? ⟨ba,oa+j*3+1,none⟩=some (.slice Px nx dx):=fun M F g=>(h3 _ _ _ _ g (InF.tail (InF.head _ _))).2.1
     have X2:∀(M:List Blk) (F:Frag) (g:G w [] M [F,heapOf w]),g.w.cell? ⟨ba,oa+j*3+2,none⟩=some (.slice Qx mx ex):=fun M F g=>(h3 _ _ _ _ g (InF.tail (InF.head _ _))).2.2
     have Y0:∀(M:List Blk) (F:Frag) (g:G w [] M [F,heapOf w]),g.w.cell? ⟨by2,oy+j*3,none⟩=some (.bool sy):=fun M F g=>(h4 _ _ _ _ g (InF.tail (InF.head _ _))).1
     have Y1:∀(M:List Blk) (F:Frag) (g:G w [] M [F,heapOf w]),g.w.cell? ⟨by2,oy+j*3+1,none⟩=some (.slice Py ny dy):=fun M F g=>(h4 _ _ _ _ g (InF.tail (InF.head _ _))).2.1
     have Y2:∀(M:List Blk) (F:Frag) (g:G w [] M [F,heapOf w]),g.w.cell? ⟨by2,oy+j*3+2,none⟩=some (.slice Qy my ey):=fun M F g=>(h4 _ _ _ _ g (InF.tail (InF.head _ _))).2.2
     have EJ:=EH2.out
     have HRX:=Lib.hid hrt
     have HRY:=Lib.hid hrt2
     have HL:=Lib.hid hl
     have HBU:=Lib.hid hbut
     have hw1:j+1≤maxLen:=by show j+1≤9223372036854775807;omega
     have hw2:(j+1)*56≤140737488355328:=by omega
     clear h3 h4 hrt hrt2 hl hbut
     go_upto_region 14 with(with_reducible refine yq _ ?_;(try generalize (G.w _).heap.size=bk);(try dsimp only[yi,yj]);(try clear g);intro g)
     clear X0 X1 X2
     ((try simp only[G.drew_eq,G.drewN_eq]);(refine yq _ ?_;(try generalize (G.w _).heap.size=bk);(try dsimp only[yi,yj]);(try clear g);intro g))
     go_region_law (first
      |(refine step_append_v rfl _ _ 38 rfl 43 i0 _ 3 56 Tryz.underlying38 hi hz0 hz1 hz2 rfl (by decide) 4 _ (Rr:=s) (R':=R') (by rfl) hvr (by rfl) (by exact List.mem_cons_self ..) 1 (by rfl) rfl (three _ _ _ ⟨rfl,rfl,rfl⟩) (by decide) hw1 hw2 ?_;clear hvr;(try clear g);intro b2 cap cs g hb2 hrow2;revert g;dsimp only[List.take,List.cons_append,List.nil_append];intro g)
      |(go_simp;go_at_call 59;(with_reducible refine(CF2.out i hin j hjk _ _ _ _ _ _ _ _ ?_ ?_ ?_ ?_).mono ?_);(· exact G.rtI _ (by simp) HRX.out);(· exact G.rtI _ (by simp) HRY.out);(· exact G.sumM _ (by simp));(· exact G.tab _ HT.out);rintro e w1 ⟨pa,qa,ra,Fa,rfl,ha,hn⟩;have hnna:=fun k o hk=>Nat.le_trans (G.chg _).size (hn.new k o hk);obtain⟨sa,Aa,na,ca,Ba,da,ka,rfl,rfl,rfl⟩:=ha.shape;obtain⟨g1,rfl⟩:=G.new_ex _ hn;clear hn;(try clear g);revert g1;intro g))
     all_goals (as_aux_lemma=>
      ((try simp only[G.drew_eq,G.drewN_eq]);(refine yq _ ?_;(try generalize (G.w _).heap.size=bk);(try dsimp only[yi,yj]);(try clear g);intro g))
      go_wp2_with (with_reducible refine yq _ ?_;(try generalize (G.w _).heap.size=bk);(try dsimp only[yi,yj]);(try clear g);intro g)
      obtain⟨g2,hg2⟩:∃g2:G w [] ((ob,38,oc.set i (.slice (some ⟨b2,0,none⟩) (j+1) cap))::(sb,78,[Value.int .i64 0])::(b2,43,cs)::R') [Fa,F,heapOf w],g.w=g2.w:=g.forget 2
      rw[hg2]
      obtain⟨F',g3,e3,hle,hle2,hnew⟩:=g2.merge
      rw[e3]
      go_roundw
      case rel=>
       refine⟨j+1,by go_num,by omega,F',(b2,43,cs)::R',_,HBU.out.closeAt (s:=[(b2,43,cs)]) hin (List.getElem?_set_self (by have:=hocl.out;omega)) ?_ (fun j' h _=>List.getElem?_set_ne (Ne.symm h)) (fun j' h _ v s hq=>?_),Lib.hid (by simp[hocl.out]),fun k' o hk'=>(hnew k' o hk').elim (hnw k' o) (hnna k' o),g3,rfl⟩
       ·rw[lenA_at]
        exact NumRow.snoc HL.out hle hrow2 hb2 (ha.mono hle2)
       ·rw[lenA_ne k h (k':=j)]
        exact hq.mono hle
      case measure=>simp[intOf];omega)
    ·obtain rfl:j=k:=by omega
     go_wp2_with (with_reducible refine yq _ ?_;(try generalize (G.w _).heap.size=bk);(try dsimp only[yi,yj]);(try clear g);intro g)
     go_roundw
     case rel=>exact⟨i+1,by go_num,by omega,F,R,oc,hown.next (fun _ _=>rfl) (fun j hj v s hq=>by rw[←lenA_full];exact hq),hocl,hnw,g,rfl⟩
     case measure=>simp[intOf];omega
  ·obtain rfl:i=n:=by omega
   go_wp2_with (with_reducible refine yq _ ?_;(try generalize (G.w _).heap.size=bk);(try dsimp only[yi,yj]);(try clear g);intro g)
   refine(mresult_any sb _ _ _ _ (G.sumM g (by simp))).mono ?_
   rintro e w1 ⟨rfl,hb⟩
   obtain⟨g1,rfl⟩:=G.call_ex _ hb
   clear hb
   (try clear g)
   revert g1
   intro g
   go_wp2_with (with_reducible refine yq _ ?_;(try generalize (G.w _).heap.size=bk);(try dsimp only[yi,yj]);(try clear g);intro g)
   go_ret2
   obtain⟨g1,e1⟩:=g.perm (M':=(ob,38,oc)::(R++[(sb,78,[Value.int .i64 0])])) ((List.perm_append_singleton _ _).symm.cons _)
   obtain⟨F',g',e',hmt,_,hnw'⟩:=g1.freeze (m:=lenA k i 0) (x:=rawM z) hown hnw (by omega) (fun i _=>by unfold lenA;split<;>(try split)<;>omega)
   exact⟨ob,i,F',rfl,hmt.congr (fun i hi=>lenA_end hi) (fun _ _ _ _=>rfl),by rw[e1,e'];exact g'.newF hnw'⟩
/-- no matrix, and an error -/
def RErr (E:Int)(w:World)(e:Ending)(w':World):Prop:=e=.returned (.tuple #[.slice none 0 0,.int .i64 E])∧Below w.heap.size w w'
theorem matE_pos {n:Nat}{m:Nat→Nat}{x:Nat→Nat→Raw}(h:matE n m x=0):(1≤n∧n≤24)∧1≤m 0∧m 0≤24:=by
 unfold matE at h
 by_cases h1:shpE n (m 0)=0
 ·unfold shpE at h1
  by_cases h2:n<1∨24<n∨m 0<1∨24<m 0
  ·rw[if_pos h2] at h1;cases h1
  ·omega
 ·rw[if_neg h1] at h;exact absurd h h1
set_option maxRecDepth 20000 in
theorem Mul_t (n n':Nat)(m m':Nat→Nat)(x x':Nat→Nat→Raw)(A B:Option Addr)(c c':Nat)(w:World)(hA:(heapOf w).Mt A c n m x)(hB:(heapOf w).Mt B c' n' m' x')(hT:Tab w)(h1:matE n m x=0)(h2:matE n' m' x'=0)(h0:m 0≠n'):
  Calls Tryz.prog 13 #[.slice A n c,.slice B n' c'] w (RErr 10 w):=by
 refine calls_b fun g=>?_
 unfold RErr
 have HA:=Lib.hid hA
 have HB:=Lib.hid hB
 have HT:=Lib.hid hT
 have CC:=Lib.hid (fun bs w h h' h0 h1 t=>check2_any A B c n c' n' bs m m' x x' w h h' h0 h1 t)
 rw[h1,h2,if_pos rfl] at CC
 have hp:=matE_pos h1
 obtain⟨b,o,rfl,hrow⟩:=hA.rowAt (by omega)
 obtain⟨B0,k0,hh0,hrw0⟩:=hrow 0 (by omega)
 generalize m 0=m0 at*
 have E0:∀(M:List Blk) (g:G w [] M [heapOf w]),g.w.cell? ⟨b,o,none⟩=some (.slice B0 m0 k0):=fun M g=>hh0 _ _ _ _ g (InF.head _ _)
 have hnb:((m0:Int)==(n':Int))=false:=by simp;omega
 have hn0i:(0:Int)<(n:Int):=by omega
 have hn0:0<n:=by omega
 clear hA hB hT h1 h2 hrow hh0 hrw0 hp
 go_enter Tryz.func13,Tryz.ntmps13
 go_wp2_with (with_reducible refine yq _ ?_;(try generalize (G.w _).heap.size=bk);(try dsimp only[yi,yj]);(try clear g);intro g)
 (try(refine cmark _ ?_;(try dsimp only[yi,yj]);(try clear g);intro g))
 refine(CC.out _ _ (HA.out.mono (g.sub _ (by simp))) (HB.out.mono (g.sub _ (by simp))) (G.cell0 g 0) (G.cell0 g 1) (G.tab g HT.out)).mono ?_
 rintro e w1 ⟨rfl,hb⟩
 obtain⟨g1,rfl⟩:=G.call_ex _ hb
 clear hb
 (try clear g)
 revert g1
 intro g
 go_wp2_with (with_reducible refine yq _ ?_;(try generalize (G.w _).heap.size=bk);(try dsimp only[yi,yj]);(try clear g);intro g)
 go_ret2
 exact⟨rfl,G.below _⟩
theorem rowsE_m {m:Nat→Nat}{x:Nat→Nat→Raw}:∀ {n:Nat},rowsE m x n=0→∀i,i<n→m i=m 0
 |0,_,i,h=>absurd h (Nat.not_lt_zero i)
 |n+1,h,i,hi=>by
  unfold rowsE at h
  by_cases h0:rowsE m x n=0
  ·rw[if_pos h0] at h
   by_cases hin:i=n
   ·subst hin
    unfold rowE at h
    by_cases h1:m i=m 0
    ·exact h1
    ·rw[if_neg h1] at h;exact absurd h (by decide)
   ·exact rowsE_m h0 i (by omega)
  ·rw[if_neg h0] at h;exact absurd h h0
theorem matE_m {n:Nat}{m:Nat→Nat}{x:Nat→Nat→Raw}(h:matE n m x=0):∀i,i<n→m i=m 0:=by
 have hp:=matE_pos h
 unfold matE at h
 rw[if_pos (show shpE n (m 0)=0 from by unfold shpE;rw[if_neg (by omega)])] at h
 exact rowsE_m h
end Go.Proofs.YthhbbnfnejjpiaaGreatDoor
namespace Go.Proofs.YthhbbnfnejjpiaaGreatDoor
open Go.RowKit GW NL
def zeroT:Tri:=(.bool false,.slice none 0 0,.slice none 0 0)
theorem made3 (n:Nat):(madeCells (Value.agg #[.bool false,.slice none 0 0,.slice none 0 0]).cells (n*3)).toList=cells3 (List.replicate n zeroT):=by
 have hz:(Value.agg #[.bool false,.slice none 0 0,.slice none 0 0]).cells= #[.bool false,.slice none 0 0,.slice none 0 0]:=by rfl
 rw[hz]
 apply List.ext_getElem?
 intro j
 by_cases hj:j<n*3
 ·have hq:j/3<n:=by omega
  obtain⟨h1,h2,h3⟩:=cells3_get (List.replicate n zeroT) (j/3) zeroT (by simp[hq])
  have hm:j%3=0∨j%3=1∨j%3=2:=by omega
  rcases hm with hm|hm|hm
  ·rw[←show j=j/3*3 by omega] at h1
   rw[h1]
   simp[madeCells,hj,hm,zeroT]
  ·rw[←show j=j/3*3+1 by omega] at h2
   rw[h2]
   simp[madeCells,hj,hm,zeroT]
  ·rw[←show j=j/3*3+2 by omega] at h3
   rw[h3]
   simp[madeCells,hj,hm,zeroT]
 ·rw[List.getElem?_eq_none (by simp[madeCells];omega),List.getElem?_eq_none (by rw[cells3_len];simp;omega)]
theorem make_rats (n:Nat)(hn:n≤1000000)(w:World):(Instr.makeSlice 38 (.int .i64 (n:Int)) (.int .i64 (n:Int))).run Tryz.prog w=.ok (.slice (some ⟨w.heap.size,0,none⟩) n n) (w.alloc (.cells (cells3 (List.replicate n zeroT)).toArray 43)):=by
 obtain⟨i0,hi,hz0,hz1,hz2⟩:=info_parts infoRat
 have h:=run_make (P:=Tryz.prog) w 38 43 i0 _ Tryz.underlying38 hi hz0 .i64 .i64 n n (by omega) (by omega) (by rw[hz2];omega) (by omega)
 rw[hz1] at h
 simp only[Int.toNat_natCast] at h
 rw[h]
 have:madeCells (Value.agg #[.bool false,.slice none 0 0,.slice none 0 0]).cells (n*3)=(cells3 (List.replicate n zeroT)).toArray:=by
  apply Array.toList_inj.1
  exact(made3 n).trans (by simp)
 rw[this]
open Go.RowKit GW NL MX
/-- the number 2^8192 - 1, limb by limb -/
def tG:Raw:=(false,List.replicate 256 4294967295,[1])
theorem g_tops:∀n,val (List.replicate n 4294967295)+1=4294967296^n
 |0=>rfl
 |n+1=>by
  have:=g_tops n
  rw[List.replicate_succ,Nat.pow_succ]
  show 4294967295+4294967296*val (List.replicate n 4294967295)+1=_
  omega
theorem g_chk:chk (List.replicate 256 4294967295)=0:=by
 unfold chk
 rw[List.length_replicate,if_neg (by decide),if_neg]
 rintro⟨_,h⟩
 rw[List.getD_eq_getElem?_getD,List.getElem?_replicate,if_pos (by decide)] at h
 exact absurd h (by decide)
theorem g_val:val (List.replicate 256 4294967295)=2^8192-1:=by
 have:=g_tops 256
 have e:(4294967296:Nat)^256=2^8192:=by decide+kernel
 omega
theorem g_one:chk [1]=0:=by
 rw[←lim1 (show 1<4294967296 by decide) (by decide)]
 exact chk_limbs (Nat.pow_lt_pow_right (show 1<2 by decide) (show 0<8192 by decide))
theorem rchk_great:rchk false (List.replicate 256 4294967295) [1]=0:=by
 unfold rchk
 rw[g_chk,g_one,show val [1]=1 from by decide]
 generalize val (List.replicate 256 4294967295)=V
 rw[if_neg (by decide),if_neg (by decide),if_neg (by decide),if_neg (by
  rintro(⟨h,_⟩|h)
  ·exact absurd h (by decide)
  ·exact h (Nat.gcd_one_right V))]
theorem mat_great:matE 1 (fun _=>1) (fun _ _=>tG)=0:=by
 unfold matE
 rw[if_pos (by decide)]
 refine rowsE_ok fun i hi=>?_
 unfold rowE
 rw[if_pos rfl]
 exact listE_ok fun j hj=>rchk_great
theorem add_over (p q r p' q' r':Value)(w:World)(h:RtW w p q r tG)(h':RtW w p' q' r' tG)(hT:Tab w):
  Calls Tryz.prog 101 #[.agg #[p,q,r],.agg #[p',q',r']] w fun e w'=>∃A c B k,e=.returned (.tuple #[.agg #[.bool false,.slice A 0 c,.slice B 0 k],.int .i64 5])∧Below w.heap.size w w':=by
 obtain⟨rfl,⟨A1,c1,rfl,h1⟩,B1,k1,rfl,j1⟩:=h
 obtain⟨rfl,⟨A2,c2,rfl,h2⟩,B2,k2,rfl,j2⟩:=h'
 have H:=qAdd_any false false A1 B1 A2 B2 c1 k1 c2 k2 _ _ _ _ w h1 j1 h2 j2 hT
 have e3:fr false (List.replicate 256 4294967295) [1]+fr false (List.replicate 256 4294967295) [1]=frac false (2^8193-2) 1:=by
  unfold fr
  rw[g_val,show val [1]=1 from by decide,frac_add_same false (by decide) (by decide)]
 have e4:out2 (rchk false (List.replicate 256 4294967295) [1]) (rchk false (List.replicate 256 4294967295) [1]) (outX (fr false (List.replicate 256 4294967295) [1]+fr false (List.replicate 256 4294967295) [1]))=(false,0,0,5):=by
  obtain⟨p1,p2,p3⟩:rneg (frac false (2^8193-2) 1)=false∧rn (frac false (2^8193-2) 1)=2^8193-2∧(frac false (2^8193-2) 1).den=1:=frac_parts (by decide) (Nat.gcd_one_right _) (by intro h;cases h)
  rw[rchk_great,e3]
  unfold out2 outX outP
  rw[p1,p2,p3]
  rw[if_neg (by decide),if_neg (by decide),if_neg (by
   intro h
   have h1:=h.1
   have h2:(2:Nat)^8193=2^8192*2:=Nat.pow_succ ..
   have h3:(2:Nat)^1≤2^8192:=Nat.pow_le_pow_right (by decide) (by decide)
   omega)]
 refine H.mono fun e w' h=>?_
 unfold RPE at h
 rw[show out2 (rchk false tG.2.1 tG.2.2) (rchk false tG.2.1 tG.2.2) (outX (fr false tG.2.1 tG.2.2+fr false tG.2.1 tG.2.2))=(false,0,0,5) from e4] at h
 simp only[limbs_zero] at h
 obtain⟨A,c,F,B,k,H',h1,_,_,h4,_⟩:=h
 exact⟨A,c,B,k,h1,h4.below⟩
/-- take notes an error -/
theorem stake_set {w0:World}{M:List Blk}{I:List Frag}{sb:Nat}(g:G w0 [] ((sb,78,[Value.int .i64 0])::M) I)(s:Bool)(A B:Option Addr)(n c d k:Nat):
  Calls Tryz.prog 100 #[.pointer (some ⟨sb,0,none⟩),.agg #[.bool s,.slice A n c,.slice B d k],.int .i64 5] g.w fun e w'=>e=.returned (.agg #[.bool s,.slice A n c,.slice B d k])∧∃g':G w0 [] ((sb,78,[Value.int .i64 5])::M) I,w'=g'.w:=by
 go_enter Tryz.func100,Tryz.ntmps100
 go_wp2_with (with_reducible refine yq _ ?_;(try generalize (G.w _).heap.size=bk);(try dsimp only[yi,yj]);(try clear g);intro g)
 refine bodyPost_ret (v:=.agg #[.bool s,.slice A n c,.slice B d k]) (by simp[results,Tryz.results100,go_sem]) rfl ?_
 refine⟨rfl,?_⟩
 exact G.less _ (by repeat (first|exact List.Sublist.refl _|refine .cons _ ?_))
theorem G.front3 {w0:World}{X:List Nat}{a b c d:Blk}{M:List Blk}{I:List Frag}(g:G w0 X (a::b::c::d::M) I):∃g':G w0 X (d::a::b::c::M) I,g.w=g'.w:=g.perm (List.perm_middle (l₁:=[a,b,c]) (a:=d) (l₂:=M))
/-- a sum that does not fit notes the error -/
theorem splus_over {w0:World}{M:List Blk}{I:List Frag}{sb:Nat}(g:G w0 [] ((sb,78,[Value.int .i64 0])::M) I){F:Frag}(hF:F∈I)(p q r p' q' r':Value)(h:F.Rt p q r tG)(h':F.Rt p' q' r' tG)(hT:Tab w0):
  Calls Tryz.prog 59 #[.pointer (some ⟨sb,0,none⟩),.agg #[p,q,r],.agg #[p',q',r']] g.w fun e w'=>∃A c B k,e=.returned (.agg #[.bool false,.slice A 0 c,.slice B 0 k])∧∃g':G w0 [] ((sb,78,[Value.int .i64 5])::M) I,w'=g'.w:=by
 have HT:=Lib.hid hT
 obtain⟨s1,A1,n1,c1,B1,d1,k1,rfl,rfl,rfl⟩:=h.shape
 obtain⟨s2,A2,n2,c2,B2,d2,k2,rfl,rfl,rfl⟩:=h'.shape
 have H1:=Lib.hid h
 have H2:=Lib.hid h'
 have C:=Lib.hid (fun p q r p' q' r' w a b t=>add_over p q r p' q' r' w a b t)
 clear h h' hT
 go_enter Tryz.func59,Tryz.ntmps59
 go_wp2_with (with_reducible refine yq _ ?_;(try generalize (G.w _).heap.size=bk);(try dsimp only[yi,yj]);(try clear g);intro g)
 refine(C.out _ _ _ _ _ _ _ (G.rtI g hF H1.out) (G.rtI g hF H2.out) (G.tab g HT.out)).mono ?_
 rintro e w1 ⟨A,c,B,k,rfl,hb⟩
 obtain⟨g1,rfl⟩:=G.call_ex _ hb
 clear hb g
 revert g1
 intro g
 go_wp2_with (with_reducible refine yq _ ?_;(try generalize (G.w _).heap.size=bk);(try dsimp only[yi,yj]);(try clear g);intro g)
 obtain⟨g1,e1⟩:=G.front3 g
 rw[e1]
 clear e1 g
 revert g1
 intro g
 refine(stake_set g false A B 0 c 0 k).mono ?_
 rintro e w1 ⟨rfl,g1,rfl⟩
 clear g
 revert g1
 intro g
 go_wp2_with (with_reducible refine yq _ ?_;(try generalize (G.w _).heap.size=bk);(try dsimp only[yi,yj]);(try clear g);intro g)
 refine bodyPost_ret (v:=.agg #[.bool false,.slice A 0 c,.slice B 0 k]) (by simp[results,Tryz.results59,go_sem]) rfl ?_
 refine⟨_,_,_,_,rfl,?_⟩
 exact G.less _ (List.Sublist.cons_cons _ (by repeat (first|exact List.Sublist.refl _|refine .cons _ ?_)))
theorem G.third {w0:World}{X:List Nat}{a b c:Blk}{M:List Blk}{I:List Frag}(g:G w0 X (a::b::c::M) I):∃g':G w0 X (c::a::b::M) I,g.w=g'.w:=g.perm (List.perm_middle (l₁:=[a,b]) (a:=c) (l₂:=M))
theorem G.third' {w0:World}{X:List Nat}{a b c:Blk}{M:List Blk}{I:List Frag}(g:G w0 X (c::a::b::M) I):∃g':G w0 X (a::b::c::M) I,g.w=g'.w:=g.perm (List.perm_middle (l₁:=[a,b]) (a:=c) (l₂:=M)).symm
theorem wp_append_v2 {w0:World}{X:List Nat}{M:List Blk}{I:List Frag}{P:Program}{o:Oper}{a:Act}{K:Act→World→Prop}{Q:Exit→Act→World→Prop}(hgd:o.guard=none)(s x:Operand)(t:TypeId)
  (ho:o.op=.call {callee:=.builtin .append,args:= #[s,x],argTypes:= #[t,t]})
  (e:TypeId) (i:TypeInfo) (z:Value) (size bytes:Nat) (ht:P.underlying t=some (.slice e)) (hi:P.info? e=some i) (hz:i.zero=some z)
  (hsize:i.size=size) (hby:i.bytes=bytes) (hzs:z.cells.size=size) (hsz:0<size)
  (n₀:Nat) (g:G w0 X M I) {Rr R':List Blk} (hM:M.drop n₀=Rr++R') {A:Option Addr} {c k:Nat} {xs:List Value} (hv:RowV w0.heap.size e size k xs A c Rr) (hs:a.eval s=.slice A k c)
  {bs:Nat} {news:List Value} (hbs:(bs,e,news)∈M.take n₀) (m:Nat) (hx:a.eval x=.slice (some ⟨bs,0,none⟩) m m) (hl:news.length=m*size) (h1:∀u∈news,u.oneCell'=true)
  (hm:0<m) (h63:k+m≤maxLen) (hbytes:(k+m)*bytes≤140737488355328)
  (h:∀b cap cs,∀g':G w0 X (M.take n₀++(b,e,cs)::R') I,w0.heap.size≤b→Row e size (k+m) (xs++news) cap cs→K (a.put o.dst (.slice (some ⟨b,0,none⟩) (k+m) cap)) g'.w):
  Oper.wp P o a g.w K Q:=by
 have h2:=step_append_v (ops:= #[]) (E:=True) (Q:=Q) hgd s x t ho e i z size bytes ht hi hz hsize hby hzs hsz n₀ g hM hv hs hbs m hx hl h1 hm h63 hbytes h
 rwa[if_pos (by simp[Region.wanted,hgd])] at h2
theorem mresult_err {w0:World}{M:List Blk}{I:List Frag}{sb:Nat}(g:G w0 [] ((sb,78,[Value.int .i64 5])::M) I)(A:Option Addr)(n c:Nat):
  Calls Tryz.prog 58 #[.pointer (some ⟨sb,0,none⟩),.slice A n c] g.w fun e w'=>e=.returned (.tuple #[.slice none 0 0,.int .i64 5])∧∃g':G w0 [] M I,w'=g'.w:=by
 go_enter Tryz.func58,Tryz.ntmps58
 go_wp2_with (with_reducible refine yq _ ?_;(try generalize (G.w _).heap.size=bk);(try dsimp only[yi,yj]);(try clear g);intro g)
 refine wp_region_held_drew (S:=(fun w'=>w'.cell? ⟨sb,0,none⟩=some (.int .i64 5))) (by kernel_rfl) (by(simp[go_sem];done)) (fun hHeld=>?_)
 refine tk0 [0,1,2,3,4,5] ?_
 iterate 6 (refine tkc rfl (by kernel_rfl) (fun _ _ _ h=>h) (by rfl) ‹_› (by intro w hSw;(try dsimp only at hSw);go_simp;(try with_reducible rfl)) ?_;try simp only[Act.put,yk,yl,yn,yo,yi,yj])
 refine tkn ?_
 refine wpAnyH_done (by kernel_rfl) ?_ _
 skip
 ((try simp only[G.drew_eq,G.drewN_eq]);(refine yq _ ?_;(try generalize (G.w _).heap.size=bk);(try dsimp only[yi,yj]);(try clear g);intro g))
 go_wp2_with (with_reducible refine yq _ ?_;(try generalize (G.w _).heap.size=bk);(try dsimp only[yi,yj]);(try clear g);intro g)
 refine bodyPost_ret (v:=.tuple #[.slice none 0 0,.int .i64 5]) (by simp[results,Tryz.results58,go_sem]) rfl ?_
 exact⟨rfl,G.less _ (by repeat (first|exact List.Sublist.refl _|refine .cons _ ?_))⟩
set_option maxRecDepth 20000 in
set_option maxHeartbeats 8000000 in
theorem Add_over (A B:Option Addr)(c cB:Nat)(w:World)(hA:(heapOf w).Mt A c 1 (fun _=>1) (fun _ _=>tG))(hB:(heapOf w).Mt B cB 1 (fun _=>1) (fun _ _=>tG))(hT:Tab w):
  Calls Tryz.prog 14 #[.slice A 1 c,.slice B 1 cB] w (RErr 5 w):=by
 refine calls_b fun g=>?_
 unfold RErr
 have HA:=Lib.hid hA
 have HB:=Lib.hid hB
 have HT:=Lib.hid hT
 have CC:=Lib.hid (fun bs w h h' h0 h1 t=>check2_any A B c 1 cB 1 bs (fun _=>1) (fun _=>1) (fun _ _=>tG) (fun _ _=>tG) w h h' h0 h1 t)
 rw[mat_great,if_pos rfl] at CC
 have hmk:=make_rows 1 (by omega)
 rw[show((1:Nat):Int)=1 from rfl] at hmk
 obtain⟨i0,hi,hz0,hz1,hz2⟩:=info_parts infoRat
 obtain⟨bb2,o2,rfl,hrowB⟩:=hB.rowAt (by decide)
 obtain⟨B1,k3,hh1,hrw1⟩:=hrowB 0 (by decide)
 obtain⟨by2,oy,rfl,hny⟩:=hrw1.num (by decide)
 have E1:∀(M:List Blk) (g:G w [] M [heapOf w]),g.w.cell? ⟨bb2,o2,none⟩=some (.slice (some ⟨by2,oy,none⟩) 1 k3):=fun M g=>hh1 _ _ _ _ g (InF.head _ _)
 obtain⟨b,o,rfl,hrow⟩:=hA.rowAt (by decide)
 obtain⟨B0,k0,hh0,hrw0⟩:=hrow 0 (by decide)
 obtain⟨ba,oa,rfl,hna⟩:=hrw0.num (by decide)
 have E0:∀(M:List Blk) (g:G w [] M [heapOf w]),g.w.cell? ⟨b,o,none⟩=some (.slice (some ⟨ba,oa,none⟩) 1 k0):=fun M g=>hh0 _ _ _ _ g (InF.head _ _)
 obtain⟨p,q,r,h3,hrt⟩:=hna 0 (by decide)
 obtain⟨sx,Px,nx,dx,Qx,mx,ex,rfl,rfl,rfl⟩:=hrt.shape
 obtain⟨p,q,r,h4,hrt2⟩:=hny 0 (by decide)
 obtain⟨sy,Py,ny,dy,Qy,my,ey,rfl,rfl,rfl⟩:=hrt2.shape
 simp only[Nat.zero_mul,Nat.add_zero] at h3 h4
 have X0:∀(M:List Blk) (g:G w [] M [heapOf w]),g.w.cell? ⟨ba,oa,none⟩=some (.bool sx):=fun M g=>(h3 _ _ _ _ g (InF.head _ _)).1
 have X1:∀(M:List Blk) (g:G w [] M [heapOf w]),g.w.cell? ⟨ba,oa+1,none⟩=some (.slice Px nx dx):=fun M g=>(h3 _ _ _ _ g (InF.head _ _)).2.1
 have X2:∀(M:List Blk) (g:G w [] M [heapOf w]),g.w.cell? ⟨ba,oa+2,none⟩=some (.slice Qx mx ex):=fun M g=>(h3 _ _ _ _ g (InF.head _ _)).2.2
 have Y0:∀(M:List Blk) (g:G w [] M [heapOf w]),g.w.cell? ⟨by2,oy,none⟩=some (.bool sy):=fun M g=>(h4 _ _ _ _ g (InF.head _ _)).1
 have Y1:∀(M:List Blk) (g:G w [] M [heapOf w]),g.w.cell? ⟨by2,oy+1,none⟩=some (.slice Py ny dy):=fun M g=>(h4 _ _ _ _ g (InF.head _ _)).2.1
 have Y2:∀(M:List Blk) (g:G w [] M [heapOf w]),g.w.cell? ⟨by2,oy+2,none⟩=some (.slice Qy my ey):=fun M g=>(h4 _ _ _ _ g (InF.head _ _)).2.2
 have HRX:=Lib.hid hrt
 have HRY:=Lib.hid hrt2
 clear hA hB hT hrow hh0 hrw0 hrowB hh1 hrw1 hna hny h3 h4 hrt hrt2
 go_enter Tryz.func14,Tryz.ntmps14
 go_wp2_with (with_reducible refine yq _ ?_;(try generalize (G.w _).heap.size=bk);(try dsimp only[yi,yj]);(try clear g);intro g)
 (try(refine cmark _ ?_;(try dsimp only[yi,yj]);(try clear g);intro g))
 refine(CC.out _ _ (HA.out.mono (g.sub _ (by simp))) (HB.out.mono (g.sub _ (by simp))) (G.cell0 g 0) (G.cell0 g 1) (G.tab g HT.out)).mono ?_
 rintro e w1 ⟨rfl,hb⟩
 obtain⟨g1,rfl⟩:=G.call_ex _ hb
 clear hb
 (try clear g)
 revert g1
 intro g
 go_wp2_with (with_reducible refine yq _ ?_;(try generalize (G.w _).heap.size=bk);(try dsimp only[yi,yj]);(try clear g);intro g)
 ((try simp only[G.drew_eq,G.drewN_eq]);(refine yq _ ?_;(try generalize (G.w _).heap.size=bk);(try dsimp only[yi,yj]);(try clear g);intro g))
 clear CC
 refine wp_region_held_drew (S:=(fun w'=>w'.cell? ⟨b,o,none⟩=some (.slice (some ⟨ba,oa,none⟩) 1 k0)∧w'.cell? ⟨bb2,o2,none⟩=some (.slice (some ⟨by2,oy,none⟩) 1 k3))) (by kernel_rfl) (by(constructor<;>go_simp)) (fun hHeld=>?_)
 refine tk0 [0,1,2,3,4,5,6,7,8,9,10,11,12,13,14,15] ?_
 iterate 16 (refine tkc rfl (by kernel_rfl) (fun _ _ _ h=>h) (by rfl) ‹_› (by intro w hSw;(try dsimp only at hSw);go_simp;(try with_reducible rfl)) ?_;try simp only[Act.put,yk,yl,yn,yo,yi,yj])
 refine tkn ?_
 refine wpAnyH_done (by kernel_rfl) ?_ _
 skip
 (try clear hHeld)
 ((try simp only[G.drew_eq,G.drewN_eq]);(refine yq _ ?_;(try generalize (G.w _).heap.size=bk);(try dsimp only[yi,yj]);(try clear g);intro g))
 go_wp2_with (with_reducible refine yq _ ?_;(try generalize (G.w _).heap.size=bk);(try dsimp only[yi,yj]);(try clear g);intro g)
 obtain⟨ob,rfl⟩:∃ob,ob=bk:=⟨_,rfl⟩
 obtain⟨sb,rfl⟩:∃sb,sb=bk:=⟨_,rfl⟩
 obtain⟨g2,hg2⟩:∃g2:G w [] [(ob,38,[Value.slice none 0 0]),(sb,78,[Value.int .i64 0])] [heapOf w],g.w=g2.w:=g.less ((List.Sublist.refl _).cons_cons _|>.cons_cons _|>.trans (by simp))
 rw[hg2]
 clear hg2
 clear g
 revert g2
 intro g
 go_loopw [43] (fun i wr=>(i=.int .i64 0∧∃g:G w [] [(ob,38,[Value.slice none 0 0]),(sb,78,[Value.int .i64 0])] [heapOf w],wr=g.w)∨(i=.int .i64 1∧∃g:G w [] [(sb,78,[Value.int .i64 5])] [heapOf w],wr=g.w)) (fun i _=>1-(intOf i).toNat)
 case atStart=>exact .inl ⟨rfl,g,rfl⟩
 case round =>
  clear g
  rcases hrel with⟨rfl,g,rfl⟩|⟨rfl,g,rfl⟩
  ·go_wp2_with (with_reducible refine yq _ ?_;(try generalize (G.w _).heap.size=bk);(try dsimp only[yi,yj]);(try clear g);intro g)
   go_loopw [50] (fun i wr=>(i=.int .i64 0∧∃g:G w [] [(ob,38,[Value.slice none 0 0]),(sb,78,[Value.int .i64 0])] [heapOf w],wr=g.w)∨(i=.int .i64 1∧∃g:G w [] [(sb,78,[Value.int .i64 5])] [heapOf w],wr=g.w)) (fun i _=>1-(intOf i).toNat)
   case atStart=>exact .inl ⟨rfl,g,rfl⟩
   case round=>
    clear g
    rcases hrel with⟨rfl,g,rfl⟩|⟨rfl,g,rfl⟩
    ·go_upto_region 14 with(with_reducible refine yq _ ?_;(try generalize (G.w _).heap.size=bk);(try dsimp only[yi,yj]);(try clear g);intro g)
     obtain⟨xb,rfl⟩:∃xb,xb=bk:=⟨_,rfl⟩
     ((try simp only[G.drew_eq,G.drewN_eq]);(refine yq _ ?_;(try generalize (G.w _).heap.size=bk);(try dsimp only[yi,yj]);(try clear g);intro g))
     have hw1:0+1≤maxLen:=by decide
     have hw2:(0+1)*56≤140737488355328:=by decide
     have HVR:Hid (RowV w.heap.size 43 3 0 (cells3 []) none 0 []):=Lib.hid (RowV.nil _ _ _)
     clear E0 X0 X1 X2
     refine wp_region_held_drew (S:=(fun w'=>(w'.cell? ⟨xb,0,none⟩=some (.bool sx)∧w'.cell? ⟨xb,1,none⟩=some (.slice Px nx dx)∧w'.cell? ⟨xb,2,none⟩=some (.slice Qx mx ex))∧w'.cell? ⟨bb2,o2,none⟩=some (.slice (some ⟨by2,oy,none⟩) 1 k3)∧w'.cell? ⟨by2,oy,none⟩=some (.bool sy)∧w'.cell? ⟨by2,oy+1,none⟩=some (.slice Py ny dy)∧w'.cell? ⟨by2,oy+2,none⟩=some (.slice Qy my ey))) (by kernel_rfl) (by(simp[go_sem, *];done)) (fun hHeld=>?_)
     refine tk0 [0,1,2,3,4,6,7,8,9,10,11,12,13,14] ?_
     iterate 14 (refine tkc rfl (by kernel_rfl) (fun _ _ _ h=>h) (by rfl) ‹_› (by intro w hSw;(try dsimp only at hSw);go_simp;(try with_reducible rfl)) ?_;try simp only[Act.put,yk,yl,yn,yo,yi,yj])
     refine tkn ?_
     refine wpAnyH_ready (rs:=[5,15]) (by kernel_rfl) (by simp) ?_
     refine AllReadyH.cons rfl (fun K hK=>?_) (AllReadyH.cons rfl (fun K hK=>?_) AllReadyH.nil)
     ·(try simp only[Act.put,yk,yl,yn,yo,yi,yj])
      go_simp
      refine hK.out _ _ (by(simp[go_sem, *];done)) (fun hHeld=>?_)
      clear hK K
      (try simp only[Act.put,yk,yl,yn,yo,yi,yj])
      refine wpAnyH_ready (rs:=[15]) (by kernel_rfl) (by simp) ?_
      refine AllReadyH.cons rfl (fun K hK=>?_) AllReadyH.nil
      ·(try simp only[Act.put,yk,yl,yn,yo,yi,yj])
       go_simp
       go_at_call 59
       (try(refine cmark _ ?_;(try dsimp only[yi,yj]);(try clear g);intro g))
       obtain⟨g1,e1⟩:=G.third g
       rw[e1]
       clear e1 g
       revert g1
       intro g
       refine(splus_over g (F:=heapOf w) (by simp) _ _ _ _ _ _ HRX.out HRY.out HT.out).mono ?_
       rintro e w1 ⟨A7,c7,B7,k7,rfl,g1,rfl⟩
       obtain⟨g2,e2⟩:=G.third' g1
       rw[e2]
       clear e2 g1 g
       revert g2
       intro g
       refine hK.out _ _ (by(simp[go_sem, *];done)) (fun hHeld=>?_)
       clear hK K
       (try simp only[Act.put,yk,yl,yn,yo,yi,yj])
       refine wpAnyH_ready (rs:=[16]) (by kernel_rfl) (by simp) ?_
       refine AllReadyH.cons rfl (fun K hK=>?_) AllReadyH.nil
       ·(try simp only[Act.put,yk,yl,yn,yo,yi,yj])
        go_simp
        refine hK.out _ _ (by(simp[go_sem, *];done)) (fun hHeld=>?_)
        clear hK K
        (try simp only[Act.put,yk,yl,yn,yo,yi,yj])
        refine wpAnyH_ready (rs:=[17]) (by kernel_rfl) (by simp) ?_
        refine AllReadyH.cons rfl (fun K hK=>?_) AllReadyH.nil
        ·(try simp only[Act.put,yk,yl,yn,yo,yi,yj])
         (have hvr:=HVR.out;rw[if_pos (by rfl)];refine wp_append_v2 rfl _ _ 38 rfl 43 i0 _ 3 56 Tryz.underlying38 hi hz0 hz1 hz2 rfl (by decide) 4 _ (Rr:=[]) (R':=[]) (by rfl) hvr (by rfl) (by exact List.mem_cons_self ..) 1 (by rfl) rfl (three _ _ _ ⟨rfl,rfl,rfl⟩) (by decide) hw1 hw2 ?_;clear hvr;(try clear g);intro b2 cap cs g hb2 hrow2;revert g;dsimp only[List.take,List.cons_append,List.nil_append];intro g)
         refine hK.out _ _ (by(simp[go_sem, *];done)) (fun hHeld=>?_)
         clear hK K
         (try simp only[Act.put,yk,yl,yn,yo,yi,yj])
         refine tk0 [18] ?_
         iterate 1 (refine tkc rfl (by kernel_rfl) (fun _ _ _ h=>h) (by rfl) ‹_› (by intro w hSw;(try dsimp only at hSw);go_simp;(try with_reducible rfl)) ?_;try simp only[Act.put,yk,yl,yn,yo,yi,yj])
         refine tkn ?_
         refine wpAnyH_ready (rs:=[19]) (by kernel_rfl) (by simp) ?_
         refine AllReadyH.cons rfl (fun K hK=>?_) AllReadyH.nil
         ·(try simp only[Act.put,yk,yl,yn,yo,yi,yj])
          go_simp
          refine hK.out _ _ (by(simp[go_sem, *];done)) (fun hHeld=>?_)
          clear hK K
          (try simp only[Act.put,yk,yl,yn,yo,yi,yj])
          refine wpAnyH_done (by kernel_rfl) ?_ _
          (as_aux_lemma=>
           (try clear hHeld)
           ((try simp only[G.drew_eq,G.drewN_eq]);(refine yq _ ?_;(try generalize (G.w _).heap.size=bk);(try dsimp only[yi,yj]);(try clear g);intro g))
           go_wp2_with (with_reducible refine yq _ ?_;(try generalize (G.w _).heap.size=bk);(try dsimp only[yi,yj]);(try clear g);intro g)
           obtain⟨g5,e5⟩:∃g5:G w [] [(sb,78,[Value.int .i64 5])] [heapOf w],g.w=g5.w:=G.less g (by simp)
           rw[e5]
           go_roundw
           case rel=>exact .inr ⟨by go_num,g5,rfl⟩
           case measure=>simp[intOf])
     ·(try simp only[Act.put,yk,yl,yn,yo,yi,yj])
      go_simp
      go_at_call 59
      (try(refine cmark _ ?_;(try dsimp only[yi,yj]);(try clear g);intro g))
      obtain⟨g1,e1⟩:=G.third g
      rw[e1]
      clear e1 g
      revert g1
      intro g
      refine(splus_over g (F:=heapOf w) (by simp) _ _ _ _ _ _ HRX.out HRY.out HT.out).mono ?_
      rintro e w1 ⟨A7,c7,B7,k7,rfl,g1,rfl⟩
      obtain⟨g2,e2⟩:=G.third' g1
      rw[e2]
      clear e2 g1 g
      revert g2
      intro g
      refine hK.out _ _ (by(simp[go_sem, *];done)) (fun hHeld=>?_)
      clear hK K
      (try simp only[Act.put,yk,yl,yn,yo,yi,yj])
      refine wpAnyH_ready (rs:=[5,16]) (by kernel_rfl) (by simp) ?_
      refine AllReadyH.cons rfl (fun K hK=>?_) (AllReadyH.cons rfl (fun K hK=>?_) AllReadyH.nil)
      ·(try simp only[Act.put,yk,yl,yn,yo,yi,yj])
       go_simp
       refine hK.out _ _ (by(simp[go_sem, *];done)) (fun hHeld=>?_)
       clear hK K
       (try simp only[Act.put,yk,yl,yn,yo,yi,yj])
       refine wpAnyH_ready (rs:=[16]) (by kernel_rfl) (by simp) ?_
       refine AllReadyH.cons rfl (fun K hK=>?_) AllReadyH.nil
       ·(try simp only[Act.put,yk,yl,yn,yo,yi,yj])
        go_simp
        refine hK.out _ _ (by(simp[go_sem, *];done)) (fun hHeld=>?_)
        clear hK K
        (try simp only[Act.put,yk,yl,yn,yo,yi,yj])
        refine wpAnyH_ready (rs:=[17]) (by kernel_rfl) (by simp) ?_
        refine AllReadyH.cons rfl (fun K hK=>?_) AllReadyH.nil
        ·(try simp only[Act.put,yk,yl,yn,yo,yi,yj])
         (have hvr:=HVR.out;rw[if_pos (by rfl)];refine wp_append_v2 rfl _ _ 38 rfl 43 i0 _ 3 56 Tryz.underlying38 hi hz0 hz1 hz2 rfl (by decide) 4 _ (Rr:=[]) (R':=[]) (by rfl) hvr (by rfl) (by exact List.mem_cons_self ..) 1 (by rfl) rfl (three _ _ _ ⟨rfl,rfl,rfl⟩) (by decide) hw1 hw2 ?_;clear hvr;(try clear g);intro b2 cap cs g hb2 hrow2;revert g;dsimp only[List.take,List.cons_append,List.nil_append];intro g)
         refine hK.out _ _ (by(simp[go_sem, *];done)) (fun hHeld=>?_)
         clear hK K
         (try simp only[Act.put,yk,yl,yn,yo,yi,yj])
         refine tk0 [18] ?_
         iterate 1 (refine tkc rfl (by kernel_rfl) (fun _ _ _ h=>h) (by rfl) ‹_› (by intro w hSw;(try dsimp only at hSw);go_simp;(try with_reducible rfl)) ?_;try simp only[Act.put,yk,yl,yn,yo,yi,yj])
         refine tkn ?_
         refine wpAnyH_ready (rs:=[19]) (by kernel_rfl) (by simp) ?_
         refine AllReadyH.cons rfl (fun K hK=>?_) AllReadyH.nil
         ·(try simp only[Act.put,yk,yl,yn,yo,yi,yj])
          go_simp
          refine hK.out _ _ (by(simp[go_sem, *];done)) (fun hHeld=>?_)
          clear hK K
          (try simp only[Act.put,yk,yl,yn,yo,yi,yj])
          refine wpAnyH_done (by kernel_rfl) ?_ _
          (as_aux_lemma=>
           (try clear hHeld)
           ((try simp only[G.drew_eq,G.drewN_eq]);(refine yq _ ?_;(try generalize (G.w _).heap.size=bk);(try dsimp only[yi,yj]);(try clear g);intro g))
           go_wp2_with (with_reducible refine yq _ ?_;(try generalize (G.w _).heap.size=bk);(try dsimp only[yi,yj]);(try clear g);intro g)
           obtain⟨g5,e5⟩:∃g5:G w [] [(sb,78,[Value.int .i64 5])] [heapOf w],g.w=g5.w:=G.less g (by simp)
           rw[e5]
           go_roundw
           case rel=>exact .inr ⟨by go_num,g5,rfl⟩
           case measure=>simp[intOf])
      ·(try simp only[Act.put,yk,yl,yn,yo,yi,yj])
       go_simp
       refine hK.out _ _ (by(simp[go_sem, *];done)) (fun hHeld=>?_)
       clear hK K
       (try simp only[Act.put,yk,yl,yn,yo,yi,yj])
       refine wpAnyH_ready (rs:=[5]) (by kernel_rfl) (by simp) ?_
       refine AllReadyH.cons rfl (fun K hK=>?_) AllReadyH.nil
       ·(try simp only[Act.put,yk,yl,yn,yo,yi,yj])
        go_simp
        refine hK.out _ _ (by(simp[go_sem, *];done)) (fun hHeld=>?_)
        clear hK K
        (try simp only[Act.put,yk,yl,yn,yo,yi,yj])
        refine wpAnyH_ready (rs:=[17]) (by kernel_rfl) (by simp) ?_
        refine AllReadyH.cons rfl (fun K hK=>?_) AllReadyH.nil
        ·(try simp only[Act.put,yk,yl,yn,yo,yi,yj])
         (have hvr:=HVR.out;rw[if_pos (by rfl)];refine wp_append_v2 rfl _ _ 38 rfl 43 i0 _ 3 56 Tryz.underlying38 hi hz0 hz1 hz2 rfl (by decide) 4 _ (Rr:=[]) (R':=[]) (by rfl) hvr (by rfl) (by exact List.mem_cons_self ..) 1 (by rfl) rfl (three _ _ _ ⟨rfl,rfl,rfl⟩) (by decide) hw1 hw2 ?_;clear hvr;(try clear g);intro b2 cap cs g hb2 hrow2;revert g;dsimp only[List.take,List.cons_append,List.nil_append];intro g)
         refine hK.out _ _ (by(simp[go_sem, *];done)) (fun hHeld=>?_)
         clear hK K
         (try simp only[Act.put,yk,yl,yn,yo,yi,yj])
         refine tk0 [18] ?_
         iterate 1 (refine tkc rfl (by kernel_rfl) (fun _ _ _ h=>h) (by rfl) ‹_› (by intro w hSw;(try dsimp only at hSw);go_simp;(try with_reducible rfl)) ?_;try simp only[Act.put,yk,yl,yn,yo,yi,yj])
         refine tkn ?_
         refine wpAnyH_ready (rs:=[19]) (by kernel_rfl) (by simp) ?_
         refine AllReadyH.cons rfl (fun K hK=>?_) AllReadyH.nil
         ·(try simp only[Act.put,yk,yl,yn,yo,yi,yj])
          go_simp
          refine hK.out _ _ (by(simp[go_sem, *];done)) (fun hHeld=>?_)
          clear hK K
          (try simp only[Act.put,yk,yl,yn,yo,yi,yj])
          refine wpAnyH_done (by kernel_rfl) ?_ _
          (as_aux_lemma=>
           (try clear hHeld)
           ((try simp only[G.drew_eq,G.drewN_eq]);(refine yq _ ?_;(try generalize (G.w _).heap.size=bk);(try dsimp only[yi,yj]);(try clear g);intro g))
           go_wp2_with (with_reducible refine yq _ ?_;(try generalize (G.w _).heap.size=bk);(try dsimp only[yi,yj]);(try clear g);intro g)
           obtain⟨g5,e5⟩:∃g5:G w [] [(sb,78,[Value.int .i64 5])] [heapOf w],g.w=g5.w:=G.less g (by simp)
           rw[e5]
           go_roundw
           case rel=>exact .inr ⟨by go_num,g5,rfl⟩
           case measure=>simp[intOf])
    ·go_wp2_with (with_reducible refine yq _ ?_;(try generalize (G.w _).heap.size=bk);(try dsimp only[yi,yj]);(try clear g);intro g)
     go_roundw
     case rel=>exact .inr ⟨by go_num,g,rfl⟩
     case measure=>simp[intOf]
  ·go_wp2_with (with_reducible refine yq _ ?_;(try generalize (G.w _).heap.size=bk);(try dsimp only[yi,yj]);(try clear g);intro g)
   refine(mresult_err g _ _ _).mono ?_
   rintro e w1 ⟨rfl,g1,rfl⟩
   clear g
   revert g1
   intro g
   go_wp2_with (with_reducible refine yq _ ?_;(try generalize (G.w _).heap.size=bk);(try dsimp only[yi,yj]);(try clear g);intro g)
   refine bodyPost_ret (v:=.tuple #[.slice none 0 0,.int .i64 5]) (by simp[results,Tryz.results14,go_sem]) rfl ?_
   exact⟨rfl,G.below _⟩
end Go.Proofs.YthhbbnfnejjpiaaGreatDoor
