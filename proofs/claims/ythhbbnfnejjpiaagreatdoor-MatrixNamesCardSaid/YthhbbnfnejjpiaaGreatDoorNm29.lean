/- Plain facts and contracts of functions of the program, out of walks. Their conditions stand ahead of each. -/
import Derived.Test.YthhbbnfnejjpiaaGreatDoorNm1
import Derived.Test.YthhbbnfnejjpiaaGreatDoorNm2
import Derived.Test.YthhbbnfnejjpiaaGreatDoorNm5
import Derived.Test.YthhbbnfnejjpiaaGreatDoorNm17
import Derived.Test.YthhbbnfnejjpiaaGreatDoorNm22
import Derived.Test.YthhbbnfnejjpiaaGreatDoorNm23
import Derived.Test.YthhbbnfnejjpiaaGreatDoorNm24
import Derived.Test.YthhbbnfnejjpiaaGreatDoorNm25
import Derived.Test.YthhbbnfnejjpiaaGreatDoorNm27
import Derived.Below
import Derived.BigQuiet
import Derived.Deep.DeepCutAuto
import Derived.Deep.Draws
import Derived.Deep.LoopGhost
import Derived.Deep.QuietTactic
import Derived.Deep.RegionHeld3
import Derived.Deep.RegionLaw
import Derived.Defers
import Derived.Laws.BytesString
import Derived.Laws.Cells
import Derived.Laws.Concat
import Derived.Laws.CopyOwn
import Derived.Laws.CopyRow
import Derived.Laws.NewBlocks
import Derived.Laws.OwnMore
import Derived.Laws.Pointers
import Derived.Laws.Rows
import Derived.Lib.BitFns
import Derived.Lib.Hide
import Derived.Lib.ItoaNum
import Derived.Lib.SliceRun
import Derived.Lib.TrailingZeros
import Derived.LoopIn
import Derived.LoopNIn
import Derived.Maps.AppendAt
import Derived.OrdersHeld
import Derived.OrdersIn
import Derived.OwnWalk
import Derived.OwnWalkIn
import Derived.RangeFuncBound
import Derived.RangeFuncBox
import Derived.RangeFuncCalls
import Derived.RangeFuncLeaves
import Derived.RangeFuncNested
import Derived.RowKit3
import Derived.Shelf.Abstract
import Derived.Shelf.RegionOpen
import Derived.Shelf.Spec.TrailingZeros
import Derived.StillTactics
import Derived.StillTailTactics
import Derived.TacticsInMore
import Derived.Test.YthhbbnfnejjpiaaGreatDoorProg
import Derived.WalkKit
import Derived.WalkLawsBesides
import Derived.WalkMore
import Derived.WalkSpells
set_option linter.unusedVariables false
set_option linter.unusedSimpArgs false
set_option exponentiation.threshold 10000
namespace Go.Proofs.YthhbbnfnejjpiaaGreatDoor
open Go.RowKit GW NL MX
section
variable {w0:World}{M:List Blk}{I:List Frag}{F F0:Frag}
theorem w_div (n₀ m m2:Nat)(r:Nat→Rat)(y:Rat)(u:Value)(s R':List Blk)(pb qb rb:Value)(sb:Nat)(h:RowW m m2 F r u s)(hy:F.Rt pb qb rb (rawOf y))(hy0:rn y≠0)(hby:Bd 8192 y)(hbd:∀j,j<m+m2→Bd 8192 (r j)∧Bd 8192 (r j/y))(hm:m+m2≤1000)
  (g:G w0 [] M (F::I)) (hM:M.drop n₀=s++R') (hS:InF (sumF sb) I) (hnw:F.over F0 w0) (hT:Tab w0):
  Calls Tryz.prog 197 #[u,.pointer (some ⟨sb,0,none⟩),.agg #[pb,qb,rb]] g.w fun e w'=>e=.returned (.tuple #[])∧∃(s':List Blk) (F':Frag) (g':G w0 [] (M.take n₀++(s'++R')) (F'::I)),w'=g'.w∧RowW m m2 F' (fun j=>r j/y) u s'∧F.le F'∧F'.over F0 w0:=by
 obtain⟨A,cap,B,cap',s1,s2,rfl,rfl,h1,h2⟩:=h
 obtain⟨g1,e1⟩:=take_drop_to g hM
 obtain⟨g2,e2⟩:=g1.as (List.append_assoc s1 s2 _)
 rw[e1,e2]
 refine(wide_divide m m2 cap cap' r (fun j=>r (m+j)) y A B s1 s2 pb qb rb sb h1 h2 hy hy0 hby (fun j hj=>hbd j (by omega)) (fun j hj=>hbd (m+j) (by omega)) (by omega) (by omega) g2 hS hnw hT).mono ?_
 rintro e w' ⟨rfl,s1',s2',F',g',rfl,k1,k2,k3,k4⟩
 obtain⟨g3,e3⟩:=g'.as (List.append_assoc s1' s2' _).symm
 obtain⟨g4,e4⟩:=take_drop_back (M:=M) (n₀:=n₀) (s:=s1'++s2') (R':=R') g3
 exact⟨rfl,_,F',g4,e3.trans e4,⟨A,cap,B,cap',s1',s2',rfl,rfl,k1,k2⟩,k3,k4⟩
theorem w_take (n₀ m m2:Nat)(r r2:Nat→Rat)(f:Rat)(u u2:Value)(s t R':List Blk)(pb qb rb:Value)(sb:Nat)(h:RowW m m2 F r u s)(h2:RowW m m2 F r2 u2 t)(hf:F.Rt pb qb rb (rawOf f))(hbf:Bd 8192 f)(hbd:∀j,j<m+m2→Bd 8192 (r j)∧Bd 8192 (r2 j)∧Bd 8192 (f*r2 j)∧Bd 8192 (r j-f*r2 j))(hm:m+m2≤1000)
  (g:G w0 [] M (F::I)) (hM:M.drop n₀=s++(t++R')) (hS:InF (sumF sb) I) (hnw:F.over F0 w0) (hT:Tab w0):
  Calls Tryz.prog 198 #[u,.pointer (some ⟨sb,0,none⟩),.iface 132 u2,.agg #[pb,qb,rb]] g.w fun e w'=>e=.returned (.tuple #[])∧∃(s':List Blk) (F':Frag) (g':G w0 [] (M.take n₀++(s'++(t++R'))) (F'::I)),w'=g'.w∧RowW m m2 F' (fun j=>r j-f*r2 j) u s'∧F.le F'∧F'.over F0 w0:=by
 obtain⟨A,cap,B,cap',s1,s2,rfl,rfl,h1,h1'⟩:=h
 obtain⟨C,capo,D,capo',t1,t2,rfl,rfl,i1,i2⟩:=h2
 obtain⟨g1,e1⟩:=take_drop_to (s:=(s1++s2)++(t1++t2)) (R':=R') g (by rw[hM];simp)
 obtain⟨g2,e2⟩:=g1.as (M':=s1++(s2++(t1++(t2++(M.take n₀++R'))))) (by simp)
 rw[e1,e2]
 refine(wide_take m m2 cap cap' capo capo' r (fun j=>r (m+j)) r2 (fun j=>r2 (m+j)) f A B C D s1 s2 t1 t2 pb qb rb sb h1 h1' i1 i2 hf hbf (fun j hj=>hbd j (by omega)) (fun j hj=>hbd (m+j) (by omega)) (by omega) (by omega) g2 hS hnw hT).mono ?_
 rintro e w' ⟨rfl,s1',s2',F',g',rfl,k1,k2,k3,k4⟩
 obtain⟨g3,e3⟩:=g'.as (M':=((s1'++s2')++(t1++t2))++(M.take n₀++R')) (by simp)
 obtain⟨g4,e4⟩:=take_drop_back (M:=M) (n₀:=n₀) (s:=(s1'++s2')++(t1++t2)) (R':=R') g3
 obtain⟨g5,e5⟩:=g4.as (M':=M.take n₀++((s1'++s2')++((t1++t2)++R'))) (by simp)
 exact⟨rfl,_,F',g5,(e3.trans e4).trans e5,⟨A,cap,B,cap',s1',s2',rfl,rfl,k1,k2⟩,k3,k4⟩
end
/-- the cells of a row, written out -/
theorem Rw.tris {f:Frag}{A:Option Addr}{c n:Nat}{x:Nat→Raw}(h:f.Rw A c n x)(h0:0<n):∃b o l,A=some ⟨b,o,none⟩∧f.Tris l n x∧∀(w0:World) (X:List Nat) (M:List Blk) (I:List Frag) (g:G w0 X M I),InF f I→∀j u,(cells3 l)[j]?=some u→g.w.cell? ((⟨b,o,none⟩:Addr).add j)=some u:=by
 obtain⟨b,o,rfl,hn⟩:=h.num h0
 have hn':∀j:Nat,∃t:Tri,j<n→f.C3 b (o+j*3) t.1 t.2.1 t.2.2∧f.Rt t.1 t.2.1 t.2.2 (x j):=fun j=>by
  by_cases hj:j<n
  ·obtain⟨p,q,r,h1,h2⟩:=hn j hj
   exact⟨(p,q,r),fun _=>⟨h1,h2⟩⟩
  ·exact⟨(.bool false,.bool false,.bool false),fun h=>absurd h hj⟩
 have hc:∃t:Nat→Tri,∀j,j<n→f.C3 b (o+j*3) (t j).1 (t j).2.1 (t j).2.2∧f.Rt (t j).1 (t j).2.1 (t j).2.2 (x j):=⟨fun j=>(hn' j).choose,fun j hj=>(hn' j).choose_spec hj⟩
 obtain⟨t,ht⟩:=hc
 refine⟨b,o,(List.range n).map t,rfl,⟨by simp,fun j hj=>⟨(t j).1,(t j).2.1,(t j).2.2,by simp[hj],(ht j hj).2⟩⟩,fun w0 X M I g hI j u hu=>?_⟩
 have hlen:j<n*3:=by
  have:=(List.getElem?_eq_some_iff.1 hu).1
  rw[cells3_len] at this
  simpa using this
 have hq:j/3<n:=by omega
 have hget:=cells3_get ((List.range n).map t) (j/3) (t (j/3)) (by simp[hq])
 have h3:=(ht (j/3) hq).1 w0 X M I g hI
 have ea:(⟨b,o,none⟩:Addr).add j=⟨b,o+j,none⟩:=by
  unfold Addr.add
  split
  ·next h0=>subst h0;rfl
  ·rfl
 rw[ea]
 have hm:j%3=0∨j%3=1∨j%3=2:=by omega
 rcases hm with hm|hm|hm
 ·have e:j=j/3*3:=by omega
  rw[e] at hu
  rw[hget.1] at hu
  rw[show o+j=o+j/3*3 by omega,h3.1]
  exact hu
 ·have e:j=j/3*3+1:=by omega
  rw[e] at hu
  rw[hget.2.1] at hu
  rw[show o+j=o+j/3*3+1 by omega,h3.2.1]
  exact hu
 ·have e:j=j/3*3+2:=by omega
  rw[e] at hu
  rw[hget.2.2] at hu
  rw[show o+j=o+j/3*3+2 by omega,h3.2.2]
  exact hu
theorem cells3_one {f:Frag}{l:List Tri}{n:Nat}{x:Nat→Raw}(h:f.Tris l n x):∀u∈cells3 l,u.oneCell'=true:=by
 intro u hu
 unfold cells3 at hu
 obtain⟨t,ht,hu⟩:=List.mem_flatMap.1 hu
 obtain⟨j,hj⟩:=List.getElem?_of_mem ht
 have hjn:j<n:=by rw[←h.1];exact(List.getElem?_eq_some_iff.1 hj).1
 obtain⟨p,q,r,h1,h2⟩:=h.2 j hjn
 rw[hj] at h1
 cases h1
 obtain⟨o1,o2,o3⟩:=h2.one
 simp only[List.mem_cons,List.not_mem_nil,or_false] at hu
 rcases hu with rfl|rfl|rfl<;>assumption
set_option maxRecDepth 20000 in
set_option maxHeartbeats 2000000 in
theorem clone_rat (F0:Frag)(A:Option Addr)(c n:Nat)(x:Nat→Raw)(h0:0<n)(hn:n≤1000)(w:World)(hF:F0.sub w)(h:F0.Rw A c n x):
  Calls Tryz.prog 102 #[.slice A n c] w fun e w'=>∃b cap cs l,e=.returned (.slice (some ⟨b,0,none⟩) n cap)∧Row 43 3 n (cells3 l) cap cs∧F0.Tris l n x∧Below w.heap.size w w'∧w.heap.size≤b∧w'.heap[b]?=some (.cells cs.toArray 43 (0,0)):=by
 refine calls_f hF fun g=>?_
 obtain⟨b,o,l,rfl,hl,hnews⟩:=Rw.tris h h0
 obtain⟨i0,hi,hz0,hz1,hz2⟩:=info_parts infoRat
 have H1:=cells3_one hl
 have HLN:(cells3 l).length=n*3:=by rw[cells3_len,hl.1]
 have hnz:¬ ((n:Int)=0):=by omega
 have HL:=Lib.hid hl
 clear h hl
 have qT:∀(w:World) (a:Option Addr) (n c n' c':Nat),(binOp .eql 38 (.slice a n c) (.slice none n' c')).run Tryz.prog w=.ok (.bool a.isNone) w:=fun w a n c n' c'=>Lib.run_eql_slice_nil w _ _ a n c n' c' Tryz.underlying38
 go_enter Tryz.func102,Tryz.ntmps102
 go_wp2_with (first|(with_reducible refine yq _ ?_;(try generalize (G.w _).heap.size=bk);(try dsimp only[yi,yj]);(try clear g);intro g)|(at_builtin;refine wpList_append_e rfl _ _ 38 rfl 43 i0 _ 3 56 Tryz.underlying38 hi hz0 hz1 hz2 rfl (by decide) g (by exact g.fresh (List.mem_cons_self ..)) rfl ⟨b,o,none⟩ n c (cells3 l) rfl HLN (hnews _ _ _ _ g (InF.head _ _)) H1 h0 (by show n≤9223372036854775807;omega) (by omega) ?_;intro b2 cap cs g hb2 hr))
 go_ret
 exact⟨b2,cap,cs,l,rfl,hr,HL.out,G.below _,hb2,g.own _ (List.mem_cons_self ..)⟩
theorem infoMrow:(Tryz.prog.info? 137).map (fun i=>(i.zero,i.size,i.bytes))=some (some .nilIface,1,16):=by kernel_rfl
theorem G.orI {w0:World}{X:List Nat}{M:List Blk}{I:List Frag}{F1 F0:Frag}(g:G w0 X M (F1::I))(h:InF F0 I):∃F':Frag,∃g':G w0 X M (F'::I),g.w=g'.w∧F1.le F'∧F0.le F'∧∀k o,F' k=some o→F1 k=some o∨F0 k=some o:=by
 have s1:=g.sub F1 (List.mem_cons_self ..)
 have s0:=g.sub F0 (List.mem_cons_of_mem _ h)
 obtain⟨g1,e1⟩:=(g.see (F1.or F0) (Frag.or_sub s1 s0) (fun k o hk=>by rcases Frag.or_some hk with hk|hk;exact g.keep F1 (List.mem_cons_self ..) k o hk;exact g.keep F0 (List.mem_cons_of_mem _ h) k o hk)).lessI (I':=F1.or F0::I) (by
  intro f hf
  rcases List.mem_cons.1 hf with rfl|hf
  ·exact List.mem_cons_self ..
  ·exact List.mem_cons_of_mem _ (List.mem_cons_of_mem _ hf))
 exact⟨_,g1,e1,Frag.le_orl F1 F0,Frag.le_orr s1 s0,fun k o hk=>Frag.or_some hk⟩
theorem G.fixSum {w0:World}{M:List Blk}{I:List Frag}{sb:Nat}(g:G w0 [] ((sb,78,[Value.int .i64 0])::M) I):∃g':G w0 [] M (sumF sb::I),g.w=g'.w:=g.fix
/-- what begin makes -/
def BegP (K:TypeId)(Q:Frag→(Nat→Rat)→Value→List Blk→Prop)(n:Nat)(x:Mx)(w0:World)(M:List Blk)(I:List Frag)(F0:Frag)(e:Ending)(w':World):Prop:=∃(sb eb rb capr:Nat) (rs:List Value) (R:List Blk) (F:Frag) (p q r:Value) (g':G w0 [] ((eb,91,[.pointer (some ⟨sb,0,none⟩),.slice (some ⟨rb,0,none⟩) n capr,p,q,r])::(rb,137,rs)::(R++M)) (F::sumF sb::I)),e=.returned (.pointer (some ⟨eb,0,none⟩))∧w'=g'.w∧F.Rt p q r (rawOf 1)∧OwnOn (List.range n) (fun i v s=>∃u,v=.iface K u∧Q F (x i) u s) R rs∧F.over F0 w0∧n≤capr∧capr≤9223372036854775807
theorem one_cell (v:Value)(h:v.oneCell'=true):∀u∈ [v],u.oneCell'=true:=by
 intro u hu
 rw[List.mem_singleton.1 hu]
 exact h
theorem bd_one:Bd 8192 1:=⟨by decide+kernel,by decide+kernel⟩
set_option maxRecDepth 20000 in
set_option maxHeartbeats 8000000 in
theorem begin_p {w0:World}{M:List Blk}{I:List Frag}{F0:Frag}(A:Option Addr)(c n m:Nat)(x:Mx)(h:F0.Mt A c n (fun _=>m) (rawM x))(n1:1≤n)(n2:n≤1000)(m1:1≤m)(m2:m≤1000)(hF0:InF F0 I)(g:G w0 [] M I)(hT:Tab w0):
  Calls Tryz.prog 62 #[.slice A n c,.slice none 0 0] g.w (BegP 129 (RowP m) n x w0 M I F0):=by
 have HT:=Lib.hid hT
 have HF:=Lib.hid hF0
 have C1:=Lib.hid (fun w t=>whole_r 1 1 bd_one rfl (by decide) (by decide) w t)
 unfold RT1 at C1
 obtain⟨b,o,rfl,hrow⟩:=h.rowAt n1
 have HR:=Lib.hid hrow
 obtain⟨j0,hi,hz0,hz1,hz2⟩:=info_parts infoMrow
 have qT:∀(w:World) (a:Option Addr) (n c n' c':Nat),(binOp .eql 29 (.slice a n c) (.slice none n' c')).run Tryz.prog w=.ok (.bool a.isNone) w:=fun w a n c n' c'=>Lib.run_eql_slice_nil w _ _ a n c n' c' Tryz.underlying29
 unfold BegP
 clear h hrow hT hF0
 go_enter Tryz.func62,Tryz.ntmps62
 go_wp2_with (with_reducible refine yq _ ?_;(try generalize (G.w _).heap.size=bk);(try dsimp only[yi,yj]);(try clear g);intro g)
 refine(C1.out _ (G.tab g HT.out)).mono ?_
 rintro e w1 ⟨pa,qa,ra,Fa,rfl,ha,hn⟩
 have hnna:=fun k o hk=>Nat.le_trans g.chg.size (hn.new k o hk)
 obtain⟨sa,Aa,na,ca,Ba,da,ka,rfl,rfl,rfl⟩:=ha.shape
 obtain⟨g1,rfl⟩:=G.new_ex _ hn
 clear hn
 (try clear g)
 revert g1
 intro g
 go_wp2_with (with_reducible refine yq _ ?_;(try generalize (G.w _).heap.size=bk);(try dsimp only[yi,yj]);(try clear g);intro g)
 rename_i b7 b8 b9
 obtain⟨eb,rfl⟩:∃eb,eb=bk:=⟨_,rfl⟩
 obtain⟨sb,rfl⟩:∃sb,sb=b7:=⟨_,rfl⟩
 have CL:=Lib.hid (fun A c x w s h=>clone_rat F0 A c m x (by omega) m2 w s h)
 obtain⟨g1,e1⟩:=g.perm (List.Perm.swap _ _ _)
 obtain⟨g2,e2⟩:=G.fixSum g1
 obtain⟨g3,e3⟩:=g2.lessI (I':=Fa::sumF sb::I) (by intro f hf;simp only[List.mem_cons] at hf ⊢;rcases hf with h|h|h;exact .inr (.inl h);exact .inl h;exact .inr (.inr h))
 obtain⟨F,g4,e4,hFa,hF0,hFo⟩:=G.orI g3 (InF.tail HF.out)
 rw[e1,e2,e3,e4]
 have HNO:F.over F0 w0:=fun k o hk=>(hFo k o hk).elim (fun h=> .inr (hnna k o h)) .inl
 have HR1:F.Rt (.bool sa) (.slice Aa na ca) (.slice Ba da ka) (rawOf 1):=ha.mono hFa
 clear e1 e2 e3 e4 hFo hFa ha hnna g1 g2 g3 g
 revert g4
 intro g
 have HRF:=Lib.hid HR1
 have HN0:=Lib.hid HNO
 have HF0:=Lib.hid hF0
 clear HR1 HNO hF0
 go_loopw [15] (fun i wr=>∃k:Nat,i=.int .i64 (k:Int)∧k≤n∧∃(Ar:Option Addr) (capr:Nat) (xs:List Value) (sr R:List Blk),RowV w0.heap.size 137 1 k xs Ar capr sr∧OwnOn (List.range k) (fun i v s=>∃u,v=.iface 129 u∧RowP m F (x i) u s) R xs∧∃g:G w0 [] ((eb,91,[.pointer (some ⟨sb,0,none⟩),.slice Ar k capr,.bool sa,.slice Aa na ca,.slice Ba da ka])::(sr++(R++M))) (F::sumF sb::I),wr=g.w) (fun i _=>n-(intOf i).toNat)
 case atStart=>exact⟨0,rfl,by omega,none,0,[],[],[],RowV.nil _ _ _,OwnOn.nil _ _,g,rfl⟩
 case round=>
  clear g
  obtain⟨k,rfl,hk,Ar,capr,xs,sr,R,hvr,hown,g,rfl⟩:=hrel
  by_cases hkn:k<n
  ·have hki:(k:Int)<(n:Int):=by omega
   obtain⟨B,kc,hh,hrw⟩:=HR.out k hkn
   have EH:∀(M:List Blk) (F:Frag) (g:G w0 [] M (F::sumF sb::I)),g.w.cell? ⟨b,o+k,none⟩=some (.slice B m kc):=fun M F g=>hh _ _ _ _ g (InF.tail (InF.tail HF.out))
   have HRW:=Lib.hid hrw
   have HO:=Lib.hid hown
   clear hh hrw hown
   go_upto_region 6 with(with_reducible refine yq _ ?_;(try generalize (G.w _).heap.size=bk);(try dsimp only[yi,yj]);(try clear g);intro g)
   clear EH
   ((try simp only[G.drew_eq,G.drewN_eq]);(refine yq _ ?_;(try generalize (G.w _).heap.size=bk);(try dsimp only[yi,yj]);(try clear g);intro g))
   have hw1:k+1≤maxLen:=by show k+1≤9223372036854775807;omega
   have hw2:(k+1)*16≤140737488355328:=by omega
   go_region_law (first
    |(refine step_append_v rfl _ _ 89 rfl 137 j0 _ 1 16 Tryz.underlying89 hi hz0 hz1 hz2 rfl (by decide) 3 _ (Rr:=sr) (R':=R++M) (by rfl) hvr (by rfl) (by exact List.mem_cons_self ..) 1 (by rfl) rfl (one_cell _ rfl) (by decide) hw1 hw2 ?_;clear hvr;(try clear g);intro b2 cap2 cs2 g hb2 hrow2;revert g;dsimp only[List.take,List.cons_append,List.nil_append];intro g)
    |(go_simp;go_at_call 102;(with_reducible refine(CL.out _ _ _ _ ?_ HRW.out).mono ?_);(· exact G.sub _ F0 (InF.tail (InF.tail HF.out)));rintro e w1 ⟨b3,cap3,cs3,l3,rfl,hr3,hl3,hb3,hlo3,hc3⟩;obtain⟨g1,rfl⟩:=G.own_ex _ hb3 hlo3 hc3;clear hb3 hlo3 hc3;(try clear g);revert g1;intro g))
   all_goals (as_aux_lemma=>
    ((try simp only[G.drew_eq,G.drewN_eq]);(refine yq _ ?_;(try generalize (G.w _).heap.size=bk);(try dsimp only[yi,yj]);(try clear g);intro g))
    go_wp2_with (with_reducible refine yq _ ?_;(try generalize (G.w _).heap.size=bk);(try dsimp only[yi,yj]);(try clear g);intro g)
    obtain⟨g2,hg2⟩:=g.forget 1
    obtain⟨g3,hg3⟩:=g2.perm (M':=(eb,91,[.pointer (some ⟨sb,0,none⟩),.slice (some ⟨b2,0,none⟩) (k+1) cap2,.bool sa,.slice Aa na ca,.slice Ba da ka])::([(b2,137,cs2)]++(([(b3,43,cs3)]++R)++M))) ((List.Perm.swap _ _ _).trans ((List.Perm.swap _ _ _).cons _))
    rw[hg2,hg3]
    have hxl:xs.length=k:=by
     have:=hrow2.xl
     simp at this
     omega
    go_roundw
    case rel=>
     exact⟨k+1,by go_num,by omega,_,_,_,_,_,RowV.row hrow2 hb2,HO.out.more (s:=[(b3,43,cs3)]) (by rw[←hxl];simp) ⟨_,rfl,_,cap3,rfl,b3,l3,cs3,rfl,rfl,hr3,hl3.mono HF0.out⟩ (fun j hj=>List.getElem?_append_left (by omega)) (fun j hj v s h=>h),g3,rfl⟩
    case measure=>simp[intOf];omega)
  ·obtain rfl:k=n:=by omega
   go_wp2_with (with_reducible refine yq _ ?_;(try generalize (G.w _).heap.size=bk);(try dsimp only[yi,yj]);(try clear g);intro g)
   go_ret
   rcases hvr with⟨_,_,h0,_⟩|⟨rb,rs,rfl,rfl,hrb,hr⟩
   ·omega
   have hxl:xs.length=k:=by
    have:=hr.xl
    omega
   exact⟨sb,eb,rb,capr,rs,R,F,_,_,_,g,rfl,rfl,HRF.out,hown.next (fun j hj=>by
    have hj':=List.mem_range.1 hj
    have e:xs[j]?=some xs[j]:=List.getElem?_eq_getElem (by omega)
    rw[e]
    exact hr.get1 e) (fun j hj v s h=>h),HN0.out,hr.le,hr.max⟩
theorem permR4 {α:Type}(a b c d:α)(l:List α):(a::b::c::d::l).Perm (c::d::b::a::l):=
 (List.perm_append_comm_assoc [a,b] [c,d] l).trans (((List.Perm.swap _ _ _).cons _).cons _)
set_option maxRecDepth 20000 in
set_option maxHeartbeats 8000000 in
theorem begin_w {w0:World}{M:List Blk}{I:List Frag}{F0:Frag}(A A2:Option Addr)(c c2 n m m2:Nat)(x y:Mx)(h:F0.Mt A c n (fun _=>m) (rawM x))(h2:F0.Mt A2 c2 n (fun _=>m2) (rawM y))(n1:1≤n)(n2:n≤1000)(m1:1≤m)(m3:m≤1000)(m4:1≤m2)(m5:m2≤1000)(hF0:InF F0 I)(g:G w0 [] M I)(hT:Tab w0):
  Calls Tryz.prog 62 #[.slice A n c,.slice A2 n c2] g.w (BegP 132 (RowW m m2) n (wideM m x y) w0 M I F0):=by
 have HT:=Lib.hid hT
 have HF:=Lib.hid hF0
 have C1:=Lib.hid (fun w t=>whole_r 1 1 bd_one rfl (by decide) (by decide) w t)
 unfold RT1 at C1
 obtain⟨b,o,rfl,hrow⟩:=h.rowAt n1
 obtain⟨b',o',rfl,hrow2⟩:=h2.rowAt n1
 have HR2:=Lib.hid hrow2
 have HR:=Lib.hid hrow
 obtain⟨j0,hi,hz0,hz1,hz2⟩:=info_parts infoMrow
 have qT:∀(w:World) (a:Option Addr) (n c n' c':Nat),(binOp .eql 29 (.slice a n c) (.slice none n' c')).run Tryz.prog w=.ok (.bool a.isNone) w:=fun w a n c n' c'=>Lib.run_eql_slice_nil w _ _ a n c n' c' Tryz.underlying29
 unfold BegP
 clear h h2 hrow hrow2 hT hF0
 go_enter Tryz.func62,Tryz.ntmps62
 go_wp2_with (with_reducible refine yq _ ?_;(try generalize (G.w _).heap.size=bk);(try dsimp only[yi,yj]);(try clear g);intro g)
 refine(C1.out _ (G.tab g HT.out)).mono ?_
 rintro e w1 ⟨pa,qa,ra,Fa,rfl,ha,hn⟩
 have hnna:=fun k o hk=>Nat.le_trans g.chg.size (hn.new k o hk)
 obtain⟨sa,Aa,na,ca,Ba,da,ka,rfl,rfl,rfl⟩:=ha.shape
 obtain⟨g1,rfl⟩:=G.new_ex _ hn
 clear hn
 (try clear g)
 revert g1
 intro g
 go_wp2_with (with_reducible refine yq _ ?_;(try generalize (G.w _).heap.size=bk);(try dsimp only[yi,yj]);(try clear g);intro g)
 rename_i b7 b8 b9
 obtain⟨eb,rfl⟩:∃eb,eb=bk:=⟨_,rfl⟩
 obtain⟨sb,rfl⟩:∃sb,sb=b7:=⟨_,rfl⟩
 have CL:=Lib.hid (fun A c x w s h=>clone_rat F0 A c m x (by omega) m3 w s h)
 have CL2:=Lib.hid (fun A c x w s h=>clone_rat F0 A c m2 x (by omega) m5 w s h)
 obtain⟨g1,e1⟩:=g.perm (List.Perm.swap _ _ _)
 obtain⟨g2,e2⟩:=G.fixSum g1
 obtain⟨g3,e3⟩:=g2.lessI (I':=Fa::sumF sb::I) (by intro f hf;simp only[List.mem_cons] at hf ⊢;rcases hf with h|h|h;exact .inr (.inl h);exact .inl h;exact .inr (.inr h))
 obtain⟨F,g4,e4,hFa,hF0,hFo⟩:=G.orI g3 (InF.tail HF.out)
 rw[e1,e2,e3,e4]
 have HNO:F.over F0 w0:=fun k o hk=>(hFo k o hk).elim (fun h=> .inr (hnna k o h)) .inl
 have HR1:F.Rt (.bool sa) (.slice Aa na ca) (.slice Ba da ka) (rawOf 1):=ha.mono hFa
 clear e1 e2 e3 e4 hFo hFa ha hnna g1 g2 g3 g
 revert g4
 intro g
 have HRF:=Lib.hid HR1
 have HN0:=Lib.hid HNO
 have HF0:=Lib.hid hF0
 clear HR1 HNO hF0
 go_loopw [15] (fun i wr=>∃k:Nat,i=.int .i64 (k:Int)∧k≤n∧∃(Ar:Option Addr) (capr:Nat) (xs:List Value) (sr R:List Blk),RowV w0.heap.size 137 1 k xs Ar capr sr∧OwnOn (List.range k) (fun i v s=>∃u,v=.iface 132 u∧RowW m m2 F (wideM m x y i) u s) R xs∧∃g:G w0 [] ((eb,91,[.pointer (some ⟨sb,0,none⟩),.slice Ar k capr,.bool sa,.slice Aa na ca,.slice Ba da ka])::(sr++(R++M))) (F::sumF sb::I),wr=g.w) (fun i _=>n-(intOf i).toNat)
 case atStart=>exact⟨0,rfl,by omega,none,0,[],[],[],RowV.nil _ _ _,OwnOn.nil _ _,g,rfl⟩
 case round=>
  clear g
  obtain⟨k,rfl,hk,Ar,capr,xs,sr,R,hvr,hown,g,rfl⟩:=hrel
  by_cases hkn:k<n
  ·have hki:(k:Int)<(n:Int):=by omega
   obtain⟨B,kc,hh,hrw⟩:=HR.out k hkn
   have EH:∀(M:List Blk) (F:Frag) (g:G w0 [] M (F::sumF sb::I)),g.w.cell? ⟨b,o+k,none⟩=some (.slice B m kc):=fun M F g=>hh _ _ _ _ g (InF.tail (InF.tail HF.out))
   have HRW:=Lib.hid hrw
   obtain⟨B2,kc2,hh2,hrw2⟩:=HR2.out k hkn
   have EH2:∀(M:List Blk) (F:Frag) (g:G w0 [] M (F::sumF sb::I)),g.w.cell? ⟨b',o'+k,none⟩=some (.slice B2 m2 kc2):=fun M F g=>hh2 _ _ _ _ g (InF.tail (InF.tail HF.out))
   have HRW2:=Lib.hid hrw2
   clear hh2 hrw2
   have HO:=Lib.hid hown
   clear hh hrw hown
   go_upto_region 7 with(with_reducible refine yq _ ?_;(try generalize (G.w _).heap.size=bk);(try dsimp only[yi,yj]);(try clear g);intro g)
   clear EH
   ((try simp only[G.drew_eq,G.drewN_eq]);(refine yq _ ?_;(try generalize (G.w _).heap.size=bk);(try dsimp only[yi,yj]);(try clear g);intro g))
   have hw1:k+1≤maxLen:=by show k+1≤9223372036854775807;omega
   have hw2:(k+1)*16≤140737488355328:=by omega
   go_region_law (first
    |(refine step_append_v rfl _ _ 89 rfl 137 j0 _ 1 16 Tryz.underlying89 hi hz0 hz1 hz2 rfl (by decide) 4 _ (Rr:=sr) (R':=R++M) (by rfl) hvr (by rfl) (by exact List.mem_cons_self ..) 1 (by rfl) rfl (one_cell _ rfl) (by decide) hw1 hw2 ?_;clear hvr;(try clear g);intro b2 cap2 cs2 g hb2 hrow2;revert g;dsimp only[List.take,List.cons_append,List.nil_append];intro g)
    |(go_simp;go_at_call 102;(with_reducible refine(CL.out _ _ _ _ ?_ HRW.out).mono ?_);(· exact G.sub _ F0 (InF.tail (InF.tail HF.out)));rintro e w1 ⟨b3,cap3,cs3,l3,rfl,hr3,hl3,hb3,hlo3,hc3⟩;obtain⟨g1,rfl⟩:=G.own_ex _ hb3 hlo3 hc3;clear hb3 hlo3 hc3;(try clear g);revert g1;intro g)
    |(go_simp;go_at_call 102;(with_reducible refine(CL2.out _ _ _ _ ?_ HRW2.out).mono ?_);(· exact G.sub _ F0 (InF.tail (InF.tail HF.out)));rintro e w1 ⟨b4,cap4,cs4,l4,rfl,hr4,hl4,hb4,hlo4,hc4⟩;obtain⟨g1,rfl⟩:=G.own_ex _ hb4 hlo4 hc4;clear hb4 hlo4 hc4;(try clear g);revert g1;intro g))
   all_goals (as_aux_lemma=>
    ((try simp only[G.drew_eq,G.drewN_eq]);(refine yq _ ?_;(try generalize (G.w _).heap.size=bk);(try dsimp only[yi,yj]);(try clear g);intro g))
    go_wp2_with (with_reducible refine yq _ ?_;(try generalize (G.w _).heap.size=bk);(try dsimp only[yi,yj]);(try clear g);intro g)
    obtain⟨g2,hg2⟩:=g.forget 1
    obtain⟨g3,hg3⟩:=g2.perm (M':=(eb,91,[.pointer (some ⟨sb,0,none⟩),.slice (some ⟨b2,0,none⟩) (k+1) cap2,.bool sa,.slice Aa na ca,.slice Ba da ka])::([(b2,137,cs2)]++((([(b3,43,cs3)]++[(b4,43,cs4)])++R)++M))) (by simp only[List.drop_succ_cons,List.drop_zero,List.singleton_append,List.cons_append,List.nil_append];exact permR4 _ _ _ _ _)
    rw[hg2,hg3]
    have hxl:xs.length=k:=by
     have:=hrow2.xl
     simp at this
     omega
    go_roundw
    case rel=>
     exact⟨k+1,by go_num,by omega,_,_,_,_,_,RowV.row hrow2 hb2,HO.out.more (s:=[(b3,43,cs3)]++[(b4,43,cs4)]) (by rw[←hxl];simp) ⟨_,rfl,_,cap3,_,cap4,_,_,rfl,rfl,NRow.congr (r:=x k) ⟨b3,l3,cs3,rfl,rfl,hr3,hl3.mono HF0.out⟩ (fun j hj=>(wide_lo x y k hj).symm),NRow.congr (r:=y k) ⟨b4,l4,cs4,rfl,rfl,hr4,hl4.mono HF0.out⟩ (fun j hj=>(wide_hi x y k j).symm)⟩ (fun j hj=>List.getElem?_append_left (by omega)) (fun j hj v s h=>h),g3,rfl⟩
    case measure=>simp[intOf];omega)
  ·obtain rfl:k=n:=by omega
   go_wp2_with (with_reducible refine yq _ ?_;(try generalize (G.w _).heap.size=bk);(try dsimp only[yi,yj]);(try clear g);intro g)
   go_ret
   rcases hvr with⟨_,_,h0,_⟩|⟨rb,rs,rfl,rfl,hrb,hr⟩
   ·omega
   have hxl:xs.length=k:=by
    have:=hr.xl
    omega
   exact⟨sb,eb,rb,capr,rs,R,F,_,_,_,g,rfl,rfl,HRF.out,hown.next (fun j hj=>by
    have hj':=List.mem_range.1 hj
    have e:xs[j]?=some xs[j]:=List.getElem?_eq_getElem (by omega)
    rw[e]
    exact hr.get1 e) (fun j hj v s h=>h),HN0.out,hr.le,hr.max⟩
/-- the blocks s lie in w -/
def Lies (s:List Blk)(w:World):Prop:=∀x∈s,w.heap[x.1]?=some (.cells x.2.2.toArray x.2.1 (0,0))
theorem Lies.old {w:World}{X:List Nat}{M:List Blk}{I:List Frag}{s:List Blk}(h:Lies s w)(g:G w X M I)(hI:heapOf w∈I):Lies s g.w:=fun x hx=>g.sub _ hI x.1 _ (h x hx)
theorem Lies.own {w0:World}{X:List Nat}{M:List Blk}{I:List Frag}{s:List Blk}(g:G w0 X M I)(h:∀x∈s,x∈M):Lies s g.w:=fun x hx=>g.own x (h x hx)
theorem NRow.cells {m cap c:Nat}{F:Frag}{r:Nat→Rat}{A:Option Addr}{s:List Blk}(h:NRow m F r A cap s)(hc:c<m){w:World}(hs:Lies s w):∃b p q r',A=some ⟨b,0,none⟩∧F.Rt p q r' (rawOf (r c))∧w.cell? ⟨b,c*3,none⟩=some p∧w.cell? ⟨b,c*3+1,none⟩=some q∧w.cell? ⟨b,c*3+2,none⟩=some r':=by
 obtain⟨b,l,cs,rfl,rfl,hr,hl⟩:=h
 obtain⟨p,q,r',h1,h2⟩:=hl.2 c hc
 obtain⟨e0,e1,e2⟩:=Row.tri hr h1
 have hb:=hs _ (List.mem_singleton.2 rfl)
 simp only at hb
 have hcell:∀i,w.cell? ⟨b,i,none⟩=cs[i]?:=fun i=>by simp[World.cell?,hb]
 exact⟨b,p,q,r',rfl,h2,(hcell _).trans e0,(hcell _).trans e1,(hcell _).trans e2⟩
theorem plain_atW (m c:Nat)(F:Frag)(r:Nat→Rat)(u:Value)(s:List Blk)(h:RowP m F r u s)(hc:c<m)(w:World)(hs:Lies s w):
  Calls Tryz.prog 193 #[u,.int .i64 (c:Int)] w fun e w'=>∃p q r',e=.returned (.agg #[p,q,r'])∧F.Rt p q r' (rawOf (r c))∧Below w.heap.size w w':=by
 obtain⟨A,cap,rfl,h⟩:=h
 obtain⟨b,p,q,r',rfl,h2,e0,e1,e2⟩:=h.cells hc hs
 obtain⟨s1,A1,n1,c1,B1,d1,k1,rfl,rfl,rfl⟩:=h2.shape
 refine(plain_at b c m cap s1 A1 B1 n1 c1 d1 k1 hc w e0 e1 e2).mono ?_
 rintro e w' ⟨rfl,hbel⟩
 exact⟨_,_,_,rfl,h2,hbel⟩
theorem wide_atW (m m2 c:Nat)(F:Frag)(r:Nat→Rat)(u:Value)(s:List Blk)(h:RowW m m2 F r u s)(hc:c<m)(w:World)(hs:Lies s w):
  Calls Tryz.prog 196 #[u,.int .i64 (c:Int)] w fun e w'=>∃p q r',e=.returned (.agg #[p,q,r'])∧F.Rt p q r' (rawOf (r c))∧Below w.heap.size w w':=by
 obtain⟨A,cap,B,cap',s1,s2,rfl,rfl,h,_⟩:=h
 obtain⟨b,p,q,r',rfl,h2,e0,e1,e2⟩:=h.cells hc (fun x hx=>hs x (List.mem_append_left _ hx))
 obtain⟨s1,A1,n1,c1,B1,d1,k1,rfl,rfl,rfl⟩:=h2.shape
 refine(wide_at b c m cap m2 cap' B s1 A1 B1 n1 c1 d1 k1 hc w e0 e1 e2).mono ?_
 rintro e w' ⟨rfl,hbel⟩
 exact⟨_,_,_,rfl,h2,hbel⟩
/-- a number is null when it has no limbs -/
theorem rt_null {F:Frag}{p q r:Value}{x:Rat}(h:F.Rt p q r (rawOf x)):∃s A n c B d k,p=.bool s∧q=.slice A n c∧r=.slice B d k∧decide (n=0)=decide (x=0):=by
 obtain⟨h1,⟨A,c,h2,_⟩,B,k,h3,_⟩:=h
 refine⟨_,_,_,_,_,_,_,h1,h2,h3,?_⟩
 have:(rawOf x).2.1.length=0↔x=0:=by
  unfold rawOf rn
  rw[List.length_eq_zero_iff,limbs_nil,Int.natAbs_eq_zero,Rat.num_eq_zero]
 exact decide_eq_decide.2 this
/-- the row in front of which the pivot is looked for, counted from there -/
def idxV (x:Mx)(n c a:Nat):Int:=match findP x n c a with
 |some p=>(p:Int)-(a:Int)
 |none=> -1
/-- the rows of an elimination in memory -/
def RowsW (w:World)(rb n:Nat)(K:TypeId)(Q:(Nat→Rat)→Value→List Blk→Prop)(x:Mx):Prop:=∀i,i<n→∃u s,w.cell? ⟨rb,i,none⟩=some (.iface K u)∧Q (x i) u s∧Lies s w
theorem plain_mat (u:Value)(w:World):(method 294 129 u "skyfix/matrix.at").run Tryz.prog w=.ok (193,u) w:=by kernel_rfl
theorem wide_mat (u:Value)(w:World):(method 294 132 u "skyfix/matrix.at").run Tryz.prog w=.ok (196,u) w:=by kernel_rfl
theorem plain_mdiv (u:Value)(w:World):(method 294 129 u "skyfix/matrix.divide").run Tryz.prog w=.ok (194,u) w:=by kernel_rfl
theorem wide_mdiv (u:Value)(w:World):(method 294 132 u "skyfix/matrix.divide").run Tryz.prog w=.ok (197,u) w:=by kernel_rfl
theorem plain_mtake (u:Value)(w:World):(method 294 129 u "skyfix/matrix.take").run Tryz.prog w=.ok (195,u) w:=by kernel_rfl
theorem wide_mtake (u:Value)(w:World):(method 294 132 u "skyfix/matrix.take").run Tryz.prog w=.ok (198,u) w:=by kernel_rfl
/-- the lower factor when rows before i and the first k entries of row i are done -/
def lM (a:Mx)(i k:Nat):Mx:=fun r c=>if r<i∨(r=i∧c<k) then facL a r c else oneM r c
theorem lM_start (a:Mx)(r c:Nat):lM a 0 0 r c=oneM r c:=if_neg (by omega)
theorem facL_diag (a:Mx){r c:Nat}(h:r≤c):facL a r c=oneM r c:=by
 show(if c<r then _ else if r=c then 1 else 0)=(if r=c then 1 else 0)
 rw[if_neg (by omega)]
theorem lM_row (a:Mx)(i:Nat)(r c:Nat):lM a i (i+1) r c=lM a (i+1) 0 r c:=by
 unfold lM
 by_cases h:r<i
 ·rw[if_pos (by omega),if_pos (by omega)]
 ·by_cases h2:r=i
  ·subst h2
   rw[if_pos (c:=r<r+1∨(r=r+1∧c<0)) (by omega)]
   by_cases h3:c<r+1
   ·rw[if_pos (by omega)]
   ·rw[if_neg (by omega),facL_diag a (by omega)]
  ·rw[if_neg (by omega),if_neg (by omega)]
theorem lM_diag (a:Mx)(i:Nat)(r c:Nat):lM a i i r c=lM a i (i+1) r c:=by
 unfold lM
 by_cases h:r=i∧c=i
 ·obtain⟨rfl,rfl⟩:=h
  rw[if_neg (by omega),if_pos (by omega),facL_diag a (Nat.le_refl _)]
 ·by_cases h2:r<i∨(r=i∧c<i)
  ·rw[if_pos h2,if_pos (by omega)]
  ·rw[if_neg h2,if_neg (by omega)]
theorem lM_end (a:Mx){n r:Nat}(hr:r<n)(c:Nat):lM a n 0 r c=facL a r c:=if_pos (.inl hr)
theorem lM_at (a:Mx){i k r j:Nat}(h:r<i∨(r=i∧j<k)):lM a i k r j=facL a r j:=if_pos h
theorem lM_ne (a:Mx){i k r c:Nat}(h:¬ (r=i∧c=k)):lM a i k r c=lM a i (k+1) r c:=by
 unfold lM
 by_cases h2:r<i∨(r=i∧c<k)
 ·rw[if_pos h2,if_pos (by omega)]
 ·rw[if_neg h2,if_neg (by omega)]
/-- a row that the walk owns, as a block -/
theorem OwnOn.block {lo:Nat}{T:TypeId}{F:Frag}{n m i:Nat}{x:Nat→Nat→Raw}{R:List Blk}{oc:List Value}(h:OwnOn (List.range n) (fun j=>NumRow lo T F m (x j)) R oc)(hi:i<n)(hm:0<m):∃b c l cs,oc[i]?=some (.slice (some ⟨b,0,Option.none⟩) m c)∧(b,T,cs)∈R∧Row T 3 m (cells3 l) c cs∧F.Tris l m (x i):=by
 obtain⟨Rs,h1,h2⟩:=h
 obtain⟨v,h3,A,c,l,rfl,hv,hl⟩:=h2 i (List.mem_range.2 hi)
 rcases hv with⟨_,_,h0,_⟩|⟨b,cs,rfl,h4,_,h5⟩
 ·omega
 ·exact⟨b,c,l,cs,h3,h1.mem_iff.2 (List.mem_flatMap.2 ⟨i,List.mem_range.2 hi,by rw[h4];exact List.mem_singleton.2 rfl⟩),h5,hl⟩
theorem Frag.Rw.shorter {f:Frag}{A:Option Addr}{c n k:Nat}{x:Nat→Raw}(h:f.Rw A c n x)(hk:k≤n):f.Rw A c k x:=by
 refine⟨Nat.le_trans hk h.cap,h.max,Nat.le_trans hk h.len,fun h0=>?_⟩
 obtain⟨b,o,e,cs,T,fr,hb,hc⟩:=h.row (by omega)
 exact⟨b,o,e,cs,T,fr,hb,fun j hj=>hc j (by omega)⟩
/-- the first numbers of a row under way, as they lie in memory -/
theorem RowV.rwW {w0:World}{X:List Nat}{M:List Blk}{I:List Frag}(g:G w0 X M I){lo:Nat}{T:TypeId}{n k c:Nat}{A:Option Addr}{l:List Tri}{s:List Blk}{F:Frag}{x:Nat→Raw}(hv:RowV lo T 3 n (cells3 l) A c s)(hl:F.Tris l n x)(hF:F∈I)(hs:∀m∈s,m∈M)(hk:k≤n)(hn:n≤140737488355328):(heapOf g.w).Rw A c k x:=by
 rcases hv with⟨rfl,rfl,rfl,_,_⟩|⟨b,cs,rfl,rfl,_,hr⟩
 ·obtain rfl:k=0:=by omega
  exact Frag.Rw.nil _ _ _
 ·exact Frag.Rw.shorter (row_rw hr (g.own _ (hs _ (List.mem_singleton.2 rfl))) (hl.mono (g.sub F hF)) hn) hk
theorem rt_len0 {F:Frag}{s:Bool}{A B:Option Addr}{n c d k:Nat}{x:Rat}(h:F.Rt (.bool s) (.slice A n c) (.slice B d k) (rawOf x)):n=0↔x=0:=by
 obtain⟨_,_,n',_,_,_,_,_,e,_,h⟩:=rt_null h
 cases e
 exact decide_eq_decide.1 h
theorem rt_sign {F:Frag}{s:Bool}{q r:Value}{x:Rat}(h:F.Rt (.bool s) q r (rawOf x)):s=rneg x:=by
 have:=h.1
 injection this
theorem rneg_pos {x:Rat}(h:0<x):rneg x=false:=by
 unfold rneg
 have:0≤x.num:=Rat.num_nonneg.2 (Rat.le_of_lt h)
 exact decide_eq_false (by omega)
theorem not_pos {x:Rat}(h:¬ 0<x)(h0:x≠0):rneg x=true:=by
 unfold rneg
 refine decide_eq_true ?_
 rcases Int.lt_or_le x.num 0 with h1|h1
 ·exact h1
 ·exact absurd (Rat.lt_of_le_of_ne (Rat.num_nonneg.1 h1) (Ne.symm h0)) h
/-- what Ints returns for rows of which the first has from 1 to 24 ints -/
def RInts (n:Nat)(mm:Nat→Nat)(v:Nat→Nat→Int)(w:World)(e:Ending)(w':World):Prop:=((∀i,i<n→mm i=mm 0)∧RMtE n (fun _=>mm 0) (rawM (intM v)) w e w')∨((∃i,i<n∧mm i≠mm 0)∧RErr 3 w e w')
theorem bd_i64 {a:Int}(h1: -9223372036854775808≤a)(h2:a<9223372036854775808):Bd 64 (a:Rat):=by
 unfold Bd rn
 rw[Rat.num_intCast,Rat.den_intCast]
 exact⟨by show a.natAbs<18446744073709551616;omega,by decide⟩
set_option maxRecDepth 20000 in
theorem shapedI_any (A:Option Addr)(c n:Nat)(m:Nat→Nat)(x:Nat→Nat→Int)(w:World)(h:(heapOf w).Im A c n m x):
  Calls Tryz.prog 84 #[.slice A n c] w fun e w'=>e=.returned (.int .i64 (shpE n (m 0)))∧Below w.heap.size w w':=by
 refine calls_b fun g=>?_
 unfold shpE
 by_cases h1:n<1
 ·rw[if_pos (.inl h1)]
  have hi:(n:Int)<1:=by omega
  clear h h1
  go_enter Tryz.func84,Tryz.ntmps84
  go_wp2_with (with_reducible refine yq _ ?_;(try generalize (G.w _).heap.size=bk);(try dsimp only[yi,yj]);(try clear g);intro g)
  go_ret
  exact⟨rfl,G.below _⟩
 ·have hi:¬ ((n:Int)<1):=by omega
  by_cases h2:24<n
  ·rw[if_pos (.inr (.inl h2))]
   have hi2:(24:Int)<(n:Int):=by omega
   clear h h1 h2
   go_enter Tryz.func84,Tryz.ntmps84
   go_wp2_with (with_reducible refine yq _ ?_;(try generalize (G.w _).heap.size=bk);(try dsimp only[yi,yj]);(try clear g);intro g)
   go_ret
   exact⟨rfl,G.below _⟩
  ·have hi2:¬ ((24:Int)<(n:Int)):=by omega
   obtain⟨b,o,rfl,hrow⟩:=h.rowAt (by omega)
   obtain⟨B0,k0,hh0,hrw0⟩:=hrow 0 (by omega)
   have E0:∀(M:List Blk) (g:G w [] M [heapOf w]),g.w.cell? ⟨b,o,none⟩=some (.slice B0 (m 0) k0):=fun M g=>hh0 _ _ _ _ g (InF.head _ _)
   have hni:(0:Int)<(n:Int):=by omega
   generalize m 0=m0 at*
   clear h hrow hh0 hrw0
   by_cases h3:m0<1
   ·rw[if_pos (.inr (.inr (.inl h3)))]
    have hi3:(m0:Int)<1:=by omega
    clear h1 h2 h3
    go_enter Tryz.func84,Tryz.ntmps84
    go_wp2_with (with_reducible refine yq _ ?_;(try generalize (G.w _).heap.size=bk);(try dsimp only[yi,yj]);(try clear g);intro g)
    go_ret
    exact⟨rfl,G.below _⟩
   ·have hi3:¬ ((m0:Int)<1):=by omega
    by_cases h4:24<m0
    ·rw[if_pos (.inr (.inr (.inr h4)))]
     have hi4:(24:Int)<(m0:Int):=by omega
     clear h1 h2 h3 h4
     go_enter Tryz.func84,Tryz.ntmps84
     go_wp2_with (with_reducible refine yq _ ?_;(try generalize (G.w _).heap.size=bk);(try dsimp only[yi,yj]);(try clear g);intro g)
     go_ret
     exact⟨rfl,G.below _⟩
    ·rw[if_neg (by omega)]
     have hi4:¬ ((24:Int)<(m0:Int)):=by omega
     clear h1 h2 h3 h4
     go_enter Tryz.func84,Tryz.ntmps84
     go_wp2_with (with_reducible refine yq _ ?_;(try generalize (G.w _).heap.size=bk);(try dsimp only[yi,yj]);(try clear g);intro g)
     go_ret
     exact⟨rfl,G.below _⟩
set_option maxRecDepth 20000 in
set_option maxHeartbeats 4000000 in
theorem Ints_any (n:Nat)(mm:Nat→Nat)(v:Nat→Nat→Int)(A:Option Addr)(c:Nat)(w:World)(hA:(heapOf w).Im A c n mm v)(hT:Tab w)(n1:1≤n)(n2:n≤24)(m1:1≤mm 0)(m2:mm 0≤24):
  Calls Tryz.prog 35 #[.slice A n c] w (RInts n mm v w):=by
 refine calls_b fun g=>?_
 unfold RInts RErr RMtE
 have HA:=Lib.hid hA
 have HT:=Lib.hid hT
 have CS:=Lib.hid (fun w h=>shapedI_any A c n mm v w h)
 rw[show shpE n (mm 0)=0 from by unfold shpE;rw[if_neg (by omega)]] at CS
 obtain⟨m,hm⟩:∃m,mm 0=m:=⟨_,rfl⟩
 have HM:=Lib.hid hm
 rw[hm] at m1 m2 ⊢
 have CW:=Lib.hid (fun(a:Int) (h:I64 a) w t=>whole_r a (a:Rat) ((bd_i64 h.1 h.2).mono (by decide)) rfl h.1 h.2 w t)
 unfold RT1 at CW
 have hmk:=make_rows n (by omega)
 obtain⟨i0,hi,hz0,hz1,hz2⟩:=info_parts infoRat
 obtain⟨b,o,rfl,hrow⟩:=hA.rowAt n1
 have HR:=Lib.hid hrow
 obtain⟨B0,k0,hh0,hrw0⟩:=hrow 0 (by omega)
 have E0:∀(M:List Blk) (I:List Frag) (g:G w [] M I) (hF:InF (heapOf w) I),g.w.cell? ⟨b,o,none⟩=some (.slice B0 m k0):=fun M I g hF=>by rw[←hm];exact hh0 _ _ _ _ g hF
 have hn0i:(0:Int)<(n:Int):=by omega
 have hn0:0<n:=by omega
 have hni:(0:Int)≤(n:Int):=by omega
 have hm0i:(0:Int)≤(m:Int):=by omega
 obtain⟨z,hz⟩:∃z,intM v=z:=⟨_,rfl⟩
 have HZ:Hid (∀i j,z i j=(v i j:Rat)):=Lib.hid (fun i j=>by rw[←hz];rfl)
 rw[hz]
 clear hA hT hrow hh0 hrw0 hm hz
 go_enter Tryz.func35,Tryz.ntmps35
 go_wp2_with (with_reducible refine yq _ ?_;(try generalize (G.w _).heap.size=bk);(try dsimp only[yi,yj]);(try clear g);intro g)
 refine(CS.out _ (HA.out.mono (g.sub _ (by simp)))).mono ?_
 rintro e w1 ⟨rfl,hb⟩
 obtain⟨g1,rfl⟩:=G.call_ex _ hb
 clear hb
 (try clear g)
 revert g1
 intro g
 go_wp2_with (with_reducible refine yq _ ?_;(try generalize (G.w _).heap.size=bk);(try dsimp only[yi,yj]);(try clear g);intro g)
 obtain⟨ob,rfl⟩:∃ob,ob=bk:=⟨_,rfl⟩
 have OS:=own_start n (fun j=>NumRow w.heap.size 43 (fun _=>none) (lenA m 0 0 j) (rawM z j)) (fun j _=>by rw[lenA_start];exact NumRow.nil _ _ _ _)
 go_loopw [20] (fun iv wr=>∃i:Nat,iv=.int .i64 (i:Int)∧i≤n∧Hid (∀i',i'<i→mm i'=m)∧∃(F:Frag) (R:List Blk) (oc:List Value),OwnOn (List.range n) (fun j=>NumRow w.heap.size 43 F (lenA m i 0 j) (rawM z j)) R oc∧Hid (oc.length=n)∧F.Nw w∧∃g:G w [] ((ob,38,oc)::R) [F,heapOf w],wr=g.w) (fun iv _=>n-(intOf iv).toNat)
 case atStart=>
  obtain⟨g2,e2⟩:=g.none_ex
  exact⟨0,rfl,by omega,Lib.hid (fun i h=>absurd h (Nat.not_lt_zero i)),fun _=>none,[],_,OS,Lib.hid (by simp),Frag.Nw.none w,g2,e2⟩
 case round=>
  clear g OS
  obtain⟨i,rfl,hi9,HEQ,F,R,oc,hown,hocl,hnw,g,rfl⟩:=hrel
  by_cases hin:i<n
  ·have hii:(i:Int)<(n:Int):=by omega
   obtain⟨Br,kr,hh,hrw⟩:=HR.out i hin
   by_cases hmi:mm i≠m
   ·have EH:∀(M:List Blk) (I:List Frag) (g:G w [] M I) (hF:InF (heapOf w) I),g.w.cell? ⟨b,o+i,none⟩=some (.slice Br (mm i) kr):=fun M I g hF=>hh _ _ _ _ g hF
    have HNE:=Lib.hid (show∃i,i<n∧mm i≠m from⟨i,hin,hmi⟩)
    generalize mm i=mi at*
    have hnb:((mi:Int) !=(m:Int))=true:=by simp;omega
    have hnb2:((mi:Int)==(m:Int))=false:=by simp;omega
    clear hown hocl hnw hh hrw hmi
    go_wp2_with (with_reducible refine yq _ ?_;(try generalize (G.w _).heap.size=bk);(try dsimp only[yi,yj]);(try clear g);intro g)
    go_ret2
    exact Or.inr ⟨HNE.out,rfl,G.below _⟩
   have hmi:mm i=m:=Decidable.not_not.1 hmi
   rw[hmi] at hh hrw
   have HMI:=Lib.hid hmi
   clear hmi
   obtain⟨ba,oa,rfl,hna⟩:=hrw.at m1
   have EH:∀(M:List Blk) (I:List Frag) (g:G w [] M I) (hF:InF (heapOf w) I),g.w.cell? ⟨b,o+i,none⟩=some (.slice (some ⟨ba,oa,none⟩) m kr):=fun M I g hF=>hh _ _ _ _ g hF
   have HNA:=Lib.hid hna
   have HOK:=Lib.hid hrw.ok
   clear hh hna hrw
   go_wp2_with (with_reducible refine yq _ ?_;(try generalize (G.w _).heap.size=bk);(try dsimp only[yi,yj]);(try clear g);intro g)
   go_loopw [34] (fun jv wr=>∃j:Nat,jv=.int .i64 (j:Int)∧j≤m∧∃(F:Frag) (R:List Blk) (oc:List Value),OwnOn (List.range n) (fun j'=>NumRow w.heap.size 43 F (lenA m i j j') (rawM z j')) R oc∧Hid (oc.length=n)∧F.Nw w∧∃g:G w [] ((ob,38,oc)::R) [F,heapOf w],wr=g.w) (fun jv _=>m-(intOf jv).toNat)
   case atStart=>exact⟨0,rfl,by omega,F,R,oc,hown,hocl,hnw,g,rfl⟩
   case round =>
    clear g hown hocl hnw F R oc
    obtain⟨j,rfl,hj,F,R,oc,hown,hocl,hnw,g,rfl⟩:=hrel
    by_cases hjm:j<m
    ·have hji:(j:Int)<(m:Int):=by omega
     obtain⟨v1,s,R',hv,⟨A1,c1,l,rfl,hvr,hl⟩,hp,hbut⟩:=hown.openAt hin
     rw[lenA_at] at hvr hl hv
     obtain⟨g1,e1⟩:=g.perm (M':=(ob,38,oc)::(s++R')) (hp.cons _)
     rw[e1]
     clear e1 g hown hp
     revert g1
     intro g
     have EV:∀(M:List Blk) (I:List Frag) (g:G w [] M I) (hF:InF (heapOf w) I),g.w.cell? ⟨ba,oa+j,none⟩=some (.int .i64 (v i j)):=fun M I g hF=>HNA.out j hjm _ _ _ _ g hF
     have HI:=Lib.hid (HOK.out j hjm)
     have HZ1:=Lib.hid (HZ.out i j)
     have HL:=Lib.hid hl
     have HB:=Lib.hid hbut
     have hw1:j+1≤maxLen:=by show j+1≤9223372036854775807;omega
     have hw2:(j+1)*56≤140737488355328:=by omega
     have CW1:=Lib.hid (CW.out (v i j) HI.out)
     clear hl hbut
     generalize v i j=x at*
     go_upto_region 13 with(with_reducible refine yq _ ?_;(try generalize (G.w _).heap.size=bk);(try dsimp only[yi,yj]);(try clear g);intro g)
     clear EV
     ((try simp only[G.drew_eq,G.drewN_eq]);(refine yq _ ?_;(try generalize (G.w _).heap.size=bk);(try dsimp only[yi,yj]);(try clear g);intro g))
     go_region_law (first
      |(refine step_append_v rfl _ _ 38 rfl 43 i0 _ 3 56 Tryz.underlying38 hi hz0 hz1 hz2 rfl (by decide) 2 _ (Rr:=s) (R':=R') (by rfl) hvr (by rfl) (by exact List.mem_cons_self ..) 1 (by rfl) rfl (three _ _ _ ⟨rfl,rfl,rfl⟩) (by decide) hw1 hw2 ?_;clear hvr;(try clear g);intro b2 cap cs g hb2 hrow2;revert g;dsimp only[List.take,List.cons_append,List.nil_append];intro g)
      |(go_simp;go_at_call 64;(with_reducible refine(CW1.out _ ?_).mono ?_);(· exact G.tab _ HT.out);rintro e w1 ⟨pa,qa,ra,Fa,rfl,ha,hn⟩;have hnna:=fun k o hk=>Nat.le_trans (G.chg _).size (hn.new k o hk);obtain⟨sa,Aa,na,ca,Ba,da,ka,rfl,rfl,rfl⟩:=ha.shape;obtain⟨g1,rfl⟩:=G.new_ex _ hn;clear hn;(try clear g);revert g1;intro g))
     all_goals (as_aux_lemma=>
      ((try simp only[G.drew_eq,G.drewN_eq]);(refine yq _ ?_;(try generalize (G.w _).heap.size=bk);(try dsimp only[yi,yj]);(try clear g);intro g))
      go_wp2_with (with_reducible refine yq _ ?_;(try generalize (G.w _).heap.size=bk);(try dsimp only[yi,yj]);(try clear g);intro g)
      obtain⟨g2,hg2⟩:∃g2:G w [] ((ob,38,oc.set i (.slice (some ⟨b2,0,none⟩) (j+1) cap))::(b2,43,cs)::R') [Fa,F,heapOf w],g.w=g2.w:=g.forget 1
      rw[hg2]
      obtain⟨F',g3,e3,hle,hle2,hnew⟩:=g2.merge
      rw[e3]
      go_roundw
      case rel=>
       refine⟨j+1,by go_num,by omega,F',(b2,43,cs)::R',_,HB.out.closeAt (s:=[(b2,43,cs)]) hin (List.getElem?_set_self (by have:=hocl.out;omega)) ?_ (fun j' h _=>List.getElem?_set_ne (Ne.symm h)) (fun j' h _ v s hq=>?_),Lib.hid (by simp[hocl.out]),fun k' o hk'=>(hnew k' o hk').elim (hnw k' o) (hnna k' o),g3,rfl⟩
       ·rw[lenA_at]
        exact NumRow.snoc HL.out hle hrow2 hb2 (by unfold rawM;rw[HZ1.out];exact ha.mono hle2)
       ·rw[lenA_ne m h (k':=j)]
        exact hq.mono hle
      case measure=>simp[intOf];omega)
    ·obtain rfl:j=m:=by omega
     go_wp2_with (with_reducible refine yq _ ?_;(try generalize (G.w _).heap.size=bk);(try dsimp only[yi,yj]);(try clear g);intro g)
     go_roundw
     case rel=>exact⟨i+1,by go_num,by omega,Lib.hid (fun i' h=>if h2:i'=i then h2▸HMI.out else HEQ.out i' (by omega)),F,R,oc,hown.next (fun _ _=>rfl) (fun j hj v s hq=>by rw[←lenA_full];exact hq),hocl,hnw,g,rfl⟩
     case measure=>simp[intOf];omega
  ·obtain rfl:i=n:=by omega
   go_wp2_with (with_reducible refine yq _ ?_;(try generalize (G.w _).heap.size=bk);(try dsimp only[yi,yj]);(try clear g);intro g)
   go_ret2
   obtain⟨g1,e1⟩:=g.as (M':=(ob,38,oc)::(R++[])) (by simp)
   obtain⟨F',g',e',hmt,_,hnw'⟩:=g1.freeze hown hnw (by omega) (fun i _=>by unfold lenA;split<;>(try split)<;>omega)
   exact Or.inl ⟨HEQ.out,ob,i,F',rfl,hmt.congr (fun i hi=>lenA_end hi) (fun _ _ _ _=>rfl),by rw[e1,e'];exact g'.newF hnw'⟩
end Go.Proofs.YthhbbnfnejjpiaaGreatDoor
