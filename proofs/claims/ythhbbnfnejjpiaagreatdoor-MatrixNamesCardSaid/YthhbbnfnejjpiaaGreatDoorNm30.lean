/- Plain facts and contracts of functions of the program, out of walks. Their conditions stand ahead of each. -/
import Derived.Test.YthhbbnfnejjpiaaGreatDoorNm1
import Derived.Test.YthhbbnfnejjpiaaGreatDoorNm2
import Derived.Test.YthhbbnfnejjpiaaGreatDoorNm5
import Derived.Test.YthhbbnfnejjpiaaGreatDoorNm23
import Derived.Test.YthhbbnfnejjpiaaGreatDoorNm29
import Derived.Below
import Derived.BigQuiet
import Derived.Deep.DeepCutAuto
import Derived.Deep.Draws
import Derived.Deep.LoopGhost
import Derived.Deep.QuietTactic
import Derived.Deep.RegionHeld3
import Derived.Deep.RegionLaw
import Derived.Defers
import Derived.Laws.BytesString
import Derived.Laws.Cells
import Derived.Laws.Concat
import Derived.Laws.CopyOwn
import Derived.Laws.CopyRow
import Derived.Laws.NewBlocks
import Derived.Laws.OwnMore
import Derived.Laws.Pointers
import Derived.Laws.Rows
import Derived.Lib.BitFns
import Derived.Lib.Hide
import Derived.Lib.ItoaNum
import Derived.Lib.SliceRun
import Derived.Lib.TrailingZeros
import Derived.LoopIn
import Derived.LoopNIn
import Derived.Maps.AppendAt
import Derived.OrdersHeld
import Derived.OrdersIn
import Derived.OwnWalk
import Derived.OwnWalkIn
import Derived.RangeFuncBound
import Derived.RangeFuncBox
import Derived.RangeFuncCalls
import Derived.RangeFuncLeaves
import Derived.RangeFuncNested
import Derived.RangeFuncWrites
import Derived.RowKit3
import Derived.Shelf.Abstract
import Derived.Shelf.RegionOpen
import Derived.Shelf.Spec.TrailingZeros
import Derived.StillTactics
import Derived.StillTailTactics
import Derived.TacticsInMore
import Derived.Test.YthhbbnfnejjpiaaGreatDoorProg
import Derived.WalkKit
import Derived.WalkLawsBesides
import Derived.WalkMore
import Derived.WalkSpells
set_option linter.unusedVariables false
set_option linter.unusedSimpArgs false
set_option exponentiation.threshold 10000
namespace Go.Proofs.YthhbbnfnejjpiaaGreatDoor
open Go.RowKit GW NL MX
/-- two rows change places -/
theorem GW.OwnOn.swap {n a b:Nat}{P:(Nat→Rat)→Value→List Blk→Prop}{x:Mx}{R:List Blk}{rs:List Value}{va vb:Value}(h:OwnOn (List.range n) (fun i v u=>P (x i) v u) R rs)(ha:a<n)(hb:b<n)(hab:a≠b)(h1:rs[a]?=some va)(h2:rs[b]?=some vb):
  OwnOn (List.range n) (fun i v u=>P (swapR x a b i) v u) R ((rs.set a vb).set b va):=by
 obtain⟨Rs,hp,hq⟩:=h
 let σ:Nat→Nat:=fun j=>if j=a then b else if j=b then a else j
 have hσ:∀j,σ j=if j=a then b else if j=b then a else j:=fun _=>rfl
 have inv:∀j,σ (σ j)=j:=by
  intro j
  simp only[hσ]
  split
  ·next h=>subst h;rw[if_neg (Ne.symm hab),if_pos rfl]
  ·next h1=>
   split
   ·next h=>subst h;rw[if_pos rfl]
   ·next h2=>rfl
 have lt:∀j,j<n→σ j<n:=by
  intro j hj
  simp only[hσ]
  split<;>(try split)<;>omega
 refine⟨fun j=>Rs (σ j),hp.trans ?_,?_⟩
 ·have e:(List.range n).flatMap (fun j=>Rs (σ j))=((List.range n).map σ).flatMap Rs:=by rw[List.flatMap_map]
  rw[e]
  refine List.Perm.flatMap_right Rs ((List.perm_ext_iff_of_nodup List.nodup_range ?_).2 fun j=>?_)
  ·exact List.Pairwise.map σ (fun i j hij e=>hij (by rw[←inv i,←inv j,e])) List.nodup_range
  ·simp only[List.mem_map,List.mem_range]
   exact⟨fun hj=>⟨σ j,lt j hj,inv j⟩,fun⟨i,hi,e⟩=>e▸lt i hi⟩
 ·intro j hj
  have hj':=List.mem_range.1 hj
  obtain⟨v,hv,hQ⟩:=hq (σ j) (List.mem_range.2 (lt j hj'))
  have la:a<rs.length:=(List.getElem?_eq_some_iff.1 h1).1
  have lb:b<rs.length:=(List.getElem?_eq_some_iff.1 h2).1
  have ex:x (σ j)=swapR x a b j:=by
   unfold swapR
   simp only[hσ]
   split
   ·rfl
   ·split<;>rfl
  refine⟨v,?_,by show P (swapR x a b j) v (Rs (σ j));rw[←ex];exact hQ⟩
  rw[←hv]
  simp only[hσ]
  split
  ·next h=>subst h;rw[List.getElem?_set_ne (Ne.symm hab),List.getElem?_set_self la,h2]
  ·next h3=>
   split
   ·next h=>subst h;rw[List.getElem?_set_self (by simpa using lb),h1]
   ·next h4=>rw[List.getElem?_set_ne (fun e=>h4 e.symm),List.getElem?_set_ne (fun e=>h3 e.symm)]
/-- the state when a round begins, and what the round makes of it -/
def swapE (s:El)(p:Nat):El:=⟨swapR s.x s.rk p,if p=s.rk then s.det else -s.det,s.rk⟩
def roundE (s:El)(c:Nat):El:=⟨takeR (divR s.x s.rk (s.x s.rk c)) s.rk c,s.det*s.x s.rk c,s.rk+1⟩
theorem stepE_some {n c p:Nat}{s:El}(h:findP s.x n c s.rk=some p):stepE n c s=roundE (swapE s p) c:=by
 unfold stepE roundE swapE pivR
 rw[h]
 have:swapR s.x s.rk p s.rk c=s.x p c:=by unfold swapR;rw[if_pos rfl]
 simp only[this]
theorem stepE_none {n c:Nat}{s:El}(h:findP s.x n c s.rk=none):stepE n c s=s:=by
 unfold stepE
 rw[h]
theorem run_full {n:Nat}{s:El}{c:Nat}(h:n≤(runE n s c).rk):∀d,runE n s (c+d)=runE n s c
 |0=>rfl
 |d+1=>by
  show stepE n (c+d) (runE n s (c+d))=_
  rw[run_full h d]
  exact stepE_none (findP_none_of fun q h1 h2=>by omega)
/-- sizes that a round needs -/
structure Fine (n mt:Nat)(s:El)(c:Nat):Prop where
 det:Bd 8192 s.det
 det2:Bd 8192 (s.det*s.x s.rk c)
 ent:∀i,i<n→∀j,j<mt→Bd 8192 (s.x i j)
 quo:∀j,j<mt→Bd 8192 (s.x s.rk j/s.x s.rk c)
 pro:∀i,i<n→∀j,j<mt→Bd 8192 (s.x i c*(s.x s.rk j/s.x s.rk c))
 dif:∀i,i<n→∀j,j<mt→Bd 8192 (s.x i j-s.x i c*(s.x s.rk j/s.x s.rk c))
/-- what a round is handed -/
structure Ready (n m mt:Nat)(s:El)(c:Nat):Prop where
 rk:s.rk<n
 col:c<m
 ne:s.x s.rk c≠0
 fine:Fine n mt s c
/-- an elimination in memory: the block of e, its rows, its number of pivots, the boxes of the range over its pivots -/
def ElW (K:TypeId)(Q:Frag→(Nat→Rat)→Value→List Blk→Prop)(w0:World)(n sb eb rb capr kb xb cb e2 cols:Nat)(F0:Frag)(M:List Blk)(I:List Frag)(B:Nat)(s:El)(W:World):Prop:=
 ∃(rs:List Value) (R:List Blk) (F:Frag) (p q r:Value),F.Rt p q r (rawOf s.det)∧OwnOn (List.range n) (fun i v u=>(fun(y:Nat→Rat) v u=>∃x,v=.iface K x∧Q F y x u) (s.x i) v u) R rs∧F.over F0 w0∧(∀k o,F k=some o→k<B∨o.isCells=true)∧
  ∃g:G w0 [] ((eb,91,[.pointer (some ⟨sb,0,none⟩),.slice (some ⟨rb,0,none⟩) n capr,p,q,r])::(rb,137,rs)::(kb,3,[.int .i64 (s.rk:Int)])::(xb,87,[.pointer (some ⟨eb,0,none⟩)])::(cb,3,[.int .i64 (cols:Int)])::(e2,87,[.pointer (some ⟨eb,0,none⟩)])::(R++M)) (F::I),W=g.w
theorem ElW.calm {K:TypeId}{Q:Frag→(Nat→Rat)→Value→List Blk→Prop}{w0:World}{n sb eb rb capr kb xb cb e2 cols:Nat}{F0:Frag}{M:List Blk}{I:List Frag}{B:Nat}{s:El}(hB:w0.heap.size≤B)(hI:∀f∈I,∀k o,f k=some o→k<B∨o.isCells=true):
  GW.Calm B (ElW K Q w0 n sb eb rb capr kb xb cb e2 cols F0 M I B s):=by
 rintro W W' row ⟨rs,R,F,p,q,r,h1,h2,h3,h4,g,rfl⟩ hg hr
 obtain⟨g',e⟩:=g.grown_ex hB (by
  intro f hf
  rcases List.mem_cons.1 hf with rfl|hf
  ·exact h4
  ·exact hI f hf) hg hr
 exact⟨rs,R,F,p,q,r,h1,h2,h3,h4,g',e⟩
theorem G.rowsW {w0:World}{X:List Nat}{M:List Blk}{I:List Frag}{K:TypeId}{Q:(Nat→Rat)→Value→List Blk→Prop}{n rb:Nat}{R:List Blk}{rs:List Value}{x:Mx}(g:G w0 X M I)(h:OwnOn (List.range n) (fun i v u=>(fun(y:Nat→Rat) v u=>∃z,v=.iface K z∧Q y z u) (x i) v u) R rs)(hrb:(rb,137,rs)∈M)(hR:∀m∈R,m∈M):RowsW g.w rb n K Q x:=by
 obtain⟨Rs,hp,hq⟩:=h
 intro i hi
 obtain⟨v,hv,u,rfl,hQ⟩:=hq i (List.mem_range.2 hi)
 refine⟨u,Rs i,?_,hQ,fun m hm=>g.own m (hR m (hp.mem_iff.2 (List.mem_flatMap.2 ⟨i,List.mem_range.2 hi,hm⟩)))⟩
 have:=g.own _ hrb
 simp only at this
 simp[World.cell?,this,hv]
/-- the cells of a part -/
def onlyC (F:Frag):Frag:=fun k=>match F k with|some o=>if o.isCells then some o else none|none=>none
theorem onlyC_sub {F:Frag}{k:Nat}{o:Obj}(h:onlyC F k=some o):F k=some o∧o.isCells=true:=by
 unfold onlyC at h
 split at h
 ·split at h
  ·cases h;exact⟨by assumption,by assumption⟩
  ·cases h
 ·cases h
theorem onlyC_sl {F:Frag}{A:Option Addr}{c:Nat}{l:List Nat}(h:F.Sl A c l):(onlyC F).Sl A c l:=by
 refine⟨h.cap,h.max,h.len,?_,h.ok⟩
 intro hl
 obtain⟨b,o,e,cs,T,fr,hb,hc⟩:=h.lim hl
 refine⟨b,o,e,cs,T,fr,?_,hc⟩
 unfold onlyC
 rw[hb]
 rfl
theorem onlyC_rt {F:Frag}{p q r:Value}{t:Raw}(h:F.Rt p q r t):(onlyC F).Rt p q r t:=by
 obtain⟨h1,⟨A,c,h2,h3⟩,B,k,h4,h5⟩:=h
 exact⟨h1,⟨A,c,h2,onlyC_sl h3⟩,B,k,h4,onlyC_sl h5⟩
theorem NRow.only {m:Nat}{F:Frag}{r:Nat→Rat}{A:Option Addr}{cap:Nat}{s:List Blk}(h:NRow m F r A cap s):NRow m (onlyC F) r A cap s:=by
 obtain⟨b,l,cs,h1,h2,h3,h4⟩:=h
 exact⟨b,l,cs,h1,h2,h3,h4.1,fun j hj=>by obtain⟨p,q,r',k1,k2⟩:=h4.2 j hj;exact⟨p,q,r',k1,onlyC_rt k2⟩⟩
theorem RowP.only (m:Nat)(F:Frag)(r:Nat→Rat)(u:Value)(s:List Blk)(h:RowP m F r u s):RowP m (onlyC F) r u s:=by
 obtain⟨A,cap,h1,h2⟩:=h
 exact⟨A,cap,h1,h2.only⟩
theorem RowW.only (m m2:Nat)(F:Frag)(r:Nat→Rat)(u:Value)(s:List Blk)(h:RowW m m2 F r u s):RowW m m2 (onlyC F) r u s:=by
 obtain⟨A,cap,B,cap',s1,s2,h1,h2,h3,h4⟩:=h
 exact⟨A,cap,B,cap',s1,s2,h1,h2,h3.only,h4.only⟩
theorem G.onlyC {w0:World}{X:List Nat}{M:List Blk}{F:Frag}{I:List Frag}(g:G w0 X M (F::I)):∃g':G w0 X M (onlyC F::I),g.w=g'.w:=by
 refine⟨⟨g.w,g.chg,g.own,g.may,g.dist,?_,?_⟩,rfl⟩
 ·intro f hf
  rcases List.mem_cons.1 hf with rfl|hf
  ·intro k o hk
   exact g.sub F (List.mem_cons_self ..) k o (onlyC_sub hk).1
  ·exact g.sub f (List.mem_cons_of_mem _ hf)
 ·intro f hf k o hk
  rcases List.mem_cons.1 hf with rfl|hf
  ·exact g.keep F (List.mem_cons_self ..) k o (onlyC_sub hk).1
  ·exact g.keep f (List.mem_cons_of_mem _ hf) k o hk
/-- a state is made, whatever the part holds beside cells -/
theorem ElW.make {K:TypeId}{Q:Frag→(Nat→Rat)→Value→List Blk→Prop}{w0:World}{n sb eb rb capr kb xb cb e2 cols:Nat}{F0:Frag}{M:List Blk}{I:List Frag}{B:Nat}{s:El}{rs:List Value}{R:List Blk}{F:Frag}{p q r:Value}(hQ:∀F y x u,Q F y x u→Q (Go.Proofs.YthhbbnfnejjpiaaGreatDoor.onlyC F) y x u)
  (h1:F.Rt p q r (rawOf s.det)) (h2:OwnOn (List.range n) (fun i v u=>(fun(y:Nat→Rat) v u=>∃x,v=.iface K x∧Q F y x u) (s.x i) v u) R rs) (h3:F.over F0 w0)
  (g:G w0 [] ((eb,91,[.pointer (some ⟨sb,0,none⟩),.slice (some ⟨rb,0,none⟩) n capr,p,q,r])::(rb,137,rs)::(kb,3,[.int .i64 (s.rk:Int)])::(xb,87,[.pointer (some ⟨eb,0,none⟩)])::(cb,3,[.int .i64 (cols:Int)])::(e2,87,[.pointer (some ⟨eb,0,none⟩)])::(R++M)) (F::I)):ElW K Q w0 n sb eb rb capr kb xb cb e2 cols F0 M I B s g.w:=by
 obtain⟨g1,e1⟩:=G.onlyC g
 exact⟨rs,R,Go.Proofs.YthhbbnfnejjpiaaGreatDoor.onlyC F,p,q,r,onlyC_rt h1,h2.next (fun _ _=>rfl) (fun j hj v u hq=>by obtain⟨x,e,hx⟩:=hq;exact⟨x,e,hQ _ _ _ _ hx⟩),fun k o hk=>h3 k o (onlyC_sub hk).1,fun k o hk=> .inr (onlyC_sub hk).2,g1,e1⟩
/-- the blocks that hold no cells -/
def nonF (W:World):Frag:=fun k=>match W.heap[k]? with
 |some o=>if o.isCells then none else some o
 |none=>none
theorem nonF_at {W:World}{k:Nat}{o:Obj}(h:W.heap[k]?=some o)(ho:o.isCells=false):nonF W k=some o:=by
 unfold nonF
 rw[h]
 simp[ho]
theorem nonF_sub {W:World}{k:Nat}{o:Obj}(h:nonF W k=some o):W.heap[k]?=some o∧o.isCells=false:=by
 unfold nonF at h
 split at h
 ·next o' ho=>
  split at h
  ·cases h
  ·next hc=>cases h;exact⟨ho,by simpa using hc⟩
 ·cases h
theorem G.seeN {w0:World}{M:List Blk}{I:List Frag}(g:G w0 [] M I):∃g':G w0 [] M (nonF g.w::I),g.w=g'.w:=
 ⟨g.see (nonF g.w) (fun k o h=>(nonF_sub h).1) (fun k o h=>⟨.inr (by simp),fun hm=>by
  obtain⟨h1,h2⟩:=nonF_sub h
  obtain⟨m,hm2,e⟩:=List.mem_map.1 hm
  have:=g.own m hm2
  rw[e,h1] at this
  cases this
  cases h2⟩),rfl⟩
theorem pivots_any (eb cols:Nat)(w:World):
  Calls Tryz.prog 103 #[.pointer (some ⟨eb,0,none⟩),.int .i64 (cols:Int)] w fun e w'=>e=.returned (.func (.func 131) #[] #[.pointer (some ⟨w.heap.size+1,0,none⟩),.pointer (some ⟨w.heap.size,0,none⟩)])∧w'=(w.alloc (.cells #[.pointer (some ⟨eb,0,none⟩)] 87)).alloc (.cells #[.int .i64 (cols:Int)] 3):=by
 go_enter Tryz.func103,Tryz.ntmps103
 go_wp2
 go_ret
 refine⟨?_,rfl⟩
 simp[World.alloc]
section
variable {K:TypeId}{Q:Frag→(Nat→Rat)→Value→List Blk→Prop}{w0:World}{n sb eb rb capr kb xb cb e2 cols:Nat}{F0:Frag}{M:List Blk}{I:List Frag}{B:Nat}{s:El}{W:World}{l D:Nat}{oL oD:Obj}
theorem ElW.up (h:ElW K Q w0 n sb eb rb capr kb xb cb e2 cols F0 M I B s W)(hL:oL.isCells=false)(hD:oD.isCells=false)(h1:W.heap[l]?=some oL)(h2:W.heap[D]?=some oD):ElW K Q w0 n sb eb rb capr kb xb cb e2 cols F0 M (blkF l oL::blkF D oD::I) B s W:=by
 obtain⟨rs,R,F,p,q,r,k1,k2,k3,k4,g,rfl⟩:=h
 obtain⟨g1,e1⟩:=g.seeD h2 hD
 rw[e1] at h1
 obtain⟨g2,e2⟩:=g1.seeD h1 hL
 obtain⟨g3,e3⟩:=g2.lessI (I':=F::blkF l oL::blkF D oD::I) (by intro f hf;simp only[List.mem_cons] at hf ⊢;rcases hf with h|h|h|h;exact .inr (.inr (.inl h));exact .inl h;exact .inr (.inl h);exact .inr (.inr (.inr h)))
 exact⟨rs,R,F,p,q,r,k1,k2,k3,k4,g3,(e1.trans e2).trans e3⟩
theorem ElW.down (h:ElW K Q w0 n sb eb rb capr kb xb cb e2 cols F0 M (blkF l oL::blkF D oD::I) B s W):ElW K Q w0 n sb eb rb capr kb xb cb e2 cols F0 M I B s W∧W.heap[l]?=some oL∧W.heap[D]?=some oD:=by
 obtain⟨rs,R,F,p,q,r,k1,k2,k3,k4,g,rfl⟩:=h
 obtain⟨g1,e1⟩:=g.lessI (I':=F::I) (by intro f hf;simp only[List.mem_cons] at hf ⊢;rcases hf with h|h;exact .inl h;exact .inr (.inr (.inr h)))
 exact⟨⟨rs,R,F,p,q,r,k1,k2,k3,k4,g1,e1⟩,g.sub (blkF l oL) (by simp) l oL (by simp[blkF]),g.sub (blkF D oD) (by simp) D oD (by simp[blkF])⟩
end
theorem plain_ntake (u:Value)(w:World):(nilAhead 294 129 u "skyfix/matrix.take").run Tryz.prog w=.ok (some false) w:=by kernel_rfl
theorem wide_ntake (u:Value)(w:World):(nilAhead 294 132 u "skyfix/matrix.take").run Tryz.prog w=.ok (some false) w:=by kernel_rfl
theorem G.alloc1 {w0:World}{X:List Nat}{M:List Blk}{I:List Frag}(g:G w0 X M I)(T:TypeId)(cs:List Value):∃g':G w0 X ((g.w.heap.size,T,cs)::M) I,g.w.alloc (.cells cs.toArray T)=g'.w:=by
 exact G.own_ex g ((Below.refl _ _).alloc (Nat.le_refl _) _) (Nat.le_refl _) (World.alloc_heap_new g.w _)
theorem permRun {α:Type}(a b c d e f h:α)(L R:List α):(a::b::c::d::e::f::h::(R++L)).Perm (f::h::c::b::a::e::(R++d::L)):=by
 refine(List.perm_middle (l₁:=[a,b,c,d,e])).trans (List.Perm.cons _ ?_)
 refine(List.perm_middle (l₁:=[a,b,c,d,e])).trans (List.Perm.cons _ ?_)
 refine(List.perm_middle (l₁:=[a,b])).trans (List.Perm.cons _ ?_)
 refine(List.perm_middle (l₁:=[a])).trans (List.Perm.cons _ (List.Perm.cons _ ?_))
 exact(List.Perm.swap e d (R++L)).trans (List.Perm.cons e (List.perm_middle (l₁:=R) (a:=d) (l₂:=L)).symm)
theorem G.seeN2 {w0:World}{M:List Blk}{I:List Frag}{F:Frag}(g:G w0 [] M (F::I)):∃N:Frag,∃g':G w0 [] M (F::N::I),g.w=g'.w∧∀(k:Nat) (o:Obj),g.w.heap[k]?=some o→o.isCells=false→N k=some o:=by
 obtain⟨g1,e1⟩:=G.seeN g
 obtain⟨g2,e2⟩:=g1.lessI (I':=F::nonF g.w::I) (by intro f hf;simp only[List.mem_cons] at hf ⊢;rcases hf with h|h|h;exact .inr (.inl h);exact .inl h;exact .inr (.inr h))
 exact⟨nonF g.w,g2,e1.trans e2,fun k o h1 h2=>nonF_at h1 h2⟩
/-- the rows in front of row i are done -/
def takeU (x:Mx)(t c i:Nat):Mx:=fun j k=>if j≠t∧j<i then x j k-x j c*x t k else x j k
theorem takeU_zero (x:Mx)(t c j:Nat):takeU x t c 0 j=x j:=by
 funext k
 unfold takeU
 rw[if_neg (by omega)]
theorem takeU_at (x:Mx)(t c i:Nat):takeU x t c i i=x i:=by
 funext k
 unfold takeU
 rw[if_neg (by omega)]
theorem takeU_t (x:Mx)(t c i:Nat):takeU x t c i t=x t:=by
 funext k
 unfold takeU
 rw[if_neg (by omega)]
theorem takeU_ne (x:Mx)(t c:Nat){i j:Nat}(h:j≠i):takeU x t c (i+1) j=takeU x t c i j:=by
 funext k
 unfold takeU
 have:(j≠t∧j<i+1)↔(j≠t∧j<i):=by omega
 simp only[this]
theorem takeU_self (x:Mx)(t c j:Nat):takeU x t c (t+1) j=takeU x t c t j:=by
 by_cases h:j=t
 ·subst h;rw[takeU_at,takeU_t]
 ·exact takeU_ne x t c h
theorem takeU_null (x:Mx){t c i:Nat}(h:x i c=0)(j:Nat):takeU x t c (i+1) j=takeU x t c i j:=by
 by_cases e:j=i
 ·subst e
  rw[takeU_at]
  funext k
  unfold takeU
  split
  ·rw[h];grind
  ·rfl
 ·exact takeU_ne x t c e
theorem takeU_row (x:Mx){t c i:Nat}(h:i≠t):takeU x t c (i+1) i=fun k=>x i k-x i c*x t k:=by
 funext k
 unfold takeU
 rw[if_pos ⟨h,by omega⟩]
theorem takeU_end (x:Mx)(t c:Nat){n j:Nat}(h:j<n):takeU x t c n j=takeR x t c j:=by
 funext k
 unfold takeU takeR
 by_cases e:j=t
 ·rw[if_neg (by omega),if_pos e]
 ·rw[if_pos ⟨e,h⟩,if_neg e]
theorem divR_t (x:Mx)(t:Nat)(v:Rat):divR x t v t=fun k=>x t k/v:=by
 funext k
 unfold divR
 rw[if_pos rfl]
theorem divR_ne (x:Mx){t j:Nat}(v:Rat)(h:j≠t):divR x t v j=x j:=by
 funext k
 unfold divR
 rw[if_neg h]
theorem permDone {α:Type}(a b c d e f h:α)(L R:List α):(a::b::c::d::e::f::(R++h::L)).Perm (h::c::a::b::d::e::f::(R++L)):=by
 refine(List.perm_middle (l₁:=a::b::c::d::e::f::R) (a:=h) (l₂:=L)).trans (List.Perm.cons h ?_)
 exact List.perm_middle (l₁:=[a,b]) (a:=c) (l₂:=d::e::f::(R++L))
/-- a kind of rows -/
structure Kind (ti:TypeId)(fa fd ft:FuncId)(m mt:Nat)(Q:Frag→(Nat→Rat)→Value→List Blk→Prop):Prop where
 le:m≤mt
 entry:∀(c:Nat) (F:Frag) (r:Nat→Rat) (u:Value) (s:List Blk),Q F r u s→c<m→∀w,Lies s w→Calls Tryz.prog fa #[u,.int .i64 (c:Int)] w fun e w'=>∃p q r',e=.returned (.agg #[p,q,r'])∧F.Rt p q r' (rawOf (r c))∧Below w.heap.size w w'
 mat:∀(u:Value) (w:World),(method 294 ti u "skyfix/matrix.at").run Tryz.prog w=.ok (fa,u) w
 mdiv:∀(u:Value) (w:World),(method 294 ti u "skyfix/matrix.divide").run Tryz.prog w=.ok (fd,u) w
 mtake:∀(u:Value) (w:World),(method 294 ti u "skyfix/matrix.take").run Tryz.prog w=.ok (ft,u) w
 ntake:∀(u:Value) (w:World),(nilAhead 294 ti u "skyfix/matrix.take").run Tryz.prog w=.ok (some false) w
 cat:∀(args:Array Value) (w:World),(callFunc fa args).run Tryz.prog w=.ok (.enter fa args) w
 cdiv:∀(args:Array Value) (w:World),(callFunc fd args).run Tryz.prog w=.ok (.enter fd args) w
 ctake:∀(args:Array Value) (w:World),(callFunc ft args).run Tryz.prog w=.ok (.enter ft args) w
 only:∀(F:Frag) (r:Nat→Rat) (u:Value) (s:List Blk),Q F r u s→Q (onlyC F) r u s
 mono:∀ {F F':Frag} {r:Nat→Rat} {u:Value} {s:List Blk},Q F r u s→F.le F'→Q F' r u s
 div:∀ {w0:World} {M:List Blk} {I:List Frag} {F F0:Frag} (n₀:Nat) (r:Nat→Rat) (y:Rat) (u:Value) (s R':List Blk) (pb qb rb:Value) (sb:Nat) (h:Q F r u s) (hy:F.Rt pb qb rb (rawOf y)) (hy0:rn y≠0) (hby:Bd 8192 y) (hbd:∀j,j<mt→Bd 8192 (r j)∧Bd 8192 (r j/y)) (hm:mt≤1000) (g:G w0 [] M (F::I)) (hM:M.drop n₀=s++R') (hS:InF (sumF sb) I) (hnw:F.over F0 w0) (hT:Tab w0),Calls Tryz.prog fd #[u,.pointer (some ⟨sb,0,none⟩),.agg #[pb,qb,rb]] g.w fun e w'=>e=.returned (.tuple #[])∧∃(s':List Blk) (F':Frag) (g':G w0 [] (M.take n₀++(s'++R')) (F'::I)),w'=g'.w∧Q F' (fun j=>r j/y) u s'∧F.le F'∧F'.over F0 w0
 take:∀ {w0:World} {M:List Blk} {I:List Frag} {F F0:Frag} (n₀:Nat) (r r2:Nat→Rat) (f:Rat) (u u2:Value) (s t R':List Blk) (pb qb rb:Value) (sb:Nat) (h:Q F r u s) (h2:Q F r2 u2 t) (hf:F.Rt pb qb rb (rawOf f)) (hbf:Bd 8192 f) (hbd:∀j,j<mt→Bd 8192 (r j)∧Bd 8192 (r2 j)∧Bd 8192 (f*r2 j)∧Bd 8192 (r j-f*r2 j)) (hm:mt≤1000) (g:G w0 [] M (F::I)) (hM:M.drop n₀=s++(t++R')) (hS:InF (sumF sb) I) (hnw:F.over F0 w0) (hT:Tab w0),Calls Tryz.prog ft #[u,.pointer (some ⟨sb,0,none⟩),.iface ti u2,.agg #[pb,qb,rb]] g.w fun e w'=>e=.returned (.tuple #[])∧∃(s':List Blk) (F':Frag) (g':G w0 [] (M.take n₀++(s'++(t++R'))) (F'::I)),w'=g'.w∧Q F' (fun j=>r j-f*r2 j) u s'∧F.le F'∧F'.over F0 w0
set_option maxRecDepth 20000 in
theorem kind_null {ti:TypeId}{fa fd ft:FuncId}{m mt:Nat}{Q0:Frag→(Nat→Rat)→Value→List Blk→Prop}(KD:Kind ti fa fd ft m mt Q0)(c:Nat)(F:Frag)(r:Nat→Rat)(u:Value)(s:List Blk)(cb:Nat)(h:Q0 F r u s)(hc:c<m)(w:World)(hs:Lies s w)(hcb:w.cell? ⟨cb,0,none⟩=some (.int .i64 (c:Int))):
  Calls Tryz.prog 133 #[.iface ti u,.pointer (some ⟨cb,0,none⟩)] w fun e w'=>e=.returned (.bool (decide (r c≠0)))∧Below w.heap.size w w':=by
 refine calls_b fun g=>?_
 have CA:=Lib.hid (fun w h'=>KD.entry c F r u s h hc w h')
 have HS:=Lib.hid hs
 have Ec:=fun(M:List Blk) (g:G w [] M [heapOf w])=>G.old g (List.mem_cons_self ..) hcb
 clear hs hcb h
 have hm:=KD.mat
 have hmc:=KD.cat
 obtain⟨z,hz⟩:∃z,decide (r c≠0)=z:=⟨_,rfl⟩
 have HZ:=Lib.hid hz
 rw[hz]
 clear hz
 go_enter Tryz.func133,Tryz.ntmps133
 go_wp2_with (with_reducible refine yq _ ?_;(try generalize (G.w _).heap.size=bk);(try dsimp only[yi,yj]);(try clear g);intro g)
 refine(CA.out _ (HS.out.old g (by simp))).mono ?_
 rintro e w1 ⟨p,q,r',rfl,hrt,hb⟩
 obtain⟨g1,rfl⟩:=G.call_ex _ hb
 clear hb g
 revert g1
 intro g
 obtain⟨s1,A1,n1,c1,B1,d1,k1,rfl,rfl,rfl,hn⟩:=rt_null hrt
 have hd:(!decide (n1=0))=z:=by rw[←HZ.out,hn];simp
 clear hrt hn HZ
 go_wp2_with (with_reducible refine yq _ ?_;(try generalize (G.w _).heap.size=bk);(try dsimp only[yi,yj]);(try clear g);intro g)
 refine(null_any s1 A1 B1 n1 c1 d1 k1 _).mono ?_
 rintro e w1 ⟨rfl,hb⟩
 obtain⟨g1,rfl⟩:=G.call_ex _ hb
 clear hb
 (try clear g)
 revert g1
 intro g
 go_wp2_with (with_reducible refine yq _ ?_;(try generalize (G.w _).heap.size=bk);(try dsimp only[yi,yj]);(try clear g);intro g)
 go_ret
 exact⟨rfl,G.below _⟩
set_option maxRecDepth 20000 in
set_option maxHeartbeats 2000000 in
theorem kind_index {ti:TypeId}{fa fd ft:FuncId}{m mt:Nat}{Q0:Frag→(Nat→Rat)→Value→List Blk→Prop}(KD:Kind ti fa fd ft m mt Q0)(n c a cp:Nat)(F:Frag)(x:Mx)(rb cb:Nat)(hc:c<m)(ha:a≤n)(hn:n≤1000)(w:World)(hr:RowsW w rb n ti (fun r u s=>Q0 F r u s) x)(hcb:w.cell? ⟨cb,0,none⟩=some (.int .i64 (c:Int))):
  Calls Tryz.prog 132 #[.slice (some ⟨rb,a,none⟩) (n-a) cp,.func (.func 133) #[] #[.pointer (some ⟨cb,0,none⟩)]] w fun e w'=>e=.returned (.int .i64 (idxV x n c a))∧Below w.heap.size w w':=by
 refine calls_b fun g=>?_
 obtain⟨d,rfl⟩:∃d,n=a+d:=⟨n-a,by omega⟩
 rw[Nat.add_sub_cancel_left]
 have HR:=Lib.hid hr
 have HC:=Lib.hid hcb
 have CN:=Lib.hid (fun r u s h w hs hcb=>kind_null KD c F r u s cb h hc w hs hcb)
 obtain⟨z,hz⟩:∃z,idxV x (a+d) c a=z:=⟨_,rfl⟩
 have HZ:=Lib.hid hz
 rw[hz]
 clear hz hr hcb
 go_enter Tryz.func132,Tryz.ntmps132
 go_wp2_with (with_reducible refine yq _ ?_;(try generalize (G.w _).heap.size=bk);(try dsimp only[yi,yj]);(try clear g);intro g)
 go_loopw [8] (fun i wr=>∃k:Nat,i=.int .i64 (k:Int)∧k≤d∧(∀j,a≤j→j<a+k→x j c=0)∧∃g:G w [] [] [heapOf w],wr=g.w) (fun i _=>d-(intOf i).toNat)
 case atStart=>exact⟨0,rfl,by omega,fun j h1 h2=>by omega,g,rfl⟩
 case round=>
  clear g
  obtain⟨k,rfl,hk,hall,g,rfl⟩:=hrel
  have HA:=Lib.hid hall
  clear hall
  by_cases hkd:k<d
  ·have hki:(k:Int)<(d:Int):=by omega
   obtain⟨u,s,h1,h2,h3⟩:=HR.out (a+k) (by omega)
   have EH:∀(M:List Blk) (g:G w [] M [heapOf w]),g.w.cell? ⟨rb,a+k,none⟩=some (.iface ti u):=fun M g=>G.old g (List.mem_cons_self ..) h1
   have HQ:=Lib.hid h2
   have HL:=Lib.hid h3
   clear h1 h2 h3
   go_wp2_with (with_reducible refine yq _ ?_;(try generalize (G.w _).heap.size=bk);(try dsimp only[yi,yj]);(try clear g);intro g)
   refine(CN.out _ _ _ HQ.out _ (HL.out.old g (by simp)) (G.old g (by simp) HC.out)).mono ?_
   rintro e w1 ⟨rfl,hb⟩
   obtain⟨g1,rfl⟩:=G.call_ex _ hb
   clear hb
   (try clear g)
   revert g1
   intro g
   by_cases hx:x (a+k) c=0
   ·have hdx:decide (x (a+k) c≠0)=false:=by simp[hx]
    rw[hdx]
    go_wp2_with (with_reducible refine yq _ ?_;(try generalize (G.w _).heap.size=bk);(try dsimp only[yi,yj]);(try clear g);intro g)
    go_roundw
    case rel=>
     exact⟨k+1,by go_num,by omega,fun j h1 h2=>if h:j=a+k then h▸hx else HA.out j h1 (by omega),g,rfl⟩
    case measure=>simp[intOf];omega
   ·have hdx:decide (x (a+k) c≠0)=true:=by simp[hx]
    rw[hdx]
    go_wp2_with (with_reducible refine yq _ ?_;(try generalize (G.w _).heap.size=bk);(try dsimp only[yi,yj]);(try clear g);intro g)
    go_ret
    have e:findP x (a+d) c a=some (a+k):=findP_some_of (by omega) (by omega) hx (fun q h1 h2=>HA.out q h1 h2)
    have:z=(k:Int):=by
     have:=HZ.out
     unfold idxV at this
     rw[e] at this
     rw[←this]
     simp only[]
     omega
    exact⟨by rw[this];rfl,G.below _⟩
  ·obtain rfl:k=d:=by omega
   go_wp2_with (with_reducible refine yq _ ?_;(try generalize (G.w _).heap.size=bk);(try dsimp only[yi,yj]);(try clear g);intro g)
   go_ret
   have e:findP x (a+k) c a=none:=findP_none_of (fun q h1 h2=>HA.out q h1 h2)
   have:z= -1:=by
    have:=HZ.out
    unfold idxV at this
    rw[e] at this
    exact this.symm
   exact⟨by rw[this];rfl,G.below _⟩
attribute [local go_sem] Oper.semAt_some
set_option maxRecDepth 100000 in
set_option maxHeartbeats 8000000 in
theorem kind_iter {ti:TypeId}{fa fd ft:FuncId}{m mt:Nat}{Q0:Frag→(Nat→Rat)→Value→List Blk→Prop}(KD:Kind ti fa fd ft m mt Q0)(n sb eb rb capr kb xb cb e2 cols:Nat)(F0:Frag){w0:World}{M:List Blk}{I:List Frag}{B:Nat}(s0:El)(hn:n≤1000)(hcm:cols≤m)(hm:m≤1000)(hcap:n≤capr)(hcap2:capr≤9223372036854775807)(hr0:s0.rk=0)(h0:0<n)
  (hfine:∀c,c<cols→∀p,findP (runE n s0 c).x n c (runE n s0 c).rk=some p→Fine n mt (swapE (runE n s0 c) p) c∧Bd 8192 (runE n s0 c).det) (hT:Tab w0) (hS:InF (sumF sb) I) (hB:w0.heap.size≤B)
  (l D:Nat) (oL oD:Obj) (nn:Nat) (W1:World) (hoL:oL.isCells=false) (hoD:oD.isCells=false) (hl:W1.heap[l]?=some oL) (hD:W1.heap[D]?=some oD)
  (hW:ElW ti (fun F y x u=>Q0 F y x u) w0 n sb eb rb capr kb xb cb e2 cols F0 M I B s0 W1)
  (hY:∀(s:El×Nat) (W:World),(Ready n m mt s.1 s.2∧ElW ti (fun F y x u=>Q0 F y x u) w0 n sb eb rb capr kb xb cb e2 cols F0 M I B s.1 W)→W.heap[l]?=some oL→W.heap[D]?=some oD→YieldAt Fence.wide (nn-1) Tryz.prog l #[.int .i64 (s.2:Int),.int .i64 (s.1.rk:Int)] W fun e W'=>e=.returned (.bool true)∧ElW ti (fun F y x u=>Q0 F y x u) w0 n sb eb rb capr kb xb cb e2 cols F0 M I B (roundE s.1 s.2) W'∧W'.heap[l]?=some oL∧W'.heap[D]?=some oD):
  CallsIn Fence.wide nn Tryz.prog 131 #[.func (.yield l) #[] #[],.pointer (some ⟨cb,0,none⟩),.pointer (some ⟨xb,0,none⟩)] W1 fun e W'=>(∃v,e=.returned v)∧ElW ti (fun F y x u=>Q0 F y x u) w0 n sb eb rb capr kb xb cb e2 cols F0 M I B (runE n s0 cols) W'∧W'.heap[l]?=some oL∧W'.heap[D]?=some oD:=by
 refine callsIn_wide.2 ?_
 have hE:=hW.up hoL hoD hl hD
 have HY:=Lib.hid hY
 have HF:=Lib.hid hfine
 have HT:=Lib.hid hT
 have HS:=Lib.hid hS
 have HB:=Lib.hid (⟨hB,hcm,hm,hn,hcap,hcap2⟩:_∧_∧_∧_∧_∧_)
 obtain⟨rs,R,F,p,q,r,k1,k2,k3,k4,g,rfl⟩:=hE
 obtain⟨s1,A1,n1,c1,B1,d1,e1,rfl,rfl,rfl⟩:=k1.shape
 have HE:Hid (ElW ti (fun F y x u=>Q0 F y x u) w0 n sb eb rb capr kb xb cb e2 cols F0 M (blkF l oL::blkF D oD::I) B s0 g.w):=Lib.hid ⟨rs,R,F,_,_,_,k1,k2,k3,k4,g,rfl⟩
 clear hY hfine hT hS hB hcm hm hW k1 k2 k3 k4 hl hD
 go_enter Tryz.func131,Tryz.ntmps131
 go_wp2_with (with_reducible refine yq _ ?_;(try generalize (G.w _).heap.size=bk);(try dsimp only[yi,yj]);(try clear g);intro g)
 go_loopw [4,8] (fun a i wr=>∃c:Nat,i=.int .i64 (c:Int)∧c≤cols∧(runE n s0 c).rk<n∧a=.int .i64 ((runE n s0 c).rk:Int)∧ElW ti (fun F y x u=>Q0 F y x u) w0 n sb eb rb capr kb xb cb e2 cols F0 M (blkF l oL::blkF D oD::I) B (runE n s0 c) wr) (fun _ i _=>cols-(intOf i).toNat)
 case atStart=>exact⟨0,rfl,by omega,by show s0.rk<n;omega,by show Value.int .i64 0=.int .i64 (s0.rk:Int);rw[hr0];rfl,HE.out⟩
 case round =>
  clear g HE rs R F s1 A1 n1 c1 B1 d1 e1
  obtain⟨c,rfl,hc,hrk,rfl,hE⟩:=hrel
  by_cases hcc:c<cols
  ·have hci:(c:Int)<(cols:Int):=by omega
   have hcols:cols≤1000:=by have:=HB.out;omega
   obtain⟨s,hs⟩:∃s,runE n s0 c=s:=⟨_,rfl⟩
   have hFi:=HF.out c hcc
   rw[hs] at hE hrk hFi
   rw[hs]
   have HSS:=Lib.hid hs
   have HFI:=Lib.hid hFi
   clear hs hFi
   obtain⟨rs,R,F,p,q,r,k1,k2,k3,k4,g,rfl⟩:=hE
   obtain⟨s1,A1,n1,c1,B1,d1,e1,rfl,rfl,rfl⟩:=k1.shape
   have K1:=Lib.hid k1
   have K2:=Lib.hid k2
   have K34:=Lib.hid (And.intro k3 k4)
   clear k1 k2 k3 k4
   have hrki:(s.rk:Int)≤(n:Int):=by omega
   go_wp2_with (with_reducible refine yq _ ?_;(try generalize (G.w _).heap.size=bk);(try dsimp only[yi,yj]);(try clear g);intro g)
   (try(refine cmark _ ?_;(try dsimp only[yi,yj]);(try clear g);intro g))
   refine(kind_index KD n c s.rk (capr-s.rk) F s.x rb bk (by have:=HB.out;omega) (by omega) hn _ (G.rowsW g K2.out (by simp) (fun x hx=>by simp[hx])) (G.cell0 g 0)).mono ?_
   rintro e w1 ⟨rfl,hb⟩
   obtain⟨g1,rfl⟩:=G.call_ex _ hb
   clear hb
   (try clear g)
   revert g1
   intro g
   cases hfp:findP s.x n c s.rk with
   |none=>
    have hiv:idxV s.x n c s.rk= -1:=by unfold idxV;rw[hfp]
    rw[hiv]
    clear hiv
    go_wp2_with (with_reducible refine yq _ ?_;(try generalize (G.w _).heap.size=bk);(try dsimp only[yi,yj]);(try clear g);intro g)
    obtain⟨g2,hg2⟩:=g.forget 1
    rw[hg2]
    have hE:ElW ti (fun F y x u=>Q0 F y x u) w0 n sb eb rb capr kb xb cb e2 cols F0 M (blkF l oL::blkF D oD::I) B (runE n s0 (c+1)) g2.w:=by
     have e:runE n s0 (c+1)=s:=by
      show stepE n c (runE n s0 c)=s
      rw[HSS.out]
      exact stepE_none hfp
     rw[e]
     exact⟨rs,R,F,_,_,_,K1.out,K2.out,K34.out.1,K34.out.2,g2,rfl⟩
    have e:(runE n s0 (c+1)).rk=s.rk:=by
     show(stepE n c (runE n s0 c)).rk=s.rk
     rw[HSS.out,stepE_none hfp]
    go_roundw
    case rel=>exact⟨c+1,by go_num,by omega,by rw[e];omega,by rw[e],hE⟩
    case measure=>simp[intOf];omega
   |some pp=>
    obtain⟨hp1,hp2,hp3,hp4⟩:=findP_some hfp
    obtain⟨d,hpd⟩:∃d,pp=s.rk+d:=⟨pp-s.rk,by omega⟩
    have hiv:idxV s.x n c s.rk=(d:Int):=by unfold idxV;rw[hfp];show(pp:Int)-(s.rk:Int)=d;omega
    rw[hiv]
    clear hiv
    have HFP:=Lib.hid hfp
    have HP:=Lib.hid (And.intro hp3 hp4)
    clear hfp hp3 hp4 hp1
    by_cases hd:d=0
    ·have hsw:swapE s pp=s:=by
      obtain rfl:pp=s.rk:=by omega
      unfold swapE
      rw[if_pos rfl,swapR_self]
     subst hd
     clear hpd
     have hE:Hid (ElW ti (fun F y x u=>Q0 F y x u) w0 n sb eb rb capr kb xb cb e2 cols F0 M (blkF l oL::blkF D oD::I) B (swapE s pp) g.w):=by
      obtain⟨g2,hg2⟩:=g.forget 1
      rw[hsw,hg2]
      exact Lib.hid ⟨rs,R,F,_,_,_,K1.out,K2.out,K34.out.1,K34.out.2,g2,rfl⟩
     clear hsw
     go_upto_region 9 with(with_reducible refine yq _ ?_;(try generalize (G.w _).heap.size=bk);(try dsimp only[yi,yj]);(try clear g);intro g)
     have HRD:Hid (Ready n m mt (swapE s pp) c):=Lib.hid ⟨hrk,by have:=HB.out;omega,by show swapR s.x s.rk pp s.rk c≠0;unfold swapR;rw[if_pos rfl];exact HP.out.1,(HFI.out pp HFP.out).1⟩
     have HST:Hid (runE n s0 (c+1)=roundE (swapE s pp) c):=Lib.hid (by show stepE n c (runE n s0 c)=_;rw[HSS.out];exact stepE_some HFP.out)
     obtain⟨hE1,hl1,hD1⟩:=hE.out.down
     obtain⟨fn,tmps,assign,body,hy,hR⟩:=HY.out (swapE s pp,c) g.w ⟨HRD.out,hE1⟩ hl1 hD1
     have hy2:(Instr.yield l #[.int .i64 (c:Int),.int .i64 (s.rk:Int)]).run Tryz.prog g.w=.ok (.round l fn tmps assign body) g.w:=hy
     clear hy hE1 hl1 hD1
     refine(wpIn_wide (n:=nn)).1 ?_
     gi_wp2
     refine⟨fun h=>(by simp[Fence.wide] at h),hR.mono ?_⟩
     rintro e W3 ⟨rfl,hE3,hl3,hD3⟩
     have hE4:=hE3.up hoL hoD hl3 hD3
     clear hE3 hl3 hD3 hR hy2
     clear hE g
     rw[←HST.out] at hE4
     have HE4:=Lib.hid hE4
     obtain⟨rs3,R3,F3,p3,q3,r3,k1,k2,k3,k4,g,rfl⟩:=hE4
     obtain⟨s3,A3,n3,c3,B3,d3,e3,rfl,rfl,rfl⟩:=k1.shape
     clear k1 k2 k3 k4
     have hrk1:(runE n s0 (c+1)).rk=s.rk+1:=by rw[HST.out];rfl
     dsimp only
     gi_wp2
     by_cases hfull:s.rk+1=n
     ·have hfi:((s.rk:Int)+1)=(n:Int):=by omega
      have HFL:=Lib.hid hfull
      clear hfull
      go_wp2_with (with_reducible refine yq _ ?_;(try generalize (G.w _).heap.size=bk);(try dsimp only[yi,yj]);(try clear g);intro g)
      refine bodyPost_ret (results_none rfl _ _ _) rfl ?_
      have e:runE n s0 cols=runE n s0 (c+1):=by
       have:=run_full (n:=n) (s:=s0) (c:=c+1) (by have:=HFL.out;omega) (cols-(c+1))
       rwa[show c+1+(cols-(c+1))=cols by omega] at this
      rw[e]
      exact⟨⟨_,rfl⟩,HE4.out.down⟩
     ·have hfi:¬ (((s.rk:Int)+1)=(n:Int)):=by omega
      go_wp2_with (with_reducible refine yq _ ?_;(try generalize (G.w _).heap.size=bk);(try dsimp only[yi,yj]);(try clear g);intro g)
      go_roundw
      case rel=>exact⟨c+1,by go_num,by omega,by omega,by rw[hrk1];go_num,HE4.out⟩
      case measure=>simp[intOf];omega
    ·have hd1:(0:Int)<(d:Int):=by omega
     go_upto_region 7 with(with_reducible refine yq _ ?_;(try generalize (G.w _).heap.size=bk);(try dsimp only[yi,yj]);(try clear g);intro g)
     ((try simp only[G.drew_eq,G.drewN_eq]);(refine yq _ ?_;(try generalize (G.w _).heap.size=bk);(try dsimp only[yi,yj]);(try clear g);intro g))
     obtain⟨va,hva⟩:∃u,rs[s.rk]?=some (.iface ti u):=by
      obtain⟨Rs,h1,h2⟩:=K2.out
      obtain⟨v,h3,u,rfl,_⟩:=h2 s.rk (List.mem_range.2 hrk)
      exact⟨u,h3⟩
     obtain⟨vb,hvb⟩:∃u,rs[pp]?=some (.iface ti u):=by
      obtain⟨Rs,h1,h2⟩:=K2.out
      obtain⟨v,h3,u,rfl,_⟩:=h2 pp (List.mem_range.2 hp2)
      exact⟨u,h3⟩
     have hne:s.rk≠pp:=by omega
     have hwr:IntKind.i64.wrap ((s.rk:Int)+(d:Int))=(pp:Int):=by rw[IntKind.wrap_i64];omega
     have hsum:(s.rk:Int)+(d:Int)=(pp:Int):=by omega
     have hp2j:(pp:Int)<(n:Int):=by omega
     have hrkj:(s.rk:Int)<(n:Int):=by omega
     have HPD:=Lib.hid hpd
     have hwr2:IntKind.i64.wrap (pp:Int)=(pp:Int):=by rw[IntKind.wrap_i64];omega
     clear hpd hwr
     refine wp_region_held_drew (S:=G.heldN g [false,true,false,false,true]) (by kernel_rfl) (by simp[G.heldN,HeldN,go_sem]) (fun hHeld=>?_)
     refine tk0 [0,1,2,3,4,5,6,7,8,9,10,11,12,13,14,15,16,17,18,19,21,22,23,24,25,26] ?_
     repeat (refine tkc rfl (by kernel_rfl) (fun _ _ _ h=>h) (by rfl) ‹_› (by intro w hSw;(try dsimp only at hSw);go_simp;(try with_reducible rfl)) ?_;try simp only[Act.put,yk,yl,yn,yo,yi,yj])
     refine tkn ?_
     refine wpAnyH_ready (rs:=[20,27]) (by kernel_rfl) (by simp) ?_
     refine AllReadyH.cons rfl (fun K hK=>?_) (AllReadyH.cons rfl (fun K hK=>?_) AllReadyH.nil)
     ·(try simp only[Act.put,yk,yl,yn,yo,yi,yj])
      go_simp
      refine hK.out _ _ (by simp[G.heldN,HeldN,go_sem]) (fun hHeld=>?_)
      clear hK K
      (try simp only[Act.put,yk,yl,yn,yo,yi,yj])
      refine wpAnyH_ready (rs:=[27]) (by kernel_rfl) (by simp) ?_
      refine AllReadyH.cons rfl (fun K hK=>?_) AllReadyH.nil
      ·(try simp only[Act.put,yk,yl,yn,yo,yi,yj])
       go_simp
       refine hK.out _ _ (by simp[G.heldN,HeldN,go_sem]) (fun hHeld=>?_)
       clear hK K
       (try simp only[Act.put,yk,yl,yn,yo,yi,yj])
       refine tk0 [28] ?_
       repeat (refine tkc rfl (by kernel_rfl) (fun _ _ _ h=>h) (by rfl) ‹_› (by intro w hSw;(try dsimp only at hSw);go_simp;(try with_reducible rfl)) ?_;try simp only[Act.put,yk,yl,yn,yo,yi,yj])
       refine tkn ?_
       refine wpAnyH_ready (rs:=[29]) (by kernel_rfl) (by simp) ?_
       refine AllReadyH.cons rfl (fun K hK=>?_) AllReadyH.nil
       ·(try simp only[Act.put,yk,yl,yn,yo,yi,yj])
        go_simp
        refine hK.out _ _ (by simp[G.heldN,HeldN,go_sem]) (fun hHeld=>?_)
        clear hK K
        (try simp only[Act.put,yk,yl,yn,yo,yi,yj])
        refine tk0 [30] ?_
        repeat (refine tkc rfl (by kernel_rfl) (fun _ _ _ h=>h) (by rfl) ‹_› (by intro w hSw;(try dsimp only at hSw);go_simp;(try with_reducible rfl)) ?_;try simp only[Act.put,yk,yl,yn,yo,yi,yj])
        refine tkn ?_
        refine wpAnyH_ready (rs:=[31]) (by kernel_rfl) (by simp) ?_
        refine AllReadyH.cons rfl (fun K hK=>?_) AllReadyH.nil
        ·(try simp only[Act.put,yk,yl,yn,yo,yi,yj])
         go_simp
         refine hK.out _ _ (by simp[G.heldN,HeldN,go_sem]) (fun hHeld=>?_)
         clear hK K
         (try simp only[Act.put,yk,yl,yn,yo,yi,yj])
         refine wpAnyH_done (by kernel_rfl) ?_ _
         (as_aux_lemma=>
          (try clear hHeld)
          ((try simp only[G.drew_eq,G.drewN_eq]);(refine yq _ ?_;(try generalize (G.w _).heap.size=bk);(try dsimp only[yi,yj]);(try clear g);intro g))
          have K2':=Lib.hid (K2.out.swap (P:=fun(y:Nat→Rat) v u=>∃x,v=.iface ti x∧(fun F y x u=>Q0 F y x u) F y x u) hrk hp2 hne hva hvb)
          obtain⟨rs2,hrs2⟩:∃rs2,(rs.set s.rk (.iface ti vb)).set pp (.iface ti va)=rs2:=⟨_,rfl⟩
          rw[hrs2] at K2'
          revert g
          rw[hrs2]
          intro g
          clear hrs2 hva hvb
          have CN:=Lib.hid (fun p q r w h1 t=>qNeg_r s.det (-s.det) (HFI.out pp HFP.out).2 rfl p q r w h1 t)
          unfold RT at CN
          go_upto_region 8 with(with_reducible refine yq _ ?_;(try generalize (G.w _).heap.size=bk);(try dsimp only[yi,yj]);(try clear g);intro g)
          ((try simp only[G.drew_eq,G.drewN_eq]);(refine yq _ ?_;(try generalize (G.w _).heap.size=bk);(try dsimp only[yi,yj]);(try clear g);intro g))
          refine wp_region_held_drew (S:=G.heldN g [false,false,false,false,true]) (by kernel_rfl) (by simp[G.heldN,HeldN,go_sem]) (fun hHeld=>?_)
          refine tk0 [0,1,2,3,5,6,7] ?_
          repeat (refine tkc rfl (by kernel_rfl) (fun _ _ _ h=>h) (by rfl) ‹_› (by intro w hSw;(try dsimp only at hSw);go_simp;(try with_reducible rfl)) ?_;try simp only[Act.put,yk,yl,yn,yo,yi,yj])
          refine tkn ?_
          refine wpAnyH_ready (rs:=[4,8]) (by kernel_rfl) (by simp) ?_
          refine AllReadyH.cons rfl (fun K hK=>?_) (AllReadyH.cons rfl (fun K hK=>?_) AllReadyH.nil)
          ·(try simp only[Act.put,yk,yl,yn,yo,yi,yj])
           go_simp
           refine hK.out _ _ (by simp[G.heldN,HeldN,go_sem]) (fun hHeld=>?_)
           clear hK K
           (try simp only[Act.put,yk,yl,yn,yo,yi,yj])
           refine wpAnyH_ready (rs:=[8]) (by kernel_rfl) (by simp) ?_
           refine AllReadyH.cons rfl (fun K hK=>?_) AllReadyH.nil
           ·(try simp only[Act.put,yk,yl,yn,yo,yi,yj])
            go_simp
            refine hK.out _ _ (by simp[G.heldN,HeldN,go_sem]) (fun hHeld=>?_)
            clear hK K
            (try simp only[Act.put,yk,yl,yn,yo,yi,yj])
            refine wpAnyH_ready (rs:=[9]) (by kernel_rfl) (by simp) ?_
            refine AllReadyH.cons rfl (fun K hK=>?_) AllReadyH.nil
            ·(try simp only[Act.put,yk,yl,yn,yo,yi,yj])
             go_simp
             go_at_call 134
             (try(refine cmark _ ?_;(try dsimp only[yi,yj]);(try clear g);intro g))
             refine(CN.out _ _ _ _ (G.rtI g (by simp) K1.out) (G.tab g HT.out)).mono ?_
             rintro e w1 ⟨pa,qa,ra,Fa,rfl,ha,hn⟩
             have hnna:=fun k o hk=>Nat.le_trans g.chg.size (hn.new k o hk)
             obtain⟨sa,Aa,na,ca,Ba,da,ka,rfl,rfl,rfl⟩:=ha.shape
             obtain⟨g1,rfl⟩:=G.new_ex _ hn
             clear hn
             (try clear g)
             revert g1
             intro g
             refine hK.out _ _ (by simp[G.heldN,HeldN,go_sem]) (fun hHeld=>?_)
             clear hK K
             (try simp only[Act.put,yk,yl,yn,yo,yi,yj])
             refine tk0 [10,11] ?_
             repeat (refine tkc rfl (by kernel_rfl) (fun _ _ _ h=>h) (by rfl) ‹_› (by intro w hSw;(try dsimp only at hSw);go_simp;(try with_reducible rfl)) ?_;try simp only[Act.put,yk,yl,yn,yo,yi,yj])
             refine tkn ?_
             refine wpAnyH_ready (rs:=[12]) (by kernel_rfl) (by simp) ?_
             refine AllReadyH.cons rfl (fun K hK=>?_) AllReadyH.nil
             ·(try simp only[Act.put,yk,yl,yn,yo,yi,yj])
              go_simp
              go_at_call 100
              (try(refine cmark _ ?_;(try dsimp only[yi,yj]);(try clear g);intro g))
              refine(stake_any _ _ _ _ _ _ _ _ _ (G.sumI g (by exact InF.tail (InF.tail (InF.tail (InF.tail HS.out)))))).mono ?_
              rintro e w1 ⟨rfl,hb⟩
              obtain⟨g1,rfl⟩:=G.call_ex _ hb
              clear hb
              (try clear g)
              revert g1
              intro g
              refine hK.out _ _ (by simp[G.heldN,HeldN,go_sem]) (fun hHeld=>?_)
              clear hK K
              (try simp only[Act.put,yk,yl,yn,yo,yi,yj])
              refine tk0 [13,14] ?_
              repeat (refine tkc rfl (by kernel_rfl) (fun _ _ _ h=>h) (by rfl) ‹_› (by intro w hSw;(try dsimp only at hSw);go_simp;(try with_reducible rfl)) ?_;try simp only[Act.put,yk,yl,yn,yo,yi,yj])
              refine tkn ?_
              refine wpAnyH_ready (rs:=[15]) (by kernel_rfl) (by simp) ?_
              refine AllReadyH.cons rfl (fun K hK=>?_) AllReadyH.nil
              ·(try simp only[Act.put,yk,yl,yn,yo,yi,yj])
               go_simp
               refine hK.out _ _ (by simp[G.heldN,HeldN,go_sem]) (fun hHeld=>?_)
               clear hK K
               (try simp only[Act.put,yk,yl,yn,yo,yi,yj])
               refine wpAnyH_done (by kernel_rfl) ?_ _
               (as_aux_lemma=>
                (try clear hHeld)
                ((try simp only[G.drew_eq,G.drewN_eq]);(refine yq _ ?_;(try generalize (G.w _).heap.size=bk);(try dsimp only[yi,yj]);(try clear g);intro g))
                have hE:Hid (ElW ti (fun F y x u=>Q0 F y x u) w0 n sb eb rb capr kb xb cb e2 cols F0 M (blkF l oL::blkF D oD::I) B (swapE s pp) g.w):=by
                 obtain⟨F',g2,e2,hle,hle2,hnew⟩:=g.merge
                 obtain⟨g3,e3⟩:=g2.forget 1
                 rw[e2,e3]
                 have hdet:(swapE s pp).det= -s.det:=if_neg (Ne.symm hne)
                 refine Lib.hid (ElW.make (s:=swapE s pp) (F:=F') (fun F y x u h=>KD.only F y x u h) (by rw[hdet];exact ha.mono hle2) (K2'.out.next (fun _ _=>rfl) (fun j hj v u hq=>by obtain⟨x,e,hx⟩:=hq;exact⟨x,e,KD.mono hx hle⟩)) (fun k o hk=>(hnew k o hk).elim (K34.out.1 k o) (fun h=> .inr (hnna k o h))) g3)
                clear ha hnna K2'
                go_upto_region 9 with(with_reducible refine yq _ ?_;(try generalize (G.w _).heap.size=bk);(try dsimp only[yi,yj]);(try clear g);intro g)
                clear hsum hp2j hwr2 HPD hd hd1 hrkj CN
                have HRD:Hid (Ready n m mt (swapE s pp) c):=Lib.hid ⟨hrk,by have:=HB.out;omega,by show swapR s.x s.rk pp s.rk c≠0;unfold swapR;rw[if_pos rfl];exact HP.out.1,(HFI.out pp HFP.out).1⟩
                have HST:Hid (runE n s0 (c+1)=roundE (swapE s pp) c):=Lib.hid (by show stepE n c (runE n s0 c)=_;rw[HSS.out];exact stepE_some HFP.out)
                obtain⟨hE1,hl1,hD1⟩:=hE.out.down
                obtain⟨fn,tmps,assign,body,hy,hR⟩:=HY.out (swapE s pp,c) g.w ⟨HRD.out,hE1⟩ hl1 hD1
                have hy2:(Instr.yield l #[.int .i64 (c:Int),.int .i64 (s.rk:Int)]).run Tryz.prog g.w=.ok (.round l fn tmps assign body) g.w:=hy
                clear hy hE1 hl1 hD1
                refine(wpIn_wide (n:=nn)).1 ?_
                gi_wp2
                refine⟨fun h=>(by simp[Fence.wide] at h),hR.mono ?_⟩
                rintro e W3 ⟨rfl,hE3,hl3,hD3⟩
                have hE4:=hE3.up hoL hoD hl3 hD3
                clear hE3 hl3 hD3 hR hy2
                clear hE g
                rw[←HST.out] at hE4
                have HE4:=Lib.hid hE4
                obtain⟨rs3,R3,F3,p3,q3,r3,k1,k2,k3,k4,g,rfl⟩:=hE4
                obtain⟨s3,A3,n3,c3,B3,d3,e3,rfl,rfl,rfl⟩:=k1.shape
                clear k1 k2 k3 k4
                have hrk1:(runE n s0 (c+1)).rk=s.rk+1:=by rw[HST.out];rfl
                dsimp only
                gi_wp2
                by_cases hfull:s.rk+1=n
                ·have hfi:((s.rk:Int)+1)=(n:Int):=by omega
                 have HFL:=Lib.hid hfull
                 clear hfull
                 go_wp2_with (with_reducible refine yq _ ?_;(try generalize (G.w _).heap.size=bk);(try dsimp only[yi,yj]);(try clear g);intro g)
                 refine bodyPost_ret (results_none rfl _ _ _) rfl ?_
                 have e:runE n s0 cols=runE n s0 (c+1):=by
                  have:=run_full (n:=n) (s:=s0) (c:=c+1) (by have:=HFL.out;omega) (cols-(c+1))
                  rwa[show c+1+(cols-(c+1))=cols by omega] at this
                 rw[e]
                 exact⟨⟨_,rfl⟩,HE4.out.down⟩
                ·have hfi:¬ (((s.rk:Int)+1)=(n:Int)):=by omega
                 go_wp2_with (with_reducible refine yq _ ?_;(try generalize (G.w _).heap.size=bk);(try dsimp only[yi,yj]);(try clear g);intro g)
                 go_roundw
                 case rel=>exact⟨c+1,by go_num,by omega,by omega,by rw[hrk1];go_num,HE4.out⟩
                 case measure=>simp[intOf];omega
                )
          ·(try simp only[Act.put,yk,yl,yn,yo,yi,yj])
           go_simp
           refine hK.out _ _ (by simp[G.heldN,HeldN,go_sem]) (fun hHeld=>?_)
           clear hK K
           (try simp only[Act.put,yk,yl,yn,yo,yi,yj])
           refine wpAnyH_ready (rs:=[4,9]) (by kernel_rfl) (by simp) ?_
           refine AllReadyH.cons rfl (fun K hK=>?_) (AllReadyH.cons rfl (fun K hK=>?_) AllReadyH.nil)
           ·(try simp only[Act.put,yk,yl,yn,yo,yi,yj])
            go_simp
            refine hK.out _ _ (by simp[G.heldN,HeldN,go_sem]) (fun hHeld=>?_)
            clear hK K
            (try simp only[Act.put,yk,yl,yn,yo,yi,yj])
            refine wpAnyH_ready (rs:=[9]) (by kernel_rfl) (by simp) ?_
            refine AllReadyH.cons rfl (fun K hK=>?_) AllReadyH.nil
            ·(try simp only[Act.put,yk,yl,yn,yo,yi,yj])
             go_simp
             go_at_call 134
             (try(refine cmark _ ?_;(try dsimp only[yi,yj]);(try clear g);intro g))
             refine(CN.out _ _ _ _ (G.rtI g (by simp) K1.out) (G.tab g HT.out)).mono ?_
             rintro e w1 ⟨pa,qa,ra,Fa,rfl,ha,hn⟩
             have hnna:=fun k o hk=>Nat.le_trans g.chg.size (hn.new k o hk)
             obtain⟨sa,Aa,na,ca,Ba,da,ka,rfl,rfl,rfl⟩:=ha.shape
             obtain⟨g1,rfl⟩:=G.new_ex _ hn
             clear hn
             (try clear g)
             revert g1
             intro g
             refine hK.out _ _ (by simp[G.heldN,HeldN,go_sem]) (fun hHeld=>?_)
             clear hK K
             (try simp only[Act.put,yk,yl,yn,yo,yi,yj])
             refine tk0 [10,11] ?_
             repeat (refine tkc rfl (by kernel_rfl) (fun _ _ _ h=>h) (by rfl) ‹_› (by intro w hSw;(try dsimp only at hSw);go_simp;(try with_reducible rfl)) ?_;try simp only[Act.put,yk,yl,yn,yo,yi,yj])
             refine tkn ?_
             refine wpAnyH_ready (rs:=[12]) (by kernel_rfl) (by simp) ?_
             refine AllReadyH.cons rfl (fun K hK=>?_) AllReadyH.nil
             ·(try simp only[Act.put,yk,yl,yn,yo,yi,yj])
              go_simp
              go_at_call 100
              (try(refine cmark _ ?_;(try dsimp only[yi,yj]);(try clear g);intro g))
              refine(stake_any _ _ _ _ _ _ _ _ _ (G.sumI g (by exact InF.tail (InF.tail (InF.tail (InF.tail HS.out)))))).mono ?_
              rintro e w1 ⟨rfl,hb⟩
              obtain⟨g1,rfl⟩:=G.call_ex _ hb
              clear hb
              (try clear g)
              revert g1
              intro g
              refine hK.out _ _ (by simp[G.heldN,HeldN,go_sem]) (fun hHeld=>?_)
              clear hK K
              (try simp only[Act.put,yk,yl,yn,yo,yi,yj])
              refine tk0 [13,14] ?_
              repeat (refine tkc rfl (by kernel_rfl) (fun _ _ _ h=>h) (by rfl) ‹_› (by intro w hSw;(try dsimp only at hSw);go_simp;(try with_reducible rfl)) ?_;try simp only[Act.put,yk,yl,yn,yo,yi,yj])
              refine tkn ?_
              refine wpAnyH_ready (rs:=[15]) (by kernel_rfl) (by simp) ?_
              refine AllReadyH.cons rfl (fun K hK=>?_) AllReadyH.nil
              ·(try simp only[Act.put,yk,yl,yn,yo,yi,yj])
               go_simp
               refine hK.out _ _ (by simp[G.heldN,HeldN,go_sem]) (fun hHeld=>?_)
               clear hK K
               (try simp only[Act.put,yk,yl,yn,yo,yi,yj])
               refine wpAnyH_done (by kernel_rfl) ?_ _
               (as_aux_lemma=>
                (try clear hHeld)
                ((try simp only[G.drew_eq,G.drewN_eq]);(refine yq _ ?_;(try generalize (G.w _).heap.size=bk);(try dsimp only[yi,yj]);(try clear g);intro g))
                have hE:Hid (ElW ti (fun F y x u=>Q0 F y x u) w0 n sb eb rb capr kb xb cb e2 cols F0 M (blkF l oL::blkF D oD::I) B (swapE s pp) g.w):=by
                 obtain⟨F',g2,e2,hle,hle2,hnew⟩:=g.merge
                 obtain⟨g3,e3⟩:=g2.forget 1
                 rw[e2,e3]
                 have hdet:(swapE s pp).det= -s.det:=if_neg (Ne.symm hne)
                 refine Lib.hid (ElW.make (s:=swapE s pp) (F:=F') (fun F y x u h=>KD.only F y x u h) (by rw[hdet];exact ha.mono hle2) (K2'.out.next (fun _ _=>rfl) (fun j hj v u hq=>by obtain⟨x,e,hx⟩:=hq;exact⟨x,e,KD.mono hx hle⟩)) (fun k o hk=>(hnew k o hk).elim (K34.out.1 k o) (fun h=> .inr (hnna k o h))) g3)
                clear ha hnna K2'
                go_upto_region 9 with(with_reducible refine yq _ ?_;(try generalize (G.w _).heap.size=bk);(try dsimp only[yi,yj]);(try clear g);intro g)
                clear hsum hp2j hwr2 HPD hd hd1 hrkj CN
                have HRD:Hid (Ready n m mt (swapE s pp) c):=Lib.hid ⟨hrk,by have:=HB.out;omega,by show swapR s.x s.rk pp s.rk c≠0;unfold swapR;rw[if_pos rfl];exact HP.out.1,(HFI.out pp HFP.out).1⟩
                have HST:Hid (runE n s0 (c+1)=roundE (swapE s pp) c):=Lib.hid (by show stepE n c (runE n s0 c)=_;rw[HSS.out];exact stepE_some HFP.out)
                obtain⟨hE1,hl1,hD1⟩:=hE.out.down
                obtain⟨fn,tmps,assign,body,hy,hR⟩:=HY.out (swapE s pp,c) g.w ⟨HRD.out,hE1⟩ hl1 hD1
                have hy2:(Instr.yield l #[.int .i64 (c:Int),.int .i64 (s.rk:Int)]).run Tryz.prog g.w=.ok (.round l fn tmps assign body) g.w:=hy
                clear hy hE1 hl1 hD1
                refine(wpIn_wide (n:=nn)).1 ?_
                gi_wp2
                refine⟨fun h=>(by simp[Fence.wide] at h),hR.mono ?_⟩
                rintro e W3 ⟨rfl,hE3,hl3,hD3⟩
                have hE4:=hE3.up hoL hoD hl3 hD3
                clear hE3 hl3 hD3 hR hy2
                clear hE g
                rw[←HST.out] at hE4
                have HE4:=Lib.hid hE4
                obtain⟨rs3,R3,F3,p3,q3,r3,k1,k2,k3,k4,g,rfl⟩:=hE4
                obtain⟨s3,A3,n3,c3,B3,d3,e3,rfl,rfl,rfl⟩:=k1.shape
                clear k1 k2 k3 k4
                have hrk1:(runE n s0 (c+1)).rk=s.rk+1:=by rw[HST.out];rfl
                dsimp only
                gi_wp2
                by_cases hfull:s.rk+1=n
                ·have hfi:((s.rk:Int)+1)=(n:Int):=by omega
                 have HFL:=Lib.hid hfull
                 clear hfull
                 go_wp2_with (with_reducible refine yq _ ?_;(try generalize (G.w _).heap.size=bk);(try dsimp only[yi,yj]);(try clear g);intro g)
                 refine bodyPost_ret (results_none rfl _ _ _) rfl ?_
                 have e:runE n s0 cols=runE n s0 (c+1):=by
                  have:=run_full (n:=n) (s:=s0) (c:=c+1) (by have:=HFL.out;omega) (cols-(c+1))
                  rwa[show c+1+(cols-(c+1))=cols by omega] at this
                 rw[e]
                 exact⟨⟨_,rfl⟩,HE4.out.down⟩
                ·have hfi:¬ (((s.rk:Int)+1)=(n:Int)):=by omega
                 go_wp2_with (with_reducible refine yq _ ?_;(try generalize (G.w _).heap.size=bk);(try dsimp only[yi,yj]);(try clear g);intro g)
                 go_roundw
                 case rel=>exact⟨c+1,by go_num,by omega,by omega,by rw[hrk1];go_num,HE4.out⟩
                 case measure=>simp[intOf];omega
                )
           ·(try simp only[Act.put,yk,yl,yn,yo,yi,yj])
            go_simp
            go_at_call 134
            (try(refine cmark _ ?_;(try dsimp only[yi,yj]);(try clear g);intro g))
            refine(CN.out _ _ _ _ (G.rtI g (by simp) K1.out) (G.tab g HT.out)).mono ?_
            rintro e w1 ⟨pa,qa,ra,Fa,rfl,ha,hn⟩
            have hnna:=fun k o hk=>Nat.le_trans g.chg.size (hn.new k o hk)
            obtain⟨sa,Aa,na,ca,Ba,da,ka,rfl,rfl,rfl⟩:=ha.shape
            obtain⟨g1,rfl⟩:=G.new_ex _ hn
            clear hn
            (try clear g)
            revert g1
            intro g
            refine hK.out _ _ (by simp[G.heldN,HeldN,go_sem]) (fun hHeld=>?_)
            clear hK K
            (try simp only[Act.put,yk,yl,yn,yo,yi,yj])
            refine tk0 [10,11] ?_
            repeat (refine tkc rfl (by kernel_rfl) (fun _ _ _ h=>h) (by rfl) ‹_› (by intro w hSw;(try dsimp only at hSw);go_simp;(try with_reducible rfl)) ?_;try simp only[Act.put,yk,yl,yn,yo,yi,yj])
            refine tkn ?_
            refine wpAnyH_ready (rs:=[4]) (by kernel_rfl) (by simp) ?_
            refine AllReadyH.cons rfl (fun K hK=>?_) AllReadyH.nil
            ·(try simp only[Act.put,yk,yl,yn,yo,yi,yj])
             go_simp
             refine hK.out _ _ (by simp[G.heldN,HeldN,go_sem]) (fun hHeld=>?_)
             clear hK K
             (try simp only[Act.put,yk,yl,yn,yo,yi,yj])
             refine wpAnyH_ready (rs:=[12]) (by kernel_rfl) (by simp) ?_
             refine AllReadyH.cons rfl (fun K hK=>?_) AllReadyH.nil
             ·(try simp only[Act.put,yk,yl,yn,yo,yi,yj])
              go_simp
              go_at_call 100
              (try(refine cmark _ ?_;(try dsimp only[yi,yj]);(try clear g);intro g))
              refine(stake_any _ _ _ _ _ _ _ _ _ (G.sumI g (by exact InF.tail (InF.tail (InF.tail (InF.tail HS.out)))))).mono ?_
              rintro e w1 ⟨rfl,hb⟩
              obtain⟨g1,rfl⟩:=G.call_ex _ hb
              clear hb
              (try clear g)
              revert g1
              intro g
              refine hK.out _ _ (by simp[G.heldN,HeldN,go_sem]) (fun hHeld=>?_)
              clear hK K
              (try simp only[Act.put,yk,yl,yn,yo,yi,yj])
              refine tk0 [13,14] ?_
              repeat (refine tkc rfl (by kernel_rfl) (fun _ _ _ h=>h) (by rfl) ‹_› (by intro w hSw;(try dsimp only at hSw);go_simp;(try with_reducible rfl)) ?_;try simp only[Act.put,yk,yl,yn,yo,yi,yj])
              refine tkn ?_
              refine wpAnyH_ready (rs:=[15]) (by kernel_rfl) (by simp) ?_
              refine AllReadyH.cons rfl (fun K hK=>?_) AllReadyH.nil
              ·(try simp only[Act.put,yk,yl,yn,yo,yi,yj])
               go_simp
               refine hK.out _ _ (by simp[G.heldN,HeldN,go_sem]) (fun hHeld=>?_)
               clear hK K
               (try simp only[Act.put,yk,yl,yn,yo,yi,yj])
               refine wpAnyH_done (by kernel_rfl) ?_ _
               (as_aux_lemma=>
                (try clear hHeld)
                ((try simp only[G.drew_eq,G.drewN_eq]);(refine yq _ ?_;(try generalize (G.w _).heap.size=bk);(try dsimp only[yi,yj]);(try clear g);intro g))
                have hE:Hid (ElW ti (fun F y x u=>Q0 F y x u) w0 n sb eb rb capr kb xb cb e2 cols F0 M (blkF l oL::blkF D oD::I) B (swapE s pp) g.w):=by
                 obtain⟨F',g2,e2,hle,hle2,hnew⟩:=g.merge
                 obtain⟨g3,e3⟩:=g2.forget 1
                 rw[e2,e3]
                 have hdet:(swapE s pp).det= -s.det:=if_neg (Ne.symm hne)
                 refine Lib.hid (ElW.make (s:=swapE s pp) (F:=F') (fun F y x u h=>KD.only F y x u h) (by rw[hdet];exact ha.mono hle2) (K2'.out.next (fun _ _=>rfl) (fun j hj v u hq=>by obtain⟨x,e,hx⟩:=hq;exact⟨x,e,KD.mono hx hle⟩)) (fun k o hk=>(hnew k o hk).elim (K34.out.1 k o) (fun h=> .inr (hnna k o h))) g3)
                clear ha hnna K2'
                go_upto_region 9 with(with_reducible refine yq _ ?_;(try generalize (G.w _).heap.size=bk);(try dsimp only[yi,yj]);(try clear g);intro g)
                clear hsum hp2j hwr2 HPD hd hd1 hrkj CN
                have HRD:Hid (Ready n m mt (swapE s pp) c):=Lib.hid ⟨hrk,by have:=HB.out;omega,by show swapR s.x s.rk pp s.rk c≠0;unfold swapR;rw[if_pos rfl];exact HP.out.1,(HFI.out pp HFP.out).1⟩
                have HST:Hid (runE n s0 (c+1)=roundE (swapE s pp) c):=Lib.hid (by show stepE n c (runE n s0 c)=_;rw[HSS.out];exact stepE_some HFP.out)
                obtain⟨hE1,hl1,hD1⟩:=hE.out.down
                obtain⟨fn,tmps,assign,body,hy,hR⟩:=HY.out (swapE s pp,c) g.w ⟨HRD.out,hE1⟩ hl1 hD1
                have hy2:(Instr.yield l #[.int .i64 (c:Int),.int .i64 (s.rk:Int)]).run Tryz.prog g.w=.ok (.round l fn tmps assign body) g.w:=hy
                clear hy hE1 hl1 hD1
                refine(wpIn_wide (n:=nn)).1 ?_
                gi_wp2
                refine⟨fun h=>(by simp[Fence.wide] at h),hR.mono ?_⟩
                rintro e W3 ⟨rfl,hE3,hl3,hD3⟩
                have hE4:=hE3.up hoL hoD hl3 hD3
                clear hE3 hl3 hD3 hR hy2
                clear hE g
                rw[←HST.out] at hE4
                have HE4:=Lib.hid hE4
                obtain⟨rs3,R3,F3,p3,q3,r3,k1,k2,k3,k4,g,rfl⟩:=hE4
                obtain⟨s3,A3,n3,c3,B3,d3,e3,rfl,rfl,rfl⟩:=k1.shape
                clear k1 k2 k3 k4
                have hrk1:(runE n s0 (c+1)).rk=s.rk+1:=by rw[HST.out];rfl
                dsimp only
                gi_wp2
                by_cases hfull:s.rk+1=n
                ·have hfi:((s.rk:Int)+1)=(n:Int):=by omega
                 have HFL:=Lib.hid hfull
                 clear hfull
                 go_wp2_with (with_reducible refine yq _ ?_;(try generalize (G.w _).heap.size=bk);(try dsimp only[yi,yj]);(try clear g);intro g)
                 refine bodyPost_ret (results_none rfl _ _ _) rfl ?_
                 have e:runE n s0 cols=runE n s0 (c+1):=by
                  have:=run_full (n:=n) (s:=s0) (c:=c+1) (by have:=HFL.out;omega) (cols-(c+1))
                  rwa[show c+1+(cols-(c+1))=cols by omega] at this
                 rw[e]
                 exact⟨⟨_,rfl⟩,HE4.out.down⟩
                ·have hfi:¬ (((s.rk:Int)+1)=(n:Int)):=by omega
                 go_wp2_with (with_reducible refine yq _ ?_;(try generalize (G.w _).heap.size=bk);(try dsimp only[yi,yj]);(try clear g);intro g)
                 go_roundw
                 case rel=>exact⟨c+1,by go_num,by omega,by omega,by rw[hrk1];go_num,HE4.out⟩
                 case measure=>simp[intOf];omega
                ))
     ·(try simp only[Act.put,yk,yl,yn,yo,yi,yj])
      go_simp
      refine hK.out _ _ (by simp[G.heldN,HeldN,go_sem]) (fun hHeld=>?_)
      clear hK K
      (try simp only[Act.put,yk,yl,yn,yo,yi,yj])
      refine wpAnyH_ready (rs:=[20]) (by kernel_rfl) (by simp) ?_
      refine AllReadyH.cons rfl (fun K hK=>?_) AllReadyH.nil
      ·(try simp only[Act.put,yk,yl,yn,yo,yi,yj])
       go_simp
       refine hK.out _ _ (by simp[G.heldN,HeldN,go_sem]) (fun hHeld=>?_)
       clear hK K
       (try simp only[Act.put,yk,yl,yn,yo,yi,yj])
       refine tk0 [28] ?_
       repeat (refine tkc rfl (by kernel_rfl) (fun _ _ _ h=>h) (by rfl) ‹_› (by intro w hSw;(try dsimp only at hSw);go_simp;(try with_reducible rfl)) ?_;try simp only[Act.put,yk,yl,yn,yo,yi,yj])
       refine tkn ?_
       refine wpAnyH_ready (rs:=[29]) (by kernel_rfl) (by simp) ?_
       refine AllReadyH.cons rfl (fun K hK=>?_) AllReadyH.nil
       ·(try simp only[Act.put,yk,yl,yn,yo,yi,yj])
        go_simp
        refine hK.out _ _ (by simp[G.heldN,HeldN,go_sem]) (fun hHeld=>?_)
        clear hK K
        (try simp only[Act.put,yk,yl,yn,yo,yi,yj])
        refine tk0 [30] ?_
        repeat (refine tkc rfl (by kernel_rfl) (fun _ _ _ h=>h) (by rfl) ‹_› (by intro w hSw;(try dsimp only at hSw);go_simp;(try with_reducible rfl)) ?_;try simp only[Act.put,yk,yl,yn,yo,yi,yj])
        refine tkn ?_
        refine wpAnyH_ready (rs:=[31]) (by kernel_rfl) (by simp) ?_
        refine AllReadyH.cons rfl (fun K hK=>?_) AllReadyH.nil
        ·(try simp only[Act.put,yk,yl,yn,yo,yi,yj])
         go_simp
         refine hK.out _ _ (by simp[G.heldN,HeldN,go_sem]) (fun hHeld=>?_)
         clear hK K
         (try simp only[Act.put,yk,yl,yn,yo,yi,yj])
         refine wpAnyH_done (by kernel_rfl) ?_ _
         (as_aux_lemma=>
          (try clear hHeld)
          ((try simp only[G.drew_eq,G.drewN_eq]);(refine yq _ ?_;(try generalize (G.w _).heap.size=bk);(try dsimp only[yi,yj]);(try clear g);intro g))
          have K2':=Lib.hid (K2.out.swap (P:=fun(y:Nat→Rat) v u=>∃x,v=.iface ti x∧(fun F y x u=>Q0 F y x u) F y x u) hrk hp2 hne hva hvb)
          obtain⟨rs2,hrs2⟩:∃rs2,(rs.set s.rk (.iface ti vb)).set pp (.iface ti va)=rs2:=⟨_,rfl⟩
          rw[hrs2] at K2'
          revert g
          rw[hrs2]
          intro g
          clear hrs2 hva hvb
          have CN:=Lib.hid (fun p q r w h1 t=>qNeg_r s.det (-s.det) (HFI.out pp HFP.out).2 rfl p q r w h1 t)
          unfold RT at CN
          go_upto_region 8 with(with_reducible refine yq _ ?_;(try generalize (G.w _).heap.size=bk);(try dsimp only[yi,yj]);(try clear g);intro g)
          ((try simp only[G.drew_eq,G.drewN_eq]);(refine yq _ ?_;(try generalize (G.w _).heap.size=bk);(try dsimp only[yi,yj]);(try clear g);intro g))
          refine wp_region_held_drew (S:=G.heldN g [false,false,false,false,true]) (by kernel_rfl) (by simp[G.heldN,HeldN,go_sem]) (fun hHeld=>?_)
          refine tk0 [0,1,2,3,5,6,7] ?_
          repeat (refine tkc rfl (by kernel_rfl) (fun _ _ _ h=>h) (by rfl) ‹_› (by intro w hSw;(try dsimp only at hSw);go_simp;(try with_reducible rfl)) ?_;try simp only[Act.put,yk,yl,yn,yo,yi,yj])
          refine tkn ?_
          refine wpAnyH_ready (rs:=[4,8]) (by kernel_rfl) (by simp) ?_
          refine AllReadyH.cons rfl (fun K hK=>?_) (AllReadyH.cons rfl (fun K hK=>?_) AllReadyH.nil)
          ·(try simp only[Act.put,yk,yl,yn,yo,yi,yj])
           go_simp
           refine hK.out _ _ (by simp[G.heldN,HeldN,go_sem]) (fun hHeld=>?_)
           clear hK K
           (try simp only[Act.put,yk,yl,yn,yo,yi,yj])
           refine wpAnyH_ready (rs:=[8]) (by kernel_rfl) (by simp) ?_
           refine AllReadyH.cons rfl (fun K hK=>?_) AllReadyH.nil
           ·(try simp only[Act.put,yk,yl,yn,yo,yi,yj])
            go_simp
            refine hK.out _ _ (by simp[G.heldN,HeldN,go_sem]) (fun hHeld=>?_)
            clear hK K
            (try simp only[Act.put,yk,yl,yn,yo,yi,yj])
            refine wpAnyH_ready (rs:=[9]) (by kernel_rfl) (by simp) ?_
            refine AllReadyH.cons rfl (fun K hK=>?_) AllReadyH.nil
            ·(try simp only[Act.put,yk,yl,yn,yo,yi,yj])
             go_simp
             go_at_call 134
             (try(refine cmark _ ?_;(try dsimp only[yi,yj]);(try clear g);intro g))
             refine(CN.out _ _ _ _ (G.rtI g (by simp) K1.out) (G.tab g HT.out)).mono ?_
             rintro e w1 ⟨pa,qa,ra,Fa,rfl,ha,hn⟩
             have hnna:=fun k o hk=>Nat.le_trans g.chg.size (hn.new k o hk)
             obtain⟨sa,Aa,na,ca,Ba,da,ka,rfl,rfl,rfl⟩:=ha.shape
             obtain⟨g1,rfl⟩:=G.new_ex _ hn
             clear hn
             (try clear g)
             revert g1
             intro g
             refine hK.out _ _ (by simp[G.heldN,HeldN,go_sem]) (fun hHeld=>?_)
             clear hK K
             (try simp only[Act.put,yk,yl,yn,yo,yi,yj])
             refine tk0 [10,11] ?_
             repeat (refine tkc rfl (by kernel_rfl) (fun _ _ _ h=>h) (by rfl) ‹_› (by intro w hSw;(try dsimp only at hSw);go_simp;(try with_reducible rfl)) ?_;try simp only[Act.put,yk,yl,yn,yo,yi,yj])
             refine tkn ?_
             refine wpAnyH_ready (rs:=[12]) (by kernel_rfl) (by simp) ?_
             refine AllReadyH.cons rfl (fun K hK=>?_) AllReadyH.nil
             ·(try simp only[Act.put,yk,yl,yn,yo,yi,yj])
              go_simp
              go_at_call 100
              (try(refine cmark _ ?_;(try dsimp only[yi,yj]);(try clear g);intro g))
              refine(stake_any _ _ _ _ _ _ _ _ _ (G.sumI g (by exact InF.tail (InF.tail (InF.tail (InF.tail HS.out)))))).mono ?_
              rintro e w1 ⟨rfl,hb⟩
              obtain⟨g1,rfl⟩:=G.call_ex _ hb
              clear hb
              (try clear g)
              revert g1
              intro g
              refine hK.out _ _ (by simp[G.heldN,HeldN,go_sem]) (fun hHeld=>?_)
              clear hK K
              (try simp only[Act.put,yk,yl,yn,yo,yi,yj])
              refine tk0 [13,14] ?_
              repeat (refine tkc rfl (by kernel_rfl) (fun _ _ _ h=>h) (by rfl) ‹_› (by intro w hSw;(try dsimp only at hSw);go_simp;(try with_reducible rfl)) ?_;try simp only[Act.put,yk,yl,yn,yo,yi,yj])
              refine tkn ?_
              refine wpAnyH_ready (rs:=[15]) (by kernel_rfl) (by simp) ?_
              refine AllReadyH.cons rfl (fun K hK=>?_) AllReadyH.nil
              ·(try simp only[Act.put,yk,yl,yn,yo,yi,yj])
               go_simp
               refine hK.out _ _ (by simp[G.heldN,HeldN,go_sem]) (fun hHeld=>?_)
               clear hK K
               (try simp only[Act.put,yk,yl,yn,yo,yi,yj])
               refine wpAnyH_done (by kernel_rfl) ?_ _
               (as_aux_lemma=>
                (try clear hHeld)
                ((try simp only[G.drew_eq,G.drewN_eq]);(refine yq _ ?_;(try generalize (G.w _).heap.size=bk);(try dsimp only[yi,yj]);(try clear g);intro g))
                have hE:Hid (ElW ti (fun F y x u=>Q0 F y x u) w0 n sb eb rb capr kb xb cb e2 cols F0 M (blkF l oL::blkF D oD::I) B (swapE s pp) g.w):=by
                 obtain⟨F',g2,e2,hle,hle2,hnew⟩:=g.merge
                 obtain⟨g3,e3⟩:=g2.forget 1
                 rw[e2,e3]
                 have hdet:(swapE s pp).det= -s.det:=if_neg (Ne.symm hne)
                 refine Lib.hid (ElW.make (s:=swapE s pp) (F:=F') (fun F y x u h=>KD.only F y x u h) (by rw[hdet];exact ha.mono hle2) (K2'.out.next (fun _ _=>rfl) (fun j hj v u hq=>by obtain⟨x,e,hx⟩:=hq;exact⟨x,e,KD.mono hx hle⟩)) (fun k o hk=>(hnew k o hk).elim (K34.out.1 k o) (fun h=> .inr (hnna k o h))) g3)
                clear ha hnna K2'
                go_upto_region 9 with(with_reducible refine yq _ ?_;(try generalize (G.w _).heap.size=bk);(try dsimp only[yi,yj]);(try clear g);intro g)
                clear hsum hp2j hwr2 HPD hd hd1 hrkj CN
                have HRD:Hid (Ready n m mt (swapE s pp) c):=Lib.hid ⟨hrk,by have:=HB.out;omega,by show swapR s.x s.rk pp s.rk c≠0;unfold swapR;rw[if_pos rfl];exact HP.out.1,(HFI.out pp HFP.out).1⟩
                have HST:Hid (runE n s0 (c+1)=roundE (swapE s pp) c):=Lib.hid (by show stepE n c (runE n s0 c)=_;rw[HSS.out];exact stepE_some HFP.out)
                obtain⟨hE1,hl1,hD1⟩:=hE.out.down
                obtain⟨fn,tmps,assign,body,hy,hR⟩:=HY.out (swapE s pp,c) g.w ⟨HRD.out,hE1⟩ hl1 hD1
                have hy2:(Instr.yield l #[.int .i64 (c:Int),.int .i64 (s.rk:Int)]).run Tryz.prog g.w=.ok (.round l fn tmps assign body) g.w:=hy
                clear hy hE1 hl1 hD1
                refine(wpIn_wide (n:=nn)).1 ?_
                gi_wp2
                refine⟨fun h=>(by simp[Fence.wide] at h),hR.mono ?_⟩
                rintro e W3 ⟨rfl,hE3,hl3,hD3⟩
                have hE4:=hE3.up hoL hoD hl3 hD3
                clear hE3 hl3 hD3 hR hy2
                clear hE g
                rw[←HST.out] at hE4
                have HE4:=Lib.hid hE4
                obtain⟨rs3,R3,F3,p3,q3,r3,k1,k2,k3,k4,g,rfl⟩:=hE4
                obtain⟨s3,A3,n3,c3,B3,d3,e3,rfl,rfl,rfl⟩:=k1.shape
                clear k1 k2 k3 k4
                have hrk1:(runE n s0 (c+1)).rk=s.rk+1:=by rw[HST.out];rfl
                dsimp only
                gi_wp2
                by_cases hfull:s.rk+1=n
                ·have hfi:((s.rk:Int)+1)=(n:Int):=by omega
                 have HFL:=Lib.hid hfull
                 clear hfull
                 go_wp2_with (with_reducible refine yq _ ?_;(try generalize (G.w _).heap.size=bk);(try dsimp only[yi,yj]);(try clear g);intro g)
                 refine bodyPost_ret (results_none rfl _ _ _) rfl ?_
                 have e:runE n s0 cols=runE n s0 (c+1):=by
                  have:=run_full (n:=n) (s:=s0) (c:=c+1) (by have:=HFL.out;omega) (cols-(c+1))
                  rwa[show c+1+(cols-(c+1))=cols by omega] at this
                 rw[e]
                 exact⟨⟨_,rfl⟩,HE4.out.down⟩
                ·have hfi:¬ (((s.rk:Int)+1)=(n:Int)):=by omega
                 go_wp2_with (with_reducible refine yq _ ?_;(try generalize (G.w _).heap.size=bk);(try dsimp only[yi,yj]);(try clear g);intro g)
                 go_roundw
                 case rel=>exact⟨c+1,by go_num,by omega,by omega,by rw[hrk1];go_num,HE4.out⟩
                 case measure=>simp[intOf];omega
                )
          ·(try simp only[Act.put,yk,yl,yn,yo,yi,yj])
           go_simp
           refine hK.out _ _ (by simp[G.heldN,HeldN,go_sem]) (fun hHeld=>?_)
           clear hK K
           (try simp only[Act.put,yk,yl,yn,yo,yi,yj])
           refine wpAnyH_ready (rs:=[4,9]) (by kernel_rfl) (by simp) ?_
           refine AllReadyH.cons rfl (fun K hK=>?_) (AllReadyH.cons rfl (fun K hK=>?_) AllReadyH.nil)
           ·(try simp only[Act.put,yk,yl,yn,yo,yi,yj])
            go_simp
            refine hK.out _ _ (by simp[G.heldN,HeldN,go_sem]) (fun hHeld=>?_)
            clear hK K
            (try simp only[Act.put,yk,yl,yn,yo,yi,yj])
            refine wpAnyH_ready (rs:=[9]) (by kernel_rfl) (by simp) ?_
            refine AllReadyH.cons rfl (fun K hK=>?_) AllReadyH.nil
            ·(try simp only[Act.put,yk,yl,yn,yo,yi,yj])
             go_simp
             go_at_call 134
             (try(refine cmark _ ?_;(try dsimp only[yi,yj]);(try clear g);intro g))
             refine(CN.out _ _ _ _ (G.rtI g (by simp) K1.out) (G.tab g HT.out)).mono ?_
             rintro e w1 ⟨pa,qa,ra,Fa,rfl,ha,hn⟩
             have hnna:=fun k o hk=>Nat.le_trans g.chg.size (hn.new k o hk)
             obtain⟨sa,Aa,na,ca,Ba,da,ka,rfl,rfl,rfl⟩:=ha.shape
             obtain⟨g1,rfl⟩:=G.new_ex _ hn
             clear hn
             (try clear g)
             revert g1
             intro g
             refine hK.out _ _ (by simp[G.heldN,HeldN,go_sem]) (fun hHeld=>?_)
             clear hK K
             (try simp only[Act.put,yk,yl,yn,yo,yi,yj])
             refine tk0 [10,11] ?_
             repeat (refine tkc rfl (by kernel_rfl) (fun _ _ _ h=>h) (by rfl) ‹_› (by intro w hSw;(try dsimp only at hSw);go_simp;(try with_reducible rfl)) ?_;try simp only[Act.put,yk,yl,yn,yo,yi,yj])
             refine tkn ?_
             refine wpAnyH_ready (rs:=[12]) (by kernel_rfl) (by simp) ?_
             refine AllReadyH.cons rfl (fun K hK=>?_) AllReadyH.nil
             ·(try simp only[Act.put,yk,yl,yn,yo,yi,yj])
              go_simp
              go_at_call 100
              (try(refine cmark _ ?_;(try dsimp only[yi,yj]);(try clear g);intro g))
              refine(stake_any _ _ _ _ _ _ _ _ _ (G.sumI g (by exact InF.tail (InF.tail (InF.tail (InF.tail HS.out)))))).mono ?_
              rintro e w1 ⟨rfl,hb⟩
              obtain⟨g1,rfl⟩:=G.call_ex _ hb
              clear hb
              (try clear g)
              revert g1
              intro g
              refine hK.out _ _ (by simp[G.heldN,HeldN,go_sem]) (fun hHeld=>?_)
              clear hK K
              (try simp only[Act.put,yk,yl,yn,yo,yi,yj])
              refine tk0 [13,14] ?_
              repeat (refine tkc rfl (by kernel_rfl) (fun _ _ _ h=>h) (by rfl) ‹_› (by intro w hSw;(try dsimp only at hSw);go_simp;(try with_reducible rfl)) ?_;try simp only[Act.put,yk,yl,yn,yo,yi,yj])
              refine tkn ?_
              refine wpAnyH_ready (rs:=[15]) (by kernel_rfl) (by simp) ?_
              refine AllReadyH.cons rfl (fun K hK=>?_) AllReadyH.nil
              ·(try simp only[Act.put,yk,yl,yn,yo,yi,yj])
               go_simp
               refine hK.out _ _ (by simp[G.heldN,HeldN,go_sem]) (fun hHeld=>?_)
               clear hK K
               (try simp only[Act.put,yk,yl,yn,yo,yi,yj])
               refine wpAnyH_done (by kernel_rfl) ?_ _
               (as_aux_lemma=>
                (try clear hHeld)
                ((try simp only[G.drew_eq,G.drewN_eq]);(refine yq _ ?_;(try generalize (G.w _).heap.size=bk);(try dsimp only[yi,yj]);(try clear g);intro g))
                have hE:Hid (ElW ti (fun F y x u=>Q0 F y x u) w0 n sb eb rb capr kb xb cb e2 cols F0 M (blkF l oL::blkF D oD::I) B (swapE s pp) g.w):=by
                 obtain⟨F',g2,e2,hle,hle2,hnew⟩:=g.merge
                 obtain⟨g3,e3⟩:=g2.forget 1
                 rw[e2,e3]
                 have hdet:(swapE s pp).det= -s.det:=if_neg (Ne.symm hne)
                 refine Lib.hid (ElW.make (s:=swapE s pp) (F:=F') (fun F y x u h=>KD.only F y x u h) (by rw[hdet];exact ha.mono hle2) (K2'.out.next (fun _ _=>rfl) (fun j hj v u hq=>by obtain⟨x,e,hx⟩:=hq;exact⟨x,e,KD.mono hx hle⟩)) (fun k o hk=>(hnew k o hk).elim (K34.out.1 k o) (fun h=> .inr (hnna k o h))) g3)
                clear ha hnna K2'
                go_upto_region 9 with(with_reducible refine yq _ ?_;(try generalize (G.w _).heap.size=bk);(try dsimp only[yi,yj]);(try clear g);intro g)
                clear hsum hp2j hwr2 HPD hd hd1 hrkj CN
                have HRD:Hid (Ready n m mt (swapE s pp) c):=Lib.hid ⟨hrk,by have:=HB.out;omega,by show swapR s.x s.rk pp s.rk c≠0;unfold swapR;rw[if_pos rfl];exact HP.out.1,(HFI.out pp HFP.out).1⟩
                have HST:Hid (runE n s0 (c+1)=roundE (swapE s pp) c):=Lib.hid (by show stepE n c (runE n s0 c)=_;rw[HSS.out];exact stepE_some HFP.out)
                obtain⟨hE1,hl1,hD1⟩:=hE.out.down
                obtain⟨fn,tmps,assign,body,hy,hR⟩:=HY.out (swapE s pp,c) g.w ⟨HRD.out,hE1⟩ hl1 hD1
                have hy2:(Instr.yield l #[.int .i64 (c:Int),.int .i64 (s.rk:Int)]).run Tryz.prog g.w=.ok (.round l fn tmps assign body) g.w:=hy
                clear hy hE1 hl1 hD1
                refine(wpIn_wide (n:=nn)).1 ?_
                gi_wp2
                refine⟨fun h=>(by simp[Fence.wide] at h),hR.mono ?_⟩
                rintro e W3 ⟨rfl,hE3,hl3,hD3⟩
                have hE4:=hE3.up hoL hoD hl3 hD3
                clear hE3 hl3 hD3 hR hy2
                clear hE g
                rw[←HST.out] at hE4
                have HE4:=Lib.hid hE4
                obtain⟨rs3,R3,F3,p3,q3,r3,k1,k2,k3,k4,g,rfl⟩:=hE4
                obtain⟨s3,A3,n3,c3,B3,d3,e3,rfl,rfl,rfl⟩:=k1.shape
                clear k1 k2 k3 k4
                have hrk1:(runE n s0 (c+1)).rk=s.rk+1:=by rw[HST.out];rfl
                dsimp only
                gi_wp2
                by_cases hfull:s.rk+1=n
                ·have hfi:((s.rk:Int)+1)=(n:Int):=by omega
                 have HFL:=Lib.hid hfull
                 clear hfull
                 go_wp2_with (with_reducible refine yq _ ?_;(try generalize (G.w _).heap.size=bk);(try dsimp only[yi,yj]);(try clear g);intro g)
                 refine bodyPost_ret (results_none rfl _ _ _) rfl ?_
                 have e:runE n s0 cols=runE n s0 (c+1):=by
                  have:=run_full (n:=n) (s:=s0) (c:=c+1) (by have:=HFL.out;omega) (cols-(c+1))
                  rwa[show c+1+(cols-(c+1))=cols by omega] at this
                 rw[e]
                 exact⟨⟨_,rfl⟩,HE4.out.down⟩
                ·have hfi:¬ (((s.rk:Int)+1)=(n:Int)):=by omega
                 go_wp2_with (with_reducible refine yq _ ?_;(try generalize (G.w _).heap.size=bk);(try dsimp only[yi,yj]);(try clear g);intro g)
                 go_roundw
                 case rel=>exact⟨c+1,by go_num,by omega,by omega,by rw[hrk1];go_num,HE4.out⟩
                 case measure=>simp[intOf];omega
                )
           ·(try simp only[Act.put,yk,yl,yn,yo,yi,yj])
            go_simp
            go_at_call 134
            (try(refine cmark _ ?_;(try dsimp only[yi,yj]);(try clear g);intro g))
            refine(CN.out _ _ _ _ (G.rtI g (by simp) K1.out) (G.tab g HT.out)).mono ?_
            rintro e w1 ⟨pa,qa,ra,Fa,rfl,ha,hn⟩
            have hnna:=fun k o hk=>Nat.le_trans g.chg.size (hn.new k o hk)
            obtain⟨sa,Aa,na,ca,Ba,da,ka,rfl,rfl,rfl⟩:=ha.shape
            obtain⟨g1,rfl⟩:=G.new_ex _ hn
            clear hn
            (try clear g)
            revert g1
            intro g
            refine hK.out _ _ (by simp[G.heldN,HeldN,go_sem]) (fun hHeld=>?_)
            clear hK K
            (try simp only[Act.put,yk,yl,yn,yo,yi,yj])
            refine tk0 [10,11] ?_
            repeat (refine tkc rfl (by kernel_rfl) (fun _ _ _ h=>h) (by rfl) ‹_› (by intro w hSw;(try dsimp only at hSw);go_simp;(try with_reducible rfl)) ?_;try simp only[Act.put,yk,yl,yn,yo,yi,yj])
            refine tkn ?_
            refine wpAnyH_ready (rs:=[4]) (by kernel_rfl) (by simp) ?_
            refine AllReadyH.cons rfl (fun K hK=>?_) AllReadyH.nil
            ·(try simp only[Act.put,yk,yl,yn,yo,yi,yj])
             go_simp
             refine hK.out _ _ (by simp[G.heldN,HeldN,go_sem]) (fun hHeld=>?_)
             clear hK K
             (try simp only[Act.put,yk,yl,yn,yo,yi,yj])
             refine wpAnyH_ready (rs:=[12]) (by kernel_rfl) (by simp) ?_
             refine AllReadyH.cons rfl (fun K hK=>?_) AllReadyH.nil
             ·(try simp only[Act.put,yk,yl,yn,yo,yi,yj])
              go_simp
              go_at_call 100
              (try(refine cmark _ ?_;(try dsimp only[yi,yj]);(try clear g);intro g))
              refine(stake_any _ _ _ _ _ _ _ _ _ (G.sumI g (by exact InF.tail (InF.tail (InF.tail (InF.tail HS.out)))))).mono ?_
              rintro e w1 ⟨rfl,hb⟩
              obtain⟨g1,rfl⟩:=G.call_ex _ hb
              clear hb
              (try clear g)
              revert g1
              intro g
              refine hK.out _ _ (by simp[G.heldN,HeldN,go_sem]) (fun hHeld=>?_)
              clear hK K
              (try simp only[Act.put,yk,yl,yn,yo,yi,yj])
              refine tk0 [13,14] ?_
              repeat (refine tkc rfl (by kernel_rfl) (fun _ _ _ h=>h) (by rfl) ‹_› (by intro w hSw;(try dsimp only at hSw);go_simp;(try with_reducible rfl)) ?_;try simp only[Act.put,yk,yl,yn,yo,yi,yj])
              refine tkn ?_
              refine wpAnyH_ready (rs:=[15]) (by kernel_rfl) (by simp) ?_
              refine AllReadyH.cons rfl (fun K hK=>?_) AllReadyH.nil
              ·(try simp only[Act.put,yk,yl,yn,yo,yi,yj])
               go_simp
               refine hK.out _ _ (by simp[G.heldN,HeldN,go_sem]) (fun hHeld=>?_)
               clear hK K
               (try simp only[Act.put,yk,yl,yn,yo,yi,yj])
               refine wpAnyH_done (by kernel_rfl) ?_ _
               (as_aux_lemma=>
                (try clear hHeld)
                ((try simp only[G.drew_eq,G.drewN_eq]);(refine yq _ ?_;(try generalize (G.w _).heap.size=bk);(try dsimp only[yi,yj]);(try clear g);intro g))
                have hE:Hid (ElW ti (fun F y x u=>Q0 F y x u) w0 n sb eb rb capr kb xb cb e2 cols F0 M (blkF l oL::blkF D oD::I) B (swapE s pp) g.w):=by
                 obtain⟨F',g2,e2,hle,hle2,hnew⟩:=g.merge
                 obtain⟨g3,e3⟩:=g2.forget 1
                 rw[e2,e3]
                 have hdet:(swapE s pp).det= -s.det:=if_neg (Ne.symm hne)
                 refine Lib.hid (ElW.make (s:=swapE s pp) (F:=F') (fun F y x u h=>KD.only F y x u h) (by rw[hdet];exact ha.mono hle2) (K2'.out.next (fun _ _=>rfl) (fun j hj v u hq=>by obtain⟨x,e,hx⟩:=hq;exact⟨x,e,KD.mono hx hle⟩)) (fun k o hk=>(hnew k o hk).elim (K34.out.1 k o) (fun h=> .inr (hnna k o h))) g3)
                clear ha hnna K2'
                go_upto_region 9 with(with_reducible refine yq _ ?_;(try generalize (G.w _).heap.size=bk);(try dsimp only[yi,yj]);(try clear g);intro g)
                clear hsum hp2j hwr2 HPD hd hd1 hrkj CN
                have HRD:Hid (Ready n m mt (swapE s pp) c):=Lib.hid ⟨hrk,by have:=HB.out;omega,by show swapR s.x s.rk pp s.rk c≠0;unfold swapR;rw[if_pos rfl];exact HP.out.1,(HFI.out pp HFP.out).1⟩
                have HST:Hid (runE n s0 (c+1)=roundE (swapE s pp) c):=Lib.hid (by show stepE n c (runE n s0 c)=_;rw[HSS.out];exact stepE_some HFP.out)
                obtain⟨hE1,hl1,hD1⟩:=hE.out.down
                obtain⟨fn,tmps,assign,body,hy,hR⟩:=HY.out (swapE s pp,c) g.w ⟨HRD.out,hE1⟩ hl1 hD1
                have hy2:(Instr.yield l #[.int .i64 (c:Int),.int .i64 (s.rk:Int)]).run Tryz.prog g.w=.ok (.round l fn tmps assign body) g.w:=hy
                clear hy hE1 hl1 hD1
                refine(wpIn_wide (n:=nn)).1 ?_
                gi_wp2
                refine⟨fun h=>(by simp[Fence.wide] at h),hR.mono ?_⟩
                rintro e W3 ⟨rfl,hE3,hl3,hD3⟩
                have hE4:=hE3.up hoL hoD hl3 hD3
                clear hE3 hl3 hD3 hR hy2
                clear hE g
                rw[←HST.out] at hE4
                have HE4:=Lib.hid hE4
                obtain⟨rs3,R3,F3,p3,q3,r3,k1,k2,k3,k4,g,rfl⟩:=hE4
                obtain⟨s3,A3,n3,c3,B3,d3,e3,rfl,rfl,rfl⟩:=k1.shape
                clear k1 k2 k3 k4
                have hrk1:(runE n s0 (c+1)).rk=s.rk+1:=by rw[HST.out];rfl
                dsimp only
                gi_wp2
                by_cases hfull:s.rk+1=n
                ·have hfi:((s.rk:Int)+1)=(n:Int):=by omega
                 have HFL:=Lib.hid hfull
                 clear hfull
                 go_wp2_with (with_reducible refine yq _ ?_;(try generalize (G.w _).heap.size=bk);(try dsimp only[yi,yj]);(try clear g);intro g)
                 refine bodyPost_ret (results_none rfl _ _ _) rfl ?_
                 have e:runE n s0 cols=runE n s0 (c+1):=by
                  have:=run_full (n:=n) (s:=s0) (c:=c+1) (by have:=HFL.out;omega) (cols-(c+1))
                  rwa[show c+1+(cols-(c+1))=cols by omega] at this
                 rw[e]
                 exact⟨⟨_,rfl⟩,HE4.out.down⟩
                ·have hfi:¬ (((s.rk:Int)+1)=(n:Int)):=by omega
                 go_wp2_with (with_reducible refine yq _ ?_;(try generalize (G.w _).heap.size=bk);(try dsimp only[yi,yj]);(try clear g);intro g)
                 go_roundw
                 case rel=>exact⟨c+1,by go_num,by omega,by omega,by rw[hrk1];go_num,HE4.out⟩
                 case measure=>simp[intOf];omega
                ))
  ·obtain rfl:c=cols:=by omega
   go_wp2_with (with_reducible refine yq _ ?_;(try generalize (G.w _).heap.size=bk);(try dsimp only[yi,yj]);(try clear g);intro g)
   refine bodyPost_end (results_none rfl _ _ _) rfl ?_
   exact⟨⟨_,rfl⟩,hE.down⟩
end Go.Proofs.YthhbbnfnejjpiaaGreatDoor
