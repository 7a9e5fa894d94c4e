/- Plain facts and contracts of functions of the program, out of walks. Their conditions stand ahead of each. -/
import Derived.Test.YthhbbnfnejjpiaaGreatDoorFo1
import Derived.Test.YthhbbnfnejjpiaaGreatDoorFo2
import Derived.Test.YthhbbnfnejjpiaaGreatDoorFo16
import Derived.Test.YthhbbnfnejjpiaaGreatDoorFo17
import Derived.Below
import Derived.BigQuiet
import Derived.ChangeSame
import Derived.Deep.Draws
import Derived.Deep.LoopGhost
import Derived.Deep.QuietTactic
import Derived.Deep.RegionHeld3
import Derived.Deep.Slices
import Derived.Deep.Strs
import Derived.HandedShaped
import Derived.JoinedOf
import Derived.KernelRfl
import Derived.LaidMore
import Derived.Laws.CopyOwn
import Derived.Laws.NewBlocks
import Derived.Laws.OwnMore
import Derived.Laws.Pointers
import Derived.Laws.Rows
import Derived.Lib.BitFns
import Derived.Lib.Hide
import Derived.Lib.ItoaNum
import Derived.Lib.LaidTab
import Derived.MakeChecks
import Derived.Maps.AppendAt
import Derived.OpenShut
import Derived.OrdersHeld
import Derived.ProofKit
import Derived.RangeFuncNested
import Derived.RowKit3
import Derived.Shelf.Spec.TrailingZeros
import Derived.SizedLaws
import Derived.StillTactics
import Derived.StillTailTactics
import Derived.Test.YthhbbnfnejjpiaaGreatDoorProg
import Derived.Test.YthhbbnfnejjpiaaGreatDoorRows
import Derived.Test.YthhbbnfnejjpiaaGreatDoorTie
import Derived.WalkKit
import Derived.WalkLawsBesides
import Derived.WalkMore
import Derived.WalkSpells
set_option linter.unusedVariables false
set_option linter.unusedSimpArgs false
set_option maxRecDepth 100000
namespace Go.Proofs.YthhbbnfnejjpiaaGreatDoor
open Go Go.ChangeShapes Go.WideShapes Go.ChangeAt Go.RowKit GW NL
section
variable {H:Type}{enc:TypeId×Value→H}{W:World}
/-- all sizes that an argument names are within reach -/
def Wt (T:TypeId)(d:DataW H):Prop:=∀n∈d.weights Tryz.prog T,n≤reachBytes
theorem wts_mem {e:TypeId}{d:DataW H}:∀ {l:List (DataW H)},d∈l→∀n∈d.weights Tryz.prog e,n∈DataW.weightsAll Tryz.prog e l
 |x::l,hd,n,hn=>by
  simp only[DataW.weightsAll,List.mem_append]
  rcases List.mem_cons.1 hd with rfl|h
  ·exact Or.inl hn
  ·exact Or.inr (wts_mem h n hn)
theorem Wt.slice {T e:TypeId}{xs ys:List (DataW H)}(hT:Tryz.prog.underlying T=some (.slice e))(h:Wt T (DataW.slice xs ys)):(xs.length+ys.length)*Tryz.prog.bytesOf e≤reachBytes∧∀d∈xs,Wt e d:=by
 unfold Wt at h ⊢
 simp only[DataW.weights,hT,List.mem_cons,List.mem_append] at h
 exact⟨h _ (.inl rfl),fun d hd n hn=>h n (.inr (.inl (wts_mem hd n hn)))⟩
theorem cell_at {a:Addr}{v:Value}(h:W.cell? a=some v):∃b o cs T fr,a=⟨b,o,none⟩∧W.heap[b]?=some (.cells cs T fr):=by
 obtain⟨b,o,s⟩:=a
 cases s with
 |none=>
  obtain⟨cs,T,fr,hb,_⟩:=cell_block h
  exact⟨b,o,cs,T,fr,rfl,hb⟩
 |some s=>
  unfold World.cell? at h
  dsimp only at h
  split at h
  ·simp at h
  ·cases h
theorem add_cell {b o:Nat}{cs:Array Value}{T:TypeId}{fr:Nat×Nat}(hb:W.heap[b]?=some (.cells cs T fr))(i:Nat):W.cell? ((⟨b,o,none⟩:Addr).add i)=cs[o+i]?:=by
 by_cases h:i=0
 ·subst h
  simp[Addr.add,World.cell?,hb]
 ·simp[Addr.add,h,World.cell?,hb]
theorem bytesRat:Tryz.prog.bytesOf 43=56:=by kernel_rfl
theorem bytesRats:Tryz.prog.bytesOf 38=24:=by kernel_rfl
theorem cellsRats:Tryz.prog.cellsOf 38=1:=by kernel_rfl
theorem trod_u32sB {T:TypeId}{v:Value}{fuel:Nat}{x:DataW H×List MemPlace}(hT:Tryz.prog.underlying T=some (.slice 73))
  (hf:DataW.trod enc Tryz.prog W 0 (fun _=>true) true fuel T [v]=some x):∃A c l,v=.slice A l.length c∧(Wt T x.1→SlW W A c l):=by
 obtain⟨A,c,l,e,i⟩:=trod_u32s hT hf
 refine⟨A,c,l,e,fun hw=>i ?_⟩
 rcases open_ints hT Tryz.underlying73 cellsU32 hf with⟨hcs,hx⟩|⟨a,len,cap,zs,hcs,_,hl,hm,hz,hx,hcell,hwz⟩
 ·simp only[List.cons.injEq,and_true] at hcs
  rw[e] at hcs
  injection hcs with _ h2 _
  omega
 ·simp only[List.cons.injEq,and_true] at hcs
  rw[e] at hcs
  injection hcs with _ h2 _
  simp only[if_true] at hz
  subst hx
  have h3:=(Wt.slice hT hw).1
  rw[bytesU32] at h3
  have h4:(lits IntKind.u32 (zs.take len):List (DataW H)).length=len:=by simp[lits];omega
  rw[h4] at h3
  have:reachBytes=140737488351232:=rfl
  omega
theorem flat_ratB {cs:List Value}{fuel:Nat}{x:DataW H×List MemPlace}(hf:DataW.trod enc Tryz.prog W 0 (fun _=>true) true fuel 43 cs=some x):
  ∃(p q r:Value) (t:Raw),cs=[p,q,r]∧(Wt 43 x.1→RtW W p q r t):=by
 obtain⟨y0,y1,y2,n,hx,hlen,h0,h1,h2⟩:=Deep.trod_struct3 Tryz.underlying43 hf
 rw[cellsRat] at hlen
 match cs,hlen with
 |[v0,v1,v2],_=>
  rw[cellsBool] at h0
  rw[cellsNat] at h1 h2
  simp only[List.drop_zero,List.drop_succ_cons,List.take_succ_cons,List.take_zero] at h0 h1 h2
  obtain⟨s,e0,_⟩:=DataW.trod_bool Tryz.underlying4 h0
  obtain⟨A,c,l,e1,i1⟩:=trod_u32sB Tryz.underlying41 h1
  obtain⟨B,k,m,e2,i2⟩:=trod_u32sB Tryz.underlying41 h2
  simp only[List.cons.injEq,and_true] at e0
  subst hx
  refine⟨v0,v1,v2,(s,l,m),rfl,fun hw=>⟨e0,⟨A,c,e1,i1 ?_⟩,B,k,e2,i2 ?_⟩⟩
  ·intro n hn
   refine hw n ?_
   simp only[DataW.weights,Tryz.underlying43]
   exact DataW.weights_mem_each (j:=1) rfl rfl n hn
  ·intro n hn
   refine hw n ?_
   simp only[DataW.weights,Tryz.underlying43]
   exact DataW.weights_mem_each (j:=2) rfl rfl n hn
/-- a list of numbers -/
theorem trod_rats {T:TypeId}{v:Value}{fuel:Nat}{x:DataW H×List MemPlace}(hT:Tryz.prog.underlying T=some (.slice 43))
  (hf:DataW.trod enc Tryz.prog W 0 (fun _=>true) true fuel T [v]=some x):∃A c n t,v=.slice A n c∧(Wt T x.1→(heapOf W).Rw A c n t):=by
 rcases Deep.open_slice hT hf with⟨hcs,hx⟩|⟨a,len,cap,m,n,D,Pl,hcs,_,hl,hm,hmm,hx,hel⟩
 ·simp only[List.cons.injEq,and_true] at hcs
  exact⟨none,0,0,fun _=>(false,[],[]),hcs,fun _=>Frag.Rw.nil _ _ _⟩
 ·simp only[List.cons.injEq,and_true] at hcs
  simp only[if_true] at hmm
  subst hmm hx
  have hk:∀i,i<len→∃(y:Value×Value×Value×Raw),(∀k,k<3→W.cell? (a.add (i*3+k))=[y.1,y.2.1,y.2.2.1][k]?)∧(Wt 43 (D i)→RtW W y.1 y.2.1 y.2.2.1 y.2.2.2):=fun i hi=>by
   obtain⟨cs',h1,h2⟩:=hel i (by omega)
   rw[cellsRat] at h1
   obtain⟨p,q,r,t,rfl,ht⟩:=flat_ratB h2
   obtain⟨_,_,h3⟩:=World.cells?_some h1
   exact⟨(p,q,r,t),fun k hk=>by rw[←Deep.add_add];exact h3 k hk,ht⟩
  obtain⟨y,hy⟩:=Deep.choose_lt hk
  refine⟨some a,m,len,fun i=>(y i).2.2.2,hcs,fun hw=>?_⟩
  obtain⟨hb,hd⟩:=Wt.slice hT hw
  rw[bytesRat] at hb
  simp only[List.length_map,List.length_range] at hb
  have hR:reachBytes=140737488351232:=rfl
  refine⟨hl,hm,by omega,fun hpos=>?_⟩
  obtain⟨b,o,cs,T',fr,rfl,hbk⟩:=cell_at (show W.cell? a=some (y 0).1 by have:=(hy 0 hpos).1 0 (by decide);simpa [Addr.add] using this)
  refine⟨b,o,rfl,cs,T',fr,hbk,fun j hj=>?_⟩
  obtain⟨h1,h2⟩:=hy j hj
  have e0:=h1 0 (by decide)
  have e1:=h1 1 (by decide)
  have e2:=h1 2 (by decide)
  rw[add_cell hbk] at e0 e1 e2
  exact⟨_,_,_,e0,e1,e2,h2 (hd _ (List.mem_map.2 ⟨j,List.mem_range.2 hj,rfl⟩))⟩
/-- a matrix -/
theorem trod_mat {T:TypeId}{v:Value}{fuel:Nat}{x:DataW H×List MemPlace}(hT:Tryz.prog.underlying T=some (.slice 38))
  (hf:DataW.trod enc Tryz.prog W 0 (fun _=>true) true fuel T [v]=some x):∃A c n m t,v=.slice A n c∧(Wt T x.1→(heapOf W).Mt A c n m t):=by
 rcases Deep.open_slice1 hT cellsRats hf with⟨hcs,hx⟩|⟨a,len,cap,m,n,V,D,Pl,hcs,_,hl,hm,hmm,hx,hel⟩
 ·simp only[List.cons.injEq,and_true] at hcs
  exact⟨none,0,0,fun _=>0,fun _ _=>(false,[],[]),hcs,fun _=>Frag.Mt.nil _ _ _ _⟩
 ·simp only[List.cons.injEq,and_true] at hcs
  simp only[if_true] at hmm
  subst hmm hx
  have hk:∀i,i<len→∃(y:Option Addr×Nat×Nat×(Nat→Raw)),W.cell? (a.add i)=some (.slice y.1 y.2.2.1 y.2.1)∧(Wt 38 (D i)→(heapOf W).Rw y.1 y.2.1 y.2.2.1 y.2.2.2):=fun i hi=>by
   obtain⟨h1,h2⟩:=hel i (by omega)
   obtain⟨A,c,k,t,e,ht⟩:=trod_rats Tryz.underlying38 h2
   exact⟨(A,c,k,t),by rw[h1,e],ht⟩
  obtain⟨y,hy⟩:=Deep.choose_lt hk
  refine⟨some a,m,len,fun i=>(y i).2.2.1,fun i=>(y i).2.2.2,hcs,fun hw=>?_⟩
  obtain⟨hb,hd⟩:=Wt.slice hT hw
  rw[bytesRats] at hb
  simp only[List.length_map,List.length_range] at hb
  have hR:reachBytes=140737488351232:=rfl
  refine⟨hl,hm,by omega,fun hpos=>?_⟩
  obtain⟨b,o,cs,T',fr,rfl,hbk⟩:=cell_at (show W.cell? a=some _ by have:=(hy 0 hpos).1;simpa [Addr.add] using this)
  refine⟨b,o,rfl,cs,T',fr,hbk,fun j hj=>?_⟩
  obtain⟨h1,h2⟩:=hy j hj
  rw[add_cell hbk] at h1
  exact⟨_,_,h1,h2 (hd _ (List.mem_map.2 ⟨j,List.mem_range.2 hj,rfl⟩))⟩
theorem wt_arg {ts:List TypeId}{ds:List (DataW H)}(hs:(DataW.weightsEach Tryz.prog ts ds).all (· ≤reachBytes)=true){j:Nat}{T:TypeId}{d:DataW H}(ht:ts[j]?=some T)(hd:ds[j]?=some d):Wt T d:=fun n hn=>
 of_decide_eq_true (List.all_eq_true.1 hs n (DataW.weights_mem_each ht hd n hn))
theorem open_mat {base:Nat}{T:TypeId}{v:Value}{d:DataW H}{p:List MemPlace}(hT:Tryz.prog.underlying T=some (.slice 38))(hval:Value.okWide Tryz.prog W .any base T v)(hw:Wt T d)
  (h:DataW.Trod enc Tryz.prog W 0 (fun _=>true) true T v d p):∃A c n m t,v=.slice A n c∧(heapOf W).Mt A c n m t:=by
 obtain⟨a0,len,cap,rfl⟩:=okWide_slice hT hval
 obtain⟨fuel,hf⟩:=h
 obtain⟨A,c,n,m,t,e,i⟩:=trod_mat hT hf
 exact⟨A,c,n,m,t,e,i hw⟩
theorem open_rats {base:Nat}{T:TypeId}{v:Value}{d:DataW H}{p:List MemPlace}(hT:Tryz.prog.underlying T=some (.slice 43))(hval:Value.okWide Tryz.prog W .any base T v)(hw:Wt T d)
  (h:DataW.Trod enc Tryz.prog W 0 (fun _=>true) true T v d p):∃A c n t,v=.slice A n c∧(heapOf W).Rw A c n t:=by
 obtain⟨a0,len,cap,rfl⟩:=okWide_slice hT hval
 obtain⟨fuel,hf⟩:=h
 obtain⟨A,c,n,t,e,i⟩:=trod_rats hT hf
 exact⟨A,c,n,t,e,i hw⟩
end
end Go.Proofs.YthhbbnfnejjpiaaGreatDoor
