/- Plain facts and contracts of functions of the program, out of walks. Their conditions stand ahead of each. -/
import Derived.Below
import Derived.Deep.Draws
import Derived.Laws.NewBlocks
import Derived.Laws.OwnMore
import Derived.Laws.Rows
import Derived.OrdersHeld
import Derived.WalkKit
import Derived.RangeFuncNested
import Derived.Lib.BitFns
import Derived.Lib.ItoaNum
import Derived.Maps.AppendAt
import Derived.Laws.CopyOwn
set_option linter.unusedVariables false
set_option linter.unusedSimpArgs false
namespace Go.Proofs.YthhbbnfnejjpiaaGreatDoor.NL
open Go
/-- the number that limbs stand for -/
def val:List Nat→Nat
 |[]=>0
 |x::l=>x+4294967296*val l
/-- all limbs are less than 2^32 -/
def Ok (l:List Nat):Prop:=∀x∈l,x<4294967296
theorem Ok.nil:Ok []:=by intro x h;cases h
theorem Ok.cons {x:Nat}{l:List Nat}(hx:x<4294967296)(h:Ok l):Ok (x::l):=by
 intro y hy;rcases List.mem_cons.1 hy with rfl|hy;exact hx;exact h y hy
theorem Ok.head {x:Nat}{l:List Nat}(h:Ok (x::l)):x<4294967296:=h x (List.mem_cons_self ..)
theorem Ok.tail {x:Nat}{l:List Nat}(h:Ok (x::l)):Ok l:=fun y hy=>h y (List.mem_cons_of_mem _ hy)
theorem Ok.append {l m:List Nat}(h:Ok l)(k:Ok m):Ok (l++m):=by
 intro x hx;rcases List.mem_append.1 hx with hx|hx;exact h x hx;exact k x hx
theorem Ok.take {l:List Nat}(h:Ok l)(k:Nat):Ok (l.take k):=fun x hx=>h x (List.mem_of_mem_take hx)
theorem Ok.drop {l:List Nat}(h:Ok l)(k:Nat):Ok (l.drop k):=fun x hx=>h x (List.mem_of_mem_drop hx)
theorem Ok.get {l:List Nat}(h:Ok l){k:Nat}(hk:k<l.length):l[k]<4294967296:=h _ (List.getElem_mem hk)
theorem Ok.getD {l:List Nat}(h:Ok l)(k:Nat):l.getD k 0<4294967296:=by
 rw[List.getD_eq_getElem?_getD]
 rcases Nat.lt_or_ge k l.length with hk|hk
 ·rw[List.getElem?_eq_getElem hk];exact h.get hk
 ·rw[List.getElem?_eq_none hk];decide
theorem Ok.set {l:List Nat}(h:Ok l)(k:Nat){x:Nat}(hx:x<4294967296):Ok (l.set k x):=by
 intro y hy
 rcases List.mem_or_eq_of_mem_set hy with hy|rfl
 ·exact h y hy
 ·exact hx
theorem Ok.zeros (n:Nat):Ok (List.replicate n 0):=by intro x hx;rw[(List.mem_replicate.1 hx).2];decide
theorem val_append (l m:List Nat):val (l++m)=val l+4294967296^l.length*val m:=by
 induction l with
 |nil=>simp[val]
 |cons x l ih=>
  rw[List.cons_append,val,val,ih,List.length_cons,Nat.pow_succ,Nat.mul_add,←Nat.mul_assoc,Nat.mul_comm 4294967296 (4294967296^l.length),Nat.add_assoc]
theorem val_single (x:Nat):val [x]=x:=by simp[val]
theorem val_snoc (l:List Nat)(x:Nat):val (l++[x])=val l+4294967296^l.length*x:=by rw[val_append,val_single]
theorem val_zeros (n:Nat):val (List.replicate n 0)=0:=by
 induction n with
 |zero=>rfl
 |succ n ih=>rw[List.replicate_succ,val,ih]
theorem val_lt:∀ {l:List Nat},Ok l→val l<4294967296^l.length:=by
 intro l
 induction l with
 |nil=>intro _;simp[val]
 |cons x l ih=>
  intro h
  have h1:=ih h.tail
  have h2:=h.head
  rw[val,List.length_cons,Nat.pow_succ,Nat.mul_comm]
  have:val l*4294967296+4294967296≤4294967296^l.length*4294967296:=by
   have:=Nat.mul_le_mul_right 4294967296 (Nat.succ_le_of_lt h1)
   rw[Nat.succ_mul] at this
   exact this
  omega
theorem take_succ {l:List Nat}{k:Nat}(hk:k<l.length):l.take (k+1)=l.take k++[l[k]]:=by rw[List.take_succ_eq_append_getElem hk]
theorem val_take_succ {l:List Nat}{k:Nat}(hk:k<l.length):val (l.take (k+1))=val (l.take k)+4294967296^k*l[k]:=by
 rw[take_succ hk,val_snoc,List.length_take,Nat.min_eq_left (by omega)]
theorem val_take_getD (l:List Nat)(k:Nat):val (l.take (k+1))=val (l.take k)+4294967296^k*l.getD k 0:=by
 rcases Nat.lt_or_ge k l.length with hk|hk
 ·rw[val_take_succ hk,List.getD_eq_getElem?_getD,List.getElem?_eq_getElem hk];rfl
 ·rw[List.getD_eq_getElem?_getD,List.getElem?_eq_none hk,List.take_of_length_le (by omega),List.take_of_length_le hk];simp
theorem val_take_all {l:List Nat}{k:Nat}(hk:l.length≤k):val (l.take k)=val l:=by rw[List.take_of_length_le hk]
theorem val_split (l:List Nat)(k:Nat)(hk:k≤l.length):val l=val (l.take k)+4294967296^k*val (l.drop k):=by
 have h:=val_append (l.take k) (l.drop k)
 rw[List.take_append_drop,List.length_take,Nat.min_eq_left hk] at h
 exact h
theorem val_drop_getD (l:List Nat)(k:Nat):val (l.drop k)=l.getD k 0+4294967296*val (l.drop (k+1)):=by
 rcases Nat.lt_or_ge k l.length with hk|hk
 ·rw[List.drop_eq_getElem_cons hk,val,List.getD_eq_getElem?_getD,List.getElem?_eq_getElem hk];rfl
 ·rw[List.drop_of_length_le hk,List.drop_of_length_le (by omega),List.getD_eq_getElem?_getD,List.getElem?_eq_none hk];rfl
/-- the limbs of a number, none of them behind the last one that is not 0 -/
def limbs (n:Nat):List Nat:=if h:n=0 then [] else n%4294967296::limbs (n/4294967296)
termination_by n
decreasing_by exact Nat.div_lt_self (Nat.pos_of_ne_zero h) (by decide)
theorem limbs_zero:limbs 0=[]:=by rw[limbs];rfl
theorem limbs_pos {n:Nat}(h:n≠0):limbs n=n%4294967296::limbs (n/4294967296):=by rw[limbs,dif_neg h]
theorem val_limbs (n:Nat):val (limbs n)=n:=by
 induction n using Nat.strongRecOn with
 |ind n ih=>
  by_cases h:n=0
  ·subst h;rw[limbs_zero];rfl
  ·rw[limbs_pos h,val,ih _ (Nat.div_lt_self (Nat.pos_of_ne_zero h) (by decide))];omega
theorem ok_limbs (n:Nat):Ok (limbs n):=by
 induction n using Nat.strongRecOn with
 |ind n ih=>
  by_cases h:n=0
  ·subst h;rw[limbs_zero];exact Ok.nil
  ·rw[limbs_pos h];exact Ok.cons (Nat.mod_lt _ (by decide)) (ih _ (Nat.div_lt_self (Nat.pos_of_ne_zero h) (by decide)))
theorem limbs_nil {n:Nat}:limbs n=[]↔n=0:=by
 constructor
 ·intro h
  have:=val_limbs n
  rw[h] at this
  exact this.symm
 ·rintro rfl;exact limbs_zero
/-- the last limb is not 0 -/
def Trim (l:List Nat):Prop:=∀k,l.length=k+1→l.getD k 0≠0
theorem Trim.nil:Trim []:=by intro k hk;cases hk
theorem trim_limbs (n:Nat):Trim (limbs n):=by
 induction n using Nat.strongRecOn with
 |ind n ih=>
  by_cases h:n=0
  ·subst h;rw[limbs_zero];exact Trim.nil
  ·rw[limbs_pos h]
   have h1:=ih _ (Nat.div_lt_self (Nat.pos_of_ne_zero h) (by decide:1<4294967296))
   intro k hk
   cases k with
   |zero=>
    rw[List.length_cons] at hk
    have h2:limbs (n/4294967296)=[]:=List.eq_nil_of_length_eq_zero (by omega)
    rw[limbs_nil] at h2
    simp
    omega
   |succ k=>
    rw[List.length_cons] at hk
    have:=h1 k (by omega)
    simpa using this
theorem limbs_val:∀ {l:List Nat},Ok l→Trim l→limbs (val l)=l:=by
 intro l
 induction l with
 |nil=>intro _ _;exact limbs_zero
 |cons x l ih=>
  intro h t
  have hx:=h.head
  have t':Trim l:=by
   intro k hk
   have:=t (k+1) (by simp[hk])
   simpa using this
  have hne:val (x::l)≠0:=by
   intro h0
   rw[val] at h0
   have hx0:x=0:=by omega
   have hl:val l=0:=by omega
   have e:=ih h.tail t'
   rw[hl,limbs_zero] at e
   subst e
   have:=t 0 rfl
   simp at this
   omega
  rw[limbs_pos hne,val,show(x+4294967296*val l)%4294967296=x by omega,show(x+4294967296*val l)/4294967296=val l by omega,ih h.tail t']
theorem limbs_len (n k:Nat):(limbs n).length≤k↔n<4294967296^k:=by
 constructor
 ·intro h
  have h1:=val_lt (ok_limbs n)
  rw[val_limbs] at h1
  exact Nat.lt_of_lt_of_le h1 (Nat.pow_le_pow_right (by decide) h)
 ·intro h
  rcases Nat.lt_or_ge k (limbs n).length with hl|hl
  ·exfalso
   --the last limb is not 0
   obtain⟨m,hm⟩:∃m,(limbs n).length=m+1:=⟨(limbs n).length-1,by omega⟩
   have t:=trim_limbs n m hm
   have s:=val_split (limbs n) m (by omega)
   rw[val_limbs,val_drop_getD] at s
   have:4294967296^k≤4294967296^m:=Nat.pow_le_pow_right (by decide) (by omega)
   have h2:4294967296^m*1≤4294967296^m*((limbs n).getD m 0+4294967296*val ((limbs n).drop (m+1))):=Nat.mul_le_mul_left _ (by omega)
   omega
  ·exact hl
theorem limbs_len_mono {m n:Nat}(h:m≤n):(limbs m).length≤(limbs n).length:=
 (limbs_len m _).2 (Nat.lt_of_le_of_lt h ((limbs_len n _).1 (Nat.le_refl _)))
theorem limbs_len_le_of_ok {l:List Nat}(h:Ok l):(limbs (val l)).length≤l.length:=(limbs_len _ _).2 (val_lt h)
theorem limbs_lt_of_len {m n:Nat}(h:(limbs m).length<(limbs n).length):m<n:=by
 rcases Nat.lt_or_ge m n with h1|h1
 ·exact h1
 ·have:=limbs_len_mono h1;omega
theorem limbs_one {n:Nat}(h0:n≠0)(h:n<4294967296):limbs n=[n]:=by
 rw[limbs_pos h0,show n%4294967296=n by omega,show n/4294967296=0 by omega,limbs_zero]
/-- Two lists of one length are compared by their last limbs that differ. -/
theorem val_lt_of_drop {l m:List Nat}(hl:Ok l)(hlen:l.length=m.length){k:Nat}(hk:k<l.length)(he:l.drop (k+1)=m.drop (k+1))(h:l.getD k 0<m.getD k 0):val l<val m:=by
 have s1:=val_split l k (by omega)
 have s2:=val_split m k (by omega)
 rw[val_drop_getD] at s1 s2
 rw[he] at s1
 have b:=val_lt (hl.take k)
 rw[List.length_take,Nat.min_eq_left (by omega)] at b
 have h3:4294967296^k*(l.getD k 0+4294967296*val (m.drop (k+1)))+4294967296^k≤4294967296^k*(m.getD k 0+4294967296*val (m.drop (k+1))):=by
  have:=Nat.mul_le_mul_left (4294967296^k) (show l.getD k 0+4294967296*val (m.drop (k+1))+1≤m.getD k 0+4294967296*val (m.drop (k+1)) by omega)
  rw[Nat.mul_add _ _ 1,Nat.mul_one] at this
  exact this
 omega
end Go.Proofs.YthhbbnfnejjpiaaGreatDoor.NL
namespace Go.Proofs.YthhbbnfnejjpiaaGreatDoor.GW
open Go
open Go.RowKit
/-- A part of memory. -/
def Frag:=Nat→Option Obj
def Frag.sub (f:Frag)(w:World):Prop:=∀k o,f k=some o→w.heap[k]?=some o
def Frag.cell (f:Frag)(a:Addr):Option Value:=
 match f a.block with
 |some (.cells c _ _)=>if a.spot.isSome then none else c[a.off]?
 |_=>none
/-- Apart from the blocks named in X, what was there is as it was. -/
structure Chg (X:List Nat)(w w':World):Prop where
 os:w'.os=w.os
 tape:w'.tape=w.tape
 output:w'.output=w.output
 size:w.heap.size≤w'.heap.size
 block:∀k,k<w.heap.size→k ∉ X→w'.heap[k]?=w.heap[k]?
theorem Chg.refl (X:List Nat)(w:World):Chg X w w:=⟨rfl,rfl,rfl,Nat.le_refl _,fun _ _ _=>rfl⟩
theorem Chg.trans {X:List Nat}{a b c:World}(h:Chg X a b)(k:Chg X b c):Chg X a c:=
 ⟨k.os.trans h.os,k.tape.trans h.tape,k.output.trans h.output,Nat.le_trans h.size k.size,fun i hi hx=>(k.block i (Nat.lt_of_lt_of_le hi h.size) hx).trans (h.block i hi hx)⟩
theorem Chg.of_below {w w':World}(h:Below w.heap.size w w'):Chg [] w w':=⟨h.os,h.tape,h.output,h.size,fun k hk _=>h.block k hk⟩
theorem Chg.below {w w':World}(h:Chg [] w w'):Below w.heap.size w w':=⟨h.os,h.tape,h.output,h.size,fun k hk=>h.block k hk (by simp)⟩
abbrev Blk:=Nat×TypeId×List Value
/-- The world of a walk: X: the blocks of the caller's that may be written; M: the blocks that the call owns; I: parts that stay. -/
structure G (w0:World)(X:List Nat)(M:List Blk)(I:List Frag) where
 w:World
 chg:Chg X w0 w
 own:∀m∈M,w.heap[m.1]?=some (.cells m.2.2.toArray m.2.1 (0,0))
 may:∀m∈M,w0.heap.size≤m.1∨m.1∈X
 dist:(M.map (·.1)).Nodup
 sub:∀f∈I,f.sub w
 keep:∀f∈I,∀k o,f k=some o→(w0.heap.size≤k∨k ∉ X)∧k ∉ M.map (·.1)
section
variable {w0:World}{X:List Nat}{M:List Blk}{I:List Frag}
/-- the beginning of a walk -/
def G.start (w:World):G w [] [] []:=
 ⟨w,Chg.refl _ w,by simp,by simp,by simp,by simp,by simp⟩
/-- a part that is there, and that nobody writes -/
def G.see (g:G w0 X M I)(f:Frag)(h:f.sub g.w)(hk:∀k o,f k=some o→(w0.heap.size≤k∨k ∉ X)∧k ∉ M.map (·.1)):G w0 X M (f::I):=
 ⟨g.w,g.chg,g.own,g.may,g.dist,by intro f' hf;rcases List.mem_cons.1 hf with rfl|hf;exact h;exact g.sub f' hf,
  by intro f' hf;rcases List.mem_cons.1 hf with rfl|hf;exact hk;exact g.keep f' hf⟩
theorem G.lt (g:G w0 X M I){m:Blk}(h:m∈M):m.1<g.w.heap.size:=by
 have:=g.own m h
 rcases Nat.lt_or_ge m.1 g.w.heap.size with hlt|hge
 ·exact hlt
 ·rw[Array.getElem?_eq_none hge] at this;cases this
theorem Frag.lt {f:Frag}{w:World}(h:f.sub w){k:Nat}{o:Obj}(hk:f k=some o):k<w.heap.size:=by
 have:=h k o hk
 rcases Nat.lt_or_ge k w.heap.size with hlt|hge
 ·exact hlt
 ·rw[Array.getElem?_eq_none hge] at this;cases this
theorem Chg.alloc {X:List Nat}{a w:World}(h:Chg X a w)(o:Obj):Chg X a (w.alloc o):=
 h.trans ⟨rfl,rfl,rfl,by simp,fun k hk _=>Below.heap_alloc _ _ _ hk⟩
theorem Chg.setCell {X:List Nat}{a w:World}(h:Chg X a w){p:Addr}(hp:a.heap.size≤p.block∨p.block∈X)(u:Value):Chg X a (w.setCell p u):=
 ⟨h.os,h.tape,h.output,by have:=h.size;simpa [World.setCell] using this,fun k hk hx=>by
  rw[Below.heap_setCell _ _ _ _ (by rintro rfl;rcases hp with hp|hp;omega;exact hx hp)]
  exact h.block k hk hx⟩
theorem Frag.sub_alloc {f:Frag}{w:World}(h:f.sub w)(o:Obj):f.sub (w.alloc o):=fun k o' hk=>by
 rw[Below.heap_alloc _ _ _ (Frag.lt h hk)];exact h k o' hk
/-- a new block -/
def G.new (g : G w0 X M I) (cs : List Value) (T : TypeId) : G w0 X ((g.w.heap.size, T, cs) :: M) I :=
 ⟨g.w.alloc (.cells cs.toArray T),g.chg.alloc _,
  by
   intro m hm
   rcases List.mem_cons.1 hm with rfl|hm
   ·exact heap_alloc_new g.w _
   ·rw[Below.heap_alloc _ _ _ (g.lt hm)];exact g.own m hm,
  by
   intro m hm
   rcases List.mem_cons.1 hm with rfl|hm
   ·exact .inl g.chg.size
   ·exact g.may m hm,
  by
   rw[List.map_cons,List.nodup_cons]
   refine⟨?_,g.dist⟩
   intro hm
   obtain⟨m,hm,e⟩:=List.mem_map.1 hm
   have:=g.lt hm
   simp only at e
   omega,
  fun f hf=>Frag.sub_alloc (g.sub f hf) _,
  by
   intro f hf k o hk
   obtain⟨h1,h2⟩:=g.keep f hf k o hk
   refine⟨h1,?_⟩
   rw[List.map_cons,List.mem_cons]
   rintro(e|e)
   ·have:=Frag.lt (g.sub f hf) hk
    simp only at e
    omega
   ·exact h2 e⟩
/-- a mark on a world that is to be named anew -/
def G.mark (g:G w0 X M I):G w0 X M I:=g
theorem G.any_mark {p:World→Prop}(g:G w0 X M I)(h:∀g':G w0 X M I,p g'.w):p g.mark.w:=h _
@[go_sem] theorem G.alloc_eq (g:G w0 X M I) (cs:List Value) (T:TypeId):g.w.alloc (.cells cs.toArray T (0,0))=(g.new cs T).mark.w:=rfl
@[go_sem] theorem G.alloc_eq' (g:G w0 X M I) (n:Nat) (v:Value) (T:TypeId):g.w.alloc (.cells (Array.replicate n v) T (0,0))=(g.new (List.replicate n v) T).mark.w:=by
 rw[←List.toArray_replicate];rfl
/-- a draw -/
def G.dr (g:G w0 X M I)(n:Nat):G w0 X M I:=
 ⟨g.w.drewN n,⟨g.chg.os,g.chg.tape,g.chg.output,g.chg.size,g.chg.block⟩,g.own,g.may,g.dist,g.sub,g.keep⟩
@[go_sem] theorem G.drew_eq (g:G w0 X M I):g.w.drew=(g.dr 1).mark.w:=rfl
@[go_sem] theorem G.drewN_eq (g:G w0 X M I) (n:Nat):g.w.drewN n=(g.dr n).mark.w:=rfl
theorem set_nth {b:Nat}{T:TypeId}{cs cs':List Value}:∀ {M:List Blk} {n:Nat},M[n]?=some (b,T,cs)→(M.set n (b,T,cs')).map (·.1)=M.map (·.1):=by
 intro M
 induction M with
 |nil=>intro n h;simp at h
 |cons m M ih=>
  intro n h
  cases n with
  |zero=>simp at h;subst h;rfl
  |succ n=>simp at h;simp[ih h]
theorem mem_set {α:Type}{x a:α}:∀ {l:List α} {n:Nat},x∈l.set n a→x=a∨∃m,m≠n∧l[m]?=some x:=by
 intro l
 induction l with
 |nil=>intro n h;simp at h
 |cons y l ih=>
  intro n h
  cases n with
  |zero=>
   simp at h
   rcases h with h|h
   ·exact .inl h
   ·obtain⟨m,hm⟩:=List.getElem?_of_mem h
    exact .inr ⟨m+1,by omega,by simpa using hm⟩
  |succ n=>
   simp at h
   rcases h with h|h
   ·exact .inr ⟨0,by omega,by simp[h]⟩
   ·rcases ih h with h|⟨m,h1,h2⟩
    ·exact .inl h
    ·exact .inr ⟨m+1,by omega,by simpa using h2⟩
theorem dist_ne {M:List Blk}(hd:(M.map (·.1)).Nodup){i j:Nat}{x y:Blk}(hi:M[i]?=some x)(hj:M[j]?=some y)(hne:i≠j):x.1≠y.1:=by
 intro e
 have h1:(M.map (·.1))[i]?=some x.1:=by simp[hi]
 have h2:(M.map (·.1))[j]?=some x.1:=by simp[hj,e]
 have hl:i<(M.map (·.1)).length:=by
  rcases Nat.lt_or_ge i (M.map (·.1)).length with h|h
  ·exact h
  ·rw[List.getElem?_eq_none h] at h1;cases h1
 exact hne ((List.getElem?_inj hl hd).1 (h1.trans h2.symm))
/-- block n has become another -/
def G.turn (g : G w0 X M I) (n : Nat) {b : Nat} {T : TypeId} {cs : List Value} (hn : M[n]? = some (b, T, cs)) (cs' : List Value) (w' : World)
  (hc:Chg X w0 w') (hh:w'.heap[b]?=some (.cells cs'.toArray T (0,0))) (ho:∀k,k<g.w.heap.size→k≠b→w'.heap[k]?=g.w.heap[k]?):G w0 X (M.set n (b,T,cs')) I:=
 ⟨w',hc,
  by
   intro m hm
   rcases mem_set hm with rfl|⟨j,hj,hm⟩
   ·exact hh
   ·have hm':=List.mem_of_getElem? hm
    rw[ho _ (g.lt hm') (dist_ne g.dist hm hn hj)]
    exact g.own m hm',
  by
   intro m hm
   rcases mem_set hm with rfl|⟨j,hj,hm⟩
   ·exact g.may (b,T,cs) (List.mem_of_getElem? hn)
   ·exact g.may _ (List.mem_of_getElem? hm),
  by rw[set_nth hn];exact g.dist,
  by
   intro f hf k o hk
   have hne:k≠b:=by
    rintro rfl
    exact(g.keep f hf k o hk).2 (List.mem_map.2 ⟨_,List.mem_of_getElem? hn,rfl⟩)
   rw[ho k (Frag.lt (g.sub f hf) hk) hne]
   exact g.sub f hf k o hk,
  by rw[set_nth hn];exact g.keep⟩
def G.st (g:G w0 X M I)(n:Nat){b:Nat}{T:TypeId}{cs:List Value}(hn:M[n]?=some (b,T,cs))(i:Nat)(v:Value):G w0 X (M.set n (b,T,cs.set i v)) I:=
 g.turn n hn _ (g.w.setCell ⟨b,i,none⟩ v) (g.chg.setCell (g.may _ (List.mem_of_getElem? hn)) v)
  (by
   have:=g.own _ (List.mem_of_getElem? hn)
   simp only at this
   simp[World.setCell,Array.getElem?_modify,this])
  (fun k _ hk=>Below.heap_setCell _ _ _ _ hk)
theorem G.cell_n (g:G w0 X M I){n:Nat}{b:Nat}{T:TypeId}{cs:List Value}(hn:M[n]?=some (b,T,cs))(i:Nat):g.w.cell? ⟨b,i,none⟩=cs[i]?:=
 (cell_of_row g.w b i cs.toArray T (0,0) (g.own _ (List.mem_of_getElem? hn))).trans (by simp)
theorem G.frozen_n (g:G w0 X M I){n:Nat}{b:Nat}{T:TypeId}{cs:List Value}(hn:M[n]?=some (b,T,cs))(i:Nat):g.w.frozen? ⟨b,i,none⟩=false:=by
 have:=g.own _ (List.mem_of_getElem? hn)
 simp only at this
 simp[World.frozen?,this]
/-- a call that leaves what was there -/
def G.call (g:G w0 X M I){w1:World}(h:Below g.w.heap.size g.w w1):G w0 X M I:=
 ⟨w1,g.chg.trans ⟨h.os,h.tape,h.output,h.size,fun k hk _=>h.block k hk⟩,
  fun m hm=>(h.block _ (g.lt hm)).trans (g.own m hm),g.may,g.dist,
  fun f hf k o hk=>(h.block _ (Frag.lt (g.sub f hf) hk)).trans (g.sub f hf k o hk),g.keep⟩
theorem G.call_ex (g:G w0 X M I){w1:World}(h:Below g.w.heap.size g.w w1):∃g':G w0 X M I,w1=g'.w:=⟨g.call h,rfl⟩
/-- a call that leaves what was there, and makes a part that stays -/
theorem G.part_ex (g:G w0 X M I){w1:World}{f:Frag}(h:Below g.w.heap.size g.w w1)(hf:f.sub w1)(hn:∀k o,f k=some o→g.w.heap.size≤k):∃g':G w0 X M (f::I),w1=g'.w:=
 ⟨(g.call h).see f hf fun k o hk=>⟨.inl (Nat.le_trans g.chg.size (hn k o hk)),fun hm=>by
  obtain⟨m,hm,e⟩:=List.mem_map.1 hm
  have:=g.lt hm
  have:=hn k o hk
  omega⟩,rfl⟩
/-- a call that turns one of the blocks that the caller owns -/
theorem G.mut_ex (g:G w0 X M I)(n:Nat){b:Nat}{T:TypeId}{cs cs':List Value}{w1:World}(hn:M[n]?=some (b,T,cs))(h:Chg [b] g.w w1)(hh:w1.heap[b]?=some (.cells cs'.toArray T (0,0))):
  ∃g':G w0 X (M.set n (b,T,cs')) I,w1=g'.w:=
 ⟨g.turn n hn cs' w1 ⟨h.os.trans g.chg.os,h.tape.trans g.chg.tape,h.output.trans g.chg.output,Nat.le_trans g.chg.size h.size,fun k hk hx=>by
   rw[h.block k (Nat.lt_of_lt_of_le hk g.chg.size) (by
    intro hm
    obtain rfl:k=b:=by simpa using hm
    rcases g.may _ (List.mem_of_getElem? hn) with h1|h1
    ·simp only at h1;omega
    ·exact hx h1)]
   exact g.chg.block k hk hx⟩ hh (fun k hk hne=>h.block k hk (by simpa using hne)),rfl⟩
theorem G.below (g:G w0 [] M I):Below w0.heap.size w0 g.w:=g.chg.below
theorem G.frag_cell (g:G w0 X M I){f:Frag}(hf:f∈I){a:Addr}{v:Value}(h:f.cell a=some v):g.w.cell? a=some v:=by
 unfold Frag.cell at h
 unfold World.cell?
 cases hk:f a.block with
 |none=>rw[hk] at h;cases h
 |some o=>rw[hk] at h;rw[g.sub f hf _ _ hk];exact h
end
section
variable {w0:World}{X:List Nat}{I:List Frag}
def G.st0 {b:Nat}{T:TypeId}{cs:List Value}{M:List Blk}(g:G w0 X ((b,T,cs)::M) I)(i:Nat)(v:Value):G w0 X ((b,T,cs.set i v)::M) I:=g.st 0 (cs:=cs) rfl i v
@[go_sem] theorem G.cell0 {b:Nat} {T:TypeId} {cs:List Value} {M:List Blk} (g:G w0 X ((b,T,cs)::M) I) (i:Nat):g.w.cell? ⟨b,i,none⟩=cs[i]?:=g.cell_n (n:=0) rfl i
@[go_sem] theorem G.frozen0 {b:Nat} {T:TypeId} {cs:List Value} {M:List Blk} (g:G w0 X ((b,T,cs)::M) I) (i:Nat):g.w.frozen? ⟨b,i,none⟩=false:=g.frozen_n (n:=0) rfl i
@[go_sem] theorem G.set0 {b:Nat} {T:TypeId} {cs:List Value} {M:List Blk} (g:G w0 X ((b,T,cs)::M) I) (i:Nat) (v:Value):g.w.setCell ⟨b,i,none⟩ v=(g.st0 i v).mark.w:=rfl
theorem G.blk0 {b:Nat}{T:TypeId}{cs:List Value}{M:List Blk}(g:G w0 X ((b,T,cs)::M) I):g.w.heap[b]?=some (.cells cs.toArray T (0,0)):=g.own (b,T,cs) (List.mem_of_getElem? (i:=0) rfl)
theorem G.mut0 {b:Nat}{T:TypeId}{cs:List Value}{M:List Blk}(g:G w0 X ((b,T,cs)::M) I){cs':List Value}{w1:World}(h:Chg [b] g.w w1)(hh:w1.heap[b]?=some (.cells cs'.toArray T (0,0))):∃g':G w0 X ((b,T,cs')::M) I,w1=g'.w:=g.mut_ex 0 (cs:=cs) rfl h hh
def G.st1 {x0:Blk}{b:Nat}{T:TypeId}{cs:List Value}{M:List Blk}(g:G w0 X (x0::(b,T,cs)::M) I)(i:Nat)(v:Value):G w0 X (x0::(b,T,cs.set i v)::M) I:=g.st 1 (cs:=cs) rfl i v
@[go_sem] theorem G.cell1 {x0:Blk} {b:Nat} {T:TypeId} {cs:List Value} {M:List Blk} (g:G w0 X (x0::(b,T,cs)::M) I) (i:Nat):g.w.cell? ⟨b,i,none⟩=cs[i]?:=g.cell_n (n:=1) rfl i
@[go_sem] theorem G.frozen1 {x0:Blk} {b:Nat} {T:TypeId} {cs:List Value} {M:List Blk} (g:G w0 X (x0::(b,T,cs)::M) I) (i:Nat):g.w.frozen? ⟨b,i,none⟩=false:=g.frozen_n (n:=1) rfl i
@[go_sem] theorem G.set1 {x0:Blk} {b:Nat} {T:TypeId} {cs:List Value} {M:List Blk} (g:G w0 X (x0::(b,T,cs)::M) I) (i:Nat) (v:Value):g.w.setCell ⟨b,i,none⟩ v=(g.st1 i v).mark.w:=rfl
theorem G.blk1 {x0:Blk}{b:Nat}{T:TypeId}{cs:List Value}{M:List Blk}(g:G w0 X (x0::(b,T,cs)::M) I):g.w.heap[b]?=some (.cells cs.toArray T (0,0)):=g.own (b,T,cs) (List.mem_of_getElem? (i:=1) rfl)
theorem G.mut1 {x0:Blk}{b:Nat}{T:TypeId}{cs:List Value}{M:List Blk}(g:G w0 X (x0::(b,T,cs)::M) I){cs':List Value}{w1:World}(h:Chg [b] g.w w1)(hh:w1.heap[b]?=some (.cells cs'.toArray T (0,0))):∃g':G w0 X (x0::(b,T,cs')::M) I,w1=g'.w:=g.mut_ex 1 (cs:=cs) rfl h hh
def G.st2 {x0 x1:Blk}{b:Nat}{T:TypeId}{cs:List Value}{M:List Blk}(g:G w0 X (x0::x1::(b,T,cs)::M) I)(i:Nat)(v:Value):G w0 X (x0::x1::(b,T,cs.set i v)::M) I:=g.st 2 (cs:=cs) rfl i v
@[go_sem] theorem G.cell2 {x0 x1:Blk} {b:Nat} {T:TypeId} {cs:List Value} {M:List Blk} (g:G w0 X (x0::x1::(b,T,cs)::M) I) (i:Nat):g.w.cell? ⟨b,i,none⟩=cs[i]?:=g.cell_n (n:=2) rfl i
@[go_sem] theorem G.frozen2 {x0 x1:Blk} {b:Nat} {T:TypeId} {cs:List Value} {M:List Blk} (g:G w0 X (x0::x1::(b,T,cs)::M) I) (i:Nat):g.w.frozen? ⟨b,i,none⟩=false:=g.frozen_n (n:=2) rfl i
@[go_sem] theorem G.set2 {x0 x1:Blk} {b:Nat} {T:TypeId} {cs:List Value} {M:List Blk} (g:G w0 X (x0::x1::(b,T,cs)::M) I) (i:Nat) (v:Value):g.w.setCell ⟨b,i,none⟩ v=(g.st2 i v).mark.w:=rfl
theorem G.blk2 {x0 x1:Blk}{b:Nat}{T:TypeId}{cs:List Value}{M:List Blk}(g:G w0 X (x0::x1::(b,T,cs)::M) I):g.w.heap[b]?=some (.cells cs.toArray T (0,0)):=g.own (b,T,cs) (List.mem_of_getElem? (i:=2) rfl)
theorem G.mut2 {x0 x1:Blk}{b:Nat}{T:TypeId}{cs:List Value}{M:List Blk}(g:G w0 X (x0::x1::(b,T,cs)::M) I){cs':List Value}{w1:World}(h:Chg [b] g.w w1)(hh:w1.heap[b]?=some (.cells cs'.toArray T (0,0))):∃g':G w0 X (x0::x1::(b,T,cs')::M) I,w1=g'.w:=g.mut_ex 2 (cs:=cs) rfl h hh
def G.st3 {x0 x1 x2:Blk}{b:Nat}{T:TypeId}{cs:List Value}{M:List Blk}(g:G w0 X (x0::x1::x2::(b,T,cs)::M) I)(i:Nat)(v:Value):G w0 X (x0::x1::x2::(b,T,cs.set i v)::M) I:=g.st 3 (cs:=cs) rfl i v
@[go_sem] theorem G.cell3 {x0 x1 x2:Blk} {b:Nat} {T:TypeId} {cs:List Value} {M:List Blk} (g:G w0 X (x0::x1::x2::(b,T,cs)::M) I) (i:Nat):g.w.cell? ⟨b,i,none⟩=cs[i]?:=g.cell_n (n:=3) rfl i
@[go_sem] theorem G.frozen3 {x0 x1 x2:Blk} {b:Nat} {T:TypeId} {cs:List Value} {M:List Blk} (g:G w0 X (x0::x1::x2::(b,T,cs)::M) I) (i:Nat):g.w.frozen? ⟨b,i,none⟩=false:=g.frozen_n (n:=3) rfl i
@[go_sem] theorem G.set3 {x0 x1 x2:Blk} {b:Nat} {T:TypeId} {cs:List Value} {M:List Blk} (g:G w0 X (x0::x1::x2::(b,T,cs)::M) I) (i:Nat) (v:Value):g.w.setCell ⟨b,i,none⟩ v=(g.st3 i v).mark.w:=rfl
theorem G.blk3 {x0 x1 x2:Blk}{b:Nat}{T:TypeId}{cs:List Value}{M:List Blk}(g:G w0 X (x0::x1::x2::(b,T,cs)::M) I):g.w.heap[b]?=some (.cells cs.toArray T (0,0)):=g.own (b,T,cs) (List.mem_of_getElem? (i:=3) rfl)
theorem G.mut3 {x0 x1 x2:Blk}{b:Nat}{T:TypeId}{cs:List Value}{M:List Blk}(g:G w0 X (x0::x1::x2::(b,T,cs)::M) I){cs':List Value}{w1:World}(h:Chg [b] g.w w1)(hh:w1.heap[b]?=some (.cells cs'.toArray T (0,0))):∃g':G w0 X (x0::x1::x2::(b,T,cs')::M) I,w1=g'.w:=g.mut_ex 3 (cs:=cs) rfl h hh
def G.st4 {x0 x1 x2 x3:Blk}{b:Nat}{T:TypeId}{cs:List Value}{M:List Blk}(g:G w0 X (x0::x1::x2::x3::(b,T,cs)::M) I)(i:Nat)(v:Value):G w0 X (x0::x1::x2::x3::(b,T,cs.set i v)::M) I:=g.st 4 (cs:=cs) rfl i v
@[go_sem] theorem G.cell4 {x0 x1 x2 x3:Blk} {b:Nat} {T:TypeId} {cs:List Value} {M:List Blk} (g:G w0 X (x0::x1::x2::x3::(b,T,cs)::M) I) (i:Nat):g.w.cell? ⟨b,i,none⟩=cs[i]?:=g.cell_n (n:=4) rfl i
@[go_sem] theorem G.frozen4 {x0 x1 x2 x3:Blk} {b:Nat} {T:TypeId} {cs:List Value} {M:List Blk} (g:G w0 X (x0::x1::x2::x3::(b,T,cs)::M) I) (i:Nat):g.w.frozen? ⟨b,i,none⟩=false:=g.frozen_n (n:=4) rfl i
@[go_sem] theorem G.set4 {x0 x1 x2 x3:Blk} {b:Nat} {T:TypeId} {cs:List Value} {M:List Blk} (g:G w0 X (x0::x1::x2::x3::(b,T,cs)::M) I) (i:Nat) (v:Value):g.w.setCell ⟨b,i,none⟩ v=(g.st4 i v).mark.w:=rfl
theorem G.blk4 {x0 x1 x2 x3:Blk}{b:Nat}{T:TypeId}{cs:List Value}{M:List Blk}(g:G w0 X (x0::x1::x2::x3::(b,T,cs)::M) I):g.w.heap[b]?=some (.cells cs.toArray T (0,0)):=g.own (b,T,cs) (List.mem_of_getElem? (i:=4) rfl)
theorem G.mut4 {x0 x1 x2 x3:Blk}{b:Nat}{T:TypeId}{cs:List Value}{M:List Blk}(g:G w0 X (x0::x1::x2::x3::(b,T,cs)::M) I){cs':List Value}{w1:World}(h:Chg [b] g.w w1)(hh:w1.heap[b]?=some (.cells cs'.toArray T (0,0))):∃g':G w0 X (x0::x1::x2::x3::(b,T,cs')::M) I,w1=g'.w:=g.mut_ex 4 (cs:=cs) rfl h hh
def G.st5 {x0 x1 x2 x3 x4:Blk}{b:Nat}{T:TypeId}{cs:List Value}{M:List Blk}(g:G w0 X (x0::x1::x2::x3::x4::(b,T,cs)::M) I)(i:Nat)(v:Value):G w0 X (x0::x1::x2::x3::x4::(b,T,cs.set i v)::M) I:=g.st 5 (cs:=cs) rfl i v
@[go_sem] theorem G.cell5 {x0 x1 x2 x3 x4:Blk} {b:Nat} {T:TypeId} {cs:List Value} {M:List Blk} (g:G w0 X (x0::x1::x2::x3::x4::(b,T,cs)::M) I) (i:Nat):g.w.cell? ⟨b,i,none⟩=cs[i]?:=g.cell_n (n:=5) rfl i
@[go_sem] theorem G.frozen5 {x0 x1 x2 x3 x4:Blk} {b:Nat} {T:TypeId} {cs:List Value} {M:List Blk} (g:G w0 X (x0::x1::x2::x3::x4::(b,T,cs)::M) I) (i:Nat):g.w.frozen? ⟨b,i,none⟩=false:=g.frozen_n (n:=5) rfl i
@[go_sem] theorem G.set5 {x0 x1 x2 x3 x4:Blk} {b:Nat} {T:TypeId} {cs:List Value} {M:List Blk} (g:G w0 X (x0::x1::x2::x3::x4::(b,T,cs)::M) I) (i:Nat) (v:Value):g.w.setCell ⟨b,i,none⟩ v=(g.st5 i v).mark.w:=rfl
theorem G.blk5 {x0 x1 x2 x3 x4:Blk}{b:Nat}{T:TypeId}{cs:List Value}{M:List Blk}(g:G w0 X (x0::x1::x2::x3::x4::(b,T,cs)::M) I):g.w.heap[b]?=some (.cells cs.toArray T (0,0)):=g.own (b,T,cs) (List.mem_of_getElem? (i:=5) rfl)
theorem G.mut5 {x0 x1 x2 x3 x4:Blk}{b:Nat}{T:TypeId}{cs:List Value}{M:List Blk}(g:G w0 X (x0::x1::x2::x3::x4::(b,T,cs)::M) I){cs':List Value}{w1:World}(h:Chg [b] g.w w1)(hh:w1.heap[b]?=some (.cells cs'.toArray T (0,0))):∃g':G w0 X (x0::x1::x2::x3::x4::(b,T,cs')::M) I,w1=g'.w:=g.mut_ex 5 (cs:=cs) rfl h hh
def G.st6 {x0 x1 x2 x3 x4 x5:Blk}{b:Nat}{T:TypeId}{cs:List Value}{M:List Blk}(g:G w0 X (x0::x1::x2::x3::x4::x5::(b,T,cs)::M) I)(i:Nat)(v:Value):G w0 X (x0::x1::x2::x3::x4::x5::(b,T,cs.set i v)::M) I:=g.st 6 (cs:=cs) rfl i v
@[go_sem] theorem G.cell6 {x0 x1 x2 x3 x4 x5:Blk} {b:Nat} {T:TypeId} {cs:List Value} {M:List Blk} (g:G w0 X (x0::x1::x2::x3::x4::x5::(b,T,cs)::M) I) (i:Nat):g.w.cell? ⟨b,i,none⟩=cs[i]?:=g.cell_n (n:=6) rfl i
@[go_sem] theorem G.frozen6 {x0 x1 x2 x3 x4 x5:Blk} {b:Nat} {T:TypeId} {cs:List Value} {M:List Blk} (g:G w0 X (x0::x1::x2::x3::x4::x5::(b,T,cs)::M) I) (i:Nat):g.w.frozen? ⟨b,i,none⟩=false:=g.frozen_n (n:=6) rfl i
@[go_sem] theorem G.set6 {x0 x1 x2 x3 x4 x5:Blk} {b:Nat} {T:TypeId} {cs:List Value} {M:List Blk} (g:G w0 X (x0::x1::x2::x3::x4::x5::(b,T,cs)::M) I) (i:Nat) (v:Value):g.w.setCell ⟨b,i,none⟩ v=(g.st6 i v).mark.w:=rfl
theorem G.blk6 {x0 x1 x2 x3 x4 x5:Blk}{b:Nat}{T:TypeId}{cs:List Value}{M:List Blk}(g:G w0 X (x0::x1::x2::x3::x4::x5::(b,T,cs)::M) I):g.w.heap[b]?=some (.cells cs.toArray T (0,0)):=g.own (b,T,cs) (List.mem_of_getElem? (i:=6) rfl)
theorem G.mut6 {x0 x1 x2 x3 x4 x5:Blk}{b:Nat}{T:TypeId}{cs:List Value}{M:List Blk}(g:G w0 X (x0::x1::x2::x3::x4::x5::(b,T,cs)::M) I){cs':List Value}{w1:World}(h:Chg [b] g.w w1)(hh:w1.heap[b]?=some (.cells cs'.toArray T (0,0))):∃g':G w0 X (x0::x1::x2::x3::x4::x5::(b,T,cs')::M) I,w1=g'.w:=g.mut_ex 6 (cs:=cs) rfl h hh
def G.st7 {x0 x1 x2 x3 x4 x5 x6:Blk}{b:Nat}{T:TypeId}{cs:List Value}{M:List Blk}(g:G w0 X (x0::x1::x2::x3::x4::x5::x6::(b,T,cs)::M) I)(i:Nat)(v:Value):G w0 X (x0::x1::x2::x3::x4::x5::x6::(b,T,cs.set i v)::M) I:=g.st 7 (cs:=cs) rfl i v
@[go_sem] theorem G.cell7 {x0 x1 x2 x3 x4 x5 x6:Blk} {b:Nat} {T:TypeId} {cs:List Value} {M:List Blk} (g:G w0 X (x0::x1::x2::x3::x4::x5::x6::(b,T,cs)::M) I) (i:Nat):g.w.cell? ⟨b,i,none⟩=cs[i]?:=g.cell_n (n:=7) rfl i
@[go_sem] theorem G.frozen7 {x0 x1 x2 x3 x4 x5 x6:Blk} {b:Nat} {T:TypeId} {cs:List Value} {M:List Blk} (g:G w0 X (x0::x1::x2::x3::x4::x5::x6::(b,T,cs)::M) I) (i:Nat):g.w.frozen? ⟨b,i,none⟩=false:=g.frozen_n (n:=7) rfl i
@[go_sem] theorem G.set7 {x0 x1 x2 x3 x4 x5 x6:Blk} {b:Nat} {T:TypeId} {cs:List Value} {M:List Blk} (g:G w0 X (x0::x1::x2::x3::x4::x5::x6::(b,T,cs)::M) I) (i:Nat) (v:Value):g.w.setCell ⟨b,i,none⟩ v=(g.st7 i v).mark.w:=rfl
theorem G.blk7 {x0 x1 x2 x3 x4 x5 x6:Blk}{b:Nat}{T:TypeId}{cs:List Value}{M:List Blk}(g:G w0 X (x0::x1::x2::x3::x4::x5::x6::(b,T,cs)::M) I):g.w.heap[b]?=some (.cells cs.toArray T (0,0)):=g.own (b,T,cs) (List.mem_of_getElem? (i:=7) rfl)
theorem G.mut7 {x0 x1 x2 x3 x4 x5 x6:Blk}{b:Nat}{T:TypeId}{cs:List Value}{M:List Blk}(g:G w0 X (x0::x1::x2::x3::x4::x5::x6::(b,T,cs)::M) I){cs':List Value}{w1:World}(h:Chg [b] g.w w1)(hh:w1.heap[b]?=some (.cells cs'.toArray T (0,0))):∃g':G w0 X (x0::x1::x2::x3::x4::x5::x6::(b,T,cs')::M) I,w1=g'.w:=g.mut_ex 7 (cs:=cs) rfl h hh
def G.st8 {x0 x1 x2 x3 x4 x5 x6 x7:Blk}{b:Nat}{T:TypeId}{cs:List Value}{M:List Blk}(g:G w0 X (x0::x1::x2::x3::x4::x5::x6::x7::(b,T,cs)::M) I)(i:Nat)(v:Value):G w0 X (x0::x1::x2::x3::x4::x5::x6::x7::(b,T,cs.set i v)::M) I:=g.st 8 (cs:=cs) rfl i v
@[go_sem] theorem G.cell8 {x0 x1 x2 x3 x4 x5 x6 x7:Blk} {b:Nat} {T:TypeId} {cs:List Value} {M:List Blk} (g:G w0 X (x0::x1::x2::x3::x4::x5::x6::x7::(b,T,cs)::M) I) (i:Nat):g.w.cell? ⟨b,i,none⟩=cs[i]?:=g.cell_n (n:=8) rfl i
@[go_sem] theorem G.frozen8 {x0 x1 x2 x3 x4 x5 x6 x7:Blk} {b:Nat} {T:TypeId} {cs:List Value} {M:List Blk} (g:G w0 X (x0::x1::x2::x3::x4::x5::x6::x7::(b,T,cs)::M) I) (i:Nat):g.w.frozen? ⟨b,i,none⟩=false:=g.frozen_n (n:=8) rfl i
@[go_sem] theorem G.set8 {x0 x1 x2 x3 x4 x5 x6 x7:Blk} {b:Nat} {T:TypeId} {cs:List Value} {M:List Blk} (g:G w0 X (x0::x1::x2::x3::x4::x5::x6::x7::(b,T,cs)::M) I) (i:Nat) (v:Value):g.w.setCell ⟨b,i,none⟩ v=(g.st8 i v).mark.w:=rfl
theorem G.blk8 {x0 x1 x2 x3 x4 x5 x6 x7:Blk}{b:Nat}{T:TypeId}{cs:List Value}{M:List Blk}(g:G w0 X (x0::x1::x2::x3::x4::x5::x6::x7::(b,T,cs)::M) I):g.w.heap[b]?=some (.cells cs.toArray T (0,0)):=g.own (b,T,cs) (List.mem_of_getElem? (i:=8) rfl)
theorem G.mut8 {x0 x1 x2 x3 x4 x5 x6 x7:Blk}{b:Nat}{T:TypeId}{cs:List Value}{M:List Blk}(g:G w0 X (x0::x1::x2::x3::x4::x5::x6::x7::(b,T,cs)::M) I){cs':List Value}{w1:World}(h:Chg [b] g.w w1)(hh:w1.heap[b]?=some (.cells cs'.toArray T (0,0))):∃g':G w0 X (x0::x1::x2::x3::x4::x5::x6::x7::(b,T,cs')::M) I,w1=g'.w:=g.mut_ex 8 (cs:=cs) rfl h hh
end
/-- Some of the blocks are forgotten. -/
theorem G.less {w0:World}{X:List Nat}{M M':List Blk}{I:List Frag}(g:G w0 X M I)(h:M'.Sublist M):∃g':G w0 X M' I,g.w=g'.w:=
 ⟨⟨g.w,g.chg,fun m hm=>g.own m (h.subset hm),fun m hm=>g.may m (h.subset hm),g.dist.sublist (h.map _),g.sub,fun f hf k o hk=>
  ⟨(g.keep f hf k o hk).1,fun hm=>(g.keep f hf k o hk).2 ((h.map _).subset hm)⟩⟩,rfl⟩
@[reducible] def HeldN:List Bool→List Blk→World→Prop
 |true::bs,(b,_,cs)::M,w=>(∀i,w.cell? ⟨b,i,none⟩=cs[i]?)∧HeldN bs M w
 |false::bs,_::M,w=>HeldN bs M w
 |_,_,_=>True
@[reducible] def G.heldN {w0:World} {X:List Nat} {M:List Blk} {I:List Frag} (_g:G w0 X M I) (bs:List Bool):World→Prop:=fun w=>HeldN bs M w
theorem calls_g {P:Program}{f:FuncId}{args:Array Value}{w:World}{R:Ending→World→Prop}(h:∀g:G w [] [] [],Calls P f args g.w R):Calls P f args w R:=h (G.start w)
/-- short names for lemmas that the walks name often -/
theorem yi {α:Type}(a b:α)(as:List α):(a::as).set 0 b=b::as:=rfl
theorem yj {α:Type}(a b:α)(as:List α)(n:Nat):(a::as).set (n+1) b=a::as.set n b:=rfl
theorem yk:type_of% @List.getElem_toArray:= @List.getElem_toArray
theorem yl:type_of% @List.getElem_cons_zero:= @List.getElem_cons_zero
theorem yn:type_of% @List.getElem_cons_succ:= @List.getElem_cons_succ
theorem yo:type_of% @List.setIfInBounds_toArray:= @List.setIfInBounds_toArray
theorem yq:type_of% @G.any_mark:= @G.any_mark
section
variable {P:Program}{ops:Array Oper}{Q:Exit→Act→World→Prop}{md:Region.Mode}{S:World→Prop}
/-- Operations of a drawn region that are taken one after the other: their numbers. -/
def Tk (_is:List Nat)(p:Prop):Prop:=p
theorem tk0 (is:List Nat){p:Prop}(h:Tk is p):p:=h
theorem tkn {p:Prop}(h:p):Tk [] p:=h
/-- the next one is taken -/
theorem tkc {i:Nat}{is:List Nat}{oi:Oper}{v:Value}{fuel:Nat}{listed:Array Bool}{a:Act}{w:World}(hi:ops[i]?=some oi)
  (hb:(Region.noSelect ops&&(Region.free md ops listed i&&(Region.ready md ops listed).contains i))=true)
  (hQ:∀c a w,Q (.panic c) (a.put oi.dst v) w→Q (.panic c) a w) (hw:Region.wanted oi (yielded ops a.tmps)=true) (hS:S w)
  (hy:∀w,S w→(execOp a.eval oi).run P w=.ok (.value v) w)
  (h:Tk is (wpAnyH P md ops Q S fuel (listed.setIfInBounds i true) (a.put oi.dst v) w)):Tk (i::is) (wpAnyH P md ops Q S (fuel+1) listed a w):=by
 simp only[Bool.and_eq_true] at hb
 exact wpAnyH_take hi hb.1 hb.2.1 hb.2.2 hQ (.inl ⟨hw,hy⟩) hS h
end
section
variable {w0:World}{X:List Nat}{M:List Blk}{I:List Frag}
/-- a call that makes a block that its caller owns from then on -/
theorem G.own_ex (g:G w0 X M I){w1:World}{b:Nat}{T:TypeId}{cs:List Value}(h:Below g.w.heap.size g.w w1)(hb:g.w.heap.size≤b)(hh:w1.heap[b]?=some (.cells cs.toArray T (0,0))):
  ∃g':G w0 X ((b,T,cs)::M) I,w1=g'.w:=by
 refine⟨⟨w1,(g.call h).chg,?_,?_,?_,(g.call h).sub,?_⟩,rfl⟩
 ·intro m hm
  rcases List.mem_cons.1 hm with rfl|hm
  ·exact hh
  ·exact(g.call h).own m hm
 ·intro m hm
  rcases List.mem_cons.1 hm with rfl|hm
  ·exact .inl (Nat.le_trans g.chg.size hb)
  ·exact g.may m hm
 ·rw[List.map_cons,List.nodup_cons]
  refine⟨?_,g.dist⟩
  intro hm
  obtain⟨m,hm,e⟩:=List.mem_map.1 hm
  have:=g.lt hm
  simp only at e
  omega
 ·intro f hf k o hk
  obtain⟨h1,h2⟩:=g.keep f hf k o hk
  refine⟨h1,?_⟩
  rw[List.map_cons,List.mem_cons]
  rintro(e|e)
  ·have:=Frag.lt (g.sub f hf) hk
   simp only at e
   omega
  ·exact h2 e
theorem G.as {M':List Blk}(g:G w0 X M I)(h:M=M'):∃g':G w0 X M' I,g.w=g'.w:=by subst h;exact⟨g,rfl⟩
/-- the blocks that the call owns were not there when it began -/
theorem G.fresh (g:G w0 [] M I){m:Blk}(h:m∈M):w0.heap.size≤m.1:=by
 rcases g.may m h with h|h
 ·exact h
 ·cases h
end
end Go.Proofs.YthhbbnfnejjpiaaGreatDoor.GW
namespace Go.Proofs.YthhbbnfnejjpiaaGreatDoor.NL
open Go
theorem set_zeros (pre:List Nat)(n:Nat)(x:Nat):(pre++List.replicate (n+1) 0).set pre.length x=(pre++[x])++List.replicate n 0:=by
 rw[List.replicate_succ,List.set_append_right _ _ (Nat.le_refl _),Nat.sub_self,List.set_cons_zero,List.append_assoc];rfl
theorem set_zeros' {pre:List Nat}{k n:Nat}(hk:pre.length=k)(hn:k<n)(x:Nat):(pre++List.replicate (n-k) 0).set k x=(pre++[x])++List.replicate (n-(k+1)) 0:=by
 subst hk
 rw[show n-pre.length=(n-(pre.length+1))+1 by omega,set_zeros]
theorem pow_split (k s:Nat):4294967296^k*(s%4294967296)+4294967296^(k+1)*(s/4294967296)=4294967296^k*s:=by
 have h:=Nat.mod_add_div s 4294967296
 rw[Nat.pow_succ,Nat.mul_assoc,←Nat.mul_add,h]
theorem add_step {pre l1 l2:List Nat}{k c:Nat}(hk:pre.length=k)(h:val pre+4294967296^k*c=val (l1.take k)+val (l2.take k)):
  val (pre++[(l1.getD k 0+l2.getD k 0+c)%4294967296])+4294967296^(k+1)*((l1.getD k 0+l2.getD k 0+c)/4294967296)=val (l1.take (k+1))+val (l2.take (k+1)):=by
 rw[val_snoc,hk,val_take_getD,val_take_getD]
 have:=pow_split k (l1.getD k 0+l2.getD k 0+c)
 rw[Nat.mul_add _ (l1.getD k 0+l2.getD k 0),Nat.mul_add] at this
 generalize 4294967296^(k+1)*((l1.getD k 0+l2.getD k 0+c)/4294967296)=a at*
 generalize 4294967296^k*((l1.getD k 0+l2.getD k 0+c)%4294967296)=b at*
 generalize 4294967296^k*c=d at*
 generalize 4294967296^k*l1.getD k 0=e at*
 generalize 4294967296^k*l2.getD k 0=f at*
 omega
theorem add_end' {p a b P Q c q1 q2:Nat}(h:p+Q*c=a+b)(b1:a<q1)(b2:b<q2)(p1:q1≤P)(p2:q2≤P)(hQ:P+P≤Q):p=a+b∧c=0:=by
 have hc:c=0:=by
  rcases Nat.eq_zero_or_pos c with hc|hc
  ·exact hc
  ·have:=Nat.le_mul_of_pos_right Q hc
   omega
 subst hc
 exact⟨by omega,rfl⟩
/-- the sum is whole when all limbs are done -/
theorem add_end {pre l1 l2:List Nat}{n c:Nat}(o1:Ok l1)(o2:Ok l2)(h1:l1.length<n)(h2:l2.length<n)(h:val pre+4294967296^n*c=val (l1.take n)+val (l2.take n)):val pre=val l1+val l2∧c=0:=by
 rw[val_take_all (Nat.le_of_lt h1),val_take_all (Nat.le_of_lt h2)] at h
 have b1:=val_lt o1
 have b2:=val_lt o2
 obtain⟨m,rfl⟩:∃m,n=m+1:=⟨n-1,by omega⟩
 have p1:4294967296^l1.length≤4294967296^m:=Nat.pow_le_pow_right (by decide) (by omega)
 have p2:4294967296^l2.length≤4294967296^m:=Nat.pow_le_pow_right (by decide) (by omega)
 have hQ:4294967296^m+4294967296^m≤4294967296^(m+1):=by
  rw[Nat.pow_succ]
  generalize 4294967296^m=P
  omega
 exact add_end' h b1 b2 p1 p2 hQ
/-- what is borrowed -/
def brw (x y c:Nat):Nat:=if x<y+c then 1 else 0
theorem brw_le (x y c:Nat):brw x y c≤1:=by unfold brw;split<;>omega
theorem brw_eq (x y c:Nat)(hx:x<4294967296)(hy:y<4294967296)(hc:c≤1):(x+4294967296-y-c)%4294967296+y+c=x+4294967296*brw x y c:=by unfold brw;split<;>omega
theorem sub_step {pre l1 l2:List Nat}{k c:Nat}(o1:Ok l1)(o2:Ok l2)(hc:c≤1)(hk:pre.length=k)(h:val pre+val (l2.take k)=val (l1.take k)+4294967296^k*c):
  val (pre++[(l1.getD k 0+4294967296-l2.getD k 0-c)%4294967296])+val (l2.take (k+1))=val (l1.take (k+1))+4294967296^(k+1)*brw (l1.getD k 0) (l2.getD k 0) c:=by
 rw[val_snoc,hk,val_take_getD,val_take_getD]
 have e:=brw_eq (l1.getD k 0) (l2.getD k 0) c (o1.getD k) (o2.getD k) hc
 have:=congrArg (4294967296^k* ·) e
 simp only[Nat.mul_add,←Nat.mul_assoc] at this
 rw[Nat.pow_succ]
 omega
theorem sub_end {pre l1 l2:List Nat}{n c:Nat}(ok:Ok pre)(hp:pre.length=n)(h1:l1.length≤n)(h2:l2.length≤n)(hle:val l2≤val l1)(h:val pre+val (l2.take n)=val (l1.take n)+4294967296^n*c):val pre=val l1-val l2∧c=0:=by
 rw[val_take_all h1,val_take_all h2] at h
 have b:=val_lt ok
 rw[hp] at b
 have hc:c=0:=by
  rcases Nat.eq_zero_or_pos c with hc|hc
  ·exact hc
  ·have:=Nat.mul_le_mul_left (4294967296^n) hc
   omega
 subst hc
 exact⟨by omega,rfl⟩
theorem val_set {l:List Nat}{k:Nat}(hk:k<l.length)(x:Nat):val (l.set k x)+4294967296^k*l.getD k 0=val l+4294967296^k*x:=by
 induction l generalizing k with
 |nil=>simp at hk
 |cons y l ih=>
  cases k with
  |zero=>simp[val];omega
  |succ k=>
   have:=ih (k:=k) (by simpa using hk)
   simp only[List.set_cons_succ,val,List.getD_cons_succ]
   have h2:=congrArg (4294967296* ·) this
   simp only[Nat.mul_add,←Nat.mul_assoc] at h2
   rw[Nat.pow_succ,Nat.mul_comm (4294967296^k) 4294967296]
   omega
theorem limbs_prefix {l:List Nat}(h:Ok l):l.take (limbs (val l)).length=limbs (val l):=by
 induction l with
 |nil=>simp[val,limbs_zero]
 |cons x l ih=>
  by_cases h0:val (x::l)=0
  ·rw[h0,limbs_zero];rfl
  ·have hx:=h.head
   rw[limbs_pos h0,val,show(x+4294967296*val l)%4294967296=x by omega,show(x+4294967296*val l)/4294967296=val l by omega,List.length_cons,List.take_succ_cons,ih h.tail]
theorem mul_carry {x y z c:Nat}(hx:x<4294967296)(hy:y<4294967296)(hz:z<4294967296)(hc:c<4294967296):(x*y+z+c)/4294967296<4294967296:=by
 have:x*y≤4294967295*4294967295:=Nat.mul_le_mul (by omega) (by omega)
 omega
theorem mul_step {out l2:List Nat}{k j c x V:Nat}(hj:k+j<out.length)(h:val out+4294967296^(k+j)*c=V+4294967296^k*(x*val (l2.take j))):
  val (out.set (k+j) ((x*l2.getD j 0+out.getD (k+j) 0+c)%4294967296))+4294967296^(k+(j+1))*((x*l2.getD j 0+out.getD (k+j) 0+c)/4294967296)=V+4294967296^k*(x*val (l2.take (j+1))):=by
 have s:=val_set hj ((x*l2.getD j 0+out.getD (k+j) 0+c)%4294967296)
 have p:=pow_split (k+j) (x*l2.getD j 0+out.getD (k+j) 0+c)
 rw[Nat.mul_add _ (x*l2.getD j 0+out.getD (k+j) 0),Nat.mul_add] at p
 rw[val_take_getD,Nat.mul_add x,Nat.mul_add (4294967296^k),←Nat.add_assoc k j 1]
 have e:4294967296^k*(x*(4294967296^j*l2.getD j 0))=4294967296^(k+j)*(x*l2.getD j 0):=by
  rw[Nat.pow_add]
  ac_rfl
 rw[e]
 generalize 4294967296^(k+j+1)*((x*l2.getD j 0+out.getD (k+j) 0+c)/4294967296)=a1 at*
 generalize val (out.set (k+j) ((x*l2.getD j 0+out.getD (k+j) 0+c)%4294967296))=a2 at*
 generalize 4294967296^(k+j)*((x*l2.getD j 0+out.getD (k+j) 0+c)%4294967296)=a3 at*
 generalize 4294967296^(k+j)*(x*l2.getD j 0)=a4 at*
 generalize 4294967296^(k+j)*out.getD (k+j) 0=a5 at*
 generalize 4294967296^(k+j)*c=a6 at*
 generalize 4294967296^k*(x*val (l2.take j))=a7 at*
 omega
theorem mul_round {out l1 l2:List Nat}{k c:Nat}(hk:k+l2.length<out.length)(hz:out.getD (k+l2.length) 0=0)(h:val out+4294967296^(k+l2.length)*c=val (l1.take k)*val l2+4294967296^k*(l1.getD k 0*val (l2.take l2.length))):
  val (out.set (k+l2.length) c)=val (l1.take (k+1))*val l2:=by
 have s:=val_set hk c
 rw[hz,Nat.mul_zero,Nat.add_zero] at s
 rw[s,h,val_take_getD,List.take_length,Nat.add_mul,Nat.mul_assoc]
theorem getD_set_ne {l:List Nat}{i j x:Nat}(h:i≠j):(l.set i x).getD j 0=l.getD j 0:=by
 rw[List.getD_eq_getElem?_getD,List.getD_eq_getElem?_getD,List.getElem?_set_ne h]
end Go.Proofs.YthhbbnfnejjpiaaGreatDoor.NL
namespace Go.Proofs.YthhbbnfnejjpiaaGreatDoor.GW
open Go
open Go.RowKit NL
/-- limbs as cells -/
def u32s (l:List Nat):List Value:=l.map fun x:Nat=> .int .u32 (x:Int)
theorem u32s_len (l:List Nat):(u32s l).length=l.length:=by simp[u32s]
theorem u32s_get (l:List Nat)(j:Nat):(u32s l)[j]?=(l[j]?).map fun x:Nat=>Value.int .u32 (x:Int):=by simp[u32s]
theorem u32s_getD {l:List Nat}{j:Nat}(h:j<l.length):(u32s l)[j]?=some (.int .u32 ((l.getD j 0:Nat):Int)):=by
 rw[u32s_get,List.getD_eq_getElem?_getD,List.getElem?_eq_getElem h];rfl
theorem u32s_set (l:List Nat)(j:Nat)(x:Nat):(u32s l).set j (.int .u32 (x:Int))=u32s (l.set j x):=by
 unfold u32s;rw[List.map_set]
theorem u32s_zeros (n:Nat):u32s (List.replicate n 0)=List.replicate n (.int .u32 0):=by simp[u32s]
theorem u32s_append (l m:List Nat):u32s (l++m)=u32s l++u32s m:=by simp[u32s]
theorem u32s_one (l:List Nat):∀u∈u32s l,u.oneCell'=true:=by
 intro u hu
 obtain⟨x,_,rfl⟩:=List.mem_map.1 hu
 rfl
/-- the whole of a world's memory -/
@[reducible] def heapOf (w:World):Frag:=fun k=>w.heap[k]?
theorem heapOf_sub (w:World):(heapOf w).sub w:=fun _ _ h=>h
/-- a single block -/
def blkF (b:Nat)(o:Obj):Frag:=fun k=>if k=b then some o else none
theorem blkF_sub {b:Nat}{o:Obj}{w:World}(h:w.heap[b]?=some o):(blkF b o).sub w:=by
 intro k o' hk
 unfold blkF at hk
 split at hk
 ·next e=>subst e;rw[←hk];exact h
 ·cases hk
theorem blkF_at {b k:Nat}{o o':Obj}(h:blkF b o k=some o'):k=b:=by
 unfold blkF at h;split at h
 ·assumption
 ·cases h
/-- In part f, the slice at A reads as the limbs l. -/
def Frag.Lim (f:Frag)(A:Option Addr)(l:List Nat):Prop:=
 0<l.length→∃b o,A=some ⟨b,o,none⟩∧∃cs T fr,f b=some (.cells cs T fr)∧∀j,j<l.length→cs[o+j]?=some (.int .u32 ((l.getD j 0:Nat):Int))
/-- a slice value of limbs: the address A, the capacity c -/
structure Frag.Sl (f:Frag)(A:Option Addr)(c:Nat)(l:List Nat):Prop where
 cap:l.length≤c
 max:c≤9223372036854775807
 len:l.length≤140737488355328
 lim:f.Lim A l
 ok:Ok l
@[reducible] def SlW (w:World) (A:Option Addr) (c:Nat) (l:List Nat):Prop:=(heapOf w).Sl A c l
theorem Frag.Lim.mono {f f':Frag}{A:Option Addr}{l:List Nat}(h:f.Lim A l)(s:∀k o,f k=some o→f' k=some o):f'.Lim A l:=by
 intro hl
 obtain⟨b,o,e,cs,T,fr,hb,hc⟩:=h hl
 exact⟨b,o,e,cs,T,fr,s _ _ hb,hc⟩
theorem Frag.Sl.mono {f f':Frag}{A:Option Addr}{c:Nat}{l:List Nat}(h:f.Sl A c l)(s:∀k o,f k=some o→f' k=some o):f'.Sl A c l:=
 ⟨h.cap,h.max,h.len,h.lim.mono s,h.ok⟩
theorem Frag.Sl.at {f:Frag}{w:World}{A:Option Addr}{c:Nat}{l:List Nat}(h:f.Sl A c l)(s:f.sub w):SlW w A c l:=h.mono s
theorem Frag.Sl.nil (f:Frag)(A:Option Addr):f.Sl A 0 []:=⟨Nat.le_refl _,by decide,by simp,fun h=>absurd h (by simp),Ok.nil⟩
theorem Frag.Sl.nilc (f:Frag)(A:Option Addr){c:Nat}(h:c≤140737488355328):f.Sl A c []:=⟨Nat.zero_le _,by omega,by simp,fun h=>absurd h (by simp),Ok.nil⟩
theorem getD_take {l:List Nat}{j k:Nat}(h:j<k):(l.take k).getD j 0=l.getD j 0:=by
 rw[List.getD_eq_getElem?_getD,List.getD_eq_getElem?_getD,List.getElem?_take_of_lt h]
theorem Frag.Sl.take {f:Frag}{A:Option Addr}{c:Nat}{l:List Nat}(h:f.Sl A c l)(k:Nat):f.Sl A c (l.take k):=by
 refine⟨?_,h.max,by rw[List.length_take];exact Nat.le_trans (Nat.min_le_right _ _) h.len,?_,h.ok.take k⟩
 ·rw[List.length_take];exact Nat.le_trans (Nat.min_le_right _ _) h.cap
 ·intro hl
  rw[List.length_take] at hl
  obtain⟨b,o,e,cs,T,fr,hb,hc⟩:=h.lim (by omega)
  refine⟨b,o,e,cs,T,fr,hb,fun j hj=>?_⟩
  rw[List.length_take] at hj
  rw[getD_take (by omega)]
  exact hc j (by omega)
theorem Frag.Lim.cell {f:Frag}{A:Option Addr}{l:List Nat}(h:f.Lim A l)(hl:0<l.length):∃b o,A=some ⟨b,o,none⟩∧∀j,j<l.length→f.cell ⟨b,o+j,none⟩=some (.int .u32 ((l.getD j 0:Nat):Int)):=by
 obtain⟨b,o,e,cs,T,fr,hb,hc⟩:=h hl
 refine⟨b,o,e,fun j hj=>?_⟩
 unfold Frag.cell
 simp only[hb]
 exact hc j hj
theorem limW_cell {w:World}{A:Option Addr}{l:List Nat}(h:(heapOf w).Lim A l)(hl:0<l.length):∃b o,A=some ⟨b,o,none⟩∧∀j,j<l.length→w.cell? ⟨b,o+j,none⟩=some (.int .u32 ((l.getD j 0:Nat):Int)):=by
 obtain⟨b,o,e,cs,T,fr,hb,hc⟩:=h hl
 refine⟨b,o,e,fun j hj=>?_⟩
 have:w.heap[b]?=some (.cells cs T fr):=hb
 simp only[World.cell?,this]
 exact hc j hj
section
variable {w0:World}{X:List Nat}{M:List Blk}{I:List Frag}
theorem G.cell_of (g:G w0 X M I){f:Frag}(hf:f∈I){A:Option Addr}{l:List Nat}(h:f.Lim A l)(hl:0<l.length):∃b o,A=some ⟨b,o,none⟩∧∀j,j<l.length→g.w.cell? ⟨b,o+j,none⟩=some (.int .u32 ((l.getD j 0:Nat):Int)):=
 limW_cell (h.mono (g.sub f hf)) hl
theorem G.sl (g:G w0 X M I){f:Frag}(hf:f∈I){A:Option Addr}{c:Nat}{l:List Nat}(h:f.Sl A c l):SlW g.w A c l:=h.at (g.sub f hf)
/-- the beginning of a walk whose call writes nothing that was there -/
def G.begin (w:World):G w [] [] [heapOf w]:=
 ⟨w,Chg.refl _ w,by simp,by simp,by simp,by intro f hf;rw[List.mem_singleton.1 hf];exact heapOf_sub w,by intro f hf k o hk;exact⟨.inr (by simp),by simp⟩⟩
end
theorem calls_b {P:Program}{f:FuncId}{args:Array Value}{w:World}{R:Ending→World→Prop}(h:∀g:G w [] [] [heapOf w],Calls P f args g.w R):Calls P f args w R:=h (G.begin w)
/-- new memory: F lies in w', and nothing of it lay in w -/
structure New (w w':World)(F:Frag):Prop where
 below:Below w.heap.size w w'
 sub:F.sub w'
 new:∀k o,F k=some o→w.heap.size≤k
section
variable {w0:World}{X:List Nat}{M:List Blk}{I:List Frag}
theorem G.new_ex (g:G w0 X M I){w1:World}{F:Frag}(h:New g.w w1 F):∃g':G w0 X M (F::I),w1=g'.w:=g.part_ex h.below h.sub h.new
/-- at the end: a block of the call's own is handed out -/
theorem G.give (g:G w0 [] M I){b:Nat}{T:TypeId}{cs:List Value}(h:(b,T,cs)∈M):New w0 g.w (blkF b (.cells cs.toArray T (0,0))):=
 ⟨g.below,blkF_sub (g.own _ h),by intro k o hk;rw[blkF_at hk];exact g.fresh h⟩
/-- at the end: nothing is handed out -/
theorem G.none (g:G w0 [] M I):New w0 g.w (fun _=>none):=⟨g.below,(by intro k o h;cases h),(by intro k o h;cases h)⟩
/-- at the end: what a callee has made is handed out -/
theorem G.pass (g:G w0 [] M I){F:Frag}(h:F∈I)(hn:∀k o,F k=some o→w0.heap.size≤k):New w0 g.w F:=⟨g.below,g.sub F h,hn⟩
end
theorem lim_blk {b:Nat}{T:TypeId}(l:List Nat){fr:Nat×Nat}:(blkF b (.cells (u32s l).toArray T fr)).Lim (some ⟨b,0,none⟩) l:=by
 intro hl
 refine⟨b,0,rfl,(u32s l).toArray,T,fr,by simp[blkF],fun j hj=>?_⟩
 rw[Nat.zero_add,List.getElem?_toArray]
 exact u32s_getD hj
theorem sl_blk {b:Nat}{T:TypeId}{l:List Nat}{fr:Nat×Nat}{c:Nat}(h:l.length≤c)(hc:c≤140737488355328)(hk:Ok l):(blkF b (.cells (u32s l).toArray T fr)).Sl (some ⟨b,0,none⟩) c l:=⟨h,by omega,by omega,lim_blk l,hk⟩
/-- What is returned is the number n, in new memory. -/
def RNat (n:Nat)(w:World)(e:Ending)(w':World):Prop:=∃A c F,e=.returned (.slice A (limbs n).length c)∧F.Sl A c (limbs n)∧New w w' F
/-- memory without one block -/
def heapBut (w:World)(b:Nat):Frag:=fun k=>if k=b then none else w.heap[k]?
theorem heapBut_sub (w:World)(b:Nat):(heapBut w b).sub w:=by
 intro k o h;unfold heapBut at h;split at h
 ·cases h
 ·exact h
/-- the beginning of a walk whose call may write block b -/
def G.beginM (w:World)(b:Nat)(T:TypeId)(cs:List Value)(h:w.heap[b]?=some (.cells cs.toArray T (0,0))):G w [b] [(b,T,cs)] [heapBut w b]:=
 ⟨w,Chg.refl _ w,by intro m hm;rw[List.mem_singleton.1 hm];exact h,by intro m hm;rw[List.mem_singleton.1 hm];exact .inr (List.mem_singleton.2 rfl),by simp,
  by intro f hf;rw[List.mem_singleton.1 hf];exact heapBut_sub w b,
  by
   intro f hf k o hk
   rw[List.mem_singleton.1 hf] at hk
   have hne:k≠b:=by rintro rfl;unfold heapBut at hk;rw[if_pos rfl] at hk;cases hk
   exact⟨.inr (by simpa using hne),by simpa using hne⟩⟩
theorem calls_m {P:Program}{f:FuncId}{args:Array Value}{w:World}{R:Ending→World→Prop}{b:Nat}{T:TypeId}{cs:List Value}(hb:w.heap[b]?=some (.cells cs.toArray T (0,0)))
  (h:∀g:G w [b] [(b,T,cs)] [heapBut w b],Calls P f args g.w R):Calls P f args w R:=h (G.beginM w b T cs hb)
/-- the slice does not lie in block b -/
def Apart (A:Option Addr)(b:Nat):Prop:=∀a,A=some a→a.block≠b
theorem Frag.Sl.but {w:World}{b:Nat}{A:Option Addr}{c:Nat}{l:List Nat}(h:SlW w A c l)(hne:Apart A b):(heapBut w b).Sl A c l:=by
 refine⟨h.cap,h.max,h.len,?_,h.ok⟩
 intro hl
 obtain⟨b',o,e,cs,T,fr,hb,hc⟩:=h.lim hl
 refine⟨b',o,e,cs,T,fr,?_,hc⟩
 unfold heapBut
 rw[if_neg (hne _ e)];exact hb
theorem sl_trim {f:Frag}{A:Option Addr}{c:Nat}{l:List Nat}(h:f.Sl A c l):f.Sl A c (limbs (val l)):=by
 rw[←limbs_prefix h.ok];exact h.take _
theorem rnat_end {w0:World}{M:List Blk}{I:List Frag}(g:G w0 [] M I){b:Nat}{T:TypeId}{pre:List Nat}{c v:Nat}(hm:(b,T,u32s pre)∈M)(hok:Ok pre)(hc:pre.length≤c)(hc2:c≤140737488355328)(hv:val pre=v):
  RNat v w0 (.returned (.slice (some ⟨b,0,none⟩) (limbs (val pre)).length c)) g.w:=by
 subst hv
 exact⟨_,c,_,rfl,sl_trim (sl_blk hc hc2 hok),g.give hm⟩
theorem lim_cells {F:Frag}{A:Option Addr}{l:List Nat}(h:F.Lim A l)(hl:0<l.length):∃b o,A=some ⟨b,o,none⟩∧∀j,j<l.length→∀(w0:World) (X:List Nat) (M:List Blk) (I:List Frag) (g:G w0 X M I),F∈I→g.w.cell? ⟨b,o+j,none⟩=some (.int .u32 ((l.getD j 0:Nat):Int)):=by
 obtain⟨b,o,e,hc⟩:=h.cell hl
 exact⟨b,o,e,fun j hj w0 X M I g hf=>g.frag_cell hf (hc j hj)⟩
end Go.Proofs.YthhbbnfnejjpiaaGreatDoor.GW
namespace Go.Proofs.YthhbbnfnejjpiaaGreatDoor.K3
open Go
open Go Go.RowKit
theorem wrap_bv32 (x:BitVec 32):IntKind.u32.wrap (x.toNat:Int)=(x.toNat:Int):=by
 rw[IntKind.wrap_u32];have:=x.isLt;omega
theorem or32 (x y:Int):bits .or .u32 x y=((BitVec.ofInt 32 x|||BitVec.ofInt 32 y).toNat:Int):=wrap_bv32 _
theorem and32 (x y:Int):bits .and .u32 x y=((BitVec.ofInt 32 x&&&BitVec.ofInt 32 y).toNat:Int):=wrap_bv32 _
theorem xor32 (x y:Int):bits .xor .u32 x y=((BitVec.ofInt 32 x^^^BitVec.ofInt 32 y).toNat:Int):=wrap_bv32 _
theorem back32 (b:BitVec 32):BitVec.ofInt 32 (b.toNat:Int)=b:=by
 apply BitVec.eq_of_toNat_eq
 rw[BitVec.ofInt_natCast,BitVec.toNat_ofNat]
 exact Nat.mod_eq_of_lt b.isLt
theorem top32 (b:BitVec 32):(b.toNat:Int)/2147483648=if b.msb then 1 else 0:=by
 rw[BitVec.msb_eq_decide]
 have:=b.isLt
 by_cases h:2^(32-1)≤b.toNat
 ·rw[decide_eq_true h];simp;omega
 ·rw[decide_eq_false h];simp;omega
theorem msbN (x:Nat)(h:x<4294967296):(BitVec.ofInt 32 (x:Int)).msb=decide (2147483648≤x):=by
 rw[BitVec.msb_eq_decide,BitVec.ofInt_natCast,BitVec.toNat_ofNat,Nat.mod_eq_of_lt (by omega)]
theorem borrow32 (x y c:Nat)(hx:x<4294967296)(hy:y<4294967296)(hc:c≤1):
  bits .or .u32 (bits .and .u32 (bits .xor .u32 IntKind.u32.max (x:Int)) (y:Int)) (bits .and .u32 (bits .xor .u32 IntKind.u32.max (bits .xor .u32 (x:Int) (y:Int))) (((x:Int)-(y:Int)-(c:Int))%4294967296))/2147483648=((if x<y+c then 1 else 0:Nat):Int):=by
 obtain⟨d,hd,hd1⟩:∃d:Nat,((x:Int)-y-c)%4294967296=(d:Int)∧d<4294967296:=⟨(((x:Int)-y-c)%4294967296).toNat,by omega,by omega⟩
 rw[hd]
 have hm:(BitVec.ofInt 32 IntKind.u32.max).msb=true:=by decide
 simp only[or32,and32,xor32,back32,top32,BitVec.msb_or,BitVec.msb_and,BitVec.msb_xor,msbN x hx,msbN y hy,msbN d hd1,hm]
 by_cases a:2147483648≤x<;>by_cases b:2147483648≤y<;>by_cases e:2147483648≤d<;>simp[a,b,e]<;>(split<;>omega)
/-- numbers that share no bit: or is the sum -/
theorem or32_add (x y k:Nat)(hk:k≤32)(hx:x<2^k)(hy:y<4294967296)(hd:y%2^k=0):bits .or .u32 (x:Int) (y:Int)=((y+x:Nat):Int):=by
 have lt:2^k≤2^32:=Nat.pow_le_pow_right (by omega) hk
 rw[or32]
 congr 1
 rw[BitVec.toNat_or,BitVec.ofInt_natCast,BitVec.ofInt_natCast,BitVec.toNat_ofNat,BitVec.toNat_ofNat,Nat.mod_eq_of_lt (by omega),Nat.mod_eq_of_lt (by omega)]
 have hm:y=2^k*(y/2^k):=by have:=Nat.div_add_mod y (2^k);omega
 rw[Nat.or_comm]
 conv=>lhs;rw[hm]
 rw[←Nat.two_pow_add_eq_or_of_lt hx]
 omega
theorem wrap_bv64 (x:BitVec 64):IntKind.u64.wrap (x.toNat:Int)=(x.toNat:Int):=by
 rw[IntKind.wrap_u64];have:=x.isLt;omega
theorem or64 (x y:Int):bits .or .u64 x y=((BitVec.ofInt 64 x|||BitVec.ofInt 64 y).toNat:Int):=wrap_bv64 _
theorem or64_add (x y k:Nat)(hk:k≤64)(hx:x<2^k)(hy:y<18446744073709551616)(hd:y%2^k=0):bits .or .u64 (x:Int) (y:Int)=((y+x:Nat):Int):=by
 have lt:2^k≤2^64:=Nat.pow_le_pow_right (by omega) hk
 rw[or64]
 congr 1
 rw[BitVec.toNat_or,BitVec.ofInt_natCast,BitVec.ofInt_natCast,BitVec.toNat_ofNat,BitVec.toNat_ofNat,Nat.mod_eq_of_lt (by omega),Nat.mod_eq_of_lt (by omega)]
 have hm:y=2^k*(y/2^k):=by have:=Nat.div_add_mod y (2^k);omega
 rw[Nat.or_comm]
 conv=>lhs;rw[hm]
 rw[←Nat.two_pow_add_eq_or_of_lt hx]
 omega
theorem or64_comm (x y:Int):bits .or .u64 x y=bits .or .u64 y x:=by rw[or64,or64,BitVec.or_comm]
theorem or32_comm (x y:Int):bits .or .u32 x y=bits .or .u32 y x:=by rw[or32,or32,BitVec.or_comm]
end Go.Proofs.YthhbbnfnejjpiaaGreatDoor.K3
namespace Go.Proofs.YthhbbnfnejjpiaaGreatDoor.GW
open Go
open Go.RowKit
section
variable {w0:World}{M M':List Blk}{I:List Frag}
/-- a block that holds no cells turns, or there are new blocks -/
theorem G.grown_ex (g:G w0 [] M I){W':World}{row:Option Nat}{B:Nat}(hB:w0.heap.size≤B)(hI:∀f∈I,∀k o,f k=some o→k<B∨o.isCells=true)(hg:g.w.grownBy W' row)
  (hr:∀r,row=some r→B≤r∧∃o:Obj,g.w.heap[r]?=some o∧o.isCells=false):∃g':G w0 [] M I,W'=g'.w:=by
 refine⟨⟨W',Chg.of_below (g.below.grown hg g.chg.size (fun k e=>Nat.le_trans hB (hr k e).1)),?_,g.may,g.dist,?_,g.keep⟩,rfl⟩
 ·intro m hm
  refine(hg.block m.1 (g.lt hm) ?_).trans (g.own m hm)
  intro e
  obtain⟨_,o,ho,hc⟩:=hr m.1 e.symm
  rw[g.own m hm] at ho
  cases ho
  cases hc
 ·intro f hf k o hk
  refine(hg.block k (Frag.lt (g.sub f hf) hk) ?_).trans (g.sub f hf k o hk)
  intro e
  obtain⟨h1,o',ho,hc⟩:=hr k e.symm
  rw[g.sub f hf k o hk] at ho
  cases ho
  rcases hI f hf k o hk with h|h
  ·omega
  ·rw[hc] at h;cases h
end
/-- a block that nobody writes any more -/
theorem G.fix {w0:World}{M:List Blk}{I:List Frag}{b:Nat}{T:TypeId}{cs:List Value}(g:G w0 [] ((b,T,cs)::M) I):∃g':G w0 [] M (blkF b (.cells cs.toArray T (0,0))::I),g.w=g'.w:=by
 have hd:=g.dist
 rw[List.map_cons,List.nodup_cons] at hd
 refine⟨⟨g.w,g.chg,fun m hm=>g.own m (List.mem_cons_of_mem _ hm),fun m hm=>g.may m (List.mem_cons_of_mem _ hm),hd.2,?_,?_⟩,rfl⟩
 ·intro f hf
  rcases List.mem_cons.1 hf with rfl|hf
  ·exact blkF_sub g.blk0
  ·exact g.sub f hf
 ·intro f hf k o hk
  refine⟨.inr (by simp),?_⟩
  rcases List.mem_cons.1 hf with rfl|hf
  ·rw[blkF_at hk];exact hd.1
  ·exact fun hm=>(g.keep f hf k o hk).2 (by rw[List.map_cons];exact List.mem_cons_of_mem _ hm)
/-- a block that holds no cells -/
theorem G.seeD {w0:World}{M:List Blk}{I:List Frag}(g:G w0 [] M I){D:Nat}{o:Obj}(h:g.w.heap[D]?=some o)(ho:o.isCells=false):∃g':G w0 [] M (blkF D o::I),g.w=g'.w:=
 ⟨g.see (blkF D o) (blkF_sub h) fun k o' hk=>⟨.inr (by simp),fun hm=>by
  obtain⟨m,hm2,e⟩:=List.mem_map.1 hm
  have:=g.own m hm2
  rw[e,blkF_at hk,h] at this
  cases this
  cases ho⟩,rfl⟩
end Go.Proofs.YthhbbnfnejjpiaaGreatDoor.GW
namespace Go.Proofs.YthhbbnfnejjpiaaGreatDoor.GW
open Go
open Go.RowKit NL
/-- F lies in w', and what of it is not new was in F0 -/
structure NewOr (F0:Frag)(w w':World)(F:Frag):Prop where
 below:Below w.heap.size w w'
 sub:F.sub w'
 new:∀k o,F k=some o→F0 k=some o∨w.heap.size≤k
theorem New.or {w w':World}{F:Frag}(h:New w w' F)(F0:Frag):NewOr F0 w w' F:=⟨h.below,h.sub,fun k o hk=> .inr (h.new k o hk)⟩
/-- F is made of F0 and of what is new since w0 -/
def Frag.over (F F0:Frag)(w0:World):Prop:=∀k o,F k=some o→F0 k=some o∨w0.heap.size≤k
theorem Frag.over_self (F:Frag)(w0:World):F.over F w0:=fun _ _ h=> .inl h
theorem New.over {w0 w w':World}{F:Frag}(h:New w w' F)(F0:Frag)(hs:w0.heap.size≤w.heap.size):F.over F0 w0:=fun k o hk=> .inr (Nat.le_trans hs (h.new k o hk))
section
variable {w0:World}{M:List Blk}{I:List Frag}{F0:Frag}
/-- all that stays, of F0 and of what is new -/
def G.fr (g:G w0 [] M I)(F0:Frag):Frag:=fun k=>if k∈M.map (·.1) then Option.none else if k<w0.heap.size then F0 k else g.w.heap[k]?
theorem G.fr_sub (g:G w0 [] M I)(h:F0∈I):(g.fr F0).sub g.w:=by
 intro k o hk
 unfold G.fr at hk
 split at hk
 ·cases hk
 ·split at hk
  ·exact g.sub _ h _ _ hk
  ·exact hk
theorem G.fr_of (g:G w0 [] M I){F:Frag}(hF:F∈I)(hn:F.over F0 w0):∀k o,F k=some o→g.fr F0 k=some o:=by
 intro k o hk
 unfold G.fr
 rw[if_neg (g.keep F hF k o hk).2]
 split
 ·next hlt=>
  rcases hn k o hk with h|h
  ·exact h
  ·omega
 ·exact g.sub F hF k o hk
theorem G.fr_sl (g:G w0 [] M I){F:Frag}(hF:F∈I)(hn:F.over F0 w0){A:Option Addr}{c:Nat}{l:List Nat}(h:F.Sl A c l):(g.fr F0).Sl A c l:=h.mono (g.fr_of hF hn)
theorem G.newor_ex (g:G w0 [] M I){w1:World}{F:Frag}(h:NewOr (g.fr F0) g.w w1 F):∃g':G w0 [] M (F::I),w1=g'.w∧F.over F0 w0:=by
 refine⟨(g.call h.below).see F h.sub fun k o hk=>⟨.inr (by simp),fun hm=>?_⟩,rfl,?_⟩
 ·rcases h.new k o hk with h1|h1
  ·unfold G.fr at h1
   rw[if_pos hm] at h1;cases h1
  ·obtain⟨m,hm2,e⟩:=List.mem_map.1 hm
   have:=g.lt hm2
   omega
 ·intro k o hk
  rcases h.new k o hk with h1|h1
  ·unfold G.fr at h1
   split at h1
   ·cases h1
   ·split at h1
    ·exact .inl h1
    ·next hge=>exact .inr (by omega)
  ·exact .inr (Nat.le_trans g.chg.size h1)
theorem G.passOr (g:G w0 [] M I){F:Frag}(hF:F∈I)(hn:F.over F0 w0):NewOr F0 w0 g.w F:=⟨g.below,g.sub F hF,hn⟩
theorem G.giveOr (g:G w0 [] M I){b:Nat}{T:TypeId}{cs:List Value}(h:(b,T,cs)∈M):NewOr F0 w0 g.w (blkF b (.cells cs.toArray T (0,0))):=(g.give h).or F0
end
/-- the beginning of a walk: a part of memory -/
def G.beginF (w:World)(F0:Frag)(h:F0.sub w):G w [] [] [F0]:=
 ⟨w,Chg.refl _ w,by simp,by simp,by simp,by intro f hf;rw[List.mem_singleton.1 hf];exact h,by intro f hf k o hk;exact⟨.inr (by simp),by simp⟩⟩
theorem calls_f {P:Program}{f:FuncId}{args:Array Value}{w:World}{R:Ending→World→Prop}{F0:Frag}(hF:F0.sub w)(h:∀g:G w [] [] [F0],Calls P f args g.w R):Calls P f args w R:=h (G.beginF w F0 hF)
/-- What is returned is the number n, in new memory or in F0. -/
def RAli (F0:Frag)(n:Nat)(w:World)(e:Ending)(w':World):Prop:=∃A c F,e=.returned (.slice A (limbs n).length c)∧F.Sl A c (limbs n)∧NewOr F0 w w' F
end Go.Proofs.YthhbbnfnejjpiaaGreatDoor.GW
namespace Go.Proofs.YthhbbnfnejjpiaaGreatDoor.NL
open Go
/-- the rational number of parts -/
def frac (s:Bool)(n d:Nat):Rat:=mkRat (if s then -(n:Int) else(n:Int)) d
def rneg (x:Rat):Bool:=decide (x.num<0)
def rn (x:Rat):Nat:=x.num.natAbs
theorem sgn_abs (s:Bool)(n:Nat):(if s then -(n:Int) else(n:Int)).natAbs=n:=by cases s<;>simp
theorem frac_self (x:Rat):frac (rneg x) (rn x) x.den=x:=by
 unfold frac rneg rn
 rw[show(if decide (x.num<0)=true then -(x.num.natAbs:Int) else(x.num.natAbs:Int))=x.num by
  by_cases h:x.num<0
  ·rw[if_pos (decide_eq_true h)];omega
  ·rw[if_neg (by simpa using h)];omega]
 exact Rat.mkRat_self x
theorem frac_den (s:Bool){n d:Nat}(hd:d≠0):(frac s n d).den=d/Nat.gcd n d:=by
 unfold frac;rw[Rat.den_mkRat,if_neg hd,sgn_abs,Nat.gcd_comm]
theorem frac_num (s:Bool){n d:Nat}(hd:d≠0):(frac s n d).num=if s then -((n/Nat.gcd n d:Nat):Int) else((n/Nat.gcd n d:Nat):Int):=by
 unfold frac
 rw[Rat.num_mkRat,if_neg hd,sgn_abs,Nat.gcd_comm]
 cases s
 ·simp
 ·simp only[if_true]
  rw[Int.neg_ediv_of_dvd (Int.natCast_dvd_natCast.2 (Nat.gcd_dvd_left n d))]
  simp
theorem frac_rn (s:Bool){n d:Nat}(hd:d≠0):rn (frac s n d)=n/Nat.gcd n d:=by
 unfold rn;rw[frac_num s hd,sgn_abs]
theorem div_gcd_pos {n d:Nat}(hn:n≠0):n/Nat.gcd n d≠0:=by
 have:=Nat.div_pos (Nat.le_of_dvd (Nat.pos_of_ne_zero hn) (Nat.gcd_dvd_left n d)) (Nat.gcd_pos_of_pos_left d (Nat.pos_of_ne_zero hn))
 omega
theorem frac_rneg (s:Bool){n d:Nat}(hd:d≠0):rneg (frac s n d)=(s&&decide (n≠0)):=by
 unfold rneg
 rw[frac_num s hd]
 cases s
 ·simp
  exact Int.ediv_nonneg (by omega) (by omega)
 ·by_cases hn:n=0
  ·subst hn;simp
  ·have:=div_gcd_pos (d:=d) hn
   have h1:0<n/Nat.gcd n d:=Nat.pos_of_ne_zero this
   have h2: -((n/Nat.gcd n d:Nat):Int)<0:=by
    have:(0:Int)<((n/Nat.gcd n d:Nat):Int):=Int.natCast_pos.2 h1
    exact Int.neg_neg_of_pos this
   rw[if_pos rfl,decide_eq_true h2,decide_eq_true hn];rfl
theorem frac_zero (s:Bool)(d:Nat):frac s 0 d=0:=by
 unfold frac
 cases s<;>simp
theorem rn_zero_iff (x:Rat):rn x=0↔x=0:=by
 unfold rn;rw[Int.natAbs_eq_zero];exact Rat.num_eq_zero
/-- parts in lowest terms are those of their number -/
theorem frac_parts {s:Bool}{n d:Nat}(hd:d≠0)(hg:Nat.gcd n d=1)(hs:s=true→n≠0):rneg (frac s n d)=s∧rn (frac s n d)=n∧(frac s n d).den=d:=by
 refine⟨?_,?_,?_⟩
 ·rw[frac_rneg s hd]
  cases s
  ·rfl
  ·simp[hs rfl]
 ·rw[frac_rn s hd,hg,Nat.div_one]
 ·rw[frac_den s hd,hg,Nat.div_one]
theorem rgcd (x:Rat):Nat.gcd (rn x) x.den=1:=x.reduced
theorem rneg_ne {x:Rat}(h:rneg x=true):rn x≠0:=by
 unfold rneg at h;unfold rn
 have:=of_decide_eq_true h
 omega
theorem frac_add_same (s:Bool){n1 d1 n2 d2:Nat}(h1:d1≠0)(h2:d2≠0):frac s n1 d1+frac s n2 d2=frac s (n1*d2+n2*d1) (d1*d2):=by
 unfold frac
 rw[Rat.mkRat_add_mkRat _ _ h1 h2]
 congr 1
 cases s
 ·simp
 ·simp only[if_true]
  rw[Int.natCast_add,Int.natCast_mul,Int.natCast_mul]
  rw[Int.neg_mul,Int.neg_mul]
  omega
theorem frac_neg (s:Bool)(n d:Nat): -frac s n d=frac (!s) n d:=by
 unfold frac
 rw[Rat.neg_mkRat]
 congr 1
 cases s<;>simp
theorem frac_add_lt {s t:Bool}(hst:s≠t){n1 d1 n2 d2:Nat}(h1:d1≠0)(h2:d2≠0)(h:n1*d2<n2*d1):frac s n1 d1+frac t n2 d2=frac t (n2*d1-n1*d2) (d1*d2):=by
 unfold frac
 rw[Rat.mkRat_add_mkRat _ _ h1 h2]
 congr 1
 have e1:((n1:Int)*(d2:Int))=((n1*d2:Nat):Int):=(Int.natCast_mul _ _).symm
 have e2:((n2:Int)*(d1:Int))=((n2*d1:Nat):Int):=(Int.natCast_mul _ _).symm
 cases s<;>cases t<;>simp only[if_true,Bool.false_eq_true,if_false,Int.neg_mul,e1,e2]<;>first|exact absurd rfl hst|omega
theorem frac_add_ge {s t:Bool}(hst:s≠t){n1 d1 n2 d2:Nat}(h1:d1≠0)(h2:d2≠0)(h:¬ n1*d2<n2*d1):frac s n1 d1+frac t n2 d2=frac s (n1*d2-n2*d1) (d1*d2):=by
 unfold frac
 rw[Rat.mkRat_add_mkRat _ _ h1 h2]
 congr 1
 have e1:((n1:Int)*(d2:Int))=((n1*d2:Nat):Int):=(Int.natCast_mul _ _).symm
 have e2:((n2:Int)*(d1:Int))=((n2*d1:Nat):Int):=(Int.natCast_mul _ _).symm
 cases s<;>cases t<;>simp only[if_true,Bool.false_eq_true,if_false,Int.neg_mul,e1,e2]<;>first|exact absurd rfl hst|omega
theorem frac_mul (s t:Bool)(n1 d1 n2 d2:Nat):frac s n1 d1*frac t n2 d2=frac (s !=t) (n1*n2) (d1*d2):=by
 unfold frac
 rw[Rat.mkRat_mul_mkRat]
 congr 1
 cases s<;>cases t<;>simp[Int.neg_mul,Int.mul_neg,Int.neg_neg]
theorem frac_inv (s:Bool){n d:Nat}(hn:n≠0):(frac s n d)⁻¹=frac s d n:=by
 by_cases hd:d=0
 ·subst hd;unfold frac;cases s<;>simp
 have h0:frac s n d≠0:=by
  intro h
  have:=(rn_zero_iff _).2 h
  rw[frac_rn s hd] at this
  exact div_gcd_pos hn this
 have hm:frac s n d*frac s d n=1:=by
  rw[frac_mul]
  unfold frac
  rw[show(s !=s)=false by cases s<;>rfl]
  simp only[Bool.false_eq_true,if_false]
  rw[Nat.mul_comm d n]
  have h1:((n*d:Nat):Rat)≠0:=by
   intro h
   exact Nat.mul_ne_zero hn hd (by exact_mod_cast h)
  rw[Rat.mkRat_eq_div]
  rw[show(((n*d:Nat):Int):Rat)=((n*d:Nat):Rat) from rfl]
  rw[Rat.div_def]
  exact Rat.mul_inv_cancel _ h1
 grind
/-- the number of bits -/
def nb (v:Nat):Nat:=if v=0 then 0 else Nat.log2 v+1
theorem nb_le (v k:Nat):nb v≤k↔v<2^k:=by
 unfold nb
 by_cases h:v=0
 ·rw[if_pos h,h];exact⟨fun _=>Nat.two_pow_pos k,fun _=>Nat.zero_le _⟩
 ·rw[if_neg h]
  exact(Nat.log2_lt h)
theorem nb_zero:nb 0=0:=rfl
theorem nb_pos {v:Nat}(h:v≠0):0<nb v:=by unfold nb;rw[if_neg h];omega
theorem nb_ge {v:Nat}(h:v≠0):2^(nb v-1)≤v:=by
 rcases Nat.lt_or_ge v (2^(nb v-1)) with h1|h1
 ·have:=(nb_le v _).2 h1
  have:=nb_pos h
  omega
 ·exact h1
theorem nb_lt (v:Nat):v<2^nb v:=(nb_le v _).1 (Nat.le_refl _)
theorem nb_uniq {v k:Nat}(h:v<2^k)(h2:k=0∨2^(k-1)≤v):nb v=k:=by
 have h1:=(nb_le v k).2 h
 rcases h2 with h2|h2
 ·omega
 ·rcases Nat.lt_or_ge (nb v) k with h3|h3
  ·have:=(nb_le v (k-1)).1 (by omega);omega
  ·omega
theorem nb_bitLen (x:Nat)(h:x<4294967296):Lib.bitLen x=nb x:=by
 by_cases h0:x=0
 ·subst h0;rfl
 ·obtain⟨h1,h2,h3⟩:=Lib.bitLenAux_bounds 64 x (by omega) h0
  exact(nb_uniq h3 (.inr h2)).symm
theorem pow32 (k:Nat):4294967296^k=2^(32*k):=by rw[Nat.pow_mul]
theorem nb_top {v m:Nat}(h:(limbs v).length=m+1):nb v=32*m+nb ((limbs v).getD m 0):=by
 have s:=val_split (limbs v) m (by omega)
 rw[val_limbs,val_drop_getD,List.drop_of_length_le (by omega),show val []=0 from rfl,Nat.mul_zero,Nat.add_zero] at s
 have b:=val_lt ((ok_limbs v).take m)
 rw[List.length_take,Nat.min_eq_left (by omega)] at b
 have t0:=trim_limbs v m h
 generalize (limbs v).getD m 0=t at*
 generalize val ((limbs v).take m)=r at*
 have h1:=nb_lt t
 have h2:=nb_ge t0
 have h3:=nb_pos t0
 rw[pow32] at s b
 apply nb_uniq
 ·rw[Nat.pow_add]
  have:=Nat.mul_le_mul_left (2^(32*m)) (Nat.succ_le_of_lt h1)
  rw[Nat.mul_succ] at this
  omega
 ·right
  rw[show 32*m+nb t-1=32*m+(nb t-1) by omega,Nat.pow_add]
  have:=Nat.mul_le_mul_left (2^(32*m)) h2
  omega
theorem val_div (l:List Nat)(h:Ok l)(k:Nat):val l/4294967296^k=val (l.drop k):=by
 induction k generalizing l with
 |zero=>simp
 |succ k ih=>
  cases l with
  |nil=>simp[val]
  |cons x l=>
   have hx:=h.head
   rw[Nat.pow_succ,Nat.mul_comm,←Nat.div_div_eq_div_mul,val,show(x+4294967296*val l)/4294967296=val l by omega,ih l h.tail,List.drop_succ_cons]
theorem getD_val (l:List Nat)(h:Ok l)(k:Nat):l.getD k 0=val l/4294967296^k%4294967296:=by
 rw[val_div l h k,val_drop_getD]
 have:=h.getD k
 omega
theorem val_mod (l:List Nat)(h:Ok l)(k:Nat):val l%4294967296^k=val (l.take k):=by
 rcases Nat.lt_or_ge l.length k with hk|hk
 ·rw[val_take_all (by omega)]
  exact Nat.mod_eq_of_lt (Nat.lt_of_lt_of_le (val_lt h) (Nat.pow_le_pow_right (by decide) (by omega)))
 ·have s:=val_split l k hk
  have b:=val_lt (h.take k)
  rw[List.length_take,Nat.min_eq_left hk] at b
  rw[s,Nat.add_mul_mod_self_left,Nat.mod_eq_of_lt b]
/-- digits from the lowest: the number T's lowest k limbs -/
theorem mod_step {T k p x:Nat}(h:p=T%4294967296^k)(hx:x=T/4294967296^k%4294967296):p+4294967296^k*x=T%4294967296^(k+1):=by
 rw[Nat.pow_succ,Nat.mod_mul,h,hx]
theorem low_step {pre:List Nat}{T k x:Nat}(hp:pre.length=k)(h:val pre=T%4294967296^k)(hx:x=T/4294967296^k%4294967296):val (pre++[x])=T%4294967296^(k+1):=by
 rw[val_snoc,hp];exact mod_step h hx
/-- a limb of a number shifted down by less than a limb -/
theorem down_limb {l:List Nat}(h:Ok l)(k s:Nat)(hs:s<32):(l.getD k 0+4294967296*l.getD (k+1) 0)/2^s%4294967296=val l/2^s/4294967296^k%4294967296:=by
 rw[Nat.div_div_eq_div_mul,Nat.mul_comm (2^s),←Nat.div_div_eq_div_mul,val_div l h k]
 have e:=val_drop_getD l k
 have e2:=val_drop_getD l (k+1)
 rw[e2] at e
 rw[e]
 generalize val (l.drop (k+1+1))=z
 generalize l.getD k 0=x
 generalize l.getD (k+1) 0=y
 have hd:(4294967296:Nat)*4294967296=2^s*(2^(32-s)*4294967296):=by
  rw[←Nat.mul_assoc,←Nat.pow_add,show s+(32-s)=32 by omega]
 have:x+4294967296*(y+4294967296*z)=(x+4294967296*y)+2^s*(4294967296*(2^(32-s)*z)):=by
  rw[Nat.mul_add,←Nat.mul_assoc 4294967296 4294967296 z,hd]
  rw[Nat.mul_assoc (2^s),Nat.mul_assoc (2^(32-s)),Nat.mul_left_comm (2^(32-s)) 4294967296 z]
  omega
 rw[this,Nat.add_mul_div_left _ _ (Nat.two_pow_pos s),Nat.add_mul_mod_self_left]
/-- the numbers behind the first limbs -/
theorem div_pow_split {v m:Nat}:v/2^m=v/4294967296^(m/32)/2^(m%32):=by
 rw[Nat.div_div_eq_div_mul,pow32,←Nat.pow_add,Nat.div_add_mod]
theorem down_end {pre l:List Nat}{n s:Nat}(hl:Ok l)(hn:l.length≤n)(h:val pre=val l/2^s%4294967296^n):val pre=val l/2^s:=by
 rw[h]
 apply Nat.mod_eq_of_lt
 have h1:=val_lt hl
 have h2:4294967296^l.length≤4294967296^n:=Nat.pow_le_pow_right (by decide) hn
 have:=Nat.div_le_self (val l) (2^s)
 omega
theorem val_set' {out:List Nat}{i:Nat}(hi:i<out.length)(x:Nat):val (out.set i x)+4294967296^i*out.getD i 0=val out+4294967296^i*x:=by
 induction out generalizing i with
 |nil=>simp at hi
 |cons y l ih=>
  cases i with
  |zero=>simp[val];omega
  |succ i=>
   rw[List.set_cons_succ,val,val,List.getD_cons_succ]
   have:=ih (i:=i) (by simpa using hi)
   rw[Nat.pow_succ,Nat.mul_comm _ 4294967296,Nat.mul_assoc,Nat.mul_assoc]
   omega
/-- the quotient's limb is not more than what the highest limbs tell -/
theorem guess_ge {R d top head P q:Nat}(htop:0<top)(h1:P*top≤d)(h2:R<P*(head+1))(hq:q*d≤R):q≤head/top:=by
 rw[Nat.le_div_iff_mul_le htop]
 have h3:P*(q*top)≤q*d:=by rw[Nat.mul_left_comm];exact Nat.mul_le_mul_left q h1
 have h4:P*(q*top)<P*(head+1):=by omega
 have:=Nat.lt_of_mul_lt_mul_left h4
 omega
theorem quot_lt {R d:Nat}(h:R<4294967296*d):R/d<4294967296:=Nat.div_lt_of_lt_mul (by rwa[Nat.mul_comm] at h)
end Go.Proofs.YthhbbnfnejjpiaaGreatDoor.NL
namespace Go.Proofs.YthhbbnfnejjpiaaGreatDoor.GW
open Go
open Go.RowKit
section
variable {w0:World}{X:List Nat}{R:List Blk}{I:List Frag}
theorem G.grow (g:G w0 X R I){w':World}{row:Option Nat}{b:Nat}{T:TypeId}{cs:List Value}(h:g.w.grownBy w' row)(hrow:∀k,row=some k→w0.heap.size≤k)
  (hne:∀m∈R,some m.1≠row) (hfr:∀f∈I,∀k o,f k=some o→some k≠row) (hb:row=some b∨b=g.w.heap.size) (hh:w'.heap[b]?=some (.cells cs.toArray T (0,0))):
  ∃g':G w0 X ((b,T,cs)::R) I,w'=g'.w:=by
 have hw:w0.heap.size≤b:=by
  rcases hb with hb|hb
  ·exact hrow b hb
  ·rw[hb];exact g.chg.size
 have hR:∀m∈R,m.1≠b:=by
  intro m hm e
  rcases hb with hb|hb
  ·exact hne m hm (by rw[hb,e])
  ·have:=g.lt hm;omega
 have hF:∀f∈I,∀k o,f k=some o→k≠b:=by
  intro f hf k o hk e
  rcases hb with hb|hb
  ·exact hfr f hf k o hk (by rw[hb,e])
  ·have:=Frag.lt (g.sub f hf) hk;omega
 refine⟨⟨w',⟨h.os.trans g.chg.os,h.tape.trans g.chg.tape,h.output.trans g.chg.output,Nat.le_trans g.chg.size h.size,?_⟩,?_,?_,?_,?_,?_⟩,rfl⟩
 ·intro k hk hx
  rw[h.block k (Nat.lt_of_lt_of_le hk g.chg.size) (fun e=>by have:=hrow k e.symm;omega)]
  exact g.chg.block k hk hx
 ·intro m hm
  rcases List.mem_cons.1 hm with rfl|hm
  ·exact hh
  ·rw[h.block _ (g.lt hm) (hne m hm)];exact g.own m hm
 ·intro m hm
  rcases List.mem_cons.1 hm with rfl|hm
  ·exact .inl hw
  ·exact g.may m hm
 ·rw[List.map_cons,List.nodup_cons]
  refine⟨?_,g.dist⟩
  intro hm
  obtain⟨m,hm,e⟩:=List.mem_map.1 hm
  exact hR m hm e
 ·intro f hf k o hk
  rw[h.block k (Frag.lt (g.sub f hf) hk) (hfr f hf k o hk)]
  exact g.sub f hf k o hk
 ·intro f hf k o hk
  refine⟨(g.keep f hf k o hk).1,?_⟩
  rw[List.map_cons,List.mem_cons]
  rintro(e|e)
  ·exact hF f hf k o hk e
  ·exact(g.keep f hf k o hk).2 e
/-- a slice that the walk owns and that reads as xs -/
structure Row (e:TypeId)(size n:Nat)(xs:List Value)(cap:Nat)(cs:List Value):Prop where
 le:n≤cap
 max:cap≤maxLen
 len:cs.length=cap*size
 take:cs.take (n*size)=xs
 xl:xs.length=n*size
theorem wpList_append_g {P:Program}{ops:Array Oper}{rest:List Oper}{o:Oper}{a:Act}{Q:Exit→Act→World→Prop}(hgd:o.guard=none)(s x:Operand)(t:TypeId)
  (ho:o.op=.call {callee:=.builtin .append,args:= #[s,x],argTypes:= #[t,t]})
  (e:TypeId) (i:TypeInfo) (z:Value) (size bytes:Nat) (ht:P.underlying t=some (.slice e)) (hi:P.info? e=some i) (hz:i.zero=some z)
  (hsize:i.size=size) (hby:i.bytes=bytes) (hzs:z.cells.size=size) (hsz:0<size)
  (g:G w0 X R I) (v:Value) (n:Nat) (xs:List Value) (hs:a.eval s=v) (hown:g.w.ownsRow w0.heap.size e size v n xs)
  (hne:∀m∈R,some m.1≠v.ownBlock) (hfr:∀f∈I,∀k o,f k=some o→some k≠v.ownBlock)
  (ad:Addr) (m c:Nat) (news:List Value) (hx:a.eval x=.slice (some ad) m c) (hl:news.length=m*size) (hnews:∀j u,news[j]?=some u→g.w.cell? (ad.add j)=some u) (h1:∀u∈news,u.oneCell'=true)
  (hm:0<m) (h63:n+m≤maxLen) (hbytes:(n+m)*bytes≤140737488355328)
  (h:∀b cap cs,∀g':G w0 X ((b,e,cs)::R) I,w0.heap.size≤b→Row e size (n+m) (xs++news) cap cs→wpList P ops Q rest (a.put o.dst (.slice (some ⟨b,0,none⟩) (n+m) cap)) g'.w):
  wpList P ops Q (o::rest) a g.w:=by
 refine wpList_append_own_at _ hgd s x t ho w0.heap.size e i z size bytes ht hi hz hsize hby hzs hsz v n xs hs hown ad m c news hx hl hnews h1 h63 hbytes g.chg.size ?_
 intro v' w' ho' hg hv hb
 rcases ho'.2 with⟨e1,e2⟩|⟨b,cap,cur,rfl,hb0,hh,hle,hmx,hcl,hct⟩
 ·exfalso;omega
 ·have hrow:∀k,v.ownBlock=some k→w0.heap.size≤k:=fun k hk=>(hown.lt k hk).1
  have hb':v.ownBlock=some b∨b=g.w.heap.size:=by
   rcases hb with hb|hb
   ·exact .inl hb.symm
   ·right;exact Option.some.inj hb
  obtain⟨g',rfl⟩:=g.grow (cs:=cur.toList) hg hrow hne hfr hb' (by rw[Array.toArray_toList];exact hh)
  exact h b cap cur.toList g' hb0 ⟨hle,hmx,by rw[Array.length_toList];exact hcl,hct,ho'.1⟩
theorem G.rowNil (g:G w0 X R I)(e:TypeId)(size:Nat):g.w.ownsRow w0.heap.size e size (.slice Option.none 0 0) 0 []:=World.ownsRow_nil _ _ _ _
theorem G.rowAt (g:G w0 X R I){e:TypeId}{size n cap b:Nat}{xs cs:List Value}(h:Row e size n xs cap cs)(hm:(b,e,cs)∈R)(hb:w0.heap.size≤b):g.w.ownsRow w0.heap.size e size (.slice (some ⟨b,0,Option.none⟩) n cap) n xs:=
 ⟨h.xl,.inr ⟨b,cap,cs.toArray,rfl,hb,g.own _ hm,h.le,h.max,by rw[List.size_toArray];exact h.len,h.take⟩⟩
/-- the row at the head of the blocks is forgotten, its world stays -/
theorem G.apart {b:Nat}{T:TypeId}{cs:List Value}(g:G w0 X ((b,T,cs)::R) I):(∀m∈R,some m.1≠some b)∧(∀f∈I,∀k o,f k=some o→some k≠some b):=by
 constructor
 ·intro m hm e
  have:=g.dist
  rw[List.map_cons,List.nodup_cons] at this
  exact this.1 (List.mem_map.2 ⟨m,hm,Option.some.inj e⟩)
 ·intro f hf k o hk e
  exact(g.keep f hf k o hk).2 (by rw[List.map_cons,List.mem_cons];exact .inl (Option.some.inj e))
theorem add_off (b j:Nat):(⟨b,0,none⟩:Addr).add j=⟨b,j,none⟩:=by
 unfold Addr.add;split
 ·next h=>subst h;rfl
 ·simp
/-- 'append' of what was written out, to a slice that is nil -/
theorem wpList_append_lit0 {P:Program}{ops:Array Oper}{rest:List Oper}{o:Oper}{a:Act}{Q:Exit→Act→World→Prop}(hgd:o.guard=none)(s x:Operand)(t:TypeId)
  (ho:o.op=.call {callee:=.builtin .append,args:= #[s,x],argTypes:= #[t,t]})
  (e:TypeId) (i:TypeInfo) (z:Value) (size bytes:Nat) (ht:P.underlying t=some (.slice e)) (hi:P.info? e=some i) (hz:i.zero=some z)
  (hsize:i.size=size) (hby:i.bytes=bytes) (hzs:z.cells.size=size) (hsz:0<size)
  {bs:Nat} {news:List Value} (g:G w0 X ((bs,e,news)::R) I) (hs:a.eval s=.slice none 0 0) (m:Nat) (hx:a.eval x=.slice (some ⟨bs,0,none⟩) m m) (hl:news.length=m*size) (h1:∀u∈news,u.oneCell'=true)
  (hm:0<m) (h63:m≤maxLen) (hbytes:m*bytes≤140737488355328)
  (h:∀b cap cs,∀g':G w0 X ((b,e,cs)::R) I,w0.heap.size≤b→Row e size m news cap cs→wpList P ops Q rest (a.put o.dst (.slice (some ⟨b,0,none⟩) m cap)) g'.w):
  wpList P ops Q (o::rest) a g.w:=by
 refine wpList_append_g hgd s x t ho e i z size bytes ht hi hz hsize hby hzs hsz g _ 0 [] hs (g.rowNil e size) (by intro m _ h;cases h) (by intro f _ k o _ h;cases h) ⟨bs,0,none⟩ m m news hx hl ?_ h1 hm (by omega) (by rw[Nat.zero_add];exact hbytes) ?_
 ·intro j u hj
  have:=g.own _ (List.mem_cons_self ..)
  simp only at this
  rw[add_off]
  simp[World.cell?,this,hj]
 ·intro b cap cs g' hb hr
  obtain⟨g2,e2⟩:=g'.less (M':=(b,e,cs)::R) (by exact(List.sublist_cons_self _ _).cons_cons _)
  rw[e2]
  rw[Nat.zero_add] at*
  exact h b cap cs g2 hb (by simpa using hr)
/-- 'append' of what was written out, to a slice that the walk owns -/
theorem wpList_append_lit {P:Program}{ops:Array Oper}{rest:List Oper}{o:Oper}{a:Act}{Q:Exit→Act→World→Prop}(hgd:o.guard=none)(s x:Operand)(t:TypeId)
  (ho:o.op=.call {callee:=.builtin .append,args:= #[s,x],argTypes:= #[t,t]})
  (e:TypeId) (i:TypeInfo) (z:Value) (size bytes:Nat) (ht:P.underlying t=some (.slice e)) (hi:P.info? e=some i) (hz:i.zero=some z)
  (hsize:i.size=size) (hby:i.bytes=bytes) (hzs:z.cells.size=size) (hsz:0<size)
  {bs b n cap:Nat} {news cs xs:List Value} (g:G w0 X ((bs,e,news)::(b,e,cs)::R) I) (hr:Row e size n xs cap cs) (hb:w0.heap.size≤b) (hs:a.eval s=.slice (some ⟨b,0,none⟩) n cap) (m:Nat) (hx:a.eval x=.slice (some ⟨bs,0,none⟩) m m) (hl:news.length=m*size) (h1:∀u∈news,u.oneCell'=true)
  (hm:0<m) (h63:n+m≤maxLen) (hbytes:(n+m)*bytes≤140737488355328)
  (h:∀b cap cs,∀g':G w0 X ((b,e,cs)::R) I,w0.heap.size≤b→Row e size (n+m) (xs++news) cap cs→wpList P ops Q rest (a.put o.dst (.slice (some ⟨b,0,none⟩) (n+m) cap)) g'.w):
  wpList P ops Q (o::rest) a g.w:=by
 have hown:=g.rowAt hr (List.mem_cons_of_mem _ (List.mem_cons_self ..)) hb
 have hd:=g.dist
 have hk:=g.keep
 obtain⟨g1,e1⟩:=g.less (M':=(bs,e,news)::R) (by exact(List.sublist_cons_self _ _).cons_cons _)
 rw[e1] at hown ⊢
 rw[List.map_cons,List.map_cons,List.nodup_cons,List.nodup_cons,List.mem_cons] at hd
 refine wpList_append_g hgd s x t ho e i z size bytes ht hi hz hsize hby hzs hsz g1 _ n xs hs hown ?_ ?_ ⟨bs,0,none⟩ m m news hx hl ?_ h1 hm h63 hbytes ?_
 ·intro m hm e'
  have e3:m.1=b:=Option.some.inj e'
  rcases List.mem_cons.1 hm with rfl|hm
  ·exact hd.1 (.inl e3)
  ·exact hd.2.1 (List.mem_map.2 ⟨m,hm,e3⟩)
 ·intro f hf k o hk' e'
  have e3:k=b:=Option.some.inj e'
  exact(hk f hf k o hk').2 (by rw[List.map_cons,List.map_cons,List.mem_cons,List.mem_cons];exact .inr (.inl e3))
 ·intro j u hj
  have:=g1.own _ (List.mem_cons_self ..)
  simp only at this
  rw[add_off]
  simp[World.cell?,this,hj]
 ·intro b cap cs g' hb hr
  obtain⟨g2,e2⟩:=g'.less (M':=(b,e,cs)::R) (by exact(List.sublist_cons_self _ _).cons_cons _)
  rw[e2]
  exact h b cap cs g2 hb hr
end
open Go.RowKit NL
section
variable {w0:World}{X:List Nat}{R:List Blk}{I:List Frag}
theorem Row.empty (e:TypeId)(size:Nat):Row e size 0 [] 0 []:=⟨Nat.le_refl _,by decide,by simp,by simp,by simp⟩
theorem wpList_append_e {P:Program}{ops:Array Oper}{rest:List Oper}{o:Oper}{a:Act}{Q:Exit→Act→World→Prop}(hgd:o.guard=none)(s x:Operand)(t:TypeId)
  (ho:o.op=.call {callee:=.builtin .append,args:= #[s,x],argTypes:= #[t,t]})
  (e:TypeId) (i:TypeInfo) (z:Value) (size bytes:Nat) (ht:P.underlying t=some (.slice e)) (hi:P.info? e=some i) (hz:i.zero=some z)
  (hsize:i.size=size) (hby:i.bytes=bytes) (hzs:z.cells.size=size) (hsz:0<size)
  {bk:Nat} (g:G w0 X ((bk,e,[])::R) I) (hb:w0.heap.size≤bk) (hs:a.eval s=.slice (some ⟨bk,0,none⟩) 0 0)
  (ad:Addr) (m c:Nat) (news:List Value) (hx:a.eval x=.slice (some ad) m c) (hl:news.length=m*size) (hnews:∀j u,news[j]?=some u→g.w.cell? (ad.add j)=some u) (h1:∀u∈news,u.oneCell'=true)
  (hm:0<m) (h63:m≤maxLen) (hbytes:m*bytes≤140737488355328)
  (h:∀b cap cs,∀g':G w0 X ((b,e,cs)::R) I,w0.heap.size≤b→Row e size m news cap cs→wpList P ops Q rest (a.put o.dst (.slice (some ⟨b,0,none⟩) m cap)) g'.w):
  wpList P ops Q (o::rest) a g.w:=by
 have hown:=g.rowAt (Row.empty e size) (List.mem_cons_self ..) hb
 have hap:=g.apart
 obtain⟨g1,e1⟩:=g.less (M':=R) (List.sublist_cons_self _ _)
 rw[e1] at hown hnews ⊢
 refine wpList_append_g hgd s x t ho e i z size bytes ht hi hz hsize hby hzs hsz g1 _ 0 [] hs hown hap.1 hap.2 ad m c news hx hl hnews h1 hm (by omega) (by rw[Nat.zero_add];exact hbytes) ?_
 intro b cap cs g' hb' hr
 rw[Nat.zero_add] at*
 exact h b cap cs g' hb' (by simpa using hr)
end
theorem sl_row {b cap n:Nat}{T:TypeId}{cs:List Value}{l:List Nat}(h:Row T 1 n (u32s l) cap cs)(hn:l.length=n)(hlen:n≤140737488355328)(hk:Ok l):(blkF b (.cells cs.toArray T (0,0))).Sl (some ⟨b,0,none⟩) cap l:=by
 refine⟨by rw[hn];exact h.le,h.max,by omega,?_,hk⟩
 intro hl
 refine⟨b,0,rfl,cs.toArray,T,(0,0),by simp[blkF],fun j hj=>?_⟩
 rw[Nat.zero_add,List.getElem?_toArray,←u32s_getD hj,←h.take,List.getElem?_take_of_lt (by omega)]
/-- the cells of a slice of limbs, read as a list -/
theorem lim_news {F:Frag}{b o:Nat}{l:List Nat}{w0:World}{X:List Nat}{M:List Blk}{I:List Frag}(g:G w0 X M I)(hF:F∈I)(h:F.Lim (some ⟨b,o,none⟩) l):∀j u,(u32s l)[j]?=some u→g.w.cell? ((⟨b,o,none⟩:Addr).add j)=some u:=by
 intro j u hj
 have hl:j<l.length:=by
  rw[←u32s_len l]
  exact(List.getElem?_eq_some_iff.1 hj).1
 obtain⟨b',o',e,hc⟩:=g.cell_of hF h (by omega)
 cases e
 rw[u32s_getD hl] at hj
 cases hj
 have ea:(⟨b,o,none⟩:Addr).add j=⟨b,o+j,none⟩:=by
  unfold Addr.add
  split
  ·next h0=>subst h0;rfl
  ·rfl
 rw[ea]
 exact hc j hl
/-- a call that makes two parts -/
theorem G.new2_ex {w0:World}{X:List Nat}{M:List Blk}{I:List Frag}(g:G w0 X M I){w1:World}{F1 F2:Frag}(h1:New g.w w1 F1)(h2:New g.w w1 F2):∃g':G w0 X M (F1::F2::I),w1=g'.w:=by
 obtain⟨g',rfl⟩:=g.new_ex h2
 refine⟨g'.see F1 h1.sub fun k o hk=>⟨.inl (Nat.le_trans g.chg.size (h1.new k o hk)),fun hm=>?_⟩,rfl⟩
 obtain⟨m,hm2,e⟩:=List.mem_map.1 hm
 have:=g.lt hm2
 have:=h1.new k o hk
 omega
/-- two numbers in new memory -/
def RNN (q r:Nat)(w:World)(e:Ending)(w':World):Prop:=∃A1 c1 F1 A2 c2 F2,e=.returned (.tuple #[.slice A1 (limbs q).length c1,.slice A2 (limbs r).length c2])∧F1.Sl A1 c1 (limbs q)∧F2.Sl A2 c2 (limbs r)∧New w w' F1∧New w w' F2
theorem G.lessI {w0:World}{X:List Nat}{M:List Blk}{I I':List Frag}(g:G w0 X M I)(h:∀f∈I',f∈I):∃g':G w0 X M I',g.w=g'.w:=
 ⟨⟨g.w,g.chg,g.own,g.may,g.dist,fun f hf=>g.sub f (h f hf),fun f hf=>g.keep f (h f hf)⟩,rfl⟩
section
variable {w0:World}{X:List Nat}{M:List Blk}{I:List Frag}
theorem G.setRow_ex (g:G w0 X M I)(n:Nat){b:Nat}{T:TypeId}{cs:List Value}(hn:M[n]?=some (b,T,cs))(cs':List Value):
  ∃g':G w0 X (M.set n (b,T,cs')) I,g.w.setRow b cs'.toArray=g'.w:=by
 have hm:=g.own _ (List.mem_of_getElem? hn)
 refine⟨g.turn n hn cs' (g.w.setRow b cs'.toArray) ⟨g.chg.os,g.chg.tape,g.chg.output,by rw[setRow_size];exact g.chg.size,fun k hk hx=>?_⟩ (setRow_heap _ _ _ _ _ _ hm) (fun k _ hne=>setRow_other _ _ _ _ hne),rfl⟩
 rw[setRow_other _ _ _ _ (by
  rintro rfl
  rcases g.may _ (List.mem_of_getElem? hn) with h|h
  ·simp only at h;omega
  ·exact hx h)]
 exact g.chg.block k hk hx
theorem wpList_copy_g {P:Program}{ops:Array Oper}{rest:List Oper}{o:Oper}{a:Act}{Q:Exit→Act→World→Prop}(hgd:o.guard=none)(d s:Operand)(dT sT:TypeId)
  (ho:o.op=.call {callee:=.builtin .copy,args:= #[d,s],argTypes:= #[dT,sT]}) (elem:TypeId) (hu:P.underlying dT=some (.slice elem)) (hsz:(P.info? elem).map (·.size)=some 1)
  (dp sp:Option Addr) (dLen dCap sLen sCap:Nat) (hd:a.eval d=.slice dp dLen dCap) (hs:a.eval s=.slice sp sLen sCap)
  (g:G w0 X M I) (n:Nat) {b:Nat} {T:TypeId} {cur:List Value} (hM:M[n]?=some (b,T,cur)) (off:Nat) (cs:List Value) (hn:cs.length=Nat.min sLen dLen)
  (hpos:0<cs.length→dp=some ⟨b,off,none⟩∧∃ad,sp=some ad∧∀j v,cs[j]?=some v→g.w.cell? (ad.add j)=some v)
  (hfit:off+cs.length≤cur.length) (h1:∀v∈cs,v.oneCell'=true)
  (h:∀g':G w0 X (M.set n (b,T,splice cur off cs)) I,wpList P ops Q rest (a.put o.dst (goInt cs.length)) g'.w):
  wpList P ops Q (o::rest) a g.w:=by
 by_cases h0:cs.length=0
 ·obtain rfl:cs=[]:=List.eq_nil_of_length_eq_zero h0
  refine wpList_copy_nothing hgd d s dT sT ho elem hu hsz dp sp dLen dCap sLen sCap hd hs (by simpa using hn.symm) ?_
  have e:M.set n (b,T,splice cur off [])=M:=by
   rw[show splice cur off []=cur by simp[splice]]
   have hl:n<M.length:=(List.getElem?_eq_some_iff.1 hM).1
   have hv:M[n]=(b,T,cur):=(List.getElem?_eq_some_iff.1 hM).2
   rw[←hv]
   exact List.set_getElem_self hl
  obtain⟨g2,e2⟩:=g.as e.symm
  have:=h g2
  rw[←e2] at this
  exact this
 ·obtain⟨rfl,ad,rfl,hsrc⟩:=hpos (by omega)
  have hg:=g.own _ (List.mem_of_getElem? hM)
  refine wpList_copy_own hgd d s dT sT ho elem hu hsz b off dLen dCap ad sLen sCap hd hs cur.toArray T hg cs hn hsrc (by simpa using hfit) h1 ?_
  obtain⟨g',e⟩:=g.setRow_ex n hM (splice cur off cs)
  have:=h g'
  rw[←e] at this
  exact this
end
end Go.Proofs.YthhbbnfnejjpiaaGreatDoor.GW
