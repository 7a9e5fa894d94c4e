/- Plain facts and contracts of functions of the program, out of walks. Their conditions stand ahead of each. -/
import Derived.Test.YthhbbnfnejjpiaaGreatDoorNm1
import Derived.Lib.BitFns
import Derived.Lib.ItoaNum
import Derived.Below
import Derived.Deep.Draws
import Derived.Laws.CopyOwn
import Derived.Laws.NewBlocks
import Derived.Laws.OwnMore
import Derived.Laws.Rows
import Derived.Maps.AppendAt
import Derived.OrdersHeld
import Derived.WalkKit
import Derived.Deep.RegionHeld3
import Derived.OrdersIn
import Derived.RangeFuncNested
import Derived.Laws.CopyRow
import Derived.Lib.TrailingZeros
import Derived.Deep.RegionLaw
import Derived.OwnWalk
import Derived.RangeFuncWrites
set_option linter.unusedVariables false
set_option linter.unusedSimpArgs false
namespace Go.Proofs.YthhbbnfnejjpiaaGreatDoor.NL
open Go
theorem getD_drop (l:List Nat)(o i:Nat):(l.drop o).getD i 0=l.getD (o+i) 0:=by
 rw[List.getD_eq_getElem?_getD,List.getD_eq_getElem?_getD,List.getElem?_drop]
/-- what 'take' has done after i limbs -/
structure Tk (out d:List Nat)(o t i c1 c2:Nat)(out':List Nat):Prop where
 len:out'.length=out.length
 ok:Ok out'
 off:∀j,(j<o∨o+i≤j)→out'.getD j 0=out.getD j 0
 hc1:c1=val (d.take i)*t/4294967296^i
 hc2:c2≤1
 eq:val ((out'.drop o).take i)+val (d.take i)*t=val ((out.drop o).take i)+4294967296^i*(c1+c2)
theorem ext_getD {l m:List Nat}(hl:l.length=m.length)(h:∀j,l.getD j 0=m.getD j 0):l=m:=by
 apply List.ext_getElem hl
 intro j h1 h2
 have:=h j
 rwa[List.getD_eq_getElem?_getD,List.getD_eq_getElem?_getD,List.getElem?_eq_getElem h1,List.getElem?_eq_getElem h2] at this
/-- long division: j limbs of the quotient are still to be found -/
structure Dv (V D n m j:Nat)(r q:List Nat):Prop where
 rlen:r.length=n+m
 rok:Ok r
 qlen:q.length=m
 qok:Ok q
 qz:∀i,i<j→q.getD i 0=0
 eq:val r+val q*D=V
 lt:val (r.drop j)<D
theorem Dv.start {V D n m:Nat}{r:List Nat}(h1:r.length=n+m)(h2:Ok r)(h3:val r=V)(h4:V<4294967296^m*D):Dv V D n m m r (List.replicate m 0):=
 ⟨h1,h2,by simp,Ok.zeros _,fun i _=>by simp[List.getElem?_replicate];split<;>rfl,by rw[val_zeros];omega,by
  rw[←val_div r h2,h3]
  exact Nat.div_lt_of_lt_mul h4⟩
/-- the limbs that are divided -/
theorem Dv.seg {V D n m j:Nat}{r q:List Nat}(h:Dv V D n m (j+1) r q)(hD:D≤4294967296^n):
  val ((r.drop j).take (n+1))=val (r.drop j)∧val (r.drop j)<4294967296*D∧val (r.drop (j+(n+1)))=0:=by
 have e:=val_drop_getD r j
 have hl:=h.lt
 have hx:=h.rok.getD j
 have h1:val (r.drop j)<4294967296*D:=by omega
 have h2:4294967296*D≤4294967296^(n+1):=by
  rw[Nat.pow_succ,Nat.mul_comm];exact Nat.mul_le_mul_right _ hD
 refine⟨?_,h1,?_⟩
 ·rw[←val_mod _ (h.rok.drop j),Nat.mod_eq_of_lt (by omega)]
 ·rw[←List.drop_drop,←val_div _ (h.rok.drop j),Nat.div_eq_of_lt (by omega)]
/-- the guess from the two highest limbs is not too small -/
theorem Dv.guess {V n m j:Nat}{r q d:List Nat}(h:Dv V (val d) (n+1) m (j+1) r q)(hd:Ok d)(hn:d.length=n+1)(htop:0<d.getD n 0):
  val (r.drop j)/val d≤(r.getD (j+(n+1)) 0*4294967296+r.getD (j+n) 0)/d.getD n 0∧val (r.drop j)/val d<4294967296:=by
 have hD:val d≤4294967296^(n+1):=by have:=val_lt hd;rw[hn] at this;omega
 obtain⟨e1,e2,e3⟩:=h.seg hD
 have hd1:4294967296^n*d.getD n 0≤val d:=by
  have:=val_split d n (by omega)
  rw[val_drop_getD] at this
  have h2:4294967296^n*d.getD n 0≤4294967296^n*(d.getD n 0+4294967296*val (d.drop (n+1))):=Nat.mul_le_mul_left _ (by omega)
  omega
 have hdp:0<val d:=Nat.lt_of_lt_of_le (Nat.mul_pos (Nat.pow_pos (by decide)) htop) hd1
 refine⟨guess_ge (R:=val (r.drop j)) htop hd1 ?_ (Nat.div_mul_le_self _ _),quot_lt e2⟩
 have s:=val_append ((r.drop j).take n) ((r.drop j).drop n)
 rw[List.take_append_drop] at s
 rw[List.drop_drop,val_drop_getD r (j+n),val_drop_getD r (j+n+1),show j+n+1+1=j+(n+1+1) by omega,e3] at s
 have b:=val_lt ((h.rok.drop j).take n)
 have hlen:4294967296^((r.drop j).take n).length≤4294967296^n:=Nat.pow_le_pow_right (by decide) (by rw[List.length_take];omega)
 have hlen2:((r.drop j).take n).length=n∨val ((r.drop j).drop n)=0:=by
  rcases Nat.lt_or_ge (r.drop j).length n with hh|hh
  ·right;rw[List.drop_of_length_le (by omega)];rfl
  ·left;rw[List.length_take];omega
 rw[show j+(n+1)=j+n+1 by omega]
 rcases hlen2 with hh|hh
 ·rw[hh] at s b
  have:4294967296^n*(r.getD (j+n) 0+4294967296*(r.getD (j+n+1) 0+4294967296*0))=4294967296^n*(r.getD (j+n+1) 0*4294967296+r.getD (j+n) 0):=by congr 1;omega
  rw[s,this,Nat.mul_add (4294967296^n) (r.getD (j+n+1) 0*4294967296+r.getD (j+n) 0) 1,Nat.mul_one]
  omega
 ·rw[List.drop_drop,val_drop_getD,val_drop_getD r (j+n+1),show j+n+1+1=j+(n+1+1) by omega,e3] at hh
  rw[hh,Nat.mul_zero] at s
  have h5:4294967296^n*1≤4294967296^n*(r.getD (j+n+1) 0*4294967296+r.getD (j+n) 0+1):=Nat.mul_le_mul_left _ (by omega)
  omega
theorem Dv.next {V D n m j:Nat}{r q r':List Nat}{x:Nat}(h:Dv V D n m (j+1) r q)(hD:D≤4294967296^n)(hj:j<m)(hx:x<4294967296)(hxe:x=val (r.drop j)/D)(hDp:0<D)
  (hl:r'.length=r.length) (hok:Ok r') (ho:∀i,(i<j∨j+(n+1)≤i)→r'.getD i 0=r.getD i 0) (hv:val ((r'.drop j).take (n+1))=val ((r.drop j).take (n+1))-D*x):
  Dv V D n m j r' (q.set j x):=by
 obtain⟨e1,e2,e3⟩:=h.seg hD
 have hrl:=h.rlen
 have hql:=h.qlen
 have hmx:D*x≤val (r.drop j):=by rw[hxe];exact Nat.mul_div_le _ _
 have hmod:val (r.drop j)-D*x<D:=by
  have:=Nat.mod_lt (val (r.drop j)) hDp
  have h2:=Nat.div_add_mod (val (r.drop j)) D
  rw[←hxe] at h2
  omega
 have ed:r'.drop (j+(n+1))=r.drop (j+(n+1)):=by
  apply ext_getD (by simp[hl])
  intro i
  rw[getD_drop,getD_drop]
  exact ho _ (.inr (by omega))
 have et:r'.take j=r.take j:=by
  apply ext_getD (by simp[hl])
  intro i
  rcases Nat.lt_or_ge i j with hi|hi
  ·rw[List.getD_eq_getElem?_getD,List.getD_eq_getElem?_getD,List.getElem?_take_of_lt hi,List.getElem?_take_of_lt hi,←List.getD_eq_getElem?_getD,←List.getD_eq_getElem?_getD]
   exact ho i (.inl hi)
  ·rw[List.getD_eq_getElem?_getD,List.getD_eq_getElem?_getD,List.getElem?_eq_none (by simp;omega),List.getElem?_eq_none (by simp;omega)]
 have ev:val (r'.drop j)=val (r.drop j)-D*x:=by
  have s:=val_append ((r'.drop j).take (n+1)) ((r'.drop j).drop (n+1))
  rw[List.take_append_drop,List.drop_drop,ed,e3,hv,e1] at s
  omega
 refine⟨by omega,hok,by rw[List.length_set];exact h.qlen,h.qok.set _ hx,?_,?_,by omega⟩
 ·intro i hi
  rw[getD_set_ne (by omega)]
  exact h.qz i (by omega)
 ·have heq:=h.eq
  have hq:=val_set' (out:=q) (i:=j) (by omega) x
  rw[h.qz j (by omega),Nat.mul_zero,Nat.add_zero] at hq
  rw[hq]
  have s1:=val_split r j (by omega)
  have s2:=val_split r' j (by omega)
  rw[et,ev,Nat.mul_sub] at s2
  have h6:4294967296^j*(D*x)≤4294967296^j*val (r.drop j):=Nat.mul_le_mul_left _ hmx
  rw[Nat.add_mul,Nat.mul_assoc,Nat.mul_comm x D]
  omega
theorem Dv.stop {a b u n m:Nat}{r q:List Nat}(h:Dv (a*2^u) (b*2^u) n m 0 r q)(hb:0<b):val q=a/b∧val r=a%b*2^u:=by
 have heq:=h.eq
 have hlt:=h.lt
 rw[List.drop_zero] at hlt
 have hp:=Nat.two_pow_pos u
 have hbp:0<b*2^u:=Nat.mul_pos hb hp
 have e1:a*2^u/(b*2^u)=val q:=by
  rw[←heq,Nat.mul_comm (val q),Nat.add_mul_div_left _ _ hbp,Nat.div_eq_of_lt hlt,Nat.zero_add]
 have e2:a*2^u%(b*2^u)=val r:=by
  rw[←heq,Nat.mul_comm (val q),Nat.add_mul_mod_self_left,Nat.mod_eq_of_lt hlt]
 rw[Nat.mul_div_mul_right _ _ hp] at e1
 rw[Nat.mul_mod_mul_right] at e2
 exact⟨e1.symm,e2.symm⟩
/-- the shift that makes the highest bit 1 -/
theorem norm_up {b n:Nat}(hb:b≠0)(hn:(limbs b).length=n+1):∃u,u=32-nb ((limbs b).getD n 0)∧u<32∧(limbs (b*2^u)).length=n+1∧2^(32*(n+1)-1)≤b*2^u:=by
 have h1:=nb_top hn
 have ht:=trim_limbs b n hn
 have h2:=nb_pos ht
 have h3:nb ((limbs b).getD n 0)≤32:=(nb_le _ _).2 (by have:=(ok_limbs b).getD n;omega)
 refine⟨_,rfl,by omega,?_,?_⟩
 ·have hlt:b*2^(32-nb ((limbs b).getD n 0))<4294967296^(n+1):=by
   have:=nb_lt b
   rw[pow32]
   have h4:2^(32*(n+1))=2^nb b*2^(32-nb ((limbs b).getD n 0)):=by rw[←Nat.pow_add];congr 1;omega
   rw[h4]
   exact Nat.mul_lt_mul_of_pos_right this (Nat.two_pow_pos _)
  have l1:=(limbs_len (b*2^(32-nb ((limbs b).getD n 0))) (n+1)).2 hlt
  have l2:=limbs_len_mono (m:=b) (n:=b*2^(32-nb ((limbs b).getD n 0))) (Nat.le_mul_of_pos_right _ (Nat.two_pow_pos _))
  omega
 ·have:=nb_ge hb
  have h4:2^(32*(n+1)-1)=2^(nb b-1)*2^(32-nb ((limbs b).getD n 0)):=by rw[←Nat.pow_add];congr 1;omega
  rw[h4]
  exact Nat.mul_le_mul_right _ this
theorem norm_lt {a b u n m:Nat}(hu:u<32)(hD:2^(32*(n+1)-1)≤b*2^u)(hm:(limbs a).length+1=n+1+m):a*2^u<4294967296^m*(b*2^u):=by
 have h1:=(limbs_len a _).1 (Nat.le_refl _)
 have h2:a*2^u<4294967296^(limbs a).length*2^u:=Nat.mul_lt_mul_of_pos_right h1 (Nat.two_pow_pos u)
 have h3:4294967296^(limbs a).length*2^u≤4294967296^m*2^(32*(n+1)-1):=by
  rw[pow32,pow32,←Nat.pow_add,←Nat.pow_add]
  exact Nat.pow_le_pow_right (by decide) (by omega)
 have h4:=Nat.mul_le_mul_left (4294967296^m) hD
 omega
/-- the shifted number, with zeros behind it -/
theorem pad_limbs {a u k:Nat}(hu:u<32)(hk:(limbs a).length+1=k):(limbs (a*2^u)).length≤k:=by
 have h1:=(limbs_len a _).1 (Nat.le_refl _)
 refine(limbs_len _ _).2 ?_
 have h2:a*2^u<4294967296^(limbs a).length*2^u:=Nat.mul_lt_mul_of_pos_right h1 (Nat.two_pow_pos u)
 have h3:(2:Nat)^u≤2^32:=Nat.pow_le_pow_right (by decide) (by omega)
 have h4:=Nat.mul_le_mul_left (4294967296^(limbs a).length) h3
 rw[←hk,Nat.pow_succ]
 omega
theorem val_pad (l:List Nat)(k:Nat):val (l++List.replicate k 0)=val l:=by rw[val_append,val_zeros,Nat.mul_zero,Nat.add_zero]
end Go.Proofs.YthhbbnfnejjpiaaGreatDoor.NL
namespace Go.Proofs.YthhbbnfnejjpiaaGreatDoor.GW
open Go
open Go.RowKit NL
theorem seg_len {out:List Nat}{o k:Nat}(hk:o+k≤out.length):((out.drop o).take k).length=k:=by
 rw[List.length_take,List.length_drop];omega
theorem seg_getD {out:List Nat}{o k j:Nat}(hj:j<k):((out.drop o).take k).getD j 0=out.getD (o+j) 0:=by
 rw[getD_take hj,getD_drop]
theorem sl_seg {b:Nat}{T:TypeId}{out:List Nat}{fr:Nat×Nat}{o k c:Nat}(hk:o+k≤out.length)(hc:k≤c)(hc2:c≤140737488355328)(ho:Ok out):(blkF b (.cells (u32s out).toArray T fr)).Sl (some ⟨b,o,none⟩) c ((out.drop o).take k):=by
 have hl:=seg_len hk
 refine⟨by omega,by omega,by omega,?_,(ho.drop o).take k⟩
 intro _
 refine⟨b,o,rfl,(u32s out).toArray,T,fr,by simp[blkF],fun j hj=>?_⟩
 rw[List.getElem?_toArray,seg_getD (by omega)]
 exact u32s_getD (by omega)
theorem splice_u32s (l:List Nat)(o:Nat)(s:List Nat):splice (u32s l) o (u32s s)=u32s (l.take o++(s++l.drop (o+s.length))):=by
 simp[splice,u32s]
end Go.Proofs.YthhbbnfnejjpiaaGreatDoor.GW
namespace Go.Proofs.YthhbbnfnejjpiaaGreatDoor.GW
open Go
open Go Go.RowKit
def noDefer (ops:Array Oper):Bool:=ops.all fun o=>match o.op with| .defer _=>false|_=>true
theorem noDefer_at {ops:Array Oper}(h:noDefer ops=true){i:Nat}{o:Oper}(ho:ops[i]?=some o):∀c,o.op≠ .defer c:=by
 intro c e
 have hm:=Array.mem_of_getElem? ho
 have:=Array.all_eq_true_iff_forall_mem.1 h o hm
 rw[e] at this
 cases this
theorem RowsIn_next {P:Program}{row:String}{args:Array Value}{w:World}{R R':Value→World→Prop}(h:Rows P row args w R)(hr:∀v w',R v w'→R' v w'):Rows P row args w R':=h.mono hr
theorem rowsIn_wide {P:Program}{row:String}{args:Array Value}{w:World}{R:Value→World→Prop}{l n:Nat}(h:Rows P row args w R):RowsIn (Fence.wide.inRound l) n P row args w R:=by
 intro c cs _
 obtain⟨v,w',r,s⟩:=h c cs
 exact⟨v,w',r,stepsIn_wide.2 s⟩
theorem upon_inRound {P:Program}{o:Oper}{a:Act}{next next':Act→World→Prop}{Q:Exit→Act→World→Prop}{l n:Nat}(hn:∀a w,next a w→next' a w)(r:Result Next)(h:o.upon P a next Q r):
  o.uponIn (Fence.wide.inRound l) n P a next' Q r:=by
 cases r with
 |ok x w=>
  cases x
  case value v=>exact hn _ _ h
  case skip=>exact hn _ _ h
  case defer d=>exact hn _ _ h
  case enter f args=>
   refine⟨fun h=>(by cases h),CallsIn.inRound l (callsIn_wide.2 ?_)⟩
   refine Calls.mono h ?_
   intro e w' he
   cases e with
   |returned v=>exact hn _ _ he
   |panicked c=>exact he
   |outgrown=>exact he
  case row r args=>exact⟨fun h=>(by cases h),rowsIn_wide (RowsIn_next h (fun v w' h'=>hn _ _ h'))⟩
  all_goals exact False.elim h
 |halt x w=>
  cases x<;>first|exact h|exact False.elim h
theorem wpAny_inRound {P:Program}{md:Region.Mode}{ops:Array Oper}{Q:Exit→Act→World→Prop}{l n:Nat}(hlo:¬ LetsOut Q)(hnd:noDefer ops=true):
  ∀(fuel:Nat) (listed:Array Bool) (a:Act) (w:World),wpAny P md ops Q fuel listed a w→wpAnyIn (Fence.wide.inRound l) n P md ops Q fuel listed a w
 |0,_,_,_,h=>h
 |fuel+1,listed,a,w,h=>by
  refine⟨h.1,fun i hi=>?_⟩
  have hs:=h.2 i hi
  unfold wpOp at hs
  unfold wpOpIn
  cases ho:ops[i]? with
  |none=>rw[ho] at hs;exact wpAny_inRound hlo hnd fuel _ a w hs
  |some o=>
   rw[ho] at hs
   dsimp only at hs ⊢
   split
   ·next hw=>
    rw[if_pos hw] at hs
    rcases hs with hs|hs
    ·refine⟨fun _ _=>trivial,?_⟩
     rw[Oper.semAt_eq _ _ _ (noDefer_at hnd ho)]
     exact upon_inRound (fun a' w' h'=>wpAny_inRound hlo hnd fuel _ a' w' h') _ hs
    ·exact absurd hs.2 hlo
   ·next hw=>
    rw[if_neg hw] at hs
    exact⟨fun _ _=>trivial,wpAny_inRound hlo hnd fuel _ _ w hs⟩
theorem wpIn_round_held {P:Program}{ops:Array Oper}{S:World→Prop}{Q:Exit→Act→World→Prop}{l n id:Nat}{a:Act}{w:World}(hm:P.follows .mixedOrders=true)(hlo:¬ LetsOut Q)(hnd:noDefer ops=true)(hS:S w.drew)
  (h:S w.drew→wpAnyH P .any ops Q S ops.size (Array.replicate ops.size false) a w.drew):(Code.region id ops true).wpIn (Fence.wide.inRound l) n P Q a w:=
 wpIn_region_any hm (wpAny_inRound hlo hnd _ _ _ _ (wpAny_of_held _ _ _ _ (h hS)))
end Go.Proofs.YthhbbnfnejjpiaaGreatDoor.GW
namespace Go.Proofs.YthhbbnfnejjpiaaGreatDoor.NL
open Go
theorem mod_div_pow (t s:Nat)(hs:s≤32):t*2^s%18446744073709551616/4294967296=t/2^(32-s)%4294967296:=by
  rw[show(18446744073709551616:Nat)=4294967296*4294967296 by decide,Nat.mod_mul_right_div_self]
  congr 1
  rw[show(4294967296:Nat)=2^s*2^(32-s) by rw[←Nat.pow_add,show s+(32-s)=32 by omega],←Nat.div_div_eq_div_mul,Nat.mul_div_cancel _ (Nat.two_pow_pos s)]
theorem up_limb0 {l:List Nat}(h:Ok l)(k s:Nat)(hs:s<32):((0::l).getD k 0+4294967296*(0::l).getD (k+1) 0)*2^s%18446744073709551616/4294967296=val l*2^s/4294967296^k%4294967296:=by
  rw[mod_div_pow _ _ (by omega)]
  have h':Ok (0::l):=Ok.cons (by decide) h
  have hv:val (0::l)=4294967296*val l:=by simp[val]
  by_cases h0:s=0
  · subst h0
    rw[Nat.pow_zero,Nat.mul_one]
    have hx:=h'.getD k
    have hy:=h'.getD (k+1)
    have e:=getD_val l h k
    have e2:(0::l).getD (k+1) 0=l.getD k 0:=by simp
    rw[←e,←e2]
    generalize (0::l).getD k 0=x at*
    generalize (0::l).getD (k+1) 0=y at*
    omega
  · rw[down_limb h' k (32-s) (by omega),hv]
    congr 2
    rw[show(4294967296:Nat)=2^(32-s)*2^s by rw[←Nat.pow_add,show 32-s+s=32 by omega],Nat.mul_assoc,Nat.mul_div_cancel_left _ (Nat.two_pow_pos _),Nat.mul_comm]
theorem up_end {pre l:List Nat}{n s:Nat}(hl:Ok l)(hn:l.length<n)(hs:s<32)(h:val pre=val l*2^s%4294967296^n):val pre=val l*2^s:=by
  rw[h]
  apply Nat.mod_eq_of_lt
  have h1:=val_lt hl
  have h2:4294967296^(l.length+1)≤4294967296^n:=Nat.pow_le_pow_right (by decide) hn
  rw[Nat.pow_succ] at h2
  have h3:val l*2^s<4294967296^l.length*4294967296:=by
    have a:2^s≤4294967296:=by
      have:=Nat.pow_le_pow_right (n:=2) (by decide) (show s≤32 by omega)
      simpa using this
    calc val l*2^s≤val l*4294967296:=Nat.mul_le_mul_left _ a
      _<4294967296^l.length*4294967296:=Nat.mul_lt_mul_of_pos_right h1 (by decide)
  omega
end Go.Proofs.YthhbbnfnejjpiaaGreatDoor.NL
namespace Go.Proofs.YthhbbnfnejjpiaaGreatDoor.GW
open Go
open Go.RowKit NL
theorem zeroCells_one (z:Value)(n:Nat):(Builtin.zeroCells #[z] n).toList=List.replicate n z:=by
 apply List.ext_getElem?
 intro j
 unfold Builtin.zeroCells
 simp only[List.size_toArray,List.length_cons,List.length_nil,Nat.zero_add,Nat.mul_one,Nat.mod_one]
 rw[Array.getElem?_toList,List.getElem?_replicate]
 by_cases h:j<n
 ·simp[h]
 ·simp[h]
section
variable {w0:World}{X:List Nat}{M:List Blk}{I:List Frag}
theorem wpList_clear_g {P:Program}{ops:Array Oper}{rest:List Oper}{o:Oper}{a:Act}{Q:Exit→Act→World→Prop}(hgd:o.guard=none)(s:Operand)(sT:TypeId)
  (ho:o.op=.call {callee:=.builtin .clear,args:= #[s],argTypes:= #[sT]}) (elem:TypeId) (hu:P.underlying sT=some (.slice elem)) (z zc:Value) (hz:∀w,(zeroValue elem).run P w=.ok z w) (hz1:z.cells= #[zc]) (h1:zc.oneCell'=true)
  (b off n cap:Nat) (hs:a.eval s=.slice (some ⟨b,off,none⟩) n cap) (hn:0<n)
  (g:G w0 X M I) (i:Nat) {T:TypeId} {cur:List Value} (hM:M[i]?=some (b,T,cur)) (hfit:off+n≤cur.length)
  (h:∀g':G w0 X (M.set i (b,T,splice cur off (List.replicate n zc))) I,wpList P ops Q rest (a.put o.dst (.tuple #[])) g'.w):
  wpList P ops Q (o::rest) a g.w:=by
 have hg:=g.own _ (List.mem_of_getElem? hM)
 refine wpList_plain hgd fun K hK=>?_
 obtain⟨m,rfl⟩:∃m,n=m+1:=⟨n-1,by omega⟩
 have hst:=run_storeCells_at P b off T (List.replicate (m+1) zc) 0 cur.toArray g.w hg (by simpa using hfit) (fun v hv=>by rw[List.eq_of_mem_replicate hv];exact h1)
 rw[Nat.add_zero,List.length_replicate] at hst
 have hrun:(Builtin.clear_ #[sT] o.type #[.slice (some ⟨b,off,none⟩) (m+1) cap]).run P g.w=.ok (.tuple #[]) (g.w.setRow b (splice cur off (List.replicate (m+1) zc)).toArray):=by
  simp only[Builtin.clear_,Sem.run_bind,run_underlying hu,Result.andThen_ok,hz,hz1,zeroCells_one,hst,Sem.run_pure]
  simp[splice,run_underlying hu,hz,hz1,zeroCells_one,hst,Result.andThen]
 unfold Oper.wp
 simp[execOp,ho,resolve,invoke,builtin,hs,hrun,Result.andThen]
 refine hK _ _ ?_
 obtain⟨g',e⟩:=g.setRow_ex i hM (splice cur off (List.replicate (m+1) zc))
 have:=h g'
 rw[←e] at this
 exact this
end
end Go.Proofs.YthhbbnfnejjpiaaGreatDoor.GW
namespace Go.Proofs.YthhbbnfnejjpiaaGreatDoor.NL
open Go
/-- k limbs from j on become v and zeros -/
def layAt (r:List Nat)(j k:Nat)(v:List Nat):List Nat:=r.take j++((v++List.replicate (k-v.length) 0)++r.drop (j+k))
theorem layAt_len {r v:List Nat}{j k:Nat}(h:j+k≤r.length)(hv:v.length≤k):(layAt r j k v).length=r.length:=by
 simp only[layAt,List.length_append,List.length_take,List.length_replicate,List.length_drop];omega
theorem layAt_ok {r v:List Nat}{j k:Nat}(hr:Ok r)(hv:Ok v):Ok (layAt r j k v):=
 (hr.take j).append ((hv.append (Ok.zeros _)).append (hr.drop _))
theorem layAt_off {r v:List Nat}{j k:Nat}(h:j+k≤r.length)(hv:v.length≤k):∀i,(i<j∨j+k≤i)→(layAt r j k v).getD i 0=r.getD i 0:=by
 intro i hi
 have h1:(r.take j).length=j:=by rw[List.length_take];omega
 have h2:(v++List.replicate (k-v.length) 0).length=k:=by rw[List.length_append,List.length_replicate];omega
 unfold layAt
 rw[List.getD_eq_getElem?_getD,List.getD_eq_getElem?_getD]
 rcases hi with hi|hi
 ·rw[List.getElem?_append_left (by omega),List.getElem?_take_of_lt hi]
 ·rw[List.getElem?_append_right (by omega),List.getElem?_append_right (by omega),List.getElem?_drop,h1,h2]
  congr 2
  omega
theorem layAt_seg {r v:List Nat}{j k:Nat}(h:j+k≤r.length)(hv:v.length≤k):val (((layAt r j k v).drop j).take k)=val v:=by
 have h1:(r.take j).length=j:=by rw[List.length_take];omega
 have h2:(v++List.replicate (k-v.length) 0).length=k:=by rw[List.length_append,List.length_replicate];omega
 unfold layAt
 rw[List.drop_append_of_le_length (by omega),List.drop_of_length_le (by omega),List.nil_append,List.take_append_of_le_length (by omega),List.take_of_length_le (by omega),val_pad]
end Go.Proofs.YthhbbnfnejjpiaaGreatDoor.NL
namespace Go.Proofs.YthhbbnfnejjpiaaGreatDoor.GW
open Go
open Go.RowKit NL
theorem layAt_cells {r v:List Nat}{j k:Nat}(h:j+k≤r.length)(hv:v.length≤k):splice (splice (u32s r) j (List.replicate k (.int .u32 0))) j (u32s v)=u32s (layAt r j k v):=by
 rw[←u32s_zeros,splice_u32s,splice_u32s]
 congr 1
 have h1:(r.take j).length=j:=by rw[List.length_take];omega
 rw[List.length_replicate]
 unfold layAt
 rw[List.take_append_of_le_length (by omega),List.take_take,Nat.min_self]
 congr 1
 rw[List.drop_append,List.drop_of_length_le (by omega),List.nil_append,h1,show j+v.length-j=v.length by omega,List.drop_append_of_le_length (by rw[List.length_replicate];exact hv),List.drop_replicate,←List.append_assoc]
end Go.Proofs.YthhbbnfnejjpiaaGreatDoor.GW
namespace Go.Proofs.YthhbbnfnejjpiaaGreatDoor.NL
open Go
/-- how often 2 is in a number that is not 0 -/
def tz (v:Nat):Nat:=if h:v=0 then 0 else if v%2=1 then 0 else tz (v/2)+1
termination_by v
decreasing_by exact Nat.div_lt_self (Nat.pos_of_ne_zero h) (by decide)
/-- a number without its twos -/
def od (v:Nat):Nat:=v/2^tz v
theorem tz_spec (v:Nat)(h:v≠0):∃m,v=2^tz v*(2*m+1):=by
 induction v using Nat.strongRecOn with
 |ind v ih=>
  rw[tz,dif_neg h]
  by_cases h2:v%2=1
  ·rw[if_pos h2];exact⟨v/2,by omega⟩
  ·rw[if_neg h2]
   obtain⟨m,hm⟩:=ih (v/2) (Nat.div_lt_self (Nat.pos_of_ne_zero h) (by decide)) (by omega)
   refine⟨m,?_⟩
   rw[Nat.pow_succ,Nat.mul_assoc,Nat.mul_comm 2,←Nat.mul_assoc,←hm]
   omega
theorem tz_uniq {v t m:Nat}(h:v=2^t*(2*m+1)):tz v=t:=by
 induction t generalizing v with
 |zero=>
  rw[tz,dif_neg (by omega),if_pos (by omega)]
 |succ t ih=>
  have h1:v=2*(2^t*(2*m+1)):=by rw[h,Nat.pow_succ];rw[Nat.mul_comm (2^t) 2,Nat.mul_assoc]
  have h0:0<2^t*(2*m+1):=Nat.mul_pos (Nat.two_pow_pos t) (by omega)
  rw[tz,dif_neg (by omega),if_neg (by omega),ih (by omega:v/2=2^t*(2*m+1))]
theorem od_spec (v:Nat)(h:v≠0):v=2^tz v*od v∧od v%2=1:=by
 obtain⟨m,hm⟩:=tz_spec v h
 have:od v=2*m+1:=by
  unfold od
  rw[Nat.div_eq_of_eq_mul_right (Nat.two_pow_pos _) hm]
 rw[this]
 exact⟨hm,by omega⟩
theorem od_pos {v:Nat}(h:v≠0):od v≠0:=by have:=(od_spec v h).2;omega
theorem od_le (v:Nat):od v≤v:=Nat.div_le_self _ _
/-- the place of the lowest limb that is not 0 -/
theorem tz_limb {l:List Nat}(ho:Ok l){i:Nat}(hz:∀j,j<i→l.getD j 0=0)(hi:l.getD i 0≠0):tz (val l)=32*i+Lib.ctz 32 (l.getD i 0)∧Lib.ctz 32 (l.getD i 0)<32:=by
 have hx:=ho.getD i
 obtain⟨m,hm,hk⟩:=Lib.ctzFrom_spec 32 (l.getD i 0) (by omega) (by omega)
 have hc:Lib.ctz 32 (l.getD i 0)=Lib.ctzFrom 32 (l.getD i 0):=by unfold Lib.ctz;rw[if_neg hi]
 rw[hc]
 refine⟨?_,hk⟩
 have hlt:i<l.length:=by
  rcases Nat.lt_or_ge i l.length with h|h
  ·exact h
  ·rw[List.getD_eq_getElem?_getD,List.getElem?_eq_none h] at hi;exact absurd rfl hi
 have h0:val (l.take i)=0:=by
  have:∀k,k≤i→val (l.take k)=0:=by
   intro k
   induction k with
   |zero=>intro _;rw[List.take_zero];rfl
   |succ k ih=>intro hk;rw[val_take_getD,ih (by omega),hz k (by omega)];simp
  exact this i (Nat.le_refl _)
 have hs:=val_split l i (by omega)
 rw[h0,Nat.zero_add,val_drop_getD] at hs
 generalize Lib.ctzFrom 32 (l.getD i 0)=k at*
 generalize l.getD i 0=x at*
 generalize val (l.drop (i+1))=z at*
 have hp:(4294967296:Nat)=2^k*(2*2^(31-k)):=by
  rw[←Nat.mul_assoc,Nat.mul_comm _ 2,←Nat.pow_succ',←Nat.pow_add,show k+1+(31-k)=32 by omega]
 apply tz_uniq (m:=m+2^(31-k)*z)
 rw[hs,pow32,Nat.pow_add,Nat.mul_assoc]
 congr 1
 have e1:(4294967296:Nat)*z=2^k*(2*(2^(31-k)*z)):=by
  conv=>lhs;rw[hp]
  rw[Nat.mul_assoc,Nat.mul_assoc]
 rw[e1]
 conv=>lhs;rw[hm]
 rw[←Nat.mul_add]
 congr 1
 omega
end Go.Proofs.YthhbbnfnejjpiaaGreatDoor.NL
namespace Go.Proofs.YthhbbnfnejjpiaaGreatDoor.GW
open Go
open Go.RowKit NL
/-- from o on, the cells read as the limbs l -/
structure Seg (cs:List Value)(o:Nat)(l:List Nat):Prop where
 len:o+l.length≤cs.length
 get:∀j,j<l.length→cs[o+j]?=some (.int .u32 ((l.getD j 0:Nat):Int))
theorem Seg.set {cs:List Value}{o:Nat}{l:List Nat}(h:Seg cs o l){j:Nat}(hj:j<l.length)(x:Nat):Seg (cs.set (o+j) (.int .u32 (x:Int))) o (l.set j x):=by
 refine⟨by rw[List.length_set,List.length_set];exact h.len,fun i hi=>?_⟩
 rw[List.length_set] at hi
 have hl:=h.len
 rw[List.getElem?_set,List.getD_eq_getElem?_getD,List.getElem?_set]
 by_cases e:j=i
 ·subst e
  rw[if_pos rfl,if_pos (by omega),if_pos rfl,if_pos hj];rfl
 ·rw[if_neg (by omega),if_neg e,←List.getD_eq_getElem?_getD]
  exact h.get i hi
theorem Seg.drop {cs:List Value}{o:Nat}{l:List Nat}(h:Seg cs o l)(q:Nat)(hq:q≤l.length):Seg cs (o+q) (l.drop q):=by
 have hl:=h.len
 refine⟨by rw[List.length_drop];omega,fun j hj=>?_⟩
 rw[List.length_drop] at hj
 rw[Nat.add_assoc,h.get (q+j) (by omega),List.getD_eq_getElem?_getD,List.getD_eq_getElem?_getD,List.getElem?_drop]
theorem Seg.take {cs:List Value}{o:Nat}{l:List Nat}(h:Seg cs o l)(k:Nat):Seg cs o (l.take k):=by
 have hl:=h.len
 refine⟨by rw[List.length_take];omega,fun j hj=>?_⟩
 rw[List.length_take] at hj
 rw[getD_take (by omega)]
 exact h.get j (by omega)
theorem Seg.sl {cs:List Value}{o c b:Nat}{l:List Nat}{T:TypeId}{fr:Nat×Nat}(h:Seg cs o l)(hc:l.length≤c)(hc2:c≤9223372036854775807)(hl:l.length≤140737488355328)(hk:Ok l):(blkF b (.cells cs.toArray T fr)).Sl (some ⟨b,o,none⟩) c l:=by
 refine⟨hc,hc2,hl,?_,hk⟩
 intro _
 refine⟨b,o,rfl,cs.toArray,T,fr,by simp[blkF],fun j hj=>?_⟩
 rw[List.getElem?_toArray]
 exact h.get j hj
theorem Seg.trim {cs:List Value}{o:Nat}{l:List Nat}(h:Seg cs o l)(hk:Ok l):Seg cs o (limbs (val l)):=by
 rw[←limbs_prefix hk];exact h.take _
end Go.Proofs.YthhbbnfnejjpiaaGreatDoor.GW
namespace Go.Proofs.YthhbbnfnejjpiaaGreatDoor.NL
open Go
theorem od_split {l:List Nat}(ho:Ok l):od (val l)=val (l.drop (tz (val l)/32))/2^(tz (val l)%32):=by
 unfold od
 rw[div_pow_split,val_div l ho]
theorem tz_len {l:List Nat}(ho:Ok l)(h0:val l≠0):tz (val l)/32<l.length:=by
 have h1:=val_lt ho
 rw[pow32] at h1
 have h2:=(od_spec (val l) h0).1
 have h3:2^tz (val l)≤val l:=by
  conv=>rhs;rw[h2]
  exact Nat.le_mul_of_pos_right _ (Nat.pos_of_ne_zero (od_pos h0))
 have h4:tz (val l)<32*l.length:=(Nat.pow_lt_pow_iff_right (by decide)).1 (Nat.lt_of_le_of_lt h3 h1)
 omega
theorem pre_set {pre l:List Nat}{k x:Nat}(hp:pre.length=k)(hk:k<l.length):(pre++l.drop k).set k x=(pre++[x])++l.drop (k+1):=by
 subst hp
 rw[List.set_append_right _ _ (Nat.le_refl _),Nat.sub_self,List.drop_eq_getElem_cons hk,List.set_cons_zero,List.append_assoc]
 rfl
theorem pre_get {pre l:List Nat}{k i:Nat}(hp:pre.length=k)(hi:k≤i):(pre++l.drop k).getD i 0=l.getD i 0:=by
 subst hp
 rw[List.getD_eq_getElem?_getD,List.getElem?_append_right hi,List.getElem?_drop,←List.getD_eq_getElem?_getD]
 congr 1
 omega
theorem odd_cop2 {y:Nat}(h:y%2=1)(t:Nat):Nat.Coprime (2^t) y:=by
 have:Nat.Coprime 2 y:=by
  rw[Nat.coprime_iff_gcd_eq_one,Nat.gcd_rec,h]
  decide
 exact Nat.Coprime.pow_left t this
theorem gcd_od_left {x y:Nat}(hx:x≠0)(hy:y%2=1):Nat.gcd (od x) y=Nat.gcd x y:=by
 conv=>rhs;rw[(od_spec x hx).1]
 exact(Nat.Coprime.gcd_mul_left_cancel (od x) (odd_cop2 hy _)).symm
theorem gcd_sub_odd {x y:Nat}(h:y<x)(hy:y%2=1):Nat.gcd (od (x-y)) y=Nat.gcd x y:=by
 rw[gcd_od_left (by omega) hy]
 exact Nat.gcd_sub_self_left (Nat.le_of_lt h)
/-- the twos and the odd part of a greatest common divisor -/
theorem gcd_parts {a b:Nat}(ha:a≠0)(hb:b≠0):Nat.gcd a b=Nat.gcd (od a) (od b)*2^min (tz a) (tz b):=by
 obtain⟨h1,o1⟩:=od_spec a ha
 obtain⟨h2,o2⟩:=od_spec b hb
 have key:∀s t x y:Nat,s≤t→x%2=1→y%2=1→Nat.gcd (2^s*x) (2^t*y)=Nat.gcd x y*2^s:=by
  intro s t x y hst hx hy
  obtain⟨d,rfl⟩:∃d,t=s+d:=⟨t-s,by omega⟩
  rw[Nat.pow_add,Nat.mul_assoc,Nat.gcd_mul_left,Nat.mul_comm]
  congr 1
  exact Nat.Coprime.gcd_mul_left_cancel_right y (odd_cop2 hx d)
 rcases Nat.le_total (tz a) (tz b) with h|h
 ·rw[Nat.min_eq_left h]
  conv=>lhs;rw[h1,h2]
  exact key _ _ _ _ h o1 o2
 ·rw[Nat.min_eq_right h]
  conv=>lhs;rw[h1,h2]
  rw[Nat.gcd_comm,key _ _ _ _ h o2 o1,Nat.gcd_comm]
/-- limbs of a number shifted by whole limbs and bits -/
theorem limbs_shift {x:Nat}(h:x≠0)(q:Nat):List.replicate q 0++limbs x=limbs (x*4294967296^q):=by
 induction q with
 |zero=>simp
 |succ q ih=>
  have h0:x*4294967296^(q+1)≠0:=Nat.mul_ne_zero h (Nat.ne_of_gt (Nat.pow_pos (by decide)))
  rw[List.replicate_succ,List.cons_append,ih,limbs_pos h0]
  have e:x*4294967296^(q+1)=4294967296*(x*4294967296^q):=by rw[Nat.pow_succ];rw[←Nat.mul_assoc,Nat.mul_comm _ 4294967296]
  rw[e,Nat.mul_mod_right,Nat.mul_div_cancel_left _ (by decide)]
theorem shift_parts (x k:Nat):x*2^(k%32)*4294967296^(k/32)=x*2^k:=by
 rw[pow32,Nat.mul_assoc,←Nat.pow_add]
 congr 2
 omega
end Go.Proofs.YthhbbnfnejjpiaaGreatDoor.NL
namespace Go.Proofs.YthhbbnfnejjpiaaGreatDoor.GW
open Go
open Go.RowKit NL
theorem G.perm {w0:World}{X:List Nat}{M M':List Blk}{I:List Frag}(g:G w0 X M I)(h:M.Perm M'):∃g':G w0 X M' I,g.w=g'.w:=
 ⟨⟨g.w,g.chg,fun m hm=>g.own m (h.mem_iff.2 hm),fun m hm=>g.may m (h.mem_iff.2 hm),(h.map _).nodup_iff.1 g.dist,g.sub,fun f hf k o hk=>⟨(g.keep f hf k o hk).1,fun hm=>(g.keep f hf k o hk).2 ((h.map _).mem_iff.2 hm)⟩⟩,rfl⟩
theorem Row.get {T:TypeId}{n cap:Nat}{xs:List Nat}{cs:List Value}(h:Row T 1 n (u32s xs) cap cs)(hn:xs.length=n){j:Nat}(hj:j<n):cs[j]?=some (.int .u32 ((xs.getD j 0:Nat):Int)):=by
 have:=u32s_getD (l:=xs) (j:=j) (by omega)
 rw[←h.take,List.getElem?_take_of_lt (by omega)] at this
 exact this
theorem Row.set {T:TypeId}{n cap:Nat}{xs:List Nat}{cs:List Value}(h:Row T 1 n (u32s xs) cap cs){j x:Nat}(hj:j<n):Row T 1 n (u32s (xs.set j x)) cap (cs.set j (.int .u32 (x:Int))):=by
 refine⟨h.le,h.max,by rw[List.length_set];exact h.len,?_,?_⟩
 ·rw[List.take_set,h.take,u32s_set]
 ·rw[u32s_len,List.length_set,←u32s_len];exact h.xl
theorem ten_set {pre xs:List Nat}{j x:Nat}(hp:pre.length=j)(hj:j<xs.length):(pre++xs.drop j).set j x=(pre++[x])++xs.drop (j+1):=by
 subst hp
 rw[List.set_append_right _ _ (Nat.le_refl _),Nat.sub_self,List.drop_eq_getElem_cons hj,List.set_cons_zero,List.append_assoc]
 rfl
theorem ten_get {pre xs:List Nat}{j:Nat}(hp:pre.length=j):(pre++xs.drop j).getD j 0=xs.getD j 0:=by
 subst hp
 rw[List.getD_eq_getElem?_getD,List.getElem?_append_right (Nat.le_refl _),Nat.sub_self,List.getElem?_drop,Nat.add_zero,←List.getD_eq_getElem?_getD]
end Go.Proofs.YthhbbnfnejjpiaaGreatDoor.GW
namespace Go.Proofs.YthhbbnfnejjpiaaGreatDoor.GW
open Go
open Go.RowKit
section
variable {w0:World}{X:List Nat}{R:List Blk}{I:List Frag}
theorem wp_append_g {P:Program}{o:Oper}{a:Act}{K:Act→World→Prop}{E:Exit→Act→World→Prop}(s x:Operand)(t:TypeId)
  (ho:o.op=.call {callee:=.builtin .append,args:= #[s,x],argTypes:= #[t,t]})
  (e:TypeId) (i:TypeInfo) (z:Value) (size bytes:Nat) (ht:P.underlying t=some (.slice e)) (hi:P.info? e=some i) (hz:i.zero=some z)
  (hsize:i.size=size) (hby:i.bytes=bytes) (hzs:z.cells.size=size) (hsz:0<size)
  (g:G w0 X R I) (v:Value) (n:Nat) (xs:List Value) (hs:a.eval s=v) (hown:g.w.ownsRow w0.heap.size e size v n xs)
  (hne:∀m∈R,some m.1≠v.ownBlock) (hfr:∀f∈I,∀k o,f k=some o→some k≠v.ownBlock)
  (ad:Addr) (m c:Nat) (news:List Value) (hx:a.eval x=.slice (some ad) m c) (hl:news.length=m*size) (hnews:∀j u,news[j]?=some u→g.w.cell? (ad.add j)=some u) (h1:∀u∈news,u.oneCell'=true)
  (hm:0<m) (h63:n+m≤maxLen) (hbytes:(n+m)*bytes≤140737488355328)
  (h:∀b cap cs,∀g':G w0 X ((b,e,cs)::R) I,w0.heap.size≤b→Row e size (n+m) (xs++news) cap cs→K (a.put o.dst (.slice (some ⟨b,0,none⟩) (n+m) cap)) g'.w):
  o.wp P a g.w K E:=by
 obtain⟨v',w',hr,ho',hg,hv,hb⟩:=run_append_own_at (P:=P) g.w w0.heap.size t o.type e i z size bytes ht hi hz hsize hby hzs hsz v n xs hown ad m c news hl hnews h1 h63 hbytes g.chg.size
 unfold Oper.wp execOp
 simp only[ho,resolve,invoke,builtin,Sem.run_bind,Sem.run_pure,Result.andThen_ok,List.map_toArray,List.map_cons,List.map_nil,hs,hx,hr]
 rcases ho'.2 with⟨e1,e2⟩|⟨b,cap,cur,rfl,hb0,hh,hle,hmx,hcl,hct⟩
 ·exfalso;omega
 ·have hrow:∀k,v.ownBlock=some k→w0.heap.size≤k:=fun k hk=>(hown.lt k hk).1
  have hb':v.ownBlock=some b∨b=g.w.heap.size:=by
   rcases hb with hb|hb
   ·exact .inl hb.symm
   ·right;exact Option.some.inj hb
  obtain⟨g',rfl⟩:=g.grow (cs:=cur.toList) hg hrow hne hfr hb' (by rw[Array.toArray_toList];exact hh)
  exact h b cap cur.toList g' hb0 ⟨hle,hmx,by rw[Array.length_toList];exact hcl,hct,ho'.1⟩
end
open Go.RowKit NL
section
variable {w0:World}{R:List Blk}{I:List Frag}
theorem step_append_row {P:Program}{ops:Array Oper}{o:Oper}{a:Act}{K:Act→World→Prop}{Q:Exit→Act→World→Prop}{E:Prop}(hgd:o.guard=none)(s x:Operand)(t:TypeId)
  (ho:o.op=.call {callee:=.builtin .append,args:= #[s,x],argTypes:= #[t,t]})
  (e:TypeId) (i:TypeInfo) (z:Value) (size bytes:Nat) (ht:P.underlying t=some (.slice e)) (hi:P.info? e=some i) (hz:i.zero=some z)
  (hsize:i.size=size) (hby:i.bytes=bytes) (hzs:z.cells.size=size) (hsz:0<size)
  {b n cap:Nat} {cs xs:List Value} (g:G w0 [] ((b,e,cs)::R) I) (hr:Row e size n xs cap cs) (hs:a.eval s=.slice (some ⟨b,0,none⟩) n cap)
  (m c:Nat) (news:List Value) (ad:Option Addr) (hx:a.eval x=.slice ad m c) (hl:news.length=m*size) (hnews:∃ad',ad=some ad'∧∀j u,news[j]?=some u→g.w.cell? (ad'.add j)=some u) (h1:∀u∈news,u.oneCell'=true)
  (hm:0<m) (h63:n+m≤maxLen) (hbytes:(n+m)*bytes≤140737488355328)
  (h:∀b cap cs,∀g':G w0 [] ((b,e,cs)::R) I,w0.heap.size≤b→Row e size (n+m) (xs++news) cap cs→K (a.put o.dst (.slice (some ⟨b,0,none⟩) (n+m) cap)) g'.w):
  if Region.wanted o (yielded ops a.tmps)=true then Oper.wp P o a g.w K Q else E:=by
 have hw:Region.wanted o (yielded ops a.tmps)=true:=by simp[Region.wanted,hgd]
 rw[if_pos hw]
 obtain⟨ad',rfl,hnews⟩:=hnews
 have hb:w0.heap.size≤b:=g.fresh (List.mem_cons_self ..)
 have hown:=g.rowAt hr (List.mem_cons_self ..) hb
 have hap:=g.apart
 obtain⟨g1,e1⟩:=g.less (M':=R) (List.sublist_cons_self _ _)
 rw[e1] at hown hnews ⊢
 exact wp_append_g s x t ho e i z size bytes ht hi hz hsize hby hzs hsz g1 _ n xs hs hown hap.1 hap.2 ad' m c news hx hl hnews h1 hm h63 hbytes h
end
theorem row_zeros (T:TypeId)(n:Nat)(h:n≤9223372036854775807):Row T 1 n (u32s (List.replicate n 0)) n (u32s (List.replicate n 0)):=
 ⟨Nat.le_refl _,by show n≤9223372036854775807;omega,by rw[u32s_len,List.length_replicate,Nat.mul_one],by rw[Nat.mul_one,List.take_of_length_le (by rw[u32s_len,List.length_replicate];exact Nat.le_refl _)],by rw[u32s_len,List.length_replicate,Nat.mul_one]⟩
end Go.Proofs.YthhbbnfnejjpiaaGreatDoor.GW
namespace Go.Proofs.YthhbbnfnejjpiaaGreatDoor.GW
open Go
open Go Go.RowKit
/-- the second type of append matters by its underlying type alone -/
theorem append_tx {P:Program}(w:World){t tx ty e e2:TypeId}(ht:P.underlying t=some (.slice e))(htx:P.underlying tx=some (.slice e2))(s x:Value):
  (Builtin.append_ #[t,tx] ty #[s,x]).run P w=(Builtin.append_ #[t,t] ty #[s,x]).run P w:=by
 unfold Builtin.append_
 simp only[List.getElem?_toArray,List.getElem?_cons_zero,List.getElem?_cons_succ,Sem.run_bind,run_underlying ht,run_underlying htx,Result.andThen_ok,Sem.run_pure]
 cases s<;>simp only[Sem.run_bind,run_underlying ht,run_underlying htx,Result.andThen_ok,Sem.run_pure]
section
variable {w0:World}{X:List Nat}{R:List Blk}{I:List Frag}
theorem wpList_append_gx {P:Program}{ops:Array Oper}{rest:List Oper}{o:Oper}{a:Act}{Q:Exit→Act→World→Prop}(hgd:o.guard=none)(s x:Operand)(t tx:TypeId)
  (ho:o.op=.call {callee:=.builtin .append,args:= #[s,x],argTypes:= #[t,tx]})
  (e:TypeId) (i:TypeInfo) (z:Value) (size bytes:Nat) (ht:P.underlying t=some (.slice e)) (htx:P.underlying tx=some (.slice e)) (hi:P.info? e=some i) (hz:i.zero=some z)
  (hsize:i.size=size) (hby:i.bytes=bytes) (hzs:z.cells.size=size) (hsz:0<size)
  (g:G w0 X R I) (v:Value) (n:Nat) (xs:List Value) (hs:a.eval s=v) (hown:g.w.ownsRow w0.heap.size e size v n xs)
  (hne:∀m∈R,some m.1≠v.ownBlock) (hfr:∀f∈I,∀k o,f k=some o→some k≠v.ownBlock)
  (ad:Addr) (m c:Nat) (news:List Value) (hx:a.eval x=.slice (some ad) m c) (hl:news.length=m*size) (hnews:∀j u,news[j]?=some u→g.w.cell? (ad.add j)=some u) (h1:∀u∈news,u.oneCell'=true)
  (hm:0<m) (h63:n+m≤maxLen) (hbytes:(n+m)*bytes≤140737488355328)
  (h:∀b cap cs,∀g':G w0 X ((b,e,cs)::R) I,w0.heap.size≤b→Row e size (n+m) (xs++news) cap cs→wpList P ops Q rest (a.put o.dst (.slice (some ⟨b,0,none⟩) (n+m) cap)) g'.w):
  wpList P ops Q (o::rest) a g.w:=by
 refine wpList_plain hgd fun K hK=>?_
 obtain⟨v',w',hr,ho',hg,hv,hb⟩:=run_append_own_at (P:=P) g.w w0.heap.size t o.type e i z size bytes ht hi hz hsize hby hzs hsz v n xs hown ad m c news hl hnews h1 h63 hbytes g.chg.size
 rw[←append_tx g.w ht htx] at hr
 unfold Oper.wp execOp
 simp only[ho,resolve,invoke,builtin,Sem.run_bind,Sem.run_pure,Result.andThen_ok,List.map_toArray,List.map_cons,List.map_nil,hs,hx,hr]
 refine hK _ _ ?_
 rcases ho'.2 with⟨e1,e2⟩|⟨b,cap,cur,rfl,hb0,hh,hle,hmx,hcl,hct⟩
 ·exfalso;omega
 ·have hrow:∀k,v.ownBlock=some k→w0.heap.size≤k:=fun k hk=>(hown.lt k hk).1
  have hb':v.ownBlock=some b∨b=g.w.heap.size:=by
   rcases hb with hb|hb
   ·exact .inl hb.symm
   ·right;exact Option.some.inj hb
  obtain⟨g',rfl⟩:=g.grow (cs:=cur.toList) hg hrow hne hfr hb' (by rw[Array.toArray_toList];exact hh)
  exact h b cap cur.toList g' hb0 ⟨hle,hmx,by rw[Array.length_toList];exact hcl,hct,ho'.1⟩
/-- 'append' to a row at the head of the blocks, from any source -/
theorem wpList_append_rowx {P:Program}{ops:Array Oper}{rest:List Oper}{o:Oper}{a:Act}{Q:Exit→Act→World→Prop}(hgd:o.guard=none)(s x:Operand)(t tx:TypeId)
  (ho:o.op=.call {callee:=.builtin .append,args:= #[s,x],argTypes:= #[t,tx]})
  (e:TypeId) (i:TypeInfo) (z:Value) (size bytes:Nat) (ht:P.underlying t=some (.slice e)) (htx:P.underlying tx=some (.slice e)) (hi:P.info? e=some i) (hz:i.zero=some z)
  (hsize:i.size=size) (hby:i.bytes=bytes) (hzs:z.cells.size=size) (hsz:0<size)
  {b n cap:Nat} {cs xs:List Value} (g:G w0 X ((b,e,cs)::R) I) (hr:Row e size n xs cap cs) (hb:w0.heap.size≤b) (hs:a.eval s=.slice (some ⟨b,0,none⟩) n cap)
  (m c:Nat) (news:List Value) (A:Option Addr) (hx:a.eval x=.slice A m c) (hl:news.length=m*size) (hsrc:∃ad,A=some ad∧∀j u,news[j]?=some u→g.w.cell? (ad.add j)=some u) (h1:∀u∈news,u.oneCell'=true)
  (hm:0<m) (h63:n+m≤maxLen) (hbytes:(n+m)*bytes≤140737488355328)
  (h:∀b cap cs,∀g':G w0 X ((b,e,cs)::R) I,w0.heap.size≤b→Row e size (n+m) (xs++news) cap cs→wpList P ops Q rest (a.put o.dst (.slice (some ⟨b,0,none⟩) (n+m) cap)) g'.w):
  wpList P ops Q (o::rest) a g.w:=by
 obtain⟨ad,rfl,hnews⟩:=hsrc
 have hown:=g.rowAt hr (List.mem_cons_self ..) hb
 obtain⟨ha,hf⟩:=g.apart
 obtain⟨g1,e1⟩:=g.less (M':=R) (List.sublist_cons_self _ _)
 rw[e1] at hown hnews ⊢
 exact wpList_append_gx hgd s x t tx ho e i z size bytes ht htx hi hz hsize hby hzs hsz g1 _ n xs hs hown ha hf ad m c news hx hl hnews h1 hm h63 hbytes h
/-- an own block becomes a part that stays -/
theorem G.frz {w0:World}{X:List Nat}{b:Nat}{T:TypeId}{cs:List Value}{M:List Blk}{I:List Frag}(g:G w0 X ((b,T,cs)::M) I)(hb:w0.heap.size≤b):∃g':G w0 X M (blkF b (.cells cs.toArray T (0,0))::I),g.w=g'.w:=by
 obtain⟨g2,h⟩:=g.less (M':=M) (List.sublist_cons_self _ _)
 have hd:=g.dist
 rw[List.map_cons,List.nodup_cons] at hd
 refine⟨g2.see (blkF b (.cells cs.toArray T (0,0))) (by rw[←h];exact blkF_sub g.blk0) (fun k o hk=>?_),h⟩
 rw[blkF_at hk]
 exact⟨.inl hb,hd.1⟩
end
end Go.Proofs.YthhbbnfnejjpiaaGreatDoor.GW
namespace Go.Proofs.YthhbbnfnejjpiaaGreatDoor.NL
open Go
/-- k bits are still to be looked at: the rest R, the divisor shifted D, the quotient so far Q -/
structure Qb (a b k R Q:Nat):Prop where
 eq:R+b*Q=a
 lt:R<b*2^k
 dvd:Q%2^k=0
theorem Qb.start {a b n:Nat}(hb:b≠0)(hn:nb a=nb b+n):Qb a b (n+1) a 0:=by
 refine⟨by omega,?_,Nat.zero_mod _⟩
 have h1:=nb_lt a
 have h2:=nb_ge hb
 have h3:=nb_pos hb
 rw[hn] at h1
 have e:2^(nb b+n)=2^(nb b-1)*2^(n+1):=by rw[←Nat.pow_add];congr 1;omega
 rw[e] at h1
 exact Nat.lt_of_lt_of_le h1 (Nat.mul_le_mul_right _ h2)
theorem Qb.keep {a b k R Q:Nat}(h:Qb a b (k+1) R Q)(hlt:R<b*2^k):Qb a b k R Q:=by
 refine⟨h.eq,hlt,?_⟩
 have:=h.dvd
 rw[Nat.pow_succ] at this
 have e:=Nat.mod_mul_right_mod Q (2^k) 2
 rw[this,Nat.zero_mod] at e
 exact e.symm
theorem Qb.sub {a b k R Q:Nat}(h:Qb a b (k+1) R Q)(hge:b*2^k≤R):Qb a b k (R-b*2^k) (Q+2^k):=by
 have h1:=h.eq
 have h2:=h.lt
 rw[Nat.pow_succ,←Nat.mul_assoc] at h2
 refine⟨?_,by omega,?_⟩
 ·rw[Nat.mul_add];omega
 ·have:=h.dvd
  rw[Nat.pow_succ] at this
  have e:=Nat.mod_mul_right_mod Q (2^k) 2
  rw[this,Nat.zero_mod] at e
  rw[Nat.add_mod_right]
  exact e.symm
theorem Qb.stop {a b R Q:Nat}(h:Qb a b 0 R Q):Q=a/b∧R=a%b:=by
 have h1:=h.eq
 have h2:=h.lt
 rw[Nat.pow_zero,Nat.mul_one] at h2
 have hb:0<b:=by omega
 constructor
 ·rw[←h1,Nat.add_mul_div_left _ _ hb,Nat.div_eq_of_lt h2,Nat.zero_add]
 ·rw[←h1,Nat.add_mul_mod_self_left,Nat.mod_eq_of_lt h2]
/-- a bit that is set -/
theorem bit_set {q:List Nat}{k:Nat}(ho:Ok q)(hj:k/32<q.length)(hd:val q%2^(k+1)=0):
  (q.getD (k/32) 0)%2^(k%32+1)=0∧q.getD (k/32) 0+2^(k%32)<4294967296∧val (q.set (k/32) (q.getD (k/32) 0+2^(k%32)))=val q+2^k:=by
 have hg:=getD_val q ho (k/32)
 obtain⟨j,hj'⟩:∃j,k/32=j:=⟨_,rfl⟩
 obtain⟨r,hr⟩:∃r,k%32=r:=⟨_,rfl⟩
 rw[hj'] at hg hj ⊢
 rw[hr]
 have hk:k=32*j+r:=by omega
 have hr32:r<32:=by omega
 obtain⟨t,ht⟩:∃t,val q=2^(k+1)*t:=⟨val q/2^(k+1),by have:=Nat.div_add_mod (val q) (2^(k+1));omega⟩
 have hq:val q/4294967296^j=2^(r+1)*t:=by
  rw[ht,pow32,hk,show 32*j+r+1=32*j+(r+1) by omega,Nat.pow_add,Nat.mul_assoc,Nat.mul_div_cancel_left _ (Nat.two_pow_pos _)]
 have hB:(4294967296:Nat)=2^(r+1)*2^(31-r):=by
  rw[←Nat.pow_add,show r+1+(31-r)=32 by omega]
 have h1:q.getD j 0=2^(r+1)*(t%2^(31-r)):=by
  rw[hg,hq]
  conv=>lhs;rw[hB]
  rw[Nat.mul_mod_mul_left]
 have h2:=Nat.mod_lt t (Nat.two_pow_pos (31-r))
 have h3:2^(r+1)*(t%2^(31-r))+2^(r+1)≤4294967296:=by
  have:=Nat.mul_le_mul_left (2^(r+1)) (Nat.succ_le_of_lt h2)
  rw[Nat.mul_succ,←hB] at this
  exact this
 have h4:2^(r+1)=2*2^r:=by rw[Nat.pow_succ,Nat.mul_comm]
 have h5:=Nat.two_pow_pos r
 refine⟨by rw[h1,Nat.mul_mod_right],by rw[h1];omega,?_⟩
 have hv:=val_set' hj (q.getD j 0+2^r)
 rw[Nat.mul_add] at hv
 have h6:4294967296^j*2^r=2^k:=by rw[pow32,←Nat.pow_add,hk]
 rw[h6] at hv
 omega
end Go.Proofs.YthhbbnfnejjpiaaGreatDoor.NL
namespace Go.Proofs.YthhbbnfnejjpiaaGreatDoor.GW
open Go
open Go.RowKit NL
def Frag.le (F H:Frag):Prop:=∀k o,F k=some o→H k=some o
theorem Frag.le_refl (F:Frag):F.le F:=fun _ _ h=>h
theorem Frag.le_trans {F G H:Frag}(h:F.le G)(k:G.le H):F.le H:=fun i o e=>k i o (h i o e)
/-- a number as it lies in memory: sign, limbs of the numerator, of the denominator -/
abbrev Raw:=Bool×List Nat×List Nat
def rawOf (x:Rat):Raw:=(rneg x,limbs (rn x),limbs x.den)
/-- p, q, r are the three cells of a number, its limbs in f -/
def Frag.Rt (f:Frag)(p q r:Value)(t:Raw):Prop:=p=.bool t.1∧(∃A c,q=.slice A t.2.1.length c∧f.Sl A c t.2.1)∧∃B k,r=.slice B t.2.2.length k∧f.Sl B k t.2.2
theorem Frag.Rt.mono {f f':Frag}{p q r:Value}{t:Raw}(h:f.Rt p q r t)(s:f.le f'):f'.Rt p q r t:=by
 obtain⟨h1,⟨A,c,h2,h3⟩,B,k,h4,h5⟩:=h
 exact⟨h1,⟨A,c,h2,h3.mono s⟩,B,k,h4,h5.mono s⟩
theorem Frag.Rt.one {f:Frag}{p q r:Value}{t:Raw}(h:f.Rt p q r t):p.oneCell'=true∧q.oneCell'=true∧r.oneCell'=true:=by
 obtain⟨rfl,⟨A,c,rfl,_⟩,B,k,rfl,_⟩:=h
 exact⟨rfl,rfl,rfl⟩
/-- a slice of n numbers -/
structure Frag.Rw (f:Frag)(A:Option Addr)(c n:Nat)(x:Nat→Raw):Prop where
 cap:n≤c
 max:c≤9223372036854775807
 len:n≤140737488355328
 row:0<n→∃b o,A=some ⟨b,o,none⟩∧∃cs T fr,f b=some (.cells cs T fr)∧∀j,j<n→∃p q r,cs[o+j*3]?=some p∧cs[o+j*3+1]?=some q∧cs[o+j*3+2]?=some r∧f.Rt p q r (x j)
theorem Frag.Rw.mono {f f':Frag}{A:Option Addr}{c n:Nat}{x:Nat→Raw}(h:f.Rw A c n x)(s:f.le f'):f'.Rw A c n x:=by
 refine⟨h.cap,h.max,h.len,fun hl=>?_⟩
 obtain⟨b,o,e,cs,T,fr,hb,hc⟩:=h.row hl
 refine⟨b,o,e,cs,T,fr,s _ _ hb,fun j hj=>?_⟩
 obtain⟨p,q,r,h1,h2,h3,h4⟩:=hc j hj
 exact⟨p,q,r,h1,h2,h3,h4.mono s⟩
theorem Frag.Rw.congr {f:Frag}{A:Option Addr}{c n:Nat}{x y:Nat→Raw}(h:f.Rw A c n x)(e:∀j,j<n→x j=y j):f.Rw A c n y:=by
 refine⟨h.cap,h.max,h.len,fun hl=>?_⟩
 obtain⟨b,o,e',cs,T,fr,hb,hc⟩:=h.row hl
 refine⟨b,o,e',cs,T,fr,hb,fun j hj=>?_⟩
 obtain⟨p,q,r,h1,h2,h3,h4⟩:=hc j hj
 exact⟨p,q,r,h1,h2,h3,e j hj▸h4⟩
theorem Frag.Rw.nil (f:Frag)(A:Option Addr)(x:Nat→Raw):f.Rw A 0 0 x:=⟨Nat.le_refl _,by decide,by decide,fun h=>absurd h (by decide)⟩
/-- a slice of n rows, the i-th one with m i numbers -/
structure Frag.Mt (f:Frag)(A:Option Addr)(c n:Nat)(m:Nat→Nat)(x:Nat→Nat→Raw):Prop where
 cap:n≤c
 max:c≤9223372036854775807
 len:n≤140737488355328
 rows:0<n→∃b o,A=some ⟨b,o,none⟩∧∃cs T fr,f b=some (.cells cs T fr)∧∀i,i<n→∃B k,cs[o+i]?=some (.slice B (m i) k)∧f.Rw B k (m i) (x i)
theorem Frag.Mt.mono {f f':Frag}{A:Option Addr}{c n:Nat}{m:Nat→Nat}{x:Nat→Nat→Raw}(h:f.Mt A c n m x)(s:f.le f'):f'.Mt A c n m x:=by
 refine⟨h.cap,h.max,h.len,fun hl=>?_⟩
 obtain⟨b,o,e,cs,T,fr,hb,hc⟩:=h.rows hl
 refine⟨b,o,e,cs,T,fr,s _ _ hb,fun i hi=>?_⟩
 obtain⟨B,k,h1,h2⟩:=hc i hi
 exact⟨B,k,h1,h2.mono s⟩
theorem Frag.Mt.congr {f:Frag}{A:Option Addr}{c n:Nat}{m m':Nat→Nat}{x y:Nat→Nat→Raw}(h:f.Mt A c n m x)(em:∀i,i<n→m i=m' i)(e:∀i,i<n→∀j,j<m i→x i j=y i j):f.Mt A c n m' y:=by
 refine⟨h.cap,h.max,h.len,fun hl=>?_⟩
 obtain⟨b,o,e',cs,T,fr,hb,hc⟩:=h.rows hl
 refine⟨b,o,e',cs,T,fr,hb,fun i hi=>?_⟩
 obtain⟨B,k,h1,h2⟩:=hc i hi
 rw[em i hi] at h1 h2
 exact⟨B,k,h1,h2.congr fun j hj=>e i hi j (by rw[em i hi];exact hj)⟩
theorem Frag.Mt.nil (f:Frag)(A:Option Addr)(m:Nat→Nat)(x:Nat→Nat→Raw):f.Mt A 0 0 m x:=⟨Nat.le_refl _,by decide,by decide,fun h=>absurd h (by decide)⟩
@[reducible] def RtW (w:World) (p q r:Value) (t:Raw):Prop:=(heapOf w).Rt p q r t
@[reducible] def RwW (w:World) (A:Option Addr) (c n:Nat) (x:Nat→Raw):Prop:=(heapOf w).Rw A c n x
/-- two parts of one memory, as one part -/
def Frag.or (F H:Frag):Frag:=fun k=>match F k with|some o=>some o|none=>H k
theorem Frag.le_orl (F H:Frag):F.le (F.or H):=by intro k o h;unfold Frag.or;rw[h]
theorem Frag.le_orr {F H:Frag}{w:World}(hF:F.sub w)(hH:H.sub w):H.le (F.or H):=by
 intro k o h
 unfold Frag.or
 cases e:F k with
 |none=>exact h
 |some o'=>
  have h1:=hF k o' e
  have h2:=hH k o h
  rw[h1] at h2
  exact h2
theorem Frag.or_some {F H:Frag}{k:Nat}{o:Obj}(h:F.or H k=some o):F k=some o∨H k=some o:=by
 unfold Frag.or at h
 cases e:F k with
 |none=>rw[e] at h;exact .inr h
 |some o'=>rw[e] at h;exact .inl h
theorem Frag.or_sub {F H:Frag}{w:World}(hF:F.sub w)(hH:H.sub w):(F.or H).sub w:=by
 intro k o h
 rcases Frag.or_some h with h|h
 ·exact hF k o h
 ·exact hH k o h
theorem New.both {w w':World}{F H:Frag}(h:New w w' F)(k:New w w' H):New w w' (F.or H):=
 ⟨h.below,Frag.or_sub h.sub k.sub,fun i o e=>by rcases Frag.or_some e with e|e;exact h.new i o e;exact k.new i o e⟩
section
variable {w0:World}{M:List Blk}{F0 F:Frag}
end
/-- A number and an error. -/
def RT (t:Raw)(x:Int)(w:World)(e:Ending)(w':World):Prop:=∃p q r H,e=.returned (.tuple #[.agg #[p,q,r],.int .i64 x])∧Frag.Rt H p q r t∧New w w' H
/-- A number. -/
def RT1 (t:Raw)(w:World)(e:Ending)(w':World):Prop:=∃p q r H,e=.returned (.agg #[p,q,r])∧Frag.Rt H p q r t∧New w w' H
abbrev Tri:=Value×Value×Value
def cells3 (l:List Tri):List Value:=l.flatMap fun t=>[t.1,t.2.1,t.2.2]
theorem cells3_len (l:List Tri):(cells3 l).length=l.length*3:=by
 unfold cells3
 induction l with
 |nil=>rfl
 |cons t l ih=>rw[List.flatMap_cons,List.length_append,ih,List.length_cons];simp;omega
theorem cells3_append (l m:List Tri):cells3 (l++m)=cells3 l++cells3 m:=List.flatMap_append ..
theorem cells3_get:∀(l:List Tri) (j:Nat) (t:Tri),l[j]?=some t→(cells3 l)[j*3]?=some t.1∧(cells3 l)[j*3+1]?=some t.2.1∧(cells3 l)[j*3+2]?=some t.2.2
 |[],j,t,h=>by simp at h
 |u::l,0,t,h=>by
  have:u=t:=by simpa using h
  subst this
  exact⟨rfl,rfl,rfl⟩
 |u::l,j+1,t,h=>by
  have ih:=cells3_get l j t (by simpa using h)
  have e:∀d,(cells3 (u::l))[(j+1)*3+d]?=(cells3 l)[j*3+d]?:=by
   intro d
   rw[show(j+1)*3+d=(j*3+d)+3 by omega]
   rfl
  exact⟨(e 0).trans ih.1,(e 1).trans ih.2.1,(e 2).trans ih.2.2⟩
theorem cells3_set:∀(l:List Tri) (j:Nat) (t:Tri),j<l.length→cells3 (l.set j t)=(((cells3 l).set (j*3) t.1).set (j*3+1) t.2.1).set (j*3+2) t.2.2
 |[],j,t,h=>absurd h (Nat.not_lt_zero _)
 |u::l,0,t,h=>rfl
 |u::l,j+1,t,h=>by
  have ih:=cells3_set l j t (by simpa using h)
  have hc:∀m:List Tri,cells3 (u::m)=u.1::u.2.1::u.2.2::cells3 m:=fun _=>rfl
  rw[List.set_cons_succ,hc,ih,hc]
  rw[show(j+1)*3=j*3+3 by omega,show j*3+3+1=(j*3+1)+3 by omega,show j*3+3+2=(j*3+2)+3 by omega]
  simp only[List.set_cons_succ]
/-- l holds the numbers x, their limbs in f -/
def Frag.Tris (f:Frag)(l:List Tri)(n:Nat)(x:Nat→Raw):Prop:=l.length=n∧∀j,j<n→∃p q r,l[j]?=some (p,q,r)∧f.Rt p q r (x j)
theorem Frag.Tris.mono {f f':Frag}{l:List Tri}{n:Nat}{x:Nat→Raw}(h:f.Tris l n x)(s:f.le f'):f'.Tris l n x:=
 ⟨h.1,fun j hj=>by obtain⟨p,q,r,h1,h2⟩:=h.2 j hj;exact⟨p,q,r,h1,h2.mono s⟩⟩
theorem Frag.Tris.nil (f:Frag)(x:Nat→Raw):f.Tris [] 0 x:=⟨rfl,fun j h=>absurd h (Nat.not_lt_zero _)⟩
theorem Frag.Tris.snoc {f:Frag}{l:List Tri}{n:Nat}{x:Nat→Raw}(h:f.Tris l n x){p q r:Value}(k:f.Rt p q r (x n)):f.Tris (l++[(p,q,r)]) (n+1) x:=by
 refine⟨by simp[h.1],fun j hj=>?_⟩
 rcases Nat.lt_succ_iff_lt_or_eq.1 hj with hj|rfl
 ·obtain⟨p',q',r',h1,h2⟩:=h.2 j hj
  exact⟨p',q',r',by rw[List.getElem?_append_left (by rw[h.1];exact hj)];exact h1,h2⟩
 ·exact⟨p,q,r,by rw[List.getElem?_append_right (by rw[h.1];exact Nat.le_refl _),h.1];simp,k⟩
theorem Frag.Tris.set {f:Frag}{l:List Tri}{n:Nat}{x y:Nat→Raw}(h:f.Tris l n x){j:Nat}(hj:j<n){p q r:Value}(k:f.Rt p q r (y j))(e:∀i,i<n→i≠j→x i=y i):f.Tris (l.set j (p,q,r)) n y:=by
 refine⟨by rw[List.length_set,h.1],fun i hi=>?_⟩
 by_cases hij:i=j
 ·subst hij
  exact⟨p,q,r,List.getElem?_set_self (by rw[h.1];exact hi),k⟩
 ·obtain⟨p',q',r',h1,h2⟩:=h.2 i hi
  exact⟨p',q',r',by rw[List.getElem?_set_ne (fun e=>hij e.symm)];exact h1,e i hi hij▸h2⟩
theorem Row.get1 {T:TypeId}{size n cap:Nat}{xs cs:List Value}(h:Row T size n xs cap cs){j:Nat}{v:Value}(hv:xs[j]?=some v):cs[j]?=some v:=by
 have hj:j<xs.length:=(List.getElem?_eq_some_iff.1 hv).1
 rw[←h.take,List.getElem?_take] at hv
 split at hv
 ·exact hv
 ·cases hv
/-- a row of numbers that was appended, once it stays -/
theorem row_rw {f:Frag}{b:Nat}{T:TypeId}{n cap:Nat}{cs:List Value}{l:List Tri}{x:Nat→Raw}{fr:Nat×Nat}(hr:Row T 3 n (cells3 l) cap cs)(hb:f b=some (.cells cs.toArray T fr))(hl:f.Tris l n x)(h2:n≤140737488355328):f.Rw (some ⟨b,0,none⟩) cap n x:=by
 refine⟨hr.le,hr.max,h2,fun _=>⟨b,0,rfl,_,_,_,hb,fun j hj=>?_⟩⟩
 obtain⟨p,q,r,h3,h4⟩:=hl.2 j hj
 obtain⟨e1,e2,e3⟩:=cells3_get l j _ h3
 refine⟨p,q,r,?_,?_,?_,h4⟩
 ·have:=hr.get1 e1;simpa using this
 ·have:=hr.get1 e2;simpa using this
 ·have:=hr.get1 e3;simpa using this
/-- a block of slices of rows, once it stays -/
theorem blk_mt {f:Frag}{b:Nat}{T:TypeId}{n cap:Nat}{cs:List Value}{m:Nat→Nat}{x:Nat→Nat→Raw}{fr:Nat×Nat}(hb:f b=some (.cells cs.toArray T fr))(h1:n≤cap)(h2:cap≤9223372036854775807)(h3:n≤140737488355328)
  (h:∀i,i<n→∃B k,cs[i]?=some (.slice B (m i) k)∧f.Rw B k (m i) (x i)):f.Mt (some ⟨b,0,none⟩) cap n m x:=by
 refine⟨h1,h2,h3,fun _=>⟨b,0,rfl,_,_,_,hb,fun i hi=>?_⟩⟩
 obtain⟨B,k,e1,e2⟩:=h i hi
 exact⟨B,k,by simpa using e1,e2⟩
@[go_sem] theorem run_store_func (P:Program) (w:World) (a:Addr) (m:Mode) (f:Fn) (x y:Array Value):(store a (.func f x y) m).run P w=stored P w a (.func f x y) m:=run_store P w a _ m rfl
/-- F is one of the parts I -/
def InF (F:Frag)(I:List Frag):Prop:=F∈I
@[go_sem] theorem InF.head (F:Frag) (I:List Frag):InF F (F::I):=List.mem_cons_self ..
@[go_sem] theorem InF.tail {F H:Frag} {I:List Frag} (h:InF F I):InF F (H::I):=List.mem_cons_of_mem _ h
section
variable {w0:World}{X:List Nat}{M:List Blk}{I:List Frag}{F:Frag}
theorem G.cellF (g:G w0 X M I)(hF:InF F I){b o:Nat}{cs:Array Value}{T:TypeId}{fr:Nat×Nat}{j:Nat}{v:Value}(hb:F b=some (.cells cs T fr))(hv:cs[j]?=some v):g.w.cell? ⟨b,j,Option.none⟩=some v:=by
 have:=g.sub F hF _ _ hb
 simp only[World.cell?,this]
 exact hv
/-- a number's three cells, wherever the part F stays -/
def Frag.C3 (F:Frag)(b o:Nat)(p q r:Value):Prop:=∀(w0:World) (X:List Nat) (M:List Blk) (I:List Frag) (g:G w0 X M I),InF F I→g.w.cell? ⟨b,o,none⟩=some p∧g.w.cell? ⟨b,o+1,none⟩=some q∧g.w.cell? ⟨b,o+2,none⟩=some r
theorem Frag.Rw.num {f:Frag}{A:Option Addr}{c n:Nat}{x:Nat→Raw}(h:f.Rw A c n x)(h0:0<n):∃b o,A=some ⟨b,o,none⟩∧∀j,j<n→∃p q r,f.C3 b (o+j*3) p q r∧f.Rt p q r (x j):=by
 obtain⟨b,o,e,cs,T,fr,hb,hc⟩:=h.row h0
 refine⟨b,o,e,fun j hj=>?_⟩
 obtain⟨p,q,r,h1,h2,h3,h4⟩:=hc j hj
 exact⟨p,q,r,fun w0 X M I g hI=>⟨g.cellF hI (o:=o) hb h1,g.cellF hI (o:=o) hb h2,g.cellF hI (o:=o) hb h3⟩,h4⟩
/-- one cell, wherever the part F stays -/
def Frag.C1 (F:Frag)(b o:Nat)(v:Value):Prop:=∀(w0:World) (X:List Nat) (M:List Blk) (I:List Frag) (g:G w0 X M I),InF F I→g.w.cell? ⟨b,o,none⟩=some v
theorem Frag.Mt.rowAt {f:Frag}{A:Option Addr}{c n:Nat}{m:Nat→Nat}{x:Nat→Nat→Raw}(h:f.Mt A c n m x)(h0:0<n):∃b o,A=some ⟨b,o,none⟩∧∀i,i<n→∃B k,f.C1 b (o+i) (.slice B (m i) k)∧f.Rw B k (m i) (x i):=by
 obtain⟨b,o,e,cs,T,fr,hb,hc⟩:=h.rows h0
 refine⟨b,o,e,fun i hi=>?_⟩
 obtain⟨B,k,h1,h2⟩:=hc i hi
 exact⟨B,k,fun w0 X M I g hI=>g.cellF hI (o:=o) hb h1,h2⟩
/-- two parts become one -/
theorem G.merge {H:Frag}(g:G w0 X M (H::F::I)):∃F':Frag,∃g':G w0 X M (F'::I),g.w=g'.w∧F.le F'∧H.le F'∧∀k o,F' k=some o→F k=some o∨H k=some o:=by
 have sF:=g.sub F (by simp)
 have sH:=g.sub H (by simp)
 obtain⟨g1,e1⟩:=(g.see (H.or F) (Frag.or_sub sH sF) (fun k o h=>by rcases Frag.or_some h with h|h;exact g.keep H (by simp) k o h;exact g.keep F (by simp) k o h)).lessI (I':=H.or F::I) (by
  intro f hf
  rcases List.mem_cons.1 hf with rfl|hf
  ·exact List.mem_cons_self ..
  ·simp[hf])
 exact⟨_,g1,e1,Frag.le_orr sH sF,Frag.le_orl H F,fun k o h=>(Frag.or_some h).symm⟩
end
/-- what is of F is new since w0 -/
def Frag.Nw (F:Frag)(w0:World):Prop:=∀k o,F k=some o→w0.heap.size≤k
theorem Frag.Nw.none (w0:World):Frag.Nw (fun _=>Option.none) w0:=by intro k o h;cases h
section
variable {w0:World}{X:List Nat}{M:List Blk}{I:List Frag}{F:Frag}
theorem G.newF (g:G w0 [] M (F::I))(hn:F.Nw w0):New w0 g.w F:=⟨g.below,g.sub F (by simp),hn⟩
/-- an empty part at the head -/
theorem G.none_ex (g:G w0 X M I):∃g':G w0 X M ((fun _=>Option.none)::I),g.w=g'.w:=
 ⟨g.see (fun _=>Option.none) (fun k o h=>by cases h) (fun k o h=>by cases h),rfl⟩
/-- own blocks become part of what stays -/
theorem G.layR:∀(R:List Blk) {F:Frag} (g:G w0 [] (R++M) (F::I)),∃F':Frag,∃g':G w0 [] M (F'::I),g.w=g'.w∧F.le F'∧(∀m∈R,F' m.1=some (.cells m.2.2.toArray m.2.1 (0,0)))∧(F.Nw w0→F'.Nw w0)
 |[],F,g=>⟨F,g,rfl,Frag.le_refl F,by simp,id⟩
 | (b, T, cs) :: R, F, g => by
  have hb:=g.own _ (List.mem_cons_self ..)
  simp only at hb
  have hd:=g.dist
  rw[List.cons_append,List.map_cons,List.nodup_cons] at hd
  have hfr:=g.fresh (List.mem_cons_self ..)
  obtain⟨g1,e1⟩:=g.less (M':=R++M) (List.sublist_cons_self _ _)
  have hB:=blkF_sub hb
  rw[e1] at hB
  let g2:G w0 [] (R++M) (blkF b (.cells cs.toArray T (0,0))::F::I):=g1.see _ hB (fun k o e=>by
   refine⟨.inr (by simp),fun hm=>?_⟩
   unfold blkF at e
   split at e
   ·next h=>subst h;exact hd.1 hm
   ·cases e)
  obtain⟨F1,g3,e3,h1,h2,h3⟩:=g2.merge
  obtain⟨F',g',e',k1,k2,k3⟩:=G.layR R g3
  refine⟨F',g',(e1.trans e3).trans e',Frag.le_trans h1 k1,fun m hm=>?_,fun hn=>k3 fun k o hk=>?_⟩
  ·rcases List.mem_cons.1 hm with rfl|hm
   ·exact k1 _ _ (h2 _ _ (by unfold blkF;rw[if_pos rfl]))
   ·exact k2 m hm
  ·rcases h3 k o hk with hk|hk
   ·exact hn k o hk
   ·unfold blkF at hk
    split at hk
    ·next h=>subst h;exact hfr
    ·cases hk
end
def OwnOn (S:List Nat)(Q:Nat→Value→List Blk→Prop)(R:List Blk)(oc:List Value):Prop:=∃Rs:Nat→List Blk,R.Perm (S.flatMap Rs)∧∀j∈S,∃v,oc[j]?=some v∧Q j v (Rs j)
theorem OwnOn.nil (Q:Nat→Value→List Blk→Prop)(oc:List Value):OwnOn [] Q [] oc:=⟨fun _=>[],List.Perm.refl _,fun j h=>by cases h⟩
theorem OwnOn.perm {S S':List Nat}{Q:Nat→Value→List Blk→Prop}{R:List Blk}{oc:List Value}(h:OwnOn S Q R oc)(hp:S.Perm S'):OwnOn S' Q R oc:=by
 obtain⟨Rs,h1,h2⟩:=h
 exact⟨Rs,h1.trans (List.Perm.flatMap_right Rs hp),fun j hj=>h2 j (hp.mem_iff.2 hj)⟩
theorem OwnOn.open1 {i:Nat}{S:List Nat}{Q:Nat→Value→List Blk→Prop}{R:List Blk}{oc:List Value}(h:OwnOn (i::S) Q R oc):∃v s R',oc[i]?=some v∧Q i v s∧R.Perm (s++R')∧OwnOn S Q R' oc:=by
 obtain⟨Rs,h1,h2⟩:=h
 obtain⟨v,h3,h4⟩:=h2 i (List.mem_cons_self ..)
 exact⟨v,Rs i,S.flatMap Rs,h3,h4,by rwa[List.flatMap_cons] at h1,Rs,List.Perm.refl _,fun j hj=>h2 j (List.mem_cons_of_mem _ hj)⟩
theorem OwnOn.next {S:List Nat}{Q Q':Nat→Value→List Blk→Prop}{R:List Blk}{oc oc':List Value}(h:OwnOn S Q R oc)(h1:∀j∈S,oc'[j]?=oc[j]?)(h2:∀j∈S,∀v s,Q j v s→Q' j v s):OwnOn S Q' R oc':=by
 obtain⟨Rs,k1,k2⟩:=h
 refine⟨Rs,k1,fun j hj=>?_⟩
 obtain⟨v,k3,k4⟩:=k2 j hj
 exact⟨v,(h1 j hj).trans k3,h2 j hj v _ k4⟩
theorem OwnOn.close1 {i:Nat}{S:List Nat}{Q:Nat→Value→List Blk→Prop}{R':List Blk}{oc:List Value}{v:Value}{s:List Blk}(h:OwnOn S Q R' oc)(hi:i ∉ S)(h1:oc[i]?=some v)(h2:Q i v s):OwnOn (i::S) Q (s++R') oc:=by
 obtain⟨Rs,k1,k2⟩:=h
 refine⟨fun j=>if j=i then s else Rs j,?_,fun j hj=>?_⟩
 ·rw[List.flatMap_cons,if_pos rfl]
  refine List.Perm.append_left s (k1.trans ?_)
  rw[show S.flatMap Rs=S.flatMap (fun j=>if j=i then s else Rs j) from ?_]
  clear k1 k2
  induction S with
  |nil=>rfl
  |cons a S ih=>
   rw[List.mem_cons,not_or] at hi
   rw[List.flatMap_cons,List.flatMap_cons,if_neg (fun e=>hi.1 e.symm),ih hi.2]
 ·rcases List.mem_cons.1 hj with rfl|hj
  ·exact⟨v,h1,by simp only[if_true];exact h2⟩
  ·obtain⟨u,k3,k4⟩:=k2 j hj
   have:j≠i:=fun e=>hi (e▸hj)
   exact⟨u,k3,by simp only[if_neg this];exact k4⟩
/-- the first n but i -/
def but (n i:Nat):List Nat:=(List.range n).erase i
theorem but_perm {n i:Nat}(h:i<n):(List.range n).Perm (i::but n i):=List.perm_cons_erase (List.mem_range.2 h)
theorem but_not (n i:Nat):i ∉ but n i:=by
 unfold but
 intro h
 exact absurd rfl ((List.Nodup.mem_erase_iff List.nodup_range).1 h).1
theorem mem_but {n i j:Nat}:j∈but n i↔j≠i∧j<n:=by
 unfold but
 rw[List.Nodup.mem_erase_iff List.nodup_range,List.mem_range]
/-- row i is opened -/
theorem OwnOn.openAt {n i:Nat}{Q:Nat→Value→List Blk→Prop}{R:List Blk}{oc:List Value}(h:OwnOn (List.range n) Q R oc)(hi:i<n):∃v s R',oc[i]?=some v∧Q i v s∧R.Perm (s++R')∧OwnOn (but n i) Q R' oc:=(h.perm (but_perm hi)).open1
/-- row i is closed, as another -/
theorem OwnOn.closeAt {n i:Nat}{Q Q':Nat→Value→List Blk→Prop}{R':List Blk}{oc oc':List Value}{v:Value}{s:List Blk}(h:OwnOn (but n i) Q R' oc)(hi:i<n)(h1:oc'[i]?=some v)(h2:Q' i v s)(h3:∀j,j≠i→j<n→oc'[j]?=oc[j]?)(h4:∀j,j≠i→j<n→∀v s,Q j v s→Q' j v s):OwnOn (List.range n) Q' (s++R') oc':=
 (((h.next (oc':=oc') (Q':=Q') (fun j hj=>h3 j (mem_but.1 hj).1 (mem_but.1 hj).2) (fun j hj=>h4 j (mem_but.1 hj).1 (mem_but.1 hj).2)).close1 (but_not n i) h1 h2)).perm (but_perm hi).symm
/-- one row more -/
theorem OwnOn.more {n:Nat}{Q Q':Nat→Value→List Blk→Prop}{R:List Blk}{oc oc':List Value}{v:Value}{s:List Blk}(h:OwnOn (List.range n) Q R oc)(h1:oc'[n]?=some v)(h2:Q' n v s)(h3:∀j,j<n→oc'[j]?=oc[j]?)(h4:∀j,j<n→∀v s,Q j v s→Q' j v s):OwnOn (List.range (n+1)) Q' (s++R) oc':=by
 have:=(h.next (oc':=oc') (Q':=Q') (fun j hj=>h3 j (List.mem_range.1 hj)) (fun j hj=>h4 j (List.mem_range.1 hj))).close1 (by simp) h1 h2
 refine this.perm ?_
 rw[List.range_succ]
 exact(List.perm_append_singleton n _).symm
def RowV (lo:Nat)(e:TypeId)(size k:Nat)(xs:List Value)(A:Option Addr)(c:Nat)(s:List Blk):Prop:=
 (A=none∧c=0∧k=0∧xs=[]∧s=[])∨∃b cs,A=some ⟨b,0,none⟩∧s=[(b,e,cs)]∧lo≤b∧Row e size k xs c cs
theorem RowV.nil (lo:Nat)(e:TypeId)(size:Nat):RowV lo e size 0 [] none 0 []:=.inl ⟨rfl,rfl,rfl,rfl,rfl⟩
theorem RowV.row {lo b:Nat}{e:TypeId}{size k c:Nat}{xs cs:List Value}(h:Row e size k xs c cs)(hb:lo≤b):RowV lo e size k xs (some ⟨b,0,none⟩) c [(b,e,cs)]:=.inr ⟨b,cs,rfl,rfl,hb,h⟩
section
variable {w0:World}{X:List Nat}{M:List Blk}{I:List Frag}
/-- append of what was written out (block bs) to a slice that is nil or whose block stands behind the first n₀ blocks -/
theorem wpList_append_v {P:Program}{ops:Array Oper}{rest:List Oper}{o:Oper}{a:Act}{Q:Exit→Act→World→Prop}(hgd:o.guard=none)(s x:Operand)(t:TypeId)
  (ho:o.op=.call {callee:=.builtin .append,args:= #[s,x],argTypes:= #[t,t]})
  (e:TypeId) (i:TypeInfo) (z:Value) (size bytes:Nat) (ht:P.underlying t=some (.slice e)) (hi:P.info? e=some i) (hz:i.zero=some z)
  (hsize:i.size=size) (hby:i.bytes=bytes) (hzs:z.cells.size=size) (hsz:0<size)
  (n₀:Nat) (g:G w0 X M I) {Rr R':List Blk} (hM:M.drop n₀=Rr++R') {A:Option Addr} {c k:Nat} {xs:List Value} (hv:RowV w0.heap.size e size k xs A c Rr) (hs:a.eval s=.slice A k c)
  {bs:Nat} {news:List Value} (hbs:(bs,e,news)∈M.take n₀) (m:Nat) (hx:a.eval x=.slice (some ⟨bs,0,none⟩) m m) (hl:news.length=m*size) (h1:∀u∈news,u.oneCell'=true)
  (hm:0<m) (h63:k+m≤maxLen) (hbytes:(k+m)*bytes≤140737488355328)
  (h:∀b cap cs,∀g':G w0 X (M.take n₀++(b,e,cs)::R') I,w0.heap.size≤b→Row e size (k+m) (xs++news) cap cs→wpList P ops Q rest (a.put o.dst (.slice (some ⟨b,0,none⟩) (k+m) cap)) g'.w):
  wpList P ops Q (o::rest) a g.w:=by
 have eM:M=M.take n₀++(Rr++R'):=by rw[←hM,List.take_append_drop]
 have hsub:(M.take n₀++R').Sublist M:=by
  conv=>rhs;rw[eM]
  exact(List.Sublist.refl _).append (List.sublist_append_right _ _)
 obtain⟨g1,e1⟩:=g.less hsub
 have hd:=g.dist
 have hk:=g.keep
 have hbm:(bs,e,news)∈M.take n₀++R':=List.mem_append_left _ hbs
 have hnews:∀j u,news[j]?=some u→g1.w.cell? ((⟨bs,0,none⟩:Addr).add j)=some u:=by
  intro j u hj
  have:=g1.own _ hbm
  simp only at this
  rw[add_off]
  simp[World.cell?,this,hj]
 rw[e1]
 have fin:∀b cap cs,∀g':G w0 X ((b,e,cs)::(M.take n₀++R')) I,w0.heap.size≤b→Row e size (k+m) (xs++news) cap cs→wpList P ops Q rest (a.put o.dst (.slice (some ⟨b,0,none⟩) (k+m) cap)) g'.w:=by
  intro b cap cs g' hb hr
  obtain⟨g2,e2⟩:=g'.perm (M':=M.take n₀++(b,e,cs)::R') List.perm_middle.symm
  rw[e2]
  exact h b cap cs g2 hb hr
 rcases hv with⟨rfl,rfl,rfl,rfl,rfl⟩|⟨b,cs,rfl,rfl,hb,hr⟩
 ·exact wpList_append_g hgd s x t ho e i z size bytes ht hi hz hsize hby hzs hsz g1 _ 0 [] hs (g1.rowNil e size) (by intro m _ h;cases h) (by intro f _ k o _ h;cases h) ⟨bs,0,none⟩ m m news hx hl hnews h1 hm h63 hbytes fin
 ·have hbM:(b,e,cs)∈M:=by rw[eM];simp
  have hown:=g.rowAt hr hbM hb
  rw[e1] at hown
  refine wpList_append_g hgd s x t ho e i z size bytes ht hi hz hsize hby hzs hsz g1 _ k xs hs hown ?_ ?_ ⟨bs,0,none⟩ m m news hx hl hnews h1 hm h63 hbytes fin
  ·intro m' hm' e'
   have e3:m'.1=b:=Option.some.inj e'
   have p:(M.map (·.1)).Perm (b::(M.take n₀++R').map (·.1)):=by
    have:M.Perm ((b,e,cs)::(M.take n₀++R')):=by
     conv=>lhs;rw[eM]
     exact List.perm_middle
    exact this.map _
   have:=(p.nodup_iff.1 hd)
   rw[List.nodup_cons] at this
   exact this.1 (List.mem_map.2 ⟨m',hm',e3⟩)
  ·intro f hf k' o' hk' e'
   have e3:k'=b:=Option.some.inj e'
   exact(hk f hf k' o' hk').2 (List.mem_map.2 ⟨_,hbM,e3.symm⟩)
/-- the same, as a step of a region that draws its order -/
theorem step_append_v {P:Program}{ops:Array Oper}{o:Oper}{a:Act}{K:Act→World→Prop}{Q:Exit→Act→World→Prop}{E:Prop}(hgd:o.guard=none)(s x:Operand)(t:TypeId)
  (ho:o.op=.call {callee:=.builtin .append,args:= #[s,x],argTypes:= #[t,t]})
  (e:TypeId) (i:TypeInfo) (z:Value) (size bytes:Nat) (ht:P.underlying t=some (.slice e)) (hi:P.info? e=some i) (hz:i.zero=some z)
  (hsize:i.size=size) (hby:i.bytes=bytes) (hzs:z.cells.size=size) (hsz:0<size)
  (n₀:Nat) (g:G w0 X M I) {Rr R':List Blk} (hM:M.drop n₀=Rr++R') {A:Option Addr} {c k:Nat} {xs:List Value} (hv:RowV w0.heap.size e size k xs A c Rr) (hs:a.eval s=.slice A k c)
  {bs:Nat} {news:List Value} (hbs:(bs,e,news)∈M.take n₀) (m:Nat) (hx:a.eval x=.slice (some ⟨bs,0,none⟩) m m) (hl:news.length=m*size) (h1:∀u∈news,u.oneCell'=true)
  (hm:0<m) (h63:k+m≤maxLen) (hbytes:(k+m)*bytes≤140737488355328)
  (h:∀b cap cs,∀g':G w0 X (M.take n₀++(b,e,cs)::R') I,w0.heap.size≤b→Row e size (k+m) (xs++news) cap cs→K (a.put o.dst (.slice (some ⟨b,0,none⟩) (k+m) cap)) g'.w):
  if Region.wanted o (yielded ops a.tmps)=true then Oper.wp P o a g.w K Q else E:=by
 have hw:Region.wanted o (yielded ops a.tmps)=true:=by simp[Region.wanted,hgd]
 rw[if_pos hw]
 have eM:M=M.take n₀++(Rr++R'):=by rw[←hM,List.take_append_drop]
 have hsub:(M.take n₀++R').Sublist M:=by
  conv=>rhs;rw[eM]
  exact(List.Sublist.refl _).append (List.sublist_append_right _ _)
 obtain⟨g1,e1⟩:=g.less hsub
 have hd:=g.dist
 have hk:=g.keep
 have hbm:(bs,e,news)∈M.take n₀++R':=List.mem_append_left _ hbs
 have hnews:∀j u,news[j]?=some u→g1.w.cell? ((⟨bs,0,none⟩:Addr).add j)=some u:=by
  intro j u hj
  have:=g1.own _ hbm
  simp only at this
  rw[add_off]
  simp[World.cell?,this,hj]
 rw[e1]
 have fin:∀b cap cs,∀g':G w0 X ((b,e,cs)::(M.take n₀++R')) I,w0.heap.size≤b→Row e size (k+m) (xs++news) cap cs→K (a.put o.dst (.slice (some ⟨b,0,none⟩) (k+m) cap)) g'.w:=by
  intro b cap cs g' hb hr
  obtain⟨g2,e2⟩:=g'.perm (M':=M.take n₀++(b,e,cs)::R') List.perm_middle.symm
  rw[e2]
  exact h b cap cs g2 hb hr
 rcases hv with⟨rfl,rfl,rfl,rfl,rfl⟩|⟨b,cs,rfl,rfl,hb,hr⟩
 ·exact wp_append_g s x t ho e i z size bytes ht hi hz hsize hby hzs hsz g1 _ 0 [] hs (g1.rowNil e size) (by intro m _ h;cases h) (by intro f _ k o _ h;cases h) ⟨bs,0,none⟩ m m news hx hl hnews h1 hm h63 hbytes fin
 ·have hbM:(b,e,cs)∈M:=by rw[eM];simp
  have hown:=g.rowAt hr hbM hb
  rw[e1] at hown
  refine wp_append_g s x t ho e i z size bytes ht hi hz hsize hby hzs hsz g1 _ k xs hs hown ?_ ?_ ⟨bs,0,none⟩ m m news hx hl hnews h1 hm h63 hbytes fin
  ·intro m' hm' e'
   have e3:m'.1=b:=Option.some.inj e'
   have p:(M.map (·.1)).Perm (b::(M.take n₀++R').map (·.1)):=by
    have:M.Perm ((b,e,cs)::(M.take n₀++R')):=by
     conv=>lhs;rw[eM]
     exact List.perm_middle
    exact this.map _
   have:=(p.nodup_iff.1 hd)
   rw[List.nodup_cons] at this
   exact this.1 (List.mem_map.2 ⟨m',hm',e3⟩)
  ·intro f hf k' o' hk' e'
   have e3:k'=b:=Option.some.inj e'
   exact(hk f hf k' o' hk').2 (List.mem_map.2 ⟨_,hbM,e3.symm⟩)
/-- the blocks ahead are forgotten -/
theorem G.forget (g:G w0 X M I)(n:Nat):∃g':G w0 X (M.drop n) I,g.w=g'.w:=g.less (List.drop_sublist n M)
end
def NumRow (lo:Nat)(T:TypeId)(F:Frag)(n:Nat)(x:Nat→Raw)(v:Value)(s:List Blk):Prop:=∃A c l,v=.slice A n c∧RowV lo T 3 n (cells3 l) A c s∧F.Tris l n x
theorem NumRow.mono {lo:Nat}{T:TypeId}{F F':Frag}{n:Nat}{x:Nat→Raw}{v:Value}{s:List Blk}(h:NumRow lo T F n x v s)(hF:F.le F'):NumRow lo T F' n x v s:=by
 obtain⟨A,c,l,h1,h2,h3⟩:=h
 exact⟨A,c,l,h1,h2,h3.mono hF⟩
theorem NumRow.nil (lo:Nat)(T:TypeId)(F:Frag)(x:Nat→Raw):NumRow lo T F 0 x (.slice none 0 0) []:=⟨none,0,[],rfl,RowV.nil _ _ _,Frag.Tris.nil F x⟩
theorem Frag.Tris.congr {f:Frag}{l:List Tri}{n:Nat}{x y:Nat→Raw}(h:f.Tris l n x)(e:∀j,j<n→x j=y j):f.Tris l n y:=
 ⟨h.1,fun j hj=>by obtain⟨p,q,r,h1,h2⟩:=h.2 j hj;exact⟨p,q,r,h1,e j hj▸h2⟩⟩
theorem NumRow.congr {lo:Nat}{T:TypeId}{F:Frag}{n:Nat}{x y:Nat→Raw}{v:Value}{s:List Blk}(h:NumRow lo T F n x v s)(e:∀j,j<n→x j=y j):NumRow lo T F n y v s:=by
 obtain⟨A,c,l,h1,h2,h3⟩:=h
 exact⟨A,c,l,h1,h2,h3.congr e⟩
/-- a number was appended -/
theorem NumRow.snoc {lo b:Nat}{T:TypeId}{F F':Frag}{n cap:Nat}{x:Nat→Raw}{l:List Tri}{cs:List Value}{p q r:Value}(hl:F.Tris l n x)(hF:F.le F')(hr:Row T 3 (n+1) (cells3 l++[p,q,r]) cap cs)(hb:lo≤b)(h:F'.Rt p q r (x n)):NumRow lo T F' (n+1) x (.slice (some ⟨b,0,none⟩) (n+1) cap) [(b,T,cs)]:=
 ⟨_,cap,l++[(p,q,r)],rfl,RowV.row (by rw[cells3_append];exact hr) hb,(hl.mono hF).snoc h⟩
/-- a row that stays -/
theorem NumRow.rw {lo:Nat}{T:TypeId}{F F':Frag}{n:Nat}{x:Nat→Raw}{v:Value}{s:List Blk}(h:NumRow lo T F n x v s)(hF:F.le F')(hs:∀m∈s,F' m.1=some (.cells m.2.2.toArray m.2.1 (0,0)))(h2:n≤140737488355328):∃A c,v=.slice A n c∧F'.Rw A c n x:=by
 obtain⟨A,c,l,rfl,hv,hl⟩:=h
 refine⟨A,c,rfl,?_⟩
 rcases hv with⟨rfl,rfl,rfl,_,_⟩|⟨b,cs,rfl,rfl,hb,hr⟩
 ·exact Frag.Rw.nil F' _ x
 ·exact row_rw hr (hs _ (List.mem_singleton.2 rfl)) (hl.mono hF) h2
/-- a matrix that was built, once it stays -/
theorem OwnOn.mt {lo:Nat}{T Ts:TypeId}{F F':Frag}{n:Nat}{m:Nat→Nat}{x:Nat→Nat→Raw}{R:List Blk}{oc:List Value}{ob cap:Nat}(h:OwnOn (List.range n) (fun i=>NumRow lo T F (m i) (x i)) R oc)(hF:F.le F')(hs:∀m∈R,F' m.1=some (.cells m.2.2.toArray m.2.1 (0,0)))(ho:F' ob=some (.cells oc.toArray Ts (0,0)))
  (h1:n≤cap) (h2:cap≤9223372036854775807) (h3:n≤140737488355328) (h4:∀i,i<n→m i≤140737488355328):F'.Mt (some ⟨ob,0,none⟩) cap n m x:=by
 refine blk_mt ho h1 h2 h3 fun i hi=>?_
 obtain⟨Rs,k1,k2⟩:=h
 obtain⟨v,k3,k4⟩:=k2 i (List.mem_range.2 hi)
 obtain⟨A,c,rfl,k5⟩:=k4.rw hF (fun m hm=>hs m (k1.mem_iff.2 (List.mem_flatMap.2 ⟨i,List.mem_range.2 hi,hm⟩))) (h4 i hi)
 exact⟨A,c,k3,k5⟩
theorem own_start (n:Nat)(Q:Nat→Value→List Blk→Prop)(h:∀i,i<n→Q i (.slice none 0 0) []):OwnOn (List.range n) Q [] (List.replicate n (.slice none 0 0)):=by
 refine⟨fun _=>[],?_,fun j hj=>⟨_,by rw[List.getElem?_replicate,if_pos (List.mem_range.1 hj)],h j (List.mem_range.1 hj)⟩⟩
 rw[show(List.range n).flatMap (fun _=>([]:List Blk))=[] by induction (List.range n)<;>simp_all]
theorem Row.tri {T:TypeId}{m cap:Nat}{l:List Tri}{cs:List Value}(h:Row T 3 m (cells3 l) cap cs){j:Nat}{p q r:Value}(hj:l[j]?=some (p,q,r)):cs[j*3]?=some p∧cs[j*3+1]?=some q∧cs[j*3+2]?=some r:=by
 obtain⟨h1,h2,h3⟩:=cells3_get l j _ hj
 exact⟨h.get1 h1,h.get1 h2,h.get1 h3⟩
theorem Row.setTri {T:TypeId}{m cap:Nat}{l:List Tri}{cs:List Value}(h:Row T 3 m (cells3 l) cap cs){j:Nat}(hj:j<m)(hl:l.length=m)(p q r:Value):Row T 3 m (cells3 (l.set j (p,q,r))) cap (((cs.set (j*3) p).set (j*3+1) q).set (j*3+2) r):=by
 refine⟨h.le,h.max,by simp[h.len],?_,by rw[cells3_len,List.length_set,←cells3_len];exact h.xl⟩
 rw[cells3_set _ _ _ (by omega),←h.take]
 simp only[List.take_set]
/-- a matrix that a walk has built becomes part of what stays -/
theorem G.freeze {w0:World}{n:Nat}{m:Nat→Nat}{x:Nat→Nat→Raw}{T Ts:TypeId}{F:Frag}{R M:List Blk}{I:List Frag}{oc:List Value}{ob:Nat}(g:G w0 [] ((ob,Ts,oc)::(R++M)) (F::I))(h:OwnOn (List.range n) (fun i=>NumRow w0.heap.size T F (m i) (x i)) R oc)(hn:F.Nw w0)(h3:n≤140737488355328)(h4:∀i,i<n→m i≤140737488355328):
  ∃F':Frag,∃g':G w0 [] M (F'::I),g.w=g'.w∧F'.Mt (some ⟨ob,0,Option.none⟩) n n m x∧F.le F'∧F'.Nw w0:=by
 obtain⟨g1,e1⟩:=g.as (M':=((ob,Ts,oc)::R)++M) rfl
 obtain⟨F',g',e',hle,hb,hnw⟩:=G.layR ((ob,Ts,oc)::R) g1
 refine⟨F',g',e1.trans e',h.mt hle (fun m hm=>hb m (List.mem_cons_of_mem _ hm)) (hb _ (List.mem_cons_self ..)) (Nat.le_refl n) (by omega) h3 h4,hle,hnw hn⟩
/-- rows before i have m numbers, row i has k, those behind none -/
def lenA (m i k:Nat)(j:Nat):Nat:=if j<i then m else if j=i then k else 0
theorem lenA_at (m i k:Nat):lenA m i k i=k:=by unfold lenA;rw[if_neg (Nat.lt_irrefl i),if_pos rfl]
theorem lenA_ne (m:Nat){i j k k':Nat}(h:j≠i):lenA m i k j=lenA m i k' j:=by unfold lenA;rw[if_neg h,if_neg h]
theorem lenA_full (m i j:Nat):lenA m i m j=lenA m (i+1) 0 j:=by
 unfold lenA
 by_cases h:j<i
 ·rw[if_pos h,if_pos (by omega)]
 ·by_cases h2:j=i
  ·rw[if_neg h,if_pos h2,if_pos (by omega)]
  ·rw[if_neg h,if_neg h2,if_neg (by omega),ite_self]
theorem lenA_end {m n j:Nat}(h:j<n):lenA m n 0 j=m:=if_pos h
theorem lenA_start (m j:Nat):lenA m 0 0 j=0:=by unfold lenA;rw[if_neg (Nat.not_lt_zero j),ite_self]
end Go.Proofs.YthhbbnfnejjpiaaGreatDoor.GW
namespace Go.Proofs.YthhbbnfnejjpiaaGreatDoor.MX
open Go
/-- The row's entries are N / D with one D, D at most 2^q, the numerators at most 2^n. -/
def RowQ (n q:Nat)(r:List Rat):Prop:=∃D:Nat,0<D∧D≤2^q∧∀x∈r,∃N:Int,N.natAbs≤2^n∧x*(D:Rat)=(N:Rat)
theorem RowQ.mono {n q n' q':Nat}{r:List Rat}(h:RowQ n q r)(hn:n≤n')(hq:q≤q'):RowQ n' q' r:=by
 obtain⟨D,h0,h1,h2⟩:=h
 refine⟨D,h0,Nat.le_trans h1 (Nat.pow_le_pow_right (by decide) hq),fun x hx=>?_⟩
 obtain⟨N,a,b⟩:=h2 x hx
 exact⟨N,Nat.le_trans a (Nat.pow_le_pow_right (by decide) hn),b⟩
theorem natCast_ne {D:Nat}(h:0<D):(D:Rat)≠0:=by
 intro e
 have:(D:Rat)=((0:Nat):Rat):=e
 rw[Rat.natCast_inj] at this
 omega
theorem mul_pow_le {a b n m:Nat}(ha:a≤2^n)(hb:b≤2^m):a*b≤2^(n+m):=by
 rw[Nat.pow_add];exact Nat.mul_le_mul ha hb
theorem RowQ.div {n q:Nat}{r:List Rat}{p:Rat}(h:RowQ n q r)(hp:p∈r)(h0:p≠0):RowQ n n (r.map (· /p)):=by
 obtain⟨D,hD,h1,h2⟩:=h
 obtain⟨P,hP,eP⟩:=h2 p hp
 have hD':=natCast_ne hD
 have hPne:P≠0:=by
  intro e
  rw[e] at eP
  have:p*(D:Rat)=0:=by simpa using eP
  rcases Rat.mul_eq_zero.1 this with k|k
  ·exact h0 k
  ·exact hD' k
 refine⟨P.natAbs,by omega,hP,fun y hy=>?_⟩
 obtain⟨x,hx,rfl⟩:=List.mem_map.1 hy
 obtain⟨N,hN,eN⟩:=h2 x hx
 refine⟨if 0≤P then N else -N,by split<;>simpa using hN,?_⟩
 have key:x/p*(P:Rat)=(N:Rat):=by
  rw[←eP,←eN,Rat.div_def]
  rw[show x*p⁻¹*(p*(D:Rat))=x*(D:Rat)*(p*p⁻¹) by grind,Rat.mul_inv_cancel _ h0,Rat.mul_one]
 split
 ·rename_i hs
  have e:((P.natAbs:Nat):Rat)=(P:Rat):=by
   rw[←Rat.intCast_natCast,Int.natAbs_of_nonneg hs]
  rw[e,key]
 ·rename_i hs
  have e:((P.natAbs:Nat):Rat)= -(P:Rat):=by
   rw[←Rat.intCast_natCast,←Rat.intCast_neg]
   congr 1
   omega
  rw[e,Rat.mul_neg,key,Rat.intCast_neg]
theorem RowQ.sub {n q m:Nat}{r s:List Rat}{f:Rat}(h:RowQ n q r)(k:RowQ n m s)(hf:f∈r)(hl:r.length=s.length):RowQ (n+max n m+1) (q+m) (List.zipWith (fun y z=>y-f*z) r s):=by
 obtain⟨D,hD,h1,h2⟩:=h
 obtain⟨E,hE,k1,k2⟩:=k
 obtain⟨F,hF,eF⟩:=h2 f hf
 refine⟨D*E,Nat.mul_pos hD hE,mul_pow_le h1 k1,fun x hx=>?_⟩
 obtain⟨i,hi,rfl⟩:=List.getElem_of_mem hx
 rw[List.getElem_zipWith]
 simp only[List.length_zipWith] at hi
 obtain⟨N,hN,eN⟩:=h2 r[i] (List.getElem_mem _)
 obtain⟨M,hM,eM⟩:=k2 s[i] (List.getElem_mem _)
 refine⟨N*E-F*M,?_,?_⟩
 ·have a1:(N*E).natAbs≤2^(n+max n m):=by
   rw[Int.natAbs_mul,Int.natAbs_natCast]
   exact mul_pow_le hN (Nat.le_trans k1 (Nat.pow_le_pow_right (by decide) (by omega)))
  have a2:(F*M).natAbs≤2^(n+max n m):=by
   rw[Int.natAbs_mul]
   exact mul_pow_le hF (Nat.le_trans hM (Nat.pow_le_pow_right (by decide) (by omega)))
  rw[Nat.pow_succ]
  omega
 ·rw[Rat.natCast_mul,Rat.intCast_sub,Rat.intCast_mul,Rat.intCast_mul,Rat.intCast_natCast,←eN,←eF,←eM]
  grind
end Go.Proofs.YthhbbnfnejjpiaaGreatDoor.MX
namespace Go.Proofs.YthhbbnfnejjpiaaGreatDoor.GW
open Go
open Go.RowKit NL
abbrev I64 (x:Int):Prop:= -9223372036854775808≤x∧x<9223372036854775808
/-- a slice of n ints -/
structure Frag.Ir (f:Frag)(A:Option Addr)(c n:Nat)(v:Nat→Int):Prop where
 cap:n≤c
 max:c≤9223372036854775807
 len:n≤140737488355328
 row:0<n→∃b o,A=some ⟨b,o,none⟩∧∃cs T fr,f b=some (.cells cs T fr)∧∀j,j<n→cs[o+j]?=some (.int .i64 (v j))
 ok:∀j,j<n→I64 (v j)
theorem Frag.Ir.mono {f f':Frag}{A:Option Addr}{c n:Nat}{v:Nat→Int}(h:f.Ir A c n v)(s:f.le f'):f'.Ir A c n v:=by
 refine⟨h.cap,h.max,h.len,fun hl=>?_,h.ok⟩
 obtain⟨b,o,e,cs,T,fr,hb,hc⟩:=h.row hl
 exact⟨b,o,e,cs,T,fr,s _ _ hb,hc⟩
theorem Frag.Ir.at {f:Frag}{A:Option Addr}{c n:Nat}{v:Nat→Int}(h:f.Ir A c n v)(h0:0<n):∃b o,A=some ⟨b,o,none⟩∧∀j,j<n→f.C1 b (o+j) (.int .i64 (v j)):=by
 obtain⟨b,o,e,cs,T,fr,hb,hc⟩:=h.row h0
 exact⟨b,o,e,fun j hj w0 X M I g hI=>g.cellF hI (o:=o) hb (hc j hj)⟩
/-- a slice of n rows of ints -/
structure Frag.Im (f:Frag)(A:Option Addr)(c n:Nat)(m:Nat→Nat)(v:Nat→Nat→Int):Prop where
 cap:n≤c
 max:c≤9223372036854775807
 len:n≤140737488355328
 rows:0<n→∃b o,A=some ⟨b,o,none⟩∧∃cs T fr,f b=some (.cells cs T fr)∧∀i,i<n→∃B k,cs[o+i]?=some (.slice B (m i) k)∧f.Ir B k (m i) (v i)
theorem Frag.Im.mono {f f':Frag}{A:Option Addr}{c n:Nat}{m:Nat→Nat}{v:Nat→Nat→Int}(h:f.Im A c n m v)(s:f.le f'):f'.Im A c n m v:=by
 refine⟨h.cap,h.max,h.len,fun hl=>?_⟩
 obtain⟨b,o,e,cs,T,fr,hb,hc⟩:=h.rows hl
 refine⟨b,o,e,cs,T,fr,s _ _ hb,fun i hi=>?_⟩
 obtain⟨B,k,h1,h2⟩:=hc i hi
 exact⟨B,k,h1,h2.mono s⟩
theorem Frag.Im.rowAt {f:Frag}{A:Option Addr}{c n:Nat}{m:Nat→Nat}{v:Nat→Nat→Int}(h:f.Im A c n m v)(h0:0<n):∃b o,A=some ⟨b,o,none⟩∧∀i,i<n→∃B k,f.C1 b (o+i) (.slice B (m i) k)∧f.Ir B k (m i) (v i):=by
 obtain⟨b,o,e,cs,T,fr,hb,hc⟩:=h.rows h0
 refine⟨b,o,e,fun i hi=>?_⟩
 obtain⟨B,k,h1,h2⟩:=hc i hi
 exact⟨B,k,fun w0 X M I g hI=>g.cellF hI (o:=o) hb h1,h2⟩
section
variable {w0:World}{X:List Nat}{M:List Blk}{I:List Frag}
/-- a written-out row of ints in a block that the walk owns -/
theorem irM (g:G w0 X M I){b:Nat}{T:TypeId}(l:List Int){n:Nat}(hm:(b,T,l.map fun x:Int=>Value.int .i64 x)∈M)(hn:l.length=n)(hx:n≤140737488355328)(ok:∀x∈l,I64 x):(heapOf g.w).Ir (some ⟨b,0,none⟩) n n (fun j=>l.getD j 0):=by
 subst hn
 refine⟨Nat.le_refl _,by omega,hx,fun hl=>⟨b,0,rfl,_,T,_,g.own _ hm,fun j hj=>?_⟩,fun j hj=>?_⟩
 ·show((l.map fun x:Int=>Value.int .i64 x).toArray)[0+j]?=_
  rw[Nat.zero_add,List.getElem?_toArray,List.getElem?_map,List.getElem?_eq_getElem hj,List.getD_eq_getElem?_getD,List.getElem?_eq_getElem hj]
  rfl
 ·rw[List.getD_eq_getElem?_getD,List.getElem?_eq_getElem hj]
  exact ok _ (List.getElem_mem hj)
/-- written-out rows -/
theorem imM (g:G w0 X M I){b:Nat}{T:TypeId}{cs:List Value}{n:Nat}{m:Nat→Nat}{v:Nat→Nat→Int}(hm:(b,T,cs)∈M)(hx:n≤140737488355328)(h:∀i,i<n→∃B k,cs[i]?=some (.slice B (m i) k)∧(heapOf g.w).Ir B k (m i) (v i)):(heapOf g.w).Im (some ⟨b,0,none⟩) n n m v:=by
 refine⟨Nat.le_refl _,by omega,hx,fun hl=>⟨b,0,rfl,_,T,_,g.own _ hm,fun i hi=>?_⟩⟩
 obtain⟨B,k,h1,h2⟩:=h i hi
 refine⟨B,k,?_,h2⟩
 show(cs.toArray)[0+i]?=_
 rw[Nat.zero_add,List.getElem?_toArray]
 exact h1
end
/-- a matrix that was built by append of its rows becomes part of what stays -/
theorem G.freezeV {w0:World}{n:Nat}{m:Nat→Nat}{x:Nat→Nat→Raw}{T Ts:TypeId}{F:Frag}{R M sc:List Blk}{I:List Frag}{xs:List Value}{Ac:Option Addr}{cc:Nat}(g:G w0 [] (sc++(R++M)) (F::I))(hv:RowV w0.heap.size Ts 1 n xs Ac cc sc)(h:OwnOn (List.range n) (fun i=>NumRow w0.heap.size T F (m i) (x i)) R xs)(h0:0<n)(h3:n≤140737488355328)(h4:∀i,i<n→m i≤140737488355328):
  ∃(F':Frag) (b:Nat) (g':G w0 [] M (F'::I)),Ac=some ⟨b,0,Option.none⟩∧g.w=g'.w∧F'.Mt (some ⟨b,0,Option.none⟩) cc n m x∧F.le F'∧(F.Nw w0→F'.Nw w0):=by
 rcases hv with⟨_,_,e,_⟩|⟨cb,cs,rfl,rfl,hcb,hrow⟩
 ·omega
 ·have hxl:xs.length=n:=by
   have:=hrow.xl
   omega
  have hown':=h.next (oc':=cs) (Q':=fun i=>NumRow w0.heap.size T F (m i) (x i)) (fun j hj=>by
   have hj':=List.mem_range.1 hj
   have e:xs[j]?=some xs[j]:=List.getElem?_eq_getElem (by omega)
   rw[e]
   exact hrow.get1 e) (fun j hj v s h=>h)
  obtain⟨g2,e2⟩:=g.as (M':=((cb,Ts,cs)::R)++M) (by simp)
  obtain⟨F5,g3,e3,hle,hbl,hnw⟩:=G.layR ((cb,Ts,cs)::R) g2
  refine⟨F5,cb,g3,rfl,e2.trans e3,?_,hle,hnw⟩
  exact hown'.mt (F':=F5) (ob:=cb) (cap:=cc) (Ts:=Ts) hle (fun m hm=>hbl m (List.mem_cons_of_mem _ hm)) (hbl (cb,Ts,cs) (List.mem_cons_self ..)) hrow.le hrow.max h3 h4
/-- a call whose result may share the part F -/
theorem G.nor_ex {w0:World}{M:List Blk}{I:List Frag}{F H:Frag}{w1:World}(g:G w0 [] M I)(hF:F∈I)(hno:NewOr F g.w w1 H):∃g':G w0 [] M (H::I),w1=g'.w∧H.over F w0:=
 g.newor_ex (F0:=F) ⟨hno.below,hno.sub,fun k o hk=>(hno.new k o hk).elim (fun h=> .inl (g.fr_of hF (Frag.over_self F w0) k o h)) .inr⟩
theorem two_cases {P:Nat→Prop}(h0:P 0)(h1:P 1):∀i,i<2→P i
 |0,_=>h0
 |1,_=>h1
/-- a written-out row of numbers in a block that the walk owns -/
theorem rwM {w0:World}{X:List Nat}{M:List Blk}{I:List Frag}(g:G w0 X M I){b:Nat}{T:TypeId}(l:List Tri){n:Nat}{x:Nat→Raw}(hm:(b,T,cells3 l)∈M)(hl:(heapOf g.w).Tris l n x)(hx:n≤140737488355328):(heapOf g.w).Rw (some ⟨b,0,Option.none⟩) n n x:=
 row_rw (T:=T) (cs:=cells3 l) ⟨Nat.le_refl _,Nat.le_trans hx (by decide),by rw[cells3_len,hl.1],by rw[List.take_of_length_le (by rw[cells3_len,hl.1];omega)],by rw[cells3_len,hl.1]⟩ (g.own _ hm) hl hx
theorem mtM {w0:World}{X:List Nat}{M:List Blk}{I:List Frag}(g:G w0 X M I){b:Nat}{T:TypeId}{cs:List Value}{n:Nat}{m:Nat→Nat}{x:Nat→Nat→Raw}(hm:(b,T,cs)∈M)(hx:n≤140737488355328)(h:∀i,i<n→∃B k,cs[i]?=some (.slice B (m i) k)∧(heapOf g.w).Rw B k (m i) (x i)):(heapOf g.w).Mt (some ⟨b,0,Option.none⟩) n n m x:=
 blk_mt (g.own _ hm) (Nat.le_refl _) (by omega) hx h
theorem tris1 {f:Frag}{p q r:Value}{x:Nat→Raw}(h:f.Rt p q r (x 0)):f.Tris [(p,q,r)] 1 x:=by
 refine⟨rfl,fun j hj=>?_⟩
 obtain rfl:j=0:=by omega
 exact⟨p,q,r,rfl,h⟩
theorem tris2 {f:Frag}{p q r p' q' r':Value}{x:Nat→Raw}(h:f.Rt p q r (x 0))(h':f.Rt p' q' r' (x 1)):f.Tris [(p,q,r),(p',q',r')] 2 x:=(tris1 h).snoc h'
/-- two rows of two ints -/
def m22 (x y z t:Int):Nat→Nat→Int:=fun i j=>if i=0 then(if j=0 then x else y) else(if j=0 then z else t)
theorem im22 {w0:World}{X:List Nat}{M:List Blk}{I:List Frag}(g:G w0 X M I){b b1 b2:Nat}{T T1 T2:TypeId}(x y z t:Int)(h:(b,T,[.slice (some ⟨b1,0,Option.none⟩) 2 2,.slice (some ⟨b2,0,Option.none⟩) 2 2])∈M)(h1:(b1,T1,[.int .i64 x,.int .i64 y])∈M)(h2:(b2,T2,[.int .i64 z,.int .i64 t])∈M)(hx:I64 x)(hy:I64 y)(hz:I64 z)(ht:I64 t):(heapOf g.w).Im (some ⟨b,0,Option.none⟩) 2 2 (fun _=>2) (m22 x y z t):=by
 refine imM g h (by decide) (two_cases ⟨_,_,rfl,?_⟩ ⟨_,_,rfl,?_⟩)
 ·have:=irM g [x,y] (n:=2) h1 rfl (by decide) (by intro u hu;simp at hu;rcases hu with rfl|rfl<;>assumption)
  refine⟨this.cap,this.max,this.len,fun hl=>?_,fun j hj=>?_⟩
  ·obtain⟨b,o,e,cs,T,fr,hb,hc⟩:=this.row hl
   exact⟨b,o,e,cs,T,fr,hb,two_cases (hc 0 (by decide)) (hc 1 (by decide))⟩
  ·exact two_cases (P:=fun j=>I64 (m22 x y z t 0 j)) hx hy j hj
 ·have:=irM g [z,t] (n:=2) h2 rfl (by decide) (by intro u hu;simp at hu;rcases hu with rfl|rfl<;>assumption)
  refine⟨this.cap,this.max,this.len,fun hl=>?_,fun j hj=>?_⟩
  ·obtain⟨b,o,e,cs,T,fr,hb,hc⟩:=this.row hl
   exact⟨b,o,e,cs,T,fr,hb,two_cases (hc 0 (by decide)) (hc 1 (by decide))⟩
  ·exact two_cases (P:=fun j=>I64 (m22 x y z t 1 j)) hz ht j hj
/-- a row that was appended to -/
theorem NumRow.of {lo:Nat}{T:TypeId}{F:Frag}{n c:Nat}{x:Nat→Raw}{A:Option Addr}{l:List Tri}{s:List Blk}(h:RowV lo T 3 n (cells3 l) A c s)(hl:F.Tris l n x):NumRow lo T F n x (.slice A n c) s:=⟨A,c,l,rfl,h,hl⟩
end Go.Proofs.YthhbbnfnejjpiaaGreatDoor.GW
namespace Go.Proofs.YthhbbnfnejjpiaaGreatDoor.GW
open Go
open Go Go.RowKit
variable {F:Fence}{n:Nat}{P:Program}
/-- a word on memory that blocks without cells do not touch -/
def Calm (B:Nat)(p:World→Prop):Prop:=∀W W' row,p W→W.grownBy W' row→(∀r,row=some r→B≤r∧∃o:Obj,W.heap[r]?=some o∧o.isCells=false)→p W'
theorem Calm.put {B:Nat}{p:World→Prop}(h:Calm B p){W:World}{l:Nat}{o:Obj}(o':Obj)(hp:p W)(hB:B≤l)(hl:W.heap[l]?=some o)(ho:o.isCells=false):p (W.putObj l o'):=
 h W _ (some l) hp (grownBy_putObj' W l o') (fun r e=>by cases e;exact⟨hB,o,hl,ho⟩)
theorem Calm.alloc {B:Nat}{p:World→Prop}(h:Calm B p){W:World}(o:Obj)(hp:p W):p (W.alloc o):=
 h W _ none hp (World.grownBy_alloc W o none) (fun r e=>by cases e)
/-- how a round ends: always at its end -/
def roundEnds {β:Type}(B:Nat)(Ia:β→World→Prop)(s:β)(W:World):Exit→Act→World→Prop
 | .normal,_,W'=>(∀(k:Nat) (o:Obj),B≤k→W.heap[k]?=some o→o.isCells=false→W'.heap[k]?=some o)∧Ia s W'
 |_,_,_=>False
theorem wpIn_range_state {β:Type}{g:Operand}{ps:Array Tmp}{assign body:Code}{Q:Exit→Act→World→Prop}{a:Act}{w:World}
  (hro:F.round=none) (h1:1≤n) {gf:Nat} {lb:Array Value} (hg:a.eval g=.func (.func gf) #[] lb) (hFg:F.fn gf) (eg:∀args w,(callFunc gf args).run P w=.ok (.enter gf args) w)
  {encs:β→Array Value} (hps:∀s,(encs s).size=ps.size)
  (I0 Ie:World→Prop) (Iy Ia:β→World→Prop) (c0:Calm w.heap.size I0) (ce:Calm w.heap.size Ie) (cy:∀s,Calm w.heap.size (Iy s)) (ca:∀s,Calm w.heap.size (Ia s)) (h0:I0 w) (a₁:β→Act)
  (hassign:∀(l:Nat) (s:β) (W:World) (K:Act→World→Prop),K (a₁ s) W→
   assign.wpIn (F.inRound l) (n-1-1) P (Exit.then K (fun _ _ _=>False)) {tmps:=(ps.zip (encs s)).foldl (fun t (p,v)=>t.setIfInBounds p v) a.tmps,defers:=[]} W)
  (hbody:∀(l:Nat) (s:β) (W:World),Iy s W→body.wpIn (F.inRound l) (n-1-1) P (roundEnds w.heap.size Ia s W) (a₁ s) W)
  (hiter:∀(l D:Nat) (oL oD:Obj) (W1:World),w.heap.size≤l→w.heap.size≤D→oL.isCells=false→oD.isCells=false→W1.heap[l]?=some oL→W1.heap[D]?=some oD→I0 W1→
   (∀(s:β) (W:World),Iy s W→W.heap[l]?=some oL→W.heap[D]?=some oD→YieldAt F (n-1-1) P l (encs s) W fun e W'=>e=.returned (.bool true)∧Ia s W'∧W'.heap[l]?=some oL∧W'.heap[D]?=some oD)→
   CallsIn F (n-1) P gf (#[.func (.yield l) #[] #[]]++lb) W1 fun e W'=>(∃v,e=.returned v)∧Ie W'∧W'.heap[l]?=some oL∧W'.heap[D]?=some oD)
  (hdone:∀(D:Nat) (W:World),w.heap.size≤D→Ie W→W.heap[D]?=some (.deferred (some []))→Q .normal {a with defers:= {target:=.collected D,args:= #[]}::a.defers} W):
  (Code.rangeFunc g ps assign body).wpIn F n P Q a w:=by
 refine wpIn_rangeFunc fun fn hfn=>?_
 rw[hro]
 let rc:LoopState→Loop:=fun st=> {state:=st,pending:=none,fn,tmps:=a.tmps,params:=ps,assign,body,defers:=w.heap.size}
 let wA:=w.alloc (.deferred (some []))
 let wB:=wA.alloc (.loop (rc .ready))
 have sA:wA.heap.size=w.heap.size+1:=by simp[wA]
 have sB:wB.heap.size=w.heap.size+2:=by simp[wB,wA]
 have bL:wB.heap[w.heap.size+1]?=some (.loop (rc .ready)):=by
  have:=World.alloc_heap_new wA (.loop (rc .ready));rwa[sA] at this
 have bD:wB.heap[w.heap.size]?=some (.deferred (some [])):=(Below.heap_alloc wA _ _ (by omega)).trans (World.alloc_heap_new w _)
 have i0:I0 wB:=c0.alloc _ (c0.alloc _ h0)
 refine⟨w.heap.size+1,[{target:=.collected w.heap.size,args:= #[]}],wB,{target:=.fn (.func gf) lb,args:= #[.func (.yield (w.heap.size+1)) #[] #[]]},wB,gf,
  #[.func (.yield (w.heap.size+1)) #[] #[]]++lb,wB,run_enterLoop_outer _ _ _ _ _,?_,?_,?_,fun _=>h1,?_⟩
 ·simp only[resolve,hg]
  simp[go_sem]
 ·intro f' hf'
  simp[Target.leads] at hf'
  subst hf'
  exact hFg
 ·simp[invoke,go_sem,eg]
 ·refine(hiter (w.heap.size+1) w.heap.size _ _ wB (by omega) (Nat.le_refl _) rfl rfl bL bD i0 ?_).mono ?_
  ·intro s W hi hl hd
   have hlt:w.heap.size+1<W.heap.size:=(Array.getElem?_eq_some_iff.1 hl).1
   have hy:=run_yield (P:=P) (args:=encs s) hl (hps s)
   refine⟨fn,_,assign,body,hy,roundIn_of_wpIn hfn (hassign _ s W _ ⟨_,run_beginRound hl rfl,?_⟩)⟩
   have hl2:(W.putObj (w.heap.size+1) (.loop (rc .busy))).heap[w.heap.size+1]?=some (.loop (rc .busy)):=World.putObj_heap_same hlt
   have hd2:(W.putObj (w.heap.size+1) (.loop (rc .busy))).heap[w.heap.size]?=some (.deferred (some [])):=(World.putObj_heap_other (by omega)).trans hd
   refine wpIn_mono (hbody _ s _ ((cy s).put _ hi (by omega) hl rfl)) ?_
   rintro e a3 W3 hp
   cases e with
   |normal=>
    obtain⟨hk3,hi3⟩:=hp
    have hl3:=hk3 _ _ (by omega) hl2 rfl
    have hd3:=hk3 _ _ (Nat.le_refl _) hd2 rfl
    exact⟨_,_,run_endRound (P:=P) none hl3,rfl,(ca s).put _ hi3 (by omega) hl3 rfl,World.putObj_heap_same (Array.getElem?_eq_some_iff.1 hl3).1,(World.putObj_heap_other (by omega)).trans hd3⟩
   |ret=>exact hp.elim
   |exit id=>exact hp.elim
   |goto t=>exact hp.elim
   |panic ch=>exact hp.elim
   |outgrown=>exact hp.elim
  ·rintro e W2 ⟨⟨v,rfl⟩,hi,hl,hd⟩
   exact⟨none,_,run_endLoop (P:=P) hl (by simp[rc]),hdone _ _ (Nat.le_refl _) (ce.put _ hi (by omega) hl rfl) ((World.putObj_heap_other (by omega)).trans hd)⟩
end Go.Proofs.YthhbbnfnejjpiaaGreatDoor.GW
