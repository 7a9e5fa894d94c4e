/- Plain facts and contracts of functions of the program, out of walks. Their conditions stand ahead of each. -/
import Derived.Test.YthhbbnfnejjpiaaGreatDoorDe3
import Derived.Test.YthhbbnfnejjpiaaGreatDoorDe4
set_option linter.unusedVariables false
set_option linter.unusedSimpArgs false
namespace Go.Proofs.YthhbbnfnejjpiaaGreatDoor.MX
open Go
open NL
def sumN:Nat→(Nat→Rat)→Rat
 |0,_=>0
 |n+1,f=>sumN n f+f n
theorem sumN_congr {f g:Nat→Rat}:∀ {n:Nat},(∀i,i<n→f i=g i)→sumN n f=sumN n g
 |0,_=>rfl
 |n+1,h=>by
  show sumN n f+f n=sumN n g+g n
  rw[sumN_congr (fun i hi=>h i (Nat.lt_succ_of_lt hi)),h n (Nat.lt_succ_self n)]
theorem sumN_add (n:Nat)(f g:Nat→Rat):sumN n (fun i=>f i+g i)=sumN n f+sumN n g:=by
 induction n with
 |zero=>show(0:Rat)=0+0;grind
 |succ n ih=>show sumN n _+(f n+g n)=(sumN n f+f n)+(sumN n g+g n);rw[ih];grind
theorem sumN_zero (n:Nat):sumN n (fun _=>0)=0:=by
 induction n with
 |zero=>rfl
 |succ n ih=>show sumN n _+0=0;rw[ih];grind
theorem sumN_mul (n:Nat)(c:Rat)(f:Nat→Rat):sumN n (fun i=>c*f i)=c*sumN n f:=by
 induction n with
 |zero=>show(0:Rat)=c*0;grind
 |succ n ih=>show sumN n _+c*f n=c*(sumN n f+f n);rw[ih];grind
theorem sumN_mulr (n:Nat)(c:Rat)(f:Nat→Rat):sumN n (fun i=>f i*c)=sumN n f*c:=by
 rw[Rat.mul_comm,←sumN_mul]
 exact sumN_congr fun i _=>Rat.mul_comm _ _
theorem sumN_sub (n:Nat)(f g:Nat→Rat):sumN n (fun i=>f i-g i)=sumN n f-sumN n g:=by
 induction n with
 |zero=>show(0:Rat)=0-0;grind
 |succ n ih=>show sumN n _+(f n-g n)=(sumN n f+f n)-(sumN n g+g n);rw[ih];grind
theorem sumN_swap (n m:Nat)(f:Nat→Nat→Rat):sumN n (fun i=>sumN m (fun j=>f i j))=sumN m (fun j=>sumN n (fun i=>f i j)):=by
 induction n with
 |zero=>show(0:Rat)=sumN m (fun _=>0);rw[sumN_zero]
 |succ n ih=>
  show sumN n _+sumN m (fun j=>f n j)=sumN m (fun j=>sumN n (fun i=>f i j)+f n j)
  rw[ih,sumN_add]
theorem sumN_one {n:Nat}(k:Nat)(f:Nat→Rat)(h:∀i,i<n→i≠k→f i=0):sumN n f=if k<n then f k else 0:=by
 induction n with
 |zero=>rfl
 |succ n ih=>
  show sumN n f+f n=_
  rw[ih (fun i hi hk=>h i (Nat.lt_succ_of_lt hi) hk)]
  by_cases e:k=n
  ·subst e
   rw[if_neg (Nat.lt_irrefl _),if_pos (Nat.lt_succ_self _)];grind
  ·rw[h n (Nat.lt_succ_self n) (fun e'=>e e'.symm)]
   by_cases hk:k<n
   ·rw[if_pos hk,if_pos (by omega)];grind
   ·rw[if_neg hk,if_neg (by omega)];grind
/-- matrices: entries by row and column -/
abbrev Mx:=Nat→Nat→Rat
def mulM (m:Nat)(a b:Mx):Mx:=fun i k=>sumN m (fun j=>a i j*b j k)
def trM (a:Mx):Mx:=fun i k=>a k i
def oneM:Mx:=fun i k=>if i=k then 1 else 0
theorem mulM_one (m:Nat)(a:Mx)(i l:Nat)(hl:l<m):mulM m a oneM i l=a i l:=by
 unfold mulM oneM
 rw[sumN_one l _ (fun j _ hj=>by rw[if_neg hj];grind),if_pos hl,if_pos rfl];grind
theorem one_mulM (n:Nat)(a:Mx)(i l:Nat)(hi:i<n):mulM n oneM a i l=a i l:=by
 unfold mulM oneM
 rw[sumN_one i _ (fun j _ hj=>by rw[if_neg (fun e=>hj e.symm)];grind),if_pos hi,if_pos rfl];grind
theorem mulM_congr {m:Nat}{a a' b b':Mx}{i k:Nat}(h1:∀j,j<m→a i j=a' i j)(h2:∀j,j<m→b j k=b' j k):mulM m a b i k=mulM m a' b' i k:=
 sumN_congr fun j hj=>by rw[h1 j hj,h2 j hj]
/-- x = N / D with D at most 2^q and N at most 2^n -/
def Qn (n q:Nat)(x:Rat):Prop:=∃(D:Nat) (N:Int),0<D∧D≤2^q∧N.natAbs≤2^n∧x*(D:Rat)=(N:Rat)
theorem Qn.mono {n q n' q':Nat}{x:Rat}(h:Qn n q x)(hn:n≤n')(hq:q≤q'):Qn n' q' x:=by
 obtain⟨D,N,h0,h1,h2,h3⟩:=h
 exact⟨D,N,h0,Nat.le_trans h1 (Nat.pow_le_pow_right (by decide) hq),Nat.le_trans h2 (Nat.pow_le_pow_right (by decide) hn),h3⟩
theorem Qn.bd {n q:Nat}{x:Rat}(h:Qn n q x):Bd (max n q+1) x:=by
 obtain⟨D,N,h0,h1,h2,h3⟩:=h
 exact bd_of h0 h3 h2 h1
theorem Qn.bd' {n q k:Nat}{x:Rat}(h:Qn n q x)(hn:n<k)(hq:q<k):Bd k x:=by
 have:=h.bd
 exact this.mono (by omega)
theorem Bd.qn {k:Nat}{x:Rat}(h:Bd k x):Qn k k x:=
 ⟨x.den,x.num,Nat.pos_of_ne_zero x.den_nz,Nat.le_of_lt h.2,Nat.le_of_lt h.1,num_den x⟩
theorem Qn.zero (n q:Nat):Qn n q 0:=⟨1,0,by decide,Nat.one_le_two_pow,Nat.zero_le _,by grind⟩
theorem Qn.one (n q:Nat):Qn n q 1:=⟨1,1,by decide,Nat.one_le_two_pow,Nat.one_le_two_pow,by grind⟩
theorem Qn.neg {n q:Nat}{x:Rat}(h:Qn n q x):Qn n q (-x):=by
 obtain⟨D,N,h0,h1,h2,h3⟩:=h
 exact⟨D,-N,h0,h1,by rw[Int.natAbs_neg];exact h2,by rw[Rat.neg_mul,h3,Rat.intCast_neg]⟩
theorem Qn.mul {n q n' q':Nat}{x y:Rat}(h:Qn n q x)(k:Qn n' q' y):Qn (n+n') (q+q') (x*y):=by
 obtain⟨D,N,h0,h1,h2,h3⟩:=h
 obtain⟨E,M,k0,k1,k2,k3⟩:=k
 refine⟨D*E,N*M,Nat.mul_pos h0 k0,mul_pow_le h1 k1,?_,?_⟩
 ·rw[Int.natAbs_mul];exact mul_pow_le h2 k2
 ·rw[Rat.natCast_mul,Rat.intCast_mul,←h3,←k3];grind
theorem Qn.add {n q n' q':Nat}{x y:Rat}(h:Qn n q x)(k:Qn n' q' y):Qn (max (n+q') (n'+q)+1) (q+q') (x+y):=by
 obtain⟨D,N,h0,h1,h2,h3⟩:=h
 obtain⟨E,M,k0,k1,k2,k3⟩:=k
 refine⟨D*E,N*E+M*D,Nat.mul_pos h0 k0,mul_pow_le h1 k1,?_,?_⟩
 ·have a1:(N*(E:Int)).natAbs≤2^max (n+q') (n'+q):=by
   rw[Int.natAbs_mul,Int.natAbs_natCast]
   exact Nat.le_trans (mul_pow_le h2 k1) (Nat.pow_le_pow_right (by decide) (Nat.le_max_left _ _))
  have a2:(M*(D:Int)).natAbs≤2^max (n+q') (n'+q):=by
   rw[Int.natAbs_mul,Int.natAbs_natCast]
   exact Nat.le_trans (mul_pow_le k2 h1) (Nat.pow_le_pow_right (by decide) (Nat.le_max_right _ _))
  have:=Int.natAbs_add_le (N*(E:Int)) (M*(D:Int))
  rw[Nat.pow_succ];omega
 ·rw[Rat.natCast_mul,Rat.intCast_add,Rat.intCast_mul,Rat.intCast_mul,←h3,←k3,Rat.intCast_natCast,Rat.intCast_natCast];grind
/-- partial sums of products -/
theorem qn_sum {k l:Nat}{f:Nat→Rat}:∀ {m:Nat},(∀j,j<m→Qn k l (f j))→Qn (m*(k+l)+m) (m*l) (sumN m f)
 |0,_=>Qn.zero _ _
 |m+1,h=>by
  refine Qn.mono ((qn_sum (fun j hj=>h j (Nat.lt_succ_of_lt hj))).add (h m (Nat.lt_succ_self m))) ?_ ?_
  ·have:(m+1)*(k+l)=m*(k+l)+(k+l):=Nat.succ_mul _ _
   have:m*(k+l)=m*k+m*l:=Nat.mul_add _ _ _
   rw[Nat.max_def];split<;>omega
  ·have:(m+1)*l=m*l+l:=Nat.succ_mul _ _
   omega
end Go.Proofs.YthhbbnfnejjpiaaGreatDoor.MX
namespace Go.Proofs.YthhbbnfnejjpiaaGreatDoor.MX
open Go
open NL
def swapR (x:Mx)(p q:Nat):Mx:=fun i=>if i=p then x q else if i=q then x p else x i
def divR (x:Mx)(t:Nat)(v:Rat):Mx:=fun i k=>if i=t then x i k/v else x i k
def takeR (x:Mx)(t c:Nat):Mx:=fun i k=>if i=t then x i k else x i k-x i c*x t k
/-- the first row from `at` on that is not 0 in column c -/
def findP (x:Mx)(n c:Nat)(a:Nat):Option Nat:=(List.range' a (n-a)).find? (fun p=>decide (x p c≠0))
theorem findP_some {x:Mx}{n c a p:Nat}(h:findP x n c a=some p):a≤p∧p<n∧x p c≠0∧∀q,a≤q→q<p→x q c=0:=by
  unfold findP at h
  rw[List.find?_eq_some_iff_append] at h
  obtain⟨h1,as,bs,h2,h3⟩:=h
  have hl:as.length<n-a:=by
    have:=congrArg List.length h2
    simp at this;omega
  have hg:∀i,i<n-a→(as++p::bs)[i]?=some (a+i):=by
    intro i hi
    rw[←h2,List.getElem?_range' hi];simp
  have hp:=hg as.length hl
  rw[List.getElem?_append_right (Nat.le_refl _)] at hp
  simp at hp
  refine⟨by omega,by omega,by simpa using h1,fun q hq hqp=>?_⟩
  have hq2:=hg (q-a) (by omega)
  rw[List.getElem?_append_left (by omega)] at hq2
  have:=h3 q (by
    have:=List.mem_of_getElem? hq2
    rwa[show a+(q-a)=q by omega] at this)
  simpa using this
theorem findP_none {x:Mx}{n c a:Nat}(h:findP x n c a=none):∀q,a≤q→q<n→x q c=0:=by
  unfold findP at h
  rw[List.find?_eq_none] at h
  intro q h1 h2
  have:=h q (by rw[List.mem_range'_1];omega)
  simpa using this
theorem findP_none_of {x:Mx}{n c a:Nat}(h:∀q,a≤q→q<n→x q c=0):findP x n c a=none:=by
  cases e:findP x n c a with
  |none=>rfl
  |some p=>
    obtain⟨h1,h2,h3,_⟩:=findP_some e
    exact absurd (h p h1 h2) h3
theorem findP_some_of {x:Mx}{n c a p:Nat}(h1:a≤p)(h2:p<n)(h3:x p c≠0)(h4:∀q,a≤q→q<p→x q c=0):findP x n c a=some p:=by
  cases e:findP x n c a with
  |none=>exact absurd (findP_none e p h1 h2) h3
  |some p'=>
    obtain⟨k1,k2,k3,k4⟩:=findP_some e
    rcases Nat.lt_trichotomy p p' with h|h|h
    · exact absurd (k4 p h1 h) h3
    · rw[h]
    · exact absurd (h4 p' k1 h) k3
/-- an elimination: the rows, the product of the pivots, the number of pivots -/
structure El where
  x:Mx
  det:Rat
  rk:Nat
/-- what a pivot at row p, column c does to the rows -/
def pivR (x:Mx)(t p c:Nat):Mx:=takeR (divR (swapR x t p) t (x p c)) t c
def stepE (n c:Nat)(s:El):El:=match findP s.x n c s.rk with
  |none=>s
  |some p=>⟨pivR s.x s.rk p c,(if p=s.rk then s.det else -s.det)*s.x p c,s.rk+1⟩
def runE (n:Nat)(s:El):Nat→El
  |0=>s
  |c+1=>stepE n c (runE n s c)
def startE (a:Mx):El:=⟨a,1,0⟩
/-- The rows of y are combinations of the first n rows of x. -/
def Span (n:Nat)(x y:Mx):Prop:=∀i,i<n→∃T:Nat→Rat,∀k,y i k=sumN n (fun j=>T j*x j k)
theorem Span.mat {n:Nat}{x y:Mx}(h:Span n x y):∃T:Mx,∀i,i<n→∀k,y i k=mulM n T x i k:=by
  refine⟨fun i=>if hi:i<n then(h i hi).choose else fun _=>0,fun i hi k=>?_⟩
  unfold mulM
  simp only[dif_pos hi]
  exact(h i hi).choose_spec k
theorem Span.row {n:Nat}{x y:Mx}{i:Nat}(h:∃(u:Rat) (j:Nat),j<n∧∀k,y i k=u*x j k):∃T:Nat→Rat,∀k,y i k=sumN n (fun j=>T j*x j k):=by
  obtain⟨u,j,hj,hk⟩:=h
  refine⟨fun l=>if l=j then u else 0,fun k=>?_⟩
  rw[sumN_one j _ (fun l _ hl=>by show(if l=j then u else 0)*_=0;rw[if_neg hl];grind),if_pos hj]
  show _=(if j=j then u else 0)*x j k
  rw[if_pos rfl]
  exact hk k
theorem Span.refl (n:Nat)(x:Mx):Span n x x:=fun i hi=>Span.row ⟨1,i,hi,fun k=>by grind⟩
theorem Span.trans {n : Nat} {x y z : Mx} (h : Span n x y) (k : Span n y z) : Span n x z := by
  obtain⟨T,hT⟩:=h.mat
  intro i hi
  obtain⟨S,hS⟩:=k i hi
  refine⟨fun j=>sumN n (fun j'=>S j'*T j' j),fun l=>?_⟩
  rw[hS l]
  calc sumN n (fun j=>S j*y j l)=sumN n (fun j=>sumN n (fun j'=>S j*T j j'*x j' l)):=sumN_congr fun j hj=>by
        rw[hT j hj l]
        unfold mulM
        rw[←sumN_mul]
        exact sumN_congr fun j' _=>(Rat.mul_assoc _ _ _).symm
    _=sumN n (fun j'=>sumN n (fun j=>S j*T j j'*x j' l)):=sumN_swap _ _ _
    _=_:=sumN_congr fun j' _=>sumN_mulr n _ _
theorem Span.two {n:Nat}{x y:Mx}(h:∀i,i<n→∃(u v:Rat) (j j':Nat),j<n∧j'<n∧∀k,y i k=u*x j k+v*x j' k):Span n x y:=by
  intro i hi
  obtain⟨u,v,j,j',hj,hj',hk⟩:=h i hi
  obtain⟨T,hT⟩:=Span.row (n:=n) (x:=x) (y:=fun _ k=>u*x j k) (i:=0) ⟨u,j,hj,fun k=>rfl⟩
  obtain⟨S,hS⟩:=Span.row (n:=n) (x:=x) (y:=fun _ k=>v*x j' k) (i:=0) ⟨v,j',hj',fun k=>rfl⟩
  refine⟨fun l=>T l+S l,fun k=>?_⟩
  rw[hk k,hT k,hS k,←sumN_add]
  exact sumN_congr fun l _=>by grind
theorem span_swap {n p q:Nat}(x:Mx)(hp:p<n)(hq:q<n):Span n x (swapR x p q):=by
  intro i hi
  refine Span.row ?_
  unfold swapR
  by_cases h:i=p
  · exact⟨1,q,hq,fun k=>by rw[if_pos h];grind⟩
  · by_cases h2:i=q
    · exact⟨1,p,hp,fun k=>by rw[if_neg h,if_pos h2];grind⟩
    · exact⟨1,i,hi,fun k=>by rw[if_neg h,if_neg h2];grind⟩
theorem swap_swap (x:Mx)(p q:Nat):swapR (swapR x p q) p q=x:=by
  funext i
  unfold swapR
  by_cases h:i=p
  · subst h
    rw[if_pos rfl]
    by_cases h2:q=i
    · rw[if_pos h2,h2]
    · rw[if_neg h2,if_pos rfl]
  · rw[if_neg h]
    by_cases h2:i=q
    · subst h2
      rw[if_pos rfl,if_pos rfl]
    · rw[if_neg h2,if_neg h,if_neg h2]
theorem span_swap' {n p q:Nat}(x:Mx)(hp:p<n)(hq:q<n):Span n (swapR x p q) x:=by
  have:=span_swap (swapR x p q) hp hq
  rwa[swap_swap] at this
theorem span_div {n:Nat}(x:Mx)(t:Nat)(v:Rat):Span n x (divR x t v):=by
  intro i hi
  refine Span.row ?_
  unfold divR
  by_cases h:i=t
  · exact⟨v⁻¹,i,hi,fun k=>by rw[if_pos h,Rat.div_def];grind⟩
  · exact⟨1,i,hi,fun k=>by rw[if_neg h];grind⟩
theorem span_div' {n:Nat}(x:Mx)(t:Nat){v:Rat}(hv:v≠0):Span n (divR x t v) x:=by
  intro i hi
  refine Span.row ?_
  unfold divR
  by_cases h:i=t
  · exact⟨v,i,hi,fun k=>by rw[if_pos h,Rat.div_def,←Rat.mul_assoc,Rat.mul_comm v,Rat.mul_assoc,Rat.mul_inv_cancel v hv,Rat.mul_one]⟩
  · exact⟨1,i,hi,fun k=>by rw[if_neg h];grind⟩
theorem span_take {n:Nat}(x:Mx){t:Nat}(c:Nat)(ht:t<n):Span n x (takeR x t c):=by
  refine Span.two fun i hi=>?_
  unfold takeR
  by_cases h:i=t
  · exact⟨1,0,i,t,hi,ht,fun k=>by rw[if_pos h];grind⟩
  · exact⟨1,-x i c,i,t,hi,ht,fun k=>by rw[if_neg h];grind⟩
theorem span_take' {n:Nat}(x:Mx){t:Nat}(c:Nat)(ht:t<n):Span n (takeR x t c) x:=by
  refine Span.two fun i hi=>?_
  unfold takeR
  by_cases h:i=t
  · exact⟨1,0,i,t,hi,ht,fun k=>by rw[if_pos h];grind⟩
  · exact⟨1,x i c,i,t,hi,ht,fun k=>by rw[if_neg h,if_pos rfl];grind⟩
theorem span_piv {n t p:Nat}(x:Mx)(c:Nat)(ht:t<n)(hp:p<n):Span n x (pivR x t p c):=
  ((span_swap x ht hp).trans (span_div _ t _)).trans (span_take _ c ht)
theorem span_piv' {n t p:Nat}(x:Mx)(c:Nat)(ht:t<n)(hp:p<n)(h0:x p c≠0):Span n (pivR x t p c) x:=
  ((span_take' _ c ht).trans (span_div' _ t h0)).trans (span_swap' x ht hp)
theorem span_step {n:Nat}(c:Nat)(s:El):Span n s.x (stepE n c s).x:=by
  unfold stepE
  split
  · exact Span.refl _ _
  · next p h=>
    obtain⟨h1,h2,_,_⟩:=findP_some h
    exact span_piv _ _ (by omega) h2
theorem span_step' {n:Nat}(c:Nat)(s:El):Span n (stepE n c s).x s.x:=by
  unfold stepE
  split
  · exact Span.refl _ _
  · next p h=>
    obtain⟨h1,h2,h3,_⟩:=findP_some h
    exact span_piv' _ _ (by omega) h2 h3
theorem span_run {n:Nat}(s:El):∀c,Span n s.x (runE n s c).x
  |0=>Span.refl _ _
  |c+1=>(span_run s c).trans (span_step c _)
theorem span_run' {n:Nat}(s:El):∀c,Span n (runE n s c).x s.x
  |0=>Span.refl _ _
  |c+1=>(span_step' c _).trans (span_run' s c)
theorem rdiv_self {v:Rat}(h:v≠0):v/v=1:=by rw[Rat.div_def,Rat.mul_inv_cancel v h]
theorem swapR_self (x:Mx)(t:Nat):swapR x t t=x:=by
  funext i
  unfold swapR
  split
  · next h=>rw[h]
  · rfl
theorem pivR_at {x:Mx}{t p c:Nat}(k:Nat):pivR x t p c t k=x p k/x p c:=by
  unfold pivR takeR divR swapR
  simp only[if_true]
theorem pivR_ne {x:Mx}{t p c i:Nat}(h:i≠t)(k:Nat):pivR x t p c i k=swapR x t p i k-swapR x t p i c*(x p k/x p c):=by
  unfold pivR takeR divR swapR
  simp only[if_neg h,if_true]
/-- The shape after c columns: pivots in the columns pv 0 < pv 1 < .., nothing else in these columns, nothing in the columns before in the rows behind. -/
structure Shape (n c:Nat)(s:El)(pv:Nat→Nat):Prop where
  rk:s.rk≤n
  lt:∀j,j<s.rk→pv j<c
  mono:∀j,j+1<s.rk→pv j<pv (j+1)
  one:∀j,j<s.rk→∀i,i<n→s.x i (pv j)=if i=j then 1 else 0
  low:∀i,s.rk≤i→i<n→∀k,k<c→s.x i k=0
theorem shape_start (n:Nat)(a:Mx):Shape n 0 (startE a) (fun _=>0):=
  ⟨Nat.zero_le _,fun j h=>absurd h (Nat.not_lt_zero _),fun j h=>absurd h (Nat.not_lt_zero _),fun j h=>absurd h (Nat.not_lt_zero _),fun i _ _ k h=>absurd h (Nat.not_lt_zero _)⟩
theorem shape_step {n c : Nat} {s : El} {pv : Nat → Nat} (h : Shape n c s pv) : ∃ pv', Shape n (c + 1) (stepE n c s) pv' := by
  unfold stepE
  split
  · next hn=>
    have h0:=findP_none hn
    exact⟨pv,h.rk,fun j hj=>Nat.lt_succ_of_lt (h.lt j hj),h.mono,h.one,fun i h1 h2 k hk=>by
      rcases Nat.lt_succ_iff_lt_or_eq.1 hk with hk|rfl
      · exact h.low i h1 h2 k hk
      · exact h0 i h1 h2⟩
  · next p hp=>
    obtain⟨h1,h2,h3,h4⟩:=findP_some hp
    obtain⟨x,det,r⟩:=s
    simp only at h1 h2 h3 h4 hp ⊢
    have hr:r<n:=by omega
    have hlt:=h.lt;have hmono:=h.mono;have hone:=h.one;have hlow:=h.low
    simp only at hlt hmono hone hlow
    refine⟨fun j=>if j=r then c else pv j,by show r+1≤n;omega,fun j hj=>?_,fun j hj=>?_,fun j hj i hi=>?_,fun i hi1 hi2 k hk=>?_⟩
    · show(if j=r then c else pv j)<c+1
      split
      · omega
      · exact Nat.lt_succ_of_lt (hlt j (by simp only at hj;omega))
    · show(if j=r then c else pv j)<(if j+1=r then c else pv (j+1))
      simp only at hj
      rw[if_neg (by omega)]
      split
      · exact hlt j (by omega)
      · exact hmono j (by omega)
    · show pivR x r p c i (if j=r then c else pv j)=if i=j then 1 else 0
      simp only at hj
      by_cases hjr:j=r
      · rw[if_pos hjr]
        by_cases hir:i=r
        · rw[hir,pivR_at,rdiv_self h3,if_pos (by omega)]
        · rw[pivR_ne hir,rdiv_self h3,if_neg (by omega)];grind
      · rw[if_neg hjr]
        have hj2:j<r:=by omega
        have hp0:x p (pv j)=0:=by rw[hone j hj2 p h2,if_neg (by omega)]
        by_cases hir:i=r
        · rw[hir,pivR_at,hp0,if_neg (by omega),Rat.div_def];grind
        · rw[pivR_ne hir,hp0]
          have e:swapR x r p i (pv j)=if i=j then 1 else 0:=by
            unfold swapR
            rw[if_neg hir]
            split
            · next hip=>rw[hone j hj2 r hr,if_neg (by omega),if_neg (by omega)]
            · exact hone j hj2 i hi
          rw[e,Rat.div_def];grind
    · show pivR x r p c i k=0
      simp only at hi1
      rw[pivR_ne (by omega)]
      rcases Nat.lt_succ_iff_lt_or_eq.1 hk with hk|rfl
      · have e:∀i,r≤i→i<n→x i k=0:=fun i a b=>hlow i a b k hk
        rw[e p (by omega) h2,Rat.div_def]
        have:swapR x r p i k=0:=by
          unfold swapR
          rw[if_neg (by omega)]
          split
          · exact e r (by omega) hr
          · exact e i (by omega) hi2
        rw[this];grind
      · rw[rdiv_self h3];grind
theorem shape_run (n:Nat)(a:Mx):∀c,∃pv,Shape n c (runE n (startE a) c) pv
  |0=>⟨_,shape_start n a⟩
  |c+1=>by
    obtain⟨pv,h⟩:=shape_run n a c
    exact shape_step h
theorem mono_le {r:Nat}{pv:Nat→Nat}(h:∀j,j+1<r→pv j<pv (j+1)):∀j,j<r→j≤pv j
  |0,_=>Nat.zero_le _
  |j+1,hj=>by
    have:=mono_le h j (by omega)
    have:=h j hj
    omega
theorem mono_up {r c:Nat}{pv:Nat→Nat}(h:∀j,j+1<r→pv j<pv (j+1))(hl:∀j,j<r→pv j<c):∀d j,j+d+1=r→pv j+d<c
  |0,j,e=>by have:=hl j (by omega);omega
  |d+1,j,e=>by
    have:=mono_up h hl d (j+1) (by omega)
    have:=h j (by omega)
    omega
/-- With as many pivots as rows and columns the rows have become the identity. -/
theorem full_one {n:Nat}{s:El}{pv:Nat→Nat}(h:Shape n n s pv)(hr:s.rk=n):∀i,i<n→∀k,k<n→s.x i k=oneM i k:=by
  intro i hi k hk
  have e:pv k=k:=by
    have h1:=mono_le h.mono k (by omega)
    have h2:=mono_up h.mono h.lt (n-1-k) k (by omega)
    omega
  have:=h.one k (by omega) i hi
  rw[e] at this
  exact this
end Go.Proofs.YthhbbnfnejjpiaaGreatDoor.MX
namespace Go.Proofs.YthhbbnfnejjpiaaGreatDoor.MX
open Go
open NL
def d4 (x:Mx):Rat:=x 0 0*x 1 1*x 2 2*x 3 3-x 0 0*x 1 1*x 2 3*x 3 2-x 0 0*x 1 2*x 2 1*x 3 3+x 0 0*x 1 2*x 2 3*x 3 1+x 0 0*x 1 3*x 2 1*x 3 2-x 0 0*x 1 3*x 2 2*x 3 1-x 0 1*x 1 0*x 2 2*x 3 3+x 0 1*x 1 0*x 2 3*x 3 2+x 0 1*x 1 2*x 2 0*x 3 3-x 0 1*x 1 2*x 2 3*x 3 0-x 0 1*x 1 3*x 2 0*x 3 2+x 0 1*x 1 3*x 2 2*x 3 0+x 0 2*x 1 0*x 2 1*x 3 3-x 0 2*x 1 0*x 2 3*x 3 1-x 0 2*x 1 1*x 2 0*x 3 3+x 0 2*x 1 1*x 2 3*x 3 0+x 0 2*x 1 3*x 2 0*x 3 1-x 0 2*x 1 3*x 2 1*x 3 0-x 0 3*x 1 0*x 2 1*x 3 2+x 0 3*x 1 0*x 2 2*x 3 1+x 0 3*x 1 1*x 2 0*x 3 2-x 0 3*x 1 1*x 2 2*x 3 0-x 0 3*x 1 2*x 2 0*x 3 1+x 0 3*x 1 2*x 2 1*x 3 0
/-- row i less f times row t -/
def addR (x:Mx)(i t:Nat)(f:Rat):Mx:=fun j k=>if j=i then x i k-f*x t k else x j k
theorem d4_swap01 (x:Mx):d4 (swapR x 0 1)= -d4 x:=by
 unfold d4 swapR
 simp
 grind
theorem d4_swap02 (x:Mx):d4 (swapR x 0 2)= -d4 x:=by
 unfold d4 swapR
 simp
 grind
theorem d4_swap03 (x:Mx):d4 (swapR x 0 3)= -d4 x:=by
 unfold d4 swapR
 simp
 grind
theorem d4_swap12 (x:Mx):d4 (swapR x 1 2)= -d4 x:=by
 unfold d4 swapR
 simp
 grind
theorem d4_swap13 (x:Mx):d4 (swapR x 1 3)= -d4 x:=by
 unfold d4 swapR
 simp
 grind
theorem d4_swap23 (x:Mx):d4 (swapR x 2 3)= -d4 x:=by
 unfold d4 swapR
 simp
 grind
theorem d4_mul0 (x:Mx)(v:Rat):d4 (fun i k=>if i=0 then x i k*v else x i k)=d4 x*v:=by
 unfold d4
 simp
 grind
theorem d4_mul1 (x:Mx)(v:Rat):d4 (fun i k=>if i=1 then x i k*v else x i k)=d4 x*v:=by
 unfold d4
 simp
 grind
theorem d4_mul2 (x:Mx)(v:Rat):d4 (fun i k=>if i=2 then x i k*v else x i k)=d4 x*v:=by
 unfold d4
 simp
 grind
theorem d4_mul3 (x:Mx)(v:Rat):d4 (fun i k=>if i=3 then x i k*v else x i k)=d4 x*v:=by
 unfold d4
 simp
 grind
theorem d4_add01 (x:Mx)(f:Rat):d4 (addR x 0 1 f)=d4 x:=by
 unfold d4 addR
 simp
 grind
theorem d4_add02 (x:Mx)(f:Rat):d4 (addR x 0 2 f)=d4 x:=by
 unfold d4 addR
 simp
 grind
theorem d4_add03 (x:Mx)(f:Rat):d4 (addR x 0 3 f)=d4 x:=by
 unfold d4 addR
 simp
 grind
theorem d4_add10 (x:Mx)(f:Rat):d4 (addR x 1 0 f)=d4 x:=by
 unfold d4 addR
 simp
 grind
theorem d4_add12 (x:Mx)(f:Rat):d4 (addR x 1 2 f)=d4 x:=by
 unfold d4 addR
 simp
 grind
theorem d4_add13 (x:Mx)(f:Rat):d4 (addR x 1 3 f)=d4 x:=by
 unfold d4 addR
 simp
 grind
theorem d4_add20 (x:Mx)(f:Rat):d4 (addR x 2 0 f)=d4 x:=by
 unfold d4 addR
 simp
 grind
theorem d4_add21 (x:Mx)(f:Rat):d4 (addR x 2 1 f)=d4 x:=by
 unfold d4 addR
 simp
 grind
theorem d4_add23 (x:Mx)(f:Rat):d4 (addR x 2 3 f)=d4 x:=by
 unfold d4 addR
 simp
 grind
theorem d4_add30 (x:Mx)(f:Rat):d4 (addR x 3 0 f)=d4 x:=by
 unfold d4 addR
 simp
 grind
theorem d4_add31 (x:Mx)(f:Rat):d4 (addR x 3 1 f)=d4 x:=by
 unfold d4 addR
 simp
 grind
theorem d4_add32 (x:Mx)(f:Rat):d4 (addR x 3 2 f)=d4 x:=by
 unfold d4 addR
 simp
 grind
end Go.Proofs.YthhbbnfnejjpiaaGreatDoor.MX
namespace Go.Proofs.YthhbbnfnejjpiaaGreatDoor.MX
open Go
open NL
theorem swapR_comm (x:Mx)(p q:Nat):swapR x p q=swapR x q p:=by
  funext i
  unfold swapR
  by_cases h:i=p
  · by_cases h2:i=q
    · rw[if_pos h,if_pos h2,←h,←h2]
    · rw[if_pos h,if_neg h2,if_pos h]
  · by_cases h2:i=q
    · rw[if_neg h,if_pos h2,if_pos h2]
    · rw[if_neg h,if_neg h2,if_neg h2,if_neg h]
theorem lt4 {p:Nat}(h:p<4):p=0∨p=1∨p=2∨p=3:=by omega
theorem d4_swap (x:Mx){p q:Nat}(hp:p<4)(hq:q<4)(h:p≠q):d4 (swapR x p q)= -d4 x:=by
  rcases lt4 hp with rfl|rfl|rfl|rfl<;>rcases lt4 hq with rfl|rfl|rfl|rfl<;>first
    |exact absurd rfl h
    |exact d4_swap01 x|exact d4_swap02 x|exact d4_swap03 x|exact d4_swap12 x|exact d4_swap13 x|exact d4_swap23 x
    |(rw[swapR_comm];first|exact d4_swap01 x|exact d4_swap02 x|exact d4_swap03 x|exact d4_swap12 x|exact d4_swap13 x|exact d4_swap23 x)
theorem d4_mul (x:Mx){t:Nat}(ht:t<4)(v:Rat):d4 (fun i k=>if i=t then x i k*v else x i k)=d4 x*v:=by
  rcases lt4 ht with rfl|rfl|rfl|rfl
  · exact d4_mul0 x v
  · exact d4_mul1 x v
  · exact d4_mul2 x v
  · exact d4_mul3 x v
theorem d4_add (x:Mx){i t:Nat}(hi:i<4)(ht:t<4)(h:i≠t)(f:Rat):d4 (addR x i t f)=d4 x:=by
  rcases lt4 hi with rfl|rfl|rfl|rfl<;>rcases lt4 ht with rfl|rfl|rfl|rfl<;>first
    |exact absurd rfl h
    |exact d4_add01 x f|exact d4_add02 x f|exact d4_add03 x f|exact d4_add10 x f|exact d4_add12 x f|exact d4_add13 x f
    |exact d4_add20 x f|exact d4_add21 x f|exact d4_add23 x f|exact d4_add30 x f|exact d4_add31 x f|exact d4_add32 x f
theorem d4_congr {x y:Mx}(h:∀i,i<4→∀k,k<4→x i k=y i k):d4 x=d4 y:=by
  unfold d4
  rw[h 0 (by decide) 0 (by decide),h 0 (by decide) 1 (by decide),h 0 (by decide) 2 (by decide),h 0 (by decide) 3 (by decide),
    h 1 (by decide) 0 (by decide),h 1 (by decide) 1 (by decide),h 1 (by decide) 2 (by decide),h 1 (by decide) 3 (by decide),
    h 2 (by decide) 0 (by decide),h 2 (by decide) 1 (by decide),h 2 (by decide) 2 (by decide),h 2 (by decide) 3 (by decide),
    h 3 (by decide) 0 (by decide),h 3 (by decide) 1 (by decide),h 3 (by decide) 2 (by decide),h 3 (by decide) 3 (by decide)]
/-- a multiple of row t is taken from each other row -/
def takeF (x:Mx)(t:Nat)(f:Nat→Rat):Mx:=fun i k=>if i=t then x i k else x i k-f i*x t k
theorem d4_takeF (x:Mx){t:Nat}(ht:t<4)(f:Nat→Rat):d4 (takeF x t f)=d4 x:=by
  have step:∀(y:Mx) (i:Nat),i<4→d4 (if i=t then y else addR y i t (f i))=d4 y:=by
    intro y i hi
    split
    · rfl
    · next h=>exact d4_add y hi ht h (f i)
  have key:d4 (takeF x t f)=d4 ((fun y=>if 3=t then y else addR y 3 t (f 3)) ((fun y=>if 2=t then y else addR y 2 t (f 2)) ((fun y=>if 1=t then y else addR y 1 t (f 1)) (if 0=t then x else addR x 0 t (f 0))))):=by
    refine d4_congr fun i hi k hk=>?_
    unfold takeF addR
    rcases lt4 ht with rfl|rfl|rfl|rfl<;>rcases lt4 hi with rfl|rfl|rfl|rfl<;>simp
  rw[key,step _ 3 (by decide),step _ 2 (by decide),step _ 1 (by decide),step _ 0 (by decide)]
theorem d4_zero {x:Mx}{i:Nat}(hi:i<4)(h:∀k,k<4→x i k=0):d4 x=0:=by
  have h0:=h 0 (by decide)
  have h1:=h 1 (by decide)
  have h2:=h 2 (by decide)
  have h3:=h 3 (by decide)
  unfold d4
  rcases lt4 hi with rfl|rfl|rfl|rfl<;>rw[h0,h1,h2,h3]<;>grind
theorem d4_one:d4 oneM=1:=by
  unfold d4 oneM
  simp
  grind
/-- n rows and columns, continued by the identity -/
def extM (n:Nat)(x:Mx):Mx:=fun i k=>if i<n∧k<n then x i k else if i=k then 1 else 0
/-- the determinant of the first n rows and columns -/
def detM (n:Nat)(x:Mx):Rat:=d4 (extM n x)
theorem detM_congr {n:Nat}{x y:Mx}(h:∀i,i<n→∀k,k<n→x i k=y i k):detM n x=detM n y:=by
  refine d4_congr fun i _ k _=>?_
  unfold extM
  split
  · next hc=>exact h i hc.1 k hc.2
  · rfl
theorem detM_zero {n:Nat}(hn:n≤4){x:Mx}{i:Nat}(hi:i<n)(h:∀k,k<n→x i k=0):detM n x=0:=by
  refine d4_zero (i:=i) (by omega) fun k hk=>?_
  unfold extM
  by_cases hkn:k<n
  · rw[if_pos ⟨hi,hkn⟩];exact h k hkn
  · rw[if_neg (fun hc=>hkn hc.2),if_neg (by omega)]
theorem detM_one {n:Nat}{x:Mx}(h:∀i,i<n→∀k,k<n→x i k=oneM i k):detM n x=1:=by
  rw[←d4_one]
  refine d4_congr fun i _ k _=>?_
  unfold extM
  split
  · next hc=>exact h i hc.1 k hc.2
  · rfl
theorem detM_swap {n p q : Nat} (hn : n ≤ 4) (x : Mx) (hp : p < n) (hq : q < n) (h : p ≠ q) : detM n (swapR x p q) = -detM n x := by
  unfold detM
  rw[←d4_swap (extM n x) (show p<4 by omega) (show q<4 by omega) h]
  refine d4_congr fun i _ k _=>?_
  unfold extM swapR
  by_cases h1:i=p
  · subst h1
    simp only[if_true,hp,hq,true_and]
    by_cases hk:k<n
    · simp only[hk,if_true]
    · simp only[hk,if_false]
      rw[if_neg (by omega),if_neg (by omega)]
  · by_cases h2:i=q
    · subst h2
      simp only[if_neg h1,if_true,hp,hq,true_and]
      by_cases hk:k<n
      · simp only[hk,if_true]
      · simp only[hk,if_false]
        rw[if_neg (by omega),if_neg (by omega)]
    · simp only[if_neg h1,if_neg h2]
theorem detM_div {n t:Nat}(hn:n≤4)(x:Mx)(ht:t<n)(v:Rat):detM n (divR x t v)=detM n x*v⁻¹:=by
  unfold detM
  rw[←d4_mul (extM n x) (show t<4 by omega)]
  refine d4_congr fun i _ k _=>?_
  unfold extM divR
  by_cases h1:i=t
  · subst h1
    simp only[if_true,ht,true_and]
    by_cases hk:k<n
    · simp only[hk,if_true,Rat.div_def]
    · simp only[hk,if_false]
      rw[if_neg (by omega)];grind
  · simp only[if_neg h1]
theorem detM_takeF {n t : Nat} (hn : n ≤ 4) (x : Mx) (ht : t < n) (f : Nat → Rat) : detM n (takeF x t f) = detM n x := by
  unfold detM
  rw[←d4_takeF (extM n x) (show t<4 by omega) (fun i=>if i<n then f i else 0)]
  refine d4_congr fun i _ k _=>?_
  unfold extM takeF
  by_cases h1:i=t
  · simp only[if_pos h1]
  · simp only[if_neg h1,ht,true_and]
    by_cases hi:i<n
    · simp only[hi,true_and,if_true]
      by_cases hk:k<n
      · simp only[hk,if_true]
      · simp only[hk,if_false]
        rw[if_neg (show ¬ t=k by omega)];grind
    · simp only[hi,false_and,if_false];grind
theorem mul_swap (n m:Nat)(x b:Mx)(p q:Nat):mulM m (swapR x p q) b=swapR (mulM m x b) p q:=by
  funext i k
  unfold mulM swapR
  by_cases h1:i=p
  · simp only[if_pos h1]
  · by_cases h2:i=q
    · simp only[if_neg h1,if_pos h2]
    · simp only[if_neg h1,if_neg h2]
theorem mul_div (m:Nat)(x b:Mx)(t:Nat)(v:Rat):mulM m (divR x t v) b=divR (mulM m x b) t v:=by
  funext i k
  unfold mulM divR
  by_cases h1:i=t
  · simp only[if_pos h1,Rat.div_def]
    rw[←sumN_mulr]
    exact sumN_congr fun j _=>by grind
  · simp only[if_neg h1]
theorem mul_takeF (m:Nat)(x b:Mx)(t:Nat)(f:Nat→Rat):mulM m (takeF x t f) b=takeF (mulM m x b) t f:=by
  funext i k
  unfold mulM takeF
  by_cases h1:i=t
  · simp only[if_pos h1]
  · simp only[if_neg h1]
    rw[←sumN_mul,←sumN_sub]
    exact sumN_congr fun j _=>by grind
theorem takeR_eq (x:Mx)(t c:Nat):takeR x t c=takeF x t (fun i=>x i c):=rfl
/-- A step of the elimination keeps det * determinant, also behind a product. -/
theorem det_step {n m c : Nat} (hn : n ≤ 4) (b : Mx) (s : El) : (stepE n c s).det * detM n (mulM m (stepE n c s).x b) = s.det * detM n (mulM m s.x b) := by
  unfold stepE
  split
  · rfl
  · next p hp=>
    obtain⟨h1,h2,h3,h4⟩:=findP_some hp
    have ht:s.rk<n:=by omega
    show(if p=s.rk then s.det else -s.det)*s.x p c*detM n (mulM m (pivR s.x s.rk p c) b)=_
    unfold pivR
    rw[takeR_eq,mul_takeF,detM_takeF hn _ ht,mul_div,detM_div hn _ ht,mul_swap n]
    have hv:s.x p c*(s.x p c)⁻¹=1:=Rat.mul_inv_cancel _ h3
    by_cases e:p=s.rk
    · rw[if_pos e,e,swapR_self]
      rw[e] at hv
      generalize detM n (mulM m s.x b)=d
      generalize s.x s.rk c=v at hv ⊢
      calc s.det*v*(d*v⁻¹)=s.det*d*(v*v⁻¹):=by grind
        _=s.det*d:=by rw[hv,Rat.mul_one]
    · rw[if_neg e,detM_swap hn _ ht h2 (fun e'=>e e'.symm)]
      generalize detM n (mulM m s.x b)=d
      generalize s.x p c=v at hv ⊢
      calc -s.det*v*(-d*v⁻¹)=s.det*d*(v*v⁻¹):=by grind
        _=s.det*d:=by rw[hv,Rat.mul_one]
theorem det_run {n m:Nat}(hn:n≤4)(b:Mx)(s:El):∀c,(runE n s c).det*detM n (mulM m (runE n s c).x b)=s.det*detM n (mulM m s.x b)
  |0=>rfl
  |c+1=>(det_step hn b _).trans (det_run hn b s c)
/-- what Det returns -/
def detV (n:Nat)(a:Mx):Rat:=if(runE n (startE a) n).rk<n then 0 else(runE n (startE a) n).det
theorem detV_eq {n:Nat}(hn:n≤4)(a:Mx):detV n a=detM n a:=by
  have h:=det_run (m:=n) hn oneM (startE a) n
  have e1:∀x:Mx,detM n (mulM n x oneM)=detM n x:=fun x=>detM_congr fun i _ k hk=>mulM_one n x i k hk
  rw[e1,e1] at h
  have h':(runE n (startE a) n).det*detM n (runE n (startE a) n).x=detM n a:=by rw[h];exact Rat.one_mul _
  obtain⟨pv,hs⟩:=shape_run n a n
  unfold detV
  split
  · next hr=>
    rw[←h',detM_zero hn hr (hs.low _ (Nat.le_refl _) hr)];grind
  · next hr=>
    rw[←h',detM_one (full_one hs (by have:=hs.rk;omega)),Rat.mul_one]
theorem detM_mul {n:Nat}(hn:n≤4)(a b:Mx):detM n (mulM n a b)=detM n a*detM n b:=by
  have h:=det_run (m:=n) hn b (startE a) n
  have h':(runE n (startE a) n).det*detM n (mulM n (runE n (startE a) n).x b)=detM n (mulM n a b):=by rw[h];exact Rat.one_mul _
  obtain⟨pv,hs⟩:=shape_run n a n
  rw[←h',←detV_eq hn a]
  unfold detV
  split
  · next hr=>
    rw[detM_zero hn hr (fun k hk=>?_)]
    · grind
    · unfold mulM
      rw[sumN_congr (g:=fun _=>0) (fun j hj=>by rw[hs.low _ (Nat.le_refl _) hr j hj];grind),sumN_zero]
  · next hr=>
    congr 1
    refine detM_congr fun i hi k hk=>?_
    rw[mulM_congr (b':=b) (fun j hj=>full_one hs (by have:=hs.rk;omega) i hi j hj) (fun j _=>rfl)]
    exact one_mulM n b i k hi
end Go.Proofs.YthhbbnfnejjpiaaGreatDoor.MX
namespace Go.Proofs.YthhbbnfnejjpiaaGreatDoor.MX
open Go
open NL
/-- the first m entries of a row over one denominator, of at most b bits -/
def RowF (b m:Nat)(r:Nat→Rat):Prop:=RowQ b b ((List.range m).map r)
theorem RowF.mono {b b' m:Nat}{r:Nat→Rat}(h:RowF b m r)(hb:b≤b'):RowF b' m r:=RowQ.mono h hb hb
theorem mem_row {m k:Nat}(r:Nat→Rat)(h:k<m):r k∈(List.range m).map r:=List.mem_map.2 ⟨k,List.mem_range.2 h,rfl⟩
theorem RowF.bd {b m k:Nat}{r:Nat→Rat}(h:RowF b m r)(hk:k<m):Bd (b+1) (r k):=by
 have:=RowQ.bd h (mem_row r hk)
 rwa[Nat.max_self] at this
theorem RowF.bdk {b m k B:Nat}{r:Nat→Rat}(h:RowF b m r)(hk:k<m)(hB:b+1≤B):Bd B (r k):=(h.bd hk).mono hB
theorem RowF.qn {b m k:Nat}{r:Nat→Rat}(h:RowF b m r)(hk:k<m):Qn b b (r k):=by
 obtain⟨D,h0,h1,h2⟩:=h
 obtain⟨N,h3,h4⟩:=h2 _ (mem_row r hk)
 exact⟨D,N,h0,h1,h3,h4⟩
theorem RowF.bd_mul {b m k l:Nat}{r s:Nat→Rat}(h:RowF b m r)(h':RowF b m s)(hk:k<m)(hl:l<m):Bd (2*b+1) (r k*s l):=by
 have:=((h.qn hk).mul (h'.qn hl)).bd
 rw[Nat.max_self] at this
 rwa[show 2*b=b+b by omega]
theorem RowF.div {b m c:Nat}{r:Nat→Rat}(h:RowF b m r)(hc:c<m)(h0:r c≠0):RowF b m (fun k=>r k/r c):=by
 have:=RowQ.div h (mem_row r hc) h0
 rw[List.map_map] at this
 exact this
theorem RowF.sub {b m c:Nat}{r s:Nat→Rat}(h:RowF b m r)(k:RowF b m s)(hc:c<m):RowF (2*b+1) m (fun k=>r k-r c*s k):=by
 have:=RowQ.sub h k (mem_row r hc) (by simp)
 rw[List.zipWith_map,List.zipWith_self] at this
 exact RowQ.mono this (by omega) (by omega)
theorem RowF.congr {b m:Nat}{r s:Nat→Rat}(h:RowF b m r)(e:∀k,k<m→r k=s k):RowF b m s:=by
 unfold RowF at*
 rwa[List.map_congr_left (fun k hk=>e k (List.mem_range.1 hk))] at h
/-- the numbers after some steps -/
structure Fit (n m b:Nat)(s:El):Prop where
 row:∀i,i<n→RowF b m (s.x i)
 det:Qn b b s.det
theorem fit_step {n m b c:Nat}{s:El}(h:Fit n m b s)(hc:c<m):Fit n m (2*b+1) (stepE n c s):=by
 unfold stepE
 split
 ·exact⟨fun i hi=>(h.row i hi).mono (by omega),h.det.mono (by omega) (by omega)⟩
 ·next p hp=>
  obtain⟨h1,h2,h3,h4⟩:=findP_some hp
  refine⟨fun i hi=>?_,?_⟩
  ·show RowF _ m (pivR s.x s.rk p c i)
   have hd:=(h.row p h2).div hc h3
   by_cases e:i=s.rk
   ·subst e
    exact(hd.mono (by omega)).congr fun k _=>(pivR_at k).symm
   ·have hs:RowF b m (swapR s.x s.rk p i):=by
     unfold swapR
     rw[if_neg e]
     split
     ·exact h.row _ (by omega)
     ·exact h.row i hi
    exact(hs.sub hd hc).congr fun k _=>(pivR_ne e k).symm
  ·have hq:=(h.row p h2).qn hc
   have hd:Qn b b (if p=s.rk then s.det else -s.det):=by
    split
    ·exact h.det
    ·exact h.det.neg
   exact(hd.mul hq).mono (by omega) (by omega)
def bnd (b:Nat):Nat→Nat
 |0=>b
 |c+1=>2*bnd b c+1
theorem fit_run {n m b:Nat}{s:El}(h:Fit n m b s):∀c,c≤m→Fit n m (bnd b c) (runE n s c)
 |0,_=>h
 |c+1,hc=>fit_step (fit_run h c (by omega)) (by omega)
/-- by the number of pivots: the rows grow only where there is one -/
theorem fit_step_rk {n m b c:Nat}{s:El}(h:Fit n m (bnd b s.rk) s)(hc:c<m):Fit n m (bnd b (stepE n c s).rk) (stepE n c s):=by
 have:=fit_step (n:=n) h hc
 cases e:findP s.x n c s.rk with
 |none=>
  have e2:stepE n c s=s:=by unfold stepE;rw[e]
  rw[e2];exact h
 |some p=>
  have e2:(stepE n c s).rk=s.rk+1:=by unfold stepE;rw[e]
  rw[e2];exact this
theorem fit_run_rk {n m b:Nat}{s:El}(h:Fit n m (bnd b s.rk) s):∀c,c≤m→Fit n m (bnd b (runE n s c).rk) (runE n s c)
 |0,_=>h
 |c+1,hc=>fit_step_rk (fit_run_rk h c (by omega)) (by omega)
theorem bnd_mono (b:Nat){r r':Nat}(h:r≤r'):bnd b r≤bnd b r':=by
 induction h with
 |refl=>exact Nat.le_refl _
 |step _ ih=>show _≤2*bnd b _+1;omega
theorem rowF_init {k m b:Nat}{r:Nat→Rat}(h:∀j,j<m→Bd k (r j))(hb:k*m≤b):RowF b m r:=by
 have:=RowQ.init (k:=k) (r:=(List.range m).map r) (fun x hx=>by
  obtain⟨j,hj,rfl⟩:=List.mem_map.1 hx
  exact h j (List.mem_range.1 hj))
 rw[List.length_map,List.length_range] at this
 exact RowQ.mono this hb hb
end Go.Proofs.YthhbbnfnejjpiaaGreatDoor.MX
namespace Go.Proofs.YthhbbnfnejjpiaaGreatDoor.MX
open Go
open NL
/-- rows of a with the rows of b behind, from column n on -/
def wideM (n:Nat)(a b:Mx):Mx:=fun i k=>if k<n then a i k else b i (k-n)
def moreM (n:Nat)(x:Mx):Mx:=fun i k=>x i (n+k)
theorem wide_lo {n:Nat}(a b:Mx)(i:Nat){k:Nat}(h:k<n):wideM n a b i k=a i k:=if_pos h
theorem wide_hi {n:Nat}(a b:Mx)(i k:Nat):wideM n a b i (n+k)=b i k:=by
 unfold wideM
 rw[if_neg (by omega),Nat.add_sub_cancel_left]
/-- Two eliminations that agree in their first m columns take the same steps there. -/
structure Agree (n m:Nat)(s t:El):Prop where
 x:∀i,i<n→∀k,k<m→s.x i k=t.x i k
 det:s.det=t.det
 rk:s.rk=t.rk
theorem findP_congr {x y:Mx}{n c a:Nat}(h:∀i,i<n→x i c=y i c):findP x n c a=findP y n c a:=by
 cases e:findP y n c a with
 |none=>exact findP_none_of fun q h1 h2=>by rw[h q h2];exact findP_none e q h1 h2
 |some p=>
  obtain⟨h1,h2,h3,h4⟩:=findP_some e
  exact findP_some_of h1 h2 (by rw[h p h2];exact h3) (fun q a b=>by rw[h q (by omega)];exact h4 q a b)
theorem agree_step {n m c:Nat}{s t:El}(h:Agree n m s t)(hc:c<m):Agree n m (stepE n c s) (stepE n c t):=by
 have e:=findP_congr (a:=s.rk) (fun i hi=>h.x i hi c hc)
 unfold stepE
 rw[←h.rk,←e]
 cases hp:findP s.x n c s.rk with
 |none=>exact h
 |some p=>
  obtain⟨h1,h2,h3,h4⟩:=findP_some hp
  have hr:s.rk<n:=by omega
  refine⟨fun i hi k hk=>?_,?_,?_⟩
  ·show pivR s.x s.rk p c i k=pivR t.x s.rk p c i k
   by_cases e:i=s.rk
   ·subst e
    rw[pivR_at,pivR_at,h.x p h2 k hk,h.x p h2 c hc]
   ·rw[pivR_ne e,pivR_ne e,h.x p h2 k hk,h.x p h2 c hc]
    have es:∀l,l<m→swapR s.x s.rk p i l=swapR t.x s.rk p i l:=by
     intro l hl
     unfold swapR
     rw[if_neg e,if_neg e]
     split
     ·exact h.x _ hr l hl
     ·exact h.x i hi l hl
    rw[es k hk,es c hc]
  ·show(if p=s.rk then s.det else -s.det)*s.x p c=(if p=s.rk then t.det else -t.det)*t.x p c
   rw[h.det,h.x p h2 c hc]
  ·rfl
theorem agree_run {n m:Nat}{s t:El}(h:Agree n m s t):∀c,c≤m→Agree n m (runE n s c) (runE n t c)
 |0,_=>h
 |c+1,hc=>agree_step (agree_run h c (by omega)) (by omega)
theorem agree_wide (n:Nat)(a b:Mx):Agree n n (startE (wideM n a b)) (startE a):=
 ⟨fun i _ k hk=>wide_lo a b i hk,rfl,rfl⟩
/-- what stands behind when the matrix has become the identity -/
def behindM (n:Nat)(a b:Mx):Mx:=moreM n (runE n (startE (wideM n a b)) n).x
def rankM (n m:Nat)(a:Mx):Nat:=(runE n (startE a) m).rk
theorem rank_wide (n:Nat)(a b:Mx):(runE n (startE (wideM n a b)) n).rk=rankM n n a:=(agree_run (agree_wide n a b) n (Nat.le_refl _)).rk
theorem rank_le (n m:Nat)(a:Mx):rankM n m a≤n:=by
 obtain⟨pv,h⟩:=shape_run n a m
 exact h.rk
end Go.Proofs.YthhbbnfnejjpiaaGreatDoor.MX
namespace Go.Proofs.YthhbbnfnejjpiaaGreatDoor.MX
open Go
open NL
theorem rsub_mul (a b c:Rat):(a-b)*c=a*c-b*c:=by grind
/-- what is left of entry i, k before it is divided -/
def facS (a:Mx)(k i:Nat):Rat:=a i k-sumN k (fun j=>if h:j<k then facS a j i/facS a j j*(facS a j k/facS a j j)*facS a j j else 0)
termination_by k
theorem facS_eq (a:Mx)(k i:Nat):facS a k i=a i k-sumN k (fun j=>facS a j i/facS a j j*(facS a j k/facS a j j)*facS a j j):=by
  rw[facS]
  congr 1
  exact sumN_congr fun j hj=>by rw[dif_pos hj]
def facD (a:Mx)(k:Nat):Rat:=facS a k k
def facL (a:Mx):Mx:=fun i k=>if k<i then facS a k i/facD a k else if i=k then 1 else 0
theorem facS_div (a:Mx){k i:Nat}(h:∀j,j<k→facD a j≠0):facS a k i=a i k-sumN k (fun j=>facS a j i*facS a j k/facD a j):=by
  rw[facS_eq]
  congr 1
  refine sumN_congr fun j hj=>?_
  have hv:facS a j j*(facS a j j)⁻¹=1:=Rat.mul_inv_cancel _ (h j hj)
  show facS a j i/facS a j j*(facS a j k/facS a j j)*facS a j j=facS a j i*facS a j k/facS a j j
  simp only[Rat.div_def]
  calc facS a j i*(facS a j j)⁻¹*(facS a j k*(facS a j j)⁻¹)*facS a j j=facS a j i*facS a j k*(facS a j j)⁻¹*(facS a j j*(facS a j j)⁻¹):=by grind
    _=_:=by rw[hv,Rat.mul_one]
/-- a is a * its transpose: its factors are those of an orthogonalisation of the rows -/
def gramM (m:Nat)(r:Mx):Mx:=mulM m r (trM r)
def dotV (m:Nat)(u v:Nat→Rat):Rat:=sumN m (fun j=>u j*v j)
theorem gram_dot (m:Nat)(r:Mx)(i k:Nat):gramM m r i k=dotV m (r i) (r k):=rfl
theorem dot_comm (m:Nat)(u v:Nat→Rat):dotV m u v=dotV m v u:=sumN_congr fun j _=>Rat.mul_comm _ _
theorem gram_comm (m:Nat)(r:Mx)(i k:Nat):gramM m r i k=gramM m r k i:=dot_comm m _ _
theorem facS_low {a : Mx} {n : Nat} (hs : ∀ i, i < n → ∀ k, k < n → a i k = a k i) : ∀ k, k < n → (∀ j, j < k → facD a j ≠ 0) → ∀ i, i < k → facS a k i = 0 := by
  intro k
  induction k using Nat.strongRecOn with
  | ind k ih =>
    intro hk hd i hi
    rw[facS_div a hd]
    have h2:∀j,j<k→i<j→facS a j i=0:=fun j hj hij=>ih j hj (by omega) (fun j' h'=>hd j' (by omega)) i hij
    have e:sumN k (fun j=>facS a j i*facS a j k/facD a j)=sumN (i+1) (fun j=>facS a j i*facS a j k/facD a j):=by
      have key:∀d,i+1+d≤k→sumN (i+1+d) (fun j=>facS a j i*facS a j k/facD a j)=sumN (i+1) (fun j=>facS a j i*facS a j k/facD a j):=by
        intro d
        induction d with
        |zero=>intro _;rfl
        |succ d ihd=>
          intro hd2
          show sumN (i+1+d) _+facS a (i+1+d) i*facS a (i+1+d) k/facD a (i+1+d)=_
          rw[ihd (by omega),h2 (i+1+d) (by omega) (by omega),Rat.div_def];grind
      have:=key (k-(i+1)) (by omega)
      rwa[show i+1+(k-(i+1))=k by omega] at this
    rw[e]
    show a i k-(sumN i _+facS a i i*facS a i k/facD a i)=0
    have h3:=facS_div a (k:=i) (i:=k) (fun j hj=>hd j (by omega))
    have h4:sumN i (fun j=>facS a j i*facS a j k/facD a j)=sumN i (fun j=>facS a j k*facS a j i/facD a j):=sumN_congr fun j _=>by rw[Rat.mul_comm (facS a j i)]
    have h5:facS a i i*facS a i k/facD a i=facS a i k:=by
      have hv:facD a i*(facD a i)⁻¹=1:=Rat.mul_inv_cancel _ (hd i hi)
      show facD a i*facS a i k/facD a i=_
      rw[Rat.div_def]
      calc facD a i*facS a i k*(facD a i)⁻¹=facS a i k*(facD a i*(facD a i)⁻¹):=by grind
        _=_:=by rw[hv,Rat.mul_one]
    rw[h4,h5,h3,hs i (by omega) k hk];grind
/-- the rows, made orthogonal -/
def orthV (m:Nat)(r:Mx)(k:Nat):Nat→Rat:=fun l=>r k l-sumN k (fun j=>if h:j<k then facS (gramM m r) j k/facD (gramM m r) j*orthV m r j l else 0)
termination_by k
theorem orthV_eq (m:Nat)(r:Mx)(k l:Nat):orthV m r k l=r k l-sumN k (fun j=>facS (gramM m r) j k/facD (gramM m r) j*orthV m r j l):=by
  rw[orthV]
  congr 1
  exact sumN_congr fun j hj=>by rw[dif_pos hj]
theorem orth_dot {m : Nat} {r : Mx} : ∀ k, (∀ j, j < k → facD (gramM m r) j ≠ 0) → ∀ i, facS (gramM m r) k i = dotV m (r i) (orthV m r k) := by
  intro k
  induction k using Nat.strongRecOn with
  | ind k ih =>
    intro hd i
    rw[facS_div _ hd]
    have e:dotV m (r i) (orthV m r k)=dotV m (r i) (r k)-sumN k (fun j=>facS (gramM m r) j k/facD (gramM m r) j*dotV m (r i) (orthV m r j)):=by
      unfold dotV
      rw[sumN_congr (g:=fun l=>r i l*r k l-sumN k (fun j=>facS (gramM m r) j k/facD (gramM m r) j*(r i l*orthV m r j l))) (fun l _=>by
        rw[orthV_eq,Rat.mul_comm (r i l),rsub_mul,←sumN_mulr]
        rw[Rat.mul_comm (r k l)]
        congr 1
        exact sumN_congr fun j _=>by grind)]
      rw[sumN_sub,sumN_swap]
      congr 1
      exact sumN_congr fun j _=>sumN_mul m _ _
    rw[e,gram_dot]
    congr 1
    refine sumN_congr fun j hj=>?_
    rw[←ih j hj (fun j' h'=>hd j' (by omega)) i,Rat.div_def,Rat.div_def];grind
theorem orth_self {m n : Nat} {r : Mx} (k : Nat) (hk : k < n) (hd : ∀ j, j < k → facD (gramM m r) j ≠ 0) : facD (gramM m r) k = dotV m (orthV m r k) (orthV m r k) := by
  have hlow:=facS_low (a:=gramM m r) (n:=n) (fun i _ k _=>gram_comm m r i k)
  have hz:∀i,i<k→dotV m (r i) (orthV m r k)=0:=fun i hi=>by
    rw[←orth_dot k hd];exact hlow k hk hd i hi
  --also the earlier orthogonal rows
  have hz2:∀i,i<k→dotV m (orthV m r i) (orthV m r k)=0:=by
    intro i
    induction i using Nat.strongRecOn with
    | ind i ih =>
      intro hi
      have e:dotV m (orthV m r i) (orthV m r k)=dotV m (r i) (orthV m r k)-sumN i (fun j=>facS (gramM m r) j i/facD (gramM m r) j*dotV m (orthV m r j) (orthV m r k)):=by
        unfold dotV
        rw[sumN_congr (g:=fun l=>r i l*orthV m r k l-sumN i (fun j=>facS (gramM m r) j i/facD (gramM m r) j*(orthV m r j l*orthV m r k l))) (fun l _=>by
          rw[orthV_eq m r i l,rsub_mul,←sumN_mulr]
          congr 1
          exact sumN_congr fun j _=>by grind)]
        rw[sumN_sub,sumN_swap]
        congr 1
        exact sumN_congr fun j _=>sumN_mul m _ _
      rw[e,hz i hi,sumN_congr (g:=fun _=>0) (fun j hj=>by rw[ih j hj (by omega)];grind),sumN_zero];grind
  have e:dotV m (orthV m r k) (orthV m r k)=dotV m (r k) (orthV m r k)-sumN k (fun j=>facS (gramM m r) j k/facD (gramM m r) j*dotV m (orthV m r j) (orthV m r k)):=by
    unfold dotV
    rw[sumN_congr (g:=fun l=>r k l*orthV m r k l-sumN k (fun j=>facS (gramM m r) j k/facD (gramM m r) j*(orthV m r j l*orthV m r k l))) (fun l _=>by
      conv=>lhs;lhs;rw[orthV_eq m r k l]
      rw[rsub_mul,←sumN_mulr]
      congr 1
      exact sumN_congr fun j _=>by grind)]
    rw[sumN_sub,sumN_swap]
    congr 1
    exact sumN_congr fun j _=>sumN_mul m _ _
  rw[e,sumN_congr (g:=fun _=>0) (fun j hj=>by rw[hz2 j hj];grind),sumN_zero]
  show facS (gramM m r) k k=_
  rw[orth_dot k hd];grind
theorem sq_nonneg (x:Rat):0≤x*x:=by
  rcases Rat.le_total (a:=0) (b:=x) with h|h
  · exact Rat.mul_nonneg h h
  · have:0≤ -x:=by grind
    have:=Rat.mul_nonneg this this
    rwa[Rat.neg_mul,Rat.mul_neg,Rat.neg_neg] at this
theorem dot_nonneg (m:Nat)(v:Nat→Rat):0≤dotV m v v:=by
  unfold dotV
  induction m with
  |zero=>exact Rat.le_refl
  |succ m ih=>show 0≤sumN m _+v m*v m;have:=sq_nonneg (v m);grind
theorem dot_zero {m:Nat}{v:Nat→Rat}(h:dotV m v v=0):∀l,l<m→v l=0:=by
  induction m with
  |zero=>intro l hl;exact absurd hl (Nat.not_lt_zero _)
  |succ m ih=>
    have h':dotV m v v+v m*v m=0:=h
    have h1:=dot_nonneg m v
    have h2:=sq_nonneg (v m)
    have e2:v m*v m=0:=by grind
    have e1:dotV m v v=0:=by grind
    intro l hl
    rcases Nat.lt_succ_iff_lt_or_eq.1 hl with hl|rfl
    · exact ih e1 l hl
    · rcases Rat.mul_eq_zero.1 e2 with e|e<;>exact e
end Go.Proofs.YthhbbnfnejjpiaaGreatDoor.MX
namespace Go.Proofs.YthhbbnfnejjpiaaGreatDoor.MX
open Go
open NL
theorem agree_wide' (n m:Nat)(a b:Mx):Agree n m (startE (wideM m a b)) (startE a):=
 ⟨fun i _ k hk=>wide_lo a b i hk,rfl,rfl⟩
/-- the elimination of r (m columns) with the identity behind -/
theorem rank_parts {n m:Nat}(r:Mx):∃(X E F:Mx) (pv:Nat→Nat),Shape n m ⟨X,(runE n (startE r) m).det,rankM n m r⟩ pv∧
  (∀i,i<n→∀l,l<m→X i l=mulM n E r i l)∧(∀i,i<n→∀l,l<m→r i l=mulM n F X i l)∧(∀i,i<n→∀k,k<n→mulM n F E i k=oneM i k):=by
 obtain⟨E,hE⟩:=(span_run (n:=n) (startE (wideM m r oneM)) m).mat
 obtain⟨F,hF⟩:=(span_run' (n:=n) (startE (wideM m r oneM)) m).mat
 obtain⟨pv,hs⟩:=shape_run n r m
 have ha:=agree_run (agree_wide' n m r oneM) m (Nat.le_refl _)
 refine⟨(runE n (startE r) m).x,E,F,pv,hs,fun i hi l hl=>?_,fun i hi l hl=>?_,fun i hi k hk=>?_⟩
 ·rw[←ha.x i hi l hl,hE i hi l]
  exact mulM_congr (fun _ _=>rfl) (fun j _=>wide_lo r oneM j hl)
 ·have:=hF i hi l
  rw[show(startE (wideM m r oneM)).x i l=r i l from wide_lo r oneM i hl] at this
  rw[this]
  exact mulM_congr (fun _ _=>rfl) (fun j hj=>ha.x j hj l hl)
 ·have h1:=hF i hi (m+k)
  rw[show(startE (wideM m r oneM)).x i (m+k)=oneM i k from wide_hi r oneM i k] at h1
  rw[h1]
  refine sumN_congr fun j hj=>?_
  show F i j*E j k=F i j*_
  rw[hE j hj (m+k)]
  have e:mulM n E (startE (wideM m r oneM)).x j (m+k)=mulM n E oneM j k:=sumN_congr fun j' _=>by
   show E j j'*wideM m r oneM j' (m+k)=_
   rw[wide_hi]
  rw[e,mulM_one n E j k hk]
/-- with full rank the rows are independent -/
theorem indep {n m:Nat}{r:Mx}(hr:rankM n m r=n)(T:Nat→Rat)(h:∀l,l<m→sumN n (fun j=>T j*r j l)=0):∀j,j<n→T j=0:=by
 obtain⟨X,E,F,pv,hs,h1,h2,h3⟩:=rank_parts (n:=n) (m:=m) r
 have hrk:(⟨X,(runE n (startE r) m).det,rankM n m r⟩:El).rk=n:=hr
 --T F=0
 have hTF:∀s,s<n→sumN n (fun j=>T j*F j s)=0:=by
  intro s hs2
  have hl:=hs.lt s (by rw[hrk];exact hs2)
  have e:=h (pv s) hl
  rw[sumN_congr (g:=fun j=>sumN n (fun s'=>T j*F j s'*X s' (pv s))) (fun j hj=>by
   rw[h2 j hj _ hl]
   unfold mulM
   rw[←sumN_mul]
   exact sumN_congr fun s' _=>(Rat.mul_assoc _ _ _).symm),sumN_swap] at e
  rw[sumN_congr (g:=fun s'=>sumN n (fun j=>T j*F j s')*X s' (pv s)) (fun s' _=>sumN_mulr n _ _)] at e
  have hone:∀i,i<n→X i (pv s)=if i=s then 1 else 0:=hs.one s (by rw[hrk];exact hs2)
  rw[sumN_one s _ (fun s' hs' hne=>by rw[hone s' hs',if_neg hne];grind),if_pos hs2,hone s hs2,if_pos rfl,Rat.mul_one] at e
  exact e
 intro j hj
 have e:sumN n (fun i=>T i*oneM i j)=T j:=by
  rw[sumN_one j _ (fun i _ hi=>by unfold oneM;rw[if_neg hi];grind),if_pos hj]
  unfold oneM
  rw[if_pos rfl,Rat.mul_one]
 rw[←e,sumN_congr (g:=fun i=>sumN n (fun s=>T i*F i s*E s j)) (fun i hi=>by
  rw[←h3 i hi j hj]
  unfold mulM
  rw[←sumN_mul]
  exact sumN_congr fun s _=>(Rat.mul_assoc _ _ _).symm),sumN_swap]
 rw[sumN_congr (g:=fun _=>0) (fun s hs2=>by
  rw[sumN_mulr n (E s j) (fun i=>T i*F i s),hTF s hs2];grind),sumN_zero]
/-- with less than full rank they are not -/
theorem depend {n m:Nat}(hn:n≤4){r:Mx}(hr:rankM n m r<n):∃T:Nat→Rat,(∃j,j<n∧T j≠0)∧∀l,l<m→sumN n (fun j=>T j*r j l)=0:=by
 obtain⟨X,E,F,pv,hs,h1,h2,h3⟩:=rank_parts (n:=n) (m:=m) r
 refine⟨E (rankM n m r),Classical.byContradiction fun hc=>?_,fun l hl=>?_⟩
 ·have hz:∀k,k<n→E (rankM n m r) k=0:=fun k hk=>Classical.byContradiction fun h0=>hc ⟨k,hk,h0⟩
  have e1:detM n (mulM n F E)=1:=detM_one h3
  rw[detM_mul hn,detM_zero hn hr hz,Rat.mul_zero] at e1
  exact absurd e1 (by decide)
 ·have:=h1 _ hr l hl
  rw[show X (rankM n m r) l=0 from hs.low _ (Nat.le_refl _) hr l hl] at this
  exact this.symm
/-- an orthogonal row is a combination of the rows up to its own -/
theorem orth_comb (m:Nat)(r:Mx):∀k,∃T:Nat→Rat,T k=1∧(∀j,k<j→T j=0)∧∀n,k<n→∀l,orthV m r k l=sumN n (fun j=>T j*r j l):=by
 intro k
 induction k using Nat.strongRecOn with
 |ind k ih=>
  have hex:∀j,∃T:Nat→Rat,j<k→T j=1∧(∀i,j<i→T i=0)∧∀n,j<n→∀l,orthV m r j l=sumN n (fun i=>T i*r i l):=by
   intro j
   by_cases hj:j<k
   ·obtain⟨T,h⟩:=ih j hj
    exact⟨T,fun _=>h⟩
   ·exact⟨fun _=>0,fun h=>absurd h hj⟩
  have hch:∃S:Mx,∀j,j<k→S j j=1∧(∀i,j<i→S j i=0)∧∀n,j<n→∀l,orthV m r j l=sumN n (fun i=>S j i*r i l):=
   ⟨fun j=>(hex j).choose,fun j hj=>(hex j).choose_spec hj⟩
  obtain⟨S,hS⟩:=hch
  let c:Nat→Rat:=fun j=>facS (gramM m r) j k/facD (gramM m r) j
  refine⟨fun i=>(if i=k then 1 else 0)-sumN k (fun j=>c j*S j i),?_,fun i hi=>?_,fun n hn l=>?_⟩
  ·show(if k=k then(1:Rat) else 0)-_=1
   rw[if_pos rfl,sumN_congr (g:=fun _=>0) (fun j hj=>by rw[(hS j hj).2.1 k hj];grind),sumN_zero];grind
  ·show(if i=k then(1:Rat) else 0)-_=0
   rw[if_neg (by omega),sumN_congr (g:=fun _=>0) (fun j hj=>by rw[(hS j hj).2.1 i (by omega)];grind),sumN_zero];grind
  ·rw[orthV_eq]
   rw[sumN_congr (f:=fun i=>((if i=k then(1:Rat) else 0)-sumN k (fun j=>c j*S j i))*r i l) (g:=fun i=>(if i=k then(1:Rat) else 0)*r i l-sumN k (fun j=>c j*(S j i*r i l))) (fun i _=>by
    rw[rsub_mul,←sumN_mulr]
    congr 1
    exact sumN_congr fun j _=>Rat.mul_assoc _ _ _),sumN_sub]
   congr 1
   ·rw[sumN_one k _ (fun i _ hi=>by rw[if_neg hi];grind),if_pos hn,if_pos rfl];grind
   ·rw[sumN_swap]
    refine sumN_congr fun j hj=>?_
    rw[sumN_mul,←(hS j hj).2.2 n (by omega) l]
/-- independent rows: all pivots are positive -/
theorem pd_of_rank {n m:Nat}{r:Mx}(hr:rankM n m r=n):∀k,k<n→0<facD (gramM m r) k:=by
 intro k
 induction k using Nat.strongRecOn with
 |ind k ih=>
  intro hk
  have hd:∀j,j<k→facD (gramM m r) j≠0:=fun j hj e=>by
   have:=ih j hj (by omega)
   rw[e] at this
   exact absurd this (by decide)
  have he:=orth_self (n:=n) k hk hd
  have h0:=dot_nonneg m (orthV m r k)
  rw[←he] at h0
  by_cases h:facD (gramM m r) k=0
  ·exfalso
   rw[he] at h
   have hz:=dot_zero h
   obtain⟨T,h1,_,h3⟩:=orth_comb m r k
   have:=indep hr T (fun l hl=>by rw[←h3 n hk l];exact hz l hl) k hk
   rw[h1] at this
   exact absurd this (by decide)
  ·grind
end Go.Proofs.YthhbbnfnejjpiaaGreatDoor.MX
namespace Go.Proofs.YthhbbnfnejjpiaaGreatDoor.MX
open Go
open NL
theorem last_ne {T : Nat → Rat} : ∀ {n : Nat}, (∃ j, j < n ∧ T j ≠ 0) → ∃ k, k < n ∧ T k ≠ 0 ∧ ∀ j, k < j → j < n → T j = 0
  |0,h=>by obtain⟨j,h,_⟩:=h;exact absurd h (Nat.not_lt_zero _)
  | n + 1, h => by
    by_cases e:T n=0
    · obtain⟨k,h1,h2,h3⟩:=last_ne (n:=n) (by
        obtain⟨j,hj,hne⟩:=h
        refine⟨j,?_,hne⟩
        rcases Nat.lt_succ_iff_lt_or_eq.1 hj with h|h
        · exact h
        · exact absurd (h▸e) hne)
      refine⟨k,by omega,h2,fun j a b=>?_⟩
      rcases Nat.lt_succ_iff_lt_or_eq.1 b with b|b
      · exact h3 j a b
      · rw[b];exact e
    · exact⟨n,by omega,e,fun j a b=>by omega⟩
theorem sumN_upto {k n:Nat}{f:Nat→Rat}(hk:k<n)(h:∀j,k<j→j<n→f j=0):sumN n f=sumN k f+f k:=by
  have key:∀d,k+1+d≤n→sumN (k+1+d) f=sumN (k+1) f:=by
    intro d
    induction d with
    |zero=>intro _;rfl
    |succ d ih=>
      intro hd
      show sumN (k+1+d) f+f (k+1+d)=_
      rw[ih (by omega),h _ (by omega) (by omega)];grind
  have:=key (n-(k+1)) (by omega)
  rw[show k+1+(n-(k+1))=n by omega] at this
  exact this
theorem rank_of_pd {n m : Nat} (hn : n ≤ 4) {r : Mx} (h : ∀ k, k < n → 0 < facD (gramM m r) k) : rankM n m r = n := by
  rcases Nat.lt_or_eq_of_le (rank_le n m r) with hr|hr
  · exfalso
    obtain⟨T,hne,hz⟩:=depend hn hr
    obtain⟨k,hk,h1,h2⟩:=last_ne hne
    have hd:∀j,j<k→facD (gramM m r) j≠0:=fun j hj e=>by
      have:=h j (by omega)
      rw[e] at this
      exact absurd this (by decide)
    have hlow:=facS_low (a:=gramM m r) (n:=n) (fun i _ k _=>gram_comm m r i k) k hk hd
    have e:sumN n (fun j=>T j*dotV m (r j) (orthV m r k))=0:=by
      unfold dotV
      rw[sumN_congr (g:=fun j=>sumN m (fun l=>T j*r j l*orthV m r k l)) (fun j _=>by
        rw[←sumN_mul]
        exact sumN_congr fun l _=>(Rat.mul_assoc _ _ _).symm),sumN_swap]
      rw[sumN_congr (g:=fun _=>0) (fun l hl=>by rw[sumN_mulr n _ (fun j=>T j*r j l),hz l hl];grind),sumN_zero]
    rw[sumN_upto hk (fun j a b=>by rw[h2 j a b];grind),sumN_congr (g:=fun _=>0) (fun j hj=>by
      rw[←orth_dot k hd,hlow j hj];grind),sumN_zero,←orth_dot k hd] at e
    have e2:T k*facD (gramM m r) k=0:=by
      show T k*facS (gramM m r) k k=0
      grind
    rcases Rat.mul_eq_zero.1 e2 with e|e
    · exact h1 e
    · have:=h k hk
      rw[e] at this
      exact absurd this (by decide)
  · exact hr
def diagM (d:Nat→Rat):Mx:=fun i k=>if i=k then d i else 0
theorem mul_diag {n:Nat}(a:Mx)(d:Nat→Rat)(i:Nat){j:Nat}(hj:j<n):mulM n a (diagM d) i j=a i j*d j:=by
  unfold mulM diagM
  rw[sumN_one j _ (fun l _ hl=>by rw[if_neg hl];grind),if_pos hj,if_pos rfl]
theorem fac_low {a : Mx} {n : Nat} (hd : ∀ j, j < n → facD a j ≠ 0) {i k : Nat} (hi : i < n) (hk : k ≤ i) : sumN n (fun j => facL a i j * facD a j * facL a k j) = a i k := by
  rw[sumN_upto (show k<n by omega) (fun j h1 h2=>by
    show facL a i j*facD a j*(if j<k then facS a j k/facD a j else if k=j then 1 else 0)=0
    rw[if_neg (by omega),if_neg (by omega)];grind)]
  have e1:sumN k (fun j=>facL a i j*facD a j*facL a k j)=sumN k (fun j=>facS a j i*facS a j k/facD a j):=sumN_congr fun j hj=>by
    show(if j<i then facS a j i/facD a j else if i=j then 1 else 0)*facD a j*(if j<k then facS a j k/facD a j else if k=j then 1 else 0)=_
    rw[if_pos (by omega),if_pos hj]
    have hv:facD a j*(facD a j)⁻¹=1:=Rat.mul_inv_cancel _ (hd j (by omega))
    simp only[Rat.div_def]
    calc facS a j i*(facD a j)⁻¹*facD a j*(facS a j k*(facD a j)⁻¹)=facS a j i*facS a j k*(facD a j)⁻¹*(facD a j*(facD a j)⁻¹):=by grind
      _=_:=by rw[hv,Rat.mul_one]
  have e2:facL a i k*facD a k*facL a k k=facS a k i:=by
    show(if k<i then facS a k i/facD a k else if i=k then 1 else 0)*facD a k*(if k<k then facS a k k/facD a k else if k=k then 1 else 0)=_
    rw[if_neg (Nat.lt_irrefl k),if_pos rfl,Rat.mul_one]
    by_cases h:k<i
    · rw[if_pos h]
      have hv:facD a k*(facD a k)⁻¹=1:=Rat.mul_inv_cancel _ (hd k (by omega))
      rw[Rat.div_def]
      calc facS a k i*(facD a k)⁻¹*facD a k=facS a k i*(facD a k*(facD a k)⁻¹):=by grind
        _=_:=by rw[hv,Rat.mul_one]
    · rw[if_neg h,if_pos (by omega),show i=k by omega]
      show 1*facS a k k=_
      grind
  rw[e1,e2,facS_div a (fun j hj=>hd j (by omega))];grind
/-- the factors multiply to the matrix -/
theorem fac_mul {a:Mx}{n:Nat}(hs:∀i,i<n→∀k,k<n→a i k=a k i)(hd:∀j,j<n→facD a j≠0){i k:Nat}(hi:i<n)(hk:k<n):mulM n (mulM n (facL a) (diagM (facD a))) (trM (facL a)) i k=a i k:=by
  have e:mulM n (mulM n (facL a) (diagM (facD a))) (trM (facL a)) i k=sumN n (fun j=>facL a i j*facD a j*facL a k j):=sumN_congr fun j hj=>by
    rw[mul_diag _ _ i hj];rfl
  rw[e]
  rcases Nat.le_total k i with h|h
  · exact fac_low hd hi h
  · rw[hs i hi k hk,←fac_low hd hk h]
    exact sumN_congr fun j _=>by grind
theorem d4_lower {x:Mx}(h:∀i k,i<k→k<4→x i k=0):d4 x=x 0 0*x 1 1*x 2 2*x 3 3:=by
  unfold d4
  rw[h 0 1 (by decide) (by decide),h 0 2 (by decide) (by decide),h 0 3 (by decide) (by decide),h 1 2 (by decide) (by decide),h 1 3 (by decide) (by decide),h 2 3 (by decide) (by decide)]
  grind
theorem d4_upper {x:Mx}(h:∀i k,k<i→i<4→x i k=0):d4 x=x 0 0*x 1 1*x 2 2*x 3 3:=by
  unfold d4
  rw[h 1 0 (by decide) (by decide),h 2 0 (by decide) (by decide),h 3 0 (by decide) (by decide),h 2 1 (by decide) (by decide),h 3 1 (by decide) (by decide),h 3 2 (by decide) (by decide)]
  grind
def prodN:Nat→(Nat→Rat)→Rat
  |0,_=>1
  |n+1,f=>prodN n f*f n
theorem detM_lower {n:Nat}(hn:n≤4){x:Mx}(h:∀i k,i<k→k<n→x i k=0):detM n x=prodN n (fun i=>x i i):=by
  unfold detM
  rw[d4_lower (fun i k h1 h2=>by
    unfold extM
    split
    · next hc=>exact h i k h1 hc.2
    · rw[if_neg (by omega)])]
  rcases(show n=0∨n=1∨n=2∨n=3∨n=4 by omega) with rfl|rfl|rfl|rfl|rfl<;>simp[extM,prodN]<;>grind
theorem detM_upper {n:Nat}(hn:n≤4){x:Mx}(h:∀i k,k<i→i<n→x i k=0):detM n x=prodN n (fun i=>x i i):=by
  unfold detM
  rw[d4_upper (fun i k h1 h2=>by
    unfold extM
    split
    · next hc=>exact h i k h1 hc.1
    · rw[if_neg (by omega)])]
  rcases(show n=0∨n=1∨n=2∨n=3∨n=4 by omega) with rfl|rfl|rfl|rfl|rfl<;>simp[extM,prodN]<;>grind
theorem prodN_congr {f g:Nat→Rat}:∀ {n:Nat},(∀i,i<n→f i=g i)→prodN n f=prodN n g
  |0,_=>rfl
  |n+1,h=>by
    show prodN n f*f n=prodN n g*g n
    rw[prodN_congr (fun i hi=>h i (Nat.lt_succ_of_lt hi)),h n (Nat.lt_succ_self n)]
theorem prodN_one (n:Nat):prodN n (fun _=>1)=1:=by
  induction n with
  |zero=>rfl
  |succ n ih=>show prodN n _*1=1;rw[ih];grind
theorem facL_up {a:Mx}{i k:Nat}(h:i<k):facL a i k=0:=by
  unfold facL
  rw[if_neg (by omega),if_neg (by omega)]
theorem facL_self {a:Mx}(k:Nat):facL a k k=1:=by
  unfold facL
  rw[if_neg (by omega),if_pos rfl]
/-- the diagonal multiplies to the determinant -/
theorem fac_det {a:Mx}{n:Nat}(hn:n≤4)(hs:∀i,i<n→∀k,k<n→a i k=a k i)(hd:∀j,j<n→facD a j≠0):detM n a=prodN n (facD a):=by
  rw[←detM_congr (fun i hi k hk=>fac_mul hs hd hi hk),detM_mul hn,detM_mul hn,
    detM_lower hn (fun i k h _=>facL_up h),prodN_congr (g:=fun _=>1) (fun i _=>facL_self i),prodN_one,
    detM_lower (x:=diagM (facD a)) hn (fun i k h _=>by unfold diagM;rw[if_neg (by omega)]),prodN_congr (g:=facD a) (fun i _=>by unfold diagM;rw[if_pos rfl]),
    detM_upper (x:=trM (facL a)) hn (fun i k h _=>facL_up h),prodN_congr (f:=fun i=>trM (facL a) i i) (g:=fun _=>1) (fun i _=>facL_self i),prodN_one]
  grind
/-- the quadratic form -/
def quadM (n:Nat)(a:Mx)(c:Nat→Rat):Rat:=sumN n (fun i=>c i*sumN n (fun k=>a i k*c k))
theorem quad_gram (n m:Nat)(r:Mx)(c:Nat→Rat):quadM n (gramM m r) c=dotV m (fun l=>sumN n (fun i=>c i*r i l)) (fun l=>sumN n (fun i=>c i*r i l)):=by
  unfold quadM dotV
  have e:∀i,sumN n (fun k=>gramM m r i k*c k)=sumN m (fun l=>r i l*sumN n (fun k=>c k*r k l)):=by
    intro i
    rw[sumN_congr (g:=fun k=>sumN m (fun l=>r i l*(c k*r k l))) (fun k _=>by
      unfold gramM mulM trM
      rw[←sumN_mulr]
      exact sumN_congr fun l _=>by grind),sumN_swap]
    exact sumN_congr fun l _=>sumN_mul n _ _
  rw[sumN_congr (g:=fun i=>sumN m (fun l=>c i*r i l*sumN n (fun k=>c k*r k l))) (fun i _=>by
    rw[e i,←sumN_mul]
    exact sumN_congr fun l _=>(Rat.mul_assoc _ _ _).symm),sumN_swap]
  exact sumN_congr fun l _=>sumN_mulr n _ _
theorem quad_nonneg (n m:Nat)(r:Mx)(c:Nat→Rat):0≤quadM n (gramM m r) c:=by
  rw[quad_gram];exact dot_nonneg m _
theorem quad_zero {n m:Nat}{r:Mx}(hr:rankM n m r=n)(c:Nat→Rat):quadM n (gramM m r) c=0↔∀i,i<n→c i=0:=by
  rw[quad_gram]
  constructor
  · intro h
    exact indep hr c (dot_zero h)
  · intro h
    have e:∀l,sumN n (fun i=>c i*r i l)=0:=fun l=>by
      rw[sumN_congr (g:=fun _=>0) (fun i hi=>by rw[h i hi];grind),sumN_zero]
    unfold dotV
    rw[sumN_congr (g:=fun _=>0) (fun l _=>by show sumN n (fun i=>c i*r i l)*sumN n (fun i=>c i*r i l)=0;rw[e l];grind),sumN_zero]
end Go.Proofs.YthhbbnfnejjpiaaGreatDoor.MX
namespace Go.Proofs.YthhbbnfnejjpiaaGreatDoor.MX
open Go
open NL
/-- elimination without exchanges, k columns of it -/
def gauR (a:Mx):Nat→Mx
 |0=>a
 |k+1=>fun i c=>gauR a k i c-gauR a k i k*(gauR a k k c/gauR a k k k)
theorem gau_sum {a:Mx}{n:Nat}(hs:∀i,i<n→∀k,k<n→a i k=a k i):∀k,k≤n→(∀j,j<k→facD a j≠0)→∀i,i<n→∀c,c<n→gauR a k i c=a i c-sumN k (fun j=>facS a j i*facS a j c/facD a j)
 |0,_,_,i,_,c,_=>by show a i c=a i c-0;grind
 |k+1,hk,h,i,hi,c,hc=>by
  have ih:=gau_sum hs k (by omega) (fun j hj=>h j (by omega))
  have hd:∀j,j<k→facD a j≠0:=fun j hj=>h j (by omega)
  have e1:gauR a k i k=facS a k i:=by rw[ih i hi k (by omega),facS_div a hd]
  have e2:gauR a k k c=facS a k c:=by
   rw[ih k (by omega) c hc,facS_div a hd,hs k (by omega) c hc]
   congr 1
   exact sumN_congr fun j _=>by rw[Rat.mul_comm (facS a j k)]
  have e3:gauR a k k k=facD a k:=by rw[ih k (by omega) k (by omega)];exact(facS_div a hd).symm
  show gauR a k i c-gauR a k i k*(gauR a k k c/gauR a k k k)=a i c-(sumN k _+facS a k i*facS a k c/facD a k)
  rw[ih i hi c hc,e1,e2,e3,Rat.div_def,Rat.div_def]
  grind
theorem facS_gau {a:Mx}{n k i:Nat}(hs:∀i,i<n→∀k,k<n→a i k=a k i)(hk:k<n)(h:∀j,j<k→facD a j≠0)(hi:i<n):facS a k i=gauR a k i k:=by
 rw[gau_sum hs k (by omega) h i hi k hk,facS_div a h]
theorem facS_gau' {a:Mx}{n k i:Nat}(hs:∀i,i<n→∀k,k<n→a i k=a k i)(hk:k<n)(h:∀j,j<k→facD a j≠0)(hi:i<n):facS a k i=gauR a k k i:=by
 rw[gau_sum hs k (by omega) h k hk i hi,facS_div a h,hs k hk i hi]
 congr 1
 exact sumN_congr fun j _=>by rw[Rat.mul_comm (facS a j k)]
theorem gau_row {a:Mx}{n b:Nat}(hs:∀i,i<n→∀k,k<n→a i k=a k i)(hb:∀i,i<n→RowF b n (a i)):∀k,k≤n→(∀j,j<k→facD a j≠0)→∀i,i<n→RowF (bnd b k) n (gauR a k i)
 |0,_,_,i,hi=>hb i hi
 |k+1,hk,h,i,hi=>by
  have ih:=gau_row hs hb k (by omega) (fun j hj=>h j (by omega))
  have hne:gauR a k k k≠0:=by rw[←facS_gau hs (by omega) (fun j hj=>h j (by omega)) (by omega)];exact h k (by omega)
  exact(ih i hi).sub ((ih k (by omega)).div (by omega) hne) (by omega)
theorem facS_qn {a:Mx}{n b k i:Nat}(hs:∀i,i<n→∀k,k<n→a i k=a k i)(hb:∀i,i<n→RowF b n (a i))(hk:k<n)(h:∀j,j<k→facD a j≠0)(hi:i<n):Qn (bnd b k) (bnd b k) (facS a k i):=by
 rw[facS_gau hs hk h hi]
 exact(gau_row hs hb k (by omega) h i hi).qn hk
theorem facL_qn {a:Mx}{n b k i:Nat}(hs:∀i,i<n→∀k,k<n→a i k=a k i)(hb:∀i,i<n→RowF b n (a i))(hk:k<i)(h:∀j,j<k+1→facD a j≠0)(hi:i<n):Qn (bnd b k) (bnd b k) (facL a i k):=by
 have hd:∀j,j<k→facD a j≠0:=fun j hj=>h j (by omega)
 have e:facL a i k=gauR a k k i/gauR a k k k:=by
  show(if k<i then facS a k i/facD a k else if i=k then 1 else 0)=_
  have eD:facD a k=gauR a k k k:=facS_gau hs (by omega) hd (by omega)
  rw[if_pos hk,eD,facS_gau' hs (by omega) hd hi]
 have hne:gauR a k k k≠0:=by rw[←facS_gau hs (by omega) hd (by omega)];exact h k (by omega)
 rw[e]
 exact((gau_row hs hb k (by omega) hd k (by omega)).div (by omega) hne).qn hi
/-- the size of a sum of t numbers of sizes p -/
def sumB (p:Nat→Nat):Nat→Nat
 |0=>0
 |t+1=>sumB p t+p t+1
theorem sum_qn {p:Nat→Nat}{f:Nat→Rat}:∀t,(∀j,j<t→Qn (p j) (p j) (f j))→Qn (sumB p t) (sumB p t) (sumN t f)
 |0,_=>Qn.zero _ _
 |t+1,h=>by
  refine((sum_qn t (fun j hj=>h j (by omega))).add (h t (by omega))).mono ?_ ?_
  ·show max (sumB p t+p t) (p t+sumB p t)+1≤sumB p t+p t+1
   rw[Nat.max_def]
   split<;>omega
  ·show sumB p t+p t≤sumB p t+p t+1
   omega
/-- the sizes that a factorisation needs -/
def FacFine (n:Nat)(a:Mx):Prop:=∀i,i<n→∀k,k≤i→(∀j,j<k→facD a j≠0)→(∀j,j<k→Bd 8192 (facL a i j)∧Bd 8192 (facL a k j)∧Bd 8192 (facL a i j*facL a k j)∧Bd 8192 (facD a j)∧Bd 8192 (facL a i j*facL a k j*facD a j))∧(∀t,t≤k→Bd 8192 (sumN t (fun j=>facL a i j*facL a k j*facD a j)))∧Bd 8192 (facS a k i)∧(k<i→facD a k≠0→Bd 8192 (facL a i k))
theorem bnd_le (b:Nat){r:Nat}(h:r<3):bnd b r≤4*b+3:=by
 have h1:bnd b 1=2*b+1:=rfl
 have h2:bnd b 2=2*(2*b+1)+1:=rfl
 have:r=0∨r=1∨r=2:=by omega
 rcases this with rfl|rfl|rfl
 ·show b≤_
  omega
 ·omega
 ·omega
theorem fac_fine {a:Mx}{n b:Nat}(hn:n≤4)(hs:∀i,i<n→∀k,k<n→a i k=a k i)(hb:∀i,i<n→RowF b n (a i))(h9:b≤300):FacFine n a:=by
 intro i hi k hk hd
 have hL:∀i',k≤i'→i'<n→∀j,j<k→Qn (bnd b j) (bnd b j) (facL a i' j):=fun i' h1 h2 j hj=>facL_qn hs hb (by omega) (fun j' hj'=>hd j' (by omega)) h2
 have hD:∀j,j<k→Qn (bnd b j) (bnd b j) (facD a j):=fun j hj=>facS_qn hs hb (by omega) (fun j' hj'=>hd j' (by omega)) (by omega)
 have hP:∀j,j<k→Qn (3*bnd b j) (3*bnd b j) (facL a i j*facL a k j*facD a j):=fun j hj=>(((hL i hk hi j hj).mul (hL k (Nat.le_refl k) (by omega) j hj)).mul (hD j hj)).mono (by omega) (by omega)
 have hbj:∀j,j<k→bnd b j≤1203:=fun j hj=>by have:=bnd_le b (r:=j) (by omega);omega
 refine⟨fun j hj=>⟨(hL i hk hi j hj).bd' (by have:=hbj j hj;omega) (by have:=hbj j hj;omega),(hL k (Nat.le_refl k) (by omega) j hj).bd' (by have:=hbj j hj;omega) (by have:=hbj j hj;omega),((hL i hk hi j hj).mul (hL k (Nat.le_refl k) (by omega) j hj)).bd' (by have:=hbj j hj;omega) (by have:=hbj j hj;omega),(hD j hj).bd' (by have:=hbj j hj;omega) (by have:=hbj j hj;omega),(hP j hj).bd' (by have:=hbj j hj;omega) (by have:=hbj j hj;omega)⟩,fun t ht=>?_,?_,fun h1 h2=>?_⟩
 ·have h:=sum_qn (p:=fun j=>3*bnd b j) t (fun j hj=>hP j (by omega))
  have h0:bnd b 0=b:=rfl
  have h1:bnd b 1=2*b+1:=rfl
  have h2:bnd b 2=2*(2*b+1)+1:=rfl
  have hs3:sumB (fun j=>3*bnd b j) t<8192:=by
   have:t=0∨t=1∨t=2∨t=3:=by omega
   rcases this with rfl|rfl|rfl|rfl
   ·show 0<8192
    omega
   ·show 0+3*bnd b 0+1<8192
    omega
   ·show 0+3*bnd b 0+1+3*bnd b 1+1<8192
    omega
   ·show 0+3*bnd b 0+1+3*bnd b 1+1+3*bnd b 2+1<8192
    omega
  exact h.bd' hs3 hs3
 ·have hk3:bnd b k≤2407:=by
   have h3:bnd b 3=2*(2*(2*b+1)+1)+1:=rfl
   have:=bnd_mono b (r:=k) (r':=3) (by omega)
   omega
  exact(facS_qn hs hb (by omega) hd hi).bd' (by omega) (by omega)
 ·have:=bnd_le b (r:=k) (by omega)
  exact(facL_qn hs hb h1 (fun j hj=>by
   rcases Nat.lt_succ_iff_lt_or_eq.1 hj with hj|rfl
   ·exact hd j hj
   ·exact h2) hi).bd' (by omega) (by omega)
theorem facS_walk {a:Mx}{k i:Nat}(hk:k≤i):facS a k i=a i k-sumN k (fun j=>facL a i j*facL a k j*facD a j):=by
 rw[facS_eq]
 congr 1
 refine sumN_congr fun j hj=>?_
 show _=(if j<i then facS a j i/facD a j else if i=j then 1 else 0)*(if j<k then facS a j k/facD a j else if k=j then 1 else 0)*facD a j
 rw[if_pos (by omega),if_pos hj]
 rfl
end Go.Proofs.YthhbbnfnejjpiaaGreatDoor.MX
namespace Go.Proofs.YthhbbnfnejjpiaaGreatDoor.MX
open Go
open NL
/-- the sizes of the factors and of their products -/
structure FacSz (n:Nat)(a:Mx):Prop where
 l:∀i,i<n→∀k,k<n→Bd 8192 (facL a i k)
 d:∀k,k<n→Bd 8192 (facD a k)
 ld:∀i,i<n→∀k,k<n→Bd 8192 (facL a i k*facD a k)
 ldl:∀i,i<n→∀k,k<n→∀t,t<n→Bd 8192 (facL a i t*facD a t*facL a k t)
 lds:∀i,i<n→∀k,k<n→∀t,t≤n→Bd 8192 (sumN t (fun j=>facL a i j*facD a j*facL a k j))
 pr:∀t,t≤n→Bd 8192 (prodN t (facD a))
theorem facL_or {a:Mx}{i k:Nat}(h:¬ k<i):facL a i k=0∨facL a i k=1:=by
 show(if k<i then facS a k i/facD a k else if i=k then 1 else 0)=0∨(if k<i then facS a k i/facD a k else if i=k then 1 else 0)=1
 rw[if_neg h]
 by_cases h2:i=k
 ·rw[if_pos h2];exact .inr rfl
 ·rw[if_neg h2];exact .inl rfl
theorem qn_or {x:Rat}(h:x=0∨x=1)(n q:Nat):Qn n q x:=by
 rcases h with rfl|rfl
 ·exact Qn.zero _ _
 ·exact Qn.one _ _
theorem fac_sz {a:Mx}{n b:Nat}(hn:n≤4)(hs:∀i,i<n→∀k,k<n→a i k=a k i)(hb:∀i,i<n→RowF b n (a i))(h9:b≤276)(hd:∀j,j<n→facD a j≠0):FacSz n a:=by
 have hB:∀k,k<4→bnd b k≤2215:=fun k hk=>by
  have h3:bnd b 3=2*(2*(2*b+1)+1)+1:=rfl
  have:=bnd_mono b (r:=k) (r':=3) (by omega)
  omega
 have hB2:∀k,k<3→bnd b k≤1107:=fun k hk=>by have:=bnd_le b hk;omega
 have hL:∀i,i<n→∀k,k<n→Qn (bnd b k) (bnd b k) (facL a i k):=fun i hi k hk=>by
  by_cases h:k<i
  ·exact facL_qn hs hb h (fun j hj=>hd j (by omega)) hi
  ·exact qn_or (facL_or h) _ _
 have hD:∀k,k<n→Qn (bnd b k) (bnd b k) (facD a k):=fun k hk=>facS_qn hs hb hk (fun j hj=>hd j (by omega)) hk
 have hLD:∀i,i<n→∀k,k<n→Qn (bnd b k) (bnd b k) (facL a i k*facD a k):=fun i hi k hk=>by
  by_cases h:k<i
  ·have e:facL a i k*facD a k=facS a k i:=by
    show(if k<i then facS a k i/facD a k else _)*facD a k=_
    rw[if_pos h,Rat.div_def,Rat.mul_assoc,Rat.inv_mul_cancel _ (hd k hk),Rat.mul_one]
   rw[e]
   exact facS_qn hs hb hk (fun j hj=>hd j (by omega)) hi
  ·rcases facL_or (a:=a) h with e|e
   ·rw[e,Rat.zero_mul];exact Qn.zero _ _
   ·rw[e,Rat.one_mul];exact hD k hk
 have hLDL:∀i,i<n→∀k,k<n→∀t,t<n→Qn (if t<3 then 2*bnd b t else bnd b t) (if t<3 then 2*bnd b t else bnd b t) (facL a i t*facD a t*facL a k t):=fun i hi k hk t ht=>by
  by_cases h3:t<3
  ·rw[if_pos h3]
   exact((hLD i hi t ht).mul (hL k hk t ht)).mono (by omega) (by omega)
  ·rw[if_neg h3]
   rcases facL_or (a:=a) (i:=k) (k:=t) (by omega) with e|e
   ·rw[e,Rat.mul_zero];exact Qn.zero _ _
   ·rw[e,Rat.mul_one];exact hLD i hi t ht
 have h0:bnd b 0=b:=rfl
 have h1:bnd b 1=2*b+1:=rfl
 have h2:bnd b 2=2*(2*b+1)+1:=rfl
 have h3:bnd b 3=2*(2*(2*b+1)+1)+1:=rfl
 refine⟨fun i hi k hk=>(hL i hi k hk).bd' (by have:=hB k (by omega);omega) (by have:=hB k (by omega);omega),fun k hk=>(hD k hk).bd' (by have:=hB k (by omega);omega) (by have:=hB k (by omega);omega),fun i hi k hk=>(hLD i hi k hk).bd' (by have:=hB k (by omega);omega) (by have:=hB k (by omega);omega),fun i hi k hk t ht=>?_,fun i hi k hk t ht=>?_,fun t ht=>?_⟩
 ·have h:=hLDL i hi k hk t ht
  by_cases h3:t<3
  ·rw[if_pos h3] at h
   exact h.bd' (by have:=hB2 t h3;omega) (by have:=hB2 t h3;omega)
  ·rw[if_neg h3] at h
   exact h.bd' (by have:=hB t (by omega);omega) (by have:=hB t (by omega);omega)
 ·have h:=sum_qn (p:=fun t=>if t<3 then 2*bnd b t else bnd b t) t (fun j hj=>hLDL i hi k hk j (by omega))
  have hs3:sumB (fun t=>if t<3 then 2*bnd b t else bnd b t) t<8192:=by
   have:t=0∨t=1∨t=2∨t=3∨t=4:=by omega
   rcases this with rfl|rfl|rfl|rfl|rfl
   ·show 0<8192
    omega
   ·show 0+2*bnd b 0+1<8192
    omega
   ·show 0+2*bnd b 0+1+2*bnd b 1+1<8192
    omega
   ·show 0+2*bnd b 0+1+2*bnd b 1+1+2*bnd b 2+1<8192
    omega
   ·show 0+2*bnd b 0+1+2*bnd b 1+1+2*bnd b 2+1+bnd b 3+1<8192
    omega
  exact h.bd' hs3 hs3
 ·have hq:∀t,t≤n→Qn (sumB (bnd b) t) (sumB (bnd b) t) (prodN t (facD a)):=by
   intro t
   induction t with
   |zero=>intro _;exact Qn.one _ _
   |succ t ih=>
    intro ht
    exact((ih (by omega)).mul (hD t (by omega))).mono (by show _≤sumB (bnd b) t+bnd b t+1;omega) (by show _≤sumB (bnd b) t+bnd b t+1;omega)
  have hs3:sumB (bnd b) t<8192:=by
   have:t=0∨t=1∨t=2∨t=3∨t=4:=by omega
   rcases this with rfl|rfl|rfl|rfl|rfl
   ·show 0<8192
    omega
   ·show 0+bnd b 0+1<8192
    omega
   ·show 0+bnd b 0+1+bnd b 1+1<8192
    omega
   ·show 0+bnd b 0+1+bnd b 1+1+bnd b 2+1<8192
    omega
   ·show 0+bnd b 0+1+bnd b 1+1+bnd b 2+1+bnd b 3+1<8192
    omega
  exact(hq t ht).bd' hs3 hs3
end Go.Proofs.YthhbbnfnejjpiaaGreatDoor.MX
