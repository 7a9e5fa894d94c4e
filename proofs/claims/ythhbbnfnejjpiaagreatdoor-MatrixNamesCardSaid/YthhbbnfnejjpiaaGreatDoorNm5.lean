/- Plain facts and contracts of functions of the program, out of walks. Their conditions stand ahead of each. -/
import Derived.Test.YthhbbnfnejjpiaaGreatDoorNm3
import Derived.Test.YthhbbnfnejjpiaaGreatDoorNm4
set_option linter.unusedVariables false
set_option linter.unusedSimpArgs false
namespace Go.Proofs.YthhbbnfnejjpiaaGreatDoor.MX
open Go
open NL
def sumN:Nat→(Nat→Rat)→Rat
 |0,_=>0
 |n+1,f=>sumN n f+f n
theorem sumN_congr {f g:Nat→Rat}:∀ {n:Nat},(∀i,i<n→f i=g i)→sumN n f=sumN n g
 |0,_=>rfl
 |n+1,h=>by
  show sumN n f+f n=sumN n g+g n
  rw[sumN_congr (fun i hi=>h i (Nat.lt_succ_of_lt hi)),h n (Nat.lt_succ_self n)]
theorem sumN_add (n:Nat)(f g:Nat→Rat):sumN n (fun i=>f i+g i)=sumN n f+sumN n g:=by
 induction n with
 |zero=>show(0:Rat)=0+0;grind
 |succ n ih=>show sumN n _+(f n+g n)=(sumN n f+f n)+(sumN n g+g n);rw[ih];grind
theorem sumN_zero (n:Nat):sumN n (fun _=>0)=0:=by
 induction n with
 |zero=>rfl
 |succ n ih=>show sumN n _+0=0;rw[ih];grind
theorem sumN_mul (n:Nat)(c:Rat)(f:Nat→Rat):sumN n (fun i=>c*f i)=c*sumN n f:=by
 induction n with
 |zero=>show(0:Rat)=c*0;grind
 |succ n ih=>show sumN n _+c*f n=c*(sumN n f+f n);rw[ih];grind
theorem sumN_mulr (n:Nat)(c:Rat)(f:Nat→Rat):sumN n (fun i=>f i*c)=sumN n f*c:=by
 rw[Rat.mul_comm,←sumN_mul]
 exact sumN_congr fun i _=>Rat.mul_comm _ _
theorem sumN_swap (n m:Nat)(f:Nat→Nat→Rat):sumN n (fun i=>sumN m (fun j=>f i j))=sumN m (fun j=>sumN n (fun i=>f i j)):=by
 induction n with
 |zero=>show(0:Rat)=sumN m (fun _=>0);rw[sumN_zero]
 |succ n ih=>
  show sumN n _+sumN m (fun j=>f n j)=sumN m (fun j=>sumN n (fun i=>f i j)+f n j)
  rw[ih,sumN_add]
theorem sumN_one {n:Nat}(k:Nat)(f:Nat→Rat)(h:∀i,i<n→i≠k→f i=0):sumN n f=if k<n then f k else 0:=by
 induction n with
 |zero=>rfl
 |succ n ih=>
  show sumN n f+f n=_
  rw[ih (fun i hi hk=>h i (Nat.lt_succ_of_lt hi) hk)]
  by_cases e:k=n
  ·subst e
   rw[if_neg (Nat.lt_irrefl _),if_pos (Nat.lt_succ_self _)];grind
  ·rw[h n (Nat.lt_succ_self n) (fun e'=>e e'.symm)]
   by_cases hk:k<n
   ·rw[if_pos hk,if_pos (by omega)];grind
   ·rw[if_neg hk,if_neg (by omega)];grind
/-- matrices: entries by row and column -/
abbrev Mx:=Nat→Nat→Rat
def mulM (m:Nat)(a b:Mx):Mx:=fun i k=>sumN m (fun j=>a i j*b j k)
def addM (a b:Mx):Mx:=fun i k=>a i k+b i k
def trM (a:Mx):Mx:=fun i k=>a k i
def oneM:Mx:=fun i k=>if i=k then 1 else 0
/-- x = N / D with D at most 2^q and N at most 2^n -/
def Qn (n q:Nat)(x:Rat):Prop:=∃(D:Nat) (N:Int),0<D∧D≤2^q∧N.natAbs≤2^n∧x*(D:Rat)=(N:Rat)
theorem Qn.mono {n q n' q':Nat}{x:Rat}(h:Qn n q x)(hn:n≤n')(hq:q≤q'):Qn n' q' x:=by
 obtain⟨D,N,h0,h1,h2,h3⟩:=h
 exact⟨D,N,h0,Nat.le_trans h1 (Nat.pow_le_pow_right (by decide) hq),Nat.le_trans h2 (Nat.pow_le_pow_right (by decide) hn),h3⟩
theorem Qn.bd {n q:Nat}{x:Rat}(h:Qn n q x):Bd (max n q+1) x:=by
 obtain⟨D,N,h0,h1,h2,h3⟩:=h
 exact bd_of h0 h3 h2 h1
theorem Qn.bd' {n q k:Nat}{x:Rat}(h:Qn n q x)(hn:n<k)(hq:q<k):Bd k x:=by
 have:=h.bd
 exact this.mono (by omega)
theorem Bd.qn {k:Nat}{x:Rat}(h:Bd k x):Qn k k x:=
 ⟨x.den,x.num,Nat.pos_of_ne_zero x.den_nz,Nat.le_of_lt h.2,Nat.le_of_lt h.1,num_den x⟩
theorem Qn.zero (n q:Nat):Qn n q 0:=⟨1,0,by decide,Nat.one_le_two_pow,Nat.zero_le _,by grind⟩
theorem Qn.one (n q:Nat):Qn n q 1:=⟨1,1,by decide,Nat.one_le_two_pow,Nat.one_le_two_pow,by grind⟩
theorem Qn.neg {n q:Nat}{x:Rat}(h:Qn n q x):Qn n q (-x):=by
 obtain⟨D,N,h0,h1,h2,h3⟩:=h
 exact⟨D,-N,h0,h1,by rw[Int.natAbs_neg];exact h2,by rw[Rat.neg_mul,h3,Rat.intCast_neg]⟩
theorem Qn.mul {n q n' q':Nat}{x y:Rat}(h:Qn n q x)(k:Qn n' q' y):Qn (n+n') (q+q') (x*y):=by
 obtain⟨D,N,h0,h1,h2,h3⟩:=h
 obtain⟨E,M,k0,k1,k2,k3⟩:=k
 refine⟨D*E,N*M,Nat.mul_pos h0 k0,mul_pow_le h1 k1,?_,?_⟩
 ·rw[Int.natAbs_mul];exact mul_pow_le h2 k2
 ·rw[Rat.natCast_mul,Rat.intCast_mul,←h3,←k3];grind
theorem Qn.add {n q n' q':Nat}{x y:Rat}(h:Qn n q x)(k:Qn n' q' y):Qn (max (n+q') (n'+q)+1) (q+q') (x+y):=by
 obtain⟨D,N,h0,h1,h2,h3⟩:=h
 obtain⟨E,M,k0,k1,k2,k3⟩:=k
 refine⟨D*E,N*E+M*D,Nat.mul_pos h0 k0,mul_pow_le h1 k1,?_,?_⟩
 ·have a1:(N*(E:Int)).natAbs≤2^max (n+q') (n'+q):=by
   rw[Int.natAbs_mul,Int.natAbs_natCast]
   exact Nat.le_trans (mul_pow_le h2 k1) (Nat.pow_le_pow_right (by decide) (Nat.le_max_left _ _))
  have a2:(M*(D:Int)).natAbs≤2^max (n+q') (n'+q):=by
   rw[Int.natAbs_mul,Int.natAbs_natCast]
   exact Nat.le_trans (mul_pow_le k2 h1) (Nat.pow_le_pow_right (by decide) (Nat.le_max_right _ _))
  have:=Int.natAbs_add_le (N*(E:Int)) (M*(D:Int))
  rw[Nat.pow_succ];omega
 ·rw[Rat.natCast_mul,Rat.intCast_add,Rat.intCast_mul,Rat.intCast_mul,←h3,←k3,Rat.intCast_natCast,Rat.intCast_natCast];grind
/-- partial sums of products -/
theorem qn_sum {k l:Nat}{f:Nat→Rat}:∀ {m:Nat},(∀j,j<m→Qn k l (f j))→Qn (m*(k+l)+m) (m*l) (sumN m f)
 |0,_=>Qn.zero _ _
 |m+1,h=>by
  refine Qn.mono ((qn_sum (fun j hj=>h j (Nat.lt_succ_of_lt hj))).add (h m (Nat.lt_succ_self m))) ?_ ?_
  ·have:(m+1)*(k+l)=m*(k+l)+(k+l):=Nat.succ_mul _ _
   have:m*(k+l)=m*k+m*l:=Nat.mul_add _ _ _
   rw[Nat.max_def];split<;>omega
  ·have:(m+1)*l=m*l+l:=Nat.succ_mul _ _
   omega
def swapR (x:Mx)(p q:Nat):Mx:=fun i=>if i=p then x q else if i=q then x p else x i
def divR (x:Mx)(t:Nat)(v:Rat):Mx:=fun i k=>if i=t then x i k/v else x i k
def takeR (x:Mx)(t c:Nat):Mx:=fun i k=>if i=t then x i k else x i k-x i c*x t k
/-- the first row from `at` on that is not 0 in column c -/
def findP (x:Mx)(n c:Nat)(a:Nat):Option Nat:=(List.range' a (n-a)).find? (fun p=>decide (x p c≠0))
theorem findP_some {x:Mx}{n c a p:Nat}(h:findP x n c a=some p):a≤p∧p<n∧x p c≠0∧∀q,a≤q→q<p→x q c=0:=by
  unfold findP at h
  rw[List.find?_eq_some_iff_append] at h
  obtain⟨h1,as,bs,h2,h3⟩:=h
  have hl:as.length<n-a:=by
    have:=congrArg List.length h2
    simp at this;omega
  have hg:∀i,i<n-a→(as++p::bs)[i]?=some (a+i):=by
    intro i hi
    rw[←h2,List.getElem?_range' hi];simp
  have hp:=hg as.length hl
  rw[List.getElem?_append_right (Nat.le_refl _)] at hp
  simp at hp
  refine⟨by omega,by omega,by simpa using h1,fun q hq hqp=>?_⟩
  have hq2:=hg (q-a) (by omega)
  rw[List.getElem?_append_left (by omega)] at hq2
  have:=h3 q (by
    have:=List.mem_of_getElem? hq2
    rwa[show a+(q-a)=q by omega] at this)
  simpa using this
theorem findP_none {x:Mx}{n c a:Nat}(h:findP x n c a=none):∀q,a≤q→q<n→x q c=0:=by
  unfold findP at h
  rw[List.find?_eq_none] at h
  intro q h1 h2
  have:=h q (by rw[List.mem_range'_1];omega)
  simpa using this
theorem findP_none_of {x:Mx}{n c a:Nat}(h:∀q,a≤q→q<n→x q c=0):findP x n c a=none:=by
  cases e:findP x n c a with
  |none=>rfl
  |some p=>
    obtain⟨h1,h2,h3,_⟩:=findP_some e
    exact absurd (h p h1 h2) h3
theorem findP_some_of {x:Mx}{n c a p:Nat}(h1:a≤p)(h2:p<n)(h3:x p c≠0)(h4:∀q,a≤q→q<p→x q c=0):findP x n c a=some p:=by
  cases e:findP x n c a with
  |none=>exact absurd (findP_none e p h1 h2) h3
  |some p'=>
    obtain⟨k1,k2,k3,k4⟩:=findP_some e
    rcases Nat.lt_trichotomy p p' with h|h|h
    · exact absurd (k4 p h1 h) h3
    · rw[h]
    · exact absurd (h4 p' k1 h) k3
/-- an elimination: the rows, the product of the pivots, the number of pivots -/
structure El where
  x:Mx
  det:Rat
  rk:Nat
/-- what a pivot at row p, column c does to the rows -/
def pivR (x:Mx)(t p c:Nat):Mx:=takeR (divR (swapR x t p) t (x p c)) t c
def stepE (n c:Nat)(s:El):El:=match findP s.x n c s.rk with
  |none=>s
  |some p=>⟨pivR s.x s.rk p c,(if p=s.rk then s.det else -s.det)*s.x p c,s.rk+1⟩
def runE (n:Nat)(s:El):Nat→El
  |0=>s
  |c+1=>stepE n c (runE n s c)
def startE (a:Mx):El:=⟨a,1,0⟩
/-- The rows of y are combinations of the first n rows of x. -/
def Span (n:Nat)(x y:Mx):Prop:=∀i,i<n→∃T:Nat→Rat,∀k,y i k=sumN n (fun j=>T j*x j k)
theorem Span.mat {n:Nat}{x y:Mx}(h:Span n x y):∃T:Mx,∀i,i<n→∀k,y i k=mulM n T x i k:=by
  refine⟨fun i=>if hi:i<n then(h i hi).choose else fun _=>0,fun i hi k=>?_⟩
  unfold mulM
  simp only[dif_pos hi]
  exact(h i hi).choose_spec k
theorem Span.row {n:Nat}{x y:Mx}{i:Nat}(h:∃(u:Rat) (j:Nat),j<n∧∀k,y i k=u*x j k):∃T:Nat→Rat,∀k,y i k=sumN n (fun j=>T j*x j k):=by
  obtain⟨u,j,hj,hk⟩:=h
  refine⟨fun l=>if l=j then u else 0,fun k=>?_⟩
  rw[sumN_one j _ (fun l _ hl=>by show(if l=j then u else 0)*_=0;rw[if_neg hl];grind),if_pos hj]
  show _=(if j=j then u else 0)*x j k
  rw[if_pos rfl]
  exact hk k
theorem Span.refl (n:Nat)(x:Mx):Span n x x:=fun i hi=>Span.row ⟨1,i,hi,fun k=>by grind⟩
theorem Span.trans {n : Nat} {x y z : Mx} (h : Span n x y) (k : Span n y z) : Span n x z := by
  obtain⟨T,hT⟩:=h.mat
  intro i hi
  obtain⟨S,hS⟩:=k i hi
  refine⟨fun j=>sumN n (fun j'=>S j'*T j' j),fun l=>?_⟩
  rw[hS l]
  calc sumN n (fun j=>S j*y j l)=sumN n (fun j=>sumN n (fun j'=>S j*T j j'*x j' l)):=sumN_congr fun j hj=>by
        rw[hT j hj l]
        unfold mulM
        rw[←sumN_mul]
        exact sumN_congr fun j' _=>(Rat.mul_assoc _ _ _).symm
    _=sumN n (fun j'=>sumN n (fun j=>S j*T j j'*x j' l)):=sumN_swap _ _ _
    _=_:=sumN_congr fun j' _=>sumN_mulr n _ _
theorem Span.two {n:Nat}{x y:Mx}(h:∀i,i<n→∃(u v:Rat) (j j':Nat),j<n∧j'<n∧∀k,y i k=u*x j k+v*x j' k):Span n x y:=by
  intro i hi
  obtain⟨u,v,j,j',hj,hj',hk⟩:=h i hi
  obtain⟨T,hT⟩:=Span.row (n:=n) (x:=x) (y:=fun _ k=>u*x j k) (i:=0) ⟨u,j,hj,fun k=>rfl⟩
  obtain⟨S,hS⟩:=Span.row (n:=n) (x:=x) (y:=fun _ k=>v*x j' k) (i:=0) ⟨v,j',hj',fun k=>rfl⟩
  refine⟨fun l=>T l+S l,fun k=>?_⟩
  rw[hk k,hT k,hS k,←sumN_add]
  exact sumN_congr fun l _=>by grind
theorem span_swap {n p q:Nat}(x:Mx)(hp:p<n)(hq:q<n):Span n x (swapR x p q):=by
  intro i hi
  refine Span.row ?_
  unfold swapR
  by_cases h:i=p
  · exact⟨1,q,hq,fun k=>by rw[if_pos h];grind⟩
  · by_cases h2:i=q
    · exact⟨1,p,hp,fun k=>by rw[if_neg h,if_pos h2];grind⟩
    · exact⟨1,i,hi,fun k=>by rw[if_neg h,if_neg h2];grind⟩
theorem span_div {n:Nat}(x:Mx)(t:Nat)(v:Rat):Span n x (divR x t v):=by
  intro i hi
  refine Span.row ?_
  unfold divR
  by_cases h:i=t
  · exact⟨v⁻¹,i,hi,fun k=>by rw[if_pos h,Rat.div_def];grind⟩
  · exact⟨1,i,hi,fun k=>by rw[if_neg h];grind⟩
theorem span_take {n:Nat}(x:Mx){t:Nat}(c:Nat)(ht:t<n):Span n x (takeR x t c):=by
  refine Span.two fun i hi=>?_
  unfold takeR
  by_cases h:i=t
  · exact⟨1,0,i,t,hi,ht,fun k=>by rw[if_pos h];grind⟩
  · exact⟨1,-x i c,i,t,hi,ht,fun k=>by rw[if_neg h];grind⟩
theorem span_piv {n t p:Nat}(x:Mx)(c:Nat)(ht:t<n)(hp:p<n):Span n x (pivR x t p c):=
  ((span_swap x ht hp).trans (span_div _ t _)).trans (span_take _ c ht)
theorem span_step {n:Nat}(c:Nat)(s:El):Span n s.x (stepE n c s).x:=by
  unfold stepE
  split
  · exact Span.refl _ _
  · next p h=>
    obtain⟨h1,h2,_,_⟩:=findP_some h
    exact span_piv _ _ (by omega) h2
theorem span_run {n:Nat}(s:El):∀c,Span n s.x (runE n s c).x
  |0=>Span.refl _ _
  |c+1=>(span_run s c).trans (span_step c _)
theorem rdiv_self {v:Rat}(h:v≠0):v/v=1:=by rw[Rat.div_def,Rat.mul_inv_cancel v h]
theorem swapR_self (x:Mx)(t:Nat):swapR x t t=x:=by
  funext i
  unfold swapR
  split
  · next h=>rw[h]
  · rfl
theorem pivR_at {x:Mx}{t p c:Nat}(k:Nat):pivR x t p c t k=x p k/x p c:=by
  unfold pivR takeR divR swapR
  simp only[if_true]
theorem pivR_ne {x:Mx}{t p c i:Nat}(h:i≠t)(k:Nat):pivR x t p c i k=swapR x t p i k-swapR x t p i c*(x p k/x p c):=by
  unfold pivR takeR divR swapR
  simp only[if_neg h,if_true]
/-- The shape after c columns: pivots in the columns pv 0 < pv 1 < .., nothing else in these columns, nothing in the columns before in the rows behind. -/
structure Shape (n c:Nat)(s:El)(pv:Nat→Nat):Prop where
  rk:s.rk≤n
  lt:∀j,j<s.rk→pv j<c
  mono:∀j,j+1<s.rk→pv j<pv (j+1)
  one:∀j,j<s.rk→∀i,i<n→s.x i (pv j)=if i=j then 1 else 0
  low:∀i,s.rk≤i→i<n→∀k,k<c→s.x i k=0
theorem shape_start (n:Nat)(a:Mx):Shape n 0 (startE a) (fun _=>0):=
  ⟨Nat.zero_le _,fun j h=>absurd h (Nat.not_lt_zero _),fun j h=>absurd h (Nat.not_lt_zero _),fun j h=>absurd h (Nat.not_lt_zero _),fun i _ _ k h=>absurd h (Nat.not_lt_zero _)⟩
theorem shape_step {n c : Nat} {s : El} {pv : Nat → Nat} (h : Shape n c s pv) : ∃ pv', Shape n (c + 1) (stepE n c s) pv' := by
  unfold stepE
  split
  · next hn=>
    have h0:=findP_none hn
    exact⟨pv,h.rk,fun j hj=>Nat.lt_succ_of_lt (h.lt j hj),h.mono,h.one,fun i h1 h2 k hk=>by
      rcases Nat.lt_succ_iff_lt_or_eq.1 hk with hk|rfl
      · exact h.low i h1 h2 k hk
      · exact h0 i h1 h2⟩
  · next p hp=>
    obtain⟨h1,h2,h3,h4⟩:=findP_some hp
    obtain⟨x,det,r⟩:=s
    simp only at h1 h2 h3 h4 hp ⊢
    have hr:r<n:=by omega
    have hlt:=h.lt;have hmono:=h.mono;have hone:=h.one;have hlow:=h.low
    simp only at hlt hmono hone hlow
    refine⟨fun j=>if j=r then c else pv j,by show r+1≤n;omega,fun j hj=>?_,fun j hj=>?_,fun j hj i hi=>?_,fun i hi1 hi2 k hk=>?_⟩
    · show(if j=r then c else pv j)<c+1
      split
      · omega
      · exact Nat.lt_succ_of_lt (hlt j (by simp only at hj;omega))
    · show(if j=r then c else pv j)<(if j+1=r then c else pv (j+1))
      simp only at hj
      rw[if_neg (by omega)]
      split
      · exact hlt j (by omega)
      · exact hmono j (by omega)
    · show pivR x r p c i (if j=r then c else pv j)=if i=j then 1 else 0
      simp only at hj
      by_cases hjr:j=r
      · rw[if_pos hjr]
        by_cases hir:i=r
        · rw[hir,pivR_at,rdiv_self h3,if_pos (by omega)]
        · rw[pivR_ne hir,rdiv_self h3,if_neg (by omega)];grind
      · rw[if_neg hjr]
        have hj2:j<r:=by omega
        have hp0:x p (pv j)=0:=by rw[hone j hj2 p h2,if_neg (by omega)]
        by_cases hir:i=r
        · rw[hir,pivR_at,hp0,if_neg (by omega),Rat.div_def];grind
        · rw[pivR_ne hir,hp0]
          have e:swapR x r p i (pv j)=if i=j then 1 else 0:=by
            unfold swapR
            rw[if_neg hir]
            split
            · next hip=>rw[hone j hj2 r hr,if_neg (by omega),if_neg (by omega)]
            · exact hone j hj2 i hi
          rw[e,Rat.div_def];grind
    · show pivR x r p c i k=0
      simp only at hi1
      rw[pivR_ne (by omega)]
      rcases Nat.lt_succ_iff_lt_or_eq.1 hk with hk|rfl
      · have e:∀i,r≤i→i<n→x i k=0:=fun i a b=>hlow i a b k hk
        rw[e p (by omega) h2,Rat.div_def]
        have:swapR x r p i k=0:=by
          unfold swapR
          rw[if_neg (by omega)]
          split
          · exact e r (by omega) hr
          · exact e i (by omega) hi2
        rw[this];grind
      · rw[rdiv_self h3];grind
theorem shape_run (n:Nat)(a:Mx):∀c,∃pv,Shape n c (runE n (startE a) c) pv
  |0=>⟨_,shape_start n a⟩
  |c+1=>by
    obtain⟨pv,h⟩:=shape_run n a c
    exact shape_step h
def d4 (x:Mx):Rat:=x 0 0*x 1 1*x 2 2*x 3 3-x 0 0*x 1 1*x 2 3*x 3 2-x 0 0*x 1 2*x 2 1*x 3 3+x 0 0*x 1 2*x 2 3*x 3 1+x 0 0*x 1 3*x 2 1*x 3 2-x 0 0*x 1 3*x 2 2*x 3 1-x 0 1*x 1 0*x 2 2*x 3 3+x 0 1*x 1 0*x 2 3*x 3 2+x 0 1*x 1 2*x 2 0*x 3 3-x 0 1*x 1 2*x 2 3*x 3 0-x 0 1*x 1 3*x 2 0*x 3 2+x 0 1*x 1 3*x 2 2*x 3 0+x 0 2*x 1 0*x 2 1*x 3 3-x 0 2*x 1 0*x 2 3*x 3 1-x 0 2*x 1 1*x 2 0*x 3 3+x 0 2*x 1 1*x 2 3*x 3 0+x 0 2*x 1 3*x 2 0*x 3 1-x 0 2*x 1 3*x 2 1*x 3 0-x 0 3*x 1 0*x 2 1*x 3 2+x 0 3*x 1 0*x 2 2*x 3 1+x 0 3*x 1 1*x 2 0*x 3 2-x 0 3*x 1 1*x 2 2*x 3 0-x 0 3*x 1 2*x 2 0*x 3 1+x 0 3*x 1 2*x 2 1*x 3 0
/-- what Det returns -/
def detV (n:Nat)(a:Mx):Rat:=if(runE n (startE a) n).rk<n then 0 else(runE n (startE a) n).det
/-- the first m entries of a row over one denominator, of at most b bits -/
def RowF (b m:Nat)(r:Nat→Rat):Prop:=RowQ b b ((List.range m).map r)
theorem RowF.mono {b b' m:Nat}{r:Nat→Rat}(h:RowF b m r)(hb:b≤b'):RowF b' m r:=RowQ.mono h hb hb
theorem mem_row {m k:Nat}(r:Nat→Rat)(h:k<m):r k∈(List.range m).map r:=List.mem_map.2 ⟨k,List.mem_range.2 h,rfl⟩
theorem RowF.bd {b m k:Nat}{r:Nat→Rat}(h:RowF b m r)(hk:k<m):Bd (b+1) (r k):=by
 have:=RowQ.bd h (mem_row r hk)
 rwa[Nat.max_self] at this
theorem RowF.bdk {b m k B:Nat}{r:Nat→Rat}(h:RowF b m r)(hk:k<m)(hB:b+1≤B):Bd B (r k):=(h.bd hk).mono hB
theorem RowF.qn {b m k:Nat}{r:Nat→Rat}(h:RowF b m r)(hk:k<m):Qn b b (r k):=by
 obtain⟨D,h0,h1,h2⟩:=h
 obtain⟨N,h3,h4⟩:=h2 _ (mem_row r hk)
 exact⟨D,N,h0,h1,h3,h4⟩
theorem RowF.bd_mul {b m k l:Nat}{r s:Nat→Rat}(h:RowF b m r)(h':RowF b m s)(hk:k<m)(hl:l<m):Bd (2*b+1) (r k*s l):=by
 have:=((h.qn hk).mul (h'.qn hl)).bd
 rw[Nat.max_self] at this
 rwa[show 2*b=b+b by omega]
theorem RowF.div {b m c:Nat}{r:Nat→Rat}(h:RowF b m r)(hc:c<m)(h0:r c≠0):RowF b m (fun k=>r k/r c):=by
 have:=RowQ.div h (mem_row r hc) h0
 rw[List.map_map] at this
 exact this
theorem RowF.sub {b m c:Nat}{r s:Nat→Rat}(h:RowF b m r)(k:RowF b m s)(hc:c<m):RowF (2*b+1) m (fun k=>r k-r c*s k):=by
 have:=RowQ.sub h k (mem_row r hc) (by simp)
 rw[List.zipWith_map,List.zipWith_self] at this
 exact RowQ.mono this (by omega) (by omega)
theorem RowF.congr {b m:Nat}{r s:Nat→Rat}(h:RowF b m r)(e:∀k,k<m→r k=s k):RowF b m s:=by
 unfold RowF at*
 rwa[List.map_congr_left (fun k hk=>e k (List.mem_range.1 hk))] at h
/-- the numbers after some steps -/
structure Fit (n m b:Nat)(s:El):Prop where
 row:∀i,i<n→RowF b m (s.x i)
 det:Qn b b s.det
theorem fit_step {n m b c:Nat}{s:El}(h:Fit n m b s)(hc:c<m):Fit n m (2*b+1) (stepE n c s):=by
 unfold stepE
 split
 ·exact⟨fun i hi=>(h.row i hi).mono (by omega),h.det.mono (by omega) (by omega)⟩
 ·next p hp=>
  obtain⟨h1,h2,h3,h4⟩:=findP_some hp
  refine⟨fun i hi=>?_,?_⟩
  ·show RowF _ m (pivR s.x s.rk p c i)
   have hd:=(h.row p h2).div hc h3
   by_cases e:i=s.rk
   ·subst e
    exact(hd.mono (by omega)).congr fun k _=>(pivR_at k).symm
   ·have hs:RowF b m (swapR s.x s.rk p i):=by
     unfold swapR
     rw[if_neg e]
     split
     ·exact h.row _ (by omega)
     ·exact h.row i hi
    exact(hs.sub hd hc).congr fun k _=>(pivR_ne e k).symm
  ·have hq:=(h.row p h2).qn hc
   have hd:Qn b b (if p=s.rk then s.det else -s.det):=by
    split
    ·exact h.det
    ·exact h.det.neg
   exact(hd.mul hq).mono (by omega) (by omega)
def bnd (b:Nat):Nat→Nat
 |0=>b
 |c+1=>2*bnd b c+1
theorem fit_run {n m b:Nat}{s:El}(h:Fit n m b s):∀c,c≤m→Fit n m (bnd b c) (runE n s c)
 |0,_=>h
 |c+1,hc=>fit_step (fit_run h c (by omega)) (by omega)
/-- by the number of pivots: the rows grow only where there is one -/
theorem fit_step_rk {n m b c:Nat}{s:El}(h:Fit n m (bnd b s.rk) s)(hc:c<m):Fit n m (bnd b (stepE n c s).rk) (stepE n c s):=by
 have:=fit_step (n:=n) h hc
 cases e:findP s.x n c s.rk with
 |none=>
  have e2:stepE n c s=s:=by unfold stepE;rw[e]
  rw[e2];exact h
 |some p=>
  have e2:(stepE n c s).rk=s.rk+1:=by unfold stepE;rw[e]
  rw[e2];exact this
theorem fit_run_rk {n m b:Nat}{s:El}(h:Fit n m (bnd b s.rk) s):∀c,c≤m→Fit n m (bnd b (runE n s c).rk) (runE n s c)
 |0,_=>h
 |c+1,hc=>fit_step_rk (fit_run_rk h c (by omega)) (by omega)
theorem bnd_mono (b:Nat){r r':Nat}(h:r≤r'):bnd b r≤bnd b r':=by
 induction h with
 |refl=>exact Nat.le_refl _
 |step _ ih=>show _≤2*bnd b _+1;omega
theorem rowF_init {k m b:Nat}{r:Nat→Rat}(h:∀j,j<m→Bd k (r j))(hb:k*m≤b):RowF b m r:=by
 have:=RowQ.init (k:=k) (r:=(List.range m).map r) (fun x hx=>by
  obtain⟨j,hj,rfl⟩:=List.mem_map.1 hx
  exact h j (List.mem_range.1 hj))
 rw[List.length_map,List.length_range] at this
 exact RowQ.mono this hb hb
/-- rows of a with the rows of b behind, from column n on -/
def wideM (n:Nat)(a b:Mx):Mx:=fun i k=>if k<n then a i k else b i (k-n)
def moreM (n:Nat)(x:Mx):Mx:=fun i k=>x i (n+k)
theorem wide_lo {n:Nat}(a b:Mx)(i:Nat){k:Nat}(h:k<n):wideM n a b i k=a i k:=if_pos h
theorem wide_hi {n:Nat}(a b:Mx)(i k:Nat):wideM n a b i (n+k)=b i k:=by
 unfold wideM
 rw[if_neg (by omega),Nat.add_sub_cancel_left]
/-- Two eliminations that agree in their first m columns take the same steps there. -/
structure Agree (n m:Nat)(s t:El):Prop where
 x:∀i,i<n→∀k,k<m→s.x i k=t.x i k
 det:s.det=t.det
 rk:s.rk=t.rk
theorem findP_congr {x y:Mx}{n c a:Nat}(h:∀i,i<n→x i c=y i c):findP x n c a=findP y n c a:=by
 cases e:findP y n c a with
 |none=>exact findP_none_of fun q h1 h2=>by rw[h q h2];exact findP_none e q h1 h2
 |some p=>
  obtain⟨h1,h2,h3,h4⟩:=findP_some e
  exact findP_some_of h1 h2 (by rw[h p h2];exact h3) (fun q a b=>by rw[h q (by omega)];exact h4 q a b)
theorem agree_step {n m c:Nat}{s t:El}(h:Agree n m s t)(hc:c<m):Agree n m (stepE n c s) (stepE n c t):=by
 have e:=findP_congr (a:=s.rk) (fun i hi=>h.x i hi c hc)
 unfold stepE
 rw[←h.rk,←e]
 cases hp:findP s.x n c s.rk with
 |none=>exact h
 |some p=>
  obtain⟨h1,h2,h3,h4⟩:=findP_some hp
  have hr:s.rk<n:=by omega
  refine⟨fun i hi k hk=>?_,?_,?_⟩
  ·show pivR s.x s.rk p c i k=pivR t.x s.rk p c i k
   by_cases e:i=s.rk
   ·subst e
    rw[pivR_at,pivR_at,h.x p h2 k hk,h.x p h2 c hc]
   ·rw[pivR_ne e,pivR_ne e,h.x p h2 k hk,h.x p h2 c hc]
    have es:∀l,l<m→swapR s.x s.rk p i l=swapR t.x s.rk p i l:=by
     intro l hl
     unfold swapR
     rw[if_neg e,if_neg e]
     split
     ·exact h.x _ hr l hl
     ·exact h.x i hi l hl
    rw[es k hk,es c hc]
  ·show(if p=s.rk then s.det else -s.det)*s.x p c=(if p=s.rk then t.det else -t.det)*t.x p c
   rw[h.det,h.x p h2 c hc]
  ·rfl
theorem agree_run {n m:Nat}{s t:El}(h:Agree n m s t):∀c,c≤m→Agree n m (runE n s c) (runE n t c)
 |0,_=>h
 |c+1,hc=>agree_step (agree_run h c (by omega)) (by omega)
theorem agree_wide (n:Nat)(a b:Mx):Agree n n (startE (wideM n a b)) (startE a):=
 ⟨fun i _ k hk=>wide_lo a b i hk,rfl,rfl⟩
/-- what stands behind when the matrix has become the identity -/
def behindM (n:Nat)(a b:Mx):Mx:=moreM n (runE n (startE (wideM n a b)) n).x
def rankM (n m:Nat)(a:Mx):Nat:=(runE n (startE a) m).rk
theorem rank_wide (n:Nat)(a b:Mx):(runE n (startE (wideM n a b)) n).rk=rankM n n a:=(agree_run (agree_wide n a b) n (Nat.le_refl _)).rk
theorem rank_le (n m:Nat)(a:Mx):rankM n m a≤n:=by
 obtain⟨pv,h⟩:=shape_run n a m
 exact h.rk
/-- what is left of entry i, k before it is divided -/
def facS (a:Mx)(k i:Nat):Rat:=a i k-sumN k (fun j=>if h:j<k then facS a j i/facS a j j*(facS a j k/facS a j j)*facS a j j else 0)
termination_by k
theorem facS_eq (a:Mx)(k i:Nat):facS a k i=a i k-sumN k (fun j=>facS a j i/facS a j j*(facS a j k/facS a j j)*facS a j j):=by
  rw[facS]
  congr 1
  exact sumN_congr fun j hj=>by rw[dif_pos hj]
def facD (a:Mx)(k:Nat):Rat:=facS a k k
def facL (a:Mx):Mx:=fun i k=>if k<i then facS a k i/facD a k else if i=k then 1 else 0
theorem facS_div (a:Mx){k i:Nat}(h:∀j,j<k→facD a j≠0):facS a k i=a i k-sumN k (fun j=>facS a j i*facS a j k/facD a j):=by
  rw[facS_eq]
  congr 1
  refine sumN_congr fun j hj=>?_
  have hv:facS a j j*(facS a j j)⁻¹=1:=Rat.mul_inv_cancel _ (h j hj)
  show facS a j i/facS a j j*(facS a j k/facS a j j)*facS a j j=facS a j i*facS a j k/facS a j j
  simp only[Rat.div_def]
  calc facS a j i*(facS a j j)⁻¹*(facS a j k*(facS a j j)⁻¹)*facS a j j=facS a j i*facS a j k*(facS a j j)⁻¹*(facS a j j*(facS a j j)⁻¹):=by grind
    _=_:=by rw[hv,Rat.mul_one]
/-- the quadratic form -/
def quadM (n:Nat)(a:Mx)(c:Nat→Rat):Rat:=sumN n (fun i=>c i*sumN n (fun k=>a i k*c k))
/-- elimination without exchanges, k columns of it -/
def gauR (a:Mx):Nat→Mx
 |0=>a
 |k+1=>fun i c=>gauR a k i c-gauR a k i k*(gauR a k k c/gauR a k k k)
theorem gau_sum {a:Mx}{n:Nat}(hs:∀i,i<n→∀k,k<n→a i k=a k i):∀k,k≤n→(∀j,j<k→facD a j≠0)→∀i,i<n→∀c,c<n→gauR a k i c=a i c-sumN k (fun j=>facS a j i*facS a j c/facD a j)
 |0,_,_,i,_,c,_=>by show a i c=a i c-0;grind
 |k+1,hk,h,i,hi,c,hc=>by
  have ih:=gau_sum hs k (by omega) (fun j hj=>h j (by omega))
  have hd:∀j,j<k→facD a j≠0:=fun j hj=>h j (by omega)
  have e1:gauR a k i k=facS a k i:=by rw[ih i hi k (by omega),facS_div a hd]
  have e2:gauR a k k c=facS a k c:=by
   rw[ih k (by omega) c hc,facS_div a hd,hs k (by omega) c hc]
   congr 1
   exact sumN_congr fun j _=>by rw[Rat.mul_comm (facS a j k)]
  have e3:gauR a k k k=facD a k:=by rw[ih k (by omega) k (by omega)];exact(facS_div a hd).symm
  show gauR a k i c-gauR a k i k*(gauR a k k c/gauR a k k k)=a i c-(sumN k _+facS a k i*facS a k c/facD a k)
  rw[ih i hi c hc,e1,e2,e3,Rat.div_def,Rat.div_def]
  grind
theorem facS_gau {a:Mx}{n k i:Nat}(hs:∀i,i<n→∀k,k<n→a i k=a k i)(hk:k<n)(h:∀j,j<k→facD a j≠0)(hi:i<n):facS a k i=gauR a k i k:=by
 rw[gau_sum hs k (by omega) h i hi k hk,facS_div a h]
theorem facS_gau' {a:Mx}{n k i:Nat}(hs:∀i,i<n→∀k,k<n→a i k=a k i)(hk:k<n)(h:∀j,j<k→facD a j≠0)(hi:i<n):facS a k i=gauR a k k i:=by
 rw[gau_sum hs k (by omega) h k hk i hi,facS_div a h,hs k hk i hi]
 congr 1
 exact sumN_congr fun j _=>by rw[Rat.mul_comm (facS a j k)]
theorem gau_row {a:Mx}{n b:Nat}(hs:∀i,i<n→∀k,k<n→a i k=a k i)(hb:∀i,i<n→RowF b n (a i)):∀k,k≤n→(∀j,j<k→facD a j≠0)→∀i,i<n→RowF (bnd b k) n (gauR a k i)
 |0,_,_,i,hi=>hb i hi
 |k+1,hk,h,i,hi=>by
  have ih:=gau_row hs hb k (by omega) (fun j hj=>h j (by omega))
  have hne:gauR a k k k≠0:=by rw[←facS_gau hs (by omega) (fun j hj=>h j (by omega)) (by omega)];exact h k (by omega)
  exact(ih i hi).sub ((ih k (by omega)).div (by omega) hne) (by omega)
theorem facS_qn {a:Mx}{n b k i:Nat}(hs:∀i,i<n→∀k,k<n→a i k=a k i)(hb:∀i,i<n→RowF b n (a i))(hk:k<n)(h:∀j,j<k→facD a j≠0)(hi:i<n):Qn (bnd b k) (bnd b k) (facS a k i):=by
 rw[facS_gau hs hk h hi]
 exact(gau_row hs hb k (by omega) h i hi).qn hk
theorem facL_qn {a:Mx}{n b k i:Nat}(hs:∀i,i<n→∀k,k<n→a i k=a k i)(hb:∀i,i<n→RowF b n (a i))(hk:k<i)(h:∀j,j<k+1→facD a j≠0)(hi:i<n):Qn (bnd b k) (bnd b k) (facL a i k):=by
 have hd:∀j,j<k→facD a j≠0:=fun j hj=>h j (by omega)
 have e:facL a i k=gauR a k k i/gauR a k k k:=by
  show(if k<i then facS a k i/facD a k else if i=k then 1 else 0)=_
  have eD:facD a k=gauR a k k k:=facS_gau hs (by omega) hd (by omega)
  rw[if_pos hk,eD,facS_gau' hs (by omega) hd hi]
 have hne:gauR a k k k≠0:=by rw[←facS_gau hs (by omega) hd (by omega)];exact h k (by omega)
 rw[e]
 exact((gau_row hs hb k (by omega) hd k (by omega)).div (by omega) hne).qn hi
/-- the size of a sum of t numbers of sizes p -/
def sumB (p:Nat→Nat):Nat→Nat
 |0=>0
 |t+1=>sumB p t+p t+1
theorem sum_qn {p:Nat→Nat}{f:Nat→Rat}:∀t,(∀j,j<t→Qn (p j) (p j) (f j))→Qn (sumB p t) (sumB p t) (sumN t f)
 |0,_=>Qn.zero _ _
 |t+1,h=>by
  refine((sum_qn t (fun j hj=>h j (by omega))).add (h t (by omega))).mono ?_ ?_
  ·show max (sumB p t+p t) (p t+sumB p t)+1≤sumB p t+p t+1
   rw[Nat.max_def]
   split<;>omega
  ·show sumB p t+p t≤sumB p t+p t+1
   omega
/-- the sizes that a factorisation needs -/
def FacFine (n:Nat)(a:Mx):Prop:=∀i,i<n→∀k,k≤i→(∀j,j<k→facD a j≠0)→(∀j,j<k→Bd 8192 (facL a i j)∧Bd 8192 (facL a k j)∧Bd 8192 (facL a i j*facL a k j)∧Bd 8192 (facD a j)∧Bd 8192 (facL a i j*facL a k j*facD a j))∧(∀t,t≤k→Bd 8192 (sumN t (fun j=>facL a i j*facL a k j*facD a j)))∧Bd 8192 (facS a k i)∧(k<i→facD a k≠0→Bd 8192 (facL a i k))
theorem bnd_le (b:Nat){r:Nat}(h:r<3):bnd b r≤4*b+3:=by
 have h1:bnd b 1=2*b+1:=rfl
 have h2:bnd b 2=2*(2*b+1)+1:=rfl
 have:r=0∨r=1∨r=2:=by omega
 rcases this with rfl|rfl|rfl
 ·show b≤_
  omega
 ·omega
 ·omega
theorem fac_fine {a:Mx}{n b:Nat}(hn:n≤4)(hs:∀i,i<n→∀k,k<n→a i k=a k i)(hb:∀i,i<n→RowF b n (a i))(h9:b≤300):FacFine n a:=by
 intro i hi k hk hd
 have hL:∀i',k≤i'→i'<n→∀j,j<k→Qn (bnd b j) (bnd b j) (facL a i' j):=fun i' h1 h2 j hj=>facL_qn hs hb (by omega) (fun j' hj'=>hd j' (by omega)) h2
 have hD:∀j,j<k→Qn (bnd b j) (bnd b j) (facD a j):=fun j hj=>facS_qn hs hb (by omega) (fun j' hj'=>hd j' (by omega)) (by omega)
 have hP:∀j,j<k→Qn (3*bnd b j) (3*bnd b j) (facL a i j*facL a k j*facD a j):=fun j hj=>(((hL i hk hi j hj).mul (hL k (Nat.le_refl k) (by omega) j hj)).mul (hD j hj)).mono (by omega) (by omega)
 have hbj:∀j,j<k→bnd b j≤1203:=fun j hj=>by have:=bnd_le b (r:=j) (by omega);omega
 refine⟨fun j hj=>⟨(hL i hk hi j hj).bd' (by have:=hbj j hj;omega) (by have:=hbj j hj;omega),(hL k (Nat.le_refl k) (by omega) j hj).bd' (by have:=hbj j hj;omega) (by have:=hbj j hj;omega),((hL i hk hi j hj).mul (hL k (Nat.le_refl k) (by omega) j hj)).bd' (by have:=hbj j hj;omega) (by have:=hbj j hj;omega),(hD j hj).bd' (by have:=hbj j hj;omega) (by have:=hbj j hj;omega),(hP j hj).bd' (by have:=hbj j hj;omega) (by have:=hbj j hj;omega)⟩,fun t ht=>?_,?_,fun h1 h2=>?_⟩
 ·have h:=sum_qn (p:=fun j=>3*bnd b j) t (fun j hj=>hP j (by omega))
  have h0:bnd b 0=b:=rfl
  have h1:bnd b 1=2*b+1:=rfl
  have h2:bnd b 2=2*(2*b+1)+1:=rfl
  have hs3:sumB (fun j=>3*bnd b j) t<8192:=by
   have:t=0∨t=1∨t=2∨t=3:=by omega
   rcases this with rfl|rfl|rfl|rfl
   ·show 0<8192
    omega
   ·show 0+3*bnd b 0+1<8192
    omega
   ·show 0+3*bnd b 0+1+3*bnd b 1+1<8192
    omega
   ·show 0+3*bnd b 0+1+3*bnd b 1+1+3*bnd b 2+1<8192
    omega
  exact h.bd' hs3 hs3
 ·have hk3:bnd b k≤2407:=by
   have h3:bnd b 3=2*(2*(2*b+1)+1)+1:=rfl
   have:=bnd_mono b (r:=k) (r':=3) (by omega)
   omega
  exact(facS_qn hs hb (by omega) hd hi).bd' (by omega) (by omega)
 ·have:=bnd_le b (r:=k) (by omega)
  exact(facL_qn hs hb h1 (fun j hj=>by
   rcases Nat.lt_succ_iff_lt_or_eq.1 hj with hj|rfl
   ·exact hd j hj
   ·exact h2) hi).bd' (by omega) (by omega)
theorem facS_walk {a:Mx}{k i:Nat}(hk:k≤i):facS a k i=a i k-sumN k (fun j=>facL a i j*facL a k j*facD a j):=by
 rw[facS_eq]
 congr 1
 refine sumN_congr fun j hj=>?_
 show _=(if j<i then facS a j i/facD a j else if i=j then 1 else 0)*(if j<k then facS a j k/facD a j else if k=j then 1 else 0)*facD a j
 rw[if_pos (by omega),if_pos hj]
 rfl
end Go.Proofs.YthhbbnfnejjpiaaGreatDoor.MX
