/- Plain facts and contracts of functions of the program, out of walks. Their conditions stand ahead of each. -/
import Derived.Test.YthhbbnfnejjpiaaGreatDoorNm2
import Derived.Test.YthhbbnfnejjpiaaGreatDoorNm3
set_option linter.unusedVariables false
set_option linter.unusedSimpArgs false
set_option exponentiation.threshold 100000
namespace Go.Proofs.YthhbbnfnejjpiaaGreatDoor.MX
open Go
open NL
theorem eq_mkRat {x:Rat}{D:Nat}{N:Int}(hD:0<D)(h:x*(D:Rat)=(N:Rat)):x=mkRat N D:=by
  rw[Rat.mkRat_eq_div]
  have hD':=natCast_ne hD
  rw[←h,Rat.div_def,Rat.mul_assoc,Rat.mul_inv_cancel _ hD',Rat.mul_one]
theorem bd_of {x:Rat}{D:Nat}{N:Int}{n q:Nat}(hD:0<D)(h:x*(D:Rat)=(N:Rat))(hn:N.natAbs≤2^n)(hq:D≤2^q):Bd (max n q+1) x:=by
  have e:x=frac (decide (N<0)) N.natAbs D:=by
    rw[eq_mkRat hD h]
    unfold frac
    congr 1
    by_cases k:N<0
    · rw[decide_eq_true k,if_pos rfl];omega
    · rw[decide_eq_false k,if_neg (by decide)];omega
  rw[e]
  have p:∀ {a b:Nat},a≤b→(2:Nat)^a<2^(b+1):=fun h=>Nat.pow_lt_pow_right (by decide) (by omega)
  exact Bd.frac _ (by omega) (Nat.lt_of_le_of_lt hn (p (by omega))) (Nat.lt_of_le_of_lt hq (p (by omega)))
theorem RowQ.bd {n q:Nat}{r:List Rat}(h:RowQ n q r){x:Rat}(hx:x∈r):Bd (max n q+1) x:=by
  obtain⟨D,h0,h1,h2⟩:=h
  obtain⟨N,a,b⟩:=h2 x hx
  exact bd_of h0 b a h1
theorem num_den (x:Rat):x*(x.den:Rat)=(x.num:Rat):=by
  have h:=Rat.mkRat_self x
  have hd:=natCast_ne (Nat.pos_of_ne_zero x.den_nz)
  rw[Rat.mkRat_eq_div] at h
  calc x*(x.den:Rat)=((x.num:Rat)/(x.den:Rat))*(x.den:Rat):=by rw[h]
    _=(x.num:Rat):=by rw[Rat.div_def,Rat.mul_assoc,Rat.inv_mul_cancel _ hd,Rat.mul_one]
theorem RowQ.init {k:Nat}:∀ {r:List Rat},(∀x∈r,Bd k x)→RowQ (k*r.length) (k*r.length) r
  |[],_=>⟨1,by decide,by simp,fun x hx=>by cases hx⟩
  | y :: r, h => by
    obtain⟨D,h0,h1,h2⟩:=RowQ.init (r:=r) (fun x hx=>h x (List.mem_cons_of_mem _ hx))
    obtain⟨b1,b2⟩:=h y (List.mem_cons_self ..)
    unfold rn at b1
    have ek:k*(y::r).length=k+k*r.length:=by rw[List.length_cons,Nat.mul_add,Nat.mul_one,Nat.add_comm]
    rw[ek]
    refine⟨y.den*D,Nat.mul_pos (Nat.pos_of_ne_zero y.den_nz) h0,mul_pow_le (by omega) h1,fun x hx=>?_⟩
    rcases List.mem_cons.1 hx with rfl|hx
    · refine⟨x.num*D,?_,?_⟩
      · rw[Int.natAbs_mul,Int.natAbs_natCast];exact mul_pow_le (by omega) h1
      · rw[Rat.natCast_mul,Rat.intCast_mul,Rat.intCast_natCast,←num_den x];grind
    · obtain⟨N,a,b⟩:=h2 x hx
      refine⟨N*y.den,?_,?_⟩
      · rw[Int.natAbs_mul,Int.natAbs_natCast,Nat.mul_comm];exact mul_pow_le (by omega) a
      · rw[Rat.natCast_mul,Rat.intCast_mul,Rat.intCast_natCast,←b];grind
end Go.Proofs.YthhbbnfnejjpiaaGreatDoor.MX
