/- Plain facts and contracts of functions of the program, out of walks. Their conditions stand ahead of each. -/
import Derived.Test.YthhbbnfnejjpiaaGreatDoorNm1
set_option linter.unusedVariables false
set_option linter.unusedSimpArgs false
set_option exponentiation.threshold 10000
namespace Go.Proofs.YthhbbnfnejjpiaaGreatDoor.NL
open Go
theorem frac_rn_le (s:Bool){n d:Nat}(hd:d≠0):rn (frac s n d)≤n:=by rw[frac_rn s hd];exact Nat.div_le_self _ _
theorem frac_den_le (s:Bool){n d:Nat}(hd:d≠0):(frac s n d).den≤d:=by rw[frac_den s hd];exact Nat.div_le_self _ _
/-- numerator and denominator have at most k bits -/
def Bd (k:Nat)(x:Rat):Prop:=rn x<2^k∧x.den<2^k
theorem Bd.mono {k j:Nat}{x:Rat}(h:Bd k x)(hk:k≤j):Bd j x:=
 ⟨Nat.lt_of_lt_of_le h.1 (Nat.pow_le_pow_right (by decide) hk),Nat.lt_of_lt_of_le h.2 (Nat.pow_le_pow_right (by decide) hk)⟩
theorem Bd.frac (s:Bool){n d k:Nat}(hd:d≠0)(h1:n<2^k)(h2:d<2^k):Bd k (frac s n d):=
 ⟨Nat.lt_of_le_of_lt (frac_rn_le s hd) h1,Nat.lt_of_le_of_lt (frac_den_le s hd) h2⟩
theorem rn_neg (x:Rat):rn (-x)=rn x:=by unfold rn;rw[Rat.neg_num,Int.natAbs_neg]
theorem Bd.neg {k:Nat}{x:Rat}(h:Bd k x):Bd k (-x):=⟨by rw[rn_neg];exact h.1,by rw[Rat.neg_den];exact h.2⟩
/-- the sign -/
def sgz (x:Rat):Int:=if rneg x=true then -1 else if rn x≠0 then 1 else 0
theorem rneg_iff (x:Rat):rneg x=true↔x<0:=by
 unfold rneg;rw[decide_eq_true_iff,←Rat.not_le,←Rat.num_nonneg];omega
theorem sgz_cases (x:Rat):(x<0∧sgz x= -1∧rneg x=true∧rn x≠0)∨(x=0∧sgz x=0∧rneg x=false∧rn x=0)∨(0<x∧sgz x=1∧rneg x=false∧rn x≠0):=by
 unfold sgz
 by_cases h:rneg x=true
 ·exact .inl ⟨(rneg_iff x).1 h,by rw[if_pos h],h,rneg_ne h⟩
 ·have hn:¬ x<0:=fun hx=>h ((rneg_iff x).2 hx)
  by_cases h0:rn x=0
  ·exact .inr (.inl ⟨(rn_zero_iff x).1 h0,by rw[if_neg h,if_neg (by omega)],by simpa using h,h0⟩)
  ·have:x≠0:=fun hx=>h0 ((rn_zero_iff x).2 hx)
   refine .inr (.inr ⟨?_,by rw[if_neg h,if_pos h0],by simpa using h,h0⟩)
   have:=Rat.not_lt.1 hn
   grind
theorem sgz_neg (x:Rat):sgz (-x)= -sgz x:=by
 rcases sgz_cases x with⟨h,e,_⟩|⟨h,e,_⟩|⟨h,e,_⟩<;>rcases sgz_cases (-x) with⟨h',e',_⟩|⟨h',e',_⟩|⟨h',e',_⟩<;>rw[e,e']<;>first|rfl|(exfalso;grind)
theorem rneg_neg (x:Rat):rneg (-x)=(!rneg x&&decide (rn x≠0)):=by
 rcases sgz_cases x with⟨h,_,r,z⟩|⟨h,_,r,z⟩|⟨h,_,r,z⟩<;>rcases sgz_cases (-x) with⟨h',_,r',_⟩|⟨h',_,r',_⟩|⟨h',_,r',_⟩<;>rw[r,r']<;>first|(exfalso;grind)|simp[z]
end Go.Proofs.YthhbbnfnejjpiaaGreatDoor.NL
