/- Plain facts and contracts of functions of the program, out of walks. Their conditions stand ahead of each. -/
import Derived.Test.YtfifcpgjcgoinaaQ22
set_option linter.unusedVariables false
set_option linter.unusedSimpArgs false
namespace Go.Proofs.Ytfifcpgjcgoinaa.NL
open Go
/-- k bits are still to be looked at: the rest R, the divisor shifted D, the quotient so far Q -/
structure Qb (a b k R Q : Nat) : Prop where
  eq : R + b * Q = a
  lt : R < b * 2 ^ k
  dvd : Q % 2 ^ k = 0
theorem Qb.start {a b n : Nat} (hb : b ≠ 0) (hn : nb a = nb b + n) : Qb a b (n + 1) a 0 := by
  refine ⟨by omega, ?_, Nat.zero_mod _⟩
  have h1 := nb_lt a
  have h2 := nb_ge hb
  have h3 := nb_pos hb
  rw [hn] at h1
  have e : 2 ^ (nb b + n) = 2 ^ (nb b - 1) * 2 ^ (n + 1) := by rw [← Nat.pow_add]; congr 1; omega
  rw [e] at h1
  exact Nat.lt_of_lt_of_le h1 (Nat.mul_le_mul_right _ h2)
theorem Qb.keep {a b k R Q : Nat} (h : Qb a b (k + 1) R Q) (hlt : R < b * 2 ^ k) : Qb a b k R Q := by
  refine ⟨h.eq, hlt, ?_⟩
  have := h.dvd
  rw [Nat.pow_succ] at this
  have e := Nat.mod_mul_right_mod Q (2 ^ k) 2
  rw [this, Nat.zero_mod] at e
  exact e.symm
theorem Qb.sub {a b k R Q : Nat} (h : Qb a b (k + 1) R Q) (hge : b * 2 ^ k ≤ R) : Qb a b k (R - b * 2 ^ k) (Q + 2 ^ k) := by
  have h1 := h.eq
  have h2 := h.lt
  rw [Nat.pow_succ, ← Nat.mul_assoc] at h2
  refine ⟨?_, by omega, ?_⟩
  · rw [Nat.mul_add]; omega
  · have := h.dvd
    rw [Nat.pow_succ] at this
    have e := Nat.mod_mul_right_mod Q (2 ^ k) 2
    rw [this, Nat.zero_mod] at e
    rw [Nat.add_mod_right]
    exact e.symm
theorem Qb.stop {a b R Q : Nat} (h : Qb a b 0 R Q) : Q = a / b ∧ R = a % b := by
  have h1 := h.eq
  have h2 := h.lt
  rw [Nat.pow_zero, Nat.mul_one] at h2
  have hb : 0 < b := by omega
  constructor
  · rw [← h1, Nat.add_mul_div_left _ _ hb, Nat.div_eq_of_lt h2, Nat.zero_add]
  · rw [← h1, Nat.add_mul_mod_self_left, Nat.mod_eq_of_lt h2]
/-- a bit that is set -/
theorem bit_set {q : List Nat} {k : Nat} (ho : Ok q) (hj : k / 32 < q.length) (hd : val q % 2 ^ (k + 1) = 0) :
    (q.getD (k / 32) 0) % 2 ^ (k % 32 + 1) = 0 ∧ q.getD (k / 32) 0 + 2 ^ (k % 32) < 4294967296 ∧ val (q.set (k / 32) (q.getD (k / 32) 0 + 2 ^ (k % 32))) = val q + 2 ^ k := by
  have hg := getD_val q ho (k / 32)
  obtain ⟨j, hj'⟩ : ∃ j, k / 32 = j := ⟨_, rfl⟩
  obtain ⟨r, hr⟩ : ∃ r, k % 32 = r := ⟨_, rfl⟩
  rw [hj'] at hg hj ⊢
  rw [hr]
  have hk : k = 32 * j + r := by omega
  have hr32 : r < 32 := by omega
  obtain ⟨t, ht⟩ : ∃ t, val q = 2 ^ (k + 1) * t := ⟨val q / 2 ^ (k + 1), by have := Nat.div_add_mod (val q) (2 ^ (k + 1)); omega⟩
  have hq : val q / 4294967296 ^ j = 2 ^ (r + 1) * t := by
    rw [ht, pow32, hk, show 32 * j + r + 1 = 32 * j + (r + 1) by omega, Nat.pow_add, Nat.mul_assoc, Nat.mul_div_cancel_left _ (Nat.two_pow_pos _)]
  have hB : (4294967296 : Nat) = 2 ^ (r + 1) * 2 ^ (31 - r) := by
    rw [← Nat.pow_add, show r + 1 + (31 - r) = 32 by omega]
  have h1 : q.getD j 0 = 2 ^ (r + 1) * (t % 2 ^ (31 - r)) := by
    rw [hg, hq]
    conv => lhs; rw [hB]
    rw [Nat.mul_mod_mul_left]
  have h2 := Nat.mod_lt t (Nat.two_pow_pos (31 - r))
  have h3 : 2 ^ (r + 1) * (t % 2 ^ (31 - r)) + 2 ^ (r + 1) ≤ 4294967296 := by
    have := Nat.mul_le_mul_left (2 ^ (r + 1)) (Nat.succ_le_of_lt h2)
    rw [Nat.mul_succ, ← hB] at this
    exact this
  have h4 : 2 ^ (r + 1) = 2 * 2 ^ r := by rw [Nat.pow_succ, Nat.mul_comm]
  have h5 := Nat.two_pow_pos r
  refine ⟨by rw [h1, Nat.mul_mod_right], by rw [h1]; omega, ?_⟩
  have hv := val_set' hj (q.getD j 0 + 2 ^ r)
  rw [Nat.mul_add] at hv
  have h6 : 4294967296 ^ j * 2 ^ r = 2 ^ k := by rw [pow32, ← Nat.pow_add, hk]
  rw [h6] at hv
  omega
end Go.Proofs.Ytfifcpgjcgoinaa.NL
