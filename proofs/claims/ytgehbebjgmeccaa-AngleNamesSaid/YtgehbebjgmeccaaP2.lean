/- Plain facts. No conditions. -/
import Derived.Test.YtgehbebjgmeccaaP1
set_option linter.unusedVariables false
set_option linter.unusedSimpArgs false
namespace Go.Proofs.Ytgehbebjgmeccaa.Fx
open Go Go.RowKit
/-- divided, rounded half up -/
def hup (p k : Int) : Int := (2 * p + k) / (2 * k)
/-- with a sign, saturated -/
def sgV (neg : Bool) (m : Int) : Int := if neg then (if 9223372036854775807 < m then -9223372036854775808 else -m) else (if 9223372036854775807 < m then 9223372036854775807 else m)
theorem two_split (k : Int) (hk : 0 < k) (x : Int) : (2 * x + 2 * k) / (2 * (2 * k)) = x / (2 * k) + x / k % 2 := by
  have e1 : (2 * x + 2 * k) / (2 * (2 * k)) = (x + k) / (2 * k) := by
    rw [show 2 * x + 2 * k = 2 * (x + k) by omega, Int.mul_ediv_mul_of_pos _ _ (by omega)]
  have e2 : (x + k) / (2 * k) = (x + k) / k / 2 := by rw [Int.mul_comm 2 k]; exact (Int.ediv_ediv_of_nonneg (by omega)).symm
  have e3 : (x + k) / k = x / k + 1 := by
    have := Int.add_mul_ediv_right x 1 (show k ≠ 0 by omega)
    simpa using this
  have e4 : x / (2 * k) = x / k / 2 := by rw [Int.mul_comm 2 k]; exact (Int.ediv_ediv_of_nonneg (by omega)).symm
  rw [e1, e2, e3, e4]
  omega
theorem pow_succ' (n : Nat) : (2 : Int) ^ (n + 1) = 2 * 2 ^ n := by rw [Int.pow_succ]; omega
theorem pow_pos' (n : Nat) : 0 < (2 : Int) ^ n := Int.pow_pos (by omega)
theorem hup_pow (x : Int) (n : Nat) : hup x (2 ^ (n + 1)) = x / 2 ^ (n + 1) + x / 2 ^ n % 2 := by
  unfold hup
  rw [pow_succ']
  exact two_split _ (pow_pos' n) x
/-- the words of a number of 128 bits, shifted -/
theorem shr_hi (h l : Int) (hl : U64 l) (n : Nat) : (h * 18446744073709551616 + l) / 2 ^ (n + 64) = h / 2 ^ n := by
  unfold U64 at hl
  have e : (2 : Int) ^ (n + 64) = 18446744073709551616 * 2 ^ n := by rw [Int.pow_add, Int.mul_comm]; rfl
  rw [e, ← Int.ediv_ediv_of_nonneg (by omega), show (h * 18446744073709551616 + l) / 18446744073709551616 = h by omega]
theorem shr_lo (h l : Int) (hh : U64 h) (hl : U64 l) (n : Nat) (hn : n ≤ 64) :
    0 ≤ l / 2 ^ n ∧ l / 2 ^ n < 2 ^ (64 - n) ∧ U64 (h * 2 ^ (64 - n) % 18446744073709551616) ∧ h * 2 ^ (64 - n) % 18446744073709551616 % 2 ^ (64 - n) = 0 ∧
    h / 2 ^ n * 18446744073709551616 + (h * 2 ^ (64 - n) % 18446744073709551616 + l / 2 ^ n) = (h * 18446744073709551616 + l) / 2 ^ n ∧ U64 (h * 2 ^ (64 - n) % 18446744073709551616 + l / 2 ^ n) := by
  unfold U64 at *
  have hb : (2 : Int) ^ n * 2 ^ (64 - n) = 18446744073709551616 := by rw [← Int.pow_add, show n + (64 - n) = 64 by omega]; rfl
  have p1 := pow_pos' n
  have p2 := pow_pos' (64 - n)
  generalize (2 : Int) ^ n = a at *
  generalize (2 : Int) ^ (64 - n) = b at *
  have q0 : 0 ≤ l / a := Int.ediv_nonneg hl.1 (by omega)
  have q1 : l / a < b := Int.ediv_lt_of_lt_mul p1 (by rw [Int.mul_comm, hb]; exact hl.2)
  have r : h = a * (h / a) + h % a := (Int.mul_ediv_add_emod h a).symm
  have r0 := Int.emod_nonneg h (show a ≠ 0 by omega)
  have r1 := Int.emod_lt_of_pos h p1
  have e1 : h * b % 18446744073709551616 = h % a * b := by
    have d : h * b = h % a * b + (a * b) * (h / a) := by
      have : h * b = (a * (h / a) + h % a) * b := by rw [← r]
      rw [this]; grind
    have e2 : h % a * b ≤ (a - 1) * b := Int.mul_le_mul_of_nonneg_right (by omega) (by omega)
    have e4 : 0 ≤ h % a * b := Int.mul_nonneg r0 (by omega)
    have e3 : (a - 1) * b = a * b - b := by rw [Int.sub_mul]; omega
    rw [← hb, d, Int.add_mul_emod_self_left, Int.emod_eq_of_lt e4 (by omega)]
  have e2 : h % a * b ≤ (a - 1) * b := Int.mul_le_mul_of_nonneg_right (by omega) (by omega)
  have e3 : (a - 1) * b = 18446744073709551616 - b := by rw [Int.sub_mul, hb]; omega
  have e4 : 0 ≤ h % a * b := Int.mul_nonneg r0 (by omega)
  rw [e1]
  refine ⟨q0, q1, by omega, Int.mul_emod_left _ _, ?_, by omega⟩
  have e5 : h * 18446744073709551616 + l = a * (h / a * 18446744073709551616 + h % a * b) + l := by
    have : h * 18446744073709551616 = (a * (h / a) + h % a) * 18446744073709551616 := by rw [← r]
    rw [this, ← hb]; grind
  rw [e5, Int.add_comm (a * _) l, Int.add_mul_ediv_left _ _ (by omega)]
  omega
theorem u64and1 (x : Int) (h : U64 x) : bits .and .u64 x 1 = x % 2 := by
  unfold U64 at h
  obtain ⟨n, rfl⟩ := Int.eq_ofNat_of_zero_le h.1
  show IntKind.u64.wrap ((BitVec.ofInt 64 (n : Int) &&& BitVec.ofInt 64 1).toNat : Nat) = _
  rw [IntKind.wrap_u64, BitVec.toNat_and, BitVec.ofInt_natCast, BitVec.toNat_ofNat, Nat.mod_eq_of_lt (show n < 2 ^ 64 by omega), show (BitVec.ofInt 64 1).toNat = 1 by decide, Nat.and_one_is_mod]
  omega
end Go.Proofs.Ytgehbebjgmeccaa.Fx
