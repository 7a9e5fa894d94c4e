/- Plain facts and contracts of functions of the program, out of walks. Their conditions stand ahead of each. -/
import Derived.Laws.Bits128
set_option linter.unusedVariables false
set_option linter.unusedSimpArgs false
namespace Go.Proofs.Ytcaaecmbbbdopaa.K
open Go
theorem and_mask (k : Nat) (hk : k < 63) (m : Int) (hm : m = (2 : Int) ^ k - 1) (n : Int) : bits .and .i64 n m = n % (m + 1) := by
  subst hm
  have e1 : ((2 : Int) ^ k - 1) = ((2 ^ k - 1 : Nat) : Int) := by
    have : 1 ≤ 2 ^ k := Nat.one_le_two_pow
    rw [Int.natCast_sub this, Int.natCast_pow]; rfl
  have lt : 2 ^ k ≤ 2 ^ 62 := Nat.pow_le_pow_right (by omega) (by omega)
  have hmk : (BitVec.ofInt 64 ((2 : Int) ^ k - 1)).toNat = 2 ^ k - 1 := by
    rw [e1, BitVec.ofInt_natCast, BitVec.toNat_ofNat]
    exact Nat.mod_eq_of_lt (by omega)
  have key : (BitVec.ofInt 64 n &&& BitVec.ofInt 64 ((2 : Int) ^ k - 1)).toNat = (n % ((2 ^ 64 : Nat) : Int)).toNat % 2 ^ k := by
    rw [BitVec.toNat_and, BitVec.toNat_ofInt, hmk, Nat.and_two_pow_sub_one_eq_mod]
  show IntKind.i64.wrap ((BitVec.ofInt 64 n &&& BitVec.ofInt 64 ((2 : Int) ^ k - 1)).toNat : Nat) = _
  rw [key, IntKind.wrap_i64]
  have hd : (2 ^ k : Nat) ∣ 2 ^ 64 := Nat.pow_dvd_pow 2 (by omega)
  have e2 : (((n % ((2 ^ 64 : Nat) : Int)).toNat % 2 ^ k : Nat) : Int) = n % (2 : Int) ^ k := by
    rw [Int.natCast_emod, Int.toNat_of_nonneg (Int.emod_nonneg _ (by simp)), Int.natCast_pow]
    rw [Int.emod_emod_of_dvd]
    · rfl
    · exact_mod_cast hd
  rw [e2]
  have b0 : 0 ≤ n % (2 : Int) ^ k := Int.emod_nonneg _ (by have := Int.pow_pos (n := 2) (m := k) (by omega); omega)
  have b1 : n % (2 : Int) ^ k < (2 : Int) ^ k := Int.emod_lt_of_pos _ (Int.pow_pos (by omega))
  have b2 : ((2 : Int) ^ k) ≤ 4611686018427387904 := by
    have := (Int.ofNat_le.2 lt); simpa using this
  rw [show (2 : Int) ^ k - 1 + 1 = (2 : Int) ^ k from by omega]
  generalize n % (2 : Int) ^ k = z at *
  omega
theorem and63 (n : Int) : bits .and .i64 n 63 = n % 64 := and_mask 6 (by omega) 63 (by decide) n
theorem and3 (n : Int) : bits .and .i64 n 3 = n % 4 := and_mask 2 (by omega) 3 (by decide) n
theorem and4095 (n : Int) : bits .and .i64 n 4095 = n % 4096 := and_mask 12 (by omega) 4095 (by decide) n
theorem and2047 (n : Int) : bits .and .i64 n 2047 = n % 2048 := and_mask 11 (by omega) 2047 (by decide) n
end Go.Proofs.Ytcaaecmbbbdopaa.K
