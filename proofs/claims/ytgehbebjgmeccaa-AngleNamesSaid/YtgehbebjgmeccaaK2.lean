/- Signs and sums of words. No conditions. -/
import Derived.WalkKit
set_option linter.unusedVariables false
set_option linter.unusedSimpArgs false
namespace Go.Proofs.Ytgehbebjgmeccaa.K
open Go Go.RowKit
theorem wrap_bv (x : BitVec 64) : IntKind.i64.wrap (x.toNat : Int) = x.toInt := by
  rw [IntKind.wrap_i64, BitVec.toInt_eq_toNat_cond]
  have := x.isLt
  split <;> omega
theorem ofInt_neg (x : Int) (h0 : -9223372036854775808 ≤ x) (h1 : x ≤ 9223372036854775807) : (BitVec.ofInt 64 x).msb = decide (x < 0) := by
  rw [BitVec.msb_eq_toInt, BitVec.toInt_ofInt, Int.bmod_def]
  congr 1
  apply propext
  split <;> omega
theorem i64xor_neg (x y : Int) (h0 : -9223372036854775808 ≤ x ∧ x ≤ 9223372036854775807) (h1 : -9223372036854775808 ≤ y ∧ y ≤ 9223372036854775807) :
    (bits .xor .i64 x y < 0 ↔ (¬ (x < 0 ↔ y < 0))) ∧ -9223372036854775808 ≤ bits .xor .i64 x y ∧ bits .xor .i64 x y ≤ 9223372036854775807 := by
  have e : bits .xor .i64 x y = (BitVec.ofInt 64 x ^^^ BitVec.ofInt 64 y).toInt := wrap_bv _
  refine ⟨?_, ?_⟩
  · have m := BitVec.msb_eq_toInt (x := BitVec.ofInt 64 x ^^^ BitVec.ofInt 64 y)
    rw [BitVec.msb_xor, ofInt_neg x h0.1 h0.2, ofInt_neg y h1.1 h1.2, ← e] at m
    by_cases a : x < 0 <;> by_cases b : y < 0 <;> simp [a, b] at m ⊢ <;> omega
  · rw [e]; have := BitVec.le_toInt (BitVec.ofInt 64 x ^^^ BitVec.ofInt 64 y); have := BitVec.toInt_lt (x := BitVec.ofInt 64 x ^^^ BitVec.ofInt 64 y); omega
theorem i64and_neg (x y : Int) (h0 : -9223372036854775808 ≤ x ∧ x ≤ 9223372036854775807) (h1 : -9223372036854775808 ≤ y ∧ y ≤ 9223372036854775807) :
    (bits .and .i64 x y < 0 ↔ (x < 0 ∧ y < 0)) := by
  have e : bits .and .i64 x y = (BitVec.ofInt 64 x &&& BitVec.ofInt 64 y).toInt := wrap_bv _
  have m := BitVec.msb_eq_toInt (x := BitVec.ofInt 64 x &&& BitVec.ofInt 64 y)
  rw [BitVec.msb_and, ofInt_neg x h0.1 h0.2, ofInt_neg y h1.1 h1.2, ← e] at m
  by_cases a : x < 0 <;> by_cases b : y < 0 <;> simp [a, b] at m ⊢ <;> omega
/-- The sign test of a sum. -/
theorem over_test (a b h : Int) (ha : -9223372036854775808 ≤ a ∧ a ≤ 9223372036854775807) (hb : -9223372036854775808 ≤ b ∧ b ≤ 9223372036854775807) (hh : -9223372036854775808 ≤ h ∧ h ≤ 9223372036854775807) :
    bits .and .i64 (bits .xor .i64 a h) (bits .xor .i64 b h) < 0 ↔ (¬ (a < 0 ↔ h < 0)) ∧ (¬ (b < 0 ↔ h < 0)) := by
  have p := i64xor_neg a h ha hh
  have q := i64xor_neg b h hb hh
  rw [i64and_neg _ _ p.2 q.2, p.1, q.1]
theorem u64or_add (x y : Int) (k : Nat) (hk : k ≤ 64) (x0 : 0 ≤ x) (x1 : x < (2 : Int) ^ k) (y0 : 0 ≤ y) (y1 : y < 18446744073709551616) (hy : y % (2 : Int) ^ k = 0) : bits .or .u64 x y = y + x := by
  obtain ⟨n, rfl⟩ := Int.eq_ofNat_of_zero_le x0
  obtain ⟨m, rfl⟩ := Int.eq_ofNat_of_zero_le y0
  have x1' : n < 2 ^ k := by exact_mod_cast x1
  have hy' : m % 2 ^ k = 0 := by exact_mod_cast hy
  have lt : 2 ^ k ≤ 2 ^ 64 := Nat.pow_le_pow_right (by omega) hk
  have e1 : (BitVec.ofInt 64 (n : Int)).toNat = n := by rw [BitVec.ofInt_natCast, BitVec.toNat_ofNat]; exact Nat.mod_eq_of_lt (by omega)
  have e2 : (BitVec.ofInt 64 (m : Int)).toNat = m := by rw [BitVec.ofInt_natCast, BitVec.toNat_ofNat]; exact Nat.mod_eq_of_lt (by omega)
  have lo : (BitVec.ofInt 64 (n : Int) ||| BitVec.ofInt 64 (m : Int)).toNat < 2 ^ 64 := BitVec.isLt _
  show IntKind.u64.wrap ((BitVec.ofInt 64 (n : Int) ||| BitVec.ofInt 64 (m : Int)).toNat : Nat) = _
  rw [IntKind.wrap_u64]
  rw [BitVec.toNat_or, e1, e2] at lo ⊢
  have hm : m = 2 ^ k * (m / 2 ^ k) := by have := Nat.div_add_mod m (2 ^ k); omega
  have e3 : n ||| m = m + n := by
    rw [Nat.or_comm]
    conv => lhs; rw [hm]
    rw [← Nat.two_pow_add_eq_or_of_lt x1']
    omega
  rw [e3] at lo ⊢
  omega
end Go.Proofs.Ytgehbebjgmeccaa.K
